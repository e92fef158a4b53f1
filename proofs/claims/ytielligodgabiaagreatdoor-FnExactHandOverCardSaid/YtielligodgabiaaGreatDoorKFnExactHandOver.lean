/- Plain laws that the law FnExactHandOver rests on. -/
import Derived.Test.YtielligodgabiaaGreatDoorPx0
import Derived.Test.YtielligodgabiaaGreatDoorV0
import Derived.Test.YtielligodgabiaaGreatDoorHB2
import Derived.Test.YtielligodgabiaaGreatDoorHB3
import Derived.Laws.BitsAllLaws
import Derived.Laws.BitsLemmas
import Derived.Test.YtielligodgabiaaGreatDoorHB4
import Derived.Test.YtielligodgabiaaGreatDoorHB5
import Derived.Test.YtielligodgabiaaGreatDoorHB6
import Derived.Test.YtielligodgabiaaGreatDoorHA2
import Derived.Test.YtielligodgabiaaGreatDoorHA3
import Derived.Test.YtielligodgabiaaGreatDoorHA4
import Derived.Test.YtielligodgabiaaGreatDoorHA5
import Derived.Test.YtielligodgabiaaGreatDoorMW3
import Derived.Test.YtielligodgabiaaGreatDoorPx1
import Derived.Test.YtielligodgabiaaGreatDoorPx2
import Derived.Test.YtielligodgabiaaGreatDoorPx3
import Derived.Test.YtielligodgabiaaGreatDoorPx4
import Derived.Test.YtielligodgabiaaGreatDoorPx5
import Derived.Test.YtielligodgabiaaGreatDoorPx6
import Derived.Test.YtielligodgabiaaGreatDoorPx7
import Derived.Test.YtielligodgabiaaGreatDoorPx8
import Derived.Test.YtielligodgabiaaGreatDoorPx9
import Derived.Test.YtielligodgabiaaGreatDoorPx10
import Derived.Test.YtielligodgabiaaGreatDoorPx11
import Derived.Test.YtielligodgabiaaGreatDoorPx12
import Derived.Test.YtielligodgabiaaGreatDoorPx13
import Derived.Test.YtielligodgabiaaGreatDoorPx14
import Derived.Test.YtielligodgabiaaGreatDoorHB2
import Derived.Test.YtielligodgabiaaGreatDoorHB3
import Derived.Test.YtielligodgabiaaGreatDoorHB1
import Derived.Test.YtielligodgabiaaGreatDoorHB5
import Derived.Test.YtielligodgabiaaGreatDoorHB4
import Derived.Test.YtielligodgabiaaGreatDoorHB6
import Derived.Test.YtielligodgabiaaGreatDoorHA2
import Derived.Test.YtielligodgabiaaGreatDoorHA3
import Derived.Test.YtielligodgabiaaGreatDoorHA1
import Derived.Test.YtielligodgabiaaGreatDoorHA4
import Derived.Test.YtielligodgabiaaGreatDoorHA5
namespace Go.Proofs.YtielligodgabiaaGreatDoor.Pure
open Go.RowKit YtielligodgabiaaGreatDoorW.PrintWords YtielligodgabiaaGreatDoorW.PrintLast YtielligodgabiaaGreatDoorW.PrintMore YtielligodgabiaaGreatDoor.P YtielligodgabiaaGreatDoor.Kit
set_option linter.unusedVariables false
set_option linter.unusedSimpArgs false

theorem w64 {x : Int} (h1 : -9223372036854775808 ≤ x) (h2 : x ≤ 9223372036854775807) : wrap64 x = x := by unfold wrap64; omega
theorem dm (n : Nat) (h : n < 9223372036854775807) : wrap64 ((n : Int) + 1) = ((n + 1 : Nat) : Int) := by rw [w64 (by omega) (by omega)]; rfl
theorem Ev.pos {α : Type} {c : Prop} [Decidable c] {f g : Nat → Option α} {r : α} (hc : c) (h : Ev f r) : Ev (fun k => if c then f k else g k) r := by
  simpa only [za hc] using h
theorem Ev.neg {α : Type} {c : Prop} [Decidable c] {f g : Nat → Option α} {r : α} (hc : ¬ c) (h : Ev g r) : Ev (fun k => if c then f k else g k) r := by
  simpa only [Aa hc] using h
theorem Ev.const {α : Type} {o : Option α} {r : α} (h : o = some r) : Ev (fun _ => o) r := ⟨0, fun _ _ => h⟩
theorem Ev.then {α β : Type} {o : Option α} {f : Nat → α → Option β} {a : α} {r : β} (h : o = some a) (k : Ev (fun n => f n a) r) : Ev (fun n => o.bind (f n)) r := by
  subst h; exact k
/-- A loop that gJ up: what it answers at the end, it answers from the start. -/
theorem Ev.up {α : Type} {g : Nat → Nat → Option α} {r : α} (n : Nat) (hs : ∀ i, i < n → Ev (g (i + 1)) r → Ev (g i) r) (he : Ev (g n) r) (i : Nat) (hi : i ≤ n) : Ev (g i) r := by
  obtain ⟨d, rfl⟩ : ∃ d, n = i + d := ⟨n - i, by omega⟩
  induction d generalizing i with
  | zero => exact he
  | succ d ih =>
    refine hs i (by omega) (ih (i + 1) ?_ ?_ (by omega))
    · intro j hj h
      exact hs j (by omega) h
    · rw [show i + 1 + d = i + (d + 1) by omega]; exact he
/-- A loop that may stop early. -/
theorem Ev.upTo {α : Type} {g : Nat → Nat → Option α} {r : Nat → α} (n : Nat) (hs : ∀ i, i < n → Ev (g (i + 1)) (r (i + 1)) → Ev (g i) (r i)) (he : Ev (g n) (r n)) (i : Nat) (hi : i ≤ n) : Ev (g i) (r i) := by
  obtain ⟨d, rfl⟩ : ∃ d, n = i + d := ⟨n - i, by omega⟩
  induction d generalizing i with
  | zero => exact he
  | succ d ih =>
    refine hs i (by omega) (ih (i + 1) ?_ ?_ (by omega))
    · intro j hj h
      exact hs j (by omega) h
    · rw [show i + 1 + d = i + (d + 1) by omega]; exact he
/-- A loop that gJ up from a. -/
theorem Ev.upFrom {α : Type} {g : Nat → Nat → Option α} {r : α} (a n : Nat) (hs : ∀ i, a ≤ i → i < n → Ev (g (i + 1)) r → Ev (g i) r) (he : Ev (g n) r) (h : a ≤ n) : Ev (g a) r := by
  have := Ev.up (g := fun i => g (a + i)) (r := r) (n - a) (fun i hi h => hs (a + i) (by omega) (by omega) h) (by simpa only [show a + (n - a) = n by omega] using he) 0 (by omega)
  exact this
/-! lists -/
theorem jq (l : List Int) (i : Nat) : rd l (i : Int) = l.getD i 0 := by simp [rd]
theorem de (l : List Int) (i : Nat) (h : i < l.length) : rd l (i : Int) = l[i] := by simp [rd, List.getD_eq_getElem?_getD, List.getElem?_eq_getElem h]
theorem m5 {α : Type} (p : α → Bool) (l : List α) (i : Nat) (h : i < l.length) : (l.drop i).all p = (p l[i] && (l.drop (i + 1)).all p) := by
  rw [List.drop_eq_getElem_cons h, List.all_cons]
theorem fH {α : Type} (l : List α) (i : Nat) (h : i < l.length) : l.take i ++ [l[i]] = l.take (i + 1) := by simp
theorem kk (a b c : Int) : (if a ≥ b then (some (decide (a ≤ c))) else (some false)) = some (decide (b ≤ a ∧ a ≤ c)) := by
  by_cases h : a ≥ b
  · rw [za h]; congr 1; rw [decide_eq_decide]; constructor
    · intro h2; exact ⟨h, h2⟩
    · intro h2; exact h2.2
  · rw [Aa h]; congr 1; symm; rw [decide_eq_false_iff_not]; intro h2; exact h h2.1
theorem nz {α : Type} (l : List α) (d : α) (i : Nat) (h : i < l.length) : (l.take i ++ List.replicate (l.length - i) d).set i l[i] = l.take (i + 1) ++ List.replicate (l.length - (i + 1)) d := by
  apply List.ext_getElem
  · simp; omega
  · intro j h1 h2
    simp only [List.getElem_set, List.getElem_append, List.length_take, List.getElem_take, List.getElem_replicate]
    split
    · subst_vars
      rw [dif_pos (by omega)]
    · by_cases hj : j < i
      · rw [dif_pos (by omega), dif_pos (by omega)]
      · rw [dif_neg (by omega), dif_neg (by omega)]
/-- The first L bytes of S, the least first. -/
def ck (L S : Nat) : List Int := (List.range L).map fun j => ((S / 256 ^ j % 256 : Nat) : Int)
theorem eO (L S : Nat) : (ck L S).length = L := by simp [ck]
theorem d8 (L S j : Nat) (h : j < (ck L S).length) : (ck L S)[j] = ((S / 256 ^ j % 256 : Nat) : Int) := by simp [ck]
theorem nl (L : Nat) : ck L 0 = List.replicate L 0 := by
  apply List.ext_getElem
  · simp [ck]
  · intro j h1 h2
    rw [d8]; simp
theorem jF (L S : Nat) : ck L S ++ [((S / 256 ^ L % 256 : Nat) : Int)] = ck (L + 1) S := by simp [ck, List.range_succ]
theorem gh (j : Nat) : 256 ^ j = 2 ^ (8 * j) := by rw [Nat.pow_mul]
theorem qF {S P T b : Nat} (hP : 0 < P) (hS : S < P * T) (hT : T ≤ 128) (hb : b ≤ 1) : S / P % 256 + b * T = (S + b * (P * T)) / P % 256 := by
  have hq : S / P < T := Nat.div_lt_of_lt_mul hS
  have hb2 : b * T ≤ T := by
    have := Nat.mul_le_mul_right T hb
    omega
  rw [show b * (P * T) = P * (b * T) from Nat.mul_left_comm .., Nat.add_mul_div_left _ _ hP]
  obtain ⟨q, hq'⟩ : ∃ q, S / P = q := ⟨_, rfl⟩
  obtain ⟨u, hu⟩ : ∃ u, b * T = u := ⟨_, rfl⟩
  rw [hq'] at hq ⊢
  rw [hu] at hb2 ⊢
  rw [Nat.mod_eq_of_lt (show q < 256 by omega), Nat.mod_eq_of_lt (show q + u < 256 by omega)]
/-- Setting a bit above all others. -/
theorem nN (L S m b : Nat) (hS : S < 2 ^ m) (hb : b ≤ 1) :
    (ck L S).set (m / 8) ((((S / 256 ^ (m / 8)) % 256 + b * 2 ^ (m % 8) : Nat)) : Int) = ck L (S + b * 2 ^ m) := by
  have hmm : 2 ^ m = 256 ^ (m / 8) * 2 ^ (m % 8) := by rw [gh, ← Nat.pow_add]; congr 1; omega
  have h7 : 2 ^ (m % 8) ≤ 128 := by
    have : m % 8 ≤ 7 := by omega
    exact Nat.pow_le_pow_right (n := 2) (by omega) this
  apply List.ext_getElem
  · simp [ck]
  · intro j h1 h2
    rw [List.getElem_set, d8, d8]
    by_cases hj : m / 8 = j
    · rw [za hj]; subst hj
      congr 1
      rw [hmm]
      exact qF (Nat.pow_pos (by omega)) (by rw [← hmm]; exact hS) h7 hb
    · rw [Aa hj]
      congr 1
      by_cases hlt : j < m / 8
      · obtain ⟨d, hd⟩ : ∃ d, m / 8 = j + 1 + d := ⟨m / 8 - (j + 1), by omega⟩
        have e : b * 2 ^ m = 256 ^ j * (256 * (256 ^ d * (b * 2 ^ (m % 8)))) := by
          rw [hmm, hd, Nat.pow_add, Nat.pow_add]; simp only [Nat.pow_one, Nat.mul_assoc, Nat.mul_comm, Nat.mul_left_comm]
        rw [e, Nat.add_mul_div_left _ _ (Nat.pow_pos (by omega)), Nat.add_mul_mod_self_left]
      · have hle : 2 ^ (m + 1) ≤ 256 ^ j := by rw [gh]; exact Nat.pow_le_pow_right (by omega) (by omega)
        rw [Nat.pow_succ] at hle
        have hb2 : b * 2 ^ m ≤ 2 ^ m := by
          have := Nat.mul_le_mul_right (2 ^ m) hb
          omega
        rw [Nat.div_eq_of_lt (by omega), Nat.div_eq_of_lt (by omega)]
/-- Numbers of b bits, side by side, the first lowest. -/
def fO (b : Nat) : List Nat → Nat
  | [] => 0
  | x :: l => x + 2 ^ b * fO b l
theorem mf (b : Nat) (l : List Nat) (x : Nat) : fO b (l ++ [x]) = fO b l + 2 ^ (b * l.length) * x := by
  induction l with
  | nil => simp [fO]
  | cons a l ih =>
    simp only [List.cons_append, fO, ih, List.length_cons, Nat.mul_add, Nat.mul_succ, Nat.pow_add]
    rw [Nat.add_assoc]; congr 2
    rw [← Nat.mul_assoc, Nat.mul_comm (2 ^ b)]
theorem ou (b : Nat) (l : List Nat) (h : ∀ x ∈ l, x < 2 ^ b) : fO b l < 2 ^ (b * l.length) := by
  induction l with
  | nil => simp [fO]
  | cons a l ih =>
    have h1 := h a (List.mem_cons_self ..)
    have h2 := ih fun x hx => h x (List.mem_cons_of_mem _ hx)
    simp only [fO, List.length_cons, Nat.mul_succ, Nat.pow_add]
    have h3 : 2 ^ b * fO b l + 2 ^ b ≤ 2 ^ b * 2 ^ (b * l.length) := by
      rw [← Nat.mul_succ]; exact Nat.mul_le_mul_left _ h2
    rw [Nat.mul_comm (2 ^ (b * l.length))]
    omega
theorem kK (b : Nat) (l : List Nat) (i : Nat) (h : i < l.length) : fO b (l.take (i + 1)) = fO b (l.take i) + 2 ^ (b * i) * l[i] := by
  rw [← List.take_append_getElem h, mf, List.length_take, Nat.min_eq_left (by omega)]
/-- The da of S of b bits each are what they are put together again. -/
theorem ny (b S n : Nat) : fO b ((List.range n).map fun i => S / 2 ^ (b * i) % 2 ^ b) = S % 2 ^ (b * n) := by
  induction n with
  | zero => simp [fO, Nat.mod_one]
  | succ n ih =>
    rw [List.range_succ, List.map_append, List.map_cons, List.map_nil, mf, ih, List.length_map, List.length_range, Nat.mul_succ, Nat.pow_add, Nat.mod_mul]
theorem nP (b : Nat) (l : List Nat) (h : ∀ x ∈ l, x < 2 ^ b) (i : Nat) (hi : i < l.length) : fO b l / 2 ^ (b * i) % 2 ^ b = l[i] := by
  induction l generalizing i with
  | nil => exact absurd hi (by simp)
  | cons a l ih =>
    have h1 := h a (List.mem_cons_self ..)
    cases i with
    | zero => simp only [fO, Nat.mul_zero, Nat.pow_zero, Nat.div_one, Nat.add_mul_mod_self_left, List.getElem_cons_zero]; exact Nat.mod_eq_of_lt h1
    | succ i =>
      have h2 := ih (fun x hx => h x (List.mem_cons_of_mem _ hx)) i (by simpa using hi)
      simp only [fO, List.getElem_cons_succ]
      rw [Nat.mul_succ, Nat.add_comm (b * i), Nat.pow_add, ← Nat.div_div_eq_div_mul, Nat.add_mul_div_left _ _ (Nat.two_pow_pos b), Nat.div_eq_of_lt h1, Nat.zero_add]
      exact h2
/-- The number that bytes write. -/
def dc (s : ByteArray) : Nat := fO 8 (s.data.toList.map UInt8.toNat)
theorem om (s : ByteArray) : dc s < 256 ^ s.size := by
  have h := ou 8 (s.data.toList.map UInt8.toNat) (by
    intro x hx
    obtain ⟨c, _, rfl⟩ := List.mem_map.mp hx
    exact c.toNat_lt)
  rw [List.length_map, Array.length_toList, Nat.pow_mul] at h
  exact h
theorem mh (s : ByteArray) (j : Nat) (h : j < s.size) : bt s (j : Int) = ((dc s / 256 ^ j % 256 : Nat) : Int) := by
  have h2 := nP 8 (s.data.toList.map UInt8.toNat) (by
    intro x hx
    obtain ⟨c, _, rfl⟩ := List.mem_map.mp hx
    exact c.toNat_lt) j (by simpa using h)
  rw [Nat.pow_mul] at h2
  unfold dc
  rw [show (256 : Nat) = 2 ^ 8 from rfl, h2]
  unfold bt
  rw [dif_pos (by simpa using h)]
  simp
  rfl
theorem im (xs : List Int) (i : Nat) (h : i < (strOfNums xs).size) : (strOfNums xs)[i] = UInt8.ofNat (xs[i]'(by simpa [strOfNums_size] using h)).toNat := by
  simp [strOfNums, ByteArray.getElem_eq_getElem_data]
theorem eU {s t : ByteArray} (h : s.data.toList = t.data.toList) : s = t := by
  cases s; cases t; congr 1; exact Array.toList_inj.mp h
theorem mt {s t : ByteArray} : s.toList = t.toList ↔ s = t := by
  constructor
  · intro h
    refine eU ?_
    simpa [← ByteArray.toList_eq] using h
  · rintro rfl; rfl
theorem kO (s : ByteArray) : strOfNums (ck s.size (dc s)) = s := by
  refine eU ?_
  rw [strOfNums_data]
  apply List.ext_getElem
  · simp [ck]
  · intro j h1 h2
    have hj : j < s.size := by simpa [ck] using h1
    have h3 := mh s j hj
    rw [List.getElem_map, d8, ← h3]
    unfold bt
    rw [dif_pos (by simpa using hj)]
    simp
    rfl
theorem o3 {L S T : Nat} (hS : S < 256 ^ L) (hT : T < 256 ^ L) (h : strOfNums (ck L S) = strOfNums (ck L T)) : S = T := by
  have key : ∀ L S T : Nat, S < 256 ^ L → T < 256 ^ L → (∀ j, j < L → S / 256 ^ j % 256 = T / 256 ^ j % 256) → S = T := by
    intro L
    induction L with
    | zero => intro S T h1 h2 _; simp at h1 h2; omega
    | succ L ih =>
      intro S T h1 h2 h3
      have e0 := h3 0 (by omega)
      simp only [Nat.pow_zero, Nat.div_one] at e0
      have e1 := ih (S / 256) (T / 256) (by rw [Nat.pow_succ] at h1; omega) (by rw [Nat.pow_succ] at h2; omega) (fun j hj => by
        have := h3 (j + 1) (by omega)
        rw [Nat.pow_succ, Nat.mul_comm, ← Nat.div_div_eq_div_mul, ← Nat.div_div_eq_div_mul] at this
        exact this)
      omega
  refine key L S T hS hT fun j hj => ?_
  have h4 := congrArg (fun s : ByteArray => s.data.toList[j]?) h
  simp only [strOfNums_data] at h4
  rw [List.getElem?_eq_getElem (by simpa [ck] using hj), List.getElem?_eq_getElem (by simpa [ck] using hj), List.getElem_map, List.getElem_map, d8, d8] at h4
  injection h4 with h4
  have h5 := congrArg UInt8.toNat h4
  rw [Int.toNat_natCast, Int.toNat_natCast] at h5
  simpa using h5
def EqQ (x y : Int) : Prop := x % 3329 = y % 3329
theorem EqQ.refl (x : Int) : EqQ x x := rfl
theorem EqQ.of {x y : Int} (h : x = y) : EqQ x y := by rw [h]; exact EqQ.refl y
theorem EqQ.symm {x y : Int} (h : EqQ x y) : EqQ y x := Eq.symm h
theorem EqQ.trans {x y z : Int} (h : EqQ x y) (k : EqQ y z) : EqQ x z := Eq.trans h k
theorem EqQ.mod (x : Int) : EqQ (x % 3329) x := Int.emod_emod_of_dvd _ (Int.dvd_refl _)
theorem EqQ.neg {x y : Int} (h : EqQ x y) : EqQ (-x) (-y) := by unfold EqQ at *; omega
theorem EqQ.mul {x y z w : Int} (h : EqQ x y) (k : EqQ z w) : EqQ (x * z) (y * w) := by
  unfold EqQ at *
  rw [Int.mul_emod, h, k, ← Int.mul_emod]
theorem EqQ.eqm {x y : Int} (h : EqQ x y) : x % 3329 = y % 3329 := h
theorem fh (x : Int) : 0 ≤ x % 3329 ∧ x % 3329 ≤ 3328 := by omega
theorem ff (a b c : Int) : aW.f a b c = some (decide (b ≤ a ∧ a ≤ c)) := kk a b c
theorem l6 (a b c : Int) : bO.f a b c = some (decide (b ≤ a ∧ a ≤ c)) := kk a b c
theorem rq {i : Nat} (h : i ≤ 62) : (2 : Int) ^ i ≤ 4611686018427387904 := by
  have := Nat.pow_le_pow_right (n := 2) (by omega) h
  have h2 : ((2 ^ i : Nat) : Int) ≤ ((2 ^ 62 : Nat) : Int) := Int.ofNat_le.mpr this
  simpa using h2
theorem mi (i : Nat) : (0 : Int) < 2 ^ i := Int.pow_pos (by omega)
theorem eF (n : Int) (h : n ≤ 62) : Ev (fun k => av.f k n) (2 ^ n.toNat) := by
  unfold av.f
  refine Ev.up (g := fun i k => av.l0 k n (2 ^ i) (i : Int)) (r := (2 : Int) ^ n.toNat) n.toNat ?_ ?_ 0 (by omega)
  · intro i hi h'
    refine Ev.step (fun k => ?_) h'
    simp only [av.l0]
    have h1 := rq (i := i + 1) (by omega)
    have h2 := mi i
    rw [Int.pow_succ] at h1
    rw [za (by omega), dm i (by omega), w64 (by omega) (by omega), Int.pow_succ, Int.mul_comm]
  · refine Ev.step (f := fun _ => some ((2 : Int) ^ n.toNat)) (fun k => ?_) (Ev.now _)
    simp only [av.l0]
    rw [Aa (by omega)]
theorem mZ (x n : Int) (h : n ≤ 64) : shl .i64 x n = wrap64 (x * 2 ^ n.toNat) := by
  unfold shl
  rw [bB, show min n.toNat IntKind.i64.bits = n.toNat by simp [IntKind.bits]; omega]
theorem rX (x n : Int) (h : n ≤ 64) : shr .i64 x n = x / 2 ^ n.toNat := by
  unfold shr
  rw [show min n.toNat IntKind.i64.bits = n.toNat by simp [IntKind.bits]; omega]
def en (x d : Int) : Int := if (0 ≤ x ∧ x ≤ 3328) ∧ 1 ≤ d ∧ d ≤ 11 then (2 ^ d.toNat * x + 1664) / 3329 % 2 ^ d.toNat else 0
def fQ (y d : Int) : Int := if (1 ≤ d ∧ d ≤ 11) ∧ 0 ≤ y ∧ y ≤ 2 ^ d.toNat - 1 then (3329 * y + 2 ^ (d - 1).toNat) / 2 ^ d.toNat else 0
theorem gV {x d : Int} (hx : 0 ≤ x ∧ x ≤ 3328) (hd : 1 ≤ d ∧ d ≤ 11) : en x d = (2 ^ d.toNat * x + 1664) / 3329 % 2 ^ d.toNat := za ⟨hx, hd⟩
theorem fc {x d : Int} (h : ¬ ((0 ≤ x ∧ x ≤ 3328) ∧ 1 ≤ d ∧ d ≤ 11)) : en x d = 0 := Aa h
theorem jW {y d : Int} (hd : 1 ≤ d ∧ d ≤ 11) (hy : 0 ≤ y ∧ y ≤ 2 ^ d.toNat - 1) : fQ y d = (3329 * y + 2 ^ (d - 1).toNat) / 2 ^ d.toNat := za ⟨hd, hy⟩
theorem fE {y d : Int} (h : ¬ ((1 ≤ d ∧ d ≤ 11) ∧ 0 ≤ y ∧ y ≤ 2 ^ d.toNat - 1)) : fQ y d = 0 := Aa h
theorem d11 {d : Int} (h1 : 1 ≤ d) (h2 : d ≤ 11) : d = 1 ∨ d = 2 ∨ d = 3 ∨ d = 4 ∨ d = 5 ∨ d = 6 ∨ d = 7 ∨ d = 8 ∨ d = 9 ∨ d = 10 ∨ d = 11 := by omega
theorem mG {d : Int} (h1 : 1 ≤ d) (h2 : d ≤ 11) : (2 : Int) ≤ 2 ^ d.toNat ∧ (2 : Int) ^ d.toNat ≤ 2048 := by
  rcases d11 h1 h2 with rfl | rfl | rfl | rfl | rfl | rfl | rfl | rfl | rfl | rfl | rfl <;> decide
theorem ne {d : Int} (h1 : 1 ≤ d) : (2 : Int) ^ d.toNat = 2 * 2 ^ (d - 1).toNat := by
  rw [show d.toNat = (d - 1).toNat + 1 by omega, Int.pow_succ, Int.mul_comm]
theorem kB {t x : Int} (ht0 : 0 ≤ t) (ht : t ≤ 2048) (h0 : 0 ≤ x) (h1 : x ≤ 3328) : 0 ≤ t * x ∧ t * x ≤ 6815744 := by
  refine ⟨Int.mul_nonneg ht0 h0, ?_⟩
  have := Int.mul_le_mul ht h1 h0 (by omega)
  omega
theorem oJ {t x : Int} (h0 : 0 ≤ t * x) (h1 : t * x ≤ 6815744) : Int.tmod (wrap64 (Int.tdiv (wrap64 (t * x + 1664)) 3329)) t = (t * x + 1664) / 3329 % t := by
  rw [w64 (x := t * x + 1664) (by omega) (by omega), Int.tdiv_eq_ediv_of_nonneg (by omega), w64 (x := (t * x + 1664) / 3329) (by omega) (by omega), Int.tmod_eq_emod_of_nonneg (by omega)]
theorem qL {a y t : Int} (ht : 2 ≤ t) (h0 : 0 ≤ 3329 * y + a) (h1 : 3329 * y + a ≤ 1000000000) (hy : -1000000 ≤ y ∧ y ≤ 1000000) : wrap64 (Int.tdiv (wrap64 ((wrap64 (3329 * y)) + a)) t) = (3329 * y + a) / t := by
  rw [w64 (x := 3329 * y) (by omega) (by omega), w64 (x := 3329 * y + a) (by omega) (by omega), Int.tdiv_eq_ediv_of_nonneg (by omega)]
  have h2 := Int.ediv_nonneg (a := 3329 * y + a) (b := t) (by omega) (by omega)
  have h3 := Int.ediv_le_self (a := 3329 * y + a) t (by omega)
  exact w64 (by omega) (by omega)
theorem kg (x d : Int) : Ev (fun k => bv.f k x d) (en x d) := by
  unfold bv.f
  simp only [ff, Option.bind_some]
  by_cases hx : 0 ≤ x ∧ x ≤ 3328
  · refine Ev.pos (by simpa using hx) ?_
    by_cases hd : 1 ≤ d ∧ d ≤ 11
    · rw [gV hx hd]
      have hb := mG hd.1 hd.2
      have hm := kB (by omega) hb.2 hx.1 hx.2
      refine Ev.step (f := fun k => (av.f k d).bind fun t103 => ((av.f k d).bind fun t104 => (if t104 = 0 then (none) else (some (Int.tmod (wrap64 (Int.tdiv (wrap64 ((wrap64 (t103 * x)) + 1664)) 3329)) t104))))) (fun k => ?_) ?_
      · simp only [bv.j0]
        rw [Aa (by simpa using hd)]
      · refine Ev.bind (eF d (by omega)) (Ev.bind (eF d (by omega)) (Ev.neg (by omega) (Ev.const ?_)))
        rw [w64 (x := 2 ^ d.toNat * x) (by omega) (by omega), oJ (by omega) (by omega)]
    · rw [fc (fun h => hd h.2)]
      refine Ev.step (f := fun _ => some 0) (fun k => ?_) (Ev.now _)
      simp only [bv.j0]
      rw [za (by rw [ua hd]; rfl)]
  · rw [fc (fun h => hx h.1)]
    refine Ev.neg (by simpa using hx) ?_
    refine Ev.step (f := fun _ => some 0) (fun k => ?_) (Ev.now _)
    simp only [bv.j0, if_true]
theorem jZ (x d : Int) : dT.f x d = some (en x d) := by
  unfold dT.f
  simp only [l6, Option.bind_some]
  by_cases hx : 0 ≤ x ∧ x ≤ 3328
  · rw [za (by simpa using hx)]
    by_cases hd : 1 ≤ d ∧ d ≤ 11
    · have hb := mG hd.1 hd.2
      have hm := kB (by omega) hb.2 hx.1 hx.2
      rw [gV hx hd, za (ta hd), za (by omega), mZ _ _ (by omega), mZ _ _ (by omega), Int.one_mul, Int.mul_comm x,
        w64 (x := 2 ^ d.toNat) (by omega) (by omega), Aa (by omega), w64 (x := 2 ^ d.toNat * x) (by omega) (by omega), oJ (by omega) (by omega)]
    · rw [fc (fun h => hd h.2), Aa (by rw [ua hd]; decide)]
  · rw [fc (fun h => hx h.1), Aa (by rw [ua hx]; decide)]
theorem ka (y d : Int) : Ev (fun k => bw.f k y d) (fQ y d) := by
  unfold bw.f
  simp only [ff, Option.bind_some]
  by_cases hd : 1 ≤ d ∧ d ≤ 11
  · have hb := mG hd.1 hd.2
    have hh := ne hd.1
    refine Ev.pos (by simpa using hd) (Ev.bind (eF d (by omega)) ?_)
    rw [w64 (by omega) (by omega)]
    by_cases hy : 0 ≤ y ∧ y ≤ 2 ^ d.toNat - 1
    · rw [jW hd hy]
      refine Ev.step (f := fun k => (av.f k (wrap64 (d - 1))).bind fun t112 => ((av.f k d).bind fun t113 => (if t113 = 0 then (none) else (some (wrap64 (Int.tdiv (wrap64 ((wrap64 (3329 * y)) + t112)) t113)))))) (fun k => ?_) ?_
      · simp only [bw.j0]
        rw [Aa (by simpa using hy)]
      · rw [w64 (x := d - 1) (by omega) (by omega)]
        refine Ev.bind (eF (d - 1) (by omega)) (Ev.bind (eF d (by omega)) (Ev.neg (by omega) (Ev.const ?_)))
        rw [qL (by omega) (by omega) (by omega) (by omega)]
    · rw [fE (fun h => hy h.2)]
      refine Ev.step (f := fun _ => some 0) (fun k => ?_) (Ev.now _)
      simp only [bw.j0]
      rw [za (by rw [ua hy]; rfl)]
  · rw [fE (fun h => hd h.1)]
    refine Ev.neg (by simpa using hd) ?_
    refine Ev.step (f := fun _ => some 0) (fun k => ?_) (Ev.now _)
    simp only [bw.j0, if_true]
theorem kf (y d : Int) : dR.f y d = some (fQ y d) := by
  unfold dR.f
  simp only [l6, Option.bind_some]
  by_cases hd : 1 ≤ d ∧ d ≤ 11
  · have hb := mG hd.1 hd.2
    have hh := ne hd.1
    rw [za (by simpa using hd), za (by omega), mZ 1 d (by omega), Int.one_mul, w64 (x := 2 ^ d.toNat) (by omega) (by omega), w64 (x := 2 ^ d.toNat - 1) (by omega) (by omega), w64 (x := d - 1) (by omega) (by omega)]
    by_cases hy : 0 ≤ y ∧ y ≤ 2 ^ d.toNat - 1
    · rw [jW hd hy, za (ta hy), za (by omega), mZ 1 (d - 1) (by omega), rX _ d (by omega), Int.one_mul, w64 (x := 2 ^ (d - 1).toNat) (by omega) (by omega), w64 (x := 3329 * y) (by omega) (by omega), w64 (by omega) (by omega)]
    · rw [fE (fun h => hy h.2), Aa (by rw [ua hy]; decide)]
  · rw [fE (fun h => hd h.1), Aa (by rw [ua hd]; decide)]
def inQ (x : Int) : Bool := decide (0 ≤ x ∧ x ≤ 3328)
def df (l : List Int) : Bool := decide (l.length = 256) && l.all inQ
theorem n7 {l : List Int} (h : df l = true) : l.length = 256 := by
  unfold df at h; rw [Bool.and_eq_true] at h; exact of_decide_eq_true h.1
theorem n8 {l : List Int} (h : df l = true) {x : Int} (hx : x ∈ l) : 0 ≤ x ∧ x ≤ 3328 := by
  unfold df at h; rw [Bool.and_eq_true] at h
  exact of_decide_eq_true (List.all_eq_true.mp h.2 x hx)
theorem od {l : List Int} (h : df l = true) (i : Nat) (hi : i < l.length) : 0 ≤ l[i] ∧ l[i] ≤ 3328 := n8 h (List.getElem_mem hi)
theorem o0 {l : List Int} (h : l.length = 256) (hx : ∀ x ∈ l, 0 ≤ x ∧ x ≤ 3328) : df l = true := by
  unfold df; rw [Bool.and_eq_true]
  exact ⟨ta h, List.all_eq_true.mpr fun x hm => ta (hx x hm)⟩
theorem bZ (l : List Int) : Ev (fun k => ar.f k l) (df l) := by
  unfold ar.f df
  by_cases hl : l.length = 256
  · refine Ev.pos (by omega) ?_
    rw [ta hl, Bool.true_and]
    refine Ev.upTo (g := fun i k => ar.l0 k l (i : Int)) (r := fun i => (l.drop i).all inQ) l.length ?_ ?_ 0 (by omega)
    · intro i hi h
      simp only [m5 inQ l i hi]
      cases hb : inQ l[i] with
      | true =>
        rw [Bool.true_and]
        refine Ev.step (fun k => ?_) h
        simp only [ar.l0, ff, Option.bind_some]
        rw [za (by omega), za (by omega), de l i hi, za (show decide (0 ≤ l[i] ∧ l[i] ≤ 3328) = true from hb), dm i (by omega)]
      | false =>
        rw [Bool.false_and]
        refine Ev.step (f := fun _ => some false) (fun k => ?_) (Ev.now _)
        simp only [ar.l0, ff, Option.bind_some]
        rw [za (by omega), za (by omega), de l i hi, Aa (by unfold inQ at hb; rw [hb]; decide)]
    · refine Ev.step (f := fun _ => some ((l.drop l.length).all inQ)) (fun k => ?_) (Ev.now _)
      simp only [ar.l0]
      rw [Aa (by omega)]
      simp
  · refine Ev.neg (by omega) ?_
    rw [ua hl, Bool.false_and]
    exact Ev.now _
theorem cf (l : List Int) (hl : l.length ≤ 35184372088832) : Ev (fun k => aG.f k l) (df l) := by
  unfold aG.f df
  have h := Ev.upTo (g := fun i k => aG.l0 k l l (l.length : Int) (i : Int)) (r := fun i => decide (l.length = 256) && (l.drop i).all inQ) l.length ?_ ?_ 0 (by omega)
  · simpa using h
  · intro i hi h
    simp only [m5 inQ l i hi]
    cases hb : inQ l[i] with
    | true =>
      rw [Bool.true_and]
      refine Ev.step (fun k => ?_) h
      simp only [aG.l0, l6, Option.bind_some]
      rw [za (by omega), za (by omega), za (by omega), de l i hi, za (show decide (0 ≤ l[i] ∧ l[i] ≤ 3328) = true from hb), dm i (by omega)]
    | false =>
      rw [Bool.false_and, Bool.and_false]
      refine Ev.step (f := fun _ => some false) (fun k => ?_) (Ev.now _)
      simp only [aG.l0, l6, Option.bind_some]
      rw [za (by omega), za (by omega), za (by omega), de l i hi, Aa (by unfold inQ at hb; rw [hb]; decide)]
  · refine Ev.step (f := fun _ => some (decide (l.length = 256) && (l.drop l.length).all inQ)) (fun k => ?_) (Ev.now _)
    simp only [aG.l0]
    rw [Aa (by omega)]
    simp
    by_cases h : l.length = 256
    · rw [ta h, h]; rfl
    · rw [ua h]; rw [beq_eq_false_iff_ne]; omega
def vec (f : Nat → Int) : List Int := (List.range 256).map f
theorem bi (f : Nat → Int) : (vec f).length = 256 := by simp [vec]
theorem fk (f : Nat → Int) (i : Nat) (h : i < (vec f).length) : (vec f)[i] = f i := by simp [vec]
theorem dv (f : Nat → Int) (i : Nat) (h : i < 256) : rd (vec f) (i : Int) = f i := by rw [de _ _ (by rw [bi]; exact h), fk]
theorem dZ {f g : Nat → Int} (h : ∀ i, i < 256 → f i = g i) : vec f = vec g := by
  apply List.ext_getElem
  · rw [bi, bi]
  · intro i h1 h2
    rw [fk, fk]
    exact h i (by rw [bi] at h1; exact h1)
theorem eZ (f : Nat → Int) (n : Nat) (v : Int) : (vec f).set n v = vec fun i => if i = n then v else f i := by
  apply List.ext_getElem
  · rw [List.length_set, bi, bi]
  · intro i h1 h2
    rw [List.getElem_set, fk, fk]
    by_cases h : n = i
    · rw [za h, za h.symm]
    · rw [Aa h, Aa (fun e => h e.symm)]
theorem rF {l : List Int} (h : l.length = 256) : l = vec fun i => rd l i := by
  apply List.ext_getElem
  · rw [bi, h]
  · intro i h1 h2
    rw [fk, de l i h1]
theorem iw (d : Int) : List.replicate 256 d = vec fun _ => d := by
  apply List.ext_getElem
  · rw [bi, List.length_replicate]
  · intro i h1 h2
    rw [fk, List.getElem_replicate]
theorem fD {f : Nat → Int} (h : ∀ i, i < 256 → 0 ≤ f i ∧ f i ≤ 3328) : df (vec f) = true := by
  refine o0 (bi f) fun x hx => ?_
  obtain ⟨i, hi, rfl⟩ := List.mem_map.mp hx
  exact h i (List.mem_range.mp hi)
theorem nD {f : Nat → Int} (h : df (vec f) = true) (i : Nat) (hi : i < 256) : 0 ≤ f i ∧ f i ≤ 3328 := by
  have := od h i (by rw [bi]; exact hi)
  rwa [fk] at this
/-- A right polynomial is 256 numbers in their range. -/
theorem pE {l : List Int} (h : df l = true) : ∃ f, l = vec f ∧ ∀ i, i < 256 → 0 ≤ f i ∧ f i ≤ 3328 := by
  have e := rF (n7 h)
  refine ⟨_, e, fun i hi => ?_⟩
  rw [e] at h
  exact nD h i hi
/-- The same, each place 0 beyond the last. -/
theorem fK {l : List Int} (h : df l = true) : ∃ f, l = vec f ∧ ∀ i, 0 ≤ f i ∧ f i ≤ 3328 := by
  obtain ⟨f, rfl, hf⟩ := pE h
  refine ⟨fun i => if i < 256 then f i else 0, dZ fun i hi => (za hi).symm, fun i => ?_⟩
  show 0 ≤ (if i < 256 then f i else 0) ∧ (if i < 256 then f i else 0) ≤ 3328
  split
  · exact hf i ‹_›
  · omega
theorem fG (n : Int) (h1 : -9223372036854775808 ≤ n) (h2 : n ≤ 9223372036854775807) : bS.f n = some (n % 3329) := by
  unfold bS.f
  congr 1
  by_cases h : 0 ≤ n
  · rw [Int.tmod_eq_emod_of_nonneg h, w64 (by omega) (by omega), Int.tmod_eq_emod_of_nonneg (by omega)]
    omega
  · have e : Int.tmod n 3329 = -((-n) % 3329) := by
      have := Int.neg_tmod (-n) 3329
      rw [Int.neg_neg] at this
      rw [this, Int.tmod_eq_emod_of_nonneg (by omega)]
    rw [e, w64 (by omega) (by omega), Int.tmod_eq_emod_of_nonneg (by omega)]
    omega
theorem fa {x y : Int} (hx : 0 ≤ x ∧ x ≤ 3328) (hy : 0 ≤ y ∧ y ≤ 3328) : 0 ≤ x * y ∧ x * y ≤ 11075584 := by
  refine ⟨Int.mul_nonneg hx.1 hy.1, ?_⟩
  have := Int.mul_le_mul hx.2 hy.2 hy.1 (by omega)
  omega
theorem j4 (a b : Nat → Int) (ha : ∀ i, 0 ≤ a i ∧ a i ≤ 3328) (hb : ∀ i, 0 ≤ b i ∧ b i ≤ 3328) : Ev (fun k => bF.f k (vec a) (vec b)) (vec fun i => (a i + b i) % 3329) := by
  have key : Ev (fun k => ah.f k (vec a) (vec b)) (vec fun i => (a i + b i) % 3329) := by
    unfold ah.f
    have oka := fD (f := a) fun i _ => ha i
    have okb := fD (f := b) fun i _ => hb i
    have la := bi a
    have lb := bi b
    refine Ev.bind (oka ▸ cf (vec a) (by omega)) (Ev.pos rfl (Ev.bind (okb ▸ cf (vec b) (by omega)) ?_))
    refine Ev.step (f := fun k => ah.l0 k (vec a) (vec b) (List.replicate 256 0) ((256 : Nat) : Int) 0) (fun k => ?_) ?_
    · simp only [ah.j0, Option.bind_some]
      rw [Aa (by decide), za (by omega), List.length_replicate]
    · rw [iw]
      have key := Ev.up (g := fun i k => ah.l0 k (vec a) (vec b) (vec fun n => if n < i then (a n + b n) % 3329 else 0) ((256 : Nat) : Int) (i : Int)) (r := vec fun i => (a i + b i) % 3329) 256 ?_ ?_ 0 (by omega)
      · have e : (vec fun _ => (0 : Int)) = vec fun n => if n < 0 then (a n + b n) % 3329 else 0 := dZ fun n _ => by rw [Aa (by omega)]
        rw [e]; exact key
      · intro i hi h
        refine Ev.step (fun k => ?_) h
        have h1 := ha i
        have h2 := hb i
        simp only [ah.l0, dH.f, Option.bind_some]
        rw [za (by omega), za (by omega), za (by omega), za (by omega), dv a i hi, dv b i hi, w64 (x := a i + b i) (by omega) (by omega), fG _ (by omega) (by omega), Option.bind_some, za (by rw [bi]; omega), Int.toNat_natCast, eZ, dm i (by omega)]
        have e : (vec fun n => if n = i then (a i + b i) % 3329 else if n < i then (a n + b n) % 3329 else 0) = vec fun n => if n < i + 1 then (a n + b n) % 3329 else 0 := by
          refine dZ fun n _ => ?_
          by_cases h1 : n = i
          · subst h1; rw [za rfl, za (by omega)]
          · rw [Aa h1]
            by_cases h2 : n < i
            · rw [za h2, za (by omega)]
            · rw [Aa h2, Aa (by omega)]
        rw [e]
      · refine Ev.step (f := fun _ => some (vec fun i => (a i + b i) % 3329)) (fun k => ?_) (Ev.now _)
        simp only [ah.l0]
        rw [Aa (by omega)]
        exact congrArg some (dZ fun n hn => za hn)
  unfold bF.f
  exact Ev.bind key (Ev.now _)
def kb (l : List Int) : List Nat := l.map Int.toNat
theorem gZ (l : List Int) : (kb l).length = l.length := by simp [kb]
def eV (b : Nat) (l : List Int) : ByteArray := strOfNums (ck ((l.length * b + 7) / 8) (fO b (kb l)))
def gM (b : Nat) (x : Int) : Bool := decide (0 ≤ x ∧ x ≤ 2 ^ b - 1)
def oO (l : List Int) (b : Int) : ByteArray × Bool :=
  if (1 ≤ b ∧ b ≤ 12) ∧ l.all (gM b.toNat) = true then (eV b.toNat l, true) else (⟨#[]⟩, false)
theorem pl {b : Nat} {l : List Int} (h : l.all (gM b) = true) : ∀ x ∈ kb l, x < 2 ^ b := by
  intro x hx
  obtain ⟨y, hy, rfl⟩ := List.mem_map.mp hx
  have h2 := of_decide_eq_true (List.all_eq_true.mp h y hy)
  have h3 : ((2 ^ b : Nat) : Int) = (2 : Int) ^ b := by simp
  omega
/-- The first i numbers, as one. -/
def d4 (b : Nat) (l : List Int) (i : Nat) : Nat := fO b ((kb l).take i)
theorem jB (b : Nat) (l : List Int) (i : Nat) (h : i < l.length) : d4 b l (i + 1) = d4 b l i + 2 ^ (b * i) * l[i].toNat := by
  unfold d4
  rw [kK b (kb l) i (by rw [gZ]; exact h)]
  simp [kb]
theorem mu {b : Nat} {l : List Int} (h : l.all (gM b) = true) (i : Nat) (hi : i ≤ l.length) : d4 b l i < 2 ^ (b * i) := by
  have := ou b ((kb l).take i) fun x hx => pl h x (List.mem_of_mem_take hx)
  rw [List.length_take, gZ, Nat.min_eq_left hi] at this
  exact this
theorem mY (b : Nat) (l : List Int) : d4 b l l.length = fO b (kb l) := by
  unfold d4; rw [List.take_of_length_le (by rw [gZ]; exact wa _)]
theorem oN {b : Nat} {l : List Int} (h : l.all (gM b) = true) (i : Nat) (hi : i < l.length) : ∃ n : Nat, l[i] = (n : Int) ∧ n < 2 ^ b := by
  have h2 := of_decide_eq_true (List.all_eq_true.mp h l[i] (List.getElem_mem hi))
  have h3 : ((2 ^ b : Nat) : Int) = (2 : Int) ^ b := by simp
  exact ⟨l[i].toNat, by omega, by omega⟩
theorem lu (m c : Nat) : Int.tdiv (m : Int) (c : Int) = ((m / c : Nat) : Int) := by
  rw [Int.tdiv_eq_ediv_of_nonneg (by omega)]; rfl
theorem kI (m c : Nat) : Int.tmod (m : Int) (c : Int) = ((m % c : Nat) : Int) := by
  rw [Int.tmod_eq_emod_of_nonneg (by omega)]; rfl
theorem oV (m : Nat) : Int.tdiv (m : Int) 8 = ((m / 8 : Nat) : Int) := lu m 8
theorem rf (m : Nat) : Int.tmod (m : Int) 8 = ((m % 8 : Nat) : Int) := kI m 8
theorem gD (m : Nat) (h : m ≤ 9223372036854775807) : wrap64 (m : Int) = (m : Int) := w64 (by omega) (by omega)
theorem mQ (n : Nat) (h : n < 2 ^ 62) : Go.bits .and .i64 (n : Int) 1 = ((n % 2 : Nat) : Int) := by
  have := bits_mask .i64 63 (by decide) (fun n h0 h1 => by rw [IntKind.wrap_i64]; omega) 1 (by decide) (n : Int) (by omega) (by
    have : ((2 ^ 62 : Nat) : Int) = 2 ^ 62 := by simp
    omega)
  simpa using this
theorem ot (n : Nat) (h : n < 256) : Go.bits .and .u8 (n : Int) 1 = ((n % 2 : Nat) : Int) := by
  have := bits_mask .u8 8 (by decide) wraps_u8 1 (by decide) (n : Int) (by omega) (by omega)
  simpa using this
theorem pa (a t b : Nat) (ha : a < 2 ^ t) (ht : t ≤ 7) (hb : b ≤ 1) : Go.bits .or .u8 (a : Int) ((b * 2 ^ t : Nat) : Int) = ((a + b * 2 ^ t : Nat) : Int) := by
  have h7 : 2 ^ t ≤ 128 := Nat.pow_le_pow_right (n := 2) (by omega) ht
  have hb2 : b * 2 ^ t ≤ 2 ^ t := by
    have := Nat.mul_le_mul_right (2 ^ t) hb
    omega
  rw [(bits_nat .u8 8 (by decide) wraps_u8 a (b * 2 ^ t) (by omega) (by omega)).2, Nat.or_comm, Nat.mul_comm b, ← Nat.two_pow_add_eq_or_of_lt ha b, Nat.add_comm]
theorem nY (b t : Nat) (ht : t ≤ 7) (hb : b ≤ 1) : shl .u8 (b : Int) (t : Int) = ((b * 2 ^ t : Nat) : Int) := by
  have h7 : 2 ^ t ≤ 128 := Nat.pow_le_pow_right (n := 2) (by omega) ht
  have hb2 : b * 2 ^ t ≤ 2 ^ t := by
    have := Nat.mul_le_mul_right (2 ^ t) hb
    omega
  unfold shl
  rw [Int.toNat_natCast, show min t IntKind.u8.bits = t by simp [IntKind.bits]; omega, IntKind.wrap_u8]
  have : ((b * 2 ^ t : Nat) : Int) = (b : Int) * 2 ^ t := by simp
  omega
theorem kv (k : IntKind) (n t : Nat) (ht : t ≤ k.bits) : shr k (n : Int) (t : Int) = ((n / 2 ^ t : Nat) : Int) := by
  unfold shr
  rw [Int.toNat_natCast, Nat.min_eq_left ht]
  simp
theorem iW (x k : Nat) : x % 2 ^ (k + 1) = x % 2 ^ k + 2 ^ k * (x / 2 ^ k % 2) := by
  rw [Nat.pow_succ, Nat.mod_mul]
theorem n5 (L V b i j x : Nat) (hV : V < 2 ^ (b * i)) :
    (ck L (V + 2 ^ (b * i) * (x % 2 ^ j))).set ((i * b + j) / 8) (Go.bits .or .u8 (((V + 2 ^ (b * i) * (x % 2 ^ j)) / 256 ^ ((i * b + j) / 8) % 256 : Nat) : Int) (shl .u8 (((x / 2 ^ j % 2 : Nat) : Int) % 256) (((i * b + j) % 8 : Nat) : Int)))
      = ck L (V + 2 ^ (b * i) * (x % 2 ^ (j + 1))) := by
  obtain ⟨m, hm⟩ : ∃ m, i * b + j = m := ⟨_, rfl⟩
  have hmb : b * i + j = m := by rw [← hm, Nat.mul_comm]
  obtain ⟨S, hSe⟩ : ∃ S, V + 2 ^ (b * i) * (x % 2 ^ j) = S := ⟨_, rfl⟩
  obtain ⟨u, hu⟩ : ∃ u, x / 2 ^ j % 2 = u := ⟨_, rfl⟩
  have hu1 : u ≤ 1 := by omega
  have hS : S < 2 ^ m := by
    have h1 : x % 2 ^ j < 2 ^ j := Nat.mod_lt _ (Nat.two_pow_pos j)
    have h2 : 2 ^ (b * i) * (x % 2 ^ j) + 2 ^ (b * i) ≤ 2 ^ (b * i) * 2 ^ j := by rw [← Nat.mul_succ]; exact Nat.mul_le_mul_left _ h1
    rw [← hSe, ← hmb, Nat.pow_add]
    exact Nat.lt_of_lt_of_le (Nat.lt_of_lt_of_le (Nat.add_lt_add_right hV _) (by rw [Nat.add_comm]; exact wa _)) h2
  have hnext : V + 2 ^ (b * i) * (x % 2 ^ (j + 1)) = S + u * 2 ^ m := by
    rw [iW, Nat.mul_add, ← hSe, ← hmb, hu, Nat.pow_add, Nat.mul_comm u, Nat.mul_assoc, Nat.add_assoc]
  have hold : S / 256 ^ (m / 8) < 2 ^ (m % 8) := by
    rw [Nat.div_lt_iff_lt_mul (Nat.pow_pos (by omega)), gh, ← Nat.pow_add, show m % 8 + 8 * (m / 8) = m by omega]; exact hS
  have h128 : 2 ^ (m % 8) ≤ 128 := Nat.pow_le_pow_right (n := 2) (by omega) (show m % 8 ≤ 7 by omega)
  have hset := nN L S m u hS hu1
  rw [hm, hSe, hnext, hu, show ((u : Nat) : Int) % 256 = ((u : Nat) : Int) by omega, nY u (m % 8) (by omega) hu1, Nat.mod_eq_of_lt (Nat.lt_of_lt_of_le hold (Nat.le_trans h128 (by omega))), pa _ (m % 8) u hold (by omega) hu1]
  rw [Nat.mod_eq_of_lt (Nat.lt_of_lt_of_le hold (Nat.le_trans h128 (by omega)))] at hset
  exact hset
theorem kQ (l : List Int) (b : Nat) (hb1 : 1 ≤ b) (hb : b ≤ 12) (hl : l.length ≤ 1099511627776) (hf : l.all (gM b) = true) (i : Nat) (hi : i < l.length) {r : ByteArray}
    (h : Ev (fun k => ay.l0 k (b : Int) (ck ((l.length * b + 7) / 8) (d4 b l (i + 1))) l (l.length : Int) ((i + 1 : Nat) : Int)) r) :
    Ev (fun k => ay.l1 k (b : Int) (ck ((l.length * b + 7) / 8) (d4 b l i)) (i : Int) l[i] l (l.length : Int) (i : Int) (b : Int) 0) r := by
  obtain ⟨x, hx, hxb⟩ := oN hf i hi
  have hib : i * b + b ≤ l.length * b := by rw [← Nat.succ_mul]; exact Nat.mul_le_mul_right _ hi
  have hlb : l.length * b ≤ 13194139533312 := Nat.le_trans (Nat.mul_le_mul_left _ hb) (by omega)
  have hV := mu hf i (by omega)
  have h12 : 2 ^ b ≤ 4096 := Nat.pow_le_pow_right (n := 2) (by omega) hb
  have hx12 : x < 4096 := by omega
  have e := Ev.up (g := fun j k => ay.l1 k (b : Int) (ck ((l.length * b + 7) / 8) (d4 b l i + 2 ^ (b * i) * (x % 2 ^ j))) (i : Int) l[i] l (l.length : Int) (i : Int) (b : Int) (j : Int)) (r := r) b ?_ ?_ 0 (by omega)
  · simpa [Nat.mod_one] using e
  · intro j hj h'
    refine Ev.step (fun k => ?_) h'
    have n1 : i * b ≤ 9223372036854775807 := by clear hV hx h h12; omega
    have n2 : i * b + j ≤ 9223372036854775807 := by clear hV hx h h12; omega
    have n3 : (i * b + j) / 8 ≤ 9223372036854775807 := by clear hV hx h h12; omega
    have q0 : (i * b + j) / 8 < (l.length * b + 7) / 8 := by clear hV hx h h12; omega
    have q1 : (((i * b + j) / 8 : Nat) : Int) < (((l.length * b + 7) / 8 : Nat) : Int) := Int.ofNat_lt.mpr q0
    have j64 : j ≤ IntKind.i64.bits := by clear hV hx h h12; simp [IntKind.bits]; omega
    have jw := dm j (by clear hV hx h h12; omega)
    have e1 : wrap64 ((wrap64 ((i : Int) * (b : Int))) + (j : Int)) = ((i * b + j : Nat) : Int) := by
      have e0 : (i : Int) * (b : Int) = ((i * b : Nat) : Int) := by simp
      rw [e0, gD (i * b) n1]
      exact gD (i * b + j) n2
    have e2 : wrap64 (((i * b + j) / 8 : Nat) : Int) = (((i * b + j) / 8 : Nat) : Int) := gD _ n3
    have e3 : Go.bits .and .i64 ((x / 2 ^ j : Nat) : Int) 1 = ((x / 2 ^ j % 2 : Nat) : Int) := mQ _ (Nat.lt_of_le_of_lt (Nat.div_le_self _ _) (Nat.lt_trans hx12 (by decide)))
    have e4 := n5 ((l.length * b + 7) / 8) (d4 b l i) b i j x hV
    simp only [ay.l1]
    rw [e1, oV, rf, e2, za (Int.ofNat_lt.mpr hj), za (Int.natCast_nonneg _), za (by rw [eO]; exact q1), za (Int.natCast_nonneg _), za (Int.natCast_nonneg _), Int.toNat_natCast,
      de _ _ (by rw [eO]; exact q0), d8, hx, kv .i64 x j j64, e3, e4, jw]
  · refine Ev.step (f := fun k => ay.l0 k (b : Int) (ck ((l.length * b + 7) / 8) (d4 b l (i + 1))) l (l.length : Int) ((i + 1 : Nat) : Int)) (fun k => ?_) h
    simp only [ay.l1]
    rw [Aa (by omega), dm i (by omega), jB b l i hi, Nat.mod_eq_of_lt hxb, hx, Int.toNat_natCast]
theorem hU (l : List Int) (b : Nat) (hb1 : 1 ≤ b) (hb : b ≤ 12) (hl : l.length ≤ 1099511627776) (hf : l.all (gM b) = true) : Ev (fun k => ay.f k l (b : Int)) (eV b l) := by
  have hlb : l.length * b ≤ 13194139533312 := Nat.le_trans (Nat.mul_le_mul_left _ hb) (by omega)
  have e1 : wrap64 (Int.tdiv (wrap64 ((wrap64 ((l.length : Int) * (b : Int))) + 7)) 8) = (((l.length * b + 7) / 8 : Nat) : Int) := by
    have e0 : (l.length : Int) * (b : Int) = ((l.length * b : Nat) : Int) := by simp
    rw [e0, gD (l.length * b) (by omega), show ((l.length * b : Nat) : Int) + 7 = ((l.length * b + 7 : Nat) : Int) by omega, gD (l.length * b + 7) (by omega), oV, gD ((l.length * b + 7) / 8) (by omega)]
  unfold ay.f eV
  rw [e1, Int.toNat_natCast]
  refine Ev.pos (by omega) (Ev.pos (by omega) ?_)
  rw [← mY]
  have h := Ev.up (g := fun i k => ay.l0 k (b : Int) (ck ((l.length * b + 7) / 8) (d4 b l i)) l (l.length : Int) (i : Int)) (r := strOfNums (ck ((l.length * b + 7) / 8) (d4 b l l.length))) l.length ?_ ?_ 0 (by omega)
  · simpa [d4, fO, nl] using h
  · intro i hi h
    refine Ev.step (fun k => ?_) (kQ l b hb1 hb hl hf i hi h)
    simp only [ay.l0]
    rw [za (by omega), za (by omega), za (by omega), de l i hi]
  · refine Ev.step (f := fun _ => some (strOfNums (ck ((l.length * b + 7) / 8) (d4 b l l.length)))) (fun k => ?_) (Ev.now _)
    simp only [ay.l0]
    rw [Aa (by omega)]
theorem qh {α : Type} {p : α → Bool} {l : List α} (h : ¬ l.all p = true) : ∃ i, ∃ h : i < l.length, p l[i] = false := by
  rw [List.all_eq_true] at h
  simp only [Classical.not_forall] at h
  obtain ⟨x, hx, hp⟩ := h
  obtain ⟨i, hi, rfl⟩ := List.mem_iff_getElem.mp hx
  exact ⟨i, hi, by simpa using hp⟩
set_option maxHeartbeats 1000000 in
theorem mE (l : List Int) (b : Nat) (hb1 : 1 ≤ b) (hb : b ≤ 12) (hl : l.length ≤ 1099511627776) (hf : l.all (gM b) = true) (i : Nat) (hi : i < l.length) {r : ByteArray × Bool}
    (h : Ev (fun k => aX.l1 k l (b : Int) (ck (b * (i + 1) / 8) (d4 b l (i + 1))) ((d4 b l (i + 1) / 256 ^ (b * (i + 1) / 8) : Nat) : Int) ((b * (i + 1) % 8 : Nat) : Int) ((i + 1 : Nat) : Int)) r) :
    Ev (fun k => aX.l2 k l (b : Int) (ck (b * i / 8) (d4 b l (i + 1))) ((d4 b l (i + 1) / 256 ^ (b * i / 8) : Nat) : Int) ((b * (i + 1) - 8 * (b * i / 8) : Nat) : Int) (i : Int)) r := by
  have hlb : b * l.length ≤ 13194139533312 := Nat.le_trans (Nat.mul_le_mul_right _ hb) (by omega)
  have hib : b * (i + 1) ≤ b * l.length := Nat.mul_le_mul_left _ hi
  have hbs : b * (i + 1) = b * i + b := Nat.mul_succ b i
  have hV := mu hf (i + 1) (by omega)
  refine Ev.upFrom (g := fun p k => aX.l2 k l (b : Int) (ck p (d4 b l (i + 1))) ((d4 b l (i + 1) / 256 ^ p : Nat) : Int) ((b * (i + 1) - 8 * p : Nat) : Int) (i : Int)) (b * i / 8) (b * (i + 1) / 8) ?_ ?_ (by omega)
  · intro p hp0 hp h'
    refine Ev.step (fun k => ?_) h'
    have hsmall : d4 b l (i + 1) / 256 ^ p < 2 ^ 20 := by
      rw [Nat.div_lt_iff_lt_mul (Nat.pow_pos (by omega)), gh, ← Nat.pow_add]
      exact Nat.lt_of_lt_of_le hV (Nat.pow_le_pow_right (by omega) (by omega))
    have e1 : Int.tmod ((d4 b l (i + 1) / 256 ^ p : Nat) : Int) 256 % 256 = ((d4 b l (i + 1) / 256 ^ p % 256 : Nat) : Int) := by
      rw [show (256 : Int) = ((256 : Nat) : Int) from rfl, kI]; omega
    have e2 : wrap64 (Int.tdiv ((d4 b l (i + 1) / 256 ^ p : Nat) : Int) 256) = ((d4 b l (i + 1) / 256 ^ (p + 1) : Nat) : Int) := by
      rw [show (256 : Int) = ((256 : Nat) : Int) from rfl, lu, Nat.pow_succ, ← Nat.div_div_eq_div_mul, gD (d4 b l (i + 1) / 256 ^ p / 256) (by omega)]
    simp only [aX.l2]
    rw [za (by omega), za (by rw [eO]; omega), e1, e2, jF, w64 (by omega) (by omega)]
    congr 1
    omega
  · refine Ev.step (fun k => ?_) h
    simp only [aX.l2]
    rw [Aa (by omega), dm i (by omega)]
    congr 1
    omega
theorem mJ (l : List Int) (b : Int) (hl : l.length ≤ 1099511627776) : Ev (fun k => aX.f k l b) (oO l b) := by
  unfold aX.f oO
  simp only [ff, Option.bind_some]
  by_cases hb : 1 ≤ b ∧ b ≤ 12
  · refine Ev.pos (by simpa using hb) ?_
    obtain ⟨c, rfl⟩ : ∃ c : Nat, b = (c : Int) := ⟨b.toNat, by omega⟩
    rw [Int.toNat_natCast]
    have h12 : (2 : Int) ^ c ≤ 4096 := by
      have : ((2 ^ c : Nat) : Int) ≤ ((2 ^ 12 : Nat) : Int) := Int.ofNat_le.mpr (Nat.pow_le_pow_right (by omega) (by omega))
      simpa using this
    have h0 := mi c
    have es : wrap64 ((2 : Int) ^ c - 1) = 2 ^ c - 1 := w64 (by omega) (by omega)
    have e2 := eF (c : Int) (by omega)
    rw [Int.toNat_natCast] at e2
    by_cases hf : l.all (gM c) = true
    · rw [za ⟨hb, hf⟩]
      refine Ev.up (g := fun i k => aX.l0 k l (c : Int) (i : Int)) (r := (eV c l, true)) l.length ?_ ?_ 0 (by omega)
      · intro i hi h
        refine Ev.step (f := fun k => (av.f k (c : Int)).bind fun t148 => ((aW.f (rd l (i : Int)) 0 (wrap64 (t148 - 1))).bind fun t149 => (if t149 = true then (aX.l0 k l (c : Int) (wrap64 ((i : Int) + 1))) else (some ((⟨#[]⟩ : ByteArray), false))))) (fun k => ?_) ?_
        · simp only [aX.l0]
          rw [za (by omega), za (by omega)]
        · refine Ev.bind e2 ?_
          simp only [es, ff, Option.bind_some]
          rw [de l i hi, dm i (by omega)]
          exact Ev.pos (List.all_eq_true.mp hf _ (List.getElem_mem hi)) h
      · refine Ev.step (f := fun k => aX.l1 k l (c : Int) (([] : List Int)) 0 0 0) (fun k => ?_) ?_
        · simp only [aX.l0]
          rw [Aa (by omega)]
        · have key := Ev.up (g := fun i k => aX.l1 k l (c : Int) (ck (c * i / 8) (d4 c l i)) ((d4 c l i / 256 ^ (c * i / 8) : Nat) : Int) ((c * i % 8 : Nat) : Int) (i : Int)) (r := (eV c l, true)) l.length ?_ ?_ 0 (by omega)
          · simpa [d4, fO, ck] using key
          · intro i hi h
            have hlb : c * l.length ≤ 13194139533312 := Nat.le_trans (Nat.mul_le_mul_right l.length (show c ≤ 12 by omega)) (by omega)
            have hib : c * (i + 1) ≤ c * l.length := Nat.mul_le_mul_left _ hi
            have hbs : c * (i + 1) = c * i + c := Nat.mul_succ c i
            obtain ⟨x, hx, hxb⟩ := oN hf i hi
            have hV := mu hf i (by omega)
            have hq : d4 c l i / 256 ^ (c * i / 8) < 2 ^ (c * i % 8) := by
              rw [Nat.div_lt_iff_lt_mul (Nat.pow_pos (by omega)), gh, ← Nat.pow_add, show c * i % 8 + 8 * (c * i / 8) = c * i by omega]; exact hV
            have h128 : 2 ^ (c * i % 8) ≤ 128 := Nat.pow_le_pow_right (n := 2) (by omega) (show c * i % 8 ≤ 7 by omega)
            have h4096 : 2 ^ c ≤ 4096 := Nat.pow_le_pow_right (n := 2) (by omega) (show c ≤ 12 by omega)
            have hxc : x * 2 ^ (c * i % 8) ≤ 4096 * 128 := Nat.mul_le_mul (by omega) h128
            have ed : d4 c l (i + 1) / 256 ^ (c * i / 8) = d4 c l i / 256 ^ (c * i / 8) + x * 2 ^ (c * i % 8) := by
              have : 2 ^ (c * i) = 256 ^ (c * i / 8) * 2 ^ (c * i % 8) := by rw [gh, ← Nat.pow_add]; congr 1; omega
              rw [jB c l i hi, hx, Int.toNat_natCast, this, Nat.mul_assoc, Nat.add_mul_div_left _ _ (Nat.pow_pos (by omega)), Nat.mul_comm x]
            have eb : ck (c * i / 8) (d4 c l i) = ck (c * i / 8) (d4 c l (i + 1)) := by
              apply List.ext_getElem
              · simp [ck]
              · intro j h1 h2
                rw [d8, d8]
                congr 1
                have hj : j < c * i / 8 := by simpa [ck] using h1
                rw [jB c l i hi]
                obtain ⟨d, hd⟩ : ∃ d, c * i = 8 * (j + 1) + d := ⟨c * i - 8 * (j + 1), by omega⟩
                have : 2 ^ (c * i) * l[i].toNat = 256 ^ j * (256 * (2 ^ d * l[i].toNat)) := by
                  rw [hd, Nat.pow_add, ← gh, Nat.pow_succ]; simp only [Nat.mul_assoc]
                rw [this, Nat.add_mul_div_left _ _ (Nat.pow_pos (by omega)), Nat.add_mul_mod_self_left]
            have e3 := eF ((c * i % 8 : Nat) : Int) (by omega)
            rw [Int.toNat_natCast] at e3
            refine Ev.step (f := fun k => (av.f k ((c * i % 8 : Nat) : Int)).bind fun t157 => (aX.l2 k l (c : Int) (ck (c * i / 8) (d4 c l i)) (wrap64 (((d4 c l i / 256 ^ (c * i / 8) : Nat) : Int) + (wrap64 ((rd l (i : Int)) * t157)))) (wrap64 (((c * i % 8 : Nat) : Int) + (c : Int))) (i : Int))) (fun k => ?_) (Ev.bind e3 ?_)
            · simp only [aX.l1]
              rw [za (by omega), za (by omega)]
            · have h2 := mE l c (by omega) (by omega) hl hf i hi h
              have em : (x : Int) * 2 ^ (c * i % 8) = ((x * 2 ^ (c * i % 8) : Nat) : Int) := by simp
              rw [de l i hi, hx, em, gD (x * 2 ^ (c * i % 8)) (by omega), eb, w64 (x := ((d4 c l i / 256 ^ (c * i / 8) : Nat) : Int) + ((x * 2 ^ (c * i % 8) : Nat) : Int)) (by have hA := Int.natCast_nonneg (d4 c l i / 256 ^ (c * i / 8)); have hB := Int.natCast_nonneg (x * 2 ^ (c * i % 8)); omega) (by omega), w64 (x := ((c * i % 8 : Nat) : Int) + (c : Int)) (by omega) (by omega)]
              rw [ed] at h2
              refine Ev.congr (fun k => ?_) h2
              congr 1
              omega
          · have hlb : c * l.length ≤ 13194139533312 := Nat.le_trans (Nat.mul_le_mul_right l.length (show c ≤ 12 by omega)) (by omega)
            have hmc : l.length * c = c * l.length := Nat.mul_comm _ _
            unfold eV
            rw [← mY]
            by_cases h8 : c * l.length % 8 = 0
            · refine Ev.step (f := fun _ => some (strOfNums (ck (c * l.length / 8) (d4 c l l.length)), true)) (fun k => ?_) ?_
              · simp only [aX.l1]
                rw [Aa (by omega), Aa (by omega)]
              · rw [show (l.length * c + 7) / 8 = c * l.length / 8 by omega]; exact Ev.now _
            · refine Ev.step (f := fun _ => some (strOfNums (ck (c * l.length / 8 + 1) (d4 c l l.length)), true)) (fun k => ?_) ?_
              · simp only [aX.l1]
                rw [Aa (by omega), za (by omega), za (by rw [eO]; omega), ← jF]
                rfl
              · rw [show (l.length * c + 7) / 8 = c * l.length / 8 + 1 by omega]; exact Ev.now _
    · rw [Aa (fun h => hf h.2)]
      obtain ⟨n, hn, hbad⟩ := qh hf
      have step : ∀ i, (hi : i < l.length) → ∀ {r : ByteArray × Bool}, Ev (fun k => if gM c l[i] = true then aX.l0 k l (c : Int) ((i + 1 : Nat) : Int) else some ((⟨#[]⟩ : ByteArray), false)) r → Ev (fun k => aX.l0 k l (c : Int) (i : Int)) r := by
        intro i hi r h
        refine Ev.step (f := fun k => (av.f k (c : Int)).bind fun t148 => ((aW.f (rd l (i : Int)) 0 (wrap64 (t148 - 1))).bind fun t149 => (if t149 = true then (aX.l0 k l (c : Int) (wrap64 ((i : Int) + 1))) else (some ((⟨#[]⟩ : ByteArray), false))))) (fun k => ?_) ?_
        · simp only [aX.l0]
          rw [za (by omega), za (by omega)]
        · refine Ev.bind e2 ?_
          simp only [es, ff, Option.bind_some]
          rw [de l i hi, dm i (by omega)]
          exact h
      refine Ev.up (g := fun i k => aX.l0 k l (c : Int) (i : Int)) n ?_ (step n hn (Ev.neg (by rw [hbad]; decide) (Ev.now _))) 0 (by omega)
      intro i hi h
      refine step i (by omega) ?_
      by_cases hfi : gM c (l[i]'(by omega)) = true
      · exact Ev.pos hfi h
      · exact Ev.neg hfi (Ev.now _)
  · rw [Aa (fun h => hb h.1)]
    exact Ev.neg (by simpa using hb) (Ev.now _)
def da (b S n : Nat) : List Int := (List.range n).map fun i => ((S / 2 ^ (b * i) % 2 ^ b : Nat) : Int)
theorem eL (b S n : Nat) : (da b S n).length = n := by simp [da]
theorem jX (b S n : Nat) : da b S (n + 1) = da b S n ++ [((S / 2 ^ (b * n) % 2 ^ b : Nat) : Int)] := by simp [da, List.range_succ]
theorem nH (b S n : Nat) : (da b S n).all (gM b) = true := by
  rw [List.all_eq_true]
  intro x hx
  obtain ⟨i, _, rfl⟩ := List.mem_map.mp hx
  refine ta ⟨by omega, ?_⟩
  have h1 : S / 2 ^ (b * i) % 2 ^ b < 2 ^ b := Nat.mod_lt _ (Nat.two_pow_pos b)
  have h3 : ((2 ^ b : Nat) : Int) = (2 : Int) ^ b := by simp
  omega
theorem n6 (b S n : Nat) : kb (da b S n) = (List.range n).map fun i => S / 2 ^ (b * i) % 2 ^ b := by
  unfold kb da
  rw [List.map_map]
  exact List.map_congr_left fun i _ => Int.toNat_natCast _
theorem nC (b S n : Nat) : fO b (kb (da b S n)) = S % 2 ^ (b * n) := by rw [n6, ny]
def eG (s : ByteArray) (b n : Int) : List Int × Bool :=
  if (1 ≤ b ∧ b ≤ 12) ∧ (0 ≤ n ∧ n ≤ 1000) ∧ s.size = (n.toNat * b.toNat + 7) / 8 then
    if dc s < 2 ^ (b.toNat * n.toNat) then (da b.toNat (dc s) n.toNat, true) else ([], false)
  else ([], false)
theorem mX (S m u : Nat) (h : u ≤ m) : S % 2 ^ m / 2 ^ u = S / 2 ^ u % 2 ^ (m - u) := by
  rw [show (2 : Nat) ^ m = 2 ^ u * 2 ^ (m - u) by rw [← Nat.pow_add]; congr 1; omega, Nat.mod_mul_right_div_self]
theorem nr (S m u b : Nat) (h : u + b ≤ m) : S % 2 ^ m / 2 ^ u % 2 ^ b = S / 2 ^ u % 2 ^ b := by
  rw [mX S m u (by omega), Nat.mod_mod_of_dvd _ (Nat.pow_dvd_pow 2 (by omega))]
theorem pR {n b : Nat} (hn : n ≤ 1000) (hb : b ≤ 12) : wrap64 (Int.tdiv (wrap64 ((wrap64 ((n : Int) * (b : Int))) + 7)) 8) = (((n * b + 7) / 8 : Nat) : Int) := by
  have h : n * b ≤ 1000 * 12 := Nat.mul_le_mul hn hb
  have e0 : (n : Int) * (b : Int) = ((n * b : Nat) : Int) := by simp
  rw [e0, gD (n * b) (by omega), show ((n * b : Nat) : Int) + 7 = ((n * b + 7 : Nat) : Int) by omega, gD (n * b + 7) (by omega), oV, gD ((n * b + 7) / 8) (by omega)]
set_option maxHeartbeats 1000000 in
theorem kN (s : ByteArray) (b n : Nat) (hb1 : 1 ≤ b) (hb : b ≤ 12) (hn : n ≤ 1000) (hs : s.size = (n * b + 7) / 8) (i : Nat) (hi : i < n) {r : List Int × Bool}
    (h : Ev (fun k => az.l0 k s (b : Int) (n : Int) (da b (dc s) (i + 1)) ((dc s % 2 ^ (8 * ((b * (i + 1) + 7) / 8)) / 2 ^ (b * (i + 1)) : Nat) : Int) ((8 * ((b * (i + 1) + 7) / 8) - b * (i + 1) : Nat) : Int) (((b * (i + 1) + 7) / 8 : Nat) : Int) ((i + 1 : Nat) : Int)) r) :
    Ev (fun k => az.l1 k s (b : Int) (n : Int) (da b (dc s) i) ((dc s % 2 ^ (8 * ((b * i + 7) / 8)) / 2 ^ (b * i) : Nat) : Int) ((8 * ((b * i + 7) / 8) - b * i : Nat) : Int) (((b * i + 7) / 8 : Nat) : Int) (i : Int)) r := by
  have hbn : b * n ≤ 12 * 1000 := Nat.mul_le_mul hb hn
  have hib : b * (i + 1) ≤ b * n := Nat.mul_le_mul_left _ hi
  have hbs : b * (i + 1) = b * i + b := Nat.mul_succ b i
  have hmc : n * b = b * n := Nat.mul_comm _ _
  have e2 := eF (b : Int) (by omega)
  rw [Int.toNat_natCast] at e2
  have small : ∀ p, p ≤ (b * (i + 1) + 7) / 8 → dc s % 2 ^ (8 * p) / 2 ^ (b * i) < 2 ^ 20 := by
    intro p hp
    rw [Nat.div_lt_iff_lt_mul (Nat.two_pow_pos _), ← Nat.pow_add]
    exact Nat.lt_of_lt_of_le (Nat.mod_lt _ (Nat.two_pow_pos _)) (Nat.pow_le_pow_right (by omega) (by omega))
  refine Ev.upFrom (g := fun p k => az.l1 k s (b : Int) (n : Int) (da b (dc s) i) ((dc s % 2 ^ (8 * p) / 2 ^ (b * i) : Nat) : Int) ((8 * p - b * i : Nat) : Int) (p : Int) (i : Int)) ((b * i + 7) / 8) ((b * (i + 1) + 7) / 8) ?_ ?_ (by omega)
  · intro p hp0 hp h'
    have e3 := eF ((8 * p - b * i : Nat) : Int) (by omega)
    rw [Int.toNat_natCast] at e3
    refine Ev.step (f := fun k => (av.f k ((8 * p - b * i : Nat) : Int)).bind fun t193 => (az.l1 k s (b : Int) (n : Int) (da b (dc s) i) (wrap64 (((dc s % 2 ^ (8 * p) / 2 ^ (b * i) : Nat) : Int) + (wrap64 ((wrap64 (bt s (p : Int))) * t193)))) (wrap64 (((8 * p - b * i : Nat) : Int) + 8)) (wrap64 ((p : Int) + 1)) (i : Int))) (fun k => ?_) (Ev.bind e3 ?_)
    · simp only [az.l1]
      rw [za (by omega), za (by omega), za (by omega)]
    · have hsm := small (p + 1) (by omega)
      have eS : dc s % 2 ^ (8 * (p + 1)) / 2 ^ (b * i) = dc s % 2 ^ (8 * p) / 2 ^ (b * i) + dc s / 256 ^ p % 256 * 2 ^ (8 * p - b * i) := by
        rw [show 8 * (p + 1) = 8 * p + 8 by omega, Nat.pow_add, Nat.mod_mul, show (2 : Nat) ^ (8 * p) = 2 ^ (b * i) * 2 ^ (8 * p - b * i) by rw [← Nat.pow_add]; congr 1; omega]
        rw [Nat.mul_assoc (2 ^ (b * i)), Nat.add_mul_div_left _ _ (Nat.two_pow_pos _), ← Nat.pow_add, show b * i + (8 * p - b * i) = 8 * p by omega, ← gh, Nat.mul_comm (2 ^ (8 * p - b * i))]
      rw [mh s p (by omega), gD (dc s / 256 ^ p % 256) (by omega)]
      have em : ((dc s / 256 ^ p % 256 : Nat) : Int) * 2 ^ (8 * p - b * i) = ((dc s / 256 ^ p % 256 * 2 ^ (8 * p - b * i) : Nat) : Int) := by simp
      have hA := Int.natCast_nonneg (dc s % 2 ^ (8 * p) / 2 ^ (b * i))
      have hB := Int.natCast_nonneg (dc s / 256 ^ p % 256 * 2 ^ (8 * p - b * i))
      rw [em, gD (dc s / 256 ^ p % 256 * 2 ^ (8 * p - b * i)) (by omega), dm p (by omega)]
      rw [w64 (x := ((dc s % 2 ^ (8 * p) / 2 ^ (b * i) : Nat) : Int) + ((dc s / 256 ^ p % 256 * 2 ^ (8 * p - b * i) : Nat) : Int)) (by omega) (by omega), w64 (x := ((8 * p - b * i : Nat) : Int) + 8) (by omega) (by omega)]
      rw [eS] at h'
      refine Ev.congr (fun k => ?_) h'
      congr 1
      omega
  · have hsm := small ((b * (i + 1) + 7) / 8) (by omega)
    have h12 : (2 : Int) ^ b ≤ 4096 := by
      have : ((2 ^ b : Nat) : Int) ≤ ((2 ^ 12 : Nat) : Int) := Int.ofNat_le.mpr (Nat.pow_le_pow_right (by omega) (by omega))
      simpa using this
    have h0 := mi b
    refine Ev.step (f := fun k => ((av.f k (b : Int)).bind fun t194 => (if t194 = 0 then (none) else (if (da b (dc s) i).length < 17592186044416 then ((av.f k (b : Int)).bind fun t198 => (if t198 = 0 then (none) else (az.l0 k s (b : Int) (n : Int) (da b (dc s) i ++ [Int.tmod ((dc s % 2 ^ (8 * ((b * (i + 1) + 7) / 8)) / 2 ^ (b * i) : Nat) : Int) t194]) (wrap64 (Int.tdiv ((dc s % 2 ^ (8 * ((b * (i + 1) + 7) / 8)) / 2 ^ (b * i) : Nat) : Int) t198)) (wrap64 (((8 * ((b * (i + 1) + 7) / 8) - b * i : Nat) : Int) - (b : Int))) ((((b * (i + 1) + 7) / 8 : Nat) : Int)) (wrap64 ((i : Int) + 1))))) else (none))))) (fun k => ?_) ?_
    · simp only [az.l1]
      rw [Aa (by omega)]
    · refine Ev.bind e2 (Ev.neg (by omega) (Ev.pos (by rw [eL]; omega) (Ev.bind e2 (Ev.neg (by omega) ?_))))
      have ec : (2 : Int) ^ b = ((2 ^ b : Nat) : Int) := by simp
      rw [ec, kI, lu, nr _ _ _ _ (by omega), ← jX, Nat.div_div_eq_div_mul, ← Nat.pow_add, ← hbs, gD (dc s % 2 ^ (8 * ((b * (i + 1) + 7) / 8)) / 2 ^ (b * (i + 1))) (by
        have : dc s % 2 ^ (8 * ((b * (i + 1) + 7) / 8)) / 2 ^ (b * (i + 1)) ≤ dc s % 2 ^ (8 * ((b * (i + 1) + 7) / 8)) / 2 ^ (b * i) := Nat.div_le_div_left (Nat.pow_le_pow_right (by omega) (by omega)) (Nat.two_pow_pos _)
        omega), w64 (x := ((8 * ((b * (i + 1) + 7) / 8) - b * i : Nat) : Int) - (b : Int)) (by omega) (by omega), dm i (by omega)]
      refine Ev.congr (fun k => ?_) h
      congr 1
      omega
theorem kL (s : ByteArray) (b n : Int) : Ev (fun k => az.f k s b n) (eG s b n) := by
  unfold az.f eG
  simp only [ff, Option.bind_some]
  have bad : Ev (fun k => az.j0 k s b n [] true) (([] : List Int), false) := by
    refine Ev.step (f := fun _ => some ([], false)) (fun k => ?_) (Ev.now _)
    simp only [az.j0, if_true]
  by_cases hb : 1 ≤ b ∧ b ≤ 12
  · refine Ev.pos (by simpa using hb) ?_
    by_cases hn : 0 ≤ n ∧ n ≤ 1000
    · refine Ev.pos (by simpa using hn) ?_
      obtain ⟨c, rfl⟩ : ∃ c : Nat, b = (c : Int) := ⟨b.toNat, by omega⟩
      obtain ⟨m, rfl⟩ : ∃ c : Nat, n = (c : Int) := ⟨n.toNat, by omega⟩
      rw [Int.toNat_natCast, Int.toNat_natCast, pR (by omega) (by omega)]
      by_cases hs : s.size = (m * c + 7) / 8
      · rw [za ⟨hb, hn, hs⟩, show (((s.size : Int) != (((m * c + 7) / 8 : Nat) : Int)) = false) by rw [bne_eq_false_iff_eq, hs]]
        have hmc : m * c = c * m := Nat.mul_comm _ _
        refine Ev.step (f := fun k => az.l0 k s (c : Int) (m : Int) [] 0 0 0 0) (fun k => ?_) ?_
        · simp only [az.j0]
          rw [Aa (by decide)]
        · have key := Ev.up (g := fun i k => az.l0 k s (c : Int) (m : Int) (da c (dc s) i) ((dc s % 2 ^ (8 * ((c * i + 7) / 8)) / 2 ^ (c * i) : Nat) : Int) ((8 * ((c * i + 7) / 8) - c * i : Nat) : Int) (((c * i + 7) / 8 : Nat) : Int) (i : Int)) (r := if dc s < 2 ^ (c * m) then (da c (dc s) m, true) else ([], false)) m ?_ ?_ 0 (by omega)
          · simpa [da, Nat.mod_one] using key
          · intro i hi h
            refine Ev.step (fun k => ?_) (kN s c m (by omega) (by omega) (by omega) hs i hi h)
            simp only [az.l0]
            rw [za (by omega)]
          · have hlt := om s
            rw [gh, hs, hmc] at hlt
            have e1 : dc s % 2 ^ (8 * ((c * m + 7) / 8)) = dc s := Nat.mod_eq_of_lt hlt
            by_cases hq : dc s < 2 ^ (c * m)
            · rw [za hq]
              refine Ev.step (f := fun _ => some (da c (dc s) m, true)) (fun k => ?_) (Ev.now _)
              simp only [az.l0]
              rw [Aa (by omega), za (by rw [e1, Nat.div_eq_of_lt hq]; rfl)]
            · rw [Aa hq]
              refine Ev.step (f := fun _ => some ([], false)) (fun k => ?_) (Ev.now _)
              simp only [az.l0]
              have h2 : 0 < dc s / 2 ^ (c * m) := Nat.div_pos (by omega) (Nat.two_pow_pos _)
              rw [Aa (by omega), Aa (by rw [e1]; omega)]
      · rw [Aa (fun h => hs h.2.2), show (((s.size : Int) != (((m * c + 7) / 8 : Nat) : Int)) = true) by rw [bne_iff_ne]; omega]
        exact bad
    · rw [Aa (fun h => hn h.2.1)]
      exact Ev.neg (by simpa using hn) bad
  · rw [Aa (fun h => hb h.1)]
    exact Ev.neg (by simpa using hb) bad
theorem nM (a t b : Nat) (ha : a < 2 ^ t) (ht : t ≤ 60) (hb : b ≤ 1) : Go.bits .or .i64 (a : Int) ((b * 2 ^ t : Nat) : Int) = ((a + b * 2 ^ t : Nat) : Int) := by
  have h7 : 2 ^ t ≤ 2 ^ 60 := Nat.pow_le_pow_right (n := 2) (by omega) ht
  have hb2 : b * 2 ^ t ≤ 2 ^ t := by
    have := Nat.mul_le_mul_right (2 ^ t) hb
    omega
  rw [(bits_nat .i64 62 (by decide) (fun n h0 h1 => by rw [IntKind.wrap_i64]; omega) a (b * 2 ^ t) (by omega) (by omega)).2, Nat.or_comm, Nat.mul_comm b, ← Nat.two_pow_add_eq_or_of_lt ha b, Nat.add_comm]
theorem qP (S m : Nat) : S / 256 ^ (m / 8) % 256 / 2 ^ (m % 8) % 2 = S / 2 ^ m % 2 := by
  have h1 : (256 : Nat) = 2 ^ (m % 8) * 2 ^ (8 - m % 8) := by rw [← Nat.pow_add, show m % 8 + (8 - m % 8) = 8 by omega]
  have h2 : (2 : Nat) ^ (8 - m % 8) = 2 * 2 ^ (7 - m % 8) := by rw [show 8 - m % 8 = (7 - m % 8) + 1 by omega, Nat.pow_succ, Nat.mul_comm]
  conv => lhs; rw [show S / 256 ^ (m / 8) % 256 = S / 256 ^ (m / 8) % (2 ^ (m % 8) * 2 ^ (8 - m % 8)) by rw [← h1]]
  rw [Nat.mod_mul_right_div_self, h2, Nat.mod_mul_right_mod, Nat.div_div_eq_div_mul, gh, ← Nat.pow_add, show 8 * (m / 8) + m % 8 = m by omega]
theorem rZ (i c j : Nat) (h : c * i + j ≤ 4611686018427387904) : wrap64 ((wrap64 ((i : Int) * (c : Int))) + (j : Int)) = ((c * i + j : Nat) : Int) := by
  have e0 : (i : Int) * (c : Int) = ((c * i : Nat) : Int) := by rw [Nat.mul_comm]; simp
  rw [e0, gD (c * i) (by omega)]
  exact gD (c * i + j) (by omega)
theorem nX (S b i j : Nat) (hj : j ≤ 12) :
    Go.bits .or .i64 ((S / 2 ^ (b * i) % 2 ^ j : Nat) : Int) (shl .i64 (wrap64 (Go.bits .and .u8 (shr .u8 ((S / 256 ^ ((b * i + j) / 8) % 256 : Nat) : Int) (((b * i + j) % 8 : Nat) : Int)) 1)) (j : Int)) = ((S / 2 ^ (b * i) % 2 ^ (j + 1) : Nat) : Int) := by
  have e1 : shr .u8 ((S / 256 ^ ((b * i + j) / 8) % 256 : Nat) : Int) (((b * i + j) % 8 : Nat) : Int) = ((S / 256 ^ ((b * i + j) / 8) % 256 / 2 ^ ((b * i + j) % 8) : Nat) : Int) := kv .u8 _ _ (by simp [IntKind.bits]; omega)
  rw [e1, ot _ (Nat.lt_of_le_of_lt (Nat.div_le_self _ _) (Nat.mod_lt _ (by omega))), qP, iW, Nat.div_div_eq_div_mul, ← Nat.pow_add]
  have hlo : S / 2 ^ (b * i) % 2 ^ j < 2 ^ j := Nat.mod_lt _ (Nat.two_pow_pos j)
  have h12 : 2 ^ j ≤ 4096 := Nat.pow_le_pow_right (n := 2) (by omega) hj
  obtain ⟨u, hu⟩ : ∃ u, S / 2 ^ (b * i + j) % 2 = u := ⟨_, rfl⟩
  have hu1 : u ≤ 1 := by omega
  obtain ⟨q, hq⟩ : ∃ q, S / 2 ^ (b * i) % 2 ^ j = q := ⟨_, rfl⟩
  rw [hu, hq]
  rw [hq] at hlo
  have hb2 : u * 2 ^ j ≤ 4096 := Nat.le_trans (Nat.mul_le_mul_right (2 ^ j) hu1) (by omega)
  have hsh : shl .i64 (u : Int) (j : Int) = ((u * 2 ^ j : Nat) : Int) := by
    rw [mZ _ _ (by omega), Int.toNat_natCast]
    have em : (u : Int) * 2 ^ j = ((u * 2 ^ j : Nat) : Int) := by simp
    rw [em, gD (u * 2 ^ j) (by omega)]
  rw [gD u (by omega), hsh, nM q j u hlo (by omega) hu1, Nat.mul_comm u]
theorem lx (s : ByteArray) (b n : Int) : Ev (fun k => aH.f k s b n) (eG s b n) := by
  unfold aH.f eG
  simp only [l6, Option.bind_some]
  have bad : Ev (fun k => aH.j0 k s b n true) (([] : List Int), false) := by
    refine Ev.step (f := fun _ => some ([], false)) (fun k => ?_) (Ev.now _)
    simp only [aH.j0, if_true]
  by_cases hb : 1 ≤ b ∧ b ≤ 12
  · refine Ev.pos (by simpa using hb) ?_
    by_cases hn : 0 ≤ n ∧ n ≤ 1000
    · refine Ev.pos (by simpa using hn) ?_
      obtain ⟨c, rfl⟩ : ∃ c : Nat, b = (c : Int) := ⟨b.toNat, by omega⟩
      obtain ⟨m, rfl⟩ : ∃ c : Nat, n = (c : Int) := ⟨n.toNat, by omega⟩
      rw [Int.toNat_natCast, Int.toNat_natCast, pR (by omega) (by omega)]
      by_cases hs : s.size = (m * c + 7) / 8
      · rw [za ⟨hb, hn, hs⟩, show (((s.size : Int) != (((m * c + 7) / 8 : Nat) : Int)) = false) by rw [bne_eq_false_iff_eq, hs]]
        have hmc : m * c = c * m := Nat.mul_comm _ _
        have hbn : c * m ≤ 12 * 1000 := Nat.mul_le_mul (by omega) (by omega)
        refine Ev.step (f := fun k => aH.l0 k s (c : Int) [] (m : Int) 0) (fun k => ?_) ?_
        · simp only [aH.j0]
          rw [Aa (by decide)]
        · refine Ev.up (g := fun i k => aH.l0 k s (c : Int) (da c (dc s) i) (m : Int) (i : Int)) (r := if dc s < 2 ^ (c * m) then (da c (dc s) m, true) else ([], false)) m ?_ ?_ 0 (by omega)
          · intro i hi h
            have hib : c * (i + 1) ≤ c * m := Nat.mul_le_mul_left _ hi
            have hbs : c * (i + 1) = c * i + c := Nat.mul_succ c i
            have hic : i * c = c * i := Nat.mul_comm _ _
            refine Ev.step (f := fun k => aH.l1 k s (c : Int) (da c (dc s) i) (i : Int) 0 (m : Int) (i : Int) (c : Int) 0) (fun k => ?_) ?_
            · simp only [aH.l0]
              rw [za (by omega)]
            · have key := Ev.up (g := fun j k => aH.l1 k s (c : Int) (da c (dc s) i) (i : Int) ((dc s / 2 ^ (c * i) % 2 ^ j : Nat) : Int) (m : Int) (i : Int) (c : Int) (j : Int)) (r := if dc s < 2 ^ (c * m) then (da c (dc s) m, true) else ([], false)) c ?_ ?_ 0 (by omega)
              · simpa [Nat.mod_one] using key
              · intro j hj h'
                refine Ev.step (fun k => ?_) h'
                have n1 : c * i + j ≤ 4611686018427387904 := by omega
                have q0 : (c * i + j) / 8 < s.size := by omega
                have j12 : j ≤ 12 := by omega
                have n3 : (c * i + j) / 8 ≤ 9223372036854775807 := by omega
                have jw := dm j (by omega)
                have e1 := rZ i c j n1
                have e2 : wrap64 (((c * i + j) / 8 : Nat) : Int) = (((c * i + j) / 8 : Nat) : Int) := gD _ n3
                have e3 := mh s ((c * i + j) / 8) q0
                have e4 := nX (dc s) c i j j12
                simp only [aH.l1]
                rw [e1, oV, rf, e2, za (Int.ofNat_lt.mpr hj), za (Int.natCast_nonneg _), za (Int.ofNat_lt.mpr q0), za (Int.natCast_nonneg _), za (Int.natCast_nonneg _), e3, e4, jw]
              · refine Ev.step (fun k => ?_) h
                simp only [aH.l1]
                rw [Aa (by omega), za (by rw [eL]; omega), dm i (by omega), ← jX]
          · have hlt := om s
            have hpk : eV c (da c (dc s) m) = strOfNums (ck s.size (dc s % 2 ^ (c * m))) := by
              unfold eV
              rw [eL, nC, hs]
            have hp := hU (da c (dc s) m) c (by omega) (by omega) (by rw [eL]; omega) (nH _ _ _)
            rw [hpk] at hp
            refine Ev.step (f := fun k => (ay.f k (da c (dc s) m) (c : Int)).bind fun t125 => (if t125.toList = s.toList then (some (da c (dc s) m, true)) else (some (([] : List Int), false)))) (fun k => ?_) (Ev.bind hp ?_)
            · simp only [aH.l0]
              rw [Aa (by omega)]
            · by_cases hq : dc s < 2 ^ (c * m)
              · rw [za hq]
                refine Ev.pos ?_ (Ev.now _)
                rw [Nat.mod_eq_of_lt hq, kO]
              · rw [Aa hq]
                refine Ev.neg (fun h => hq ?_) (Ev.now _)
                rw [mt] at h
                have h2 : strOfNums (ck s.size (dc s % 2 ^ (c * m))) = strOfNums (ck s.size (dc s)) := h.trans (kO s).symm
                have h3 := o3 (Nat.lt_of_le_of_lt (Nat.mod_le _ _) hlt) hlt h2
                rw [← h3]
                exact Nat.mod_lt _ (Nat.two_pow_pos _)
      · rw [Aa (fun h => hs h.2.2), show (((s.size : Int) != (((m * c + 7) / 8 : Nat) : Int)) = true) by rw [bne_iff_ne]; omega]
        exact bad
    · rw [Aa (fun h => hn h.2.1)]
      exact Ev.neg (by simpa using hn) bad
  · rw [Aa (fun h => hb h.1)]
    exact Ev.neg (by simpa using hb) bad
def cK (s : ByteArray) : List Int × Bool := if (eG s 12 256).2 = true ∧ df (eG s 12 256).1 = true then ((eG s 12 256).1, true) else ([], false)
theorem jK (s : ByteArray) (b n : Int) : (eG s b n).1.length ≤ 1000 := by
  unfold eG
  split
  · split
    · rw [eL]; omega
    · simp
  · simp
theorem iC (s : ByteArray) : (cK s).1.length ≤ 1000 := by
  have := jK s 12 256
  unfold cK
  split
  · exact this
  · simp
theorem gu (s : ByteArray) : Ev (fun k => ca.f k s) (cK s) := by
  unfold ca.f cK
  refine Ev.bind (kL s 12 256) ?_
  by_cases h : (eG s 12 256).2 = true
  · refine Ev.pos h (Ev.bind (bZ _) ?_)
    by_cases h2 : df (eG s 12 256).1 = true
    · refine Ev.pos h2 ?_
      rw [za ⟨h, h2⟩]; exact Ev.now _
    · refine Ev.neg h2 ?_
      rw [Aa (fun h3 => h2 h3.2)]; exact Ev.now _
  · rw [Aa (fun h3 => h h3.1)]
    exact Ev.neg h (Ev.now _)
theorem gq (s : ByteArray) : Ev (fun k => cd.f k s) (cK s) := by
  unfold cd.f cK
  refine Ev.bind (lx s 12 256) ?_
  by_cases h : (eG s 12 256).2 = true
  · refine Ev.pos h (Ev.bind (cf _ (by have := jK s 12 256; omega)) ?_)
    by_cases h2 : df (eG s 12 256).1 = true
    · refine Ev.pos h2 ?_
      rw [za ⟨h, h2⟩]; exact Ev.now _
    · refine Ev.neg h2 ?_
      rw [Aa (fun h3 => h2 h3.2)]; exact Ev.now _
  · rw [Aa (fun h3 => h h3.1)]
    exact Ev.neg h (Ev.now _)
theorem EqQ.pow {x y : Int} (h : EqQ x y) (n : Nat) : EqQ (x ^ n) (y ^ n) := by
  induction n with
  | zero => rw [Int.pow_zero, Int.pow_zero]; exact EqQ.refl _
  | succ n ih => rw [Int.pow_succ, Int.pow_succ]; exact EqQ.mul ih h
theorem jb (b : Int) (e : Nat) : b ^ e = (b * b) ^ (e / 2) * b ^ (e % 2) := by
  have h1 : ∀ n : Nat, (b * b) ^ n = b ^ (2 * n) := by
    intro n
    induction n with
    | zero => rw [Nat.mul_zero, Int.pow_zero, Int.pow_zero]
    | succ n ih => rw [Int.pow_succ, ih, show 2 * (n + 1) = 2 * n + 1 + 1 by omega, Int.pow_succ, Int.pow_succ, Int.mul_assoc]
  rw [h1, ← Int.pow_add]
  congr 1
  omega
def pw (b : Int) (e : Nat) : Int := b ^ e % 3329
theorem q7 (b : Int) (e : Nat) : 0 ≤ pw b e ∧ pw b e ≤ 3328 := fh _
theorem g7 {x y : Int} (hx : 0 ≤ x ∧ x ≤ 3328) (hy : 0 ≤ y ∧ y ≤ 3328) : Int.tmod (wrap64 (x * y)) 3329 = x * y % 3329 := by
  have := fa hx hy
  rw [w64 (x := x * y) (by omega) (by omega), Int.tmod_eq_emod_of_nonneg (by omega)]
theorem iK (e : Nat) (h : e ≤ 1000000000) : wrap64 (Int.tdiv (e : Int) 2) = ((e / 2 : Nat) : Int) := by
  rw [Int.tdiv_eq_ediv_of_nonneg (by omega), w64 (by omega) (by omega)]; rfl
theorem lS (e : Nat) : Int.tmod (e : Int) 2 = ((e % 2 : Nat) : Int) := by
  rw [Int.tmod_eq_emod_of_nonneg (by omega)]; rfl
theorem mo (d : Nat) : ∀ (e : Nat) (b out : Int), e ≤ d → e ≤ 1000000000 → 0 ≤ b ∧ b ≤ 3328 → 0 ≤ out ∧ out ≤ 3328 → Ev (fun k => bs.l0 k b (e : Int) out) (out * b ^ e % 3329) := by
  induction d with
  | zero =>
    intro e b out hd _ hb ho
    obtain rfl : e = 0 := by omega
    refine Ev.step (f := fun _ => some (out * b ^ 0 % 3329)) (fun k => ?_) (Ev.now _)
    simp only [bs.l0]
    rw [Aa (by omega), Int.pow_zero, Int.mul_one, Int.emod_eq_of_lt ho.1 (by omega)]
  | succ d ih =>
    intro e b out hd he hb ho
    by_cases h0 : e = 0
    · subst h0
      refine Ev.step (f := fun _ => some (out * b ^ 0 % 3329)) (fun k => ?_) (Ev.now _)
      simp only [bs.l0]
      rw [Aa (by omega), Int.pow_zero, Int.mul_one, Int.emod_eq_of_lt ho.1 (by omega)]
    · by_cases h1 : e % 2 = 1
      · have h := ih (e / 2) (b * b % 3329) (out * b % 3329) (by omega) (by omega) (fh _) (fh _)
        have e1 : out * b % 3329 * (b * b % 3329) ^ (e / 2) % 3329 = out * b ^ e % 3329 := by
          refine EqQ.eqm ?_
          refine (EqQ.mul (EqQ.mod _) (EqQ.pow (EqQ.mod _) _)).trans (EqQ.of ?_)
          rw [jb b e, h1, Int.pow_one, Int.mul_assoc, Int.mul_comm b]
        rw [e1] at h
        refine Ev.step (fun k => ?_) h
        simp only [bs.l0]
        rw [za (by omega), lS, za (by omega), g7 hb hb, g7 ho hb, iK e he]
      · have h := ih (e / 2) (b * b % 3329) out (by omega) (by omega) (fh _) ho
        have e1 : out * (b * b % 3329) ^ (e / 2) % 3329 = out * b ^ e % 3329 := by
          refine EqQ.eqm ?_
          refine (EqQ.mul (EqQ.refl _) (EqQ.pow (EqQ.mod _) _)).trans (EqQ.of ?_)
          rw [jb b e, show e % 2 = 0 by omega, Int.pow_zero, Int.mul_one]
        rw [e1] at h
        refine Ev.step (fun k => ?_) h
        simp only [bs.l0]
        rw [za (by omega), lS, Aa (by omega), g7 hb hb, iK e he]
theorem mw (d : Nat) : ∀ (e : Nat) (b out : Int), e ≤ d → e ≤ 1000000000 → 0 ≤ b ∧ b ≤ 3328 → 0 ≤ out ∧ out ≤ 3328 → Ev (fun k => bh.l0 k b (e : Int) out) (out * b ^ e % 3329) := by
  induction d with
  | zero =>
    intro e b out hd _ hb ho
    obtain rfl : e = 0 := by omega
    refine Ev.step (f := fun _ => some (out * b ^ 0 % 3329)) (fun k => ?_) (Ev.now _)
    simp only [bh.l0]
    rw [Aa (by omega), Int.pow_zero, Int.mul_one, Int.emod_eq_of_lt ho.1 (by omega)]
  | succ d ih =>
    intro e b out hd he hb ho
    by_cases h0 : e = 0
    · subst h0
      refine Ev.step (f := fun _ => some (out * b ^ 0 % 3329)) (fun k => ?_) (Ev.now _)
      simp only [bh.l0]
      rw [Aa (by omega), Int.pow_zero, Int.mul_one, Int.emod_eq_of_lt ho.1 (by omega)]
    · by_cases h1 : e % 2 = 1
      · have h := ih (e / 2) (b * b % 3329) (out * b % 3329) (by omega) (by omega) (fh _) (fh _)
        have e1 : out * b % 3329 * (b * b % 3329) ^ (e / 2) % 3329 = out * b ^ e % 3329 := by
          refine EqQ.eqm ?_
          refine (EqQ.mul (EqQ.mod _) (EqQ.pow (EqQ.mod _) _)).trans (EqQ.of ?_)
          rw [jb b e, h1, Int.pow_one, Int.mul_assoc, Int.mul_comm b]
        rw [e1] at h
        refine Ev.step (fun k => ?_) h
        simp only [bh.l0]
        rw [za (by omega), lS, za (by omega), g7 hb hb, g7 ho hb, iK e he]
      · have h := ih (e / 2) (b * b % 3329) out (by omega) (by omega) (fh _) ho
        have e1 : out * (b * b % 3329) ^ (e / 2) % 3329 = out * b ^ e % 3329 := by
          refine EqQ.eqm ?_
          refine (EqQ.mul (EqQ.refl _) (EqQ.pow (EqQ.mod _) _)).trans (EqQ.of ?_)
          rw [jb b e, show e % 2 = 0 by omega, Int.pow_zero, Int.mul_one]
        rw [e1] at h
        refine Ev.step (fun k => ?_) h
        simp only [bh.l0]
        rw [za (by omega), lS, Aa (by omega), g7 hb hb, iK e he]
theorem gF (b : Int) (hb : 0 ≤ b ∧ b ≤ 3328) (e : Nat) (he : e ≤ 1000000000) : Ev (fun k => bs.f k b (e : Int)) (pw b e) := by
  unfold bs.f
  simp only [l6, Option.bind_some]
  refine Ev.pos (ta ⟨by omega, by omega⟩) (Ev.then (fG b (by omega) (by omega)) ?_)
  have h := mo e e b 1 (wa _) he hb (by omega)
  rw [Int.one_mul] at h
  rw [Int.emod_eq_of_lt hb.1 (by omega)]
  exact h
theorem gI (b : Int) (hb : 0 ≤ b ∧ b ≤ 3328) (e : Nat) (he : e ≤ 1000000000) : Ev (fun k => bh.f k b (e : Int)) (pw b e) := by
  unfold bh.f
  simp only [ff, Option.bind_some]
  have hm : Int.tmod b 3329 = b := by rw [Int.tmod_eq_emod_of_nonneg hb.1, Int.emod_eq_of_lt hb.1 (by omega)]
  rw [hm]
  refine Ev.pos (ta ⟨by omega, by omega⟩) (Ev.neg (by omega) ?_)
  have h := mw e e b 1 (wa _) he hb (by omega)
  rw [Int.one_mul] at h
  refine Ev.step (fun k => ?_) h
  simp only [bh.j0]
/-- The first i of seven bits, turned around. -/
def t7s (n : Nat) : Nat → Nat
  | 0 => 0
  | i + 1 => 2 * t7s n i + n / 2 ^ i % 2
theorem qb (n i : Nat) : t7s n i < 2 ^ i := by
  induction i with
  | zero => simp [t7s]
  | succ i ih => simp only [t7s, Nat.pow_succ]; omega
theorem mc (n : Nat) : t7s n 7 < 128 := qb n 7
theorem ry (n i : Nat) (h : i ≤ 7) : t7s n i ≤ 128 := by
  have h1 := qb n i
  have h2 : 2 ^ i ≤ 2 ^ 7 := Nat.pow_le_pow_right (by omega) h
  omega
theorem lN (n i : Nat) (h : i ≤ 7) : wrap64 ((wrap64 (2 * ((t7s n i : Nat) : Int))) + ((n / 2 ^ i % 2 : Nat) : Int)) = ((t7s n (i + 1) : Nat) : Int) := by
  have h1 := ry n i h
  have h2 : n / 2 ^ i % 2 ≤ 1 := by omega
  obtain ⟨u, hu⟩ : ∃ u, n / 2 ^ i % 2 = u := ⟨_, rfl⟩
  obtain ⟨v, hv⟩ : ∃ v, t7s n i = v := ⟨_, rfl⟩
  simp only [t7s]
  rw [hu] at h2 ⊢
  rw [hv] at h1 ⊢
  rw [w64 (x := 2 * (v : Int)) (by omega) (by omega), w64 (by omega) (by omega)]
  omega
theorem gj (n : Nat) (hn : n < 128) : Ev (fun k => bp.f k (n : Int)) ((t7s n 7 : Nat) : Int) := by
  unfold bp.f
  refine Ev.up (g := fun i k => bp.l0 k (n : Int) ((t7s n i : Nat) : Int) (i : Int)) 7 ?_ ?_ 0 (by omega)
  · intro i hi h
    refine Ev.step (fun k => ?_) h
    have e1 : shr .i64 (n : Int) (i : Int) = ((n / 2 ^ i : Nat) : Int) := kv .i64 n i (by simp [IntKind.bits]; omega)
    have e2 := mQ (n / 2 ^ i) (Nat.lt_of_le_of_lt (Nat.div_le_self _ _) (Nat.lt_trans hn (by decide)))
    have e3 := lN n i (Nat.le_of_lt hi)
    have e4 := dm i (Nat.lt_trans hi (by decide))
    simp only [bp.l0]
    rw [za (show (i : Int) < 7 from Int.ofNat_lt.mpr hi), za (Int.natCast_nonneg _), e1, e2, e3, e4]
  · refine Ev.step (f := fun _ => some ((t7s n 7 : Nat) : Int)) (fun k => ?_) (Ev.now _)
    simp only [bp.l0]
    rw [Aa (by omega)]
theorem gg (n : Nat) (hn : n < 128) : Ev (fun k => ba.f k (n : Int)) ((t7s n 7 : Nat) : Int) := by
  unfold ba.f
  have hm : Int.tmod (n : Int) 128 = (n : Int) := by rw [Int.tmod_eq_emod_of_nonneg (by omega), Int.emod_eq_of_lt (by omega) (by omega)]
  rw [hm]
  refine Ev.neg (by omega) ?_
  refine Ev.step (f := fun k => ba.l0 k (n : Int) 0 0) (fun k => ?_) ?_
  · simp only [ba.j0]
  · have key := Ev.up (g := fun i k => ba.l0 k ((n / 2 ^ i : Nat) : Int) ((t7s n i : Nat) : Int) (i : Int)) (r := ((t7s n 7 : Nat) : Int)) 7 ?_ ?_ 0 (by omega)
    · simpa [t7s] using key
    · intro i hi h
      refine Ev.step (fun k => ?_) h
      have e1 : Int.tmod ((n / 2 ^ i : Nat) : Int) 2 = ((n / 2 ^ i % 2 : Nat) : Int) := lS _
      have e2 := iK (n / 2 ^ i) (Nat.le_trans (Nat.div_le_self _ _) (Nat.le_trans (Nat.le_of_lt hn) (by decide)))
      have e3 := lN n i (Nat.le_of_lt hi)
      have e4 := dm i (Nat.lt_trans hi (by decide))
      have e5 : n / 2 ^ i / 2 = n / 2 ^ (i + 1) := by rw [Nat.div_div_eq_div_mul, Nat.pow_succ]
      simp only [ba.l0]
      rw [za (show (i : Int) < 7 from Int.ofNat_lt.mpr hi), e1, e2, e3, e4, e5]
    · refine Ev.step (f := fun _ => some ((t7s n 7 : Nat) : Int)) (fun k => ?_) (Ev.now _)
      simp only [ba.l0]
      rw [Aa (by omega)]
/-- The powers of 17 that the transforms take. -/
def zed (n : Nat) : Int := pw 17 (t7s n 7)
theorem mH (n : Nat) : 0 ≤ zed n ∧ zed n ≤ 3328 := q7 _ _
theorem kd (a b : Nat) (h : a + b ≤ 100000) : wrap64 ((a : Int) + (b : Int)) = ((a + b : Nat) : Int) := by rw [w64 (by omega) (by omega)]; omega
theorem nO (a : Nat) (h : a ≤ 100000) : wrap64 (2 * (a : Int)) = ((2 * a : Nat) : Int) := by rw [w64 (by omega) (by omega)]; omega
theorem qW (a : Nat) (h : a ≤ 100000) : wrap64 (Int.tdiv (a : Int) 2) = ((a / 2 : Nat) : Int) := iK a (by omega)
theorem jh {x y : Int} (hx : 0 ≤ x ∧ x ≤ 3328) (hy : 0 ≤ y ∧ y ≤ 3328) : wrap64 (x * y) = x * y := by
  have := fa hx hy
  exact w64 (by omega) (by omega)
/-- A butterfly on the numbers from st on, s of them with the s behind; the first j of them done. -/
def bfp (z : Int) (s st j : Nat) (f : Nat → Int) : Nat → Int := fun n =>
  if st ≤ n ∧ n < st + j then (f n + z * f (n + s)) % 3329 else if st + s ≤ n ∧ n < st + s + j then (f (n - s) - z * f n) % 3329 else f n
theorem rk (z : Int) (s st : Nat) (f : Nat → Int) : bfp z s st 0 f = f := by
  funext n; unfold bfp; rw [Aa (by omega), Aa (by omega)]
theorem rx {z : Int} {s st j : Nat} {f : Nat → Int} (hf : ∀ i, 0 ≤ f i ∧ f i ≤ 3328) (n : Nat) : 0 ≤ bfp z s st j f n ∧ bfp z s st j f n ≤ 3328 := by
  unfold bfp
  split
  · exact fh _
  · split
    · exact fh _
    · exact hf n
theorem mr {z : Int} {s st j : Nat} {f : Nat → Int} (h : j < s) : bfp z s st j f (st + j) = f (st + j) := by
  unfold bfp; rw [Aa (by omega), Aa (by omega)]
theorem oF {z : Int} {s st j : Nat} {f : Nat → Int} : bfp z s st j f (st + j + s) = f (st + j + s) := by
  unfold bfp; rw [Aa (by omega), Aa (by omega)]
theorem np (z : Int) (s st j : Nat) (f : Nat → Int) (hj : j < s) : ((vec (bfp z s st j f)).set (st + j) ((f (st + j) + z * f (st + j + s)) % 3329)).set (st + j + s) ((f (st + j) - z * f (st + j + s)) % 3329) = vec (bfp z s st (j + 1) f) := by
  rw [eZ, eZ]
  refine dZ fun n _ => ?_
  by_cases h2 : n = st + j + s
  · subst h2
    rw [za rfl]
    unfold bfp
    rw [Aa (by omega), za (by omega), show st + j + s - s = st + j by omega]
  · rw [Aa h2]
    by_cases h1 : n = st + j
    · subst h1
      rw [za rfl]
      unfold bfp
      rw [za (by omega)]
    · rw [Aa h1]
      unfold bfp
      by_cases a : st ≤ n ∧ n < st + j
      · rw [za a, za (by omega)]
      · have a' : ¬ (st ≤ n ∧ n < st + (j + 1)) := by omega
        rw [Aa a, Aa a']
        by_cases b : st + s ≤ n ∧ n < st + s + j
        · rw [za b, za (show st + s ≤ n ∧ n < st + s + (j + 1) by omega)]
        · rw [Aa b, Aa (show ¬ (st + s ≤ n ∧ n < st + s + (j + 1)) by omega)]
theorem pk (z : Int) (s st j : Nat) (f : Nat → Int) (hs : 1 ≤ s) (A B : Int) : ((vec (bfp z s st j f)).set (st + j + s) B).set (st + j) A = ((vec (bfp z s st j f)).set (st + j) A).set (st + j + s) B :=
  List.set_comm _ _ (by omega)
/-- A layer: the first t butterflies of m, each of s and s numbers. -/
def lay (s m : Nat) : Nat → (Nat → Int) → Nat → Int
  | 0, f => f
  | t + 1, f => bfp (zed (m + t)) s (2 * s * t) s (lay s m t f)
theorem fm {s m : Nat} {f : Nat → Int} (hf : ∀ i, 0 ≤ f i ∧ f i ≤ 3328) (t : Nat) : ∀ n, 0 ≤ lay s m t f n ∧ lay s m t f n ≤ 3328 := by
  induction t with
  | zero => exact hf
  | succ t ih => exact fun n => rx ih n
def n9 (f : Nat → Int) : Nat → Int := lay 2 64 64 (lay 4 32 32 (lay 8 16 16 (lay 16 8 8 (lay 32 4 4 (lay 64 2 2 (lay 128 1 1 f))))))
theorem mT (f : Nat → Int) (hf : ∀ i, 0 ≤ f i ∧ f i ≤ 3328) (z : Int) (hz : 0 ≤ z ∧ z ≤ 3328) (s st : Nat) (K : Int) (hs : 1 ≤ s) (hst : st + 2 * s ≤ 256) {r : List Int}
    (h : Ev (fun k => aQ.l1 k (vec (bfp z s st s f)) K (s : Int) ((st + 2 * s : Nat) : Int)) r) : Ev (fun k => aQ.l2 k (vec f) K (s : Int) (st : Int) z (st : Int)) r := by
  have e0 : vec f = vec (bfp z s st 0 f) := by rw [rk]
  have w1 := kd st s (by omega)
  rw [e0]
  refine Ev.up (g := fun j k => aQ.l2 k (vec (bfp z s st j f)) K (s : Int) (st : Int) z ((st + j : Nat) : Int)) s ?_ ?_ 0 (by omega)
  · intro j hj h'
    refine Ev.step (fun k => ?_) h'
    have c1 : st + j < st + s := Nat.add_lt_add_left hj _
    have c2 : st + j + s < 256 := Nat.lt_of_lt_of_le (Nat.add_lt_add_right c1 s) (Nat.le_trans (by rw [Nat.two_mul, Nat.add_assoc]; exact wa _) hst)
    have c3 : st + j < 256 := Nat.lt_of_le_of_lt (Nat.le_add_right _ s) c2
    have w2 := kd (st + j) s (Nat.le_trans (Nat.le_of_lt c2) (by decide))
    have w3 : wrap64 (((st + j : Nat) : Int) + 1) = ((st + (j + 1) : Nat) : Int) := dm (st + j) (Nat.lt_trans c3 (by decide))
    have hm := fa hz (hf (st + j + s))
    have h1 := hf (st + j)
    simp only [aQ.l2]
    rw [w1]
    clear e0 w1
    rw [za (Int.ofNat_lt.mpr c1), w2, za (Int.natCast_nonneg _), za (by rw [bi]; exact Int.ofNat_lt.mpr c2), za (Int.natCast_nonneg _), za (by rw [bi]; exact Int.ofNat_lt.mpr c3), dv _ _ c3, dv _ _ c2, mr hj, oF, jh hz (hf _), w64 (x := f (st + j) + z * f (st + j + s)) (by omega) (by omega), w64 (x := f (st + j) - z * f (st + j + s)) (by omega) (by omega), fG _ (by omega) (by omega), Option.bind_some, fG _ (by omega) (by omega), Option.bind_some, Int.toNat_natCast, Int.toNat_natCast, np z s st j f hj, w3]
  · refine Ev.step (fun k => ?_) h
    have c1 : ¬ ((st + s : Nat) : Int) < ((st + s : Nat) : Int) := Int.lt_irrefl _
    have w4 := nO s (by clear w1; omega)
    have w5 := kd st (2 * s) (by clear w1 w4; omega)
    simp only [aQ.l2]
    rw [w1, Aa c1, w4, w5]
theorem ef (s m : Nat) (hsm : 2 * s * m = 256) (hs : 1 ≤ s) (hm : 1 ≤ m) (f : Nat → Int) (hf : ∀ i, 0 ≤ f i ∧ f i ≤ 3328) (hs2 : 2 ≤ s) {r : List Int}
    (h : Ev (fun k => aQ.l0 k (vec (lay s m m f)) ((2 * m : Nat) : Int) ((s / 2 : Nat) : Int)) r) : Ev (fun k => aQ.l0 k (vec f) (m : Int) (s : Int)) r := by
  have hs128 : s ≤ 128 := by
    have : 2 * s * 1 ≤ 2 * s * m := Nat.mul_le_mul_left _ hm
    omega
  have hm128 : m ≤ 128 := by
    have : 2 * m ≤ 2 * s * m := Nat.mul_le_mul_right _ (by omega)
    omega
  refine Ev.step (f := fun k => aQ.l1 k (vec f) (m : Int) (s : Int) 0) (fun k => ?_) ?_
  · simp only [aQ.l0]
    rw [za (by omega)]
  · refine Ev.up (g := fun t k => aQ.l1 k (vec (lay s m t f)) ((m + t : Nat) : Int) (s : Int) ((2 * s * t : Nat) : Int)) m ?_ ?_ 0 (by omega)
    · intro t ht h'
      have c0 : 2 * s * t + 2 * s ≤ 256 := by rw [← Nat.mul_succ, ← hsm]; exact Nat.mul_le_mul_left _ ht
      have ek : m + t < 128 := by
        have : 4 * m ≤ 2 * s * m := Nat.mul_le_mul_right _ (by omega)
        omega
      have w1 := dm (m + t) (Nat.lt_trans ek (by decide))
      have h2 := mT (lay s m t f) (fm hf t) (zed (m + t)) (mH _) s (2 * s * t) ((m + t + 1 : Nat) : Int) hs c0 h'
      have cond : ((2 * s * t : Nat) : Int) < 256 := by clear w1; omega
      refine Ev.step (f := fun k => (bp.f k ((m + t : Nat) : Int)).bind fun t287 => ((bs.f k 17 t287).bind fun t288 => (aQ.l2 k (vec (lay s m t f)) (wrap64 (((m + t : Nat) : Int) + 1)) (s : Int) ((2 * s * t : Nat) : Int) t288 ((2 * s * t : Nat) : Int)))) (fun k => ?_) ?_
      · simp only [aQ.l1]
        rw [za cond]
      · rw [w1]
        exact Ev.bind (gj (m + t) ek) (Ev.bind (gF 17 (by decide) _ (Nat.le_trans (Nat.le_of_lt (mc _)) (by decide))) h2)
    · refine Ev.step (fun k => ?_) h
      have w1 := qW s (by omega)
      have c1 : ¬ ((2 * s * m : Nat) : Int) < 256 := by clear w1; omega
      simp only [aQ.l1]
      rw [Aa c1, w1, show m + m = 2 * m by rw [Nat.two_mul]]
theorem m6 (f : Nat → Int) (hf : ∀ i, 0 ≤ f i ∧ f i ≤ 3328) : Ev (fun k => aQ.f k (vec f)) (vec (n9 f)) := by
  have core : Ev (fun k => aQ.l0 k (vec f) 1 128) (vec (n9 f)) := by
    have i1 := fm (s := 128) (m := 1) hf 1
    have i2 := fm (s := 64) (m := 2) i1 2
    have i3 := fm (s := 32) (m := 4) i2 4
    have i4 := fm (s := 16) (m := 8) i3 8
    have i5 := fm (s := 8) (m := 16) i4 16
    have i6 := fm (s := 4) (m := 32) i5 32
    refine ef 128 1 (by decide) (by decide) (by decide) f hf (by decide) ?_
    refine ef 64 2 (by decide) (by decide) (by decide) _ i1 (by decide) ?_
    refine ef 32 4 (by decide) (by decide) (by decide) _ i2 (by decide) ?_
    refine ef 16 8 (by decide) (by decide) (by decide) _ i3 (by decide) ?_
    refine ef 8 16 (by decide) (by decide) (by decide) _ i4 (by decide) ?_
    refine ef 4 32 (by decide) (by decide) (by decide) _ i5 (by decide) ?_
    refine ef 2 64 (by decide) (by decide) (by decide) _ i6 (by decide) ?_
    refine Ev.step (f := fun _ => some (vec (n9 f))) (fun k => ?_) (Ev.now _)
    simp only [aQ.l0]
    rw [Aa (by decide)]
    rfl
  unfold aQ.f
  have ok := fD (f := f) fun i _ => hf i
  have ln := bi f
  refine Ev.bind (ok ▸ cf (vec f) (by omega)) (Ev.pos rfl ?_)
  refine Ev.then (a := vec f) ?_ core
  unfold db.f
  rw [za (by rw [ln]; decide), List.nil_append]
theorem mV (f : Nat → Int) (hf : ∀ i, 0 ≤ f i ∧ f i ≤ 3328) (z : Int) (hz : 0 ≤ z ∧ z ≤ 3328) (s st : Nat) (K : Int) (hs : 1 ≤ s) (hst : st + 2 * s ≤ 256) {r : List Int}
    (h : Ev (fun k => bf.l1 k (vec (bfp z s st s f)) K (s : Int) ((st + 2 * s : Nat) : Int)) r) : Ev (fun k => bf.l2 k (vec f) K (s : Int) (st : Int) z (st : Int)) r := by
  have e0 : vec f = vec (bfp z s st 0 f) := by rw [rk]
  have w1 := kd st s (by omega)
  rw [e0]
  refine Ev.up (g := fun j k => bf.l2 k (vec (bfp z s st j f)) K (s : Int) (st : Int) z ((st + j : Nat) : Int)) s ?_ ?_ 0 (by omega)
  · intro j hj h'
    refine Ev.step (fun k => ?_) h'
    have c1 : st + j < st + s := Nat.add_lt_add_left hj _
    have c2 : st + j + s < 256 := Nat.lt_of_lt_of_le (Nat.add_lt_add_right c1 s) (Nat.le_trans (by rw [Nat.two_mul, Nat.add_assoc]; exact wa _) hst)
    have c3 : st + j < 256 := Nat.lt_of_le_of_lt (Nat.le_add_right _ s) c2
    have w2 := kd (st + j) s (Nat.le_trans (Nat.le_of_lt c2) (by decide))
    have w3 : wrap64 (((st + j : Nat) : Int) + 1) = ((st + (j + 1) : Nat) : Int) := dm (st + j) (Nat.lt_trans c3 (by decide))
    have hm := fa hz (hf (st + j + s))
    have h1 := hf (st + j)
    simp only [bf.l2, Option.bind_some]
    rw [w1]
    clear e0 w1
    rw [za (Int.ofNat_lt.mpr c1), w2, za (Int.natCast_nonneg _), za (by rw [bi]; exact Int.ofNat_lt.mpr c2), za (Int.natCast_nonneg _), za (by rw [bi]; exact Int.ofNat_lt.mpr c3), dv _ _ c3, dv _ _ c2, mr hj, oF, g7 hz (hf _), Int.toNat_natCast, Int.toNat_natCast, eZ, dv _ _ c3, Aa (show ¬ st + j = st + j + s by omega), mr hj, ← eZ]
    rw [show Int.tmod (wrap64 ((wrap64 (f (st + j) - z * f (st + j + s) % 3329)) + 3329)) 3329 = (f (st + j) - z * f (st + j + s)) % 3329 by
      rw [w64 (x := f (st + j) - z * f (st + j + s) % 3329) (by omega) (by omega), w64 (by omega) (by omega), Int.tmod_eq_emod_of_nonneg (by omega)]; omega]
    rw [show Int.tmod (wrap64 (f (st + j) + z * f (st + j + s) % 3329)) 3329 = (f (st + j) + z * f (st + j + s)) % 3329 by
      rw [w64 (by omega) (by omega), Int.tmod_eq_emod_of_nonneg (by omega)]; omega]
    rw [pk z s st j f hs, np z s st j f hj, w3]
  · refine Ev.step (fun k => ?_) h
    have c1 : ¬ ((st + s : Nat) : Int) < ((st + s : Nat) : Int) := Int.lt_irrefl _
    have w4 := nO s (by clear w1; omega)
    have w5 := kd st (2 * s) (by clear w1 w4; omega)
    simp only [bf.l2]
    rw [w1, Aa c1, w4, w5]
theorem el (s m : Nat) (hsm : 2 * s * m = 256) (hs : 1 ≤ s) (hm : 1 ≤ m) (f : Nat → Int) (hf : ∀ i, 0 ≤ f i ∧ f i ≤ 3328) (hs2 : 2 ≤ s) {r : List Int}
    (h : Ev (fun k => bf.l0 k (vec (lay s m m f)) ((2 * m : Nat) : Int) ((s / 2 : Nat) : Int)) r) : Ev (fun k => bf.l0 k (vec f) (m : Int) (s : Int)) r := by
  have hs128 : s ≤ 128 := by
    have : 2 * s * 1 ≤ 2 * s * m := Nat.mul_le_mul_left _ hm
    omega
  have hm128 : m ≤ 128 := by
    have : 2 * m ≤ 2 * s * m := Nat.mul_le_mul_right _ (by omega)
    omega
  refine Ev.step (f := fun k => bf.l1 k (vec f) (m : Int) (s : Int) 0) (fun k => ?_) ?_
  · simp only [bf.l0]
    rw [za (by omega)]
  · refine Ev.up (g := fun t k => bf.l1 k (vec (lay s m t f)) ((m + t : Nat) : Int) (s : Int) ((2 * s * t : Nat) : Int)) m ?_ ?_ 0 (by omega)
    · intro t ht h'
      have c0 : 2 * s * t + 2 * s ≤ 256 := by rw [← Nat.mul_succ, ← hsm]; exact Nat.mul_le_mul_left _ ht
      have ek : m + t < 128 := by
        have : 4 * m ≤ 2 * s * m := Nat.mul_le_mul_right _ (by omega)
        omega
      have w1 := dm (m + t) (Nat.lt_trans ek (by decide))
      have h2 := mV (lay s m t f) (fm hf t) (zed (m + t)) (mH _) s (2 * s * t) ((m + t + 1 : Nat) : Int) hs c0 h'
      have cond : ((2 * s * t : Nat) : Int) < 256 := by clear w1; omega
      refine Ev.step (f := fun k => (ba.f k ((m + t : Nat) : Int)).bind fun t287 => ((bh.f k 17 t287).bind fun t288 => (bf.l2 k (vec (lay s m t f)) (wrap64 (((m + t : Nat) : Int) + 1)) (s : Int) ((2 * s * t : Nat) : Int) t288 ((2 * s * t : Nat) : Int)))) (fun k => ?_) ?_
      · simp only [bf.l1]
        rw [za cond]
      · rw [w1]
        exact Ev.bind (gg (m + t) ek) (Ev.bind (gI 17 (by decide) _ (Nat.le_trans (Nat.le_of_lt (mc _)) (by decide))) h2)
    · refine Ev.step (fun k => ?_) h
      have w1 := qW s (by omega)
      have c1 : ¬ ((2 * s * m : Nat) : Int) < 256 := by clear w1; omega
      simp only [bf.l1]
      rw [Aa c1, w1, show m + m = 2 * m by rw [Nat.two_mul]]
theorem nm (f : Nat → Int) (hf : ∀ i, 0 ≤ f i ∧ f i ≤ 3328) : Ev (fun k => bf.f k (vec f)) (vec (n9 f)) := by
  have core : Ev (fun k => bf.l0 k (vec f) 1 128) (vec (n9 f)) := by
    have i1 := fm (s := 128) (m := 1) hf 1
    have i2 := fm (s := 64) (m := 2) i1 2
    have i3 := fm (s := 32) (m := 4) i2 4
    have i4 := fm (s := 16) (m := 8) i3 8
    have i5 := fm (s := 8) (m := 16) i4 16
    have i6 := fm (s := 4) (m := 32) i5 32
    refine el 128 1 (by decide) (by decide) (by decide) f hf (by decide) ?_
    refine el 64 2 (by decide) (by decide) (by decide) _ i1 (by decide) ?_
    refine el 32 4 (by decide) (by decide) (by decide) _ i2 (by decide) ?_
    refine el 16 8 (by decide) (by decide) (by decide) _ i3 (by decide) ?_
    refine el 8 16 (by decide) (by decide) (by decide) _ i4 (by decide) ?_
    refine el 4 32 (by decide) (by decide) (by decide) _ i5 (by decide) ?_
    refine el 2 64 (by decide) (by decide) (by decide) _ i6 (by decide) ?_
    refine Ev.step (f := fun _ => some (vec (n9 f))) (fun k => ?_) (Ev.now _)
    simp only [bf.l0]
    rw [Aa (by decide)]
    rfl
  unfold bf.f
  have ok := fD (f := f) fun i _ => hf i
  have ln := bi f
  refine Ev.bind (ok ▸ bZ (vec f)) (Ev.pos rfl ?_)
  simp only [Option.bind_some]
  refine Ev.pos (by rw [ln]; decide) ?_
  rw [List.nil_append]
  exact core
/-- A butterfly back on the numbers from st on, s of them with the s behind; the first j of them done. -/
def bfi (z : Int) (s st j : Nat) (f : Nat → Int) : Nat → Int := fun n =>
  if st ≤ n ∧ n < st + j then (f n + f (n + s)) % 3329 else if st + s ≤ n ∧ n < st + s + j then (z * (f n - f (n - s))) % 3329 else f n
theorem rg (z : Int) (s st : Nat) (f : Nat → Int) : bfi z s st 0 f = f := by
  funext n; unfold bfi; rw [Aa (by omega), Aa (by omega)]
theorem rp {z : Int} {s st j : Nat} {f : Nat → Int} (hf : ∀ i, 0 ≤ f i ∧ f i ≤ 3328) (n : Nat) : 0 ≤ bfi z s st j f n ∧ bfi z s st j f n ≤ 3328 := by
  unfold bfi
  split
  · exact fh _
  · split
    · exact fh _
    · exact hf n
theorem oE {z : Int} {s st j : Nat} {f : Nat → Int} (h : j < s) : bfi z s st j f (st + j) = f (st + j) := by
  unfold bfi; rw [Aa (by omega), Aa (by omega)]
theorem mB {z : Int} {s st j : Nat} {f : Nat → Int} : bfi z s st j f (st + j + s) = f (st + j + s) := by
  unfold bfi; rw [Aa (by omega), Aa (by omega)]
theorem m9 (z : Int) (s st j : Nat) (f : Nat → Int) (hj : j < s) : ((vec (bfi z s st j f)).set (st + j) ((f (st + j) + f (st + j + s)) % 3329)).set (st + j + s) ((z * (f (st + j + s) - f (st + j))) % 3329) = vec (bfi z s st (j + 1) f) := by
  rw [eZ, eZ]
  refine dZ fun n _ => ?_
  by_cases h2 : n = st + j + s
  · subst h2
    rw [za rfl]
    unfold bfi
    rw [Aa (by omega), za (by omega), show st + j + s - s = st + j by omega]
  · rw [Aa h2]
    by_cases h1 : n = st + j
    · subst h1
      rw [za rfl]
      unfold bfi
      rw [za (by omega)]
    · rw [Aa h1]
      unfold bfi
      by_cases a : st ≤ n ∧ n < st + j
      · rw [za a, za (by omega)]
      · have a' : ¬ (st ≤ n ∧ n < st + (j + 1)) := by omega
        rw [Aa a, Aa a']
        by_cases b : st + s ≤ n ∧ n < st + s + j
        · rw [za b, za (show st + s ≤ n ∧ n < st + s + (j + 1) by omega)]
        · rw [Aa b, Aa (show ¬ (st + s ≤ n ∧ n < st + s + (j + 1)) by omega)]
/-- A layer back: the first t butterflies of m, each of s and s numbers; the powers are taken from 2m-1 downwards. -/
def gS (s m : Nat) : Nat → (Nat → Int) → Nat → Int
  | 0, f => f
  | t + 1, f => bfi (zed (2 * m - 1 - t)) s (2 * s * t) s (gS s m t f)
theorem dX {s m : Nat} {f : Nat → Int} (hf : ∀ i, 0 ≤ f i ∧ f i ≤ 3328) (t : Nat) : ∀ n, 0 ≤ gS s m t f n ∧ gS s m t f n ≤ 3328 := by
  induction t with
  | zero => exact hf
  | succ t ih => exact fun n => rp ih n
def pt (f : Nat → Int) : Nat → Int := fun n => gS 128 1 1 (gS 64 2 2 (gS 32 4 4 (gS 16 8 8 (gS 8 16 16 (gS 4 32 32 (gS 2 64 64 f)))))) n * 3303 % 3329
theorem mF {z x y : Int} (hz : 0 ≤ z ∧ z ≤ 3328) (hx : 0 ≤ x ∧ x ≤ 3328) (hy : 0 ≤ y ∧ y ≤ 3328) : -11075584 ≤ z * (y - x) ∧ z * (y - x) ≤ 11075584 := by
  have h1 := fa hz hx
  have h2 := fa hz hy
  rw [Int.mul_sub]
  omega
theorem k8 (f : Nat → Int) (hf : ∀ i, 0 ≤ f i ∧ f i ≤ 3328) (z : Int) (hz : 0 ≤ z ∧ z ≤ 3328) (s st : Nat) (K : Int) (hs : 1 ≤ s) (hst : st + 2 * s ≤ 256) {r : List Int}
    (h : Ev (fun k => ai.l1 k (vec (bfi z s st s f)) K (s : Int) ((st + 2 * s : Nat) : Int)) r) : Ev (fun k => ai.l2 k (vec f) K (s : Int) (st : Int) z (st : Int)) r := by
  have e0 : vec f = vec (bfi z s st 0 f) := by rw [rg]
  have w1 := kd st s (by omega)
  rw [e0]
  refine Ev.up (g := fun j k => ai.l2 k (vec (bfi z s st j f)) K (s : Int) (st : Int) z ((st + j : Nat) : Int)) s ?_ ?_ 0 (by omega)
  · intro j hj h'
    refine Ev.step (fun k => ?_) h'
    have c1 : st + j < st + s := Nat.add_lt_add_left hj _
    have c2 : st + j + s < 256 := Nat.lt_of_lt_of_le (Nat.add_lt_add_right c1 s) (Nat.le_trans (by rw [Nat.two_mul, Nat.add_assoc]; exact wa _) hst)
    have c3 : st + j < 256 := Nat.lt_of_le_of_lt (Nat.le_add_right _ s) c2
    have w2 := kd (st + j) s (Nat.le_trans (Nat.le_of_lt c2) (by decide))
    have w3 : wrap64 (((st + j : Nat) : Int) + 1) = ((st + (j + 1) : Nat) : Int) := dm (st + j) (Nat.lt_trans c3 (by decide))
    have h1 := hf (st + j)
    have h2 := hf (st + j + s)
    have hm := mF hz h1 h2
    simp only [ai.l2]
    rw [w1]
    clear e0 w1
    rw [za (Int.ofNat_lt.mpr c1), w2, za (Int.natCast_nonneg _), za (by rw [bi]; exact Int.ofNat_lt.mpr c3), za (Int.natCast_nonneg _), za (by rw [bi]; exact Int.ofNat_lt.mpr c2), dv _ _ c3, dv _ _ c2, oE hj, mB, w64 (x := f (st + j) + f (st + j + s)) (by omega) (by omega), w64 (x := f (st + j + s) - f (st + j)) (by omega) (by omega), w64 (x := z * (f (st + j + s) - f (st + j))) (by omega) (by omega), fG _ (by omega) (by omega), Option.bind_some, fG _ (by omega) (by omega), Option.bind_some, Int.toNat_natCast, Int.toNat_natCast, m9 z s st j f hj, w3]
  · refine Ev.step (fun k => ?_) h
    have c1 : ¬ ((st + s : Nat) : Int) < ((st + s : Nat) : Int) := Int.lt_irrefl _
    have w4 := nO s (by clear w1; omega)
    have w5 := kd st (2 * s) (by clear w1 w4; omega)
    simp only [ai.l2]
    rw [w1, Aa c1, w4, w5]
theorem re (a : Nat) (h1 : 1 ≤ a) (h : a ≤ 100000) : wrap64 ((a : Int) - 1) = ((a - 1 : Nat) : Int) := by rw [w64 (by omega) (by omega)]; omega
theorem pg (a : Nat) (h : a ≤ 100000) : wrap64 ((a : Int) * 2) = ((a * 2 : Nat) : Int) := by rw [w64 (by omega) (by omega)]; omega
theorem dt (s m : Nat) (hsm : 2 * s * m = 256) (hs : 2 ≤ s) (hm : 1 ≤ m) (f : Nat → Int) (hf : ∀ i, 0 ≤ f i ∧ f i ≤ 3328) {r : List Int}
    (h : Ev (fun k => ai.l0 k (vec (gS s m m f)) ((2 * m - 1 - m : Nat) : Int) ((s * 2 : Nat) : Int)) r) : Ev (fun k => ai.l0 k (vec f) ((2 * m - 1 : Nat) : Int) (s : Int)) r := by
  have hs128 : s ≤ 128 := by
    have : 2 * s * 1 ≤ 2 * s * m := Nat.mul_le_mul_left _ hm
    omega
  have hm64 : 2 * m ≤ 128 := by
    have : 4 * m ≤ 2 * s * m := Nat.mul_le_mul_right _ (by omega)
    omega
  refine Ev.step (f := fun k => ai.l1 k (vec f) ((2 * m - 1 : Nat) : Int) (s : Int) 0) (fun k => ?_) ?_
  · simp only [ai.l0]
    rw [za (by omega)]
  · refine Ev.up (g := fun t k => ai.l1 k (vec (gS s m t f)) ((2 * m - 1 - t : Nat) : Int) (s : Int) ((2 * s * t : Nat) : Int)) m ?_ ?_ 0 (by omega)
    · intro t ht h'
      have c0 : 2 * s * t + 2 * s ≤ 256 := by rw [← Nat.mul_succ, ← hsm]; exact Nat.mul_le_mul_left _ ht
      have ek : 2 * m - 1 - t < 128 := by omega
      have w1 := re (2 * m - 1 - t) (by omega) (by omega)
      have e1 : 2 * m - 1 - t - 1 = 2 * m - 1 - (t + 1) := by clear w1; omega
      rw [e1] at w1
      have h2 := k8 (gS s m t f) (dX hf t) (zed (2 * m - 1 - t)) (mH _) s (2 * s * t) ((2 * m - 1 - (t + 1) : Nat) : Int) (Nat.le_trans (by decide) hs) c0 h'
      have cond : ((2 * s * t : Nat) : Int) < 256 := by clear w1; omega
      refine Ev.step (f := fun k => (bp.f k ((2 * m - 1 - t : Nat) : Int)).bind fun t300 => ((bs.f k 17 t300).bind fun t301 => (ai.l2 k (vec (gS s m t f)) (wrap64 (((2 * m - 1 - t : Nat) : Int) - 1)) (s : Int) ((2 * s * t : Nat) : Int) t301 ((2 * s * t : Nat) : Int)))) (fun k => ?_) ?_
      · simp only [ai.l1]
        rw [za cond]
      · rw [w1]
        exact Ev.bind (gj _ ek) (Ev.bind (gF 17 (by decide) _ (Nat.le_trans (Nat.le_of_lt (mc _)) (by decide))) h2)
    · refine Ev.step (fun k => ?_) h
      have w1 := pg s (by omega)
      have c1 : ¬ ((2 * s * m : Nat) : Int) < 256 := by clear w1; omega
      simp only [ai.l1]
      rw [Aa c1, w1]
theorem oX {z x y : Int} (hz : 0 ≤ z ∧ z ≤ 3328) (hx : 0 ≤ x ∧ x ≤ 3328) (hy : 0 ≤ y ∧ y ≤ 3328) : Int.tmod (wrap64 (z * (wrap64 ((wrap64 (y - x)) + 3329)))) 3329 = z * (y - x) % 3329 := by
  have h0 := mF hz hx hy
  have e : z * (y - x + 3329) = z * (y - x) + 3329 * z := by rw [Int.mul_add, Int.mul_comm z 3329]
  have hn : 0 ≤ z * (y - x + 3329) := Int.mul_nonneg hz.1 (by omega)
  rw [w64 (x := y - x) (by omega) (by omega), w64 (x := y - x + 3329) (by omega) (by omega), w64 (x := z * (y - x + 3329)) (by omega) (by omega), Int.tmod_eq_emod_of_nonneg hn, e]
  omega
theorem lz (f : Nat → Int) (hf : ∀ i, 0 ≤ f i ∧ f i ≤ 3328) (z : Int) (hz : 0 ≤ z ∧ z ≤ 3328) (s st : Nat) (K : Int) (hs : 1 ≤ s) (hst : st + 2 * s ≤ 256) {r : List Int}
    (h : Ev (fun k => am.l1 k (vec (bfi z s st s f)) K (s : Int) ((st + 2 * s : Nat) : Int)) r) : Ev (fun k => am.l2 k (vec f) K (s : Int) (st : Int) z (st : Int)) r := by
  have e0 : vec f = vec (bfi z s st 0 f) := by rw [rg]
  have w1 := kd st s (by omega)
  rw [e0]
  refine Ev.up (g := fun j k => am.l2 k (vec (bfi z s st j f)) K (s : Int) (st : Int) z ((st + j : Nat) : Int)) s ?_ ?_ 0 (by omega)
  · intro j hj h'
    refine Ev.step (fun k => ?_) h'
    have c1 : st + j < st + s := Nat.add_lt_add_left hj _
    have c2 : st + j + s < 256 := Nat.lt_of_lt_of_le (Nat.add_lt_add_right c1 s) (Nat.le_trans (by rw [Nat.two_mul, Nat.add_assoc]; exact wa _) hst)
    have c3 : st + j < 256 := Nat.lt_of_le_of_lt (Nat.le_add_right _ s) c2
    have w2 := kd (st + j) s (Nat.le_trans (Nat.le_of_lt c2) (by decide))
    have w3 : wrap64 (((st + j : Nat) : Int) + 1) = ((st + (j + 1) : Nat) : Int) := dm (st + j) (Nat.lt_trans c3 (by decide))
    have h1 := hf (st + j)
    have h2 := hf (st + j + s)
    have hm := mF hz h1 h2
    have nj : ¬ st + j + s = st + j := by clear e0 w1 w2; omega
    have ey : ∀ v : Int, rd ((vec (bfi z s st j f)).set (st + j) v) ((st + j + s : Nat) : Int) = f (st + j + s) := by
      intro v
      rw [eZ, dv _ _ c2, Aa nj, mB]
    have em := oX hz h1 h2
    simp only [am.l2, Option.bind_some]
    rw [w1]
    clear e0 w1
    rw [za (Int.ofNat_lt.mpr c1), w2, za (Int.natCast_nonneg _), za (by rw [bi]; exact Int.ofNat_lt.mpr c3), za (Int.natCast_nonneg _), za (by rw [bi]; exact Int.ofNat_lt.mpr c2), Int.toNat_natCast, Int.toNat_natCast, ey, dv _ _ c3, oE hj, dv _ _ c2, mB, em, w64 (x := f (st + j) + f (st + j + s)) (by omega) (by omega), Int.tmod_eq_emod_of_nonneg (show 0 ≤ f (st + j) + f (st + j + s) by omega), m9 z s st j f hj, w3]
  · refine Ev.step (fun k => ?_) h
    have c1 : ¬ ((st + s : Nat) : Int) < ((st + s : Nat) : Int) := Int.lt_irrefl _
    have w4 := nO s (by clear w1; omega)
    have w5 := kd st (2 * s) (by clear w1 w4; omega)
    simp only [am.l2]
    rw [w1, Aa c1, w4, w5]
theorem dp (s m : Nat) (hsm : 2 * s * m = 256) (hs : 2 ≤ s) (hm : 1 ≤ m) (f : Nat → Int) (hf : ∀ i, 0 ≤ f i ∧ f i ≤ 3328) {r : List Int}
    (h : Ev (fun k => am.l0 k (vec (gS s m m f)) ((2 * m - 1 - m : Nat) : Int) ((s * 2 : Nat) : Int)) r) : Ev (fun k => am.l0 k (vec f) ((2 * m - 1 : Nat) : Int) (s : Int)) r := by
  have hs128 : s ≤ 128 := by
    have : 2 * s * 1 ≤ 2 * s * m := Nat.mul_le_mul_left _ hm
    omega
  have hm64 : 2 * m ≤ 128 := by
    have : 4 * m ≤ 2 * s * m := Nat.mul_le_mul_right _ (by omega)
    omega
  refine Ev.step (f := fun k => am.l1 k (vec f) ((2 * m - 1 : Nat) : Int) (s : Int) 0) (fun k => ?_) ?_
  · simp only [am.l0]
    rw [za (by omega)]
  · refine Ev.up (g := fun t k => am.l1 k (vec (gS s m t f)) ((2 * m - 1 - t : Nat) : Int) (s : Int) ((2 * s * t : Nat) : Int)) m ?_ ?_ 0 (by omega)
    · intro t ht h'
      have c0 : 2 * s * t + 2 * s ≤ 256 := by rw [← Nat.mul_succ, ← hsm]; exact Nat.mul_le_mul_left _ ht
      have ek : 2 * m - 1 - t < 128 := by omega
      have w1 := re (2 * m - 1 - t) (by omega) (by omega)
      have e1 : 2 * m - 1 - t - 1 = 2 * m - 1 - (t + 1) := by clear w1; omega
      rw [e1] at w1
      have h2 := lz (gS s m t f) (dX hf t) (zed (2 * m - 1 - t)) (mH _) s (2 * s * t) ((2 * m - 1 - (t + 1) : Nat) : Int) (Nat.le_trans (by decide) hs) c0 h'
      have cond : ((2 * s * t : Nat) : Int) < 256 := by clear w1; omega
      refine Ev.step (f := fun k => (ba.f k ((2 * m - 1 - t : Nat) : Int)).bind fun t300 => ((bh.f k 17 t300).bind fun t301 => (am.l2 k (vec (gS s m t f)) (wrap64 (((2 * m - 1 - t : Nat) : Int) - 1)) (s : Int) ((2 * s * t : Nat) : Int) t301 ((2 * s * t : Nat) : Int)))) (fun k => ?_) ?_
      · simp only [am.l1]
        rw [za cond]
      · rw [w1]
        exact Ev.bind (gg _ ek) (Ev.bind (gI 17 (by decide) _ (Nat.le_trans (Nat.le_of_lt (mc _)) (by decide))) h2)
    · refine Ev.step (fun k => ?_) h
      have w1 := pg s (by omega)
      have c1 : ¬ ((2 * s * m : Nat) : Int) < 256 := by clear w1; omega
      simp only [am.l1]
      rw [Aa c1, w1]
def jx (f : Nat → Int) (i : Nat) : Nat → Int := fun n => if n < i then f n * 3303 % 3329 else f n
theorem pq (f : Nat → Int) : jx f 0 = f := rfl
theorem nk (f : Nat → Int) : vec (jx f 256) = vec fun n => f n * 3303 % 3329 := dZ fun _ hn => za hn
theorem lW (f : Nat → Int) (i : Nat) : (vec (jx f i)).set i (f i * 3303 % 3329) = vec (jx f (i + 1)) := by
  rw [eZ]
  refine dZ fun n _ => ?_
  unfold jx
  by_cases e : n = i
  · subst e; rw [za rfl, za (by omega)]
  · rw [Aa e]
    by_cases h : n < i
    · rw [za h, za (by omega)]
    · rw [Aa h, Aa (by omega)]
theorem ll (f : Nat → Int) (hf : ∀ i, 0 ≤ f i ∧ f i ≤ 3328) : Ev (fun k => ai.l3 k (vec f) ((256 : Nat) : Int) 0) (vec fun n => f n * 3303 % 3329) := by
  have e0 : vec f = vec (jx f 0) := by rw [pq]
  rw [e0]
  refine Ev.up (g := fun i k => ai.l3 k (vec (jx f i)) ((256 : Nat) : Int) (i : Int)) 256 ?_ ?_ 0 (by omega)
  · intro i hi h
    refine Ev.step (fun k => ?_) h
    have hb := hf i
    have ei : jx f i i = f i := Aa (Nat.lt_irrefl _)
    simp only [ai.l3]
    rw [za (by omega), za (by omega), za (by rw [bi]; omega), dv _ _ hi, ei, w64 (x := f i * 3303) (by omega) (by omega), fG _ (by omega) (by omega), Option.bind_some, Int.toNat_natCast, lW, dm i (by omega)]
  · refine Ev.step (f := fun _ => some (vec (jx f 256))) (fun k => ?_) ?_
    · simp only [ai.l3]
      rw [Aa (by omega)]
    · rw [nk]; exact Ev.now _
theorem lp (f : Nat → Int) (hf : ∀ i, 0 ≤ f i ∧ f i ≤ 3328) : Ev (fun k => am.l3 k (vec f) 0) (vec fun n => f n * 3303 % 3329) := by
  have e0 : vec f = vec (jx f 0) := by rw [pq]
  rw [e0]
  refine Ev.up (g := fun i k => am.l3 k (vec (jx f i)) (i : Int)) 256 ?_ ?_ 0 (by omega)
  · intro i hi h
    refine Ev.step (fun k => ?_) h
    have hb := hf i
    have ei : jx f i i = f i := Aa (Nat.lt_irrefl _)
    simp only [am.l3]
    rw [za (by omega), za (by omega), za (by rw [bi]; omega), dv _ _ hi, ei, w64 (x := f i * 3303) (by omega) (by omega), Int.tmod_eq_emod_of_nonneg (show 0 ≤ f i * 3303 by omega), Int.toNat_natCast, lW, dm i (by omega)]
  · refine Ev.step (f := fun _ => some (vec (jx f 256))) (fun k => ?_) ?_
    · simp only [am.l3]
      rw [Aa (by omega)]
    · rw [nk]; exact Ev.now _
theorem kF (f : Nat → Int) (hf : ∀ i, 0 ≤ f i ∧ f i ≤ 3328) : Ev (fun k => ai.f k (vec f)) (vec (pt f)) := by
  have core : Ev (fun k => ai.l0 k (vec f) 127 2) (vec (pt f)) := by
    have i1 := dX (s := 2) (m := 64) hf 64
    have i2 := dX (s := 4) (m := 32) i1 32
    have i3 := dX (s := 8) (m := 16) i2 16
    have i4 := dX (s := 16) (m := 8) i3 8
    have i5 := dX (s := 32) (m := 4) i4 4
    have i6 := dX (s := 64) (m := 2) i5 2
    have i7 := dX (s := 128) (m := 1) i6 1
    refine dt 2 64 (by decide) (by decide) (by decide) f hf ?_
    refine dt 4 32 (by decide) (by decide) (by decide) _ i1 ?_
    refine dt 8 16 (by decide) (by decide) (by decide) _ i2 ?_
    refine dt 16 8 (by decide) (by decide) (by decide) _ i3 ?_
    refine dt 32 4 (by decide) (by decide) (by decide) _ i4 ?_
    refine dt 64 2 (by decide) (by decide) (by decide) _ i5 ?_
    refine dt 128 1 (by decide) (by decide) (by decide) _ i6 ?_
    refine Ev.step (fun k => ?_) (ll _ i7)
    simp only [ai.l0]
    rw [Aa (by decide), bi]
  unfold ai.f
  have ok := fD (f := f) fun i _ => hf i
  have ln := bi f
  refine Ev.bind (ok ▸ cf (vec f) (by omega)) (Ev.pos rfl ?_)
  refine Ev.then (a := vec f) ?_ core
  unfold db.f
  rw [za (by rw [ln]; decide), List.nil_append]
theorem lv (f : Nat → Int) (hf : ∀ i, 0 ≤ f i ∧ f i ≤ 3328) : Ev (fun k => am.f k (vec f)) (vec (pt f)) := by
  have core : Ev (fun k => am.l0 k (vec f) 127 2) (vec (pt f)) := by
    have i1 := dX (s := 2) (m := 64) hf 64
    have i2 := dX (s := 4) (m := 32) i1 32
    have i3 := dX (s := 8) (m := 16) i2 16
    have i4 := dX (s := 16) (m := 8) i3 8
    have i5 := dX (s := 32) (m := 4) i4 4
    have i6 := dX (s := 64) (m := 2) i5 2
    have i7 := dX (s := 128) (m := 1) i6 1
    refine dp 2 64 (by decide) (by decide) (by decide) f hf ?_
    refine dp 4 32 (by decide) (by decide) (by decide) _ i1 ?_
    refine dp 8 16 (by decide) (by decide) (by decide) _ i2 ?_
    refine dp 16 8 (by decide) (by decide) (by decide) _ i3 ?_
    refine dp 32 4 (by decide) (by decide) (by decide) _ i4 ?_
    refine dp 64 2 (by decide) (by decide) (by decide) _ i5 ?_
    refine dp 128 1 (by decide) (by decide) (by decide) _ i6 ?_
    refine Ev.step (fun k => ?_) (lp _ i7)
    simp only [am.l0]
    rw [Aa (by decide)]
  unfold am.f
  have ok := fD (f := f) fun i _ => hf i
  have ln := bi f
  refine Ev.bind (ok ▸ bZ (vec f)) (Ev.pos rfl ?_)
  simp only [Option.bind_some]
  refine Ev.pos (by rw [ln]; decide) ?_
  rw [List.nil_append]
  exact core
def gam (i : Nat) : Int := pw 17 (2 * t7s i 7 + 1)
theorem oc (i : Nat) : 0 ≤ gam i ∧ gam i ≤ 3328 := q7 _ _
def mnE (a b : Nat → Int) (i : Nat) : Int := (a (2 * i) * b (2 * i) + a (2 * i + 1) * b (2 * i + 1) % 3329 * gam i) % 3329
def mnO (a b : Nat → Int) (i : Nat) : Int := (a (2 * i) * b (2 * i + 1) + a (2 * i + 1) * b (2 * i)) % 3329
def cY (a b : Nat → Int) (n : Nat) : Int := if n % 2 = 0 then mnE a b (n / 2) else mnO a b (n / 2)
theorem lY (a b : Nat → Int) (i : Nat) : cY a b (2 * i) = mnE a b i := by
  unfold cY; rw [za (by omega), show 2 * i / 2 = i by omega]
theorem lU (a b : Nat → Int) (i : Nat) : cY a b (2 * i + 1) = mnO a b i := by
  unfold cY; rw [Aa (by omega), show (2 * i + 1) / 2 = i by omega]
theorem qZ (i : Nat) : wrap64 ((wrap64 (2 * ((t7s i 7 : Nat) : Int))) + 1) = ((2 * t7s i 7 + 1 : Nat) : Int) := by
  have h := mc i
  have h1 : t7s i 7 ≤ 100000 := by omega
  have h2 : 2 * t7s i 7 < 9223372036854775807 := by omega
  rw [nO _ h1, dm _ h2]
theorem mR (i : Nat) : 2 * t7s i 7 + 1 ≤ 1000000000 := by have := mc i; omega
theorem qV (a b : Nat → Int) (ha : ∀ i, 0 ≤ a i ∧ a i ≤ 3328) (hb : ∀ i, 0 ≤ b i ∧ b i ≤ 3328) (i : Nat) :
    wrap64 ((wrap64 (a (2 * i) * b (2 * i))) + (wrap64 ((Int.tmod (wrap64 (a (2 * i + 1) * b (2 * i + 1))) 3329) * gam i))) = a (2 * i) * b (2 * i) + a (2 * i + 1) * b (2 * i + 1) % 3329 * gam i := by
  have h1 := fa (ha (2 * i)) (hb (2 * i))
  have h2 := fa (fh (a (2 * i + 1) * b (2 * i + 1))) (oc i)
  rw [g7 (ha _) (hb _), jh (ha _) (hb _), jh (fh _) (oc i)]
  exact w64 (by omega) (by omega)
theorem nK (a b : Nat → Int) (ha : ∀ i, 0 ≤ a i ∧ a i ≤ 3328) (hb : ∀ i, 0 ≤ b i ∧ b i ≤ 3328) (i : Nat) : 0 ≤ a (2 * i) * b (2 * i) + a (2 * i + 1) * b (2 * i + 1) % 3329 * gam i ∧ a (2 * i) * b (2 * i) + a (2 * i + 1) * b (2 * i + 1) % 3329 * gam i ≤ 9223372036854775807 := by
  have h1 := fa (ha (2 * i)) (hb (2 * i))
  have h2 := fa (fh (a (2 * i + 1) * b (2 * i + 1))) (oc i)
  omega
theorem ra (a b : Nat → Int) (ha : ∀ i, 0 ≤ a i ∧ a i ≤ 3328) (hb : ∀ i, 0 ≤ b i ∧ b i ≤ 3328) (i : Nat) :
    wrap64 ((wrap64 (a (2 * i) * b (2 * i + 1))) + (wrap64 (a (2 * i + 1) * b (2 * i)))) = a (2 * i) * b (2 * i + 1) + a (2 * i + 1) * b (2 * i) := by
  have h1 := fa (ha (2 * i)) (hb (2 * i + 1))
  have h2 := fa (ha (2 * i + 1)) (hb (2 * i))
  rw [jh (ha _) (hb _), jh (ha _) (hb _)]
  exact w64 (by omega) (by omega)
theorem pH (a b : Nat → Int) (ha : ∀ i, 0 ≤ a i ∧ a i ≤ 3328) (hb : ∀ i, 0 ≤ b i ∧ b i ≤ 3328) (i : Nat) : 0 ≤ a (2 * i) * b (2 * i + 1) + a (2 * i + 1) * b (2 * i) ∧ a (2 * i) * b (2 * i + 1) + a (2 * i + 1) * b (2 * i) ≤ 9223372036854775807 := by
  have h1 := fa (ha (2 * i)) (hb (2 * i + 1))
  have h2 := fa (ha (2 * i + 1)) (hb (2 * i))
  omega
theorem kA (a b : Nat → Int) (ha : ∀ i, 0 ≤ a i ∧ a i ≤ 3328) (hb : ∀ i, 0 ≤ b i ∧ b i ≤ 3328) : Ev (fun k => aZ.f k (vec a) (vec b)) (vec (cY a b)) := by
  have core : Ev (fun k => aZ.l0 k (vec a) (vec b) (List.replicate 256 0) 0) (vec (cY a b)) := by
    rw [iw]
    have key := Ev.up (g := fun i k => aZ.l0 k (vec a) (vec b) (vec fun n => if n < 2 * i then cY a b n else 0) (i : Int)) (r := vec (cY a b)) 128 ?_ ?_ 0 (by omega)
    · have e : (vec fun _ => (0 : Int)) = vec fun n => if n < 2 * 0 then cY a b n else 0 := dZ fun n _ => by rw [Aa (by omega)]
      rw [e]; exact key
    · intro i hi h
      obtain ⟨K1, h1⟩ := gj i hi 
      obtain ⟨K2, h2⟩ := gF 17 (by decide) (2 * t7s i 7 + 1) (mR i)
      obtain ⟨K3, h3⟩ := h
      refine ⟨K1 + K2 + K3 + 1, fun k hk => ?_⟩
      obtain ⟨m, rfl⟩ : ∃ m, k = m + 1 := ⟨k - 1, by omega⟩
      have e1 : bp.f m (i : Int) = some ((t7s i 7 : Nat) : Int) := h1 m (by omega)
      have e2 : bs.f m 17 ((2 * t7s i 7 + 1 : Nat) : Int) = some (pw 17 (2 * t7s i 7 + 1)) := h2 m (by omega)
      have e3 := h3 m (by omega)
      have c0 : 2 * i < 256 := by omega
      have c1 : 2 * i + 1 < 256 := by omega
      have b0 : i ≤ 100000 := by omega
      have b1 : 2 * i < 9223372036854775807 := by omega
      have b2 : i < 9223372036854775807 := by omega
      have be := nK a b ha hb i
      have bo := pH a b ha hb i
      have bem : -9223372036854775808 ≤ a (2 * i) * b (2 * i) + a (2 * i + 1) * b (2 * i + 1) % 3329 * gam i := Int.le_trans (by decide) be.1
      have bom : -9223372036854775808 ≤ a (2 * i) * b (2 * i + 1) + a (2 * i + 1) * b (2 * i) := Int.le_trans (by decide) bo.1
      have ee : (vec fun n => if n = 2 * i + 1 then mnO a b i else if n = 2 * i then mnE a b i else if n < 2 * i then cY a b n else 0) = vec fun n => if n < 2 * (i + 1) then cY a b n else 0 := by
        refine dZ fun n _ => ?_
        by_cases h1 : n = 2 * i + 1
        · subst h1; rw [za rfl, za (by omega), lU]
        · rw [Aa h1]
          by_cases h2 : n = 2 * i
          · subst h2; rw [za rfl, za (by omega), lY]
          · rw [Aa h2]
            by_cases h3 : n < 2 * i
            · rw [za h3, za (by omega)]
            · rw [Aa h3, Aa (by omega)]
      clear h1 h2 h3 hk be
      simp only [aZ.l0]
      rw [za (show (i : Int) < 128 from Int.ofNat_lt.mpr hi), e1, Option.bind_some, qZ, e2, Option.bind_some, nO i b0, dm (2 * i) b1, za (Int.natCast_nonneg _), bi, bi, bi, za (Int.ofNat_lt.mpr c0), za (Int.natCast_nonneg _), za (Int.ofNat_lt.mpr c1), za (Int.ofNat_lt.mpr c0), za (Int.ofNat_lt.mpr c1),
        dv _ _ c0, dv _ _ c0, dv _ _ c1, dv _ _ c1]
      rw [show pw 17 (2 * t7s i 7 + 1) = gam i from rfl, qV a b ha hb i, ra a b ha hb i, fG _ bem (nK a b ha hb i).2, Option.bind_some, za (Int.ofNat_lt.mpr c0), fG _ bom bo.2, Option.bind_some, za (Int.ofNat_lt.mpr c1), Int.toNat_natCast, Int.toNat_natCast, eZ, eZ, dm i b2]
      rw [show (a (2 * i) * b (2 * i) + a (2 * i + 1) * b (2 * i + 1) % 3329 * gam i) % 3329 = mnE a b i from rfl, show (a (2 * i) * b (2 * i + 1) + a (2 * i + 1) * b (2 * i)) % 3329 = mnO a b i from rfl, ee]
      exact e3
    · refine Ev.step (f := fun _ => some (vec fun n => if n < 2 * 128 then cY a b n else 0)) (fun k => ?_) ?_
      · simp only [aZ.l0]
        rw [Aa (by decide)]
      · rw [dZ (g := cY a b) fun n hn => za hn]; exact Ev.now _
  unfold aZ.f
  have oka := fD (f := a) fun i _ => ha i
  have okb := fD (f := b) fun i _ => hb i
  have la := bi a
  have lb := bi b
  refine Ev.bind (oka ▸ cf (vec a) (by omega)) (Ev.pos rfl (Ev.bind (okb ▸ cf (vec b) (by omega)) ?_))
  refine Ev.step (fun k => ?_) core
  simp only [aZ.j0]
  rw [Aa (by decide), za (by decide)]
theorem kR (a b : Nat → Int) (ha : ∀ i, 0 ≤ a i ∧ a i ≤ 3328) (hb : ∀ i, 0 ≤ b i ∧ b i ≤ 3328) : Ev (fun k => ax.f k (vec a) (vec b)) (vec (cY a b)) := by
  have core : Ev (fun k => ax.l0 k (vec a) (vec b) [] 0) (vec (cY a b)) := by
    refine Ev.up (g := fun i k => ax.l0 k (vec a) (vec b) ((vec (cY a b)).take (2 * i)) (i : Int)) (r := vec (cY a b)) 128 ?_ ?_ 0 (by omega)
    · intro i hi h
      obtain ⟨K1, h1⟩ := gg i hi 
      obtain ⟨K2, h2⟩ := gI 17 (by decide) (2 * t7s i 7 + 1) (mR i)
      obtain ⟨K3, h3⟩ := h
      refine ⟨K1 + K2 + K3 + 1, fun k hk => ?_⟩
      obtain ⟨m, rfl⟩ : ∃ m, k = m + 1 := ⟨k - 1, by omega⟩
      have e1 : ba.f m (i : Int) = some ((t7s i 7 : Nat) : Int) := h1 m (by omega)
      have e2 : bh.f m 17 ((2 * t7s i 7 + 1 : Nat) : Int) = some (pw 17 (2 * t7s i 7 + 1)) := h2 m (by omega)
      have e3 := h3 m (by omega)
      have c0 : 2 * i < 256 := by omega
      have c1 : 2 * i + 1 < 256 := by omega
      have b0 : i ≤ 100000 := by omega
      have b1 : 2 * i < 9223372036854775807 := by omega
      have b2 : i < 9223372036854775807 := by omega
      have be := nK a b ha hb i
      have bo := pH a b ha hb i
      have ln : (List.take (2 * i) (vec (cY a b))).length + [mnE a b i, mnO a b i].length < 17592186044416 := by show _ + 2 < _; rw [List.length_take, bi]; omega
      have ee : List.take (2 * i) (vec (cY a b)) ++ [mnE a b i, mnO a b i] = List.take (2 * (i + 1)) (vec (cY a b)) := by
        have t1 := fH (vec (cY a b)) (2 * i) (by rw [bi]; exact c0)
        have t2 := fH (vec (cY a b)) (2 * i + 1) (by rw [bi]; exact c1)
        rw [fk, lY] at t1
        rw [fk, lU] at t2
        rw [show 2 * (i + 1) = 2 * i + 1 + 1 by omega, ← t2, ← t1, List.append_assoc]
        rfl
      clear h1 h2 h3 hk
      simp only [ax.l0]
      rw [za (show (i : Int) < 128 from Int.ofNat_lt.mpr hi), e1, Option.bind_some, qZ, e2, Option.bind_some, nO i b0, dm (2 * i) b1, za (Int.natCast_nonneg _), bi, bi, za (Int.ofNat_lt.mpr c1), za (Int.ofNat_lt.mpr c1), za (Int.natCast_nonneg _), za (Int.ofNat_lt.mpr c0), za (Int.ofNat_lt.mpr c0),
        dv _ _ c0, dv _ _ c0, dv _ _ c1, dv _ _ c1, Option.bind_some]
      rw [show pw 17 (2 * t7s i 7 + 1) = gam i from rfl, qV a b ha hb i, ra a b ha hb i, Int.tmod_eq_emod_of_nonneg be.1, Int.tmod_eq_emod_of_nonneg bo.1, dm i b2]
      rw [show (a (2 * i) * b (2 * i) + a (2 * i + 1) * b (2 * i + 1) % 3329 * gam i) % 3329 = mnE a b i from rfl, show (a (2 * i) * b (2 * i + 1) + a (2 * i + 1) * b (2 * i)) % 3329 = mnO a b i from rfl]
      rw [za ln, ee]
      exact e3
    · refine Ev.step (f := fun _ => some (List.take (2 * 128) (vec (cY a b)))) (fun k => ?_) ?_
      · simp only [ax.l0]
        rw [Aa (by decide)]
      · rw [List.take_of_length_le (by rw [bi]; decide)]; exact Ev.now _
  unfold ax.f
  have oka := fD (f := a) fun i _ => ha i
  have okb := fD (f := b) fun i _ => hb i
  simp only [Option.bind_some]
  refine Ev.bind (oka ▸ bZ (vec a)) (Ev.pos rfl (Ev.bind (okb ▸ bZ (vec b)) ?_))
  refine Ev.step (fun k => ?_) core
  simp only [ax.j0]
  rw [Aa (by decide)]
/-! a layer, place by place -/
def gH (s : ByteArray) : List (List Int) × Bool :=
  if (cK (s.extract 0 384)).2 = true then
    if (cK (s.extract 384 768)).2 = true then ([(cK (s.extract 0 384)).1, (cK (s.extract 384 768)).1], true) else ([], false)
  else ([], false)
theorem gw (s : ByteArray) (hs : 768 ≤ s.size) : Ev (fun k => bg.f k s) (gH s) := by
  unfold bg.f gH
  have e0 : wrap64 ((0 : Int) * 384) = 0 := by rw [w64 (by omega) (by omega)]; rfl
  have e2 : wrap64 ((0 : Int) + 1) = 1 := by rw [w64 (by omega) (by omega)]; rfl
  have e3 : wrap64 ((1 : Int) * 384) = 384 := by rw [w64 (by omega) (by omega)]; rfl
  have e5 : wrap64 ((1 : Int) + 1) = 2 := by rw [w64 (by omega) (by omega)]; rfl
  have e4 : wrap64 ((2 : Int) * 384) = 768 := by rw [w64 (by omega) (by omega)]; rfl
  refine Ev.step (f := fun k => (ca.f k (s.extract 0 384)).bind fun bt => (if bt.2 = true then (bg.l0 k s ([] ++ [bt.1]) 1) else (some ([], false)))) (fun k => ?_) ?_
  · simp only [bg.l0, e0, e2, e3]
    rw [za (by omega), za (by omega), za (by omega), za (by omega)]
    simp only [za (show (([] : List (List Int)).length < 5864062014805) from (by rw [List.length_nil]; omega))]
    rfl
  refine Ev.bind (gu _) ?_
  by_cases h0 : (cK (s.extract 0 384)).2 = true
  · refine Ev.pos h0 ?_
    rw [za h0]
    refine Ev.step (f := fun k => (ca.f k (s.extract 384 768)).bind fun bt => (if bt.2 = true then (bg.l0 k s ([(cK (s.extract 0 384)).1] ++ [bt.1]) 2) else (some ([], false)))) (fun k => ?_) ?_
    · simp only [bg.l0, e3, e4, e5]
      rw [za (by omega), za (by omega), za (by omega), za (by omega)]
      rfl
    refine Ev.bind (gu _) ?_
    by_cases h1 : (cK (s.extract 384 768)).2 = true
    · refine Ev.pos h1 ?_
      rw [za h1]
      refine Ev.step (f := fun k => some ([(cK (s.extract 0 384)).1] ++ [(cK (s.extract 384 768)).1], true)) (fun k => ?_) (Ev.now _)
      simp only [bg.l0]
      rw [Aa (by omega)]
    · rw [Aa h1]; exact Ev.neg h1 (Ev.now _)
  · rw [Aa h0]; exact Ev.neg h0 (Ev.now _)
theorem gN (s : ByteArray) (hs : 768 ≤ s.size) : Ev (fun k => bn.f k s) (gH s) := by
  unfold bn.f gH
  have e0 : wrap64 ((0 : Int) * 384) = 0 := by rw [w64 (by omega) (by omega)]; rfl
  have e2 : wrap64 ((0 : Int) + 1) = 1 := by rw [w64 (by omega) (by omega)]; rfl
  have e3 : wrap64 ((1 : Int) * 384) = 384 := by rw [w64 (by omega) (by omega)]; rfl
  have e5 : wrap64 ((1 : Int) + 1) = 2 := by rw [w64 (by omega) (by omega)]; rfl
  have e4 : wrap64 ((2 : Int) * 384) = 768 := by rw [w64 (by omega) (by omega)]; rfl
  refine Ev.step (f := fun k => (cd.f k (s.extract 0 384)).bind fun bt => (if bt.2 = true then (bn.l0 k s ([] ++ [bt.1]) 1) else (some ([], false)))) (fun k => ?_) ?_
  · simp only [bn.l0, e0, e2, e3]
    rw [za (by omega), za (by omega), za (by omega), za (by omega)]
    simp only [za (show (([] : List (List Int)).length < 5864062014805) from (by rw [List.length_nil]; omega))]
    rfl
  refine Ev.bind (gq _) ?_
  by_cases h0 : (cK (s.extract 0 384)).2 = true
  · refine Ev.pos h0 ?_
    rw [za h0]
    refine Ev.step (f := fun k => (cd.f k (s.extract 384 768)).bind fun bt => (if bt.2 = true then (bn.l0 k s ([(cK (s.extract 0 384)).1] ++ [bt.1]) 2) else (some ([], false)))) (fun k => ?_) ?_
    · simp only [bn.l0, e3, e4, e5]
      rw [za (by omega), za (by omega), za (by omega), za (by omega)]
      rfl
    refine Ev.bind (gq _) ?_
    by_cases h1 : (cK (s.extract 384 768)).2 = true
    · refine Ev.pos h1 ?_
      rw [za h1]
      refine Ev.step (f := fun k => some ([(cK (s.extract 0 384)).1] ++ [(cK (s.extract 384 768)).1], true)) (fun k => ?_) (Ev.now _)
      simp only [bn.l0]
      rw [Aa (by omega)]
    · rw [Aa h1]; exact Ev.neg h1 (Ev.now _)
  · rw [Aa h0]; exact Ev.neg h0 (Ev.now _)
def fL (s : ByteArray) : Bool := if (s.size : Int) = 800 then (gH s).2 else false
theorem jy (s : ByteArray) : Ev (fun k => ch.f k s) (fL s) := by
  unfold ch.f fL
  by_cases h : (s.size : Int) = 800
  · rw [za h]; exact Ev.pos h (Ev.bind (gw s (by omega)) (Ev.now _))
  · rw [Aa h]; exact Ev.neg h (Ev.now _)
theorem ju (s : ByteArray) : Ev (fun k => ci.f k s) (fL s) := by
  unfold ci.f fL
  by_cases h : (s.size : Int) = 800
  · rw [za h]; exact Ev.pos h (Ev.bind (gN s (by omega)) (Ev.now _))
  · rw [Aa h]; exact Ev.neg h (Ev.now _)
theorem ld {l : List Int} (h : ¬ df l = true) : df l = false := by simpa using h
theorem oM (l : List Int) (hl : l.length ≤ 35184372088832) : ∃ R : List Int, R.length ≤ 256 ∧ Ev (fun k => bf.f k l) R ∧ Ev (fun k => aQ.f k l) R := by
  by_cases h : df l = true
  · obtain ⟨f, rfl, hf⟩ := fK h
    exact ⟨vec (n9 f), by rw [bi]; omega, nm f hf, m6 f hf⟩
  · refine ⟨[], by simp, ?_, ?_⟩
    · unfold bf.f
      exact Ev.bind (bZ l) (Ev.neg h (Ev.now _))
    · unfold aQ.f
      exact Ev.bind (cf l hl) (Ev.neg h (Ev.now _))
theorem qI (l : List Int) (hl : l.length ≤ 35184372088832) : ∃ R : List Int, R.length ≤ 256 ∧ Ev (fun k => am.f k l) R ∧ Ev (fun k => ai.f k l) R := by
  by_cases h : df l = true
  · obtain ⟨f, rfl, hf⟩ := fK h
    exact ⟨vec (pt f), by rw [bi]; omega, lv f hf, kF f hf⟩
  · refine ⟨[], by simp, ?_, ?_⟩
    · unfold am.f
      exact Ev.bind (bZ l) (Ev.neg h (Ev.now _))
    · unfold ai.f
      exact Ev.bind (cf l hl) (Ev.neg h (Ev.now _))
theorem oQ (l u : List Int) (hl : l.length ≤ 35184372088832) (hu : u.length ≤ 35184372088832) : ∃ R : List Int, R.length ≤ 256 ∧ Ev (fun k => ax.f k l u) R ∧ Ev (fun k => aZ.f k l u) R := by
  by_cases h : df l = true
  · by_cases h2 : df u = true
    · obtain ⟨f, rfl, hf⟩ := fK h
      obtain ⟨g, rfl, hg⟩ := fK h2
      exact ⟨vec (cY f g), by rw [bi]; omega, kR f g hf hg, kA f g hf hg⟩
    · refine ⟨[], by simp, ?_, ?_⟩
      · unfold ax.f
        simp only [Option.bind_some]
        refine Ev.bind (bZ l) (Ev.pos h (Ev.bind (bZ u) ?_))
        refine Ev.step (f := fun _ => some []) (fun k => ?_) (Ev.now _)
        simp only [ax.j0]
        rw [za (by rw [ld h2]; rfl)]
      · unfold aZ.f
        refine Ev.bind (cf l hl) (Ev.pos h (Ev.bind (cf u hu) ?_))
        refine Ev.step (f := fun _ => some []) (fun k => ?_) (Ev.now _)
        simp only [aZ.j0]
        rw [za (by rw [ld h2]; rfl)]
  · refine ⟨[], by simp, ?_, ?_⟩
    · unfold ax.f
      simp only [Option.bind_some]
      refine Ev.bind (bZ l) (Ev.neg h ?_)
      refine Ev.step (f := fun _ => some []) (fun k => ?_) (Ev.now _)
      simp only [ax.j0]
      rw [za trivial]
    · unfold aZ.f
      refine Ev.bind (cf l hl) (Ev.neg h ?_)
      refine Ev.step (f := fun _ => some []) (fun k => ?_) (Ev.now _)
      simp only [aZ.j0]
      rw [za trivial]
theorem j5 (a b : Nat → Int) (ha : ∀ i, 0 ≤ a i ∧ a i ≤ 3328) (hb : ∀ i, 0 ≤ b i ∧ b i ≤ 3328) : Ev (fun k => aE.f k (vec a) (vec b)) (vec fun i => (a i + b i) % 3329) := by
  have oka : Ev (fun k => ar.f k (vec a)) true := fD (f := a) (fun i _ => ha i) ▸ bZ (vec a)
  have okb : Ev (fun k => ar.f k (vec b)) true := fD (f := b) (fun i _ => hb i) ▸ bZ (vec b)
  unfold aE.f
  refine Ev.up (g := fun i k => aE.l0 k (vec a) (vec b) ((vec fun i => (a i + b i) % 3329).take i) (i : Int)) (r := vec fun i => (a i + b i) % 3329) 256 ?_ ?_ 0 (by omega)
  · intro i hi h
    obtain ⟨K1, h1⟩ := oka
    obtain ⟨K2, h2⟩ := okb
    obtain ⟨K3, h3⟩ := h
    refine ⟨K1 + K2 + K3 + 1, fun k hk => ?_⟩
    obtain ⟨m, rfl⟩ : ∃ m, k = m + 1 := ⟨k - 1, by omega⟩
    have e1 : ar.f m (vec a) = some true := h1 m (by omega)
    have e2 : ar.f m (vec b) = some true := h2 m (by omega)
    have e3 := h3 m (by omega)
    have ln : (List.take i (vec fun i => (a i + b i) % 3329)).length < 17592186044416 := by rw [List.length_take, bi]; omega
    have t1 := fH (vec fun i => (a i + b i) % 3329) i (by rw [bi]; exact hi)
    rw [fk] at t1
    have hs : 0 ≤ a i + b i ∧ a i + b i ≤ 6656 := by have := ha i; have := hb i; omega
    have em : Int.tmod (wrap64 (a i + b i)) 3329 = (a i + b i) % 3329 := by
      rw [w64 (by omega) (by omega), Int.tmod_eq_emod_of_nonneg hs.1]
    simp only [aE.l0]
    rw [za (show (i : Int) < 256 from Int.ofNat_lt.mpr hi), e1, Option.bind_some, za rfl, e2, Option.bind_some, za rfl, za (Int.natCast_nonneg _), bi, bi, za (Int.ofNat_lt.mpr hi), za (Int.ofNat_lt.mpr hi), za ln, dv a i hi, dv b i hi, em, t1, dm i (Nat.lt_trans hi (by decide))]
    exact e3
  · refine Ev.step (f := fun _ => some (List.take 256 (vec fun i => (a i + b i) % 3329))) (fun k => ?_) ?_
    · simp only [aE.l0]
      rw [Aa (by decide)]
    · rw [List.take_of_length_le (by rw [bi]; decide)]; exact Ev.now _
theorem kt (l u : List Int) (hl : l.length ≤ 35184372088832) (hu : u.length ≤ 35184372088832) : ∃ R : List Int, R.length ≤ 256 ∧ Ev (fun k => aE.f k l u) R ∧ Ev (fun k => bF.f k l u) R := by
  by_cases h : df l = true
  · by_cases h2 : df u = true
    · obtain ⟨f, rfl, hf⟩ := fK h
      obtain ⟨g, rfl, hg⟩ := fK h2
      exact ⟨_, by rw [bi]; omega, j5 f g hf hg, j4 f g hf hg⟩
    · refine ⟨[], by simp, ?_, ?_⟩
      · unfold aE.f
        refine Ev.step (f := fun k => (ar.f k l).bind fun t => if t = true then ((ar.f k u).bind fun t2 => if t2 = true then none else some []) else some []) (fun k => ?_) ?_
        · simp only [aE.l0]
          rw [za (by decide)]
          have : ∀ t2 : Bool, ar.f k u = some t2 → t2 = false := fun t2 e => by
            cases t2 with
            | false => rfl
            | true =>
              exfalso
              obtain ⟨K, hK⟩ := bZ u
              have e1 := js (g := fun k => ar.f k u) (fun k => ar.mono u k) (Nat.le_max_left k K) e
              rw [show ar.f (max k K) u = some (df u) from hK (max k K) (Nat.le_max_right k K), ld h2] at e1
              exact absurd e1 (by decide)
          cases ar.f k l with
          | none => rfl
          | some t =>
            simp only [Option.bind_some]
            cases t with
            | false => rfl
            | true =>
              rw [za rfl, za rfl]
              cases e : ar.f k u with
              | none => rfl
              | some t2 =>
                have := this t2 e
                subst this
                simp
        · exact Ev.bind (bZ l) (Ev.pos h (Ev.bind (bZ u) (Ev.neg h2 (Ev.now _))))
      · unfold bF.f
        refine Ev.bind (a := []) ?_ (Ev.now _)
        unfold ah.f
        refine Ev.bind (cf l hl) (Ev.pos h (Ev.bind (cf u hu) ?_))
        refine Ev.step (f := fun _ => some []) (fun k => ?_) (Ev.now _)
        simp only [ah.j0]
        rw [za (by rw [ld h2]; rfl)]
  · refine ⟨[], by simp, ?_, ?_⟩
    · unfold aE.f
      refine Ev.step (f := fun k => (ar.f k l).bind fun t => if t = true then none else some []) (fun k => ?_) ?_
      · simp only [aE.l0]
        rw [za (by decide)]
        have : ∀ t2 : Bool, ar.f k l = some t2 → t2 = false := fun t2 e => by
          cases t2 with
          | false => rfl
          | true =>
            exfalso
            obtain ⟨K, hK⟩ := bZ l
            have e1 := js (g := fun k => ar.f k l) (fun k => ar.mono l k) (Nat.le_max_left k K) e
            rw [show ar.f (max k K) l = some (df l) from hK (max k K) (Nat.le_max_right k K), ld h] at e1
            exact absurd e1 (by decide)
        cases e : ar.f k l with
        | none => rfl
        | some t =>
          have := this t e
          subst this
          simp
      · exact Ev.bind (bZ l) (Ev.neg h (Ev.now _))
    · unfold bF.f
      refine Ev.bind (a := []) ?_ (Ev.now _)
      unfold ah.f
      refine Ev.bind (cf l hl) (Ev.neg h ?_)
      refine Ev.step (f := fun _ => some []) (fun k => ?_) (Ev.now _)
      simp only [ah.j0]
      rw [za trivial]
/-- Sums of products of two rows of two. -/
theorem qy (a0 a1 b0 b1 : List Int) (h0 : a0.length ≤ 35184372088832) (h1 : a1.length ≤ 35184372088832) (h2 : b0.length ≤ 35184372088832) (h3 : b1.length ≤ 35184372088832) :
    ∃ R : List Int, R.length ≤ 256 ∧ Ev (fun k => bc.f k [a0, a1] [b0, b1]) R ∧ Ev (fun k => bK.f k [a0, a1] [b0, b1]) R := by
  obtain ⟨p, hp, sp, ip⟩ := oQ a0 b0 h0 h2
  obtain ⟨q, hq, sq, iq⟩ := oQ a1 b1 h1 h3
  obtain ⟨u, hu, su, iu⟩ := kt (List.replicate 256 0) p (by rw [List.length_replicate]; decide) (by omega)
  obtain ⟨v, hv, sv, iv⟩ := kt u q (by omega) (by omega)
  have w1 : wrap64 (0 + 1) = 1 := by rw [w64 (by decide) (by decide)]; rfl
  have w2 : wrap64 (1 + 1) = 2 := by rw [w64 (by decide) (by decide)]; rfl
  have la : (([a0, a1] : List (List Int)).length : Int) = 2 := rfl
  have lb : (([b0, b1] : List (List Int)).length : Int) = 2 := rfl
  refine ⟨v, hv, ?_, ?_⟩
  · unfold bc.f
    refine Ev.pos (by decide) ?_
    refine Ev.step (f := fun k => (ax.f k a0 b0).bind fun t => (aE.f k (List.replicate 256 0) t).bind fun t2 => bc.l0 k [a0, a1] [b0, b1] t2 1) (fun k => ?_) (Ev.bind sp (Ev.bind su ?_))
    · simp only [bc.l0]
      rw [la, lb, za (by decide), za (by decide), za (by decide), w1]
      rfl
    refine Ev.step (f := fun k => (ax.f k a1 b1).bind fun t => (aE.f k u t).bind fun t2 => bc.l0 k [a0, a1] [b0, b1] t2 2) (fun k => ?_) (Ev.bind sq (Ev.bind sv ?_))
    · simp only [bc.l0]
      rw [la, lb, za (by decide), za (by decide), za (by decide), w2]
      rfl
    refine Ev.step (f := fun _ => some v) (fun k => ?_) (Ev.now _)
    simp only [bc.l0]
    rw [la, Aa (by decide)]
  · unfold bK.f
    refine Ev.pos (by decide) ?_
    refine Ev.step (f := fun k => (aZ.f k a0 b0).bind fun t => (bF.f k (List.replicate 256 0) t).bind fun t2 => bK.l0 k [a0, a1] [b0, b1] t2 2 1) (fun k => ?_) (Ev.bind ip (Ev.bind iu ?_))
    · simp only [bK.l0]
      rw [la, lb, za (by decide), za (by decide), za (by decide), za (by decide), w1]
      rfl
    refine Ev.step (f := fun k => (aZ.f k a1 b1).bind fun t => (bF.f k u t).bind fun t2 => bK.l0 k [a0, a1] [b0, b1] t2 2 2) (fun k => ?_) (Ev.bind iq (Ev.bind iv ?_))
    · simp only [bK.l0]
      rw [la, lb, za (by decide), za (by decide), za (by decide), za (by decide), w2]
      rfl
    refine Ev.step (f := fun _ => some v) (fun k => ?_) (Ev.now _)
    simp only [bK.l0]
    rw [Aa (by decide)]
def qG (m : ByteArray) (i : Nat) : Int := fQ (((bt m ((i / 8 : Nat) : Int)).toNat / 2 ^ (i % 8) % 2 : Nat) : Int) 1
def eo (m : ByteArray) : List Int := (List.range 256).map (qG m)
theorem eY (m : ByteArray) : (eo m).length = 256 := by simp [eo]
theorem l8 (m : ByteArray) (i : Nat) (h : i < (eo m).length) : (eo m)[i] = qG m i := by simp [eo]
theorem qf (m : ByteArray) (i : Int) : bt m i = (((bt m i).toNat : Nat) : Int) ∧ (bt m i).toNat < 256 := by
  have := dl m i
  omega
theorem w8 (i : Nat) (h : i < 256) : wrap64 (Int.tdiv (i : Int) 8) = ((i / 8 : Nat) : Int) := by
  rw [Int.tdiv_eq_ediv_of_nonneg (by omega), w64 (by omega) (by omega)]; rfl
theorem m8 (i : Nat) : Int.tmod (i : Int) 8 = ((i % 8 : Nat) : Int) := by
  rw [Int.tmod_eq_emod_of_nonneg (by omega)]; rfl
theorem jY (m : ByteArray) (hm : m.size = 32) : Ev (fun k => aY.f k m) (eo m) := by
  unfold aY.f
  refine Ev.up (g := fun i k => aY.l0 k m ((eo m).take i) (i : Int)) (r := eo m) 256 ?_ ?_ 0 (by omega)
  · intro i hi h
    have hb := qf m ((i / 8 : Nat) : Int)
    have c1 : i / 8 < m.size := by omega
    have ww : wrap64 (bt m ((i / 8 : Nat) : Int)) = (((bt m ((i / 8 : Nat) : Int)).toNat : Nat) : Int) := by
      rw [w64 (by omega) (by omega)]; exact hb.1
    have hlt := hb.2
    have ln : (List.take i (eo m)).length < 17592186044416 := by rw [List.length_take, eY]; omega
    have t1 := fH (eo m) i (by rw [eY]; exact hi)
    rw [l8] at t1
    refine Ev.step (f := fun k => aY.l1 k m ((eo m).take i) (i : Int) (((bt m ((i / 8 : Nat) : Int)).toNat : Nat) : Int) 0) (fun k => ?_) ?_
    · simp only [aY.l0]
      rw [za (show (i : Int) < 256 from Int.ofNat_lt.mpr hi), w8 i hi, za (Int.natCast_nonneg _), za (Int.ofNat_lt.mpr c1), ww]
    · have hbit : qG m i = fQ (((bt m ((i / 8 : Nat) : Int)).toNat / 2 ^ (i % 8) % 2 : Nat) : Int) 1 := rfl
      rw [hbit] at t1
      clear hbit ww hb
      generalize (bt m ((i / 8 : Nat) : Int)).toNat = u at t1 hlt ⊢
      have key := Ev.up (g := fun j k => aY.l1 k m ((eo m).take i) (i : Int) ((u / 2 ^ j : Nat) : Int) (j : Int)) (r := eo m) (i % 8) ?_ ?_ 0 (by omega)
      · simpa using key
      · intro j hj h'
        refine Ev.step (fun k => ?_) h'
        have hle : u / 2 ^ j ≤ u := Nat.div_le_self _ _
        have e2 := iK (u / 2 ^ j) (by omega)
        have e5 : u / 2 ^ j / 2 = u / 2 ^ (j + 1) := by rw [Nat.div_div_eq_div_mul, Nat.pow_succ]
        simp only [aY.l1]
        rw [m8, za (Int.ofNat_lt.mpr hj), e2, e5, dm j (by omega)]
      · refine Ev.step (f := fun k => (bw.f k ((u / 2 ^ (i % 8) % 2 : Nat) : Int) 1).bind fun t => aY.l0 k m ((eo m).take i ++ [t]) ((i + 1 : Nat) : Int)) (fun k => ?_) (Ev.bind (ka _ 1) ?_)
        · simp only [aY.l1]
          rw [m8, Aa (Int.lt_irrefl _), lS, dm i (by omega)]
          simp only [za ln]
        · rw [t1]
          exact h
  · refine Ev.step (f := fun _ => some (eo m)) (fun k => ?_) (Ev.now _)
    simp only [aY.l0]
    rw [Aa (by decide), List.take_of_length_le (by rw [eY]; decide)]
theorem kS (m : ByteArray) (hm : m.size = 32) : Ev (fun k => bH.f k m) (eo m) := by
  unfold bH.f
  refine Ev.pos (by decide) ?_
  simp only [Option.bind_some]
  rw [List.length_replicate]
  have e0 : List.take 0 (eo m) ++ List.replicate (256 - 0) (0 : Int) = List.replicate 256 0 := by rw [List.take_zero, List.nil_append]
  suffices key : Ev (fun k => bH.l0 k m (List.take 0 (eo m) ++ List.replicate (256 - 0) 0) ((256 : Nat) : Int) ((0 : Nat) : Int)) (eo m) by rw [e0] at key; exact key
  refine Ev.up (g := fun i k => bH.l0 k m ((eo m).take i ++ List.replicate (256 - i) 0) ((256 : Nat) : Int) (i : Int)) (r := eo m) 256 ?_ ?_ 0 (by omega)
  · intro i hi h
    refine Ev.step (fun k => ?_) h
    have hb := qf m ((i / 8 : Nat) : Int)
    have hlt := hb.2
    have c1 : i / 8 < m.size := by omega
    have ew : wrap64 (Go.bits .and .u8 (shr .u8 (bt m ((i / 8 : Nat) : Int)) ((i % 8 : Nat) : Int)) 1) = (((bt m ((i / 8 : Nat) : Int)).toNat / 2 ^ (i % 8) % 2 : Nat) : Int) := by
      rw [hb.1]
      generalize (bt m ((i / 8 : Nat) : Int)).toNat = u at hlt ⊢
      have hle : u / 2 ^ (i % 8) ≤ u := Nat.div_le_self _ _
      have h2 : u / 2 ^ (i % 8) % 2 < 2 := Nat.mod_lt _ (by decide)
      rw [Int.toNat_natCast, kv .u8 u (i % 8) (by simp [IntKind.bits]; omega), ot _ (by omega)]
      generalize u / 2 ^ (i % 8) % 2 = v at h2 ⊢
      exact w64 (by omega) (by omega)
    have hset := nz (eo m) 0 i (by rw [eY]; exact hi)
    rw [l8] at hset
    simp only [eY] at hset
    have hlen : (List.take i (eo m) ++ List.replicate (256 - i) 0).length = 256 := by rw [List.length_append, List.length_take, eY, List.length_replicate]; omega
    simp only [bH.l0]
    rw [za (Int.ofNat_lt.mpr hi), w8 i hi, za (Int.natCast_nonneg _), za (Int.ofNat_lt.mpr c1), m8, za (Int.natCast_nonneg _), ew, kf, Option.bind_some, za (Int.natCast_nonneg _), hlen, za (Int.ofNat_lt.mpr hi), Int.toNat_natCast, show fQ (((bt m ((i / 8 : Nat) : Int)).toNat / 2 ^ (i % 8) % 2 : Nat) : Int) 1 = qG m i from rfl, hset, dm i (by omega)]
  · refine Ev.step (f := fun _ => some (eo m)) (fun k => ?_) (Ev.now _)
    simp only [bH.l0]
    rw [Aa (by decide), List.take_of_length_le (by rw [eY]; decide), Nat.sub_self, List.replicate_zero, List.append_nil]
theorem nA (f : Int → Int) (l : List Int) (i : Nat) (h : i < l.length) : (l.take i).map f ++ [f l[i]] = (l.take (i + 1)).map f := by
  rw [← List.take_append_getElem h, List.map_append]; rfl
def sqV (l : List Int) (d : Int) : List Int := l.map fun y => en y d
theorem oG (l : List Int) (d : Nat) : (sqV l d).all (gM d) = true := by
  refine List.all_eq_true.mpr fun x hx => ?_
  obtain ⟨y, _, rfl⟩ := List.mem_map.mp hx
  refine ta ?_
  have e : (2 : Int) ^ (d : Int).toNat = 2 ^ d := by rw [Int.toNat_natCast]
  have hp : (1 : Int) ≤ 2 ^ d := by
    have h3 : (1 : Nat) ≤ 2 ^ d := Nat.one_le_two_pow
    have h4 : ((2 ^ d : Nat) : Int) = (2 : Int) ^ d := by simp
    omega
  by_cases h : (0 ≤ y ∧ y ≤ 3328) ∧ 1 ≤ (d : Int) ∧ (d : Int) ≤ 11
  · rw [gV h.1 h.2, e]
    have := Int.emod_nonneg ((2 ^ d * y + 1664) / 3329) (show (2 : Int) ^ d ≠ 0 by omega)
    have := Int.emod_lt_of_pos ((2 ^ d * y + 1664) / 3329) (show (0 : Int) < 2 ^ d by omega)
    omega
  · rw [fc h]
    omega
theorem eH (l : List Int) (d : Nat) (h1 : 1 ≤ d) (h2 : d ≤ 11) (hl : l.length ≤ 1000) : Ev (fun k => aU.f k l (d : Int)) (eV d (sqV l d)) := by
  unfold aU.f
  refine Ev.up (g := fun i k => aU.l0 k l (d : Int) ((l.take i).map fun y => en y d) (i : Int)) (r := eV d (sqV l d)) l.length ?_ ?_ 0 (by omega)
  · intro i hi h
    have ln : ((l.take i).map fun y => en y d).length < 17592186044416 := by rw [List.length_map, List.length_take]; omega
    refine Ev.step (f := fun k => (bv.f k l[i] d).bind fun t => aU.l0 k l (d : Int) (((l.take i).map fun y => en y d) ++ [t]) ((i + 1 : Nat) : Int)) (fun k => ?_) (Ev.bind (kg l[i] d) ?_)
    · simp only [aU.l0]
      rw [za (Int.ofNat_lt.mpr hi), za (Int.natCast_nonneg _), de l i hi, dm i (by omega)]
      simp only [za ln]
    · rw [nA (fun y => en y d) l i hi]
      exact h
  · refine Ev.step (f := fun k => (aX.f k (sqV l d) (d : Int)).bind fun bt => some bt.1) (fun k => ?_) ?_
    · simp only [aU.l0]
      rw [Aa (by omega), List.take_of_length_le (by omega)]
      rfl
    · have e : oO (sqV l d) (d : Int) = (eV d (sqV l d), true) := by
        unfold oO
        rw [Int.toNat_natCast, za ⟨by omega, oG l d⟩]
      have hp := mJ (sqV l d) (d : Int) (by unfold sqV; rw [List.length_map]; omega)
      rw [e] at hp
      exact Ev.bind hp (Ev.now _)
theorem fu (l : List Int) (d : Nat) (hl : l.length ≤ 1000) : Ev (fun k => bk.f k l (d : Int)) (sqV l d) := by
  unfold bk.f
  refine Ev.up (g := fun i k => bk.l0 k (d : Int) ((l.take i).map fun y => en y d) l (l.length : Int) (i : Int)) (r := sqV l d) l.length ?_ ?_ 0 (by omega)
  · intro i hi h
    refine Ev.step (fun k => ?_) h
    have ln : ((l.take i).map fun y => en y d).length < 17592186044416 := by rw [List.length_map, List.length_take]; omega
    simp only [bk.l0]
    rw [za (Int.ofNat_lt.mpr hi), za (Int.natCast_nonneg _), za (Int.ofNat_lt.mpr hi), de l i hi, jZ, Option.bind_some, za ln, nA (fun y => en y d) l i hi, dm i (by omega)]
  · refine Ev.step (f := fun _ => some (sqV l d)) (fun k => ?_) (Ev.now _)
    simp only [bk.l0]
    rw [Aa (by omega), List.take_of_length_le (by omega)]
    rfl
theorem fb (l : List Int) (d : Nat) (h1 : 1 ≤ d) (h2 : d ≤ 11) (hl : l.length ≤ 1000) : Ev (fun k => ay.f k (sqV l d) (d : Int)) (eV d (sqV l d)) :=
  hU (sqV l d) d h1 (by omega) (by unfold sqV; rw [List.length_map]; omega) (oG l d)
theorem nV (s : ByteArray) : ((gH s).2 = true → ∃ a b, (gH s).1 = [a, b] ∧ a.length ≤ 1000 ∧ b.length ≤ 1000) := by
  intro h
  unfold gH at h ⊢
  split
  · split
    · exact ⟨_, _, rfl, iC _, iC _⟩
    · rename_i h1 h2
      rw [za h1, Aa h2] at h
      exact absurd h (by decide)
  · rename_i h1
    rw [Aa h1] at h
    exact absurd h (by decide)
def W64 (x : Int) : Prop := 0 ≤ x ∧ x < 18446744073709551616
theorem fx (x : Int) : IntKind.u64.wrap x = x % 18446744073709551616 := IntKind.wrap_u64 x
theorem W64.mod (x : Int) : W64 (x % 18446744073709551616) := by unfold W64; omega
theorem W64.wrap (x : Int) : W64 (IntKind.u64.wrap x) := by rw [fx]; exact W64.mod _
theorem W64.xor (a b : Int) : W64 (Go.bits .xor .u64 a b) := W64.wrap _
theorem W64.or (a b : Int) : W64 (Go.bits .or .u64 a b) := W64.wrap _
theorem oC : ∀ n : Int, 0 ≤ n → n < 2 ^ 64 → IntKind.u64.wrap n = n := fun n h0 h1 => by rw [fx]; omega
theorem rK (i : Nat) (x y : Int) (hx : W64 x) (hi : x % 2 ^ i = 0) (hy : W64 y) (hyi : y < 2 ^ i) : Go.bits .or .u64 x y = x + y :=
  bits_join .u64 64 (by decide) oC i x y hx.1 hi (by have := hx.2; omega) hy.1 hyi (by have := hy.2; omega)
theorem r7 (i : Nat) (x y : Int) (hx : W64 x) (hxi : x < 2 ^ i) (hy : W64 y) (hi : y % 2 ^ i = 0) : Go.bits .or .u64 x y = x + y := by
  have h : Go.bits .or .u64 x y = Go.bits .or .u64 y x := by
    show IntKind.u64.wrap (((BitVec.ofInt 64 x ||| BitVec.ofInt 64 y).toNat : Nat) : Int) = IntKind.u64.wrap (((BitVec.ofInt 64 y ||| BitVec.ofInt 64 x).toNat : Nat) : Int)
    rw [BitVec.or_comm]
  rw [h, rK i y x hy hi hx hxi, Int.add_comm]
theorem pU (a b : Nat) (ha : a < 2 ^ 64) (hb : b < 2 ^ 64) : Go.bits .xor .u64 (a : Int) (b : Int) = ((a ^^^ b : Nat) : Int) := by
  show IntKind.u64.wrap (((BitVec.ofInt 64 (a : Int) ^^^ BitVec.ofInt 64 (b : Int)).toNat : Nat) : Int) = _
  have e1 : (BitVec.ofInt 64 (a : Int) ^^^ BitVec.ofInt 64 (b : Int)).toNat = a ^^^ b := by
    rw [BitVec.toNat_xor, BitVec.toNat_ofInt, BitVec.toNat_ofInt]
    congr 1 <;> omega
  rw [e1]
  have := Nat.xor_lt_two_pow ha hb
  exact oC _ (by omega) (by omega)
theorem nn (x : Int) (h : W64 x) : Go.bits .xor .u64 0 x = x := by
  obtain ⟨n, rfl⟩ := Int.eq_ofNat_of_zero_le h.1
  have := pU 0 n (by omega) (by have := h.2; omega)
  rw [Nat.zero_xor] at this
  exact this
theorem po (e : Int) (h : W64 e) : IntKind.u64.wrap (18446744073709551615 - e) = kD e := by
  obtain ⟨n, rfl⟩ := Int.eq_ofNat_of_zero_le h.1
  have hn : n < 18446744073709551616 := by have := h.2; omega
  unfold kD
  show _ = IntKind.u64.wrap (((BitVec.ofInt 64 18446744073709551615 ^^^ BitVec.ofInt 64 (n : Int)).toNat : Nat) : Int)
  have h1 : (BitVec.ofInt 64 18446744073709551615 ^^^ BitVec.ofInt 64 (n : Int)).toNat = 18446744073709551615 - n := by
    have e1 : BitVec.ofInt 64 18446744073709551615 = BitVec.allOnes 64 := by decide
    rw [e1, BitVec.allOnes_xor, BitVec.toNat_not, BitVec.toNat_ofInt]
    omega
  rw [h1, fx, fx]
  omega
theorem rB (x : Int) (n : Nat) : W64 (hZ x n) := W64.or _ _
theorem mg (x : Int) (h : W64 x) : hZ x 0 = x := by
  unfold hZ
  have h1 := h.1
  have h2 := h.2
  have e : x / 2 ^ (64 - 0) = 0 := Int.ediv_eq_zero_of_lt h1 (by simpa using h2)
  rw [e, fx, show x * 2 ^ 0 % 18446744073709551616 = x by omega, rK 0 x 0 h (by omega) ⟨by decide, by decide⟩ (by decide)]
  omega
/-- A gy turned left, by doubling. -/
theorem o8 (x : Int) (n : Nat) (hn : n < 64) (r : Int) (h : Ev (fun k => bm.l0 k x (n : Int) ((2 ^ n : Nat) : Int) (n : Int)) r) : Ev (fun k => bm.f k x (n : Int)) r := by
  refine Ev.up (g := fun i k => bm.l0 k x (n : Int) ((2 ^ i : Nat) : Int) (i : Int)) n ?_ h 0 (Nat.zero_le _)
  intro i hi hh
  refine Ev.step (fun k => ?_) hh
  have hp : 2 ^ (i + 1) < 2 ^ 64 := Nat.pow_lt_pow_right (by decide) (by omega)
  simp only [bm.l0]
  rw [za (by omega), dm i (by omega), fx]
  congr 1
  rw [Nat.pow_succ] at hp ⊢
  omega
theorem ox (x : Int) (n : Nat) (h : W64 x) (hn : n < 64) : Ev (fun k => bm.f k x (n : Int)) (hZ x n) := by
  refine o8 x n hn _ ?_
  refine Ev.step (f := fun _ => some (hZ x n)) (fun k => ?_) (Ev.now _)
  simp only [bm.l0]
  rw [Aa (by omega)]
  by_cases h0 : n = 0
  · subst h0
    rw [za (by rfl), mg x h]
  rw [Aa (by omega)]
  obtain ⟨A, hA⟩ : ∃ A : Nat, A = 2 ^ n := ⟨_, rfl⟩
  obtain ⟨B, hB⟩ : ∃ B : Nat, B = 2 ^ (64 - n) := ⟨_, rfl⟩
  obtain ⟨C, hC⟩ : ∃ C : Nat, C = 2 ^ (63 - n) := ⟨_, rfl⟩
  have hA0 : 0 < A := by rw [hA]; exact Nat.pow_pos (by decide)
  have hC0 : 0 < C := by rw [hC]; exact Nat.pow_pos (by decide)
  have hCA : C * A = 9223372036854775808 := by rw [hA, hC, ← Nat.pow_add, show 63 - n + n = 63 by omega]
  have hBC : B = C * 2 := by rw [hB, hC, show 64 - n = 63 - n + 1 by omega, Nat.pow_succ]
  have hA2 : A < 18446744073709551616 := by have h4 : 2 ^ n < 2 ^ 64 := Nat.pow_lt_pow_right (by decide) hn; omega
  have hC2 : C ≤ 4611686018427387904 := by
    have : C ≤ 2 ^ 62 := by rw [hC]; exact Nat.pow_le_pow_right (by decide) (by omega)
    omega
  rw [← hA, Aa (by omega)]
  have e1 : Int.tdiv (9223372036854775808 : Int) (A : Int) = (C : Int) := by
    rw [Int.tdiv_eq_ediv_of_nonneg (by decide), show (9223372036854775808 : Int) = ((C * A : Nat) : Int) by rw [hCA]; rfl]
    rw [← Int.natCast_ediv, Nat.mul_div_cancel _ hA0]
  have e2 : IntKind.u64.wrap ((IntKind.u64.wrap (C : Int)) * 2) = (B : Int) := by rw [fx, fx]; omega
  rw [e1, e2, Aa (by omega)]
  have hx1 := h.1
  have hx2 := h.2
  rw [Int.tdiv_eq_ediv_of_nonneg hx1]
  obtain ⟨m, rfl⟩ := Int.eq_ofNat_of_zero_le hx1
  have hm : m < 18446744073709551616 := by omega
  have hBA : B * A = 18446744073709551616 := by rw [hBC, Nat.mul_assoc, Nat.mul_comm 2 A, ← Nat.mul_assoc, hCA]
  have hd : m / B < A := Nat.div_lt_of_lt_mul (by rw [hBA]; exact hm)
  have hlow : m * A % 18446744073709551616 = (m % B) * A := by
    rw [← hBA, Nat.mul_mod_mul_right]
  have hAi : (2 : Int) ^ n = (A : Int) := by rw [hA, Int.natCast_pow]; rfl
  have hBi : (2 : Int) ^ (64 - n) = (B : Int) := by rw [hB, Int.natCast_pow]; rfl
  have hq : ((m : Int) / 2 ^ (64 - n)) = ((m / B : Nat) : Int) := by rw [hBi, ← Int.natCast_ediv]
  have hp2 : IntKind.u64.wrap ((m : Int) * (A : Int)) = (((m % B) * A : Nat) : Int) := by
    rw [fx, ← hlow, ← Int.natCast_mul]
    generalize m * A = z
    omega
  have hp : IntKind.u64.wrap ((m : Int) * 2 ^ n) = (((m % B) * A : Nat) : Int) := by rw [hAi, hp2]
  have hlt : (m % B) * A < 18446744073709551616 := by rw [← hlow]; exact Nat.mod_lt _ (by decide)
  have hsum : (m % B) * A + m / B < 18446744073709551616 := by
    have h3 : (m % B + 1) * A ≤ B * A := Nat.mul_le_mul_right _ (Nat.mod_lt _ (by omega))
    rw [hBA, Nat.add_mul, Nat.one_mul] at h3
    omega
  unfold hZ
  rw [hp, hp2, hq]
  have hmn : (((m % B) * A : Nat) : Int) % 2 ^ n = 0 := by rw [hAi, ← Int.natCast_emod, Nat.mul_mod_left]; rfl
  rw [← Int.natCast_ediv]
  generalize (m % B) * A = z at hlt hsum hmn ⊢
  generalize m / B = y at hd hsum ⊢
  rw [rK n (z : Int) (y : Int) ⟨by omega, by omega⟩ hmn ⟨by omega, by omega⟩ (by rw [hAi]; omega), fx, fx]
  congr 1
  omega
theorem fl (l : List Int) (i j : Nat) (v : Int) (hi : i < l.length) : rd (l.set i v) (j : Int) = if j = i then v else rd l (j : Int) := by
  rw [jq, jq, List.getD_eq_getElem?_getD, List.getD_eq_getElem?_getD, List.getElem?_set]
  by_cases h : i = j
  · subst h
    rw [za rfl, za rfl, za hi]; rfl
  · rw [Aa h, Aa (Ne.symm h)]
theorem fN (n j : Nat) : rd (List.replicate n 0) (j : Int) = 0 := by
  rw [jq, List.getD_eq_getElem?_getD]
  by_cases h : j < n
  · rw [List.getElem?_replicate_of_lt h]; rfl
  · rw [List.getElem?_eq_none (by rw [List.length_replicate]; omega)]; rfl
theorem g9 {l u : List Int} (h : l.length = u.length) (hr : ∀ i : Nat, i < l.length → rd l (i : Int) = rd u (i : Int)) : l = u := by
  apply List.ext_getElem h
  intro i h1 h2
  have := hr i h1
  rw [de l i h1, de u i h2] at this
  exact this
theorem ly {P : Int → Prop} {l : List Int} (h : ∀ x ∈ l, P x) (i : Nat) (hi : i < l.length) : P (rd l (i : Int)) := by
  rw [de l i hi]; exact h _ (List.getElem_mem hi)
def xr (a b : Int) : Int := Go.bits .xor .u64 a b
/-- A column's sum, n of its lanes. -/
def qi (a : List Int) (x : Nat) : Nat → Int
  | 0 => 0
  | n + 1 => xr (qi a x n) (rd a ((x + 5 * n : Nat) : Int))
theorem mz (a : List Int) (x : Nat) (hx : x < 5) : ∀ m, rd (thC a m) (x : Int) = qi a x ((m + 4 - x) / 5)
  | 0 => by
    rw [show (0 + 4 - x) / 5 = 0 by omega]
    exact fN 5 x
  | m + 1 => by
    simp only [thC]
    rw [fl _ _ _ _ (by rw [ja]; omega), mz a x hx m]
    by_cases h : x = m % 5
    · rw [za h, ← h, mz a x hx m, show (m + 1 + 4 - x) / 5 = (m + 4 - x) / 5 + 1 by omega]
      simp only [qi, xr]
      rw [show x + 5 * ((m + 4 - x) / 5) = m by omega]
    · rw [Aa h, show (m + 1 + 4 - x) / 5 = (m + 4 - x) / 5 by omega]
/-- What is mixed into column x. -/
def nZ (c : List Int) (x : Nat) : Int := xr (rd c (((x + 4) % 5 : Nat) : Int)) (hZ (rd c (((x + 1) % 5 : Nat) : Int)) 1)
theorem nJ (a c : List Int) (i : Nat) : ∀ m, m ≤ a.length → rd (thA a c m) (i : Int) = if i < m then xr (rd a (i : Int)) (nZ c (i % 5)) else rd a (i : Int)
  | 0, _ => by rw [Aa (by omega)]; rfl
  | m + 1, h => by
    simp only [thA]
    rw [fl _ _ _ _ (by rw [kj]; omega), nJ a c i m (by omega)]
    by_cases e : i = m
    · subst e
      rw [za rfl, za (by omega), nJ a c i i (by omega), Aa (by omega)]
      rfl
    · rw [Aa e]
      by_cases e2 : i < m
      · rw [za e2, za (by omega)]
      · rw [Aa e2, Aa (by omega)]
theorem ob (a : List Int) (i : Nat) : ∀ m, m ≤ 25 → rd (chA a m) (i : Int) = if i < m then xr (rd a (i : Int)) (Go.bits .and .u64 (kD (rd a (((i % 5 + 1) % 5 + 5 * (i / 5) : Nat) : Int))) (rd a (((i % 5 + 2) % 5 + 5 * (i / 5) : Nat) : Int))) else 0
  | 0, _ => by rw [Aa (by omega)]; exact fN 25 i
  | m + 1, h => by
    simp only [chA]
    rw [fl _ _ _ _ (by rw [fW]; omega), ob a i m (by omega)]
    by_cases e : i = m
    · subst e
      rw [za rfl, za (by omega)]
      rfl
    · rw [Aa e]
      by_cases e2 : i < m
      · rw [za e2, za (by omega)]
      · rw [Aa e2, Aa (by omega)]
/-- Where the lane at (x, y) gJ. -/
def gJ (x y : Nat) : Nat := y + 5 * ((2 * x + 3 * y) % 5)
theorem pn : ∀ x < 5, ∀ y < 5, ∀ u < 5, ∀ v < 5, gJ x y = gJ u v → x = u ∧ y = v := by
  intro x hx y hy u hu v hv h
  unfold gJ at h
  have e : y = v := by omega
  subst e
  have e2 : (2 * x + 3 * y) % 5 = (2 * u + 3 * y) % 5 := by omega
  clear h
  omega
theorem oA (x y : Nat) (hy : y < 5) : gJ x y < 25 := by unfold gJ; omega
theorem ng : ∀ i < 25, ∃ x < 5, ∃ y < 5, gJ x y = i := by decide
def ft : List Int := [0, 1, 62, 28, 27, 36, 44, 6, 55, 20, 3, 10, 43, 25, 39, 41, 45, 15, 21, 8, 18, 2, 61, 56, 14]
theorem oy : ∀ t < 24, (eB (t + 1)).1 + 5 * (eB (t + 1)).2 ≠ 0 := by decide
theorem rn : ∀ s < 24, ∀ t < 24, (eB (s + 1)).1 + 5 * (eB (s + 1)).2 = (eB (t + 1)).1 + 5 * (eB (t + 1)).2 → s = t := by decide
theorem pM (a : List Int) (s : Nat) (hs : s < 24) : ∀ t, t ≤ 24 → rd (rpA a t) (((eB (s + 1)).1 + 5 * (eB (s + 1)).2 : Nat) : Int) = if s < t then hZ (rd a (((eB s).1 + 5 * (eB s).2 : Nat) : Int)) (rpN s) else 0
  | 0, _ => by
    rw [Aa (by omega)]
    simp only [rpA]
    rw [fl _ _ _ _ (by decide), Aa (oy s hs)]
    exact fN 25 _
  | t + 1, h => by
    simp only [rpA]
    have hl := mq (t + 1)
    rw [fl _ _ _ _ (by rw [gL]; omega), pM a s hs t (by omega)]
    by_cases e : s = t
    · subst e
      rw [za rfl, za (by omega)]
    · rw [Aa (fun h2 => e (rn s hs t (by omega) h2))]
      by_cases e2 : s < t
      · rw [za e2, za (by omega)]
      · rw [Aa e2, Aa (by omega)]
theorem oB (a : List Int) : ∀ t, t ≤ 24 → rd (rpA a t) ((0 : Nat) : Int) = rd a ((0 : Nat) : Int)
  | 0, _ => by
    simp only [rpA]
    rw [fl _ _ _ _ (by decide), za rfl]
  | t + 1, h => by
    simp only [rpA]
    have hl := mq (t + 1)
    rw [fl _ _ _ _ (by rw [gL]; omega), Aa (Ne.symm (oy t (by omega))), oB a t (by omega)]
theorem qS : ∀ x < 5, ∀ y < 5, (x = 0 ∧ y = 0) ∨ ∃ t < 24, (eB t).1 = x ∧ (eB t).2 = y ∧ gJ x y = (eB (t + 1)).1 + 5 * (eB (t + 1)).2 ∧ rd ft ((x + 5 * y : Nat) : Int) = ((rpN t : Nat) : Int) ∧ rpN t < 64 := by decide
/-- A lane turned and moved. -/
theorem nt (a : List Int) (ha : ∀ x ∈ a, W64 x) (hl : a.length = 25) (x y : Nat) (hx : x < 5) (hy : y < 5) : ∃ n < 64, rd ft ((x + 5 * y : Nat) : Int) = ((n : Nat) : Int) ∧ rd (dU.v a) ((gJ x y : Nat) : Int) = hZ (rd a ((x + 5 * y : Nat) : Int)) n := by
  rcases qS x hx y hy with ⟨rfl, rfl⟩ | ⟨t, ht, h1, h2, h3, h4, h5⟩
  · refine ⟨0, by decide, by decide, ?_⟩
    rw [mg _ (ly ha _ (by omega))]
    exact oB a 24 (wa _)
  · refine ⟨rpN t, h5, h4, ?_⟩
    rw [h3, dU.v, pM a t ht 24 (wa _), za ht, h1, h2]
theorem mN (a : List Int) (hl : a.length = 25) (i : Nat) (hi : i < 25) : rd (dq.v a) (i : Int) = xr (rd a (i : Int)) (nZ (thC a 25) (i % 5)) := by
  unfold dq.v
  rw [nJ a _ i 25 (by omega), za hi]
theorem mv {P : Int → Prop} {l : List Int} (h : ∀ i : Nat, i < l.length → P (rd l (i : Int))) : ∀ x ∈ l, P x := by
  intro x hx
  obtain ⟨i, hi, rfl⟩ := List.mem_iff_getElem.mp hx
  have := h i hi
  rw [de l i hi] at this
  exact this
theorem qM (a : List Int) (hl : a.length = 25) : ∀ x ∈ dq.v a, W64 x :=
  mv fun i hi => by rw [mN a hl i (by rw [jC a hl] at hi; exact hi)]; exact W64.xor _ _
theorem rS (a : List Int) : ∀ x ∈ dG.v a, W64 x :=
  mv fun i hi => by
    unfold dG.v at hi ⊢
    rw [fW] at hi
    rw [ob a i 25 (wa _), za hi]; exact W64.xor _ _
theorem rM (a : List Int) (j : Nat) (hj : j < 5) : W64 (rd (thC a 25) (j : Int)) := by
  rw [mz a j hj 25, show (25 + 4 - j) / 5 = 5 by omega]
  exact W64.xor _ _
/-- The columns' gR, as the reference makes them. -/
def cL (a : List Int) : Nat → List Int
  | 0 => List.replicate 5 0
  | i + 1 => (cL a i).set i (xr (xr (xr (xr (rd a (i : Int)) (rd a ((i + 5 : Nat) : Int))) (rd a ((i + 10 : Nat) : Int))) (rd a ((i + 15 : Nat) : Int))) (rd a ((i + 20 : Nat) : Int)))
theorem kE (a : List Int) : ∀ i, (cL a i).length = 5
  | 0 => rfl
  | i + 1 => by simp only [cL, List.length_set, kE a i]
theorem rl (a : List Int) (j : Nat) : ∀ i, i ≤ 5 → j < i → rd (cL a i) (j : Int) = xr (xr (xr (xr (rd a (j : Int)) (rd a ((j + 5 : Nat) : Int))) (rd a ((j + 10 : Nat) : Int))) (rd a ((j + 15 : Nat) : Int))) (rd a ((j + 20 : Nat) : Int))
  | 0, _, h => absurd h (by omega)
  | i + 1, h, hj => by
    simp only [cL]
    rw [fl _ _ _ _ (by rw [kE]; omega)]
    by_cases e : j = i
    · subst e; rw [za rfl]
    · rw [Aa e, rl a j i (by omega) (by omega)]
theorem rz (a : List Int) (hl : a.length = 25) (ha : ∀ x ∈ a, W64 x) : cL a 5 = thC a 25 := by
  apply g9 (by rw [kE, ja])
  intro i hi
  rw [kE] at hi
  rw [rl a i 5 (wa _) hi, mz a i hi 25, show (25 + 4 - i) / 5 = 5 by omega]
  simp only [qi, xr]
  rw [show i + 5 * 0 = i by omega, nn _ (ly ha i (by omega))]
/-- The lanes turned and moved, n of them, as the reference makes them. -/
def bL (a : List Int) : Nat → List Int
  | 0 => List.replicate 25 0
  | n + 1 => (bL a n).set (gJ (n / 5) (n % 5)) (hZ (xr (rd a ((n / 5 + 5 * (n % 5) : Nat) : Int)) (nZ (thC a 25) (n / 5))) (rd ft ((n / 5 + 5 * (n % 5) : Nat) : Int)).toNat)
theorem iR (a : List Int) : ∀ i, (bL a i).length = 25
  | 0 => rfl
  | i + 1 => by simp only [bL, List.length_set, iR a i]
theorem pQ (a : List Int) (x y : Nat) (hx : x < 5) (hy : y < 5) : ∀ n, n ≤ 25 → 5 * x + y < n → rd (bL a n) ((gJ x y : Nat) : Int) = hZ (xr (rd a ((x + 5 * y : Nat) : Int)) (nZ (thC a 25) x)) (rd ft ((x + 5 * y : Nat) : Int)).toNat
  | 0, _, h => absurd h (by omega)
  | n + 1, h, hj => by
    simp only [bL]
    rw [fl _ _ _ _ (by rw [iR]; exact oA _ _ (by omega))]
    by_cases e : 5 * x + y = n
    · have e1 : n / 5 = x := by omega
      have e2 : n % 5 = y := by omega
      rw [e1, e2, za rfl]
    · rw [Aa (fun h2 => by have := pn x hx y hy (n / 5) (by omega) (n % 5) (by omega) h2; omega), pQ a x y hx hy n (by omega) (by omega)]
theorem pP (a : List Int) (hl : a.length = 25) : bL a 25 = dU.v (dq.v a) := by
  apply g9 (by rw [iR, lR])
  intro i hi
  rw [iR] at hi
  obtain ⟨x, hx, y, hy, rfl⟩ := ng i hi
  obtain ⟨n, hn, h1, h2⟩ := nt (dq.v a) (qM a hl) (jC a hl) x y hx hy
  rw [pQ a x y hx hy 25 (wa _) (by omega), h1, h2, mN a hl _ (by omega), show (x + 5 * y) % 5 = x by omega, Int.toNat_natCast]
/-- The rows mixed, n lanes, as the reference makes them. -/
def hL (b : List Int) : Nat → List Int
  | 0 => List.replicate 25 0
  | n + 1 => (hL b n).set (n / 5 + 5 * (n % 5)) (xr (rd b ((n / 5 + 5 * (n % 5) : Nat) : Int)) (Go.bits .and .u64 (kD (rd b (((n / 5 + 1) % 5 + 5 * (n % 5) : Nat) : Int))) (rd b (((n / 5 + 2) % 5 + 5 * (n % 5) : Nat) : Int))))
theorem jn (b : List Int) : ∀ i, (hL b i).length = 25
  | 0 => rfl
  | i + 1 => by simp only [hL, List.length_set, jn b i]
theorem rh (b : List Int) (x y : Nat) (hx : x < 5) (hy : y < 5) : ∀ n, n ≤ 25 → 5 * x + y < n → rd (hL b n) ((x + 5 * y : Nat) : Int) = xr (rd b ((x + 5 * y : Nat) : Int)) (Go.bits .and .u64 (kD (rd b (((x + 1) % 5 + 5 * y : Nat) : Int))) (rd b (((x + 2) % 5 + 5 * y : Nat) : Int)))
  | 0, _, h => absurd h (by omega)
  | n + 1, h, hj => by
    simp only [hL]
    rw [fl _ _ _ _ (by rw [jn]; omega)]
    by_cases e : 5 * x + y = n
    · have e1 : n / 5 = x := by omega
      have e2 : n % 5 = y := by omega
      rw [e1, e2, za rfl]
    · rw [Aa (by omega), rh b x y hx hy n (by omega) (by omega)]
theorem rJ (b : List Int) : hL b 25 = dG.v b := by
  apply g9 (by rw [jn]; exact (fW _ _).symm)
  intro i hi
  rw [jn] at hi
  have h1 := rh b (i % 5) (i / 5) (by omega) (by omega) 25 (wa _) (by omega)
  rw [show i % 5 + 5 * (i / 5) = i by omega] at h1
  rw [h1, dG.v, ob b i 25 (wa _), za hi]
def nE (a : List Int) (rc : Int) : List Int := (eI a).set 0 (Go.bits .xor .u64 (rd (eI a) ((0 : Nat) : Int)) rc)
theorem pO (b : List Int) (hb : b.length = 25) (hw : ∀ x ∈ b, W64 x) (rc : Int) : Ev (fun k => af.l3 k rc b (List.replicate 25 0) 0) ((dG.v b).set 0 (Go.bits .xor .u64 (rd (dG.v b) ((0 : Nat) : Int)) rc)) := by
  refine Ev.up (g := fun i k => af.l3 k rc b (hL b (5 * i)) (i : Int)) 5 ?_ ?_ 0 (Nat.zero_le _)
  · intro x hx hh
    refine Ev.step (f := fun k => af.l4 k rc b (hL b (5 * x)) (x : Int) 0) (fun k => ?_) ?_
    · simp only [af.l3]
      rw [za (by omega)]
    · refine Ev.up (g := fun j k => af.l4 k rc b (hL b (5 * x + j)) (x : Int) (j : Int)) 5 ?_ ?_ 0 (Nat.zero_le _)
      · intro y hy h2
        refine Ev.step (fun k => ?_) h2
        have e1 : wrap64 ((x : Int) + wrap64 (5 * (y : Int))) = ((x + 5 * y : Nat) : Int) := by
          rw [w64 (x := 5 * (y : Int)) (by omega) (by omega), w64 (by omega) (by omega)]; omega
        have e2 : wrap64 (Int.tmod (wrap64 ((x : Int) + 1)) 5 + wrap64 (5 * (y : Int))) = (((x + 1) % 5 + 5 * y : Nat) : Int) := by
          rw [w64 (x := (x : Int) + 1) (by omega) (by omega), w64 (x := 5 * (y : Int)) (by omega) (by omega), Int.tmod_eq_emod_of_nonneg (by omega), w64 (by omega) (by omega)]; omega
        have e3 : wrap64 (Int.tmod (wrap64 ((x : Int) + 2)) 5 + wrap64 (5 * (y : Int))) = (((x + 2) % 5 + 5 * y : Nat) : Int) := by
          rw [w64 (x := (x : Int) + 2) (by omega) (by omega), w64 (x := 5 * (y : Int)) (by omega) (by omega), Int.tmod_eq_emod_of_nonneg (by omega), w64 (by omega) (by omega)]; omega
        simp only [af.l4, e1, e2, e3]
        have hl := jn b (5 * x + y)
        rw [za (by omega), za (by omega), za (by omega), za (by omega), za (by omega), za (by omega), za (by omega), za (by omega), dm y (by omega), po _ (ly hw _ (by omega)), Int.toNat_natCast]
        congr 1
        show _ = hL b (5 * x + y + 1)
        simp only [hL, xr]
        rw [show (5 * x + y) / 5 = x by omega, show (5 * x + y) % 5 = y by omega]
      · refine Ev.step (fun k => ?_) hh
        simp only [af.l4]
        rw [Aa (by omega), dm x (by omega)]
        rfl
  · refine Ev.step (f := fun _ => some ((dG.v b).set 0 (Go.bits .xor .u64 (rd (dG.v b) ((0 : Nat) : Int)) rc))) (fun k => ?_) (Ev.now _)
    simp only [af.l3]
    have hl := jn b 25
    rw [Aa (by omega), show 5 * 5 = 25 from rfl, za (by omega), rJ]
    rfl
theorem qk (x y : Nat) (hx : x < 5) (hy : y < 5) : wrap64 ((y : Int) + wrap64 (5 * Int.tmod (wrap64 (wrap64 (2 * (x : Int)) + wrap64 (3 * (y : Int)))) 5)) = ((gJ x y : Nat) : Int) := by
  have h1 : wrap64 (2 * (x : Int)) = 2 * (x : Int) := w64 (by omega) (by omega)
  have h2 : wrap64 (3 * (y : Int)) = 3 * (y : Int) := w64 (by omega) (by omega)
  have h3 : wrap64 (2 * (x : Int) + 3 * (y : Int)) = 2 * (x : Int) + 3 * (y : Int) := w64 (by omega) (by omega)
  rw [h1, h2, h3, Int.tmod_eq_emod_of_nonneg (by omega)]
  have h4 : wrap64 (5 * ((2 * (x : Int) + 3 * (y : Int)) % 5)) = 5 * ((2 * (x : Int) + 3 * (y : Int)) % 5) := w64 (by omega) (by omega)
  rw [h4, w64 (by omega) (by omega)]
  unfold gJ
  omega
theorem qz (x y : Nat) (hx : x < 5) (hy : y < 5) : wrap64 ((x : Int) + wrap64 (5 * (y : Int))) = ((x + 5 * y : Nat) : Int) := by
  have h1 : wrap64 (5 * (y : Int)) = 5 * (y : Int) := w64 (by omega) (by omega)
  rw [h1, w64 (by omega) (by omega)]
  omega
theorem pZ (a c T : List Int) (B : Nat → List Int) (hl : a.length = 25) (rc : Int) (r : List Int) (hc : c.length = 5) (hcw : ∀ j : Nat, j < 5 → W64 (rd c (j : Int))) (htl : T.length = 25)
    (hT : ∀ x y : Nat, x < 5 → y < 5 → ∃ n < 64, rd T ((x + 5 * y : Nat) : Int) = ((n : Nat) : Int)) (hB0 : B 0 = List.replicate 25 0) (hBl : ∀ n, (B n).length = 25)
    (hBs : ∀ x y : Nat, x < 5 → y < 5 → B (5 * x + y + 1) = (B (5 * x + y)).set (gJ x y) (hZ (xr (rd a ((x + 5 * y : Nat) : Int)) (nZ c x)) (rd T ((x + 5 * y : Nat) : Int)).toNat))
    (h : Ev (fun k => af.l3 k rc (B 25) (List.replicate 25 0) 0) r) : Ev (fun k => af.l1 k a T rc c (List.replicate 25 0) 0) r := by
  rw [← hB0]
  refine Ev.up (g := fun i k => af.l1 k a T rc c (B (5 * i)) (i : Int)) 5 ?_ ?_ 0 (Nat.zero_le _)
  · intro x hx hh
    have e1 : Int.tmod (wrap64 ((x : Int) + 4)) 5 = (((x + 4) % 5 : Nat) : Int) := by
      rw [w64 (x := (x : Int) + 4) (by omega) (by omega), Int.tmod_eq_emod_of_nonneg (by omega)]; omega
    have e2 : Int.tmod (wrap64 ((x : Int) + 1)) 5 = (((x + 1) % 5 : Nat) : Int) := by
      rw [w64 (x := (x : Int) + 1) (by omega) (by omega), Int.tmod_eq_emod_of_nonneg (by omega)]; omega
    refine Ev.step (f := fun k => (bm.f k (rd c (((x + 1) % 5 : Nat) : Int)) ((1 : Nat) : Int)).bind fun t => af.l2 k a T rc c (B (5 * x)) (x : Int) (Go.bits .xor .u64 (rd c (((x + 4) % 5 : Nat) : Int)) t) ((0 : Nat) : Int)) (fun k => ?_) ?_
    · simp only [af.l1, e1, e2]
      rw [za (by omega), za (by omega), za (by omega), za (by omega), za (by omega)]
      rfl
    · refine Ev.bind (ox _ 1 (hcw _ (by omega)) (by decide)) ?_
      have hm : Go.bits .xor .u64 (rd c (((x + 4) % 5 : Nat) : Int)) (hZ (rd c (((x + 1) % 5 : Nat) : Int)) 1) = nZ c x := rfl
      rw [hm]
      clear hm e1 e2
      have hB2 := fun y hy => hBs x y hx hy
      generalize nZ c x = D at hB2 ⊢
      refine Ev.up (g := fun j k => af.l2 k a T rc c (B (5 * x + j)) (x : Int) D (j : Int)) 5 ?_ ?_ 0 (Nat.zero_le _)
      · intro y hy h2
        have hg := oA x y hy
        have hbl := hBl (5 * x + y)
        have c1 : (y : Int) < 5 := by omega
        have c2 : (0 : Int) ≤ ((x + 5 * y : Nat) : Int) := by omega
        have c3 : ((x + 5 * y : Nat) : Int) < (a.length : Int) := by rw [hl]; omega
        have c4 : ((x + 5 * y : Nat) : Int) < (T.length : Int) := by rw [htl]; omega
        have c5 : y < 9223372036854775807 := by omega
        have c6 : (0 : Int) ≤ ((gJ x y : Nat) : Int) := by omega
        have c7 : ((gJ x y : Nat) : Int) < ((B (5 * x + y)).length : Int) := by rw [hbl]; omega
        have e1 := qz x y hx hy
        have e2 := qk x y hx hy
        obtain ⟨n, hn, h3⟩ := hT x y hx hy
        refine Ev.step (f := fun k => (bm.f k (Go.bits .xor .u64 (rd a ((x + 5 * y : Nat) : Int)) D) ((n : Nat) : Int)).bind fun t => af.l2 k a T rc c ((B (5 * x + y)).set (gJ x y) t) (x : Int) D ((y + 1 : Nat) : Int)) (fun k => ?_) ?_
        · simp only [af.l2, e1, e2, h3]
          rw [za c1, za c2, za c3, za c4, dm y c5]
          congr 1
          funext t
          rw [za c6, za c7, Int.toNat_natCast]
        · refine Ev.bind (ox _ n (W64.xor _ _) hn) ?_
          have h4 := hB2 y hy
          rw [h3, Int.toNat_natCast] at h4
          unfold xr at h4
          rw [show 5 * x + (y + 1) = 5 * x + y + 1 from rfl, h4] at h2
          exact h2
      · refine Ev.step (fun k => ?_) hh
        simp only [af.l2]
        rw [Aa (by omega), dm x (by omega), show 5 * x + 5 = 5 * (x + 1) by omega]
  · refine Ev.step (fun k => ?_) h
    simp only [af.l1]
    rw [Aa (by omega), za (by decide)]
theorem sf (a : List Int) (hl : a.length = 25) : ∀ x ∈ bL a 25, W64 x := by
  refine mv fun i hi => ?_
  rw [iR] at hi
  obtain ⟨x, hx, y, hy, rfl⟩ := ng i hi
  rw [pQ a x y hx hy 25 (wa _) (by omega)]
  exact rB _ _
theorem rr (a : List Int) (hl : a.length = 25) (ha : ∀ x ∈ a, W64 x) (rc : Int) : Ev (fun k => af.l1 k a ft rc (thC a 25) (List.replicate 25 0) 0) (nE a rc) := by
  refine pZ a (thC a 25) ft (bL a) hl rc _ (ja a 25) (rM a) rfl ?_ rfl (iR a) ?_ ?_
  · intro x y hx hy
    obtain ⟨n, hn, h3, _⟩ := nt a ha hl x y hx hy
    exact ⟨n, hn, h3⟩
  · intro x y hx hy
    simp only [bL]
    rw [show (5 * x + y) / 5 = x by omega, show (5 * x + y) % 5 = y by omega]
  · have h := pO (bL a 25) (iR a 25) (sf a hl) rc
    rw [show dG.v (bL a 25) = eI a by rw [pP a hl]; rfl] at h
    exact h
theorem pj (a : List Int) (hl : a.length = 25) (ha : ∀ x ∈ a, W64 x) (rc : Int) : Ev (fun k => af.f k a ft rc) (nE a rc) := by
  unfold af.f
  refine Ev.pos (by decide) ?_
  refine Ev.up (g := fun i k => af.l0 k a ft rc (cL a i) (i : Int)) 5 ?_ ?_ 0 (Nat.zero_le _)
  · intro i hi hh
    refine Ev.step (fun k => ?_) hh
    have hc := kE a i
    have e5 : wrap64 ((i : Int) + 5) = ((i + 5 : Nat) : Int) := by rw [w64 (by omega) (by omega)]; rfl
    have e10 : wrap64 ((i : Int) + 10) = ((i + 10 : Nat) : Int) := by rw [w64 (by omega) (by omega)]; rfl
    have e15 : wrap64 ((i : Int) + 15) = ((i + 15 : Nat) : Int) := by rw [w64 (by omega) (by omega)]; rfl
    have e20 : wrap64 ((i : Int) + 20) = ((i + 20 : Nat) : Int) := by rw [w64 (by omega) (by omega)]; rfl
    simp only [af.l0, e5, e10, e15, e20]
    rw [za (by omega), za (by omega), za (by omega), za (by omega), za (by omega), za (by omega), za (by omega), za (by omega), za (by omega), za (by omega), za (by omega), za (by omega), dm i (by omega), Int.toNat_natCast]
    rfl
  · refine Ev.step (f := fun k => af.l1 k a ft rc (thC a 25) (List.replicate 25 0) 0) (fun k => ?_) (rr a hl ha rc)
    simp only [af.l0]
    rw [Aa (by omega), za (by decide), rz a hl ha]
theorem qc : Ev (fun k => bz.f k) ft := Ev.of (fun k => bz.mono k) (k := 40) (by kernel_rfl)
def rcL : List Int := (List.range 24).map rcV
theorem o1 : Ev (fun k => aM.f k) rcL := Ev.of (fun k => aM.mono k) (k := 300) (by kernel_rfl)
theorem rI (t : Nat) (h : t < 24) : rd rcL (t : Int) = rcV t := by
  rw [de _ t (by unfold rcL; simpa using h)]
  simp only [rcL, List.getElem_map, List.getElem_range]
theorem qA : rcL.length = 24 := by unfold rcL; simp
theorem pG (a : List Int) (rc : Int) : ∀ x ∈ nE a rc, W64 x := by
  intro x hx
  rcases List.mem_or_eq_of_mem_set hx with h | h
  · exact rS _ x h
  · rw [h]; exact W64.xor _ _
theorem oS (a : List Int) (ha : ∀ x ∈ a, W64 x) : ∀ t, ∀ x ∈ f7 a t, W64 x
  | 0 => ha
  | t + 1 => pG _ _
theorem oU (a : List Int) (hl : a.length = 25) (ha : ∀ x ∈ a, W64 x) : Ev (fun k => aN.f k a) (cq.v a) := by
  unfold aN.f
  refine Ev.bind qc (Ev.bind o1 ?_)
  refine Ev.up (g := fun i k => aN.l0 k (f7 a i) ft rcL (i : Int)) 24 ?_ ?_ 0 (Nat.zero_le _)
  · intro t ht hh
    have c1 : (t : Int) < 24 := by omega
    have c2 : (0 : Int) ≤ (t : Int) := by omega
    have c3 : (t : Int) < (rcL.length : Int) := by rw [qA]; omega
    have c4 := dm t (by omega)
    refine Ev.step (f := fun k => (af.f k (f7 a t) ft (rcV t)).bind fun u => aN.l0 k u ft rcL ((t + 1 : Nat) : Int)) (fun k => ?_) ?_
    · simp only [aN.l0]
      rw [za c1, za c2, za c3, c4, rI t ht]
    · exact Ev.bind (pj _ (fI a t hl) (oS a ha t) _) hh
  · refine Ev.step (f := fun _ => some (cq.v a)) (fun k => ?_) (Ev.now _)
    simp only [aN.l0]
    rw [Aa (by omega)]
    rfl
/-- The number of n bytes, the lowest first. -/
def pb (f : Nat → Int) : Nat → Int
  | 0 => 0
  | j + 1 => pb f j + f j * ((2 ^ (8 * j) : Nat) : Int)
theorem jQ (f : Nat → Int) (hf : ∀ q, 0 ≤ f q ∧ f q ≤ 255) : ∀ n, 0 ≤ pb f n ∧ pb f n < ((2 ^ (8 * n) : Nat) : Int)
  | 0 => by simp [pb]
  | n + 1 => by
    have ih := jQ f hf n
    have hn := hf n
    simp only [pb]
    have e : 2 ^ (8 * (n + 1)) = 256 * 2 ^ (8 * n) := by rw [Nat.mul_add, Nat.pow_add, Nat.mul_comm]
    rw [e]
    generalize 2 ^ (8 * n) = A at ih ⊢
    have h1 : f n * (A : Int) ≤ 255 * (A : Int) := Int.mul_le_mul_of_nonneg_right hn.2 (by omega)
    have h2 : 0 ≤ f n * (A : Int) := Int.mul_nonneg hn.1 (by omega)
    generalize f n * (A : Int) = z at h1 h2 ⊢
    omega
theorem g8 (s : ByteArray) (i : Int) : 0 ≤ bt s i ∧ bt s i ≤ 255 := by have := dl s i; omega
/-- The bytes of lane i. -/
def lb (s : ByteArray) (i : Nat) (q : Nat) : Int := bt s ((8 * i + q : Nat) : Int)
def fA (s : ByteArray) (i : Nat) : Int := pb (lb s i) 8
theorem qQ (s : ByteArray) (i : Nat) : W64 (fA s i) := by
  have h := jQ (lb s i) (fun q => g8 s _) 8
  exact ⟨h.1, h.2⟩
theorem qH (f : Nat → Int) (hf : ∀ q, 0 ≤ f q ∧ f q ≤ 255) (j : Nat) (hj : j < 8) : Go.bits .or .u64 (pb f j) (IntKind.u64.wrap (IntKind.u64.wrap (f j) * 2 ^ min (8 * j) 64)) = pb f (j + 1) := by
  have hb := hf j
  have h1 := jQ f hf j
  have h9 := jQ f hf (j + 1)
  have hA : 2 ^ (8 * j) ≤ 2 ^ 56 := Nat.pow_le_pow_right (by decide) (by omega)
  have hB : 2 ^ (8 * (j + 1)) ≤ 2 ^ 64 := Nat.pow_le_pow_right (by decide) (by omega)
  rw [Nat.min_eq_left (by omega), show (2 : Int) ^ (8 * j) = ((2 ^ (8 * j) : Nat) : Int) by rw [Int.natCast_pow]; rfl]
  simp only [pb] at h9 ⊢
  have hi : (2 : Int) ^ (8 * j) = ((2 ^ (8 * j) : Nat) : Int) := by rw [Int.natCast_pow]; rfl
  have e1 : IntKind.u64.wrap (f j) = f j := by rw [fx]; omega
  have h2 : 0 ≤ f j * ((2 ^ (8 * j) : Nat) : Int) := Int.mul_nonneg hb.1 (by omega)
  have h3 : f j * ((2 ^ (8 * j) : Nat) : Int) % ((2 ^ (8 * j) : Nat) : Int) = 0 := Int.mul_emod_left _ _
  rw [e1]
  have h4 : f j * ((2 ^ (8 * j) : Nat) : Int) < 18446744073709551616 := by
    generalize f j * ((2 ^ (8 * j) : Nat) : Int) = z at h2 h9 ⊢
    omega
  have e2 : IntKind.u64.wrap (f j * ((2 ^ (8 * j) : Nat) : Int)) = f j * ((2 ^ (8 * j) : Nat) : Int) := by
    rw [fx]
    generalize f j * ((2 ^ (8 * j) : Nat) : Int) = z at h2 h4 ⊢
    omega
  rw [e2]
  exact r7 (8 * j) _ _ ⟨h1.1, by omega⟩ (by rw [hi]; exact h1.2) ⟨h2, h4⟩ (by rw [hi]; exact h3)
theorem jt (s : ByteArray) (i : Nat) (hi : i < 25) : ∀ m, m ≤ 200 → rd (fp s m) (i : Int) = pb (lb s i) (min 8 (m - 8 * i))
  | 0, _ => by
    rw [show min 8 (0 - 8 * i) = 0 by omega]
    exact fN 25 i
  | m + 1, h => by
    simp only [fp]
    rw [fl _ _ _ _ (by rw [d9]; omega), jt s i hi m (by omega)]
    by_cases e : i = m / 8
    · rw [za e, ← e, jt s i hi m (by omega), show min 8 (m - 8 * i) = m % 8 by omega, show min 8 (m + 1 - 8 * i) = m % 8 + 1 by omega, ← qH (lb s i) (fun q => g8 s _) (m % 8) (by omega)]
      unfold lb
      rw [show 8 * i + m % 8 = m by omega]
    · rw [Aa e, show min 8 (m + 1 - 8 * i) = min 8 (m - 8 * i) by omega]
theorem iV (s : ByteArray) : cQ.v s = (List.range 25).map (fA s) := by
  unfold cQ.v
  apply g9 (by rw [d9]; rfl)
  intro i hi
  rw [d9] at hi
  rw [jt s i hi 200 (wa _), de _ i (by simpa using hi), List.getElem_map, List.getElem_range, show min 8 (200 - 8 * i) = 8 by omega]
  rfl
/-- The same number, from its highest byte on. -/
def hv (f : Nat → Int) : Nat → Int
  | 0 => 0
  | n + 1 => hv f n * 256 + f (7 - n)
theorem rj (f : Nat → Int) (hf : ∀ q, 0 ≤ f q ∧ f q ≤ 255) : ∀ n, 0 ≤ hv f n ∧ hv f n < ((2 ^ (8 * n) : Nat) : Int)
  | 0 => by simp [hv]
  | n + 1 => by
    have ih := rj f hf n
    have hn := hf (7 - n)
    simp only [hv]
    have e : 2 ^ (8 * (n + 1)) = 256 * 2 ^ (8 * n) := by rw [Nat.mul_add, Nat.pow_add, Nat.mul_comm]
    rw [e]
    generalize 2 ^ (8 * n) = A at ih ⊢
    omega
theorem rU (f : Nat → Int) : hv f 8 = pb f 8 := by
  simp only [hv, pb]
  simp only [Nat.reduceSub, Nat.reduceMul, Nat.reducePow]
  omega
theorem m4 (s : ByteArray) (n : Nat) (hs : s.size = 8 * n) (hn : n ≤ 1000) : Ev (fun k => aK.f k s) ((List.range n).map (fA s)) := by
  unfold aK.f
  refine Ev.up (g := fun i k => aK.l0 k s ((List.range i).map (fA s)) ((8 * i : Nat) : Int)) n ?_ ?_ 0 (Nat.zero_le _)
  · intro i hi hh
    refine Ev.step (f := fun k => aK.l1 k s ((List.range i).map (fA s)) ((8 * i : Nat) : Int) 0 7) (fun k => ?_) ?_
    · simp only [aK.l0]
      rw [za (by rw [w64 (by omega) (by omega)]; omega)]
    · refine Ev.up (g := fun j k => aK.l1 k s ((List.range i).map (fA s)) ((8 * i : Nat) : Int) (hv (lb s i) j) (7 - (j : Int))) 8 ?_ ?_ 0 (Nat.zero_le _)
      · intro j hj h2
        refine Ev.step (fun k => ?_) h2
        have e1 : wrap64 (((8 * i : Nat) : Int) + (7 - (j : Int))) = ((8 * i + (7 - j) : Nat) : Int) := by rw [w64 (by omega) (by omega)]; omega
        have e2 : wrap64 (7 - (j : Int) - 1) = 7 - ((j + 1 : Nat) : Int) := by rw [w64 (by omega) (by omega)]; omega
        have hA : 2 ^ (8 * j) ≤ 2 ^ 56 := Nat.pow_le_pow_right (by decide) (by omega)
        have h3 := rj (lb s i) (fun q => g8 s _) j
        have h4 := g8 s ((8 * i + (7 - j) : Nat) : Int)
        have c1 : 7 - (j : Int) ≥ 0 := by omega
        have c2 : (0 : Int) ≤ ((8 * i + (7 - j) : Nat) : Int) := by omega
        have c3 : ((8 * i + (7 - j) : Nat) : Int) < (s.size : Int) := by omega
        simp only [aK.l1, e1, e2]
        rw [za c1, za c2, za c3]
        congr 1
        simp only [hv]
        show _ = _ + bt s ((8 * i + (7 - j) : Nat) : Int)
        generalize hv (lb s i) j = z at h3 ⊢
        generalize bt s ((8 * i + (7 - j) : Nat) : Int) = b at h4 ⊢
        rw [fx, fx, fx]
        omega
      · refine Ev.step (fun k => ?_) hh
        simp only [aK.l1]
        rw [Aa (by omega), za (by simp; omega), rU, w64 (by omega) (by omega), List.range_succ, List.map_append]
        rfl
  · refine Ev.step (f := fun _ => some ((List.range n).map (fA s))) (fun k => ?_) (Ev.now _)
    simp only [aK.l0]
    rw [Aa (by rw [w64 (by omega) (by omega)]; omega)]
/-- The byte m of lanes. -/
def eM (xs : List Int) (m : Nat) : Int := rd xs ((m / 8 : Nat) : Int) / 2 ^ (8 * (m % 8)) % 256
theorem jf (xs : List Int) (i : Nat) : ∀ m, m ≤ 200 → rd (fi xs m) (i : Int) = if i < m then eM xs i else 0
  | 0, _ => by rw [Aa (by omega)]; exact fN 200 i
  | m + 1, h => by
    simp only [fi]
    rw [fl _ _ _ _ (by rw [cX]; omega), jf xs i m (by omega)]
    by_cases e : i = m
    · subst e
      rw [za rfl, za (by omega)]
      rfl
    · rw [Aa e]
      by_cases e2 : i < m
      · rw [za e2, za (by omega)]
      · rw [Aa e2, Aa (by omega)]
theorem mS (xs : List Int) : fi xs 200 = (List.range 200).map (eM xs) := by
  apply g9 (by rw [cX]; simp)
  intro i hi
  rw [cX] at hi
  rw [jf xs i 200 (wa _), za hi, de _ i (by simpa using hi), List.getElem_map, List.getElem_range]
theorem pW (xs : List Int) (hx : ∀ x ∈ xs, W64 x) (hl : xs.length ≤ 1000) : Ev (fun k => aJ.f k xs) (strOfNums ((List.range (8 * xs.length)).map (eM xs))) := by
  unfold aJ.f
  refine Ev.up (g := fun i k => aJ.l0 k xs ((List.range (8 * i)).map (eM xs)) (i : Int)) xs.length ?_ ?_ 0 (Nat.zero_le _)
  · intro i hi hh
    have hw := ly hx i hi
    refine Ev.step (f := fun k => aJ.l1 k xs ((List.range (8 * i + 0)).map (eM xs)) (i : Int) (rd xs (i : Int) / 2 ^ (8 * 0)) ((0 : Nat) : Int)) (fun k => ?_) ?_
    · simp only [aJ.l0]
      rw [za (by omega), za (by omega), Nat.mul_zero, Int.pow_zero, Int.ediv_one]
      rfl
    · refine Ev.up (g := fun j k => aJ.l1 k xs ((List.range (8 * i + j)).map (eM xs)) (i : Int) (rd xs (i : Int) / 2 ^ (8 * j)) (j : Int)) 8 ?_ ?_ 0 (Nat.zero_le _)
      · intro j hj h2
        refine Ev.step (fun k => ?_) h2
        have hA : (0 : Int) < 2 ^ (8 * j) := Int.pow_pos (by decide)
        have h3 : 0 ≤ rd xs (i : Int) / 2 ^ (8 * j) := Int.ediv_nonneg hw.1 (by omega)
        have h4 : rd xs (i : Int) / 2 ^ (8 * j) ≤ rd xs (i : Int) := Int.ediv_le_self _ hw.1
        have h5 := hw.2
        have e1 : rd xs (i : Int) / 2 ^ (8 * j) / 256 = rd xs (i : Int) / 2 ^ (8 * (j + 1)) := by
          rw [Int.ediv_ediv_of_nonneg (by omega), Nat.mul_add, Int.pow_add]; rfl
        have e3 : eM xs (8 * i + j) = rd xs (i : Int) / 2 ^ (8 * j) % 256 := by
          unfold eM
          rw [show (8 * i + j) / 8 = i by omega, show (8 * i + j) % 8 = j by omega]
        have e2 : (List.range (8 * i + (j + 1))).map (eM xs) = (List.range (8 * i + j)).map (eM xs) ++ [rd xs (i : Int) / 2 ^ (8 * j) % 256] := by
          rw [show 8 * i + (j + 1) = 8 * i + j + 1 from rfl, List.range_succ, List.map_append, List.map_singleton, e3]
        simp only [aJ.l1]
        rw [za (by omega), za (by simp; omega), dm j (by omega), e2, ← e1]
        generalize rd xs (i : Int) / 2 ^ (8 * j) = z at h3 h4 ⊢
        rw [Int.tdiv_eq_ediv_of_nonneg h3, Int.tmod_eq_emod_of_nonneg h3, fx]
        congr 1
        · congr 2; omega
        · omega
      · refine Ev.step (fun k => ?_) hh
        simp only [aJ.l1]
        rw [Aa (by omega), dm i (by omega), show 8 * i + 8 = 8 * (i + 1) by omega]
  · refine Ev.step (f := fun _ => some (strOfNums ((List.range (8 * xs.length)).map (eM xs)))) (fun k => ?_) (Ev.now _)
    simp only [aJ.l0]
    rw [Aa (by omega)]
theorem oP (xs : List Int) (hx : ∀ x ∈ xs, W64 x) (hl : xs.length = 25) : Ev (fun k => aJ.f k xs) (eR.v xs) := by
  have h := pW xs hx (by omega)
  rw [hl, ← mS] at h
  exact h
theorem lP (s : ByteArray) : ∀ x ∈ cQ.v s, W64 x := by
  rw [iV]
  intro x hx
  obtain ⟨i, _, rfl⟩ := List.mem_map.mp hx
  exact qQ s i
theorem jO (s : ByteArray) : (cQ.v s).length = 25 := d9 s 200
theorem lr (a : List Int) (ha : ∀ x ∈ a, W64 x) : ∀ x ∈ cq.v a, W64 x := oS a ha 24
theorem nF (s : ByteArray) (hs : s.size = 200) : Ev (fun k => cG.f k s) (ex s) := by
  unfold cG.f
  refine Ev.pos (by omega) ?_
  have h := m4 s 25 (by omega) (by decide)
  rw [← iV] at h
  exact Ev.bind h (Ev.bind (oU _ (jO s) (lP s)) (Ev.bind (oP _ (lr _ (lP s)) (fI _ 24 (jO s))) (Ev.now _)))
def B8 (x : Int) : Prop := 0 ≤ x ∧ x ≤ 255
theorem B8.xor (a b : Int) : B8 (Go.bits .xor .u8 a b) := by
  show B8 (IntKind.u8.wrap (((BitVec.ofInt 8 a ^^^ BitVec.ofInt 8 b).toNat : Nat) : Int))
  rw [IntKind.wrap_u8]; unfold B8; omega
theorem se (a b : Nat) (ha : a < 256) (hb : b < 256) : Go.bits .xor .u8 (a : Int) (b : Int) = ((a ^^^ b : Nat) : Int) := by
  show IntKind.u8.wrap (((BitVec.ofInt 8 (a : Int) ^^^ BitVec.ofInt 8 (b : Int)).toNat : Nat) : Int) = _
  have e1 : (BitVec.ofInt 8 (a : Int) ^^^ BitVec.ofInt 8 (b : Int)).toNat = a ^^^ b := by
    rw [BitVec.toNat_xor, BitVec.toNat_ofInt, BitVec.toNat_ofInt]
    congr 1 <;> omega
  rw [e1]
  have : a ^^^ b < 2 ^ 8 := Nat.xor_lt_two_pow ha hb
  rw [IntKind.wrap_u8]
  omega
/-- Numbers of two parts, turned part by part. -/
theorem pd (k a b c d : Nat) (ha : a < 2 ^ k) (hc : c < 2 ^ k) : (a + b * 2 ^ k) ^^^ (c + d * 2 ^ k) = (a ^^^ c) + (b ^^^ d) * 2 ^ k := by
  have hp : 0 < 2 ^ k := Nat.pow_pos (by decide)
  have e1 : (a + b * 2 ^ k) % 2 ^ k = a := by rw [Nat.add_mul_mod_self_right, Nat.mod_eq_of_lt ha]
  have e2 : (c + d * 2 ^ k) % 2 ^ k = c := by rw [Nat.add_mul_mod_self_right, Nat.mod_eq_of_lt hc]
  have e3 : (a + b * 2 ^ k) / 2 ^ k = b := by rw [Nat.add_mul_div_right _ _ hp, Nat.div_eq_of_lt ha, Nat.zero_add]
  have e4 : (c + d * 2 ^ k) / 2 ^ k = d := by rw [Nat.add_mul_div_right _ _ hp, Nat.div_eq_of_lt hc, Nat.zero_add]
  have h := Nat.mod_add_div ((a + b * 2 ^ k) ^^^ (c + d * 2 ^ k)) (2 ^ k)
  rw [Nat.xor_mod_two_pow, Nat.xor_div_two_pow, e1, e2, e3, e4, Nat.mul_comm (2 ^ k)] at h
  exact h.symm
theorem pK (f g : Nat → Int) (hf : ∀ q, 0 ≤ f q ∧ f q ≤ 255) (hg : ∀ q, 0 ≤ g q ∧ g q ≤ 255) : ∀ n, n ≤ 8 → pb (fun q => Go.bits .xor .u8 (f q) (g q)) n = Go.bits .xor .u64 (pb f n) (pb g n)
  | 0, _ => by
    simp only [pb]
    exact (nn 0 ⟨by decide, by decide⟩).symm
  | n + 1, h => by
    have ih := pK f g hf hg n (by omega)
    have a1 := jQ f hf n
    have a2 := jQ g hg n
    have b1 := jQ f hf (n + 1)
    have b2 := jQ g hg (n + 1)
    have c1 := hf n
    have c2 := hg n
    have hB : 2 ^ (8 * (n + 1)) ≤ 2 ^ 64 := Nat.pow_le_pow_right (by decide) (by omega)
    have hC : 2 ^ (8 * n) ≤ 2 ^ 64 := Nat.pow_le_pow_right (by decide) (by omega)
    simp only [pb] at b1 b2 ⊢
    rw [ih]
    clear ih
    obtain ⟨a, ea⟩ := Int.eq_ofNat_of_zero_le a1.1
    obtain ⟨c, ec⟩ := Int.eq_ofNat_of_zero_le a2.1
    obtain ⟨b, eb⟩ := Int.eq_ofNat_of_zero_le c1.1
    obtain ⟨d, ed⟩ := Int.eq_ofNat_of_zero_le c2.1
    rw [ea, eb] at b1 ⊢
    rw [ec, ed] at b2 ⊢
    rw [ea] at a1
    rw [ec] at a2
    rw [eb] at c1
    rw [ed] at c2
    rw [pU a c (by omega) (by omega), se b d (by omega) (by omega), ← Int.natCast_mul, ← Int.natCast_mul, ← Int.natCast_mul, ← Int.natCast_add, ← Int.natCast_add, ← Int.natCast_add, pU _ _ ?_ ?_]
    · rw [pd (8 * n) a b c d (by omega) (by omega)]
    · have := b1.2
      rw [← Int.natCast_mul, ← Int.natCast_add] at this
      omega
    · have := b2.2
      rw [← Int.natCast_mul, ← Int.natCast_add] at this
      omega
theorem jk {f g : Nat → Int} : ∀ n, (∀ q, q < n → f q = g q) → pb f n = pb g n
  | 0, _ => rfl
  | n + 1, h => by
    simp only [pb]
    rw [jk n (fun q hq => h q (by omega)), h n (by omega)]
theorem lT (x : Nat) : ∀ n, pb (fun q => (x : Int) / 2 ^ (8 * q) % 256) n = ((x % 2 ^ (8 * n) : Nat) : Int)
  | 0 => by simp [pb, Nat.mod_one]
  | n + 1 => by
    simp only [pb]
    rw [lT x n, show (2 : Int) ^ (8 * n) = ((2 ^ (8 * n) : Nat) : Int) by rw [Int.natCast_pow]; rfl, ← Int.natCast_ediv, Nat.mul_add, Nat.pow_add, show 2 ^ (8 * 1) = 256 from rfl, Nat.mod_mul]
    rw [Nat.mul_comm (2 ^ (8 * n)) (x / 2 ^ (8 * n) % 256), Int.natCast_add, Int.natCast_mul]
    rfl
/-- A lane, of its own bytes. -/
theorem nv (W : List Int) (i : Nat) (h : W64 (rd W (i : Int))) : pb (fun q => eM W (8 * i + q)) 8 = rd W (i : Int) := by
  obtain ⟨x, hx⟩ := Int.eq_ofNat_of_zero_le h.1
  have h2 := h.2
  rw [hx] at h2
  rw [jk (g := fun q => (x : Int) / 2 ^ (8 * q) % 256) 8 ?_, lT, hx, Nat.mod_eq_of_lt (by omega)]
  intro q hq
  unfold eM
  rw [show (8 * i + q) / 8 = i by omega, show (8 * i + q) % 8 = q by omega, hx]
theorem nx (W : List Int) (m : Nat) : B8 (eM W m) := by unfold eM B8; omega
theorem ph (L : List Int) (hL : ∀ x ∈ L, B8 x) (j : Nat) (hj : j < L.length) : bt (strOfNums L) (j : Int) = rd L (j : Int) := by
  have h := ly hL j hj
  rw [de L j hj] at h ⊢
  have hs : j < (strOfNums L).size := by rw [strOfNums_size]; exact hj
  rw [← cB (strOfNums L) (j : Int) (by simpa using hs)]
  simp only [Int.toNat_natCast]
  rw [im L j hs, UInt8.toNat_ofNat']
  unfold B8 at h
  omega
theorem pz (L : List Int) (hL : ∀ x ∈ L, B8 x) : bl (strOfNums L) = L := by
  apply g9 (by rw [cN, strOfNums_size])
  intro i hi
  rw [cN, strOfNums_size] at hi
  rw [← ph L hL i hi, de _ i (by rw [cN, strOfNums_size]; exact hi)]
  have hs : i < (strOfNums L).size := by rw [strOfNums_size]; exact hi
  rw [← cB (strOfNums L) (i : Int) (by simpa using hs)]
  simp [bl]
  rfl
theorem m0 (W : List Int) : ∀ x ∈ fi W 200, B8 x := by
  rw [mS]
  intro x hx
  obtain ⟨m, _, rfl⟩ := List.mem_map.mp hx
  exact nx W m
theorem kw (st T : List Int) (o i : Nat) : ∀ n, n ≤ st.length → rd (gn st T o n) (i : Int) = if i < n then Go.bits .xor .u8 (rd st (i : Int)) (rd T ((o + i : Nat) : Int)) else rd st (i : Int)
  | 0, _ => by rw [Aa (by omega)]; rfl
  | n + 1, h => by
    simp only [gn]
    rw [fl _ _ _ _ (by rw [iX]; omega), kw st T o i n (by omega)]
    by_cases e : i = n
    · subst e
      rw [za rfl, za (by omega), kw st T o i i (by omega), Aa (by omega)]
    · rw [Aa e]
      by_cases e2 : i < n
      · rw [za e2, za (by omega)]
      · rw [Aa e2, Aa (by omega)]
theorem mx (st ls : List Int) (i : Nat) : ∀ n, n ≤ st.length → rd (gt st ls n) (i : Int) = if i < n then Go.bits .xor .u64 (rd st (i : Int)) (rd ls (i : Int)) else rd st (i : Int)
  | 0, _ => by rw [Aa (by omega)]; rfl
  | n + 1, h => by
    simp only [gt]
    rw [fl _ _ _ _ (by rw [hJ]; omega), mx st ls i n (by omega)]
    by_cases e : i = n
    · subst e
      rw [za rfl, za (by omega), mx st ls i i (by omega), Aa (by omega)]
    · rw [Aa e]
      by_cases e2 : i < n
      · rw [za e2, za (by omega)]
      · rw [Aa e2, Aa (by omega)]
theorem my (T : List Int) (o n i : Nat) (hi : i < n) (h : o + n ≤ T.length) : rd ((T.drop o).take n) (i : Int) = rd T ((o + i : Nat) : Int) := by
  rw [de _ i (by simp; omega), de _ (o + i) (by omega)]
  simp
theorem p6 (T : List Int) (hT : ∀ x ∈ T, B8 x) (n : Nat) : ∀ x ∈ (T.drop (168 * n)).take 168, B8 x := fun x hx => hT x (List.mem_of_mem_drop (List.mem_of_mem_take hx))
/-- A state turned by a block: byte by byte or lane by lane. -/
theorem nb (W T : List Int) (m : Nat) (hl : W.length = 25) (hw : ∀ x ∈ W, W64 x) (hT : ∀ x ∈ T, B8 x) (hm : 168 * m + 168 ≤ T.length) :
    cQ.v (strOfNums (gn (fi W 200) T (168 * m) 168)) = gt W ((List.range 21).map (fA (eu T m))) 21 := by
  have hY : ∀ x ∈ gn (fi W 200) T (168 * m) 168, B8 x := by
    refine mv fun i hi => ?_
    rw [iX, cX] at hi
    rw [kw _ _ _ _ 168 (by rw [cX]; decide)]
    split
    · exact B8.xor _ _
    · exact ly (m0 W) i (by rw [cX]; exact hi)
  have hYl : (gn (fi W 200) T (168 * m) 168).length = 200 := by rw [iX, cX]
  have hbyte : ∀ j : Nat, j < 200 → bt (strOfNums (gn (fi W 200) T (168 * m) 168)) (j : Int) = if j < 168 then Go.bits .xor .u8 (eM W j) (rd T ((168 * m + j : Nat) : Int)) else eM W j := by
    intro j hj
    rw [ph _ hY j (by rw [hYl]; exact hj), kw _ _ _ _ 168 (by rw [cX]; decide), jf W j 200 (wa _), za hj]
  have hblk : ∀ j : Nat, j < 168 → bt (eu T m) (j : Int) = rd T ((168 * m + j : Nat) : Int) := by
    intro j hj
    unfold eu
    rw [ph _ (p6 T hT m) j (by simp; omega), my T _ 168 j hj (by omega)]
  rw [iV]
  apply g9 (by rw [hJ, hl]; rfl)
  intro i hi
  have hi : i < 25 := by simpa using hi
  rw [mx _ _ _ 21 (by rw [hl]; decide), de ((List.range 25).map _) i (by simpa using hi), List.getElem_map, List.getElem_range]
  have hwi := ly hw i (by rw [hl]; exact hi)
  by_cases h : i < 21
  · rw [za h, de ((List.range 21).map (fA (eu T m))) i (by simpa using h), List.getElem_map, List.getElem_range]
    unfold fA
    rw [jk (g := fun q => Go.bits .xor .u8 (eM W (8 * i + q)) (lb (eu T m) i q)) 8 ?_, pK (fun q => eM W (8 * i + q)) (lb (eu T m) i) (fun q => nx W _) (fun q => g8 _ _) 8 (wa _), nv W i hwi]
    intro q hq
    unfold lb
    rw [hbyte _ (by omega), za (by omega), hblk _ (by omega)]
  · unfold fA
    rw [Aa h, jk (g := fun q => eM W (8 * i + q)) 8 ?_, nv W i hwi]
    intro q hq
    unfold lb
    rw [hbyte _ (by omega), Aa (by omega)]
/-- The lanes behind m blocks. -/
def stW (T : List Int) : Nat → List Int
  | 0 => List.replicate 25 0
  | m + 1 => cq.v (gt (stW T m) ((List.range 21).map (fA (eu T m))) 21)
theorem nU (st ls : List Int) (h : ∀ x ∈ st, W64 x) : ∀ n, ∀ x ∈ gt st ls n, W64 x
  | 0 => h
  | n + 1 => by
    intro x hx
    simp only [gt] at hx
    rcases List.mem_or_eq_of_mem_set hx with h2 | h2
    · exact nU st ls h n x h2
    · rw [h2]; exact W64.xor _ _
theorem iU (T : List Int) : ∀ m, (stW T m).length = 25 ∧ ∀ x ∈ stW T m, W64 x
  | 0 => ⟨by simp [stW], by
    intro x hx
    simp only [stW] at hx
    rw [List.eq_of_mem_replicate hx]
    exact ⟨by decide, by decide⟩⟩
  | m + 1 => by
    have ih := iU T m
    have h1 : (gt (stW T m) ((List.range 21).map (fA (eu T m))) 21).length = 25 := by rw [hJ]; exact ih.1
    have h2 := nU (stW T m) ((List.range 21).map (fA (eu T m))) ih.2 21
    simp only [stW]
    generalize gt (stW T m) ((List.range 21).map (fA (eu T m))) 21 = a at h1 h2 ⊢
    exact ⟨fI a 24 h1, lr a h2⟩
theorem oL (T : List Int) (hT : ∀ x ∈ T, B8 x) : ∀ m, 168 * m ≤ T.length → fU T m = fi (stW T m) 200
  | 0, _ => by
    simp only [fU, stW]
    apply g9 (by rw [cX, List.length_replicate])
    intro i hi
    rw [List.length_replicate] at hi
    rw [fN, jf _ i 200 (wa _), za hi]
    unfold eM
    rw [fN]
    simp
  | m + 1, h => by
    simp only [fU, ex]
    rw [oL T hT m (by omega), nb _ T m (iU T m).1 (iU T m).2 hT (by omega)]
    unfold eR.v
    rw [pz _ (m0 _)]
    rfl
theorem oo (T : List Int) (hT : ∀ x ∈ T, B8 x) : ∀ m, 168 * m ≤ T.length → Ev (fun k => kh k T m) (stW T m)
  | 0, _ => Ev.now _
  | m + 1, h => by
    have hs : (eu T m).size = 8 * 21 := by
      unfold eu
      rw [strOfNums_size]
      simp
      omega
    have h1 := iU T m
    have h2 := iU T (m + 1)
    have hl : ((List.range 21).map (fA (eu T m))).length = 21 := by simp
    refine Ev.bind (oo T hT m (by omega)) (Ev.bind (m4 (eu T m) 21 hs (by decide)) (Ev.pos ?_ ?_))
    · rw [hl, h1.1]; decide
    · rw [hl]
      have h3 := oU (gt (stW T m) ((List.range 21).map (fA (eu T m))) 21) (by rw [hJ]; exact h1.1) (nU _ _ h1.2 21)
      simp only [stW] at h2 ⊢
      refine Ev.bind h3 (Ev.pos ?_ (Ev.now _))
      rw [h2.1]; decide
theorem qm (s : ByteArray) (c : Int) (hc : B8 c) : ∀ x ∈ gi s c, B8 x := by
  intro x hx
  unfold gi oK at hx
  rcases List.mem_or_eq_of_mem_set hx with h | h
  · unfold eJ at h
    rw [List.mem_append, List.mem_append] at h
    rcases h with (h | h) | h
    · unfold bl at h
      obtain ⟨b, _, rfl⟩ := List.mem_map.mp h
      have := b.toNat_lt
      exact ⟨by omega, by omega⟩
    · rw [List.mem_singleton] at h; rw [h]; exact hc
    · rw [List.eq_of_mem_replicate h]; exact ⟨by decide, by decide⟩
  · rw [h]; exact B8.xor _ _
/-- The state that a text leaves. -/
def kM (s : ByteArray) : ByteArray := strOfNums (fU (gi s 31) ((gi s 31).length / 168))
theorem gA (s : ByteArray) : (kM s).size = 200 := by unfold kM; rw [strOfNums_size, gz]
theorem lf (s : ByteArray) (hs : s.size ≤ 1000000000000) : Ev (fun k => cv.f k s 168 31) (kM s) := by
  have hT := qm s 31 ⟨by decide, by decide⟩
  have hm : 168 * ((gi s 31).length / 168) ≤ (gi s 31).length := Nat.mul_div_le _ _
  unfold cv.f
  refine Ev.pos ⟨rfl, hs⟩ (Ev.bind (oo _ hT _ hm) ?_)
  unfold kM
  rw [oL _ hT _ hm]
  exact oP _ (iU _ _).2 (iU _ _).1
theorem lm (s : ByteArray) (hs : s.size ≤ 1000000000000) : Ev (fun k => cP.f k s 168 31) (kM s) := by
  unfold cP.f
  exact Ev.pos ⟨rfl, hs⟩ (Ev.now _)
theorem ic (s : ByteArray) : (⟨#[]⟩ : ByteArray) ++ s = s := by
  apply eU
  simp [ByteArray.data_append]
theorem gr (s : ByteArray) (a n : Nat) (h : a + n ≤ s.size) : (s.extract a (a + n)).size = n := by
  rw [ByteArray.size_extract]; omega
theorem i8 (s : ByteArray) (a n : Nat) (hs : s.size = 200) (hn : 0 < n) (h : a + n ≤ 168) : Ev (fun k => aw.f k s (a : Int) (n : Int)) (s, ((a + n : Nat) : Int), s.extract a (a + n)) := by
  unfold aw.f
  refine Ev.pos ⟨by omega, by omega, hs, by omega, by omega⟩ ?_
  rw [Int.toNat_natCast, Int.toNat_natCast]
  have hx := gr s a n (by omega)
  refine Ev.step (f := fun k => aw.l0 k n (s.extract a (a + n)) s (a + n)) (fun k => ?_) ?_
  · simp only [aw.l0]
    have e0 : (⟨#[]⟩ : ByteArray).size = 0 := rfl
    rw [za (by rw [e0]; exact hn), Aa (by omega), za ⟨by omega, hs⟩, e0, Nat.sub_zero, Nat.min_eq_right (by omega), ic]
  · refine Ev.step (f := fun _ => some (s, ((a + n : Nat) : Int), s.extract a (a + n))) (fun k => ?_) (Ev.now _)
    simp only [aw.l0]
    rw [Aa (by omega)]
theorem lF (s : ByteArray) (n : Nat) (hs : s.size = 200) (hn : 0 < n) (h : n ≤ 168) : Ev (fun k => aw.f k s 168 (n : Int)) (ex s, (n : Int), (ex s).extract 0 n) := by
  unfold aw.f
  refine Ev.pos ⟨by omega, by omega, hs, by omega, by omega⟩ ?_
  rw [Int.toNat_natCast]
  have hp := fR s
  have hx := gr (ex s) 0 n (by omega)
  rw [Nat.zero_add] at hx
  refine Ev.step (f := fun k => (cG.f k s).bind fun t => if t.size = 200 then aw.l0 k n (t.extract 0 n) t n else none) (fun k => ?_) (Ev.bind (nF s hs) (Ev.pos hp ?_))
  · simp only [aw.l0]
    have e0 : (⟨#[]⟩ : ByteArray).size = 0 := rfl
    rw [za (by rw [e0]; exact hn), za (by decide), e0, Nat.sub_zero, Nat.min_eq_right (by omega)]
    simp only [ic]
  · refine Ev.step (f := fun _ => some (ex s, (n : Int), (ex s).extract 0 n)) (fun k => ?_) (Ev.now _)
    simp only [aw.l0]
    rw [Aa (by omega)]
theorem g5 (s : ByteArray) (a n : Nat) (r : ByteArray × Int × ByteArray) (hs : s.size = 200) (hn : n ≤ 168) (ha : a ≤ 168) (h : Ev (fun k => ao.l0 k (n : Int) (⟨#[]⟩ : ByteArray) s (a : Int)) r) : Ev (fun k => ao.f k s (a : Int) (n : Int)) r := by
  unfold ao.f
  have e1 : bO.f (n : Int) 0 4000 = some true := (kk _ _ _).trans (by rw [ta]; omega)
  have e2 : bO.f (a : Int) 0 168 = some true := (kk _ _ _).trans (by rw [ta]; omega)
  refine Ev.then e1 (Ev.pos rfl (Ev.pos (by omega) (Ev.then e2 ?_)))
  refine Ev.step (fun k => ?_) h
  simp only [ao.j0]
  rw [Aa (by decide)]
theorem gG (s : ByteArray) (a n : Nat) (hs : s.size = 200) (hn : 0 < n) (h : a + n ≤ 168) : Ev (fun k => ao.f k s (a : Int) (n : Int)) (s, ((a + n : Nat) : Int), s.extract a (a + n)) := by
  refine g5 s a n _ hs (by omega) (by omega) ?_
  have hx := gr s a n (by omega)
  have e0 : (⟨#[]⟩ : ByteArray).size = 0 := rfl
  have e1 : wrap64 ((n : Int) - ((⟨#[]⟩ : ByteArray).size : Int)) = (n : Int) := by rw [e0, w64 (by omega) (by omega)]; omega
  have e2 : wrap64 (168 - (a : Int)) = ((168 - a : Nat) : Int) := by rw [w64 (by omega) (by omega)]; omega
  have e3 : mn (n : Int) ((168 - a : Nat) : Int) = (n : Int) := by unfold mn; rw [Aa (by omega)]
  have e4 : wrap64 ((a : Int) + (n : Int)) = ((a + n : Nat) : Int) := by rw [w64 (by omega) (by omega)]; omega
  refine Ev.step (f := fun k => ao.l0 k (n : Int) (s.extract a (a + n)) s ((a + n : Nat) : Int)) (fun k => ?_) ?_
  · simp only [ao.l0, e1, e2, e3, e4]
    rw [za (by rw [e0]; omega), Aa (by omega), za (by omega), za (by omega), za (by omega), Int.toNat_natCast, Int.toNat_natCast, za (by rw [e0, hx]; omega), ic]
  · refine Ev.step (f := fun _ => some (s, ((a + n : Nat) : Int), s.extract a (a + n))) (fun k => ?_) (Ev.now _)
    simp only [ao.l0]
    rw [Aa (by omega)]
theorem lM (s : ByteArray) (n : Nat) (hs : s.size = 200) (hn : 0 < n) (h : n ≤ 168) : Ev (fun k => ao.f k s 168 (n : Int)) (ex s, (n : Int), (ex s).extract 0 n) := by
  refine g5 s 168 n _ hs (by omega) (by omega) ?_
  have hp := fR s
  have hx := gr (ex s) 0 n (by omega)
  rw [Nat.zero_add] at hx
  have e0 : (⟨#[]⟩ : ByteArray).size = 0 := rfl
  have e1 : wrap64 ((n : Int) - ((⟨#[]⟩ : ByteArray).size : Int)) = (n : Int) := by rw [e0, w64 (by omega) (by omega)]; omega
  have e3 : mn (n : Int) 168 = (n : Int) := by unfold mn; rw [Aa (by omega)]
  have e4 : wrap64 (0 + (n : Int)) = (n : Int) := by rw [w64 (by omega) (by omega)]; omega
  refine Ev.step (f := fun k => ao.l0 k (n : Int) ((ex s).extract 0 n) (ex s) (n : Int)) (fun k => ?_) ?_
  · simp only [ao.l0, e1, e3, e4, oq s hs, Option.bind_some]
    rw [za (by rw [e0]; omega), za (by rfl), za (by omega), za (by omega), Int.toNat_natCast, za (by rw [e0, hx]; omega), ic]
  · refine Ev.step (f := fun _ => some (ex s, (n : Int), (ex s).extract 0 n)) (fun k => ?_) (Ev.now _)
    simp only [ao.l0]
    rw [Aa (by omega)]
theorem jN (s : ByteArray) (hs : s.size ≤ 1000000000000) : Ev (fun k => bQ.f k s) (kM s, 0) := by
  unfold bQ.f
  exact Ev.bind (lf s hs) (Ev.now _)
theorem jH (s : ByteArray) (hs : s.size ≤ 1000000000000) : Ev (fun k => bR.f k s) (kM s, 0) := by
  unfold bR.f
  exact Ev.bind (lm s hs) (Ev.now _)
/-- The first n bytes that a text gives. -/
def lh (s : ByteArray) (n : Nat) : ByteArray := (kM s).extract 0 n
theorem lC (s : ByteArray) (hs : s.size ≤ 1000000000000) : Ev (fun k => cH.f k s 128) (lh s 128, true) := by
  unfold cH.f
  have h := i8 (kM s) 0 128 (gA s) (by decide) (by decide)
  have e1 : aW.f 128 0 4000 = some true := by rfl
  exact Ev.then e1 (Ev.pos rfl (Ev.bind (jN s hs) (Ev.bind h (Ev.now _))))
theorem lB (s : ByteArray) (hs : s.size ≤ 1000000000000) : Ev (fun k => cF.f k s 128) (lh s 128, true) := by
  unfold cF.f
  have h := gG (kM s) 0 128 (gA s) (by decide) (by decide)
  have e1 : bO.f 128 0 4000 = some true := by rfl
  exact Ev.then e1 (Ev.pos rfl (Ev.bind (jH s hs) (Ev.bind h (Ev.now _))))
def jd (n : Int) : ByteArray := strOfNums [n % 256]
theorem fJ (n : Int) : (jd n).size = 1 := by simp [jd, strOfNums_size]
theorem jv (n : Int) : cA.f n = some (jd n) := rfl
theorem jD (n : Int) : ct.f n = some (jd n) := by
  have h := Int.mul_tdiv_add_tmod n 256
  have h1 := Int.tmod_lt_of_pos n (show (0 : Int) < 256 by decide)
  have h2 := Int.lt_tmod_of_pos n (show (0 : Int) < 256 by decide)
  have h3 : (Int.tmod n 256) % 256 = n % 256 := by omega
  unfold ct.f jd
  split
  · rw [w64 (by omega) (by omega), show (Int.tmod n 256 + 256) % 256 = n % 256 by omega]
  · rw [h3]
/-- A coefficient of four bits. -/
def cb (v : Int) : Int := (v % 2 + v / 2 % 2 - v / 4 % 2 - v / 8 % 2 + 3329) % 3329
theorem r5 (b : Int) (h0 : 0 ≤ b) (h1 : b ≤ 255) : Int.tmod (wrap64 ((wrap64 ((wrap64 ((wrap64 ((Int.tmod (wrap64 (Int.tdiv (wrap64 b) 16)) 2) + (Int.tmod (wrap64 (Int.tdiv (wrap64 (Int.tdiv (wrap64 b) 16)) 2)) 2))) - (Int.tmod (wrap64 (Int.tdiv (wrap64 (Int.tdiv (wrap64 b) 16)) 4)) 2))) - (Int.tmod (wrap64 (Int.tdiv (wrap64 (Int.tdiv (wrap64 b) 16)) 8)) 2))) + 3329)) 3329 = cb (b / 16) := by
  have h : ((List.range 256).all fun n : Nat => decide (Int.tmod (wrap64 ((wrap64 ((wrap64 ((wrap64 ((Int.tmod (wrap64 (Int.tdiv (wrap64 (n : Int)) 16)) 2) + (Int.tmod (wrap64 (Int.tdiv (wrap64 (Int.tdiv (wrap64 (n : Int)) 16)) 2)) 2))) - (Int.tmod (wrap64 (Int.tdiv (wrap64 (Int.tdiv (wrap64 (n : Int)) 16)) 4)) 2))) - (Int.tmod (wrap64 (Int.tdiv (wrap64 (Int.tdiv (wrap64 (n : Int)) 16)) 8)) 2))) + 3329)) 3329 = cb ((n : Int) / 16))) = true := by kernel_rfl
  obtain ⟨n, rfl⟩ := Int.eq_ofNat_of_zero_le h0
  exact of_decide_eq_true (List.all_eq_true.mp h n (List.mem_range.mpr (by omega)))
theorem rL (b : Int) (h0 : 0 ≤ b) (h1 : b ≤ 255) : Int.tmod (wrap64 ((wrap64 ((wrap64 ((wrap64 ((Int.tmod (wrap64 b) 2) + (Int.tmod (wrap64 (Int.tdiv (wrap64 b) 2)) 2))) - (Int.tmod (wrap64 (Int.tdiv (wrap64 b) 4)) 2))) - (Int.tmod (wrap64 (Int.tdiv (wrap64 b) 8)) 2))) + 3329)) 3329 = cb b := by
  have h : ((List.range 256).all fun n : Nat => decide (Int.tmod (wrap64 ((wrap64 ((wrap64 ((wrap64 ((Int.tmod (wrap64 (n : Int)) 2) + (Int.tmod (wrap64 (Int.tdiv (wrap64 (n : Int)) 2)) 2))) - (Int.tmod (wrap64 (Int.tdiv (wrap64 (n : Int)) 4)) 2))) - (Int.tmod (wrap64 (Int.tdiv (wrap64 (n : Int)) 8)) 2))) + 3329)) 3329 = cb (n : Int))) = true := by kernel_rfl
  obtain ⟨n, rfl⟩ := Int.eq_ofNat_of_zero_le h0
  exact of_decide_eq_true (List.all_eq_true.mp h n (List.mem_range.mpr (by omega)))
theorem qj (b : Int) (m : Nat) (h0 : 0 ≤ b) (h1 : b ≤ 255) (hm : m < 2) : bS.f (wrap64 ((wrap64 ((wrap64 ((Go.bits .and .i64 (wrap64 (shr .u8 b (wrap64 (4 * (m : Int))))) 1) + (Go.bits .and .i64 ((wrap64 (shr .u8 b (wrap64 (4 * (m : Int))))) / 2) 1))) - (Go.bits .and .i64 ((wrap64 (shr .u8 b (wrap64 (4 * (m : Int))))) / 4) 1))) - (Go.bits .and .i64 ((wrap64 (shr .u8 b (wrap64 (4 * (m : Int))))) / 8) 1))) = some (cb (if m = 1 then b / 16 else b)) := by
  have h : ((List.range 256).all fun n : Nat => (List.range 2).all fun m : Nat => decide (bS.f (wrap64 ((wrap64 ((wrap64 ((Go.bits .and .i64 (wrap64 (shr .u8 (n : Int) (wrap64 (4 * (m : Int))))) 1) + (Go.bits .and .i64 ((wrap64 (shr .u8 (n : Int) (wrap64 (4 * (m : Int))))) / 2) 1))) - (Go.bits .and .i64 ((wrap64 (shr .u8 (n : Int) (wrap64 (4 * (m : Int))))) / 4) 1))) - (Go.bits .and .i64 ((wrap64 (shr .u8 (n : Int) (wrap64 (4 * (m : Int))))) / 8) 1))) = some (cb (if m = 1 then (n : Int) / 16 else (n : Int))))) = true := by kernel_rfl
  obtain ⟨n, rfl⟩ := Int.eq_ofNat_of_zero_le h0
  exact of_decide_eq_true (List.all_eq_true.mp (List.all_eq_true.mp h n (List.mem_range.mpr (by omega))) m (List.mem_range.mpr hm))
/-- The coefficient i of the bytes t. -/
def qD (t : ByteArray) (i : Nat) : Int := cb (if i % 2 = 1 then bt t ((i / 2 : Nat) : Int) / 16 else bt t ((i / 2 : Nat) : Int))
def dM (t : ByteArray) : List Int := (List.range 256).map (qD t)
theorem iJ (t : ByteArray) : (dM t).length = 256 := by unfold dM; simp
theorem kH (t : ByteArray) (i : Nat) (h : i < (dM t).length) : (dM t)[i] = qD t i := by
  simp only [dM, List.getElem_map, List.getElem_range]
theorem ke (t : ByteArray) (ht : t.size = 128) : Ev (fun k => bx.l0 k ([] : List Int) t 0) (dM t) := by
  have hl := iJ t
  refine Ev.up (g := fun i k => bx.l0 k ((dM t).take i) t (i : Int)) 256 ?_ ?_ 0 (Nat.zero_le _)
  · intro i hi hh
    have hv := kH t i (by omega)
    rw [← fH (dM t) i (by omega), hv] at hh
    refine Ev.step (fun k => ?_) hh
    have e1 : wrap64 (Int.tdiv (i : Int) 2) = ((i / 2 : Nat) : Int) := by rw [Int.tdiv_eq_ediv_of_nonneg (by omega), w64 (by omega) (by omega)]; omega
    have hb := dl t ((i / 2 : Nat) : Int)
    have hlen : ((dM t).take i).length = i := by rw [List.length_take, hl]; omega
    have e2 : Int.tmod (i : Int) 2 = ((i % 2 : Nat) : Int) := by rw [Int.tmod_eq_emod_of_nonneg (by omega)]; omega
    unfold qD
    simp only [bx.l0, e1, e2]
    rw [za (by omega), za (by omega), za (by omega)]
    by_cases hp : i % 2 = 1
    · rw [za (by omega), za hp, za (by omega), r5 _ (by omega) (by omega), dm i (by omega)]
    · rw [Aa (by omega), Aa hp, za (by omega), rL _ (by omega) (by omega), dm i (by omega)]
  · refine Ev.step (f := fun _ => some (dM t)) (fun k => ?_) (Ev.now _)
    simp only [bx.l0]
    rw [Aa (by omega), List.take_of_length_le (by omega)]
theorem j7 (t : ByteArray) (ht : t.size = 128) : Ev (fun k => bE.l0 k t (List.replicate 256 0) 256 0) (dM t) := by
  have hl := iJ t
  have e0 : (dM t).take 0 ++ List.replicate ((dM t).length - 0) 0 = List.replicate 256 0 := by rw [hl, List.take_zero, List.nil_append, Nat.sub_zero]
  rw [← e0]
  refine Ev.up (g := fun i k => bE.l0 k t ((dM t).take i ++ List.replicate ((dM t).length - i) 0) 256 (i : Int)) 256 ?_ ?_ 0 (Nat.zero_le _)
  · intro i hi hh
    have hv := kH t i (by omega)
    rw [← nz (dM t) 0 i (by omega), hv] at hh
    refine Ev.step (fun k => ?_) hh
    have e1 : wrap64 (Int.tdiv (i : Int) 2) = ((i / 2 : Nat) : Int) := by rw [Int.tdiv_eq_ediv_of_nonneg (by omega), w64 (by omega) (by omega)]; omega
    have hb := dl t ((i / 2 : Nat) : Int)
    have hlen : ((dM t).take i ++ List.replicate ((dM t).length - i) 0).length = 256 := by rw [List.length_append, List.length_take, List.length_replicate, hl]; omega
    have e2 : Int.tmod (i : Int) 2 = ((i % 2 : Nat) : Int) := by rw [Int.tmod_eq_emod_of_nonneg (by omega)]; omega
    have e3 := qj (bt t ((i / 2 : Nat) : Int)) (i % 2) (by omega) (by omega) (by omega)
    have c1 : (i : Int) < 256 := by omega
    have c2 : (0 : Int) ≤ ((i / 2 : Nat) : Int) := by omega
    have c3 : ((i / 2 : Nat) : Int) < (t.size : Int) := by omega
    have c4 : 0 ≤ wrap64 (4 * ((i % 2 : Nat) : Int)) := by rw [w64 (by omega) (by omega)]; omega
    have c5 : (0 : Int) ≤ (i : Int) := by omega
    have c6 : (i : Int) < (((dM t).take i ++ List.replicate ((dM t).length - i) 0).length : Int) := by rw [hlen]; omega
    have c7 := dm i (by omega)
    unfold qD
    simp only [bE.l0, e1, e2]
    rw [za c1, za c2, za c3, za c4, e3, Option.bind_some, za c5, za c6, c7, Int.toNat_natCast]
  · refine Ev.step (f := fun _ => some (dM t)) (fun k => ?_) (Ev.now _)
    simp only [bE.l0]
    rw [Aa (by omega), List.take_of_length_le (by omega), hl, Nat.sub_self, List.replicate_zero, List.append_nil]
def eQ (s : ByteArray) (n : Int) : List Int := dM (lh (s ++ jd n) 128)
theorem nR (s : ByteArray) (n : Int) : (eQ s n).length = 256 := iJ _
theorem lq (s : ByteArray) : (lh s 128).size = 128 := by
  unfold lh
  rw [ByteArray.size_extract, gA]
  omega
theorem eN (s : ByteArray) (n : Int) (hs : s.size ≤ 1048576) : Ev (fun k => bx.f k s n) (eQ s n) := by
  unfold bx.f
  have h1 := fJ n
  exact Ev.then (jD n) (Ev.pos (by omega) (Ev.bind (lC _ (by rw [ByteArray.size_append]; omega)) (ke _ (lq _))))
theorem iE (s : ByteArray) (n : Int) (hs : s.size ≤ 1048576) : Ev (fun k => bE.f k s n) (eQ s n) := by
  unfold bE.f
  have h1 := fJ n
  refine Ev.then (jv n) (Ev.pos (by omega) (Ev.bind (lB _ (by rw [ByteArray.size_append]; omega)) (Ev.pos (by decide) (Ev.then (a := List.replicate 256 0) rfl ?_))))
  rw [List.length_replicate]
  exact j7 _ (lq _)
/-- A number taken in, where it is small enough and there is room. -/
def put (l : List Int) (v : Int) : List Int := if v < 3329 ∧ l.length < 256 then l ++ [v] else l
theorem mD (l : List Int) (v : Int) (h : l.length ≤ 256) : (put l v).length ≤ 256 := by
  unfold put
  split
  · rw [List.length_append, List.length_singleton]; omega
  · exact h
def pY (b0 b1 : Int) : Int := b0 + 256 * (b1 % 16)
def oz (b1 b2 : Int) : Int := b1 / 16 + 16 * b2
/-- Three bytes taken in. -/
def ow (l : List Int) (b0 b1 b2 : Int) : List Int := put (put l (pY b0 b1)) (oz b1 b2)
theorem oW (l : List Int) (b0 b1 b2 : Int) (h : l.length ≤ 256) : (ow l b0 b1 b2).length ≤ 256 := mD _ _ (mD _ _ h)
/-- The state of block m of the stream. -/
def dF (s : ByteArray) : Nat → ByteArray
  | 0 => s
  | m + 1 => ex (dF s m)
theorem ie (s : ByteArray) (hs : s.size = 200) : ∀ m, (dF s m).size = 200
  | 0 => hs
  | m + 1 => fR _
/-- Byte q of the round i. -/
def rb (s : ByteArray) (i q : Nat) : Int := bt (dF s (i / 56)) ((3 * (i % 56) + q : Nat) : Int)
def gf (s : ByteArray) (l : List Int) (i : Nat) : List Int := ow l (rb s i 0) (rb s i 1) (rb s i 2)
theorem iL (s : ByteArray) (l : List Int) (i : Nat) (h : l.length ≤ 256) : (gf s l i).length ≤ 256 := oW _ _ _ _ h
/-- What n rounds more make, i of them gone. -/
def goU (s : ByteArray) : Nat → List Int → Nat → List Int
  | 0, l, i => l
  | n + 1, l, i => if l.length < 256 then goU s n (gf s l i) (i + 1) else l
def rP (s : ByteArray) : List Int := goU s 4000 [] 0
theorem oT (s : ByteArray) : ∀ n l i, l.length ≤ 256 → (goU s n l i).length ≤ 256
  | 0, l, i, h => h
  | n + 1, l, i, h => by
    simp only [goU]
    split
    · exact oT s n _ _ (iL s l i h)
    · exact h
def fF (l : List Int) : List Int := l ++ List.replicate (256 - l.length) 0
theorem nc (l : List Int) (h : l.length ≤ 256) : (fF l).length = 256 := by
  unfold fF
  rw [List.length_append, List.length_replicate]; omega
theorem pX (s : ByteArray) (a n j : Nat) (h : a + n ≤ s.size) (hj : j < n) : bt (s.extract a (a + n)) (j : Int) = bt s ((a + j : Nat) : Int) := by
  have hs : j < (s.extract a (a + n)).size := by rw [gr s a n h]; exact hj
  rw [← cB (s.extract a (a + n)) (j : Int) (by simpa using hs), ← cB s ((a + j : Nat) : Int) (by simp; omega)]
  simp only [Int.toNat_natCast]
  rw [ByteArray.getElem_extract]
/-- The reference fills up with zeros. -/
theorem lX (l : List Int) (h : l.length ≤ 256) : Ev (fun k => ak.l1 k l) (fF l) := by
  obtain ⟨d, hd⟩ : ∃ d, d = 256 - l.length := ⟨_, rfl⟩
  induction d generalizing l with
  | zero =>
    refine Ev.step (f := fun _ => some (fF l)) (fun k => ?_) (Ev.now _)
    simp only [ak.l1]
    rw [Aa (by omega)]
    unfold fF
    rw [← hd, List.replicate_zero, List.append_nil]
  | succ d ih =>
    have h1 := ih (l ++ [0]) (by rw [List.length_append, List.length_singleton]; omega) (by rw [List.length_append, List.length_singleton]; omega)
    have e : fF (l ++ [0]) = fF l := by
      unfold fF
      rw [List.length_append, List.length_singleton, show 256 - l.length = 256 - (l.length + 1) + 1 by omega, List.replicate_succ, List.append_assoc]
      rfl
    rw [e] at h1
    refine Ev.step (fun k => ?_) h1
    simp only [ak.l1]
    rw [za (by omega), za (by omega)]
theorem m7 (b0 b1 : Int) (h0 : 0 ≤ b0 ∧ b0 ≤ 255) (h1 : 0 ≤ b1 ∧ b1 ≤ 255) : wrap64 ((wrap64 b0) + (wrap64 (256 * (Int.tmod (wrap64 b1) 16)))) = pY b0 b1 := by
  have e0 : wrap64 b0 = b0 := w64 (by omega) (by omega)
  have e1 : wrap64 b1 = b1 := w64 (by omega) (by omega)
  rw [e0, e1, Int.tmod_eq_emod_of_nonneg h1.1]
  have e2 : wrap64 (256 * (b1 % 16)) = 256 * (b1 % 16) := w64 (by omega) (by omega)
  rw [e2]
  exact w64 (by omega) (by omega)
theorem me (b1 b2 : Int) (h1 : 0 ≤ b1 ∧ b1 ≤ 255) (h2 : 0 ≤ b2 ∧ b2 ≤ 255) : wrap64 ((wrap64 (Int.tdiv (wrap64 b1) 16)) + (wrap64 (16 * (wrap64 b2)))) = oz b1 b2 := by
  have e0 : wrap64 b2 = b2 := w64 (by omega) (by omega)
  have e1 : wrap64 b1 = b1 := w64 (by omega) (by omega)
  rw [e0, e1, Int.tdiv_eq_ediv_of_nonneg h1.1]
  have e2 : wrap64 (16 * b2) = 16 * b2 := w64 (by omega) (by omega)
  have e3 : wrap64 (b1 / 16) = b1 / 16 := w64 (by omega) (by omega)
  rw [e2, e3]
  exact w64 (by omega) (by omega)
theorem pm (b0 b1 : Int) (h0 : 0 ≤ b0 ∧ b0 ≤ 255) (h1 : 0 ≤ b1 ∧ b1 ≤ 255) : wrap64 ((wrap64 b0) + (wrap64 ((Int.tmod (wrap64 b1) 16) * 256))) = pY b0 b1 := by
  rw [← m7 b0 b1 h0 h1, Int.mul_comm]
theorem mC (l : List Int) (v : Int) (h1 : v < 3329) (h2 : l.length < 256) : put l v = l ++ [v] := za ⟨h1, h2⟩
theorem ii (l : List Int) (v : Int) (h : ¬ (v < 3329 ∧ l.length < 256)) : put l v = l := Aa h
/-- Where the reference stands ahead of round i. -/
def StS (s : ByteArray) (i : Nat) (x9 str : ByteArray) (at_ : Int) : Prop :=
  (i % 56 ≠ 0 ∧ x9 = (dF s (i / 56)).extract 0 168 ∧ str = dF s (i / 56) ∧ at_ = 168) ∨ (i = 0 ∧ str = s ∧ at_ = 0) ∨ (i % 56 = 0 ∧ 0 < i ∧ str = dF s (i / 56 - 1) ∧ at_ = 168)
theorem StS.next (s : ByteArray) (i : Nat) : StS s (i + 1) ((dF s (i / 56)).extract 0 168) (dF s (i / 56)) 168 := by
  unfold StS
  by_cases h : (i + 1) % 56 = 0
  · exact Or.inr (Or.inr ⟨h, by omega, by rw [show (i + 1) / 56 - 1 = i / 56 by omega], rfl⟩)
  · exact Or.inl ⟨h, by rw [show (i + 1) / 56 = i / 56 by omega], by rw [show (i + 1) / 56 = i / 56 by omega], rfl⟩
theorem oe (k : Nat) (s : ByteArray) (hs : s.size = 200) (l : List Int) (hl : l.length < 256) (i : Nat) (hi : i < 4000) : ak.j2 (k + 1) l ((dF s (i / 56)).extract 0 168) (i : Int) ((3 * (i % 56) : Nat) : Int) (dF s (i / 56)) 168 = ak.l0 k (gf s l i) ((dF s (i / 56)).extract 0 168) ((i + 1 : Nat) : Int) (dF s (i / 56)) 168 := by
  have hB := ie s hs (i / 56)
  have hz : ((dF s (i / 56)).extract 0 168).size = 168 := by rw [ByteArray.size_extract]; omega
  have w1 : wrap64 (((3 * (i % 56) : Nat) : Int) + 1) = ((3 * (i % 56) + 1 : Nat) : Int) := by rw [w64 (by omega) (by omega)]; rfl
  have w2 : wrap64 (((3 * (i % 56) : Nat) : Int) + 2) = ((3 * (i % 56) + 2 : Nat) : Int) := by rw [w64 (by omega) (by omega)]; rfl
  have w3 := dm i (by omega)
  have c1 : (0 : Int) ≤ ((3 * (i % 56) : Nat) : Int) := by omega
  have c2 : ((3 * (i % 56) : Nat) : Int) < (((dF s (i / 56)).extract 0 168).size : Int) := by rw [hz]; omega
  have c3 : (0 : Int) ≤ ((3 * (i % 56) + 1 : Nat) : Int) := by omega
  have c4 : ((3 * (i % 56) + 1 : Nat) : Int) < (((dF s (i / 56)).extract 0 168).size : Int) := by rw [hz]; omega
  have c5 : (0 : Int) ≤ ((3 * (i % 56) + 2 : Nat) : Int) := by omega
  have c6 : ((3 * (i % 56) + 2 : Nat) : Int) < (((dF s (i / 56)).extract 0 168).size : Int) := by rw [hz]; omega
  have c7 : l.length < 17592186044416 := by omega
  have c8 : (l.length : Int) < 256 := by omega
  have hb : ∀ q, q < 3 → bt ((dF s (i / 56)).extract 0 168) ((3 * (i % 56) + q : Nat) : Int) = rb s i q := by
    intro q hq
    have := pX (dF s (i / 56)) 0 168 (3 * (i % 56) + q) (by omega) (by omega)
    rw [Nat.zero_add, Nat.zero_add] at this
    exact this
  have r0 : 0 ≤ rb s i 0 ∧ rb s i 0 ≤ 255 := g8 _ _
  have r1 : 0 ≤ rb s i 1 ∧ rb s i 1 ≤ 255 := g8 _ _
  have r2 : 0 ≤ rb s i 2 ∧ rb s i 2 ≤ 255 := g8 _ _
  have e0 : bt ((dF s (i / 56)).extract 0 168) ((3 * (i % 56) : Nat) : Int) = rb s i 0 := hb 0 (by decide)
  have e1 := hb 1 (by decide)
  have e2 := hb 2 (by decide)
  simp only [ak.j2, w1, w2, w3, e0, e1, e2]
  rw [za c1, za c2, za c3, za c4, za c5, za c6, m7 _ _ r0 r1, me _ _ r1 r2]
  clear e0 e1 e2 r0 r1 r2 hb w1 w2 w3 c1 c2 c3 c4 c5 c6 hz hB
  unfold gf ow
  generalize pY (rb s i 0) (rb s i 1) = v
  generalize oz (rb s i 1) (rb s i 2) = u
  by_cases hv : v < 3329
  · rw [za hv, za c7, mC l v hv hl, Option.bind_some]
    by_cases hu : u < 3329
    · rw [za hu]
      by_cases hq : (l ++ [v]).length < 256
      · rw [za (by omega), za (by omega), mC _ u hu hq]
      · rw [Aa (by omega), ii _ u (by omega)]
    · rw [Aa hu, ii _ u (by omega)]
  · rw [Aa hv, ii l v (by omega)]
    by_cases hu : u < 3329
    · rw [za hu, za c8, za c7, mC _ u hu hl]
    · rw [Aa hu, ii _ u (by omega)]
theorem ol (s : ByteArray) (hs : s.size = 200) (l : List Int) (hl : l.length < 256) (i : Nat) (hi : i < 4000) (x9 str : ByteArray) (a : Int) (h : StS s i x9 str a) (r : List Int)
    (hr : Ev (fun k => ak.l0 k (gf s l i) ((dF s (i / 56)).extract 0 168) ((i + 1 : Nat) : Int) (dF s (i / 56)) 168) r) : Ev (fun k => ak.j1 k l x9 (i : Int) true str a) r := by
  have e1 : wrap64 (Int.tmod (i : Int) 56 * 3) = ((3 * (i % 56) : Nat) : Int) := by
    rw [Int.tmod_eq_emod_of_nonneg (by omega), w64 (by omega) (by omega)]; omega
  have h3 : Ev (fun k => ak.j2 k l ((dF s (i / 56)).extract 0 168) (i : Int) ((3 * (i % 56) : Nat) : Int) (dF s (i / 56)) 168) r := Ev.step (fun k => oe k s hs l hl i hi) hr
  rcases h with ⟨h1, rfl, rfl, rfl⟩ | h
  · refine Ev.step (fun k => ?_) h3
    simp only [ak.j1, e1]
    rw [za trivial, Aa (by omega)]
  · have hz : i % 56 = 0 := by omega
    have ht : Ev (fun k => aw.f k str a 168) (dF s (i / 56), 168, (dF s (i / 56)).extract 0 168) := by
      rcases h with ⟨rfl, rfl, rfl⟩ | ⟨_, hp, rfl, rfl⟩
      · exact i8 str 0 168 hs (by decide) (by decide)
      · have := lF (dF s (i / 56 - 1)) 168 (ie s hs _) (by decide) (by decide)
        have e : ex (dF s (i / 56 - 1)) = dF s (i / 56) := by
          obtain ⟨m, hm⟩ : ∃ m, i / 56 = m + 1 := ⟨i / 56 - 1, by omega⟩
          rw [hm]; rfl
        rw [e] at this
        exact this
    refine Ev.step (f := fun k => (aw.f k str a 168).bind fun bt249 => ak.j2 k l bt249.2.2 (i : Int) ((3 * (i % 56) : Nat) : Int) bt249.1 bt249.2.1) (fun k => ?_) (Ev.bind ht h3)
    simp only [ak.j1, e1]
    rw [za trivial, za (by omega)]
theorem jP (s : ByteArray) (hs : s.size = 200) : ∀ n l i x9 str a, n + i = 4000 → l.length ≤ 256 → StS s i x9 str a → Ev (fun k => ak.l0 k l x9 (i : Int) str a) (fF (goU s n l i))
  | 0, l, i, x9, str, a, hn, hl, h => by
    refine Ev.step (f := fun k => ak.j1 k l x9 (i : Int) false str a) (fun k => ?_) (Ev.step (fun k => ?_) (lX l hl))
    · simp only [ak.l0]
      rw [Aa (by omega)]
    · simp only [ak.j1]
      rw [Aa (by decide)]
  | n + 1, l, i, x9, str, a, hn, hl, h => by
    simp only [goU]
    by_cases hq : l.length < 256
    · rw [za hq]
      have ih := jP s hs n (gf s l i) (i + 1) _ _ 168 (by omega) (iL s l i hl) (StS.next s i)
      refine Ev.step (fun k => ?_) (ol s hs l hq i (by omega) x9 str a h _ ih)
      simp only [ak.l0]
      rw [za (by omega), ta (by omega)]
    · rw [Aa hq]
      refine Ev.step (f := fun k => ak.j1 k l x9 (i : Int) false str a) (fun k => ?_) (Ev.step (fun k => ?_) (lX l hl))
      · simp only [ak.l0]
        rw [za (by omega), ua (by omega)]
      · simp only [ak.j1]
        rw [Aa (by decide)]
/-- Where the program stands ahead of round i. -/
def StI (s : ByteArray) (i : Nat) (str : ByteArray) (at_ : Int) : Prop :=
  (i % 56 ≠ 0 ∧ str = dF s (i / 56) ∧ at_ = ((3 * (i % 56) : Nat) : Int)) ∨ (i = 0 ∧ str = s ∧ at_ = 0) ∨ (i % 56 = 0 ∧ 0 < i ∧ str = dF s (i / 56 - 1) ∧ at_ = 168)
theorem StI.next (s : ByteArray) (i : Nat) : StI s (i + 1) (dF s (i / 56)) ((3 * (i % 56) + 3 : Nat) : Int) := by
  unfold StI
  by_cases h : (i + 1) % 56 = 0
  · exact Or.inr (Or.inr ⟨h, by omega, by rw [show (i + 1) / 56 - 1 = i / 56 by omega], by omega⟩)
  · exact Or.inl ⟨h, by rw [show (i + 1) / 56 = i / 56 by omega], by omega⟩
theorem pI (l : List Int) (v : Int) (h : l.length < 256) : (fF l).set l.length v = fF (l ++ [v]) := by
  unfold fF
  rw [List.set_append_right _ _ (wa _), Nat.sub_self, List.length_append, List.length_singleton, show 256 - l.length = 256 - (l.length + 1) + 1 by omega, List.replicate_succ, List.set_cons_zero, List.append_assoc]
  rfl
theorem mP (l y : List Int) (hl : l.length ≤ 256) (v : Int) (i : Int) (j : Nat) (hj : j < 2) (hy : y.length = 2) (hv : rd y (j : Int) = v) (str : ByteArray) (a : Int) (r : List Int)
    (h : Ev (fun k => ap.l1 k (fF (put l v)) ((put l v).length : Int) i y 2 ((j + 1 : Nat) : Int) str a) r) : Ev (fun k => ap.l1 k (fF l) (l.length : Int) i y 2 (j : Int) str a) r := by
  refine Ev.step (fun k => ?_) h
  have c1 : (j : Int) < 2 := by omega
  have c2 : (0 : Int) ≤ (j : Int) := by omega
  have c3 : (j : Int) < (y.length : Int) := by omega
  have w1 := dm j (by omega)
  have w2 := dm l.length (by omega)
  have hf := nc l hl
  simp only [ap.l1, hv, w1, w2]
  rw [za c1, za c2, za c3]
  by_cases h1 : v < 3329
  · rw [za h1]
    by_cases h2 : l.length < 256
    · rw [za (by omega), za (by omega), za (by omega), Int.toNat_natCast, mC l v h1 h2, pI l v h2, List.length_append, List.length_singleton]
    · rw [Aa (by omega), ii l v (by omega)]
  · rw [Aa h1, ii l v (by omega)]
theorem nW (s : ByteArray) (hs : s.size = 200) (l : List Int) (hl : l.length < 256) (i : Nat) (hi : i < 4000) (str : ByteArray) (a : Int) (h : StI s i str a) (r : List Int)
    (hr : Ev (fun k => ap.l0 k (fF (gf s l i)) ((gf s l i).length : Int) ((i + 1 : Nat) : Int) (dF s (i / 56)) ((3 * (i % 56) + 3 : Nat) : Int)) r) : Ev (fun k => ap.j1 k (fF l) (l.length : Int) (i : Int) true str a) r := by
  have hB := ie s hs (i / 56)
  have ht : Ev (fun k => ao.f k str a 3) (dF s (i / 56), ((3 * (i % 56) + 3 : Nat) : Int), (dF s (i / 56)).extract (3 * (i % 56)) (3 * (i % 56) + 3)) := by
    rcases h with ⟨h1, rfl, rfl⟩ | ⟨rfl, rfl, rfl⟩ | ⟨hz, hp, rfl, rfl⟩
    · exact gG _ (3 * (i % 56)) 3 hB (by decide) (by omega)
    · exact gG str 0 3 hs (by decide) (by decide)
    · have := lM (dF s (i / 56 - 1)) 3 (ie s hs _) (by decide) (by decide)
      have e : ex (dF s (i / 56 - 1)) = dF s (i / 56) := by
        obtain ⟨m, hm⟩ : ∃ m, i / 56 = m + 1 := ⟨i / 56 - 1, by omega⟩
        rw [hm]; rfl
      rw [e] at this
      rw [hz]
      exact this
  have hz := gr (dF s (i / 56)) (3 * (i % 56)) 3 (by omega)
  have hb : ∀ q : Nat, q < 3 → bt ((dF s (i / 56)).extract (3 * (i % 56)) (3 * (i % 56) + 3)) (q : Int) = rb s i q := fun q hq => pX (dF s (i / 56)) (3 * (i % 56)) 3 q (by omega) hq
  have z0 : (0 : Int) < (((dF s (i / 56)).extract (3 * (i % 56)) (3 * (i % 56) + 3)).size : Int) := by rw [hz]; decide
  have z1 : (1 : Int) < (((dF s (i / 56)).extract (3 * (i % 56)) (3 * (i % 56) + 3)).size : Int) := by rw [hz]; decide
  have z2 : (2 : Int) < (((dF s (i / 56)).extract (3 * (i % 56)) (3 * (i % 56) + 3)).size : Int) := by rw [hz]; decide
  have w3 := dm i (by omega)
  have r0 : 0 ≤ rb s i 0 ∧ rb s i 0 ≤ 255 := g8 _ _
  have r1 : 0 ≤ rb s i 1 ∧ rb s i 1 ≤ 255 := g8 _ _
  have r2 : 0 ≤ rb s i 2 ∧ rb s i 2 ≤ 255 := g8 _ _
  have e0 : bt ((dF s (i / 56)).extract (3 * (i % 56)) (3 * (i % 56) + 3)) 0 = rb s i 0 := hb 0 (by decide)
  have e1 : bt ((dF s (i / 56)).extract (3 * (i % 56)) (3 * (i % 56) + 3)) 1 = rb s i 1 := hb 1 (by decide)
  have e2 : bt ((dF s (i / 56)).extract (3 * (i % 56)) (3 * (i % 56) + 3)) 2 = rb s i 2 := hb 2 (by decide)
  generalize hE : (dF s (i / 56)).extract (3 * (i % 56)) (3 * (i % 56) + 3) = E at ht hz e0 e1 e2 z0 z1 z2
  refine Ev.step (f := fun k => (ao.f k str a 3).bind fun bt273 => (if 0 < (bt273.2.2.size : Int) then (if 1 < (bt273.2.2.size : Int) then (if 2 < (bt273.2.2.size : Int) then ((some (([wrap64 ((wrap64 (bt bt273.2.2 0)) + (wrap64 ((Int.tmod (wrap64 (bt bt273.2.2 1)) 16) * 256))), wrap64 ((wrap64 (Int.tdiv (wrap64 (bt bt273.2.2 1)) 16)) + (wrap64 (16 * (wrap64 (bt bt273.2.2 2)))))] : List Int) : List Int)).bind fun y277 => (ap.l1 k (fF l) (l.length : Int) (i : Int) y277 (y277.length : Int) 0 bt273.1 bt273.2.1)) else (none)) else (none)) else (none))) (fun k => ?_) (Ev.bind ht ?_)
  · simp only [ap.j1]
    rw [za trivial]
  · refine Ev.pos z0 (Ev.pos z1 (Ev.pos z2 ?_))
    simp only [Option.bind_some, e0, e1, e2, pm _ _ r0 r1, me _ _ r1 r2]
    clear e0 e1 e2 r0 r1 r2 hb hz z0 z1 z2 ht
    unfold gf ow at hr
    generalize pY (rb s i 0) (rb s i 1) = v at hr ⊢
    generalize oz (rb s i 1) (rb s i 2) = u at hr ⊢
    refine mP l [v, u] (by omega) v (i : Int) 0 (by decide) rfl rfl _ _ r ?_
    refine mP (put l v) [v, u] (mD _ _ (by omega)) u (i : Int) 1 (by decide) rfl rfl _ _ r ?_
    refine Ev.step (fun k => ?_) hr
    simp only [ap.l1]
    rw [Aa (by decide), w3]
theorem jV (s : ByteArray) (hs : s.size = 200) : ∀ n l i str a, n + i = 4000 → l.length ≤ 256 → StI s i str a → Ev (fun k => ap.l0 k (fF l) (l.length : Int) (i : Int) str a) (fF (goU s n l i))
  | 0, l, i, str, a, hn, hl, h => by
    refine Ev.step (f := fun k => ap.j1 k (fF l) (l.length : Int) (i : Int) false str a) (fun k => ?_) (Ev.step (f := fun _ => some (fF l)) (fun k => ?_) (Ev.now _))
    · simp only [ap.l0]
      rw [Aa (by omega)]
    · simp only [ap.j1]
      rw [Aa (by decide)]
  | n + 1, l, i, str, a, hn, hl, h => by
    simp only [goU]
    by_cases hq : l.length < 256
    · rw [za hq]
      have ih := jV s hs n (gf s l i) (i + 1) _ _ (by omega) (iL s l i hl) (StI.next s i)
      refine Ev.step (fun k => ?_) (nW s hs l hq i (by omega) str a h _ ih)
      simp only [ap.l0]
      rw [za (by omega), ta (by omega)]
    · rw [Aa hq]
      refine Ev.step (f := fun k => ap.j1 k (fF l) (l.length : Int) (i : Int) false str a) (fun k => ?_) (Ev.step (f := fun _ => some (fF l)) (fun k => ?_) (Ev.now _))
      · simp only [ap.l0]
        rw [za (by omega), ua (by omega)]
      · simp only [ap.j1]
        rw [Aa (by decide)]
def iI (s : ByteArray) (x y : Int) : List Int := fF (rP (kM ((s ++ jd x) ++ jd y)))
theorem qd (s : ByteArray) : (rP s).length ≤ 256 := oT s 4000 [] 0 (by decide)
theorem p7 (s : ByteArray) (x y : Int) : (iI s x y).length = 256 := nc _ (qd _)
theorem j8 (s : ByteArray) (x y : Int) (hs : s.size ≤ 1048576) : Ev (fun k => ak.f k s x y) (iI s x y) := by
  unfold ak.f
  have h1 := fJ x
  have h2 := fJ y
  have h3 : (s ++ jd x).size = s.size + 1 := by rw [ByteArray.size_append, h1]
  have h4 : ((s ++ jd x) ++ jd y).size = s.size + 2 := by rw [ByteArray.size_append, h2, h3]
  refine Ev.then (jD x) (Ev.pos (by omega) (Ev.then (jD y) (Ev.pos (by omega) (Ev.bind (jN _ (by omega)) ?_))))
  exact jP _ (gA _) 4000 [] 0 _ _ 0 rfl (by decide) (Or.inr (Or.inl ⟨rfl, rfl, rfl⟩))
theorem j9 (s : ByteArray) (x y : Int) (hs : s.size ≤ 1048576) : Ev (fun k => ap.f k s x y) (iI s x y) := by
  unfold ap.f
  have h1 := fJ x
  have h2 := fJ y
  have h3 : (s ++ jd x).size = s.size + 1 := by rw [ByteArray.size_append, h1]
  have h4 : ((s ++ jd x) ++ jd y).size = s.size + 2 := by rw [ByteArray.size_append, h2, h3]
  refine Ev.then (jv x) (Ev.pos (by omega) (Ev.then (jv y) (Ev.pos (by omega) (Ev.bind (jH _ (by omega)) (Ev.pos (by decide) ?_)))))
  exact jV _ (gA _) 4000 [] 0 _ 0 rfl (by decide) (Or.inr (Or.inl ⟨rfl, rfl, rfl⟩))
theorem w01 : wrap64 (0 + 1) = 1 := by rw [w64 (by decide) (by decide)]; rfl
theorem w00 : wrap64 (0 + 0) = 0 := by rw [w64 (by decide) (by decide)]; rfl
theorem w20 : wrap64 (2 + 0) = 2 := by rw [w64 (by decide) (by decide)]; rfl
theorem w21 : wrap64 (2 + 1) = 3 := by rw [w64 (by decide) (by decide)]; rfl
theorem w02 : wrap64 (0 * 2) = 0 := by rw [w64 (by decide) (by decide)]; rfl
theorem w12 : wrap64 (1 * 2) = 2 := by rw [w64 (by decide) (by decide)]; rfl
theorem w11 : wrap64 (1 + 1) = 2 := by rw [w64 (by decide) (by decide)]; rfl
theorem gY (d : Nat) (l : List Int) (hd : d ≤ 11) (hl : l.length ≤ 1000) : (eV d (sqV l d)).size ≤ 10000 := by
  unfold eV sqV
  rw [strOfNums_size, eO, List.length_map]
  have : l.length * d ≤ 1000 * 11 := Nat.mul_le_mul hl hd
  omega
/-- The matrix, by its four polynomials. -/
def pD (s : ByteArray) : List (List Int) := [iI s 0 0, iI s 1 0, iI s 0 1, iI s 1 1]
theorem lw (s : ByteArray) (hs : s.size ≤ 1048576) : Ev (fun k => aC.f k s) (pD s) := by
  have r1 : ∀ (l : List (List Int)) (i j j' : Int) (hj : j < 2) (hw : wrap64 (j + 1) = j') (hl : l.length ≤ 5) (res : List (List Int)) (h : Ev (fun k => aC.l1 k s (l ++ [iI s j i]) i j') res), Ev (fun k => aC.l1 k s l i j) res := by
    intro l i j j' hj hw hl res h
    refine Ev.step (fun k => by simp only [aC.l1]; rw [za hj, hw]) ?_
    exact Ev.bind (j8 s j i hs) (Ev.pos (by omega) h)
  have r2 : ∀ (l : List (List Int)) (i i' : Int) (hw : wrap64 (i + 1) = i') (res : List (List Int)) (h : Ev (fun k => aC.l0 k s l i') res), Ev (fun k => aC.l1 k s l i 2) res := by
    intro l i i' hw res h
    exact Ev.step (fun k => by simp only [aC.l1]; rw [Aa (by decide), hw]) h
  have r3 : ∀ (l : List (List Int)) (i : Int) (hi : i < 2) (res : List (List Int)) (h : Ev (fun k => aC.l1 k s l i 0) res), Ev (fun k => aC.l0 k s l i) res := by
    intro l i hi res h
    exact Ev.step (fun k => by simp only [aC.l0]; rw [za hi]) h
  unfold aC.f
  refine r3 _ 0 (by decide) _ (r1 _ 0 0 1 (by decide) w01 (by simp) _ (r1 _ 0 1 2 (by decide) w11 (by simp) _ (r2 _ 0 1 w01 _ (r3 _ 1 (by decide) _ (r1 _ 1 0 1 (by decide) w01 (by simp) _ (r1 _ 1 1 2 (by decide) w11 (by simp) _ (r2 _ 1 2 w11 _ ?_)))))))
  exact Ev.step (f := fun _ => some (pD s)) (fun k => by simp only [aC.l0]; rw [Aa (by decide)]; rfl) (Ev.now _)
theorem jU (s : ByteArray) (i : Int) (hs : s.size ≤ 1048576) : Ev (fun k => b7.f k s i true) [iI s i 0, iI s i 1] := by
  have u := fun x y => j9 s x y hs
  unfold b7.f
  refine Ev.step (f := fun k => (ap.f k s i 0).bind fun t => b7.l0 k s i true [t] 1) (fun k => by simp only [b7.l0]; rw [za (by decide), za trivial, w01]; simp) (Ev.bind (u i 0) ?_)
  refine Ev.step (f := fun k => (ap.f k s i 1).bind fun t => b7.l0 k s i true [iI s i 0, t] 2) (fun k => by simp only [b7.l0]; rw [za (by decide), za trivial, w11]; simp) (Ev.bind (u i 1) ?_)
  exact Ev.step (f := fun _ => some _) (fun k => by simp only [b7.l0]; rw [Aa (by decide)]) (Ev.now _)
theorem gU (s : ByteArray) (a b : Int) (hb : b = wrap64 (a + 1)) (ha : a = wrap64 (a + 0)) (hs : s.size ≤ 1048576) : Ev (fun k => bC.f k s a) [eQ s a, eQ s b] := by
  have u := fun x => iE s x hs
  unfold bC.f
  refine Ev.step (f := fun k => (bE.f k s a).bind fun t => bC.l0 k s a [t] 1) (fun k => by simp only [bC.l0]; rw [za (by decide), w01, ← ha]; simp) (Ev.bind (u a) ?_)
  refine Ev.step (f := fun k => (bE.f k s b).bind fun t => bC.l0 k s a [eQ s a, t] 2) (fun k => by simp only [bC.l0]; rw [za (by decide), w11, ← hb]; simp) (Ev.bind (u b) ?_)
  exact Ev.step (f := fun _ => some _) (fun k => by simp only [bC.l0]; rw [Aa (by decide)]) (Ev.now _)
theorem mm (a b A B : List Int) (h1 : Ev (fun k => aQ.f k a) A) (h2 : Ev (fun k => aQ.f k b) B) : Ev (fun k => bT.f k [a, b]) [A, B] := by
  unfold bT.f
  refine Ev.step (f := fun k => (aQ.f k a).bind fun t => bT.l0 k [t] [a, b] 2 1) (fun k => by simp only [bT.l0]; rw [za (by simp), za (by decide), za (by simp), w01]; rfl) (Ev.bind h1 ?_)
  refine Ev.step (f := fun k => (aQ.f k b).bind fun t => bT.l0 k [A, t] [a, b] 2 2) (fun k => by simp only [bT.l0]; rw [za (by simp), za (by decide), za (by simp), w11]; simp [dg]) (Ev.bind h2 ?_)
  exact Ev.step (f := fun _ => some _) (fun k => by simp only [bT.l0]; rw [Aa (by decide)]) (Ev.now _)
/-- One part of a cipher, of the reference. -/
theorem gX (m c : ByteArray) (T M R : List (List Int)) (o : ByteArray) (i i2 : Int) (hi : i < 2) (c0 c1 s v e u : List Int) (p : ByteArray) (res : ByteArray × Bool)
    (j0 j1 : Int) (hM : M.length = 4) (z0 : wrap64 (0 + i) = j0) (z1 : wrap64 (2 + i) = j1) (q0 : 0 ≤ j0 ∧ j0 < 4) (q1 : 0 ≤ j1 ∧ j1 < 4) (k2 : dg M j0 = c0) (k5 : dg M j1 = c1) (k6 : wrap64 (2 + i) = i2)
    (f1 : Ev (fun k => bc.f k [c0, c1] R) s) (f2 : Ev (fun k => am.f k s) v) (f3 : Ev (fun k => bx.f k c i2) e) (f4 : Ev (fun k => aE.f k v e) u) (f5 : Ev (fun k => aU.f k u 10) p) (hp : o.size + p.size ≤ 9223372036854775807)
    (h : Ev (fun k => al.l1 k m c T M R (o ++ p) (wrap64 (i + 1))) res) : Ev (fun k => al.l1 k m c T M R o i) res := by
  refine Ev.step (f := fun k => al.l2 k m c T M R o i [] 0) (fun k => by simp only [al.l1]; rw [za hi]) ?_
  refine Ev.step (f := fun k => al.l2 k m c T M R o i [c0] 1) (fun k => by simp only [al.l2]; rw [za (by decide), w02, z0, za q0.1, za (by omega), k2, w01]; simp) ?_
  refine Ev.step (f := fun k => al.l2 k m c T M R o i [c0, c1] 2) (fun k => by simp only [al.l2]; rw [za (by decide), w12, z1, za q1.1, za (by omega), k5, w11]; simp) ?_
  refine Ev.step (fun k => by simp only [al.l2]; rw [Aa (by decide), k6]) ?_
  exact Ev.bind f1 (Ev.bind f2 (Ev.bind f3 (Ev.bind f4 (Ev.bind f5 (Ev.pos hp h)))))
theorem gT (m c : ByteArray) (T : List (List Int)) (rho : ByteArray) (R E : List (List Int)) (o : ByteArray) (i : Int) (hi : i < 2) (h0 : 0 ≤ i) (row : List (List Int)) (s v e u q : List Int) (p : ByteArray) (res : ByteArray × Bool) (hE : i < (E.length : Int)) (he : dg E i = e)
    (f0 : Ev (fun k => b7.f k rho i true) row) (f1 : Ev (fun k => bK.f k row R) s) (f2 : Ev (fun k => ai.f k s) v) (f4 : Ev (fun k => bF.f k v e) u) (f5 : Ev (fun k => bk.f k u 10) q) (f6 : Ev (fun k => ay.f k q 10) p) (hp : o.size + p.size ≤ 9223372036854775807)
    (h : Ev (fun k => aA.l0 k m c T rho R E (o ++ p) (wrap64 (i + 1))) res) : Ev (fun k => aA.l0 k m c T rho R E o i) res := by
  refine Ev.step (fun k => by simp only [aA.l0]; rw [za hi, he]) ?_
  exact Ev.bind f0 (Ev.bind f1 (Ev.bind f2 (Ev.pos h0 (Ev.pos hE (Ev.bind f4 (Ev.bind f5 (Ev.bind f6 (Ev.pos hp h))))))))
theorem mU (P m c : ByteArray) : ∃ R : ByteArray × Bool, Ev (fun k => al.f k P m c) R ∧ Ev (fun k => aA.f k P m c) R := by
  have sbad : Ev (fun k => al.j0 k P m c true) ((⟨#[]⟩ : ByteArray), false) := Ev.step (f := fun _ => some _) (fun k => by simp only [al.j0]; rw [za trivial]) (Ev.now _)
  have ibad : Ev (fun k => aA.j0 k P m c true) ((⟨#[]⟩ : ByteArray), false) := Ev.step (f := fun _ => some _) (fun k => by simp only [aA.j0]; rw [za trivial]) (Ev.now _)
  have so := jy P
  have io := ju P
  by_cases h : fL P = true
  rotate_left
  · refine ⟨((⟨#[]⟩ : ByteArray), false), ?_, ?_⟩
    · unfold al.f
      exact Ev.bind so (Ev.neg h sbad)
    · unfold aA.f
      exact Ev.bind io (Ev.neg h ibad)
  by_cases hm : (m.size : Int) = 32
  rotate_left
  · refine ⟨((⟨#[]⟩ : ByteArray), false), ?_, ?_⟩
    · unfold al.f
      exact Ev.bind so (Ev.pos h (Ev.neg hm sbad))
    · unfold aA.f
      exact Ev.bind io (Ev.pos h (Ev.neg hm ibad))
  by_cases hc : (c.size : Int) = 32
  rotate_left
  · have hcb : ((c.size : Int) != 32) = true := bne_iff_ne.mpr hc
    refine ⟨((⟨#[]⟩ : ByteArray), false), ?_, ?_⟩
    · unfold al.f
      refine Ev.bind so (Ev.pos h (Ev.pos hm ?_))
      rw [hcb]
      exact sbad
    · unfold aA.f
      refine Ev.bind io (Ev.pos h (Ev.pos hm ?_))
      rw [hcb]
      exact ibad
  have hcb : ((c.size : Int) != 32) = false := bne_eq_false_iff_eq.mpr hc
  have hP : P.size = 800 ∧ (gH P).2 = true := by
    unfold fL at h
    split at h
    · exact ⟨by omega, h⟩
    · exact absurd h (by decide)
  obtain ⟨t0, t1, hT, T0, T1⟩ := nV P hP.2
  have hr : (P.extract 768 P.size).size ≤ 1048576 := by rw [ByteArray.size_extract]; omega
  have sP := gw P (by omega)
  have iP := gN P (by omega)
  have cs : c.size ≤ 1048576 := by omega
  have ul := fun x y => p7 (P.extract 768 P.size) x y
  have sl := fun n => nR c n
  obtain ⟨R0, R0l, n1, n2⟩ := oM (eQ c 0) (by rw [sl]; decide)
  obtain ⟨R1, R1l, n3, n4⟩ := oM (eQ c 1) (by rw [sl]; decide)
  have part : ∀ (a b e : List Int), a.length ≤ 1000 → b.length ≤ 1000 → e.length ≤ 1000 → ∃ s v u : List Int, u.length ≤ 256 ∧ Ev (fun k => bc.f k [a, b] [R0, R1]) s ∧ Ev (fun k => bK.f k [a, b] [R0, R1]) s ∧ Ev (fun k => am.f k s) v ∧ Ev (fun k => ai.f k s) v ∧ Ev (fun k => aE.f k v e) u ∧ Ev (fun k => bF.f k v e) u := by
    intro a b e ha hb he
    obtain ⟨s, s1, s2, s3⟩ := qy a b R0 R1 (by omega) (by omega) (by omega) (by omega)
    obtain ⟨v, v1, v2, v3⟩ := qI s (by omega)
    obtain ⟨u, u1, u2, u3⟩ := kt v e (by omega) (by omega)
    exact ⟨s, v, u, u1, s2, s3, v2, v3, u2, u3⟩
  obtain ⟨s0, v0, u0, l0, a1, a2, a3, a4, a5, a6⟩ := part (iI (P.extract 768 P.size) 0 0) (iI (P.extract 768 P.size) 0 1) (eQ c 2) (by rw [ul]; decide) (by rw [ul]; decide) (by rw [sl]; decide)
  obtain ⟨s1, v1, u1, l1, b1, b2, b3, b4, b5, b6⟩ := part (iI (P.extract 768 P.size) 1 0) (iI (P.extract 768 P.size) 1 1) (eQ c 3) (by rw [ul]; decide) (by rw [ul]; decide) (by rw [sl]; decide)
  obtain ⟨s2, v2, u2, l2, c1, c2, c3, c4, c5, c6⟩ := part t0 t1 (eQ c 4) (by omega) (by omega) (by rw [sl]; decide)
  obtain ⟨w, w1, w2, w3⟩ := kt u2 (eo m) (by omega) (by rw [eY]; decide)
  have e0 : (⟨#[]⟩ : ByteArray).size = 0 := rfl
  have p0 := gY 10 u0 (by decide) (by omega)
  have p1 := gY 10 u1 (by decide) (by omega)
  have p2 := gY 4 w (by decide) (by omega)
  have q0 : ((⟨#[]⟩ : ByteArray) ++ eV 10 (sqV u0 (10 : Nat))).size ≤ 10000 := by rw [ByteArray.size_append]; show 0 + _ ≤ _; omega
  have q1 : (((⟨#[]⟩ : ByteArray) ++ eV 10 (sqV u0 (10 : Nat))) ++ eV 10 (sqV u1 (10 : Nat))).size ≤ 20000 := by rw [ByteArray.size_append]; omega
  refine ⟨((((⟨#[]⟩ : ByteArray) ++ eV 10 (sqV u0 (10 : Nat))) ++ eV 10 (sqV u1 (10 : Nat))) ++ eV 4 (sqV w (4 : Nat)), true), ?_, ?_⟩
  · unfold al.f
    refine Ev.bind so (Ev.pos h (Ev.pos hm ?_))
    rw [hcb]
    refine Ev.step (fun k => by simp only [al.j0]; rw [Aa (by decide)]) (Ev.bind sP ?_)
    rw [hT]
    refine Ev.pos (by omega) (Ev.bind (lw _ hr) ?_)
    refine Ev.step (f := fun k => (bx.f k c 0).bind fun t => (bf.f k t).bind fun u => al.l0 k m c [t0, t1] (pD (P.extract 768 P.size)) [u] 1) (fun k => by simp only [al.l0]; rw [za (by decide), w01]; simp) (Ev.bind (eN c 0 cs) (Ev.bind n1 ?_))
    refine Ev.step (f := fun k => (bx.f k c 1).bind fun t => (bf.f k t).bind fun u => al.l0 k m c [t0, t1] (pD (P.extract 768 P.size)) [R0, u] 2) (fun k => by simp only [al.l0]; rw [za (by decide), w11]; simp) (Ev.bind (eN c 1 cs) (Ev.bind n3 ?_))
    refine Ev.step (f := fun k => al.l1 k m c [t0, t1] (pD (P.extract 768 P.size)) [R0, R1] (⟨#[]⟩ : ByteArray) 0) (fun k => by simp only [al.l0]; rw [Aa (by decide)]) ?_
    refine gX m c [t0, t1] _ [R0, R1] _ 0 2 (by decide) _ _ s0 v0 (eQ c 2) u0 _ _ 0 2 rfl w00 w20 (by decide) (by decide) rfl rfl w20 a1 a3 (eN c 2 cs) a5 (eH u0 10 (by decide) (by decide) (by omega)) (by omega) ?_
    rw [w01]
    refine gX m c [t0, t1] _ [R0, R1] _ 1 3 (by decide) _ _ s1 v1 (eQ c 3) u1 _ _ 1 3 rfl w01 w21 (by decide) (by decide) rfl rfl w21 b1 b3 (eN c 3 cs) b5 (eH u1 10 (by decide) (by decide) (by omega)) (by omega) ?_
    rw [w11]
    refine Ev.step (fun k => by simp only [al.l1]; rw [Aa (by decide)]) ?_
    exact Ev.bind c1 (Ev.bind c3 (Ev.bind (eN c 4 cs) (Ev.bind c5 (Ev.bind (jY m (by omega)) (Ev.bind w2 (Ev.bind (eH w 4 (by decide) (by decide) (by omega)) (Ev.pos (by omega) (Ev.now _))))))))
  · unfold aA.f
    refine Ev.bind io (Ev.pos h (Ev.pos hm ?_))
    rw [hcb]
    refine Ev.step (fun k => by simp only [aA.j0]; rw [Aa (by decide)]) (Ev.bind iP ?_)
    rw [hT]
    refine Ev.pos (by omega) (Ev.bind (gU c 0 1 (Eq.symm w01) (Eq.symm w00) cs) (Ev.bind (mm _ _ _ _ n2 n4) (Ev.bind (gU c 2 3 (Eq.symm w21) (Eq.symm w20) cs) ?_)))
    refine gT m c [t0, t1] _ [R0, R1] _ _ 0 (by decide) (by decide) _ s0 v0 (eQ c 2) u0 _ _ _ (by simp) rfl (jU _ 0 hr) a2 a4 a6 (fu u0 10 (by omega)) (fb u0 10 (by decide) (by decide) (by omega)) (by omega) ?_
    rw [w01]
    refine gT m c [t0, t1] _ [R0, R1] _ _ 1 (by decide) (by decide) _ s1 v1 (eQ c 3) u1 _ _ _ (by simp) rfl (jU _ 1 hr) b2 b4 b6 (fu u1 10 (by omega)) (fb u1 10 (by decide) (by decide) (by omega)) (by omega) ?_
    rw [w11]
    refine Ev.step (fun k => by simp only [aA.l0]; rw [Aa (by decide)]) ?_
    exact Ev.bind c2 (Ev.bind c4 (Ev.bind (iE c 4 cs) (Ev.bind c6 (Ev.bind (kS m (by omega)) (Ev.bind w3 (Ev.bind (fu w 4 (by omega)) (Ev.bind (fb w 4 (by decide) (by decide) (by omega)) (Ev.pos (by omega) (Ev.now _)))))))))
def W32 (x : Int) : Prop := 0 ≤ x ∧ x < 4294967296
theorem W32.mod (x : Int) : W32 (x % 4294967296) := by unfold W32; omega
theorem W32.xor (a b : Int) : W32 (Go.bits .xor .u32 a b) := by
  show W32 (IntKind.u32.wrap (((BitVec.ofInt 32 a ^^^ BitVec.ofInt 32 b).toNat : Nat) : Int))
  rw [IntKind.wrap_u32']; exact W32.mod _
theorem W32.or (a b : Int) : W32 (Go.bits .or .u32 a b) := by
  show W32 (IntKind.u32.wrap (((BitVec.ofInt 32 a ||| BitVec.ofInt 32 b).toNat : Nat) : Int))
  rw [IntKind.wrap_u32']; exact W32.mod _
theorem qT : ∀ n : Int, 0 ≤ n → n < 2 ^ 32 → IntKind.u32.wrap n = n := fun n h0 h1 => by rw [IntKind.wrap_u32']; omega
/-- Two words joined that share no bit. -/
theorem pF (i : Nat) (x y : Int) (hx : W32 x) (hi : x % 2 ^ i = 0) (hy : W32 y) (hyi : y < 2 ^ i) : Go.bits .or .u32 x y = x + y :=
  bits_join .u32 32 (by decide) qT i x y hx.1 hi (by have := hx.2; omega) hy.1 hyi (by have := hy.2; omega)
theorem r6 (e : Int) (h : W32 e) : Go.bits .xor .u32 (if IntKind.u32.signed = true then -1 else IntKind.u32.max) e = 4294967295 - e := by
  obtain ⟨n, rfl⟩ := Int.eq_ofNat_of_zero_le h.1
  have hn : n < 4294967296 := by have := h.2; omega
  show IntKind.u32.wrap (((BitVec.ofInt 32 4294967295 ^^^ BitVec.ofInt 32 (n : Int)).toNat : Nat) : Int) = _
  have h1 : (BitVec.ofInt 32 4294967295 ^^^ BitVec.ofInt 32 (n : Int)).toNat = 4294967295 - n := by
    have e1 : BitVec.ofInt 32 4294967295 = BitVec.allOnes 32 := by decide
    rw [e1, BitVec.allOnes_xor, BitVec.toNat_not, BitVec.toNat_ofInt]
    omega
  rw [h1, IntKind.wrap_u32']
  omega
theorem rC (x : Int) (n : Nat) (h1 : 1 ≤ n) (h2 : n ≤ 31) (h : W32 x) : rot x n = x / 2 ^ n + (x % 2 ^ n) * 2 ^ (32 - n) := by
  obtain ⟨A, hA⟩ : ∃ A : Int, A = 2 ^ n := ⟨_, rfl⟩
  obtain ⟨B, hB⟩ : ∃ B : Int, B = 2 ^ (32 - n) := ⟨_, rfl⟩
  have hA0 : 0 < A := by rw [hA]; exact Int.pow_pos (by decide)
  have hB0 : 0 < B := by rw [hB]; exact Int.pow_pos (by decide)
  have hAB : B * A = 4294967296 := by
    rw [hA, hB, ← Int.pow_add, show 32 - n + n = 32 by omega]; rfl
  have hl : shl .u32 x ((32 - n : Nat) : Int) = (x % A) * B := by
    unfold shl
    rw [Int.toNat_natCast, Nat.min_eq_left (by show 32 - n ≤ 32; omega), IntKind.wrap_u32', ← hB, ← hAB, Int.mul_comm x B, Int.mul_emod_mul_of_pos _ _ hB0, Int.mul_comm]
  have hr : shr .u32 x (n : Int) = x / A := by
    unfold shr
    rw [Int.toNat_natCast, Nat.min_eq_left (by show n ≤ 32; omega), ← hA]
  have hm0 := Int.emod_nonneg x (Int.ne_of_gt hA0)
  have hm1 := Int.emod_lt_of_pos x hA0
  have hd0 : 0 ≤ x / A := Int.ediv_nonneg h.1 (Int.le_of_lt hA0)
  have hd1 : x / A < B := Int.ediv_lt_of_lt_mul hA0 (by rw [hAB]; exact h.2)
  have hmb : (x % A) * B < 4294967296 := by
    have h3 : (x % A + 1) * B ≤ A * B := Int.mul_le_mul_of_nonneg_right (by omega) (Int.le_of_lt hB0)
    rw [Int.mul_comm A B, hAB, Int.add_mul, Int.one_mul] at h3
    omega
  have hB1 : B ≤ 4294967296 := by
    have h3 : B * 1 ≤ B * A := Int.mul_le_mul_of_nonneg_left (by omega) (Int.le_of_lt hB0)
    rw [hAB, Int.mul_one] at h3; exact h3
  unfold rot
  rw [hl, hr, ← hA, ← hB, pF (32 - n) _ _ ⟨Int.mul_nonneg hm0 (Int.le_of_lt hB0), hmb⟩ (by rw [← hB]; exact Int.mul_emod_left _ _) ⟨hd0, by omega⟩ (by rw [← hB]; exact hd1), Int.add_comm]
theorem rT (x : Int) (n : Nat) : W32 (rot x n) := W32.or _ _
theorem fB (x : Int) (n : Nat) (a b : Int) (ha : a = 2 ^ n) (hb : b = 2 ^ (32 - n)) (h1 : 1 ≤ n) (h2 : n ≤ 31) (h : W32 x) : cy.f x a b = some (rot x n) := by
  have hA0 : 0 < a := by rw [ha]; exact Int.pow_pos (by decide)
  have hr := rC x n h1 h2 h
  have hw := rT x n
  rw [← ha, ← hb] at hr
  have hw1 := hw.1
  have hw2 := hw.2
  have hd0 : 0 ≤ x / a := Int.ediv_nonneg h.1 (Int.le_of_lt hA0)
  have hb0 : 0 ≤ b := by rw [hb]; exact Int.le_of_lt (Int.pow_pos (by decide))
  have hm0 : 0 ≤ x % a * b := Int.mul_nonneg (Int.emod_nonneg x (Int.ne_of_gt hA0)) hb0
  unfold cy.f
  rw [Aa (Int.ne_of_gt hA0), Int.tdiv_eq_ediv_of_nonneg h.1, Int.tmod_eq_emod_of_nonneg h.1]
  rw [hr] at hw1 hw2 ⊢
  congr 1
  rw [Int.emod_eq_of_lt hd0 (by omega), Int.emod_eq_of_lt hm0 (by omega), Int.emod_eq_of_lt hw1 hw2]
theorem lQ (x : Int) (n m : Nat) (a b c : Int) (ha : a = 2 ^ n) (hb : b = 2 ^ m) (hc : c ≠ 0) (ha2 : (Int.tdiv 2147483648 a % 4294967296) * 2 % 4294967296 = 2 ^ (32 - n)) (hb2 : (Int.tdiv 2147483648 b % 4294967296) * 2 % 4294967296 = 2 ^ (32 - m)) (hn : 1 ≤ n ∧ n ≤ 31) (hm : 1 ≤ m ∧ m ≤ 31) (hcx : 0 < c) (h : W32 x) :
    cI.f x a b c true = some (Go.bits .xor .u32 (Go.bits .xor .u32 (rot x n) (rot x m)) (x / c)) := by
  have ha0 : a ≠ 0 := by rw [ha]; exact Int.ne_of_gt (Int.pow_pos (by decide))
  have hb0 : b ≠ 0 := by rw [hb]; exact Int.ne_of_gt (Int.pow_pos (by decide))
  unfold cI.f
  rw [Aa ha0, fB x n a _ ha ha2 hn.1 hn.2 h]
  simp only [Option.bind_some]
  rw [Aa hb0, fB x m b _ hb hb2 hm.1 hm.2 h]
  simp only [Option.bind_some]
  rw [Aa hc, za trivial, Int.tdiv_eq_ediv_of_nonneg h.1]
  have h1 : 0 ≤ x / c := Int.ediv_nonneg h.1 (Int.le_of_lt hcx)
  have h2 : x / c ≤ x := Int.ediv_le_self _ h.1
  rw [Int.emod_eq_of_lt h1 (by have := h.2; omega)]
theorem le (x : Int) (n m q : Nat) (a b c : Int) (ha : a = 2 ^ n) (hb : b = 2 ^ m) (hc : c = 2 ^ q) (ha2 : (Int.tdiv 2147483648 a % 4294967296) * 2 % 4294967296 = 2 ^ (32 - n)) (hb2 : (Int.tdiv 2147483648 b % 4294967296) * 2 % 4294967296 = 2 ^ (32 - m)) (hc2 : (Int.tdiv 2147483648 c % 4294967296) * 2 % 4294967296 = 2 ^ (32 - q)) (hn : 1 ≤ n ∧ n ≤ 31) (hm : 1 ≤ m ∧ m ≤ 31) (hq : 1 ≤ q ∧ q ≤ 31) (h : W32 x) :
    cI.f x a b c false = some (Go.bits .xor .u32 (Go.bits .xor .u32 (rot x n) (rot x m)) (rot x q)) := by
  have ha0 : a ≠ 0 := by rw [ha]; exact Int.ne_of_gt (Int.pow_pos (by decide))
  have hb0 : b ≠ 0 := by rw [hb]; exact Int.ne_of_gt (Int.pow_pos (by decide))
  have hc0 : c ≠ 0 := by rw [hc]; exact Int.ne_of_gt (Int.pow_pos (by decide))
  unfold cI.f
  rw [Aa ha0, fB x n a _ ha ha2 hn.1 hn.2 h]
  simp only [Option.bind_some]
  rw [Aa hb0, fB x m b _ hb hb2 hm.1 hm.2 h]
  simp only [Option.bind_some]
  rw [Aa hc0, Aa (by decide), fB x q c _ hc hc2 hq.1 hq.2 h]
  simp only [Option.bind_some]
theorem sd (x : Int) (h : W32 x) : cI.f x 131072 524288 1024 true = some (Go.bits .xor .u32 (Go.bits .xor .u32 (rot x 17) (rot x 19)) (x / 1024)) :=
  lQ x 17 19 _ _ _ rfl rfl (by decide) rfl rfl (by decide) (by decide) (by decide) h
theorem sg (x : Int) (h : W32 x) : cI.f x 128 262144 8 true = some (Go.bits .xor .u32 (Go.bits .xor .u32 (rot x 7) (rot x 18)) (x / 8)) :=
  lQ x 7 18 _ _ _ rfl rfl (by decide) rfl rfl (by decide) (by decide) (by decide) h
theorem S_e (x : Int) (h : W32 x) : cI.f x 64 2048 33554432 false = some (Go.bits .xor .u32 (Go.bits .xor .u32 (rot x 6) (rot x 11)) (rot x 25)) :=
  le x 6 11 25 _ _ _ rfl rfl rfl rfl rfl rfl (by decide) (by decide) (by decide) h
theorem S_a (x : Int) (h : W32 x) : cI.f x 4 8192 4194304 false = some (Go.bits .xor .u32 (Go.bits .xor .u32 (rot x 2) (rot x 13)) (rot x 22)) :=
  le x 2 13 22 _ _ _ rfl rfl rfl rfl rfl rfl (by decide) (by decide) (by decide) h
/-! the words of a block -/
def gy (s : ByteArray) (i : Nat) : Int := bt s ((4 * i : Nat) : Int) * 16777216 + bt s ((4 * i + 1 : Nat) : Int) * 65536 + bt s ((4 * i + 2 : Nat) : Int) * 256 + bt s ((4 * i + 3 : Nat) : Int)
theorem rA (s : ByteArray) (i : Nat) : W32 (gy s i) := by
  have h0 := dl s ((4 * i : Nat) : Int)
  have h1 := dl s ((4 * i + 1 : Nat) : Int)
  have h2 := dl s ((4 * i + 2 : Nat) : Int)
  have h3 := dl s ((4 * i + 3 : Nat) : Int)
  unfold gy W32
  omega
def fT (s : ByteArray) (n : Nat) : List Int := (List.range n).map (gy s)
theorem eX (s : ByteArray) (n : Nat) : (fT s n).length = n := by simp [fT]
theorem kV (s : ByteArray) (n : Nat) : fT s (n + 1) = fT s n ++ [gy s n] := by simp [fT, List.range_succ]
theorem qr (s : ByteArray) (n : Nat) : ∀ x ∈ fT s n, W32 x := by
  intro x hx
  obtain ⟨i, _, rfl⟩ := List.mem_map.mp hx
  exact rA s i
theorem kc (s : ByteArray) (i : Nat) (h : 4 * i + 4 ≤ s.size) (hs : s.size ≤ 4611686018427387904) : dQ.f s ((4 * i : Nat) : Int) = some (gy s i) := by
  have e1 : wrap64 (((4 * i : Nat) : Int) + 1) = ((4 * i + 1 : Nat) : Int) := by rw [w64 (by omega) (by omega)]; rfl
  have e2 : wrap64 (((4 * i : Nat) : Int) + 2) = ((4 * i + 2 : Nat) : Int) := by rw [w64 (by omega) (by omega)]; rfl
  have e3 : wrap64 (((4 * i : Nat) : Int) + 3) = ((4 * i + 3 : Nat) : Int) := by rw [w64 (by omega) (by omega)]; rfl
  have h0 := dl s ((4 * i : Nat) : Int)
  have h1 := dl s ((4 * i + 1 : Nat) : Int)
  have h2 := dl s ((4 * i + 2 : Nat) : Int)
  have h3 := dl s ((4 * i + 3 : Nat) : Int)
  unfold dQ.f
  rw [e1, e2, e3, za (by omega), za (by omega), za (by omega), za (by omega), za (by omega), za (by omega), za (by omega), za (by omega)]
  unfold gy
  congr 1
  generalize bt s ((4 * i : Nat) : Int) = b0 at *
  generalize bt s ((4 * i + 1 : Nat) : Int) = b1 at *
  generalize bt s ((4 * i + 2 : Nat) : Int) = b2 at *
  generalize bt s ((4 * i + 3 : Nat) : Int) = b3 at *
  clear e1 e2 e3
  omega
theorem gp (s : ByteArray) (n : Nat) (h : s.size = 4 * n) (hn : n ≤ 1000000) : Ev (fun k => bb.f k s) (fT s n) := by
  refine Ev.up (g := fun i k => bb.l0 k s (fT s i) ((4 * i : Nat) : Int)) n ?_ ?_ 0 (Nat.zero_le _)
  · intro i hi hh
    refine Ev.step (fun k => ?_) hh
    simp only [bb.l0]
    have e4 : wrap64 (((4 * i : Nat) : Int) + 4) = ((4 * (i + 1) : Nat) : Int) := by rw [w64 (by omega) (by omega)]; omega
    rw [e4, za (by omega), kc s i (by omega) (by omega)]
    simp only [Option.bind_some]
    rw [za (by rw [eX]; omega), kV]
  · refine Ev.step (f := fun _ => some (fT s n)) (fun k => ?_) (Ev.now _)
    simp only [bb.l0]
    have e4 : wrap64 (((4 * n : Nat) : Int) + 4) = ((4 * (n + 1) : Nat) : Int) := by rw [w64 (by omega) (by omega)]; omega
    rw [e4, Aa (by omega)]
end Go.Proofs.YtielligodgabiaaGreatDoor.Pure
