/- The small words of the pure proofs: numbers that stay in int's range, rounds that suffice, lists read by an index. Bytes and the number that they write, the least first: lists of bytes, single bits set in them, numbers laid side by side. Numbers modulo 3329, and sums over the first n places. -/
import Derived.Test.YtoeagdpddggliaaDoorV0
namespace Go.Proofs.YtoeagdpddggliaaDoor.Pure
open Go.RowKit Go.Proofs.YtoeagdpddggliaaDoorW.PrintWords Go.Proofs.YtoeagdpddggliaaDoorW.PrintLast Go.Proofs.YtoeagdpddggliaaDoorW.PrintMore

theorem w64 {x : Int} (h1 : -9223372036854775808 ≤ x) (h2 : x ≤ 9223372036854775807) : wrap64 x = x := by unfold wrap64; omega
theorem w64s (n : Nat) (h : n < 9223372036854775807) : wrap64 ((n : Int) + 1) = ((n + 1 : Nat) : Int) := by rw [w64 (by omega) (by omega)]; rfl
theorem wf_i64 {x : Int} (h : (Lit.int .i64 x).wf = true) : -9223372036854775808 ≤ x ∧ x ≤ 9223372036854775807 := by
  simp [Lit.wf, IntKind.min, IntKind.max, IntKind.signed, IntKind.bits] at h; omega
theorem wf_u8 {x : Int} (h : (Lit.int .u8 x).wf = true) : 0 ≤ x ∧ x ≤ 255 := by
  simp [Lit.wf, IntKind.min, IntKind.max, IntKind.signed, IntKind.bits] at h; omega

/-! rounds -/
theorem Ev.pos {α : Type} {c : Prop} [Decidable c] {f g : Nat → Option α} {r : α} (hc : c) (h : Ev f r) : Ev (fun k => if c then f k else g k) r := by
  simpa only [if_pos hc] using h
theorem Ev.neg {α : Type} {c : Prop} [Decidable c] {f g : Nat → Option α} {r : α} (hc : ¬ c) (h : Ev g r) : Ev (fun k => if c then f k else g k) r := by
  simpa only [if_neg hc] using h
theorem Ev.const {α : Type} {o : Option α} {r : α} (h : o = some r) : Ev (fun _ => o) r := ⟨0, fun _ _ => h⟩
theorem Ev.then {α β : Type} {o : Option α} {f : Nat → α → Option β} {a : α} {r : β} (h : o = some a) (k : Ev (fun n => f n a) r) : Ev (fun n => o.bind (f n)) r := by
  subst h; exact k
/-- A loop that goes up: what it answers at the end, it answers from the start. -/
theorem Ev.up {α : Type} {g : Nat → Nat → Option α} {r : α} (n : Nat) (hs : ∀ i, i < n → Ev (g (i + 1)) r → Ev (g i) r) (he : Ev (g n) r) (i : Nat) (hi : i ≤ n) : Ev (g i) r := by
  obtain ⟨d, rfl⟩ : ∃ d, n = i + d := ⟨n - i, by omega⟩
  induction d generalizing i with
  | zero => exact he
  | succ d ih =>
    refine hs i (by omega) (ih (i + 1) ?_ ?_ (by omega))
    · intro j hj h
      exact hs j (by omega) h
    · rw [show i + 1 + d = i + (d + 1) by omega]; exact he
/-- A loop that may stop early. -/
theorem Ev.upTo {α : Type} {g : Nat → Nat → Option α} {r : Nat → α} (n : Nat) (hs : ∀ i, i < n → Ev (g (i + 1)) (r (i + 1)) → Ev (g i) (r i)) (he : Ev (g n) (r n)) (i : Nat) (hi : i ≤ n) : Ev (g i) (r i) := by
  obtain ⟨d, rfl⟩ : ∃ d, n = i + d := ⟨n - i, by omega⟩
  induction d generalizing i with
  | zero => exact he
  | succ d ih =>
    refine hs i (by omega) (ih (i + 1) ?_ ?_ (by omega))
    · intro j hj h
      exact hs j (by omega) h
    · rw [show i + 1 + d = i + (d + 1) by omega]; exact he

/-- A loop that goes up from a. -/
theorem Ev.upFrom {α : Type} {g : Nat → Nat → Option α} {r : α} (a n : Nat) (hs : ∀ i, a ≤ i → i < n → Ev (g (i + 1)) r → Ev (g i) r) (he : Ev (g n) r) (h : a ≤ n) : Ev (g a) r := by
  have := Ev.up (g := fun i => g (a + i)) (r := r) (n - a) (fun i hi h => hs (a + i) (by omega) (by omega) h) (by simpa only [show a + (n - a) = n by omega] using he) 0 (by omega)
  exact this

/-! lists -/
theorem rd_nat (l : List Int) (i : Nat) : rd l (i : Int) = l.getD i 0 := by simp [rd]
theorem rd_get (l : List Int) (i : Nat) (h : i < l.length) : rd l (i : Int) = l[i] := by simp [rd, List.getD_eq_getElem?_getD, List.getElem?_eq_getElem h]
theorem rd_int (l : List Int) (x : Int) (h0 : 0 ≤ x) (h : x < l.length) : rd l x = l[x.toNat]'(by omega) := by
  simp [rd, List.getD_eq_getElem?_getD, List.getElem?_eq_getElem (show x.toNat < l.length by omega)]
theorem rdOf_get {α : Type} (d : α) (l : List α) (i : Nat) (h : i < l.length) : rdOf d l (i : Int) = l[i] := by simp [rdOf, List.getD_eq_getElem?_getD, List.getElem?_eq_getElem h]
theorem rd_mem (l : List Int) (x : Int) (h0 : 0 ≤ x) (h : x < l.length) : rd l x ∈ l := by rw [rd_int l x h0 h]; exact List.getElem_mem _
theorem drop_all {α : Type} (p : α → Bool) (l : List α) (i : Nat) (h : i < l.length) : (l.drop i).all p = (p l[i] && (l.drop (i + 1)).all p) := by
  rw [List.drop_eq_getElem_cons h, List.all_cons]
theorem take_snoc {α : Type} (l : List α) (i : Nat) (h : i < l.length) : l.take i ++ [l[i]] = l.take (i + 1) := by simp
theorem some_in (a b c : Int) : (if a ≥ b then (some (decide (a ≤ c))) else (some false)) = some (decide (b ≤ a ∧ a ≤ c)) := by
  by_cases h : a ≥ b
  · rw [if_pos h]; congr 1; rw [decide_eq_decide]; constructor
    · intro h2; exact ⟨h, h2⟩
    · intro h2; exact h2.2
  · rw [if_neg h]; congr 1; symm; rw [decide_eq_false_iff_not]; intro h2; exact h h2.1
theorem set_fill {α : Type} (l : List α) (d : α) (i : Nat) (h : i < l.length) : (l.take i ++ List.replicate (l.length - i) d).set i l[i] = l.take (i + 1) ++ List.replicate (l.length - (i + 1)) d := by
  apply List.ext_getElem
  · simp; omega
  · intro j h1 h2
    simp only [List.getElem_set, List.getElem_append, List.length_take, List.getElem_take, List.getElem_replicate]
    split
    · subst_vars
      rw [dif_pos (by omega)]
    · by_cases hj : j < i
      · rw [dif_pos (by omega), dif_pos (by omega)]
      · rw [dif_neg (by omega), dif_neg (by omega)]


/-- The first L bytes of S, the least first. -/
def bytesL (L S : Nat) : List Int := (List.range L).map fun j => ((S / 256 ^ j % 256 : Nat) : Int)
theorem bytesL_length (L S : Nat) : (bytesL L S).length = L := by simp [bytesL]
theorem bytesL_get (L S j : Nat) (h : j < (bytesL L S).length) : (bytesL L S)[j] = ((S / 256 ^ j % 256 : Nat) : Int) := by simp [bytesL]
theorem bytesL_zero (L : Nat) : bytesL L 0 = List.replicate L 0 := by
  apply List.ext_getElem
  · simp [bytesL]
  · intro j h1 h2
    rw [bytesL_get]; simp
theorem bytesL_snoc (L S : Nat) : bytesL L S ++ [((S / 256 ^ L % 256 : Nat) : Int)] = bytesL (L + 1) S := by simp [bytesL, List.range_succ]

theorem pow256 (j : Nat) : 256 ^ j = 2 ^ (8 * j) := by rw [Nat.pow_mul]
theorem div_add_hi {a c m : Nat} (hc : 0 < c) (h : m % c = 0) : (a + m) / c = a / c + m / c := by
  obtain ⟨t, rfl⟩ : ∃ t, m = c * t := ⟨m / c, by have := Nat.div_add_mod m c; omega⟩
  rw [Nat.add_mul_div_left _ _ hc, Nat.mul_div_cancel_left _ hc]
theorem bit_add {S P T b : Nat} (hP : 0 < P) (hS : S < P * T) (hT : T ≤ 128) (hb : b ≤ 1) : S / P % 256 + b * T = (S + b * (P * T)) / P % 256 := by
  have hq : S / P < T := Nat.div_lt_of_lt_mul hS
  have hb2 : b * T ≤ T := by
    have := Nat.mul_le_mul_right T hb
    omega
  rw [show b * (P * T) = P * (b * T) from Nat.mul_left_comm .., Nat.add_mul_div_left _ _ hP]
  obtain ⟨q, hq'⟩ : ∃ q, S / P = q := ⟨_, rfl⟩
  obtain ⟨u, hu⟩ : ∃ u, b * T = u := ⟨_, rfl⟩
  rw [hq'] at hq ⊢
  rw [hu] at hb2 ⊢
  rw [Nat.mod_eq_of_lt (show q < 256 by omega), Nat.mod_eq_of_lt (show q + u < 256 by omega)]
/-- Setting a bit above all others. -/
theorem bytesL_bit (L S m b : Nat) (hS : S < 2 ^ m) (hb : b ≤ 1) :
    (bytesL L S).set (m / 8) ((((S / 256 ^ (m / 8)) % 256 + b * 2 ^ (m % 8) : Nat)) : Int) = bytesL L (S + b * 2 ^ m) := by
  have hmm : 2 ^ m = 256 ^ (m / 8) * 2 ^ (m % 8) := by rw [pow256, ← Nat.pow_add]; congr 1; omega
  have h7 : 2 ^ (m % 8) ≤ 128 := by
    have : m % 8 ≤ 7 := by omega
    exact Nat.pow_le_pow_right (n := 2) (by omega) this
  apply List.ext_getElem
  · simp [bytesL]
  · intro j h1 h2
    rw [List.getElem_set, bytesL_get, bytesL_get]
    by_cases hj : m / 8 = j
    · rw [if_pos hj]; subst hj
      congr 1
      rw [hmm]
      exact bit_add (Nat.pow_pos (by omega)) (by rw [← hmm]; exact hS) h7 hb
    · rw [if_neg hj]
      congr 1
      by_cases hlt : j < m / 8
      · obtain ⟨d, hd⟩ : ∃ d, m / 8 = j + 1 + d := ⟨m / 8 - (j + 1), by omega⟩
        have e : b * 2 ^ m = 256 ^ j * (256 * (256 ^ d * (b * 2 ^ (m % 8)))) := by
          rw [hmm, hd, Nat.pow_add, Nat.pow_add]; simp only [Nat.pow_one, Nat.mul_assoc, Nat.mul_comm, Nat.mul_left_comm]
        rw [e, Nat.add_mul_div_left _ _ (Nat.pow_pos (by omega)), Nat.add_mul_mod_self_left]
      · have hle : 2 ^ (m + 1) ≤ 256 ^ j := by rw [pow256]; exact Nat.pow_le_pow_right (by omega) (by omega)
        rw [Nat.pow_succ] at hle
        have hb2 : b * 2 ^ m ≤ 2 ^ m := by
          have := Nat.mul_le_mul_right (2 ^ m) hb
          omega
        rw [Nat.div_eq_of_lt (by omega), Nat.div_eq_of_lt (by omega)]

/-- Numbers of b bits, side by side, the first lowest. -/
def valB (b : Nat) : List Nat → Nat
  | [] => 0
  | x :: l => x + 2 ^ b * valB b l
theorem valB_snoc (b : Nat) (l : List Nat) (x : Nat) : valB b (l ++ [x]) = valB b l + 2 ^ (b * l.length) * x := by
  induction l with
  | nil => simp [valB]
  | cons a l ih =>
    simp only [List.cons_append, valB, ih, List.length_cons, Nat.mul_add, Nat.mul_succ, Nat.pow_add]
    rw [Nat.add_assoc]; congr 2
    rw [← Nat.mul_assoc, Nat.mul_comm (2 ^ b)]
theorem valB_lt (b : Nat) (l : List Nat) (h : ∀ x ∈ l, x < 2 ^ b) : valB b l < 2 ^ (b * l.length) := by
  induction l with
  | nil => simp [valB]
  | cons a l ih =>
    have h1 := h a (List.mem_cons_self ..)
    have h2 := ih fun x hx => h x (List.mem_cons_of_mem _ hx)
    simp only [valB, List.length_cons, Nat.mul_succ, Nat.pow_add]
    have h3 : 2 ^ b * valB b l + 2 ^ b ≤ 2 ^ b * 2 ^ (b * l.length) := by
      rw [← Nat.mul_succ]; exact Nat.mul_le_mul_left _ h2
    rw [Nat.mul_comm (2 ^ (b * l.length))]
    omega
theorem valB_take_succ (b : Nat) (l : List Nat) (i : Nat) (h : i < l.length) : valB b (l.take (i + 1)) = valB b (l.take i) + 2 ^ (b * i) * l[i] := by
  rw [← List.take_append_getElem h, valB_snoc, List.length_take, Nat.min_eq_left (by omega)]
/-- The pieces of S of b bits each are what they are put together again. -/
theorem valB_pieces (b S n : Nat) : valB b ((List.range n).map fun i => S / 2 ^ (b * i) % 2 ^ b) = S % 2 ^ (b * n) := by
  induction n with
  | zero => simp [valB, Nat.mod_one]
  | succ n ih =>
    rw [List.range_succ, List.map_append, List.map_cons, List.map_nil, valB_snoc, ih, List.length_map, List.length_range, Nat.mul_succ, Nat.pow_add, Nat.mod_mul]
theorem valB_piece (b : Nat) (l : List Nat) (h : ∀ x ∈ l, x < 2 ^ b) (i : Nat) (hi : i < l.length) : valB b l / 2 ^ (b * i) % 2 ^ b = l[i] := by
  induction l generalizing i with
  | nil => exact absurd hi (by simp)
  | cons a l ih =>
    have h1 := h a (List.mem_cons_self ..)
    cases i with
    | zero => simp only [valB, Nat.mul_zero, Nat.pow_zero, Nat.div_one, Nat.add_mul_mod_self_left, List.getElem_cons_zero]; exact Nat.mod_eq_of_lt h1
    | succ i =>
      have h2 := ih (fun x hx => h x (List.mem_cons_of_mem _ hx)) i (by simpa using hi)
      simp only [valB, List.getElem_cons_succ]
      rw [Nat.mul_succ, Nat.add_comm (b * i), Nat.pow_add, ← Nat.div_div_eq_div_mul, Nat.add_mul_div_left _ _ (Nat.two_pow_pos b), Nat.div_eq_of_lt h1, Nat.zero_add]
      exact h2

/-- The number that bytes write. -/
def bnum (s : ByteArray) : Nat := valB 8 (s.data.toList.map UInt8.toNat)
theorem bnum_lt (s : ByteArray) : bnum s < 256 ^ s.size := by
  have h := valB_lt 8 (s.data.toList.map UInt8.toNat) (by
    intro x hx
    obtain ⟨c, _, rfl⟩ := List.mem_map.mp hx
    exact c.toNat_lt)
  rw [List.length_map, Array.length_toList, Nat.pow_mul] at h
  exact h
theorem bt_bnum (s : ByteArray) (j : Nat) (h : j < s.size) : bt s (j : Int) = ((bnum s / 256 ^ j % 256 : Nat) : Int) := by
  have h2 := valB_piece 8 (s.data.toList.map UInt8.toNat) (by
    intro x hx
    obtain ⟨c, _, rfl⟩ := List.mem_map.mp hx
    exact c.toNat_lt) j (by simpa using h)
  rw [Nat.pow_mul] at h2
  unfold bnum
  rw [show (256 : Nat) = 2 ^ 8 from rfl, h2]
  unfold bt
  rw [dif_pos (by simpa using h)]
  simp
  rfl
theorem strOfNums_get (xs : List Int) (i : Nat) (h : i < (strOfNums xs).size) : (strOfNums xs)[i] = UInt8.ofNat (xs[i]'(by simpa [strOfNums_size] using h)).toNat := by
  simp [strOfNums, ByteArray.getElem_eq_getElem_data]
theorem bytes_ext {s t : ByteArray} (h : s.data.toList = t.data.toList) : s = t := by
  cases s; cases t; congr 1; exact Array.toList_inj.mp h
theorem bytes_toList {s t : ByteArray} : s.toList = t.toList ↔ s = t := by
  constructor
  · intro h
    refine bytes_ext ?_
    simpa [← ByteArray.toList_eq] using h
  · rintro rfl; rfl
theorem strOf_bnum (s : ByteArray) : strOfNums (bytesL s.size (bnum s)) = s := by
  refine bytes_ext ?_
  rw [strOfNums_data]
  apply List.ext_getElem
  · simp [bytesL]
  · intro j h1 h2
    have hj : j < s.size := by simpa [bytesL] using h1
    have h3 := bt_bnum s j hj
    rw [List.getElem_map, bytesL_get, ← h3]
    unfold bt
    rw [dif_pos (by simpa using hj)]
    simp
    rfl
theorem strOf_inj {L S T : Nat} (hS : S < 256 ^ L) (hT : T < 256 ^ L) (h : strOfNums (bytesL L S) = strOfNums (bytesL L T)) : S = T := by
  have key : ∀ L S T : Nat, S < 256 ^ L → T < 256 ^ L → (∀ j, j < L → S / 256 ^ j % 256 = T / 256 ^ j % 256) → S = T := by
    intro L
    induction L with
    | zero => intro S T h1 h2 _; simp at h1 h2; omega
    | succ L ih =>
      intro S T h1 h2 h3
      have e0 := h3 0 (by omega)
      simp only [Nat.pow_zero, Nat.div_one] at e0
      have e1 := ih (S / 256) (T / 256) (by rw [Nat.pow_succ] at h1; omega) (by rw [Nat.pow_succ] at h2; omega) (fun j hj => by
        have := h3 (j + 1) (by omega)
        rw [Nat.pow_succ, Nat.mul_comm, ← Nat.div_div_eq_div_mul, ← Nat.div_div_eq_div_mul] at this
        exact this)
      omega
  refine key L S T hS hT fun j hj => ?_
  have h4 := congrArg (fun s : ByteArray => s.data.toList[j]?) h
  simp only [strOfNums_data] at h4
  rw [List.getElem?_eq_getElem (by simpa [bytesL] using hj), List.getElem?_eq_getElem (by simpa [bytesL] using hj), List.getElem_map, List.getElem_map, bytesL_get, bytesL_get] at h4
  injection h4 with h4
  have h5 := congrArg UInt8.toNat h4
  rw [Int.toNat_natCast, Int.toNat_natCast] at h5
  simpa using h5

def EqQ (x y : Int) : Prop := x % 3329 = y % 3329
theorem EqQ.refl (x : Int) : EqQ x x := rfl
theorem EqQ.of {x y : Int} (h : x = y) : EqQ x y := by rw [h]; exact EqQ.refl y
theorem EqQ.symm {x y : Int} (h : EqQ x y) : EqQ y x := Eq.symm h
theorem EqQ.trans {x y z : Int} (h : EqQ x y) (k : EqQ y z) : EqQ x z := Eq.trans h k
theorem EqQ.mod (x : Int) : EqQ (x % 3329) x := Int.emod_emod_of_dvd _ (Int.dvd_refl _)
theorem EqQ.add {x y z w : Int} (h : EqQ x y) (k : EqQ z w) : EqQ (x + z) (y + w) := by unfold EqQ at *; omega
theorem EqQ.sub {x y z w : Int} (h : EqQ x y) (k : EqQ z w) : EqQ (x - z) (y - w) := by unfold EqQ at *; omega
theorem EqQ.neg {x y : Int} (h : EqQ x y) : EqQ (-x) (-y) := by unfold EqQ at *; omega
theorem EqQ.mul {x y z w : Int} (h : EqQ x y) (k : EqQ z w) : EqQ (x * z) (y * w) := by
  unfold EqQ at *
  rw [Int.mul_emod, h, k, ← Int.mul_emod]
theorem EqQ.eq {x y : Int} (h : EqQ x y) (h0 : 0 ≤ x) (h1 : x ≤ 3328) (h2 : 0 ≤ y) (h3 : y ≤ 3328) : x = y := by unfold EqQ at h; omega
theorem EqQ.eqm {x y : Int} (h : EqQ x y) : x % 3329 = y % 3329 := h
theorem mod_in (x : Int) : 0 ≤ x % 3329 ∧ x % 3329 ≤ 3328 := by omega

def sumN : Nat → (Nat → Int) → Int
  | 0, _ => 0
  | n + 1, f => sumN n f + f n
theorem sumN_congr {n : Nat} {f g : Nat → Int} (h : ∀ i, i < n → f i = g i) : sumN n f = sumN n g := by
  induction n with
  | zero => rfl
  | succ n ih =>
    simp only [sumN]
    rw [ih fun i hi => h i (by omega), h n (by omega)]
theorem sumN_eqQ {n : Nat} {f g : Nat → Int} (h : ∀ i, i < n → EqQ (f i) (g i)) : EqQ (sumN n f) (sumN n g) := by
  induction n with
  | zero => exact EqQ.refl _
  | succ n ih => exact EqQ.add (ih fun i hi => h i (by omega)) (h n (by omega))
theorem sumN_add (n : Nat) (f g : Nat → Int) : sumN n (fun i => f i + g i) = sumN n f + sumN n g := by
  induction n with
  | zero => rfl
  | succ n ih => simp only [sumN]; rw [ih]; omega
theorem sumN_sub (n : Nat) (f g : Nat → Int) : sumN n (fun i => f i - g i) = sumN n f - sumN n g := by
  induction n with
  | zero => rfl
  | succ n ih => simp only [sumN]; rw [ih]; omega
theorem sumN_neg (n : Nat) (f : Nat → Int) : sumN n (fun i => -f i) = -sumN n f := by
  induction n with
  | zero => rfl
  | succ n ih => simp only [sumN]; rw [ih]; omega
theorem sumN_mul (n : Nat) (c : Int) (f : Nat → Int) : sumN n (fun i => c * f i) = c * sumN n f := by
  induction n with
  | zero => simp [sumN]
  | succ n ih => simp only [sumN]; rw [ih, Int.mul_add]
theorem sumN_mul_right (n : Nat) (c : Int) (f : Nat → Int) : sumN n (fun i => f i * c) = sumN n f * c := by
  induction n with
  | zero => simp [sumN]
  | succ n ih => simp only [sumN]; rw [ih, Int.add_mul]
theorem sumN_zero (n : Nat) : sumN n (fun _ => 0) = 0 := by
  induction n with
  | zero => rfl
  | succ n ih => simp only [sumN]; rw [ih]; rfl
theorem sumN_front (n : Nat) (f : Nat → Int) : sumN (n + 1) f = f 0 + sumN n (fun i => f (i + 1)) := by
  induction n with
  | zero => simp [sumN]
  | succ n ih => rw [sumN, ih]; simp only [sumN]; omega
theorem sumN_split (m n : Nat) (f : Nat → Int) : sumN (m + n) f = sumN m f + sumN n (fun i => f (m + i)) := by
  induction n with
  | zero => simp [sumN]
  | succ n ih => rw [← Nat.add_assoc, sumN, ih]; simp only [sumN]; omega
theorem sumN_rev (n : Nat) (f : Nat → Int) : sumN n (fun i => f (n - 1 - i)) = sumN n f := by
  induction n with
  | zero => rfl
  | succ n ih =>
    rw [sumN_front, sumN]
    rw [sumN_congr (g := fun i => f (n - 1 - i)) (fun i hi => by congr 1; omega), ih]
    rw [show n + 1 - 1 - 0 = n by omega]; omega
theorem sumN_comm (m n : Nat) (f : Nat → Nat → Int) : sumN m (fun i => sumN n (f i)) = sumN n (fun j => sumN m (fun i => f i j)) := by
  induction m with
  | zero => simp only [sumN]; rw [sumN_zero]
  | succ m ih => simp only [sumN]; rw [ih, sumN_add]
/-- Even places and odd ones. -/
theorem sumN_two (n : Nat) (f : Nat → Int) : sumN (2 * n) f = sumN n (fun i => f (2 * i)) + sumN n (fun i => f (2 * i + 1)) := by
  induction n with
  | zero => rfl
  | succ n ih =>
    rw [show 2 * (n + 1) = 2 * n + 1 + 1 by omega]
    simp only [sumN]
    rw [ih]; omega
theorem sumN_bound {n : Nat} {f : Nat → Int} {c : Int} (h : ∀ i, i < n → -c ≤ f i ∧ f i ≤ c) : -(n * c) ≤ sumN n f ∧ sumN n f ≤ n * c := by
  induction n with
  | zero => simp [sumN]
  | succ n ih =>
    have h1 := ih fun i hi => h i (by omega)
    have h2 := h n (by omega)
    simp only [sumN]
    have e : ((n + 1 : Nat) : Int) * c = n * c + c := by
      rw [Int.natCast_add, Int.add_mul]; simp
    omega
end Go.Proofs.YtoeagdpddggliaaDoor.Pure
