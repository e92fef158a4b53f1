/- Plain laws that the law FnExactHyperSign rests on. -/
import Derived.Test.YtjcmafoepabpkaaDoorPx0
import Derived.Test.YtjcmafoepabpkaaDoorV0
import Derived.Test.YtjcmafoepabpkaaDoorHA2
import Derived.Test.YtjcmafoepabpkaaDoorHA3
import Derived.Laws.BitsAllLaws
import Derived.Laws.BitsLemmas
import Derived.Test.YtjcmafoepabpkaaDoorHA4
import Derived.Test.YtjcmafoepabpkaaDoorHA5
import Derived.Test.YtjcmafoepabpkaaDoorMW3
import Derived.Test.YtjcmafoepabpkaaDoorPx1
import Derived.Test.YtjcmafoepabpkaaDoorPx2
import Derived.Test.YtjcmafoepabpkaaDoorPx3
import Derived.Test.YtjcmafoepabpkaaDoorPx9
import Derived.Test.YtjcmafoepabpkaaDoorPx11
import Derived.Test.YtjcmafoepabpkaaDoorPx16
import Derived.Test.YtjcmafoepabpkaaDoorPx18
import Derived.Test.YtjcmafoepabpkaaDoorPx19
import Derived.Test.YtjcmafoepabpkaaDoorPx20
import Derived.Test.YtjcmafoepabpkaaDoorPx21
import Derived.Test.YtjcmafoepabpkaaDoorHA2
import Derived.Test.YtjcmafoepabpkaaDoorHA3
import Derived.Test.YtjcmafoepabpkaaDoorHA1
import Derived.Test.YtjcmafoepabpkaaDoorHA4
import Derived.Test.YtjcmafoepabpkaaDoorHA5
namespace Go.Proofs.YtjcmafoepabpkaaDoor.Pure
open Go.RowKit Go.Proofs.YtjcmafoepabpkaaDoorW.PrintWords Go.Proofs.YtjcmafoepabpkaaDoorW.PrintLast Go.Proofs.YtjcmafoepabpkaaDoorW.PrintMore

theorem w64 {x : Int} (h1 : -9223372036854775808 ≤ x) (h2 : x ≤ 9223372036854775807) : wrap64 x = x := by unfold wrap64; omega
theorem w64s (n : Nat) (h : n < 9223372036854775807) : wrap64 ((n : Int) + 1) = ((n + 1 : Nat) : Int) := by rw [w64 (by omega) (by omega)]; rfl
theorem Ev.pos {α : Type} {c : Prop} [Decidable c] {f g : Nat → Option α} {r : α} (hc : c) (h : Ev f r) : Ev (fun k => if c then f k else g k) r := by
  simpa only [if_pos hc] using h
theorem Ev.neg {α : Type} {c : Prop} [Decidable c] {f g : Nat → Option α} {r : α} (hc : ¬ c) (h : Ev g r) : Ev (fun k => if c then f k else g k) r := by
  simpa only [if_neg hc] using h
theorem Ev.then {α β : Type} {o : Option α} {f : Nat → α → Option β} {a : α} {r : β} (h : o = some a) (k : Ev (fun n => f n a) r) : Ev (fun n => o.bind (f n)) r := by
  subst h; exact k
/-- A loop that goes up: what it answers at the end, it answers from the start. -/
theorem Ev.up {α : Type} {g : Nat → Nat → Option α} {r : α} (n : Nat) (hs : ∀ i, i < n → Ev (g (i + 1)) r → Ev (g i) r) (he : Ev (g n) r) (i : Nat) (hi : i ≤ n) : Ev (g i) r := by
  obtain ⟨d, rfl⟩ : ∃ d, n = i + d := ⟨n - i, by omega⟩
  induction d generalizing i with
  | zero => exact he
  | succ d ih =>
    refine hs i (by omega) (ih (i + 1) ?_ ?_ (by omega))
    · intro j hj h
      exact hs j (by omega) h
    · rw [show i + 1 + d = i + (d + 1) by omega]; exact he
theorem rd_nat (l : List Int) (i : Nat) : rd l (i : Int) = l.getD i 0 := by simp [rd]
theorem rd_get (l : List Int) (i : Nat) (h : i < l.length) : rd l (i : Int) = l[i] := by simp [rd, List.getD_eq_getElem?_getD, List.getElem?_eq_getElem h]
theorem rdOf_get {α : Type} (d : α) (l : List α) (i : Nat) (h : i < l.length) : rdOf d l (i : Int) = l[i] := by simp [rdOf, List.getD_eq_getElem?_getD, List.getElem?_eq_getElem h]
theorem take_snoc {α : Type} (l : List α) (i : Nat) (h : i < l.length) : l.take i ++ [l[i]] = l.take (i + 1) := by simp
theorem some_in (a b c : Int) : (if a ≥ b then (some (decide (a ≤ c))) else (some false)) = some (decide (b ≤ a ∧ a ≤ c)) := by
  by_cases h : a ≥ b
  · rw [if_pos h]; congr 1; rw [decide_eq_decide]; constructor
    · intro h2; exact ⟨h, h2⟩
    · intro h2; exact h2.2
  · rw [if_neg h]; congr 1; symm; rw [decide_eq_false_iff_not]; intro h2; exact h h2.1
theorem strOfNums_get (xs : List Int) (i : Nat) (h : i < (strOfNums xs).size) : (strOfNums xs)[i] = UInt8.ofNat (xs[i]'(by simpa [strOfNums_size] using h)).toNat := by
  simp [strOfNums, ByteArray.getElem_eq_getElem_data]
theorem bytes_ext {s t : ByteArray} (h : s.data.toList = t.data.toList) : s = t := by
  cases s; cases t; congr 1; exact Array.toList_inj.mp h
def EqQ (x y : Int) : Prop := x % 3329 = y % 3329
theorem EqQ.refl (x : Int) : EqQ x x := rfl
theorem EqQ.of {x y : Int} (h : x = y) : EqQ x y := by rw [h]; exact EqQ.refl y
theorem EqQ.symm {x y : Int} (h : EqQ x y) : EqQ y x := Eq.symm h
theorem EqQ.mod (x : Int) : EqQ (x % 3329) x := Int.emod_emod_of_dvd _ (Int.dvd_refl _)
theorem EqQ.neg {x y : Int} (h : EqQ x y) : EqQ (-x) (-y) := by unfold EqQ at *; omega
end Go.Proofs.YtjcmafoepabpkaaDoor.Pure
namespace Go.Proofs.YtjcmafoepabpkaaDoor.Pure
open Go.RowKit Go.Proofs.YtjcmafoepabpkaaDoorW.PrintWords Go.Proofs.YtjcmafoepabpkaaDoorW.PrintLast Go.Proofs.YtjcmafoepabpkaaDoorW.PrintMore Go.Proofs.YtjcmafoepabpkaaDoor.P

def Mtext (n : Int) (t : ByteArray) : Prop := Ev (fun k => laws_markText.f k n) t
theorem markText_l0 (d : Nat) : ∀ (n : Nat) (x : ByteArray), n ≤ d → x.size + n ≤ 4611686018427387904 → ∃ t, Ev (fun k => laws_markText.l0 k (n : Int) x) t := by
  induction d with
  | zero =>
    intro n x hn hx
    obtain rfl : n = 0 := by omega
    refine ⟨_, Ev.step (f := fun _ => some ((⟨#[109]⟩ : ByteArray) ++ x)) (fun k => ?_) (Ev.now _)⟩
    simp only [laws_markText.l0]
    rw [if_neg (by omega), if_pos (by omega)]
  | succ d ih =>
    intro n x hn hx
    by_cases h0 : n = 0
    · subst h0
      refine ⟨_, Ev.step (f := fun _ => some ((⟨#[109]⟩ : ByteArray) ++ x)) (fun k => ?_) (Ev.now _)⟩
      simp only [laws_markText.l0]
      rw [if_neg (by omega), if_pos (by omega)]
    · have hs : (strOfNums [(wrap64 (48 + (Int.tmod (n : Int) 10))) % 256]).size = 1 := by simp [strOfNums_size]
      have h10 : wrap64 (Int.tdiv (n : Int) 10) = ((n / 10 : Nat) : Int) := by
        rw [Int.tdiv_eq_ediv_of_nonneg (by omega), w64 (by omega) (by omega)]; rfl
      obtain ⟨t, ht⟩ := ih (n / 10) (strOfNums [(wrap64 (48 + (Int.tmod (n : Int) 10))) % 256] ++ x) (by omega) (by rw [ByteArray.size_append, hs]; omega)
      refine ⟨t, Ev.step (fun k => ?_) ht⟩
      simp only [laws_markText.l0, Option.bind_some]
      rw [if_pos (by omega), if_pos (by rw [hs]; omega), h10]
theorem markText_ev (n : Int) (h1 : n ≤ 4611686018427387904) : ∃ t, Mtext n t := by
  unfold Mtext laws_markText.f
  by_cases h : n ≤ 0
  · exact ⟨_, Ev.pos h (Ev.now _)⟩
  · obtain ⟨t, ht⟩ := markText_l0 n.toNat n.toNat ⟨#[]⟩ (by omega) (by
      have : (⟨#[]⟩ : ByteArray).size = 0 := rfl
      omega)
    rw [show ((n.toNat : Nat) : Int) = n by omega] at ht
    exact ⟨t, Ev.neg h ht⟩
theorem mark_list (a : Int) (n : Nat) (h : a + n ≤ 4611686018427387904) : ∃ ts : List ByteArray, ts.length = n ∧ ∀ i, (hi : i < ts.length) → Mtext (a + i) ts[i] := by
  induction n with
  | zero => exact ⟨[], rfl, fun i hi => absurd hi (by simp)⟩
  | succ n ih =>
    obtain ⟨ts, hl, hm⟩ := ih (by omega)
    obtain ⟨t, ht⟩ := markText_ev (a + n) (by omega)
    refine ⟨ts ++ [t], by simp [hl], fun i hi => ?_⟩
    by_cases hin : i < ts.length
    · rw [List.getElem_append_left hin]; exact hm i hin
    · have : i = ts.length := by simp at hi; omega
      subst this
      rw [List.getElem_append_right (Nat.le_refl _)]
      simpa [hl] using ht
theorem set_take {α : Type} (ts l : List α) (i : Nat) (h : i < l.length) (hl : ts.length = l.length) : (ts.take i ++ l.drop i).set i (ts[i]'(by omega)) = ts.take (i + 1) ++ l.drop (i + 1) := by
  rw [List.drop_eq_getElem_cons h, List.set_append_right _ _ (by simp; omega)]
  rw [show i - (ts.take i).length = 0 by simp; omega, List.set_cons_zero, ← take_snoc ts i (by omega), List.append_assoc]
  rfl
theorem markStringS_ev (l ts : List ByteArray) (a : Int) (ha : 0 ≤ a) (hb : a + l.length ≤ 4611686018427387904) (hl : ts.length = l.length) (hm : ∀ i, (hi : i < ts.length) → Mtext (a + i) ts[i]) :
    Ev (fun k => laws_markStringS.f k l a) (a + l.length, ts) := by
  unfold laws_markStringS.f
  have h := Ev.up (g := fun i k => laws_markStringS.l0 k (ts.take i ++ l.drop i) (a + i) (i : Int)) (r := (a + l.length, ts)) l.length ?_ ?_ 0 (by omega)
  · simpa using h
  · intro i hi h
    refine Ev.step (f := fun k => (laws_markText.f k (a + i)).bind fun t372 => (if 0 ≤ (i : Int) then (laws_markStringS.l0 k ((ts.take i ++ l.drop i).set ((i : Int) : Int).toNat t372) (wrap64 ((a + i) + 1)) (wrap64 ((i : Int) + 1))) else (none))) (fun k => ?_) (Ev.bind (hm i (by omega)) (Ev.pos (by omega) ?_))
    · simp only [laws_markStringS.l0]
      rw [if_pos (by simp; omega)]
    · rw [Int.toNat_natCast, set_take ts l i hi hl, w64s i (by omega), w64 (by omega) (by omega)]
      refine Ev.congr (fun k => ?_) h
      congr 1
      omega
  · refine Ev.step (f := fun _ => some (a + l.length, ts)) (fun k => ?_) (Ev.now _)
    simp only [laws_markStringS.l0]
    rw [if_neg (by simp; omega), List.take_of_length_le (by omega)]
    simp
theorem heldStringS_ev (ts : List ByteArray) (a : Int) (ha : 0 ≤ a) (hb : a + ts.length ≤ 4611686018427387904) (hm : ∀ i, (hi : i < ts.length) → Mtext (a + i) ts[i]) :
    Ev (fun k => laws_heldStringS.f k ts a) (a + ts.length) := by
  unfold laws_heldStringS.f
  have h := Ev.up (g := fun i k => laws_heldStringS.l0 k ts (a + i) (i : Int)) (r := a + ts.length) ts.length ?_ ?_ 0 (by omega)
  · simpa using h
  · intro i hi h
    refine Ev.step (f := fun k => (laws_markText.f k (a + i)).bind fun t380 => (if (rdOf ByteArray.empty ts (i : Int)).toList = t380.toList then (laws_heldStringS.l0 k ts (wrap64 ((a + i) + 1)) (wrap64 ((i : Int) + 1))) else (some (-1)))) (fun k => ?_) (Ev.bind (hm i hi) (Ev.pos (by rw [rdOf_get _ _ _ hi]) ?_))
    · simp only [laws_heldStringS.l0]
      rw [if_pos (by omega), if_pos (by omega)]
    · rw [w64s i (by omega), w64 (by omega) (by omega)]
      refine Ev.congr (fun k => ?_) h
      congr 1
      omega
  · refine Ev.step (f := fun _ => some (a + ts.length)) (fun k => ?_) (Ev.now _)
    simp only [laws_heldStringS.l0]
    rw [if_neg (by omega)]
/-- A slice of texts takes its marks, and holds them. -/
theorem marks_str (l : List ByteArray) (a : Int) (ha : 0 ≤ a) (hb : a + l.length ≤ 4611686018427387904) :
    ∃ ts : List ByteArray, Ev (fun k => laws_markStringS.f k l a) (a + l.length, ts) ∧ Ev (fun k => laws_heldStringS.f k ts a) (a + l.length) := by
  obtain ⟨ts, hl, hm⟩ := mark_list a l.length hb
  refine ⟨ts, markStringS_ev l ts a ha hb hl hm, ?_⟩
  have := heldStringS_ev ts a ha (by rw [hl]; exact hb) hm
  rwa [hl] at this
end Go.Proofs.YtjcmafoepabpkaaDoor.Pure
namespace Go.Proofs.YtjcmafoepabpkaaDoor.Pure
open Go.RowKit Go.Proofs.YtjcmafoepabpkaaDoorW.PrintWords Go.Proofs.YtjcmafoepabpkaaDoorW.PrintLast Go.Proofs.YtjcmafoepabpkaaDoorW.PrintMore Go.Proofs.YtjcmafoepabpkaaDoor.P

theorem eqStringS_refl (l : List ByteArray) (hl : l.length ≤ 35184372088832) : Ev (fun k => laws_eqStringS.f k l l) true := by
  unfold laws_eqStringS.f
  refine Ev.pos rfl ?_
  refine Ev.up (g := fun i k => laws_eqStringS.l0 k l l (i : Int)) (r := true) l.length ?_ ?_ 0 (by omega)
  · intro i hi h
    refine Ev.step (fun k => ?_) h
    simp only [laws_eqStringS.l0]
    rw [if_pos (by omega), if_pos (by omega), if_pos (by omega), if_pos trivial, w64s i (by omega)]
  · refine Ev.step (f := fun _ => some true) (fun k => ?_) (Ev.now _)
    simp only [laws_eqStringS.l0]
    rw [if_neg (by omega)]

theorem eqSig_refl (x : Int) (a b : List ByteArray) (ha : a.length ≤ 35184372088832) (hb : b.length ≤ 35184372088832) : Ev (fun k => laws_eqSig.f k x a b x a b) true := by
  unfold laws_eqSig.f
  exact Ev.pos rfl (Ev.bind (eqStringS_refl a ha) (Ev.pos rfl (Ev.bind (eqStringS_refl b hb) (Ev.pos rfl (Ev.now _)))))
end Go.Proofs.YtjcmafoepabpkaaDoor.Pure
namespace Go.Proofs.YtjcmafoepabpkaaDoor.Pure
open Go.RowKit Go.Proofs.YtjcmafoepabpkaaDoorW.PrintWords Go.Proofs.YtjcmafoepabpkaaDoorW.PrintLast Go.Proofs.YtjcmafoepabpkaaDoorW.PrintMore Go.Proofs.YtjcmafoepabpkaaDoor.P

theorem marks_sigAt (x y c : Int) (a b : List ByteArray) (hc : 0 ≤ c) (ha : a.length ≤ 1000) (hb : b.length ≤ 1000) (hc2 : c ≤ 1000000) :
    ∃ (ts us : List ByteArray), Ev (fun k => laws_markSig.f k x a b c) (c + a.length + b.length, ts, us) ∧ Ev (fun k => laws_heldSig.f k y ts us c) (c + a.length + b.length) := by
  obtain ⟨ts, h1, h2⟩ := marks_str a c (by omega) (by omega)
  obtain ⟨us, h3, h4⟩ := marks_str b (c + a.length) (by omega) (by omega)
  refine ⟨ts, us, ?_, ?_⟩
  · unfold laws_markSig.f
    exact Ev.bind h1 (Ev.bind h3 (Ev.now _))
  · unfold laws_heldSig.f
    exact Ev.bind h2 (Ev.neg (by omega) (Ev.bind h4 (Ev.neg (by omega) (Ev.now _))))
theorem marks_hyper (x y x' y' : Int) (m m' : ByteArray) (a b c d : List ByteArray) (ha : a.length ≤ 1000) (hb : b.length ≤ 1000) (hc : c.length ≤ 1000) (hd : d.length ≤ 1000) :
    ∃ (n : Int) (ts us vs ws : List ByteArray), 0 < n ∧ Ev (fun k => laws_markHyper.f k x a b m x' c d 1) (n, ts, us, vs, ws) ∧ Ev (fun k => laws_heldHyper.f k y ts us m' y' vs ws 1) n := by
  obtain ⟨ts, us, h1, h2⟩ := marks_sigAt x y 1 a b (by omega) ha hb (by omega)
  obtain ⟨vs, ws, h3, h4⟩ := marks_sigAt x' y' (1 + a.length + b.length) c d (by omega) hc hd (by omega)
  refine ⟨1 + a.length + b.length + c.length + d.length, ts, us, vs, ws, by omega, ?_, ?_⟩
  · unfold laws_markHyper.f
    exact Ev.bind h1 (Ev.bind h3 (Ev.now _))
  · unfold laws_heldHyper.f
    exact Ev.bind h2 (Ev.neg (by omega) (Ev.bind h4 (Ev.neg (by omega) (Ev.now _))))
theorem eqHyper_refl (x x' : Int) (m : ByteArray) (a b c d : List ByteArray) (ha : a.length ≤ 1000) (hb : b.length ≤ 1000) (hc : c.length ≤ 1000) (hd : d.length ≤ 1000) :
    Ev (fun k => laws_eqHyper.f k x a b m x' c d x a b m x' c d) true := by
  unfold laws_eqHyper.f
  exact Ev.bind (eqSig_refl _ _ _ (by omega) (by omega)) (Ev.pos rfl (Ev.pos rfl (Ev.bind (eqSig_refl _ _ _ (by omega) (by omega)) (Ev.pos rfl (Ev.now _)))))
end Go.Proofs.YtjcmafoepabpkaaDoor.Pure
namespace Go.Proofs.YtjcmafoepabpkaaDoor.Pure
open Go.RowKit Go.Proofs.YtjcmafoepabpkaaDoorW.PrintWords Go.Proofs.YtjcmafoepabpkaaDoorW.PrintLast Go.Proofs.YtjcmafoepabpkaaDoorW.PrintMore Go.Proofs.YtjcmafoepabpkaaDoor.P Go.Proofs.YtjcmafoepabpkaaDoor.Kit
set_option linter.unusedVariables false
set_option linter.unusedSimpArgs false

def W32 (x : Int) : Prop := 0 ≤ x ∧ x < 4294967296
theorem W32.mod (x : Int) : W32 (x % 4294967296) := by unfold W32; omega
theorem W32.xor (a b : Int) : W32 (Go.bits .xor .u32 a b) := by
  show W32 (IntKind.u32.wrap (((BitVec.ofInt 32 a ^^^ BitVec.ofInt 32 b).toNat : Nat) : Int))
  rw [IntKind.wrap_u32']; exact W32.mod _
theorem W32.or (a b : Int) : W32 (Go.bits .or .u32 a b) := by
  show W32 (IntKind.u32.wrap (((BitVec.ofInt 32 a ||| BitVec.ofInt 32 b).toNat : Nat) : Int))
  rw [IntKind.wrap_u32']; exact W32.mod _
theorem wraps32 : ∀ n : Int, 0 ≤ n → n < 2 ^ 32 → IntKind.u32.wrap n = n := fun n h0 h1 => by rw [IntKind.wrap_u32']; omega
/-- Two words joined that share no bit. -/
theorem or_add (i : Nat) (x y : Int) (hx : W32 x) (hi : x % 2 ^ i = 0) (hy : W32 y) (hyi : y < 2 ^ i) : Go.bits .or .u32 x y = x + y :=
  bits_join .u32 32 (by decide) wraps32 i x y hx.1 hi (by have := hx.2; omega) hy.1 hyi (by have := hy.2; omega)
theorem not32 (e : Int) (h : W32 e) : Go.bits .xor .u32 (if IntKind.u32.signed = true then -1 else IntKind.u32.max) e = 4294967295 - e := by
  obtain ⟨n, rfl⟩ := Int.eq_ofNat_of_zero_le h.1
  have hn : n < 4294967296 := by have := h.2; omega
  show IntKind.u32.wrap (((BitVec.ofInt 32 4294967295 ^^^ BitVec.ofInt 32 (n : Int)).toNat : Nat) : Int) = _
  have h1 : (BitVec.ofInt 32 4294967295 ^^^ BitVec.ofInt 32 (n : Int)).toNat = 4294967295 - n := by
    have e1 : BitVec.ofInt 32 4294967295 = BitVec.allOnes 32 := by decide
    rw [e1, BitVec.allOnes_xor, BitVec.toNat_not, BitVec.toNat_ofInt]
    omega
  rw [h1, IntKind.wrap_u32']
  omega
theorem rot_eq (x : Int) (n : Nat) (h1 : 1 ≤ n) (h2 : n ≤ 31) (h : W32 x) : rot x n = x / 2 ^ n + (x % 2 ^ n) * 2 ^ (32 - n) := by
  obtain ⟨A, hA⟩ : ∃ A : Int, A = 2 ^ n := ⟨_, rfl⟩
  obtain ⟨B, hB⟩ : ∃ B : Int, B = 2 ^ (32 - n) := ⟨_, rfl⟩
  have hA0 : 0 < A := by rw [hA]; exact Int.pow_pos (by decide)
  have hB0 : 0 < B := by rw [hB]; exact Int.pow_pos (by decide)
  have hAB : B * A = 4294967296 := by
    rw [hA, hB, ← Int.pow_add, show 32 - n + n = 32 by omega]; rfl
  have hl : shl .u32 x ((32 - n : Nat) : Int) = (x % A) * B := by
    unfold shl
    rw [Int.toNat_natCast, Nat.min_eq_left (by show 32 - n ≤ 32; omega), IntKind.wrap_u32', ← hB, ← hAB, Int.mul_comm x B, Int.mul_emod_mul_of_pos _ _ hB0, Int.mul_comm]
  have hr : shr .u32 x (n : Int) = x / A := by
    unfold shr
    rw [Int.toNat_natCast, Nat.min_eq_left (by show n ≤ 32; omega), ← hA]
  have hm0 := Int.emod_nonneg x (Int.ne_of_gt hA0)
  have hm1 := Int.emod_lt_of_pos x hA0
  have hd0 : 0 ≤ x / A := Int.ediv_nonneg h.1 (Int.le_of_lt hA0)
  have hd1 : x / A < B := Int.ediv_lt_of_lt_mul hA0 (by rw [hAB]; exact h.2)
  have hmb : (x % A) * B < 4294967296 := by
    have h3 : (x % A + 1) * B ≤ A * B := Int.mul_le_mul_of_nonneg_right (by omega) (Int.le_of_lt hB0)
    rw [Int.mul_comm A B, hAB, Int.add_mul, Int.one_mul] at h3
    omega
  have hB1 : B ≤ 4294967296 := by
    have h3 : B * 1 ≤ B * A := Int.mul_le_mul_of_nonneg_left (by omega) (Int.le_of_lt hB0)
    rw [hAB, Int.mul_one] at h3; exact h3
  unfold rot
  rw [hl, hr, ← hA, ← hB, or_add (32 - n) _ _ ⟨Int.mul_nonneg hm0 (Int.le_of_lt hB0), hmb⟩ (by rw [← hB]; exact Int.mul_emod_left _ _) ⟨hd0, by omega⟩ (by rw [← hB]; exact hd1), Int.add_comm]
theorem rot_w (x : Int) (n : Nat) : W32 (rot x n) := W32.or _ _
theorem l05Right_eq (x : Int) (n : Nat) (a b : Int) (ha : a = 2 ^ n) (hb : b = 2 ^ (32 - n)) (h1 : 1 ≤ n) (h2 : n ≤ 31) (h : W32 x) : spec_l05Right.f x a b = some (rot x n) := by
  have hA0 : 0 < a := by rw [ha]; exact Int.pow_pos (by decide)
  have hr := rot_eq x n h1 h2 h
  have hw := rot_w x n
  rw [← ha, ← hb] at hr
  have hw1 := hw.1
  have hw2 := hw.2
  have hd0 : 0 ≤ x / a := Int.ediv_nonneg h.1 (Int.le_of_lt hA0)
  have hb0 : 0 ≤ b := by rw [hb]; exact Int.le_of_lt (Int.pow_pos (by decide))
  have hm0 : 0 ≤ x % a * b := Int.mul_nonneg (Int.emod_nonneg x (Int.ne_of_gt hA0)) hb0
  unfold spec_l05Right.f
  rw [if_neg (Int.ne_of_gt hA0), Int.tdiv_eq_ediv_of_nonneg h.1, Int.tmod_eq_emod_of_nonneg h.1]
  rw [hr] at hw1 hw2 ⊢
  congr 1
  rw [Int.emod_eq_of_lt hd0 (by omega), Int.emod_eq_of_lt hm0 (by omega), Int.emod_eq_of_lt hw1 hw2]
theorem l05S_last (x : Int) (n m : Nat) (a b c : Int) (ha : a = 2 ^ n) (hb : b = 2 ^ m) (hc : c ≠ 0) (ha2 : (Int.tdiv 2147483648 a % 4294967296) * 2 % 4294967296 = 2 ^ (32 - n)) (hb2 : (Int.tdiv 2147483648 b % 4294967296) * 2 % 4294967296 = 2 ^ (32 - m)) (hn : 1 ≤ n ∧ n ≤ 31) (hm : 1 ≤ m ∧ m ≤ 31) (hcx : 0 < c) (h : W32 x) :
    spec_l05S.f x a b c true = some (Go.bits .xor .u32 (Go.bits .xor .u32 (rot x n) (rot x m)) (x / c)) := by
  have ha0 : a ≠ 0 := by rw [ha]; exact Int.ne_of_gt (Int.pow_pos (by decide))
  have hb0 : b ≠ 0 := by rw [hb]; exact Int.ne_of_gt (Int.pow_pos (by decide))
  unfold spec_l05S.f
  rw [if_neg ha0, l05Right_eq x n a _ ha ha2 hn.1 hn.2 h]
  simp only [Option.bind_some]
  rw [if_neg hb0, l05Right_eq x m b _ hb hb2 hm.1 hm.2 h]
  simp only [Option.bind_some]
  rw [if_neg hc, if_pos trivial, Int.tdiv_eq_ediv_of_nonneg h.1]
  have h1 : 0 ≤ x / c := Int.ediv_nonneg h.1 (Int.le_of_lt hcx)
  have h2 : x / c ≤ x := Int.ediv_le_self _ h.1
  rw [Int.emod_eq_of_lt h1 (by have := h.2; omega)]
theorem l05S_three (x : Int) (n m q : Nat) (a b c : Int) (ha : a = 2 ^ n) (hb : b = 2 ^ m) (hc : c = 2 ^ q) (ha2 : (Int.tdiv 2147483648 a % 4294967296) * 2 % 4294967296 = 2 ^ (32 - n)) (hb2 : (Int.tdiv 2147483648 b % 4294967296) * 2 % 4294967296 = 2 ^ (32 - m)) (hc2 : (Int.tdiv 2147483648 c % 4294967296) * 2 % 4294967296 = 2 ^ (32 - q)) (hn : 1 ≤ n ∧ n ≤ 31) (hm : 1 ≤ m ∧ m ≤ 31) (hq : 1 ≤ q ∧ q ≤ 31) (h : W32 x) :
    spec_l05S.f x a b c false = some (Go.bits .xor .u32 (Go.bits .xor .u32 (rot x n) (rot x m)) (rot x q)) := by
  have ha0 : a ≠ 0 := by rw [ha]; exact Int.ne_of_gt (Int.pow_pos (by decide))
  have hb0 : b ≠ 0 := by rw [hb]; exact Int.ne_of_gt (Int.pow_pos (by decide))
  have hc0 : c ≠ 0 := by rw [hc]; exact Int.ne_of_gt (Int.pow_pos (by decide))
  unfold spec_l05S.f
  rw [if_neg ha0, l05Right_eq x n a _ ha ha2 hn.1 hn.2 h]
  simp only [Option.bind_some]
  rw [if_neg hb0, l05Right_eq x m b _ hb hb2 hm.1 hm.2 h]
  simp only [Option.bind_some]
  rw [if_neg hc0, if_neg (by decide), l05Right_eq x q c _ hc hc2 hq.1 hq.2 h]
  simp only [Option.bind_some]
theorem S_w1 (x : Int) (h : W32 x) : spec_l05S.f x 131072 524288 1024 true = some (Go.bits .xor .u32 (Go.bits .xor .u32 (rot x 17) (rot x 19)) (x / 1024)) :=
  l05S_last x 17 19 _ _ _ rfl rfl (by decide) rfl rfl (by decide) (by decide) (by decide) h
theorem S_w0 (x : Int) (h : W32 x) : spec_l05S.f x 128 262144 8 true = some (Go.bits .xor .u32 (Go.bits .xor .u32 (rot x 7) (rot x 18)) (x / 8)) :=
  l05S_last x 7 18 _ _ _ rfl rfl (by decide) rfl rfl (by decide) (by decide) (by decide) h
theorem S_e (x : Int) (h : W32 x) : spec_l05S.f x 64 2048 33554432 false = some (Go.bits .xor .u32 (Go.bits .xor .u32 (rot x 6) (rot x 11)) (rot x 25)) :=
  l05S_three x 6 11 25 _ _ _ rfl rfl rfl rfl rfl rfl (by decide) (by decide) (by decide) h
theorem S_a (x : Int) (h : W32 x) : spec_l05S.f x 4 8192 4194304 false = some (Go.bits .xor .u32 (Go.bits .xor .u32 (rot x 2) (rot x 13)) (rot x 22)) :=
  l05S_three x 2 13 22 _ _ _ rfl rfl rfl rfl rfl rfl (by decide) (by decide) (by decide) h

/-! the words of a block -/
def word (s : ByteArray) (i : Nat) : Int := bt s ((4 * i : Nat) : Int) * 16777216 + bt s ((4 * i + 1 : Nat) : Int) * 65536 + bt s ((4 * i + 2 : Nat) : Int) * 256 + bt s ((4 * i + 3 : Nat) : Int)
theorem word_w (s : ByteArray) (i : Nat) : W32 (word s i) := by
  have h0 := bt_range s ((4 * i : Nat) : Int)
  have h1 := bt_range s ((4 * i + 1 : Nat) : Int)
  have h2 := bt_range s ((4 * i + 2 : Nat) : Int)
  have h3 := bt_range s ((4 * i + 3 : Nat) : Int)
  unfold word W32
  omega
def wordL (s : ByteArray) (n : Nat) : List Int := (List.range n).map (word s)
theorem wordL_len (s : ByteArray) (n : Nat) : (wordL s n).length = n := by simp [wordL]
theorem wordL_succ (s : ByteArray) (n : Nat) : wordL s (n + 1) = wordL s n ++ [word s n] := by simp [wordL, List.range_succ]
theorem wordL_w (s : ByteArray) (n : Nat) : ∀ x ∈ wordL s n, W32 x := by
  intro x hx
  obtain ⟨i, _, rfl⟩ := List.mem_map.mp hx
  exact word_w s i
theorem spec_l05Word_eq (s : ByteArray) (i : Nat) (h : 4 * i + 4 ≤ s.size) (hs : s.size ≤ 4611686018427387904) : spec_l05Word.f s ((4 * i : Nat) : Int) = some (word s i) := by
  have e1 : wrap64 (((4 * i : Nat) : Int) + 1) = ((4 * i + 1 : Nat) : Int) := by rw [w64 (by omega) (by omega)]; rfl
  have e2 : wrap64 (((4 * i : Nat) : Int) + 2) = ((4 * i + 2 : Nat) : Int) := by rw [w64 (by omega) (by omega)]; rfl
  have e3 : wrap64 (((4 * i : Nat) : Int) + 3) = ((4 * i + 3 : Nat) : Int) := by rw [w64 (by omega) (by omega)]; rfl
  have h0 := bt_range s ((4 * i : Nat) : Int)
  have h1 := bt_range s ((4 * i + 1 : Nat) : Int)
  have h2 := bt_range s ((4 * i + 2 : Nat) : Int)
  have h3 := bt_range s ((4 * i + 3 : Nat) : Int)
  unfold spec_l05Word.f
  rw [e1, e2, e3, if_pos (by omega), if_pos (by omega), if_pos (by omega), if_pos (by omega), if_pos (by omega), if_pos (by omega), if_pos (by omega), if_pos (by omega)]
  unfold word
  congr 1
  generalize bt s ((4 * i : Nat) : Int) = b0 at *
  generalize bt s ((4 * i + 1 : Nat) : Int) = b1 at *
  generalize bt s ((4 * i + 2 : Nat) : Int) = b2 at *
  generalize bt s ((4 * i + 3 : Nat) : Int) = b3 at *
  clear e1 e2 e3
  omega
theorem spec_l05Words_ev (s : ByteArray) (n : Nat) (h : s.size = 4 * n) (hn : n ≤ 1000000) : Ev (fun k => spec_l05Words.f k s) (wordL s n) := by
  refine Ev.up (g := fun i k => spec_l05Words.l0 k s (wordL s i) ((4 * i : Nat) : Int)) n ?_ ?_ 0 (Nat.zero_le _)
  · intro i hi hh
    refine Ev.step (fun k => ?_) hh
    simp only [spec_l05Words.l0]
    have e4 : wrap64 (((4 * i : Nat) : Int) + 4) = ((4 * (i + 1) : Nat) : Int) := by rw [w64 (by omega) (by omega)]; omega
    rw [e4, if_pos (by omega), spec_l05Word_eq s i (by omega) (by omega)]
    simp only [Option.bind_some]
    rw [if_pos (by rw [wordL_len]; omega), wordL_succ]
  · refine Ev.step (f := fun _ => some (wordL s n)) (fun k => ?_) (Ev.now _)
    simp only [spec_l05Words.l0]
    have e4 : wrap64 (((4 * n : Nat) : Int) + 4) = ((4 * (n + 1) : Nat) : Int) := by rw [w64 (by omega) (by omega)]; omega
    rw [e4, if_neg (by omega)]
end Go.Proofs.YtjcmafoepabpkaaDoor.Pure
namespace Go.Proofs.YtjcmafoepabpkaaDoor.Pure
open Go.RowKit Go.Proofs.YtjcmafoepabpkaaDoorW.PrintWords Go.Proofs.YtjcmafoepabpkaaDoorW.PrintLast Go.Proofs.YtjcmafoepabpkaaDoorW.PrintMore Go.Proofs.YtjcmafoepabpkaaDoor.P Go.Proofs.YtjcmafoepabpkaaDoor.Kit
set_option linter.unusedVariables false
set_option linter.unusedSimpArgs false

/-- The words while word i is being made. -/
def partW (s : ByteArray) (i : Nat) (x : Int) : List Int := wordL s i ++ x :: List.replicate (63 - i) 0
theorem partW_rd (s : ByteArray) (i : Nat) (x : Int) : rd (partW s i x) (i : Int) = x := by
  rw [rd_nat, partW, List.getD_eq_getElem?_getD, List.getElem?_append_right (by rw [wordL_len]; omega), wordL_len]
  simp
theorem partW_set (s : ByteArray) (i : Nat) (x y : Int) : (partW s i x).set i y = partW s i y := by
  unfold partW
  rw [List.set_append_right _ _ (by rw [wordL_len]; omega), wordL_len]
  simp
theorem wordsA_step (s : ByteArray) (m i : Nat) (x y : Int) (hm : m / 4 = i) (h : wordsA s m = partW s i x) (hx : 0 ≤ x) (hx2 : x < 16777216) (hy : y = x * 256 + bt s (m : Int)) : wordsA s (m + 1) = partW s i y := by
  have hb := bt_range s (m : Int)
  simp only [wordsA]
  rw [hm, h, partW_rd, partW_set, or_add 8 _ _ (W32.mod _) (by omega) (W32.mod _) (by omega), hy]
  congr 1
  omega
theorem wordsA_four (s : ByteArray) (i : Nat) (hi : i < 16) (h : wordsA s (4 * i) = partW s i 0) : wordsA s (4 * (i + 1)) = wordL s (i + 1) ++ List.replicate (63 - i) 0 := by
  have b0 := bt_range s ((4 * i : Nat) : Int)
  have b1 := bt_range s ((4 * i + 1 : Nat) : Int)
  have b2 := bt_range s ((4 * i + 2 : Nat) : Int)
  have b3 := bt_range s ((4 * i + 3 : Nat) : Int)
  have h1 := wordsA_step s (4 * i) i 0 (bt s ((4 * i : Nat) : Int)) (by omega) h (by omega) (by omega) (by omega)
  have h2 := wordsA_step s (4 * i + 1) i _ (bt s ((4 * i : Nat) : Int) * 256 + bt s ((4 * i + 1 : Nat) : Int)) (by omega) h1 (by omega) (by omega) rfl
  have h3 := wordsA_step s (4 * i + 2) i _ ((bt s ((4 * i : Nat) : Int) * 256 + bt s ((4 * i + 1 : Nat) : Int)) * 256 + bt s ((4 * i + 2 : Nat) : Int)) (by omega) h2 (by omega) (by omega) rfl
  have h4 := wordsA_step s (4 * i + 3) i _ (word s i) (by omega) h3 (by omega) (by omega) (by unfold word; omega)
  rw [show 4 * (i + 1) = 4 * i + 3 + 1 by omega, h4, partW, wordL_succ]
  simp
theorem wordsA_all (s : ByteArray) : ∀ i, i ≤ 16 → wordsA s (4 * i) = wordL s i ++ List.replicate (64 - i) 0
  | 0, _ => rfl
  | i + 1, h => by
    have ih := wordsA_all s i (by omega)
    rw [wordsA_four s i (by omega) (by rw [ih, partW, show 64 - i = (63 - i) + 1 by omega, List.replicate_succ]), show 64 - (i + 1) = 63 - i by omega]
theorem wordNext_w (l : List Int) (t : Nat) : W32 (wordNext l t) := W32.mod _
theorem take_set_snoc (l : List Int) (t : Nat) (v : Int) (h : t < l.length) : (l.set t v).take (t + 1) = l.take t ++ [v] := by
  rw [List.take_add_one, List.take_set_of_le (Nat.le_refl _)]
  simp [h]
theorem wordsB_snoc (s : ByteArray) (j : Nat) (h : j < 48) : (wordsB s (j + 1)).take (16 + (j + 1)) = (wordsB s j).take (16 + j) ++ [wordNext (wordsB s j) (16 + j)] :=
  take_set_snoc _ (16 + j) _ (by rw [wordsB_len]; omega)
theorem wordsB_take (s : ByteArray) : ∀ j, j ≤ 48 → ∀ x ∈ (wordsB s j).take (16 + j), W32 x
  | 0, _ => by
    intro x hx
    have := wordsA_all s 16 (Nat.le_refl _)
    simp only [wordsB] at hx
    rw [show 64 = 4 * 16 from rfl, this, List.take_append_of_le_length (by rw [wordL_len]; omega)] at hx
    exact wordL_w s 16 x (List.mem_of_mem_take hx)
  | j + 1, h => by
    intro x hx
    rw [wordsB_snoc s j (by omega), List.mem_append] at hx
    rcases hx with hx | hx
    · exact wordsB_take s j (by omega) x hx
    · simp at hx; subst hx; exact wordNext_w _ _
theorem rd_take (l : List Int) (t i : Nat) (h : i < t) : rd (l.take t) (i : Int) = rd l (i : Int) := by
  rw [rd_nat, rd_nat]
  simp [List.getElem?_take, h]
theorem wB_w (s : ByteArray) (j i : Nat) (hj : j ≤ 48) (hi : i < 16 + j) : W32 (rd (wordsB s j) (i : Int)) := by
  have hl := wordsB_len s j
  rw [← rd_take _ (16 + j) i hi, rd_get _ _ (by rw [List.length_take, hl]; omega)]
  exact wordsB_take s j hj _ (List.getElem_mem _)
theorem l0_ev (s : ByteArray) (st ks : List Int) (r : List Int) (hst : st.length = 8) (h : Ev (fun k => spec_l05Round.l1 k st ks (impl_wordsOf.v s) st 0) r) : Ev (fun k => spec_l05Round.l0 k st ks (wordL s 16) 16) r := by
  have h0 : wordL s 16 = (wordsB s 0).take 16 := by
    simp only [wordsB]
    rw [show 64 = 4 * 16 from rfl, wordsA_all s 16 (Nat.le_refl _), List.take_append_of_le_length (by rw [wordL_len]; omega), List.take_of_length_le (by rw [wordL_len]; omega)]
  rw [h0]
  refine Ev.up (g := fun j k => spec_l05Round.l0 k st ks ((wordsB s j).take (16 + j)) ((16 + j : Nat) : Int)) 48 ?_ ?_ 0 (Nat.zero_le _)
  · intro j hj hh
    refine Ev.step (fun k => ?_) hh
    have hl : ((wordsB s j).take (16 + j)).length = 16 + j := by rw [List.length_take, wordsB_len]; omega
    have e1 : wrap64 (((16 + j : Nat) : Int) - 2) = ((14 + j : Nat) : Int) := by rw [w64 (by omega) (by omega)]; omega
    have e2 : wrap64 (((16 + j : Nat) : Int) - 7) = ((9 + j : Nat) : Int) := by rw [w64 (by omega) (by omega)]; omega
    have e3 : wrap64 (((16 + j : Nat) : Int) - 15) = ((1 + j : Nat) : Int) := by rw [w64 (by omega) (by omega)]; omega
    have e4 : wrap64 (((16 + j : Nat) : Int) - 16) = ((j : Nat) : Int) := by rw [w64 (by omega) (by omega)]; omega
    have e5 : wrap64 (((16 + j : Nat) : Int) + 1) = ((16 + (j + 1) : Nat) : Int) := by rw [w64 (by omega) (by omega)]; omega
    simp only [spec_l05Round.l0]
    rw [e1, e2, e3, e4, e5, hl, rd_take _ _ _ (by omega), rd_take _ _ _ (by omega), rd_take _ _ _ (by omega), rd_take _ _ _ (by omega)]
    rw [if_pos (by omega), if_pos (by omega), if_pos (by omega), S_w1 _ (wB_w s j _ (by omega) (by omega))]
    simp only [Option.bind_some]
    rw [if_pos (by omega), if_pos (by omega), if_pos (by omega), if_pos (by omega), S_w0 _ (wB_w s j _ (by omega) (by omega))]
    simp only [Option.bind_some]
    rw [if_pos (by omega), if_pos (by omega), if_pos (by omega), wordsB_snoc s j hj]
    congr 2
    unfold wordNext
    rw [show 16 + j - 2 = 14 + j by omega, show 16 + j - 7 = 9 + j by omega, show 16 + j - 15 = 1 + j by omega, show 16 + j - 16 = j by omega]
    simp only [List.append_cancel_left_eq, List.cons.injEq, and_true]
    omega
  · refine Ev.step (fun k => ?_) h
    have hl := wordsB_len s 48
    simp only [spec_l05Round.l0, Option.bind_some]
    rw [if_neg (by omega), if_pos (by simp; omega), List.take_of_length_le (by omega)]
    rfl
theorem wl0 : wrap64 0 = 0 := w64 (by decide) (by decide)
theorem wl1 : wrap64 1 = 1 := w64 (by decide) (by decide)
theorem wl2 : wrap64 2 = 2 := w64 (by decide) (by decide)
theorem wl3 : wrap64 3 = 3 := w64 (by decide) (by decide)
theorem wl4 : wrap64 4 = 4 := w64 (by decide) (by decide)
theorem wl5 : wrap64 5 = 5 := w64 (by decide) (by decide)
theorem wl6 : wrap64 6 = 6 := w64 (by decide) (by decide)
theorem wl7 : wrap64 7 = 7 := w64 (by decide) (by decide)
theorem wl8 : wrap64 8 = 8 := w64 (by decide) (by decide)
theorem l2_seven (k : Nat) (x0 x1 x7 : List Int) (a b c d e f g h t u v : Int) : spec_l05Round.l2 (k + 1 + 1 + 1 + 1 + 1 + 1 + 1 + 1) x0 x1 x7 [a, b, c, d, e, f, g, h] t u v 7 = spec_l05Round.l1 k x0 x1 x7 [(u + v) % 4294967296, a, b, c, (d + u) % 4294967296, e, f, g] (wrap64 (t + 1)) := by
  simp [spec_l05Round.l2, wl0, wl1, wl2, wl3, wl4, wl5, wl6, wl7, wl8, rd]
theorem l3_eight (k : Nat) (a b c d e f g h a' b' c' d' e' f' g' h' : Int) : spec_l05Round.l3 (k + 1 + 1 + 1 + 1 + 1 + 1 + 1 + 1 + 1) [a, b, c, d, e, f, g, h] [a', b', c', d', e', f', g', h'] [] 0 = some [(a + a') % 4294967296, (b + b') % 4294967296, (c + c') % 4294967296, (d + d') % 4294967296, (e + e') % 4294967296, (f + f') % 4294967296, (g + g') % 4294967296, (h + h') % 4294967296] := by
  simp [spec_l05Round.l3, wl0, wl1, wl2, wl3, wl4, wl5, wl6, wl7, wl8, rd]
theorem sums_eight (a b c d e f g h a' b' c' d' e' f' g' h' : Int) : sums [a, b, c, d, e, f, g, h] [a', b', c', d', e', f', g', h'] 8 = [(a' + a) % 4294967296, (b' + b) % 4294967296, (c' + c) % 4294967296, (d' + d) % 4294967296, (e' + e) % 4294967296, (f' + f) % 4294967296, (g' + g) % 4294967296, (h' + h) % 4294967296] := rfl
/-- Eight words. -/
def Eight (l : List Int) : Prop := l.length = 8 ∧ ∀ x ∈ l, W32 x
theorem Eight.cases {l : List Int} (h : Eight l) : ∃ a b c d e f g i, l = [a, b, c, d, e, f, g, i] ∧ W32 a ∧ W32 b ∧ W32 c ∧ W32 d ∧ W32 e ∧ W32 f ∧ W32 g ∧ W32 i := by
  obtain ⟨hl, hw⟩ := h
  match l, hl with
  | [a, b, c, d, e, f, g, i], _ => exact ⟨a, b, c, d, e, f, g, i, rfl, hw _ (by simp), hw _ (by simp), hw _ (by simp), hw _ (by simp), hw _ (by simp), hw _ (by simp), hw _ (by simp), hw _ (by simp)⟩
theorem Eight.mk' {a b c d e f g i : Int} (h1 : W32 a) (h2 : W32 b) (h3 : W32 c) (h4 : W32 d) (h5 : W32 e) (h6 : W32 f) (h7 : W32 g) (h8 : W32 i) : Eight [a, b, c, d, e, f, g, i] := by
  refine ⟨rfl, fun x hx => ?_⟩
  simp only [List.mem_cons, List.not_mem_nil, or_false] at hx
  rcases hx with rfl | rfl | rfl | rfl | rfl | rfl | rfl | rfl <;> assumption
theorem rnd_eight {k w : Int} {l : List Int} (h : Eight l) : Eight (rnd k w l) := by
  obtain ⟨a, b, c, d, e, f, g, i, rfl, h1, h2, h3, h4, h5, h6, h7, h8⟩ := h.cases
  exact Eight.mk' (W32.mod _) h1 h2 h3 (W32.mod _) h5 h6 h7
theorem rounds_eight {ws st : List Int} (h : Eight st) : ∀ t, Eight (rounds ws st t)
  | 0 => h
  | t + 1 => rnd_eight (rounds_eight h t)
theorem sums_eq {st v : List Int} (hst : Eight st) (hv : Eight v) : ∃ k0, ∀ k, k0 ≤ k → spec_l05Round.l3 k st v [] 0 = some (sums st v 8) := by
  obtain ⟨a, b, c, d, e, f, g, i, rfl, _⟩ := hv.cases
  obtain ⟨a', b', c', d', e', f', g', i', rfl, _⟩ := hst.cases
  refine ⟨9, fun k hk => ?_⟩
  obtain ⟨k', rfl⟩ : ∃ k', k = k' + 1 + 1 + 1 + 1 + 1 + 1 + 1 + 1 + 1 := ⟨k - 9, by omega⟩
  rw [l3_eight, sums_eight]
  simp only [Int.add_comm]
theorem l1_exit (ws : List Int) {st v : List Int} (hst : Eight st) (hv : Eight v) : ∃ k0, ∀ k, k0 ≤ k → spec_l05Round.l1 k st roundKeys ws v ((64 : Nat) : Int) = some (sums st v 8) := by
  obtain ⟨k0, h⟩ := sums_eq hst hv
  refine ⟨k0 + 1, fun k hk => ?_⟩
  obtain ⟨k', rfl⟩ : ∃ k', k = k' + 1 := ⟨k - 1, by omega⟩
  simp only [spec_l05Round.l1]
  rw [if_neg (by decide)]
  exact h k' (by omega)
theorem l1_R (ws : List Int) (st : List Int) (hst : Eight st) (hwl : ws.length = 64) (R : Nat → List Int) (h0 : R 0 = st) (hs : ∀ t, R (t + 1) = rnd (rd roundKeys (t : Int)) (rd ws (t : Int)) (R t)) (he : ∀ t, Eight (R t)) : Ev (fun k => spec_l05Round.l1 k st roundKeys ws st 0) (sums st (R 64) 8) := by
  have hkl : roundKeys.length = 64 := rfl
  have key : Ev (fun k => spec_l05Round.l1 k st roundKeys ws (R 0) ((0 : Nat) : Int)) (sums st (R 64) 8) := by
    refine Ev.up (g := fun t k => spec_l05Round.l1 k st roundKeys ws (R t) (t : Int)) 64 ?_ ?_ 0 (Nat.zero_le _)
    · intro t ht hh
      obtain ⟨a, b, c, d, e, f, g, i, hv, h1, h2, h3, h4, h5, h6, h7, h8⟩ := (he t).cases
      obtain ⟨K, hK⟩ := hh
      refine ⟨K + 9, fun k hk => ?_⟩
      obtain ⟨k', rfl⟩ : ∃ k', k = k' + 1 + 1 + 1 + 1 + 1 + 1 + 1 + 1 + 1 := ⟨k - 9, by omega⟩
      have hgo := hK k' (by omega)
      simp only [spec_l05Round.l1]
      rw [hv]
      rw [if_pos (by omega), if_pos (by simp), if_pos (by simp), if_pos (by simp), if_pos (by simp), show rd [a, b, c, d, e, f, g, i] 4 = e from rfl, show rd [a, b, c, d, e, f, g, i] 0 = a from rfl, show rd [a, b, c, d, e, f, g, i] 5 = f from rfl, show rd [a, b, c, d, e, f, g, i] 6 = g from rfl, show rd [a, b, c, d, e, f, g, i] 7 = i from rfl, show rd [a, b, c, d, e, f, g, i] 1 = b from rfl, show rd [a, b, c, d, e, f, g, i] 2 = c from rfl, S_e e h5]
      simp only [Option.bind_some]
      rw [if_pos (by omega), if_pos (by omega), if_pos (by omega), if_pos (by simp), if_pos (by simp), if_pos (by simp), S_a a h1]
      simp only [Option.bind_some]
      rw [l2_seven, w64s t (by omega)]
      rw [← hgo, hs t, hv]
      simp only [rnd]
      rw [not32 e h5, show (4294967295 - e) % 4294967296 = 4294967295 - e by have := h5.1; have := h5.2; omega]
      congr 1
      simp only [List.cons.injEq, and_true, true_and]
      constructor <;> omega
    · exact l1_exit ws hst (he 64)
  rw [h0] at key
  exact key
theorem oneBlock_R (st : List Int) (s : ByteArray) (R : Nat → List Int) (hR : R = rounds (impl_wordsOf.v s) st) : impl_oneBlock.v st s = sums st (R 64) 8 := by
  rw [hR]; rfl
theorem l1_ev (s : ByteArray) (st : List Int) (hst : Eight st) : Ev (fun k => spec_l05Round.l1 k st roundKeys (impl_wordsOf.v s) st 0) (impl_oneBlock.v st s) := by
  obtain ⟨R, hR⟩ : ∃ R, R = rounds (impl_wordsOf.v s) st := ⟨_, rfl⟩
  rw [oneBlock_R st s R hR]
  exact l1_R _ st hst (wordsB_len s 48) R (by rw [hR]; rfl) (fun t => by rw [hR]; rfl) (fun t => by rw [hR]; exact rounds_eight hst t)
/-- The reference's round is the program's. -/
theorem spec_l05Round_ev (s : ByteArray) (st : List Int) (hst : Eight st) (hs : s.size = 64) : Ev (fun k => spec_l05Round.f k st roundKeys s) (impl_oneBlock.v st s) := by
  unfold spec_l05Round.f
  exact Ev.bind (spec_l05Words_ev s 16 (by omega) (by decide)) (l0_ev s st roundKeys _ hst.1 (l1_ev s st hst))
theorem sums_8 {st v : List Int} (hst : Eight st) (hv : Eight v) : Eight (sums st v 8) := by
  obtain ⟨a, b, c, d, e, f, g, i, rfl, _⟩ := hv.cases
  obtain ⟨a', b', c', d', e', f', g', i', rfl, _⟩ := hst.cases
  rw [sums_eight]
  exact Eight.mk' (W32.mod _) (W32.mod _) (W32.mod _) (W32.mod _) (W32.mod _) (W32.mod _) (W32.mod _) (W32.mod _)
theorem oneBlock_eight {st : List Int} {s : ByteArray} (h : Eight st) : Eight (impl_oneBlock.v st s) := sums_8 h (rounds_eight h 64)
end Go.Proofs.YtjcmafoepabpkaaDoor.Pure
namespace Go.Proofs.YtjcmafoepabpkaaDoor.Pure
open Go.RowKit Go.Proofs.YtjcmafoepabpkaaDoorW.PrintWords Go.Proofs.YtjcmafoepabpkaaDoorW.PrintLast Go.Proofs.YtjcmafoepabpkaaDoorW.PrintMore Go.Proofs.YtjcmafoepabpkaaDoor.P Go.Proofs.YtjcmafoepabpkaaDoor.Kit
set_option linter.unusedVariables false
set_option linter.unusedSimpArgs false

theorem strOf_app (a b : List Int) : strOfNums a ++ strOfNums b = strOfNums (a ++ b) := by
  apply bytes_ext
  simp [strOfNums, ByteArray.data_append]
theorem strOf_extract (xs : List Int) (a b : Nat) : (strOfNums xs).extract a b = strOfNums ((xs.drop a).take (b - a)) := by
  apply bytes_ext
  rw [ByteArray.data_extract]
  simp [strOfNums, List.map_drop, List.map_take]
theorem empty_app (s : ByteArray) : (⟨#[]⟩ : ByteArray) ++ s = s := by
  apply bytes_ext
  simp [ByteArray.data_append]
theorem bt_strOf (xs : List Int) (j : Nat) (hj : j < xs.length) (h : 0 ≤ xs[j] ∧ xs[j] ≤ 255) : bt (strOfNums xs) (j : Int) = xs[j] := by
  have hs : j < (strOfNums xs).size := by rw [strOfNums_size]; exact hj
  rw [← bt_at (strOfNums xs) (j : Int) (by simpa using hs)]
  simp only [Int.toNat_natCast]
  rw [strOfNums_get xs j hs, UInt8.toNat_ofNat']
  omega

def fourL (x : Int) : List Int := [(x / 16777216) % 256, (x / 65536) % 256, (x / 256) % 256, x % 256]
def bytesW (l : List Int) : List Int := l.flatMap fourL
theorem bytesW_len (l : List Int) : (bytesW l).length = 4 * l.length := by
  induction l with
  | nil => rfl
  | cons x l ih => simp only [bytesW, List.flatMap_cons, List.length_append, List.length_cons] at ih ⊢; rw [ih]; simp [fourL]; omega
theorem bytesW_succ (l : List Int) (i : Nat) (h : i < l.length) : bytesW (l.take (i + 1)) = bytesW (l.take i) ++ fourL l[i] := by
  show (l.take (i + 1)).flatMap fourL = (l.take i).flatMap fourL ++ fourL l[i]
  rw [← take_snoc l i h, List.flatMap_append, List.flatMap_singleton]
theorem spec_l05Bytes_ev (l : List Int) (hl : l.length ≤ 1000000) (hw : ∀ x ∈ l, W32 x) : Ev (fun k => spec_l05Bytes.f k l) (strOfNums (bytesW l)) := by
  refine Ev.up (g := fun i k => spec_l05Bytes.l0 k l (bytesW (l.take i)) (i : Int)) l.length ?_ ?_ 0 (Nat.zero_le _)
  · intro i hi hh
    refine Ev.step (fun k => ?_) hh
    have hx := hw l[i] (List.getElem_mem hi)
    simp only [spec_l05Bytes.l0, Option.bind_some]
    rw [if_pos (by omega), if_pos (by omega), if_pos (by rw [bytesW_len, List.length_take]; simp; omega), w64s i (by omega), bytesW_succ l i hi, rd_get l i hi]
    congr 2
    unfold fourL
    rw [Int.tdiv_eq_ediv_of_nonneg hx.1, Int.tdiv_eq_ediv_of_nonneg hx.1, Int.tdiv_eq_ediv_of_nonneg hx.1, Int.tmod_eq_emod_of_nonneg hx.1]
    have h1 := hx.1
    have h2 := hx.2
    generalize l[i] = x at h1 h2 ⊢
    simp only [List.cons.injEq, and_true]
    refine ⟨by omega, by omega, by omega, by omega⟩
  · refine Ev.step (f := fun _ => some (strOfNums (bytesW l))) (fun k => ?_) (Ev.now _)
    simp only [spec_l05Bytes.l0]
    rw [if_neg (by omega), List.take_length]
theorem stateText_cat (l : List Int) (hl : l.length = 8) : ∀ n, n ≤ 8 → impl_stateText.cat l n = some (strOfNums (bytesW (l.take n)))
  | 0, _ => rfl
  | n + 1, h => by
    simp only [impl_stateText.cat]
    rw [stateText_cat l hl n (by omega)]
    simp only [Option.bind_some]
    show (some (strOfNums (fourL (rd l (n : Int))))).bind _ = _
    simp only [Option.bind_some]
    rw [if_pos (by rw [strOfNums_size, strOfNums_size, bytesW_len, List.length_take]; simp [fourL]; omega), rd_get l n (by omega), strOf_app, bytesW_succ l n (by omega)]
theorem stateText_eq (l : List Int) (hl : l.length = 8) : impl_stateText.f l = some (strOfNums (bytesW l)) := by
  unfold impl_stateText.f
  rw [stateText_cat l hl 8 (Nat.le_refl _), List.take_of_length_le (by omega)]
theorem fourL_range (x : Int) : ∀ y ∈ fourL x, 0 ≤ y ∧ y ≤ 255 := by
  intro y hy
  simp only [fourL, List.mem_cons, List.not_mem_nil, or_false] at hy
  rcases hy with rfl | rfl | rfl | rfl <;> omega
theorem bytesW_range (l : List Int) : ∀ y ∈ bytesW l, 0 ≤ y ∧ y ≤ 255 := by
  intro y hy
  obtain ⟨x, _, hx⟩ := List.mem_flatMap.mp hy
  exact fourL_range x y hx
theorem wordL_bytes {l : List Int} (h : Eight l) : wordL (strOfNums (bytesW l)) 8 = l := by
  obtain ⟨a, b, c, d, e, f, g, i, rfl, h1, h2, h3, h4, h5, h6, h7, h8⟩ := h.cases
  have hb : ∀ (j : Nat) (hj : j < (bytesW [a, b, c, d, e, f, g, i]).length), bt (strOfNums (bytesW [a, b, c, d, e, f, g, i])) (j : Int) = (bytesW [a, b, c, d, e, f, g, i])[j] :=
    fun j hj => bt_strOf _ j hj (bytesW_range _ _ (List.getElem_mem hj))
  have hw : ∀ (t : Nat) (x : Int), W32 x → (∀ q, q < 4 → bt (strOfNums (bytesW [a, b, c, d, e, f, g, i])) ((4 * t + q : Nat) : Int) = (fourL x).getD q 0) → word (strOfNums (bytesW [a, b, c, d, e, f, g, i])) t = x := by
    intro t x hx hq
    unfold word
    have q0 := hq 0 (by decide)
    have q1 := hq 1 (by decide)
    have q2 := hq 2 (by decide)
    have q3 := hq 3 (by decide)
    simp only [Nat.add_zero] at q0
    rw [q0, q1, q2, q3]
    simp only [fourL, List.getD_cons_zero, List.getD_cons_succ]
    have := hx.1
    have := hx.2
    omega
  have h4' : ∀ (t q : Nat) (x : Int), (bytesW [a, b, c, d, e, f, g, i])[4 * t + q]? = some ((fourL x).getD q 0) → bt (strOfNums (bytesW [a, b, c, d, e, f, g, i])) ((4 * t + q : Nat) : Int) = (fourL x).getD q 0 := by
    intro t q x hx
    obtain ⟨hlt, he⟩ := List.getElem?_eq_some_iff.mp hx
    rw [hb _ hlt, he]
  have all4 : ∀ {p : Nat → Prop}, p 0 → p 1 → p 2 → p 3 → ∀ q, q < 4 → p q := by
    intro p p0 p1 p2 p3 q hq
    match q, hq with
    | 0, _ => exact p0
    | 1, _ => exact p1
    | 2, _ => exact p2
    | 3, _ => exact p3
  show [word _ 0, word _ 1, word _ 2, word _ 3, word _ 4, word _ 5, word _ 6, word _ 7] = _
  rw [hw 0 a h1 (all4 (h4' 0 0 a rfl) (h4' 0 1 a rfl) (h4' 0 2 a rfl) (h4' 0 3 a rfl)), hw 1 b h2 (all4 (h4' 1 0 b rfl) (h4' 1 1 b rfl) (h4' 1 2 b rfl) (h4' 1 3 b rfl)), hw 2 c h3 (all4 (h4' 2 0 c rfl) (h4' 2 1 c rfl) (h4' 2 2 c rfl) (h4' 2 3 c rfl)), hw 3 d h4 (all4 (h4' 3 0 d rfl) (h4' 3 1 d rfl) (h4' 3 2 d rfl) (h4' 3 3 d rfl)), hw 4 e h5 (all4 (h4' 4 0 e rfl) (h4' 4 1 e rfl) (h4' 4 2 e rfl) (h4' 4 3 e rfl)), hw 5 f h6 (all4 (h4' 5 0 f rfl) (h4' 5 1 f rfl) (h4' 5 2 f rfl) (h4' 5 3 f rfl)), hw 6 g h7 (all4 (h4' 6 0 g rfl) (h4' 6 1 g rfl) (h4' 6 2 g rfl) (h4' 6 3 g rfl)), hw 7 i h8 (all4 (h4' 7 0 i rfl) (h4' 7 1 i rfl) (h4' 7 2 i rfl) (h4' 7 3 i rfl))]

/-! the blocks -/
theorem first_eight : Eight impl_firstState.v := by
  refine ⟨rfl, ?_⟩
  intro x hx
  simp only [impl_firstState.v, List.mem_cons, List.not_mem_nil, or_false] at hx
  unfold W32
  omega
theorem stAt_eight {st : List Int} (h : Eight st) (s : ByteArray) : ∀ n, Eight (stAt st s n)
  | 0 => h
  | n + 1 => oneBlock_eight (stAt_eight h s n)
theorem ext_in (s e : ByteArray) (a b : Nat) (h : b ≤ s.size) : (s ++ e).extract a b = s.extract a b := by
  rw [ByteArray.extract_append, Nat.sub_eq_zero_of_le h]
  apply bytes_ext
  simp [ByteArray.data_append, ByteArray.data_extract]
theorem stAt_in (st : List Int) (s e : ByteArray) : ∀ n, 64 * n ≤ s.size → stAt st (s ++ e) n = stAt st s n
  | 0, _ => rfl
  | n + 1, h => by
    simp only [stAt]
    rw [stAt_in st s e n (by omega), ext_in s e _ _ (by omega)]
theorem ext_over (s e : ByteArray) (T : List Int) (n j : Nat) (hn : 64 * n ≤ s.size) (hT : s.extract (64 * n) s.size ++ e = strOfNums T) : (s ++ e).extract (64 * (n + j)) (64 * (n + j) + 64) = strOfNums ((T.drop (64 * j)).take 64) := by
  have hP : (s.extract 0 (64 * n)).size = 64 * n := by rw [ByteArray.size_extract]; omega
  have hs : s = s.extract 0 (64 * n) ++ s.extract (64 * n) s.size := by
    rw [ByteArray.extract_append_extract]
    apply bytes_ext
    rw [ByteArray.data_extract]
    simp [Nat.min_eq_left, Nat.max_eq_right hn]
    exact (List.take_of_length_le (by rw [Array.length_toList]; exact Nat.le_refl _)).symm
  have h1 : s ++ e = s.extract 0 (64 * n) ++ strOfNums T := by
    rw [← hT, ← ByteArray.append_assoc, ← hs]
  have h2 := ByteArray.extract_append_size_add (a := s.extract 0 (64 * n)) (b := strOfNums T) (i := 64 * j) (j := 64 * j + 64)
  rw [hP] at h2
  rw [h1, show 64 * (n + j) = 64 * n + 64 * j by omega, show 64 * n + 64 * j + 64 = 64 * n + (64 * j + 64) by omega, h2, strOf_extract]
  congr 2
  omega
theorem blocksAt_ev (s e : ByteArray) (T : List Int) (st : List Int) (hst : Eight st) (n : Nat) (hn : 64 * n ≤ s.size) (hT : s.extract (64 * n) s.size ++ e = strOfNums T) : ∀ j, 64 * j ≤ T.length → Ev (fun k => blocksAt k roundKeys T (stAt st s n) j) (stAt st (s ++ e) (n + j))
  | 0, _ => by
    rw [Nat.add_zero, stAt_in st s e n hn]
    exact Ev.now _
  | j + 1, h => by
    have ih := blocksAt_ev s e T st hst n hn hT j (by omega)
    simp only [blocksAt]
    refine Ev.bind ih ?_
    rw [show n + (j + 1) = n + j + 1 by omega]
    simp only [stAt]
    rw [ext_over s e T n j hn hT]
    exact spec_l05Round_ev _ _ (stAt_eight hst _ _) (by rw [strOfNums_size, List.length_take, List.length_drop]; omega)
end Go.Proofs.YtjcmafoepabpkaaDoor.Pure
namespace Go.Proofs.YtjcmafoepabpkaaDoor.Pure
open Go.RowKit Go.Proofs.YtjcmafoepabpkaaDoorW.PrintWords Go.Proofs.YtjcmafoepabpkaaDoorW.PrintLast Go.Proofs.YtjcmafoepabpkaaDoorW.PrintMore Go.Proofs.YtjcmafoepabpkaaDoor.P Go.Proofs.YtjcmafoepabpkaaDoor.Kit
set_option linter.unusedVariables false
set_option linter.unusedSimpArgs false

theorem sh8_succ (x : Int) (k : Nat) (h0 : 0 ≤ sh8 x k) (h1 : sh8 x k ≤ 4611686018427387904) : sh8 x (k + 1) = sh8 x k / 256 := by
  simp only [sh8]
  rw [Int.tdiv_eq_ediv_of_nonneg h0, w64 (by omega) (by omega)]
theorem endB_eight (x : Int) (h0 : 0 ≤ x) (h1 : x ≤ 4611686018427387904) : endB x 8 = fourL ((x / 4294967296) % 4294967296) ++ fourL (x % 4294967296) := by
  have y0 : sh8 x 0 = x := rfl
  have y1 := sh8_succ x 0 (by rw [y0]; omega) (by rw [y0]; omega)
  rw [y0] at y1
  have y2 := sh8_succ x 1 (by rw [y1]; omega) (by rw [y1]; omega)
  rw [y1] at y2
  have y3 := sh8_succ x 2 (by rw [y2]; omega) (by rw [y2]; omega)
  rw [y2] at y3
  have y4 := sh8_succ x 3 (by rw [y3]; omega) (by rw [y3]; omega)
  rw [y3] at y4
  have y5 := sh8_succ x 4 (by rw [y4]; omega) (by rw [y4]; omega)
  rw [y4] at y5
  have y6 := sh8_succ x 5 (by rw [y5]; omega) (by rw [y5]; omega)
  rw [y5] at y6
  have y7 := sh8_succ x 6 (by rw [y6]; omega) (by rw [y6]; omega)
  rw [y6] at y7
  have e : endB x 8 = [Int.tmod (sh8 x 7) 256 % 256, Int.tmod (sh8 x 6) 256 % 256, Int.tmod (sh8 x 5) 256 % 256, Int.tmod (sh8 x 4) 256 % 256, Int.tmod (sh8 x 3) 256 % 256, Int.tmod (sh8 x 2) 256 % 256, Int.tmod (sh8 x 1) 256 % 256, Int.tmod (sh8 x 0) 256 % 256] := by
    simp [endB]
  rw [e, y7, y6, y5, y4, y3, y2, y1, y0]
  rw [Int.tmod_eq_emod_of_nonneg (by omega), Int.tmod_eq_emod_of_nonneg (by omega), Int.tmod_eq_emod_of_nonneg (by omega), Int.tmod_eq_emod_of_nonneg (by omega), Int.tmod_eq_emod_of_nonneg (by omega), Int.tmod_eq_emod_of_nonneg (by omega), Int.tmod_eq_emod_of_nonneg (by omega), Int.tmod_eq_emod_of_nonneg (by omega)]
  simp only [fourL, List.cons_append, List.nil_append, List.cons.injEq, and_true]
  refine ⟨by omega, by omega, by omega, by omega, by omega, by omega, by omega, by omega⟩
theorem ending_eq (c : Nat) (rest : ByteArray) (hr : rest.size = c % 64) (hc : c ≤ 1000000000) : ∃ e, impl_ending.f (c : Int) = some e ∧ e.size ≤ 200 ∧ rest ++ e = strOfNums (tailE rest (c : Int) 8) := by
  have ez : Int.tmod (wrap64 (119 - (Int.tmod (c : Int) 64))) 64 = ((padN rest : Nat) : Int) := by
    have h1 : Int.tmod (c : Int) 64 = (c : Int) % 64 := Int.tmod_eq_emod_of_nonneg (by omega)
    rw [h1, w64 (by omega) (by omega), Int.tmod_eq_emod_of_nonneg (by omega)]
    unfold padN
    omega
  have hp : padN rest < 64 := Nat.mod_lt _ (by decide)
  have e8 : wrap64 (8 * (c : Int)) = 8 * (c : Int) := w64 (by omega) (by omega)
  have hz : impl_zeros.f ((padN rest : Nat) : Int) = some (strOfNums (List.replicate (padN rest) 0)) := by
    unfold impl_zeros.f
    rw [if_pos (by omega), Int.toNat_natCast, if_pos (by omega)]
  have h8 : impl_eightBytes.f (8 * (c : Int)) = some (strOfNums (fourL ((8 * (c : Int) / 4294967296) % 4294967296) ++ fourL (8 * (c : Int) % 4294967296))) := by
    have key : ∀ hi lo : Int, (if (strOfNums (fourL hi)).size + (strOfNums (fourL lo)).size ≤ 9223372036854775807 then some (strOfNums (fourL hi) ++ strOfNums (fourL lo)) else none) = some (strOfNums (fourL hi ++ fourL lo)) := by
      intro hi lo
      rw [strOf_app]
      exact if_pos (by rw [strOfNums_size, strOfNums_size]; show 4 + 4 ≤ _; decide)
    exact key _ _
  refine ⟨(strOfNums [128] ++ strOfNums (List.replicate (padN rest) 0)) ++ strOfNums (fourL ((8 * (c : Int) / 4294967296) % 4294967296) ++ fourL (8 * (c : Int) % 4294967296)), ?_, ?_, ?_⟩
  · unfold impl_ending.f
    rw [ez, hz, e8, h8]
    simp only [Option.bind_some]
    rw [if_pos (by rw [strOfNums_size]; simp; omega), if_pos (by rw [ByteArray.size_append, strOfNums_size, strOfNums_size]; simp [fourL]; exact (show 1 + padN rest ≤ 9223372036854775799 by omega))]
    rfl
  · rw [ByteArray.size_append, ByteArray.size_append, strOfNums_size, strOfNums_size, strOfNums_size]
    simp [fourL]
    omega
  · unfold tailE tailZ
    rw [e8, endB_eight _ (by omega) (by omega), strOf_app, strOf_app]
    have := strOf_app (bl rest) ([128] ++ List.replicate (padN rest) 0 ++ (fourL ((8 * (c : Int) / 4294967296) % 4294967296) ++ fourL (8 * (c : Int) % 4294967296)))
    rw [strOfNums_bl] at this
    rw [this]
    simp only [List.append_assoc]
theorem hasherOk_eq (a b : ByteArray) (c : Nat) (ha : a.size = 32) (hb : b.size = c % 64) (hc : c ≤ 1000000000) : spec_HasherOk.f a b (c : Int) = some true := by
  unfold spec_HasherOk.f
  rw [if_pos (by omega), if_pos (by omega)]
  have : spec_l01In.f (c : Int) 0 1000000000 = some true := by
    unfold spec_l01In.f
    rw [if_pos (by omega), decide_eq_true (by omega)]
  rw [this]
  simp only [Option.bind_some]
  rw [if_pos trivial, Int.tmod_eq_emod_of_nonneg (by omega)]
  congr 1
  rw [beq_iff_eq]
  omega
def S0 : ByteArray := strOfNums (bytesW impl_firstState.v)
theorem bytes32 {l : List Int} (h : Eight l) : (strOfNums (bytesW l)).size = 32 := by
  rw [strOfNums_size, bytesW_len, h.1]
theorem spec_HasherNew_ev : Ev (fun k => spec_HasherNew.f k) (S0, (⟨#[]⟩ : ByteArray), 0) := by
  unfold spec_HasherNew.f
  refine Ev.then (a := impl_firstState.v) rfl ?_
  refine Ev.bind (spec_l05Bytes_ev _ (by decide) first_eight.2) ?_
  exact Ev.now _
theorem words_ev {l : List Int} (h : Eight l) : Ev (fun k => spec_l05Words.f k (strOfNums (bytesW l))) l := by
  have := spec_l05Words_ev (strOfNums (bytesW l)) 8 (bytes32 h) (by decide)
  rwa [wordL_bytes h] at this
theorem K_eq : spec_l05K.f = some roundKeys := rfl
theorem spec_HashMore_ev (s : ByteArray) (hs : s.size ≤ 1000000000) : Ev (fun k => spec_HashMore.f k S0 (⟨#[]⟩ : ByteArray) 0 s) (strOfNums (bytesW (stAt impl_firstState.v s (s.size / 64))), s.extract (64 * (s.size / 64)) s.size, (s.size : Int)) := by
  unfold spec_HashMore.f
  refine Ev.then (hasherOk_eq S0 _ 0 (bytes32 first_eight) rfl (by decide)) ?_
  refine Ev.pos rfl ?_
  have e0 : wrap64 (0 + (s.size : Int)) = (s.size : Int) := by rw [w64 (by omega) (by omega)]; omega
  have hd : decide (wrap64 (0 + (s.size : Int)) > 1000000000) = false := by rw [e0]; exact decide_eq_false (by omega)
  rw [hd]
  refine Ev.step (f := fun k => (spec_l05Words.f k S0).bind fun t => (spec_l05K.f).bind fun t2 => (spec_HashMore.l0 k s t t2 s 0 S0 (⟨#[]⟩ : ByteArray) 0)) (fun k => ?_) ?_
  · simp only [spec_HashMore.j0]
    have hz : (⟨#[]⟩ : ByteArray).size + s.size ≤ 9223372036854775807 := (show 0 + s.size ≤ 9223372036854775807 by omega)
    rw [if_neg (by decide), empty_app]
    simp only [if_pos hz]
  refine Ev.bind (words_ev first_eight) ?_
  refine Ev.then K_eq ?_
  refine Ev.up (g := fun n k => spec_HashMore.l0 k s (stAt impl_firstState.v s n) roundKeys s ((64 * n : Nat) : Int) S0 (⟨#[]⟩ : ByteArray) 0) (s.size / 64) ?_ ?_ 0 (Nat.zero_le _)
  · intro n hn hh
    have e1 : wrap64 (((64 * n : Nat) : Int) + 64) = ((64 * (n + 1) : Nat) : Int) := by rw [w64 (by omega) (by omega)]; omega
    refine Ev.step (f := fun k => (spec_l05Round.f k (stAt impl_firstState.v s n) roundKeys (s.extract (64 * n) (64 * n + 64))).bind fun t => spec_HashMore.l0 k s t roundKeys s ((64 * (n + 1) : Nat) : Int) S0 (⟨#[]⟩ : ByteArray) 0) (fun k => ?_) ?_
    · simp only [spec_HashMore.l0]
      rw [e1, if_pos (by omega), if_pos (by omega), if_pos (by omega), Int.toNat_natCast, Int.toNat_natCast, show 64 * (n + 1) = 64 * n + 64 by omega]
    exact Ev.bind (spec_l05Round_ev _ _ (stAt_eight first_eight s n) (by rw [ByteArray.size_extract]; omega)) hh
  · have e1 : wrap64 (((64 * (s.size / 64) : Nat) : Int) + 64) = ((64 * (s.size / 64 + 1) : Nat) : Int) := by rw [w64 (by omega) (by omega)]; omega
    refine Ev.step (f := fun k => (spec_l05Bytes.f k (stAt impl_firstState.v s (s.size / 64))).bind fun t => some (t, s.extract (64 * (s.size / 64)) s.size, (s.size : Int))) (fun k => ?_) ?_
    · simp only [spec_HashMore.l0]
      have ha : (0 : Int) ≤ ((64 * (s.size / 64) : Nat) : Int) := by omega
      have hb : ((64 * (s.size / 64) : Nat) : Int) ≤ (s.size : Int) := by omega
      rw [e1, if_neg (by omega)]
      simp only [if_pos ha, if_pos hb, Int.toNat_natCast, e0]
    exact Ev.bind (spec_l05Bytes_ev _ (by rw [(stAt_eight first_eight s _).1]; decide) (stAt_eight first_eight s _).2) (Ev.now _)
/-- Both digests of a text. -/
theorem digest_same (s : ByteArray) (hs : s.size ≤ 1000000000) : ∃ d, d.size = 32 ∧ Ev (fun k => spec_DigestOf.f k s) d ∧ impl_DigestOf.f s = some d := by
  have hrs : (s.extract (64 * (s.size / 64)) s.size).size = s.size % 64 := by rw [ByteArray.size_extract]; omega
  obtain ⟨e, he, hes, hT⟩ := ending_eq s.size (s.extract (64 * (s.size / 64)) s.size) hrs hs
  have hTl := tailE_len (s.extract (64 * (s.size / 64)) s.size) (s.size : Int) 8
  have hpad : (s.size % 64 + 1 + padN (s.extract (64 * (s.size / 64)) s.size) + 8) % 64 = 0 := by unfold padN; rw [hrs]; omega
  have hes2 : e.size + s.size % 64 = s.size % 64 + 1 + padN (s.extract (64 * (s.size / 64)) s.size) + 8 := by
    have := congrArg ByteArray.size hT
    rw [ByteArray.size_append, strOfNums_size, hTl, hrs] at this
    omega
  rw [hrs] at hTl
  have hn : (s ++ e).size / 64 = s.size / 64 + (tailE (s.extract (64 * (s.size / 64)) s.size) (s.size : Int) 8).length / 64 := by
    rw [ByteArray.size_append, hTl]
    omega
  refine ⟨strOfNums (bytesW (stAt impl_firstState.v (s ++ e) ((s ++ e).size / 64))), bytes32 (stAt_eight first_eight _ _), ?_, ?_⟩
  · unfold spec_DigestOf.f
    refine Ev.bind spec_HasherNew_ev ?_
    refine Ev.bind (spec_HashMore_ev s hs) ?_
    refine Ev.bind (a := strOfNums (bytesW (stAt impl_firstState.v (s ++ e) ((s ++ e).size / 64)))) ?_ (Ev.now _)
    show Ev (fun k => spec_HashEnd.f k (strOfNums (bytesW (stAt impl_firstState.v s (s.size / 64)))) (s.extract (64 * (s.size / 64)) s.size) (s.size : Int)) _
    unfold spec_HashEnd.f
    refine Ev.then (hasherOk_eq _ _ _ (bytes32 (stAt_eight first_eight s _)) hrs hs) ?_
    refine Ev.pos rfl ?_
    refine Ev.bind (words_ev (stAt_eight first_eight s _)) ?_
    refine Ev.then K_eq ?_
    refine Ev.bind (blocksAt_ev s e _ _ first_eight (s.size / 64) (by omega) hT _ (by omega)) ?_
    rw [← hn]
    exact spec_l05Bytes_ev _ (by rw [(stAt_eight first_eight _ _).1]; decide) (stAt_eight first_eight _ _).2
  · unfold impl_DigestOf.f
    rw [he]
    simp only [Option.bind_some]
    rw [if_pos (by omega), stateText_eq _ (stAt_eight first_eight _ _).1]
end Go.Proofs.YtjcmafoepabpkaaDoor.Pure
namespace Go.Proofs.YtjcmafoepabpkaaDoor.Pure
open Go.RowKit Go.Proofs.YtjcmafoepabpkaaDoorW.PrintWords Go.Proofs.YtjcmafoepabpkaaDoorW.PrintLast Go.Proofs.YtjcmafoepabpkaaDoorW.PrintMore Go.Proofs.YtjcmafoepabpkaaDoor.P Go.Proofs.YtjcmafoepabpkaaDoor.Kit
set_option linter.unusedVariables false
set_option linter.unusedSimpArgs false

/-- One byte. -/
def byteD (n : Int) : ByteArray := strOfNums [n % 256]
theorem byteD_size (n : Int) : (byteD n).size = 1 := by simp [byteD, strOfNums_size]
theorem oneByte_eq (n : Int) : impl_oneByte.f n = some (byteD n) := rfl
theorem tmod_bounds (n : Int) : -256 < Int.tmod n 256 ∧ Int.tmod n 256 < 256 ∧ (Int.tmod n 256) % 256 = n % 256 := by
  have h := Int.mul_tdiv_add_tmod n 256
  have h1 := Int.tmod_lt_of_pos n (show (0 : Int) < 256 by decide)
  have h2 := Int.lt_tmod_of_pos n (show (0 : Int) < 256 by decide)
  refine ⟨h2, h1, ?_⟩
  omega
theorem l06Byte_eq (n : Int) : spec_l06Byte.f n = some (byteD n) := by
  obtain ⟨h1, h2, h3⟩ := tmod_bounds n
  unfold spec_l06Byte.f byteD
  split
  · rw [w64 (by omega) (by omega), show (Int.tmod n 256 + 256) % 256 = n % 256 by omega]
  · rw [h3]
theorem chop_same (s : ByteArray) (hs : s.size ≤ 1000000000) : ∃ d, d.size = 4 ∧ Ev (fun k => spec_Chop.f k s) d ∧ impl_Chop.f s = some d := by
  obtain ⟨d, h1, h2, h3⟩ := digest_same s hs
  refine ⟨d.extract 0 4, by rw [ByteArray.size_extract]; omega, ?_, ?_⟩
  · unfold spec_Chop.f
    exact Ev.bind h2 (Ev.pos (by decide) (Ev.pos (by omega) (Ev.now _)))
  · unfold impl_Chop.f
    rw [h3]
    simp only [Option.bind_some]
    rw [if_pos (by decide), if_pos (by omega)]
theorem node_same (a b : Int) (s t : ByteArray) (hs : s.size ≤ 400000000) (ht : t.size ≤ 400000000) : ∃ d, d.size = 4 ∧ Ev (fun k => spec_Node.f k a b s t) d ∧ impl_Node.f a b s t = some d := by
  have ha := byteD_size a
  have hb := byteD_size b
  have hz : (byteD a ++ byteD b).size = 2 := by rw [ByteArray.size_append]; omega
  have hz2 : ((byteD a ++ byteD b) ++ s).size = 2 + s.size := by rw [ByteArray.size_append]; omega
  have hz3 : (((byteD a ++ byteD b) ++ s) ++ t).size = 2 + s.size + t.size := by rw [ByteArray.size_append]; omega
  obtain ⟨d, h1, h2, h3⟩ := chop_same ((((byteD a ++ byteD b) ++ s) ++ t) ++ (⟨#[110]⟩ : ByteArray)) (by rw [ByteArray.size_append]; show _ + 1 ≤ _; omega)
  refine ⟨d, h1, ?_, ?_⟩
  · unfold spec_Node.f
    refine Ev.then (l06Byte_eq a) (Ev.then (l06Byte_eq b) ?_)
    exact Ev.pos (by omega) (Ev.pos (by omega) (Ev.pos (by omega) (Ev.pos (by omega) (Ev.bind h2 (Ev.now _)))))
  · unfold impl_Node.f
    rw [oneByte_eq, oneByte_eq]
    simp only [Option.bind_some]
    rw [if_pos (by omega), if_pos (by omega), if_pos (by omega), if_pos (by omega), h3]
    rfl
end Go.Proofs.YtjcmafoepabpkaaDoor.Pure
namespace Go.Proofs.YtjcmafoepabpkaaDoor.Pure
open Go.RowKit Go.Proofs.YtjcmafoepabpkaaDoorW.PrintWords Go.Proofs.YtjcmafoepabpkaaDoorW.PrintLast Go.Proofs.YtjcmafoepabpkaaDoorW.PrintMore Go.Proofs.YtjcmafoepabpkaaDoor.P Go.Proofs.YtjcmafoepabpkaaDoor.Kit
set_option linter.unusedVariables false
set_option linter.unusedSimpArgs false

theorem three_size (a b c : Int) : ((byteD a ++ byteD b) ++ byteD c).size = 3 := by
  rw [ByteArray.size_append, ByteArray.size_append, byteD_size, byteD_size, byteD_size]
theorem two_size (a b : Int) : (byteD a ++ byteD b).size = 2 := by
  rw [ByteArray.size_append, byteD_size, byteD_size]
theorem byteD_mod (x y : Int) (h : x % 256 = y % 256) : byteD x = byteD y := by unfold byteD; rw [h]
theorem wrap64_mod (x : Int) : wrap64 x % 256 = x % 256 := by unfold wrap64; omega
/-- The place of a step, as both spell it. -/
theorem at_same (a : Int) (i : Nat) (hi : i ≤ 1000) : byteD (wrap64 (a + (i : Int))) = byteD (wrap64 ((Int.tmod a 256) + (i : Int))) := by
  have h := tmod_bounds a
  exact byteD_mod _ _ (by rw [wrap64_mod, wrap64_mod]; omega)
/-- A chain from step i on, where n steps are left. -/
theorem chain_from (leaf chain a steps : Int) : ∀ (n i : Nat) (x : ByteArray), x.size ≤ 999999990 → ((i : Int) + (n : Int) = mn steps 15 ∨ n = 0 ∧ mn steps 15 ≤ (i : Int)) → i + n ≤ 15 →
    ∃ d, (d = x ∨ d.size = 4) ∧ Ev (fun k => spec_ChainOf.l0 k x leaf chain a steps (i : Int)) d ∧ Ev (fun k => impl_ChainOf.l0 k x leaf chain a (mn steps 15) (i : Int)) d
  | 0, i, x, hx, hn, h15 => by
    have hle : mn steps 15 ≤ (i : Int) := by omega
    refine ⟨x, Or.inl rfl, ?_, ?_⟩
    · by_cases h1 : (i : Int) < steps
      · refine Ev.step (f := fun k => spec_ChainOf.j1 k x leaf chain a steps (i : Int) (decide ((i : Int) < 15))) (fun k => by simp only [spec_ChainOf.l0]; rw [if_pos h1]) ?_
        have h2 : ¬ (i : Int) < 15 := by unfold mn at hle; split at hle <;> omega
        rw [decide_eq_false h2]
        refine Ev.step (f := fun _ => some x) (fun k => by simp only [spec_ChainOf.j1]; rw [if_neg (by decide)]) (Ev.now _)
      · refine Ev.step (f := fun k => spec_ChainOf.j1 k x leaf chain a steps (i : Int) false) (fun k => by simp only [spec_ChainOf.l0]; rw [if_neg h1]) ?_
        refine Ev.step (f := fun _ => some x) (fun k => by simp only [spec_ChainOf.j1]; rw [if_neg (by decide)]) (Ev.now _)
    · refine Ev.step (f := fun _ => some x) (fun k => by simp only [impl_ChainOf.l0]; rw [if_neg (by omega)]) (Ev.now _)
  | n + 1, i, x, hx, hn, h15 => by
    have hm : (i : Int) < mn steps 15 := by omega
    have h1 : (i : Int) < steps := by unfold mn at hm; split at hm <;> omega
    have h2 : (i : Int) < 15 := by omega
    have s2 := two_size leaf chain
    obtain ⟨d, d4, e1, e2⟩ := chop_same (((byteD leaf ++ byteD chain) ++ byteD (wrap64 ((Int.tmod a 256) + (i : Int)))) ++ x) (by rw [ByteArray.size_append, three_size]; omega)
    obtain ⟨r, hr, f1, f2⟩ := chain_from leaf chain a steps n (i + 1) d (by omega) (by left; push_cast; omega) (by omega)
    have s3 := three_size leaf chain (wrap64 ((Int.tmod a 256) + (i : Int)))
    have b1 := byteD_size leaf
    have b2 := byteD_size chain
    have b3 := byteD_size (wrap64 ((Int.tmod a 256) + (i : Int)))
    refine ⟨r, ?_, ?_, ?_⟩
    · right
      rcases hr with rfl | hr
      · exact d4
      · exact hr
    · refine Ev.step (f := fun k => spec_ChainOf.j1 k x leaf chain a steps (i : Int) (decide ((i : Int) < 15))) (fun k => by simp only [spec_ChainOf.l0]; rw [if_pos h1]) ?_
      rw [decide_eq_true h2]
      refine Ev.step (f := fun k => (spec_Chop.f k (((byteD leaf ++ byteD chain) ++ byteD (wrap64 ((Int.tmod a 256) + (i : Int)))) ++ x)).bind fun t => spec_ChainOf.l0 k t leaf chain a steps (wrap64 ((i : Int) + 1))) (fun k => ?_) ?_
      · simp only [spec_ChainOf.j1]
        rw [if_pos trivial, l06Byte_eq, l06Byte_eq]
        simp only [Option.bind_some]
        rw [if_pos (by omega), l06Byte_eq]
        simp only [Option.bind_some]
        rw [if_pos (by omega), if_pos (by omega)]
      · refine Ev.bind e1 ?_
        rw [w64s i (by omega)]
        exact f1
    · refine Ev.step (f := fun k => impl_ChainOf.l0 k d leaf chain a (mn steps 15) (wrap64 ((i : Int) + 1))) (fun k => ?_) ?_
      · simp only [impl_ChainOf.l0]
        rw [if_pos hm, oneByte_eq, oneByte_eq]
        simp only [Option.bind_some]
        rw [if_pos (by omega), oneByte_eq, at_same a i (by omega)]
        simp only [Option.bind_some]
        rw [if_pos (by omega), if_pos (by omega), e2]
        rfl
      · rw [w64s i (by omega)]
        exact f2
theorem chain_same (x : ByteArray) (leaf chain a steps : Int) (hx : x.size ≤ 999999990) : ∃ d, (d = x ∨ d.size = 4) ∧ Ev (fun k => spec_ChainOf.f k x leaf chain a steps) d ∧ Ev (fun k => impl_ChainOf.f k x leaf chain a steps) d := by
  by_cases h : 0 ≤ mn steps 15
  · have h15 : mn steps 15 ≤ 15 := by unfold mn; split <;> omega
    exact chain_from leaf chain a steps (mn steps 15).toNat 0 x hx (by left; omega) (by omega)
  · exact chain_from leaf chain a steps 0 0 x hx (by right; omega) (by omega)
/-- The keys' texts: one of each. -/
theorem oneKey_same (seed : ByteArray) (leaf c : Int) (hs : seed.size ≤ 999999990) : ∃ d, d.size = 4 ∧ Ev (fun k => spec_Chop.f k (((seed ++ byteD leaf) ++ byteD c) ++ (⟨#[111]⟩ : ByteArray))) d ∧ impl_Chop.f (((seed ++ byteD leaf) ++ byteD c) ++ (⟨#[111]⟩ : ByteArray)) = some d := by
  refine chop_same _ ?_
  rw [ByteArray.size_append, ByteArray.size_append, ByteArray.size_append, byteD_size, byteD_size]
  show _ + 1 ≤ _
  omega
theorem keys_from (seed : ByteArray) (leaf : Int) (hs : seed.size ≤ 999999990) : ∀ (n i : Nat) (l : List ByteArray), l.length = i → i + n = 10 → (∀ s ∈ l, s.size = 4) →
    ∃ r, r.length = 10 ∧ (∀ s ∈ r, s.size = 4) ∧ Ev (fun k => spec_OnceKey.l0 k seed leaf l (i : Int)) r ∧ Ev (fun k => impl_OnceKey.l0 k seed leaf l (i : Int)) r
  | 0, i, l, hl, hn, h4 => by
    refine ⟨l, by omega, h4, ?_, ?_⟩
    · exact Ev.step (f := fun _ => some l) (fun k => by simp only [spec_OnceKey.l0]; rw [if_neg (by omega)]) (Ev.now _)
    · exact Ev.step (f := fun _ => some l) (fun k => by simp only [impl_OnceKey.l0]; rw [if_neg (by omega)]) (Ev.now _)
  | n + 1, i, l, hl, hn, h4 => by
    obtain ⟨d, d4, e1, e2⟩ := oneKey_same seed leaf (i : Int) hs
    obtain ⟨r, r1, r2, f1, f2⟩ := keys_from seed leaf hs n (i + 1) (l ++ [d]) (by simp; omega) (by omega) (by
      intro s hs'
      rcases List.mem_append.mp hs' with h | h
      · exact h4 s h
      · simp at h; subst h; exact d4)
    have b1 := byteD_size leaf
    have b2 := byteD_size (i : Int)
    have s1 : (seed ++ byteD leaf).size = seed.size + 1 := by rw [ByteArray.size_append]; omega
    have s2 : ((seed ++ byteD leaf) ++ byteD (i : Int)).size = seed.size + 2 := by rw [ByteArray.size_append]; omega
    refine ⟨r, r1, r2, ?_, ?_⟩
    · refine Ev.step (f := fun k => (spec_Chop.f k (((seed ++ byteD leaf) ++ byteD (i : Int)) ++ (⟨#[111]⟩ : ByteArray))).bind fun t => if l.length < 8796093022208 then spec_OnceKey.l0 k seed leaf (l ++ [t]) (wrap64 ((i : Int) + 1)) else none) (fun k => ?_) ?_
      · simp only [spec_OnceKey.l0]
        rw [if_pos (by omega), l06Byte_eq]
        simp only [Option.bind_some]
        rw [if_pos (by omega), l06Byte_eq]
        simp only [Option.bind_some]
        rw [if_pos (by omega), if_pos (by omega)]
      · refine Ev.bind e1 (Ev.pos (by omega) ?_)
        rw [w64s i (by omega)]
        exact f1
    · refine Ev.step (f := fun k => impl_OnceKey.l0 k seed leaf (l ++ [d]) (wrap64 ((i : Int) + 1))) (fun k => ?_) ?_
      · simp only [impl_OnceKey.l0]
        rw [if_pos (by omega), oneByte_eq]
        simp only [Option.bind_some]
        rw [if_pos (by omega), oneByte_eq]
        simp only [Option.bind_some]
        rw [if_pos (by omega), if_pos (by omega), e2]
        simp only [Option.bind_some]
        rw [if_pos (by omega)]
      · rw [w64s i (by omega)]
        exact f2
theorem onceKey_same (seed : ByteArray) (leaf : Int) (hs : seed.size ≤ 999999990) : ∃ r, r.length = 10 ∧ (∀ s ∈ r, s.size = 4) ∧ Ev (fun k => spec_OnceKey.f k seed leaf) r ∧ Ev (fun k => impl_OnceKey.f k seed leaf) r :=
  keys_from seed leaf hs 10 0 [] rfl rfl (by simp)
end Go.Proofs.YtjcmafoepabpkaaDoor.Pure
namespace Go.Proofs.YtjcmafoepabpkaaDoor.Pure
open Go.RowKit Go.Proofs.YtjcmafoepabpkaaDoorW.PrintWords Go.Proofs.YtjcmafoepabpkaaDoorW.PrintLast Go.Proofs.YtjcmafoepabpkaaDoorW.PrintMore Go.Proofs.YtjcmafoepabpkaaDoor.P Go.Proofs.YtjcmafoepabpkaaDoor.Kit
set_option linter.unusedVariables false
set_option linter.unusedSimpArgs false

theorem spec_in (a b c : Int) : spec_l01In.f a b c = some (decide (b ≤ a ∧ a ≤ c)) := some_in a b c
theorem impl_in_eq (a b c : Int) : impl_in.f a b c = some (decide (b ≤ a ∧ a ≤ c)) := by
  unfold impl_in.f
  by_cases h : b ≤ a
  · rw [if_pos (by omega)]
    by_cases h2 : a ≤ c
    · rw [decide_eq_true h2, decide_eq_true ⟨h, h2⟩]
    · rw [decide_eq_false h2, decide_eq_false (fun q => h2 q.2)]
  · rw [if_neg (by omega), decide_eq_false (fun q => h q.1)]
theorem level_from (lv : Int) (l : List ByteArray) (hl : l.length ≤ 1048576) (hs : ∀ s ∈ l, s.size ≤ 1048576) : ∀ (n i : Nat) (acc : List ByteArray), acc.length = i → i + n = l.length / 2 → (∀ s ∈ acc, s.size = 4) →
    ∃ r, r.length = l.length / 2 ∧ (∀ s ∈ r, s.size = 4) ∧ Ev (fun k => spec_LevelUp.l0 k lv l acc (i : Int)) r ∧ Ev (fun k => impl_LevelUp.l0 k lv l acc ((2 * i : Nat) : Int)) r
  | 0, i, acc, ha, hn, h4 => by
    have e1 : wrap64 (2 * (i : Int)) = ((2 * i : Nat) : Int) := by rw [w64 (by omega) (by omega)]; omega
    have e2 : wrap64 (((2 * i : Nat) : Int) + 1) = ((2 * i + 1 : Nat) : Int) := by rw [w64 (by omega) (by omega)]; rfl
    refine ⟨acc, by omega, h4, ?_, ?_⟩
    · exact Ev.step (f := fun _ => some acc) (fun k => by simp only [spec_LevelUp.l0]; rw [e1, e2, if_neg (by omega)]) (Ev.now _)
    · exact Ev.step (f := fun _ => some acc) (fun k => by simp only [impl_LevelUp.l0]; rw [e2, if_neg (by omega)]) (Ev.now _)
  | n + 1, i, acc, ha, hn, h4 => by
    have e1 : wrap64 (2 * (i : Int)) = ((2 * i : Nat) : Int) := by rw [w64 (by omega) (by omega)]; omega
    have e2 : wrap64 (((2 * i : Nat) : Int) + 1) = ((2 * i + 1 : Nat) : Int) := by rw [w64 (by omega) (by omega)]; rfl
    have e3 : wrap64 (((2 * i : Nat) : Int) + 2) = ((2 * (i + 1) : Nat) : Int) := by rw [w64 (by omega) (by omega)]; omega
    have e4 : wrap64 (Int.tdiv ((2 * i : Nat) : Int) 2) = (i : Int) := by rw [Int.tdiv_eq_ediv_of_nonneg (by omega), w64 (by omega) (by omega)]; omega
    have h0 : 2 * i < l.length := by omega
    have h1 : 2 * i + 1 < l.length := by omega
    obtain ⟨d, d4, f1, f2⟩ := node_same lv (i : Int) (rdOf ByteArray.empty l ((2 * i : Nat) : Int)) (rdOf ByteArray.empty l ((2 * i + 1 : Nat) : Int)) (by rw [rdOf_get _ _ _ h0]; have := hs _ (List.getElem_mem h0); omega) (by rw [rdOf_get _ _ _ h1]; have := hs _ (List.getElem_mem h1); omega)
    obtain ⟨r, r1, r2, g1, g2⟩ := level_from lv l hl hs n (i + 1) (acc ++ [d]) (by simp; omega) (by omega) (by
      intro s hs'
      rcases List.mem_append.mp hs' with h | h
      · exact h4 s h
      · simp at h; subst h; exact d4)
    refine ⟨r, r1, r2, ?_, ?_⟩
    · refine Ev.step (f := fun k => (spec_Node.f k lv (i : Int) (rdOf ByteArray.empty l ((2 * i : Nat) : Int)) (rdOf ByteArray.empty l ((2 * i + 1 : Nat) : Int))).bind fun t => if acc.length < 8796093022208 then spec_LevelUp.l0 k lv l (acc ++ [t]) (wrap64 ((i : Int) + 1)) else none) (fun k => ?_) ?_
      · simp only [spec_LevelUp.l0]
        rw [e1, e2, if_pos (by omega), if_pos (by omega), if_pos (by omega), if_pos (by omega)]
      · refine Ev.bind f1 (Ev.pos (by omega) ?_)
        rw [w64s i (by omega)]
        exact g1
    · refine Ev.step (f := fun k => impl_LevelUp.l0 k lv l (acc ++ [d]) ((2 * (i + 1) : Nat) : Int)) (fun k => ?_) g2
      simp only [impl_LevelUp.l0]
      rw [e2, e3, e4, if_pos (by omega), if_pos (by omega), if_pos (by omega), if_pos (by omega), f2]
      simp only [Option.bind_some]
      rw [if_pos (by omega)]
theorem level_same (lv : Int) (l : List ByteArray) (hl : l.length ≤ 1048576) (hs : ∀ s ∈ l, s.size ≤ 1048576) : ∃ r, r.length = l.length / 2 ∧ (∀ s ∈ r, s.size = 4) ∧ Ev (fun k => spec_LevelUp.f k lv l) r ∧ Ev (fun k => impl_LevelUp.f k lv l) r :=
  level_from lv l hl hs (l.length / 2) 0 [] rfl (by omega) (by simp)
theorem rootOf_same (l : List ByteArray) (hs : ∀ s ∈ l, s.size ≤ 1048576) : ∃ d, d.size ≤ 4 ∧ (l.length = 4 → d.size = 4) ∧ Ev (fun k => spec_RootOf.f k l) d ∧ Ev (fun k => impl_RootOf.f k l) d := by
  by_cases h : l.length = 4
  · obtain ⟨r, r1, r2, f1, f2⟩ := level_same 1 l (by omega) hs
    obtain ⟨t, t1, t2, g1, g2⟩ := level_same 2 r (by omega) (fun s hs' => by rw [r2 s hs']; decide)
    have ht : t.length = 1 := by omega
    have h0 : 0 < t.length := by omega
    have e1 : wrap64 (1 + 1) = 2 := w64 (by decide) (by decide)
    have e2 : wrap64 (2 + 1) = 3 := w64 (by decide) (by decide)
    have ed : rdOf ByteArray.empty t 0 = t[0] := rdOf_get _ t 0 h0
    have d4 : (rdOf ByteArray.empty t 0).size = 4 := by rw [ed]; exact t2 _ (List.getElem_mem h0)
    refine ⟨rdOf ByteArray.empty t 0, by omega, fun _ => d4, ?_, ?_⟩
    · unfold spec_RootOf.f
      refine Ev.pos (by omega) ?_
      refine Ev.step (f := fun k => (spec_LevelUp.f k 1 l).bind fun t377 => spec_RootOf.l0 k t377 2) (fun k => by simp only [spec_RootOf.l0]; rw [if_pos (by decide), e1]) (Ev.bind f1 ?_)
      refine Ev.step (f := fun k => (spec_LevelUp.f k 2 r).bind fun t377 => spec_RootOf.l0 k t377 3) (fun k => by simp only [spec_RootOf.l0]; rw [if_pos (by decide), e2]) (Ev.bind g1 ?_)
      exact Ev.step (f := fun _ => some (rdOf ByteArray.empty t 0)) (fun k => by simp only [spec_RootOf.l0]; rw [if_neg (by decide), if_pos (by omega)]) (Ev.now _)
    · unfold impl_RootOf.f
      refine Ev.pos (by omega) ?_
      refine Ev.step (f := fun k => (impl_LevelUp.f k 1 l).bind fun t377 => impl_RootOf.l0 k t377 2) (fun k => by simp only [impl_RootOf.l0]; rw [if_pos (by omega), e1]) (Ev.bind f2 ?_)
      refine Ev.step (f := fun k => (impl_LevelUp.f k 2 r).bind fun t377 => impl_RootOf.l0 k t377 3) (fun k => by simp only [impl_RootOf.l0]; rw [if_pos (by omega), e2]) (Ev.bind g2 ?_)
      exact Ev.step (f := fun _ => some (rdOf ByteArray.empty t 0)) (fun k => by simp only [impl_RootOf.l0]; rw [if_neg (by omega), if_pos (by omega)]) (Ev.now _)
  · refine ⟨⟨#[]⟩, by decide, fun q => absurd q h, ?_, ?_⟩
    · unfold spec_RootOf.f
      exact Ev.neg (by omega) (Ev.now _)
    · unfold impl_RootOf.f
      exact Ev.neg (by omega) (Ev.now _)
end Go.Proofs.YtjcmafoepabpkaaDoor.Pure
namespace Go.Proofs.YtjcmafoepabpkaaDoor.Pure
open Go.RowKit Go.Proofs.YtjcmafoepabpkaaDoorW.PrintWords Go.Proofs.YtjcmafoepabpkaaDoorW.PrintLast Go.Proofs.YtjcmafoepabpkaaDoorW.PrintMore Go.Proofs.YtjcmafoepabpkaaDoor.P Go.Proofs.YtjcmafoepabpkaaDoor.Kit
set_option linter.unusedVariables false
set_option linter.unusedSimpArgs false

theorem public_from (leaf : Int) (l : List ByteArray) (hl : l.length = 10) (hs : ∀ s ∈ l, s.size ≤ 1048576) : ∀ (n i : Nat) (acc : ByteArray), i + n = 10 → acc.size ≤ i * 1048576 →
    ∃ d, d.size = 4 ∧ Ev (fun k => spec_OncePublic.l0 k l leaf acc (i : Int)) d ∧ Ev (fun k => impl_chopped_OncePublic_1_OncePublic_2.l0 k leaf acc l ((10 : Nat) : Int) (i : Int)) d
  | 0, i, acc, hn, ha => by
    obtain ⟨d, d4, f1, f2⟩ := chop_same acc (by omega)
    refine ⟨d, d4, ?_, ?_⟩
    · refine Ev.step (f := fun k => (spec_Chop.f k acc).bind fun t => some t) (fun k => by simp only [spec_OncePublic.l0]; rw [if_neg (by omega)]) (Ev.bind f1 (Ev.now _))
    · refine Ev.step (f := fun _ => some d) (fun k => by simp only [impl_chopped_OncePublic_1_OncePublic_2.l0]; rw [if_neg (by omega), f2]; rfl) (Ev.now _)
  | n + 1, i, acc, hn, ha => by
    have hi : i < l.length := by omega
    have hz : (rdOf ByteArray.empty l (i : Int)).size ≤ 1048576 := by rw [rdOf_get _ _ _ hi]; exact hs _ (List.getElem_mem hi)
    obtain ⟨c, hc, e1, e2⟩ := chain_same (rdOf ByteArray.empty l (i : Int)) leaf (i : Int) 0 15 (by omega)
    have hc4 : c.size ≤ 1048576 := by rcases hc with rfl | hc <;> omega
    obtain ⟨d, d4, g1, g2⟩ := public_from leaf l hl hs n (i + 1) (acc ++ c) (by omega) (by rw [ByteArray.size_append]; omega)
    refine ⟨d, d4, ?_, ?_⟩
    · refine Ev.step (f := fun k => (spec_ChainOf.f k (rdOf ByteArray.empty l (i : Int)) leaf (i : Int) 0 15).bind fun t => if acc.size + t.size ≤ 9223372036854775807 then spec_OncePublic.l0 k l leaf (acc ++ t) (wrap64 ((i : Int) + 1)) else none) (fun k => ?_) (Ev.bind e1 (Ev.pos (by omega) ?_))
      · simp only [spec_OncePublic.l0]
        rw [if_pos (by omega), if_pos (by omega), if_pos (by omega)]
      · rw [w64s i (by omega)]
        exact g1
    · refine Ev.step (f := fun k => (impl_ChainOf.f k (rdOf ByteArray.empty l (i : Int)) leaf (i : Int) 0 15).bind fun t => if acc.size + t.size ≤ 9223372036854775807 then impl_chopped_OncePublic_1_OncePublic_2.l0 k leaf (acc ++ t) l ((10 : Nat) : Int) (wrap64 ((i : Int) + 1)) else none) (fun k => ?_) (Ev.bind e2 (Ev.pos (by omega) ?_))
      · simp only [impl_chopped_OncePublic_1_OncePublic_2.l0]
        rw [if_pos (by omega), if_pos (by omega), if_pos (by omega)]
        rfl
      · rw [w64s i (by omega)]
        exact g2
theorem public_same (l : List ByteArray) (leaf : Int) (hs : ∀ s ∈ l, s.size ≤ 1048576) : ∃ d, d.size ≤ 4 ∧ Ev (fun k => spec_OncePublic.f k l leaf) d ∧ Ev (fun k => impl_OncePublic.f k l leaf) d := by
  by_cases hl : l.length = 10
  · obtain ⟨d, d4, f1, f2⟩ := public_from leaf l hl hs 10 0 ⟨#[]⟩ rfl (by decide)
    refine ⟨d, by omega, ?_, ?_⟩
    · unfold spec_OncePublic.f
      exact Ev.pos (by omega) f1
    · unfold impl_OncePublic.f
      refine Ev.bind ?_ (Ev.now _)
      unfold impl_chopped_OncePublic_1_OncePublic_2.f
      refine Ev.pos (by omega) ?_
      rw [hl]
      exact f2
  · refine ⟨⟨#[]⟩, by decide, ?_, ?_⟩
    · unfold spec_OncePublic.f
      exact Ev.neg (by omega) (Ev.now _)
    · unfold impl_OncePublic.f
      refine Ev.bind ?_ (Ev.now _)
      unfold impl_chopped_OncePublic_1_OncePublic_2.f
      exact Ev.neg (by omega) (Ev.now _)
end Go.Proofs.YtjcmafoepabpkaaDoor.Pure
namespace Go.Proofs.YtjcmafoepabpkaaDoor.Pure
open Go.RowKit Go.Proofs.YtjcmafoepabpkaaDoorW.PrintWords Go.Proofs.YtjcmafoepabpkaaDoorW.PrintLast Go.Proofs.YtjcmafoepabpkaaDoorW.PrintMore Go.Proofs.YtjcmafoepabpkaaDoor.P Go.Proofs.YtjcmafoepabpkaaDoor.Kit
set_option linter.unusedVariables false
set_option linter.unusedSimpArgs false

theorem leaf_same (seed : ByteArray) (c : Int) (hs : seed.size ≤ 999999990) : ∃ ks p, p.size ≤ 4 ∧ ks.length = 10 ∧ (∀ s ∈ ks, s.size = 4) ∧ Ev (fun k => spec_OnceKey.f k seed c) ks ∧ Ev (fun k => impl_OnceKey.f k seed c) ks ∧ Ev (fun k => spec_OncePublic.f k ks c) p ∧ Ev (fun k => impl_OncePublic.f k ks c) p := by
  obtain ⟨ks, k1, k2, f1, f2⟩ := onceKey_same seed c hs
  obtain ⟨p, p1, g1, g2⟩ := public_same ks c (fun s h => by rw [k2 s h]; decide)
  exact ⟨ks, p, p1, k1, k2, f1, f2, g1, g2⟩
theorem leaves_from (seed : ByteArray) (hs : seed.size ≤ 999999990) : ∀ (n i : Nat) (l : List ByteArray), l.length = i → i + n = 4 → (∀ s ∈ l, s.size ≤ 4) →
    ∃ r, r.length = 4 ∧ (∀ s ∈ r, s.size ≤ 4) ∧ Ev (fun k => spec_l16Leaves.l0 k seed l (i : Int)) r ∧ Ev (fun k => impl_leavesOf.l0 k seed l (i : Int)) r
  | 0, i, l, hl, hn, h4 => by
    refine ⟨l, by omega, h4, ?_, ?_⟩
    · exact Ev.step (f := fun _ => some l) (fun k => by simp only [spec_l16Leaves.l0]; rw [if_neg (by omega)]) (Ev.now _)
    · exact Ev.step (f := fun _ => some l) (fun k => by simp only [impl_leavesOf.l0]; rw [if_neg (by omega)]) (Ev.now _)
  | n + 1, i, l, hl, hn, h4 => by
    obtain ⟨ks, p, p4, _, _, f1, f2, g1, g2⟩ := leaf_same seed (i : Int) hs
    obtain ⟨r, r1, r2, e1, e2⟩ := leaves_from seed hs n (i + 1) (l ++ [p]) (by simp; omega) (by omega) (by
      intro s hs'
      rcases List.mem_append.mp hs' with h | h
      · exact h4 s h
      · simp at h; subst h; exact p4)
    refine ⟨r, r1, r2, ?_, ?_⟩
    · refine Ev.step (f := fun k => (spec_OnceKey.f k seed (i : Int)).bind fun t => ((spec_OncePublic.f k t (i : Int)).bind fun u => if l.length < 8796093022208 then spec_l16Leaves.l0 k seed (l ++ [u]) (wrap64 ((i : Int) + 1)) else none)) (fun k => by simp only [spec_l16Leaves.l0]; rw [if_pos (by omega)]) (Ev.bind f1 (Ev.bind g1 (Ev.pos (by omega) ?_)))
      rw [w64s i (by omega)]
      exact e1
    · refine Ev.step (f := fun k => (impl_OnceKey.f k seed (i : Int)).bind fun t => ((impl_OncePublic.f k t (i : Int)).bind fun u => if l.length < 8796093022208 then impl_leavesOf.l0 k seed (l ++ [u]) (wrap64 ((i : Int) + 1)) else none)) (fun k => by simp only [impl_leavesOf.l0]; rw [if_pos (by omega)]) (Ev.bind f2 (Ev.bind g2 (Ev.pos (by omega) ?_)))
      rw [w64s i (by omega)]
      exact e2
theorem leaves_same (seed : ByteArray) (hs : seed.size ≤ 999999990) : ∃ r, r.length = 4 ∧ (∀ s ∈ r, s.size ≤ 4) ∧ Ev (fun k => spec_l16Leaves.f k seed) r ∧ Ev (fun k => impl_leavesOf.f k seed) r :=
  leaves_from seed hs 4 0 [] rfl rfl (by simp)
theorem publicOf_same (seed : ByteArray) (hs : seed.size ≤ 999999990) : ∃ d, d.size = 4 ∧ Ev (fun k => spec_PublicOf.f k seed) d ∧ Ev (fun k => impl_PublicOf.f k seed) d := by
  obtain ⟨r, r1, r2, f1, f2⟩ := leaves_same seed hs
  obtain ⟨d, _, d4, g1, g2⟩ := rootOf_same r (fun s h => by have := r2 s h; omega)
  refine ⟨d, d4 r1, ?_, ?_⟩
  · unfold spec_PublicOf.f
    exact Ev.bind f1 (Ev.bind g1 (Ev.now _))
  · unfold impl_PublicOf.f
    exact Ev.bind f2 (Ev.bind g2 (Ev.now _))
end Go.Proofs.YtjcmafoepabpkaaDoor.Pure
namespace Go.Proofs.YtjcmafoepabpkaaDoor.Pure
open Go.RowKit Go.Proofs.YtjcmafoepabpkaaDoorW.PrintWords Go.Proofs.YtjcmafoepabpkaaDoorW.PrintLast Go.Proofs.YtjcmafoepabpkaaDoorW.PrintMore Go.Proofs.YtjcmafoepabpkaaDoor.P Go.Proofs.YtjcmafoepabpkaaDoor.Kit
set_option linter.unusedVariables false
set_option linter.unusedSimpArgs false

def sib (p : Nat) : Nat := if p % 2 = 1 then p - 1 else p + 1
theorem xor_sib (p : Nat) (h : p ≤ 3) : Go.bits .xor .i64 (p : Int) 1 = ((sib p : Nat) : Int) := by
  match p, h with
  | 0, _ => rfl
  | 1, _ => rfl
  | 2, _ => rfl
  | 3, _ => rfl
theorem sib_lt (p n : Nat) (h : p < 2 * n) : sib p < 2 * n := by unfold sib; split <;> omega
theorem path_spec (lv : Nat) (hlv : lv ≤ 2) (l r : List ByteArray) (p m : Nat) (acc R : List ByteArray) (hl : l.length = 2 * m) (hm : m ≤ 2) (hp : p < 2 * m) (ha : acc.length ≤ 5) (f : Ev (fun k => spec_LevelUp.f k (lv : Int) l) r)
    (h : Ev (fun k => spec_PathOf.l0 k r ((p / 2 : Nat) : Int) (acc ++ [rdOf ByteArray.empty l ((sib p : Nat) : Int)]) ((lv + 1 : Nat) : Int)) R) : Ev (fun k => spec_PathOf.l0 k l (p : Int) acc (lv : Int)) R := by
  have hs := sib_lt p m hp
  have e1 : wrap64 (Int.tdiv (p : Int) 2) = ((p / 2 : Nat) : Int) := by rw [Int.tdiv_eq_ediv_of_nonneg (by omega), w64 (by omega) (by omega)]; omega
  have e2 : Int.tmod (p : Int) 2 = ((p % 2 : Nat) : Int) := by rw [Int.tmod_eq_emod_of_nonneg (by omega)]; omega
  refine Ev.step (f := fun k => (spec_LevelUp.f k (lv : Int) l).bind fun t => spec_PathOf.l0 k t ((p / 2 : Nat) : Int) (acc ++ [rdOf ByteArray.empty l ((sib p : Nat) : Int)]) ((lv + 1 : Nat) : Int)) (fun k => ?_) (Ev.bind f h)
  simp only [spec_PathOf.l0]
  rw [if_pos (by omega), e1, e2, w64s lv (by omega)]
  by_cases hb : p % 2 = 1
  · have e3 : wrap64 ((p : Int) - 1) = ((sib p : Nat) : Int) := by rw [w64 (by omega) (by omega)]; unfold sib; rw [if_pos hb]; omega
    rw [if_pos (by omega), e3, if_pos (by omega), if_pos (by omega), if_pos (by omega)]
  · have e3 : wrap64 ((p : Int) + 1) = ((sib p : Nat) : Int) := by rw [w64 (by omega) (by omega)]; unfold sib; rw [if_neg hb]; rfl
    rw [if_neg (by omega), e3, if_pos (by omega), if_pos (by omega), if_pos (by omega)]
theorem path_impl (lv : Nat) (hlv : lv ≤ 2) (l r : List ByteArray) (p m : Nat) (acc R : List ByteArray) (hl : l.length = 2 * m) (hm : m ≤ 2) (hm0 : 0 < m) (hp : p < 2 * m) (ha : acc.length ≤ 5) (f : Ev (fun k => impl_LevelUp.f k (lv : Int) l) r)
    (h : Ev (fun k => impl_PathOf.l0 k r ((p / 2 : Nat) : Int) (acc ++ [rdOf ByteArray.empty l ((sib p : Nat) : Int)]) ((lv + 1 : Nat) : Int)) R) : Ev (fun k => impl_PathOf.l0 k l (p : Int) acc (lv : Int)) R := by
  have hs := sib_lt p m hp
  have e1 : wrap64 (Int.tdiv (p : Int) 2) = ((p / 2 : Nat) : Int) := by rw [Int.tdiv_eq_ediv_of_nonneg (by omega), w64 (by omega) (by omega)]; omega
  refine Ev.step (f := fun k => (impl_LevelUp.f k (lv : Int) l).bind fun t => impl_PathOf.l0 k t ((p / 2 : Nat) : Int) (acc ++ [rdOf ByteArray.empty l ((sib p : Nat) : Int)]) ((lv + 1 : Nat) : Int)) (fun k => ?_) (Ev.bind f h)
  simp only [impl_PathOf.l0]
  rw [if_pos (by omega), e1, w64s lv (by omega), xor_sib p (by omega), if_pos (by omega), if_pos (by omega), if_pos (by omega)]
theorem pathOf_same (l : List ByteArray) (p : Int) (hs : ∀ s ∈ l, s.size ≤ 1048576) : ∃ R, R.length ≤ 2 ∧ Ev (fun k => spec_PathOf.f k l p) R ∧ Ev (fun k => impl_PathOf.f k l p) R := by
  have no1 : Ev (fun k => spec_PathOf.j0 k l p [] true) [] := Ev.step (f := fun _ => some []) (fun k => by simp only [spec_PathOf.j0]; rw [if_pos trivial]) (Ev.now _)
  have no2 : Ev (fun k => impl_PathOf.j0 k l p true) [] := Ev.step (f := fun _ => some []) (fun k => by simp only [impl_PathOf.j0]; rw [if_pos trivial]) (Ev.now _)
  by_cases hl : l.length = 4
  · by_cases hp : 0 ≤ p ∧ p ≤ 3
    · obtain ⟨q, rfl⟩ := Int.eq_ofNat_of_zero_le hp.1
      obtain ⟨r, r1, r2, f1, f2⟩ := level_same 1 l (by omega) hs
      obtain ⟨t, t1, t2, g1, g2⟩ := level_same 2 r (by omega) (fun s h => by rw [r2 s h]; decide)
      refine ⟨([] ++ [rdOf ByteArray.empty l ((sib q : Nat) : Int)]) ++ [rdOf ByteArray.empty r ((sib (q / 2) : Nat) : Int)], by simp, ?_, ?_⟩
      · unfold spec_PathOf.f
        refine Ev.then rfl (Ev.pos (by omega) (Ev.then (spec_in _ _ _) ?_))
        rw [decide_eq_true hp]
        refine Ev.step (f := fun k => spec_PathOf.l0 k l (q : Int) [] 1) (fun k => by simp only [spec_PathOf.j0]; rw [if_neg (by decide)]) ?_
        refine path_spec 1 (by decide) l r q 2 [] _ (by omega) (by omega) (by omega) (by simp) f1 ?_
        refine path_spec 2 (by decide) r t (q / 2) 1 _ _ (by omega) (by omega) (by omega) (by simp) g1 ?_
        exact Ev.step (f := fun _ => some _) (fun k => by simp only [spec_PathOf.l0]; rw [if_neg (by decide)]) (Ev.now _)
      · unfold impl_PathOf.f
        refine Ev.pos (by omega) (Ev.then (impl_in_eq _ _ _) ?_)
        rw [decide_eq_true hp]
        refine Ev.step (f := fun k => impl_PathOf.l0 k l (q : Int) [] 1) (fun k => by simp only [impl_PathOf.j0]; rw [if_neg (by decide)]) ?_
        refine path_impl 1 (by decide) l r q 2 [] _ (by omega) (by omega) (by omega) (by omega) (by simp) f2 ?_
        refine path_impl 2 (by decide) r t (q / 2) 1 _ _ (by omega) (by omega) (by omega) (by omega) (by simp) g2 ?_
        exact Ev.step (f := fun _ => some _) (fun k => by simp only [impl_PathOf.l0]; rw [if_neg (by omega)]) (Ev.now _)
    · refine ⟨[], by decide, ?_, ?_⟩
      · unfold spec_PathOf.f
        refine Ev.then rfl (Ev.pos (by omega) (Ev.then (spec_in _ _ _) ?_))
        rw [decide_eq_false hp]
        exact no1
      · unfold impl_PathOf.f
        refine Ev.pos (by omega) (Ev.then (impl_in_eq _ _ _) ?_)
        rw [decide_eq_false hp]
        exact no2
  · refine ⟨[], by decide, ?_, ?_⟩
    · unfold spec_PathOf.f
      exact Ev.then rfl (Ev.neg (by omega) no1)
    · unfold impl_PathOf.f
      exact Ev.neg (by omega) no2
end Go.Proofs.YtjcmafoepabpkaaDoor.Pure
namespace Go.Proofs.YtjcmafoepabpkaaDoor.Pure
open Go.RowKit Go.Proofs.YtjcmafoepabpkaaDoorW.PrintWords Go.Proofs.YtjcmafoepabpkaaDoorW.PrintLast Go.Proofs.YtjcmafoepabpkaaDoorW.PrintMore Go.Proofs.YtjcmafoepabpkaaDoor.P Go.Proofs.YtjcmafoepabpkaaDoor.Kit
set_option linter.unusedVariables false
set_option linter.unusedSimpArgs false

def digL (d : ByteArray) : Nat → List Int
  | 0 => []
  | n + 1 => digL d n ++ [bt d (n : Int) / 16, bt d (n : Int) % 16]
def sumD (d : ByteArray) : Nat → Int
  | 0 => 0
  | n + 1 => sumD d n + 30 - bt d (n : Int) / 16 - bt d (n : Int) % 16
theorem digL_len (d : ByteArray) (n : Nat) : (digL d n).length = 2 * n := by
  induction n with
  | zero => rfl
  | succ n ih => simp [digL, ih]; omega
theorem sumD_range (d : ByteArray) (n : Nat) : 0 ≤ sumD d n ∧ sumD d n ≤ 30 * n := by
  induction n with
  | zero => simp [sumD]
  | succ n ih =>
    have hb := bt_range d (n : Int)
    simp only [sumD]
    push_cast
    omega
theorem and15 (b : Int) (h : 0 ≤ b ∧ b ≤ 255) : Go.bits .and .u8 b 15 = b % 16 := by
  have := bits_mask .u8 8 (by decide) wraps_u8 4 (by decide) b (by omega) (by omega)
  simpa using this
def psum (L : List Int) : Nat → Int
  | 0 => 0
  | j + 1 => psum L j + (15 - rd L (j : Int))
theorem digits_more (m : ByteArray) (hm : m.size ≤ 1000000000) : ∃ R : List Int, R.length = 10 ∧ (∀ x ∈ R, 0 ≤ x ∧ x ≤ 15) ∧ rd R 8 * 16 + rd R 9 = psum R 8 ∧ Ev (fun k => spec_DigitsOf.f k m) R ∧ Ev (fun k => impl_DigitsOf.f k m) R := by
  obtain ⟨d, d4, f1, f2⟩ := chop_same m hm
  have b0 := bt_range d 0
  have b1 := bt_range d 1
  have b2 := bt_range d 2
  have b3 := bt_range d 3
  have hS := sumD_range d 4
  have hL4 : digL d 4 = [bt d 0 / 16, bt d 0 % 16, bt d 1 / 16, bt d 1 % 16, bt d 2 / 16, bt d 2 % 16, bt d 3 / 16, bt d 3 % 16] := rfl
  have hSe : sumD d 4 = 0 + 30 - bt d 0 / 16 - bt d 0 % 16 + 30 - bt d 1 / 16 - bt d 1 % 16 + 30 - bt d 2 / 16 - bt d 2 % 16 + 30 - bt d 3 / 16 - bt d 3 % 16 := rfl
  have hend : ([wrap64 (Int.tdiv (sumD d 4) 16), Int.tmod (sumD d 4) 16] : List Int) = [sumD d 4 / 16, sumD d 4 % 16] := by
    rw [Int.tdiv_eq_ediv_of_nonneg hS.1, Int.tmod_eq_emod_of_nonneg hS.1, w64 (by omega) (by omega)]
  refine ⟨digL d 4 ++ [sumD d 4 / 16, sumD d 4 % 16], by rw [hL4]; rfl, ?_, ?_, ?_, ?_⟩
  · intro x hx
    rw [hL4] at hx
    simp only [List.cons_append, List.nil_append, List.mem_cons, List.not_mem_nil, or_false] at hx
    rw [hSe] at hx
    rcases hx with rfl | rfl | rfl | rfl | rfl | rfl | rfl | rfl | rfl | rfl <;> omega
  · rw [hL4]
    have e8 : ∀ a b c d' e f g h x y : Int, rd ([a, b, c, d', e, f, g, h] ++ [x, y]) 8 = x ∧ rd ([a, b, c, d', e, f, g, h] ++ [x, y]) 9 = y ∧ psum ([a, b, c, d', e, f, g, h] ++ [x, y]) 8 = 0 + (15 - a) + (15 - b) + (15 - c) + (15 - d') + (15 - e) + (15 - f) + (15 - g) + (15 - h) := fun _ _ _ _ _ _ _ _ _ _ => ⟨rfl, rfl, rfl⟩
    obtain ⟨q1, q2, q3⟩ := e8 (bt d 0 / 16) (bt d 0 % 16) (bt d 1 / 16) (bt d 1 % 16) (bt d 2 / 16) (bt d 2 % 16) (bt d 3 / 16) (bt d 3 % 16) (sumD d 4 / 16) (sumD d 4 % 16)
    have hq : sumD d 4 / 16 * 16 + sumD d 4 % 16 = sumD d 4 := Int.ediv_mul_add_emod _ _
    rw [q1, q2, q3, hq, hSe]
    clear hq hSe hend hL4 hS q1 q2 q3
    generalize bt d 0 / 16 = a0, bt d 0 % 16 = a1, bt d 1 / 16 = a2, bt d 1 % 16 = a3, bt d 2 / 16 = a4, bt d 2 % 16 = a5, bt d 3 / 16 = a6, bt d 3 % 16 = a7
    omega
  · unfold spec_DigitsOf.f
    refine Ev.bind f1 ?_
    refine Ev.up (g := fun i k => spec_DigitsOf.l0 k d (digL d i) (sumD d i) (i : Int)) 4 ?_ ?_ 0 (Nat.zero_le _)
    · intro i hi hh
      have hb := bt_range d (i : Int)
      have hs := sumD_range d i
      refine Ev.step (fun k => ?_) hh
      simp only [spec_DigitsOf.l0, Option.bind_some]
      rw [w64 (x := bt d (i : Int)) (by omega) (by omega), Int.tdiv_eq_ediv_of_nonneg hb.1, Int.tmod_eq_emod_of_nonneg hb.1, w64 (x := bt d (i : Int) / 16) (by omega) (by omega)]
      rw [if_pos (by omega), if_pos (by omega), if_pos (by omega), if_pos (by rw [digL_len]; simp; omega), w64s i (by omega)]
      have e : wrap64 (wrap64 (wrap64 (sumD d i + 30) - bt d (i : Int) / 16) - bt d (i : Int) % 16) = sumD d (i + 1) := by
        rw [w64 (x := sumD d i + 30) (by omega) (by omega), w64 (x := sumD d i + 30 - bt d (i : Int) / 16) (by omega) (by omega), w64 (by omega) (by omega)]
        rfl
      rw [e]
      rfl
    · refine Ev.step (f := fun _ => some (digL d 4 ++ [sumD d 4 / 16, sumD d 4 % 16])) (fun k => ?_) (Ev.now _)
      simp only [spec_DigitsOf.l0, Option.bind_some]
      rw [hend, if_neg (by omega), if_pos (by rw [digL_len]; simp)]
  · unfold impl_DigitsOf.f
    rw [f2]
    simp only [Option.bind_some]
    refine Ev.up (g := fun i k => impl_DigitsOf.l0 k (digL d i) 0 d (i : Int)) 4 ?_ ?_ 0 (Nat.zero_le _)
    · intro i hi hh
      have hb := bt_range d (i : Int)
      refine Ev.step (fun k => ?_) hh
      simp only [impl_DigitsOf.l0, Option.bind_some]
      rw [and15 _ hb, w64 (x := bt d (i : Int) / 16) (by omega) (by omega), w64 (x := bt d (i : Int) % 16) (by omega) (by omega)]
      rw [if_pos (by omega), if_pos (by omega), if_pos (by omega), if_pos (by rw [digL_len]; simp; omega), w64s i (by omega)]
      rfl
    · refine Ev.step (f := fun k => impl_DigitsOf.l1 k (digL d 4) 0 (digL d 4) ((8 : Nat) : Int) ((0 : Nat) : Int)) (fun k => ?_) ?_
      · simp only [impl_DigitsOf.l0]
        rw [if_neg (by omega), digL_len]
        rfl
      have hl8 : (digL d 4).length = 8 := digL_len d 4
      have hmem : ∀ j : Nat, j < 8 → 0 ≤ rd (digL d 4) (j : Int) ∧ rd (digL d 4) (j : Int) ≤ 15 := by
        intro j hj
        rw [hL4]
        match j, hj with
        | 0, _ => show 0 ≤ bt d 0 / 16 ∧ bt d 0 / 16 ≤ 15; omega
        | 1, _ => show 0 ≤ bt d 0 % 16 ∧ bt d 0 % 16 ≤ 15; omega
        | 2, _ => show 0 ≤ bt d 1 / 16 ∧ bt d 1 / 16 ≤ 15; omega
        | 3, _ => show 0 ≤ bt d 1 % 16 ∧ bt d 1 % 16 ≤ 15; omega
        | 4, _ => show 0 ≤ bt d 2 / 16 ∧ bt d 2 / 16 ≤ 15; omega
        | 5, _ => show 0 ≤ bt d 2 % 16 ∧ bt d 2 % 16 ≤ 15; omega
        | 6, _ => show 0 ≤ bt d 3 / 16 ∧ bt d 3 / 16 ≤ 15; omega
        | 7, _ => show 0 ≤ bt d 3 % 16 ∧ bt d 3 % 16 ≤ 15; omega
      have hp : ∀ j : Nat, j ≤ 8 → 0 ≤ psum (digL d 4) j ∧ psum (digL d 4) j ≤ 15 * j := by
        intro j
        induction j with
        | zero => intro _; simp [psum]
        | succ j ih =>
          intro hj
          have h1 := ih (by omega)
          have h2 := hmem j (by omega)
          simp only [psum]
          push_cast
          omega
      have hsum : psum (digL d 4) 8 = sumD d 4 := by
        have e : psum (digL d 4) 8 = 0 + (15 - bt d 0 / 16) + (15 - bt d 0 % 16) + (15 - bt d 1 / 16) + (15 - bt d 1 % 16) + (15 - bt d 2 / 16) + (15 - bt d 2 % 16) + (15 - bt d 3 / 16) + (15 - bt d 3 % 16) := rfl
        rw [e, hSe]
        omega
      refine Ev.up (g := fun j k => impl_DigitsOf.l1 k (digL d 4) (psum (digL d 4) j) (digL d 4) ((8 : Nat) : Int) (j : Int)) 8 ?_ ?_ 0 (Nat.zero_le _)
      · intro j hj hh
        have h1 := hp j (by omega)
        have h2 := hmem j hj
        refine Ev.step (fun k => ?_) hh
        simp only [impl_DigitsOf.l1]
        rw [if_pos (by omega), if_pos (by omega), if_pos (by omega), w64s j (by omega), w64 (x := 15 - rd (digL d 4) (j : Int)) (by omega) (by omega), w64 (by omega) (by omega)]
        rfl
      · refine Ev.step (f := fun _ => some (digL d 4 ++ [sumD d 4 / 16, sumD d 4 % 16])) (fun k => ?_) (Ev.now _)
        simp only [impl_DigitsOf.l1, Option.bind_some]
        rw [hsum, hend, if_neg (by omega), if_pos (by rw [digL_len]; simp)]
theorem digits_same (m : ByteArray) (hm : m.size ≤ 1000000000) : ∃ R : List Int, R.length = 10 ∧ (∀ x ∈ R, 0 ≤ x ∧ x ≤ 15) ∧ Ev (fun k => spec_DigitsOf.f k m) R ∧ Ev (fun k => impl_DigitsOf.f k m) R := by
  obtain ⟨R, h1, h2, _, h3, h4⟩ := digits_more m hm
  exact ⟨R, h1, h2, h3, h4⟩
end Go.Proofs.YtjcmafoepabpkaaDoor.Pure
namespace Go.Proofs.YtjcmafoepabpkaaDoor.Pure
open Go.RowKit Go.Proofs.YtjcmafoepabpkaaDoorW.PrintWords Go.Proofs.YtjcmafoepabpkaaDoorW.PrintLast Go.Proofs.YtjcmafoepabpkaaDoorW.PrintMore Go.Proofs.YtjcmafoepabpkaaDoor.P Go.Proofs.YtjcmafoepabpkaaDoor.Kit
set_option linter.unusedVariables false
set_option linter.unusedSimpArgs false

theorem sign_from (leaf : Int) (l : List ByteArray) (ds : List Int) (hl : l.length = 10) (hd : ds.length = 10) (hs : ∀ s ∈ l, s.size ≤ 1048576) : ∀ (n i : Nat) (acc : List ByteArray), acc.length = i → i + n = 10 → (∀ s ∈ acc, s.size ≤ 1048576) →
    ∃ r, r.length = 10 ∧ (∀ s ∈ r, s.size ≤ 1048576) ∧ Ev (fun k => spec_OnceSign.l0 k l leaf acc ds (i : Int)) r ∧ Ev (fun k => impl_OnceSign.l0 k leaf ds acc l ((10 : Nat) : Int) (i : Int)) r
  | 0, i, acc, ha, hn, h4 => by
    refine ⟨acc, by omega, h4, ?_, ?_⟩
    · exact Ev.step (f := fun _ => some acc) (fun k => by simp only [spec_OnceSign.l0]; rw [if_neg (by omega)]) (Ev.now _)
    · exact Ev.step (f := fun _ => some acc) (fun k => by simp only [impl_OnceSign.l0]; rw [if_neg (by omega)]) (Ev.now _)
  | n + 1, i, acc, ha, hn, h4 => by
    have hi : i < l.length := by omega
    have hz : (rdOf ByteArray.empty l (i : Int)).size ≤ 1048576 := by rw [rdOf_get _ _ _ hi]; exact hs _ (List.getElem_mem hi)
    obtain ⟨c, hc, e1, e2⟩ := chain_same (rdOf ByteArray.empty l (i : Int)) leaf (i : Int) 0 (rd ds (i : Int)) (by omega)
    have hc4 : c.size ≤ 1048576 := by rcases hc with rfl | hc <;> omega
    obtain ⟨r, r1, r2, g1, g2⟩ := sign_from leaf l ds hl hd hs n (i + 1) (acc ++ [c]) (by simp; omega) (by omega) (by
      intro s hs'
      rcases List.mem_append.mp hs' with h | h
      · exact h4 s h
      · simp at h; subst h; exact hc4)
    refine ⟨r, r1, r2, ?_, ?_⟩
    · refine Ev.step (f := fun k => (spec_ChainOf.f k (rdOf ByteArray.empty l (i : Int)) leaf (i : Int) 0 (rd ds (i : Int))).bind fun t => if acc.length < 8796093022208 then spec_OnceSign.l0 k l leaf (acc ++ [t]) ds (wrap64 ((i : Int) + 1)) else none) (fun k => ?_) (Ev.bind e1 (Ev.pos (by omega) ?_))
      · simp only [spec_OnceSign.l0]
        rw [if_pos (by omega), if_pos (by omega), if_pos (by omega), if_pos (by omega)]
      · rw [w64s i (by omega)]
        exact g1
    · refine Ev.step (f := fun k => (impl_ChainOf.f k (rdOf ByteArray.empty l (i : Int)) leaf (i : Int) 0 (rd ds (i : Int))).bind fun t => if acc.length < 8796093022208 then impl_OnceSign.l0 k leaf ds (acc ++ [t]) l ((10 : Nat) : Int) (wrap64 ((i : Int) + 1)) else none) (fun k => ?_) (Ev.bind e2 (Ev.pos (by omega) ?_))
      · simp only [impl_OnceSign.l0]
        rw [if_pos (by omega), if_pos (by omega), if_pos (by omega), if_pos (by omega)]
      · rw [w64s i (by omega)]
        exact g2
theorem sign_same (l : List ByteArray) (leaf : Int) (m : ByteArray) (hm : m.size ≤ 1000000000) (hs : ∀ s ∈ l, s.size ≤ 1048576) : ∃ r, r.length ≤ 10 ∧ (l.length = 10 → r.length = 10) ∧ (∀ s ∈ r, s.size ≤ 1048576) ∧ Ev (fun k => spec_OnceSign.f k l leaf m) r ∧ Ev (fun k => impl_OnceSign.f k l leaf m) r := by
  by_cases hl : l.length = 10
  · obtain ⟨ds, d1, d2, f1, f2⟩ := digits_same m hm
    obtain ⟨r, r1, r2, g1, g2⟩ := sign_from leaf l ds hl d1 hs 10 0 [] rfl rfl (by simp)
    refine ⟨r, by omega, fun _ => r1, r2, ?_, ?_⟩
    · unfold spec_OnceSign.f
      exact Ev.then rfl (Ev.pos (by omega) (Ev.bind f1 g1))
    · unfold impl_OnceSign.f
      refine Ev.pos (by omega) (Ev.bind f2 ?_)
      rw [hl]
      exact g2
  · refine ⟨[], by simp, fun q => absurd q hl, by simp, ?_, ?_⟩
    · unfold spec_OnceSign.f
      exact Ev.then rfl (Ev.neg (by omega) (Ev.now _))
    · unfold impl_OnceSign.f
      exact Ev.neg (by omega) (Ev.now _)
end Go.Proofs.YtjcmafoepabpkaaDoor.Pure
namespace Go.Proofs.YtjcmafoepabpkaaDoor.Pure
open Go.RowKit Go.Proofs.YtjcmafoepabpkaaDoorW.PrintWords Go.Proofs.YtjcmafoepabpkaaDoorW.PrintLast Go.Proofs.YtjcmafoepabpkaaDoorW.PrintMore Go.Proofs.YtjcmafoepabpkaaDoor.P Go.Proofs.YtjcmafoepabpkaaDoor.Kit
set_option linter.unusedVariables false
set_option linter.unusedSimpArgs false

theorem signAt_same (seed : ByteArray) (leaf : Int) (m : ByteArray) (hs : seed.size ≤ 999999990) (hm : m.size ≤ 1000000000) : ∃ (x : Int) (a b : List ByteArray) (c : Bool), a.length ≤ 10 ∧ b.length ≤ 2 ∧ Ev (fun k => spec_SignAt.f k seed leaf m) (x, a, b, c) ∧ Ev (fun k => impl_SignAt.f k seed leaf m) (x, a, b, c) := by
  by_cases h : 0 ≤ leaf ∧ leaf ≤ 3
  · obtain ⟨ks, k1, k2, f1, f2⟩ := onceKey_same seed leaf hs
    obtain ⟨r, r1, _, _, g1, g2⟩ := sign_same ks leaf m hm (fun s q => by rw [k2 s q]; decide)
    obtain ⟨l, l1, l2, e1, e2⟩ := leaves_same seed hs
    obtain ⟨p, p1, q1, q2⟩ := pathOf_same l leaf (fun s q => by have := l2 s q; omega)
    refine ⟨leaf, r, p, true, r1, p1, ?_, ?_⟩
    · unfold spec_SignAt.f
      exact Ev.then (spec_in _ _ _) (Ev.pos (decide_eq_true h) (Ev.bind f1 (Ev.bind g1 (Ev.bind e1 (Ev.bind q1 (Ev.now _))))))
    · unfold impl_SignAt.f
      exact Ev.then (impl_in_eq _ _ _) (Ev.pos (decide_eq_true h) (Ev.bind f2 (Ev.bind g2 (Ev.bind e2 (Ev.bind q2 (Ev.now _))))))
  · refine ⟨0, [], [], false, by decide, by decide, ?_, ?_⟩
    · unfold spec_SignAt.f
      exact Ev.then (spec_in _ _ _) (Ev.neg (by rw [decide_eq_false h]; decide) (Ev.now _))
    · unfold impl_SignAt.f
      exact Ev.then (impl_in_eq _ _ _) (Ev.neg (by rw [decide_eq_false h]; decide) (Ev.now _))
theorem low_size (seed : ByteArray) (n : Int) : ((seed ++ byteD n) ++ (⟨#[108]⟩ : ByteArray)).size = seed.size + 2 ∧ (seed ++ byteD n).size = seed.size + 1 ∧ (seed ++ (⟨#[116]⟩ : ByteArray)).size = seed.size + 1 := by
  have := byteD_size n
  refine ⟨?_, ?_, ?_⟩
  · rw [ByteArray.size_append, ByteArray.size_append, this]; rfl
  · rw [ByteArray.size_append, this]
  · rw [ByteArray.size_append]; rfl
theorem low_ev (seed : ByteArray) (n : Int) (hs : seed.size ≤ 999999980) : spec_l17Low.f seed n = some ((seed ++ byteD n) ++ (⟨#[108]⟩ : ByteArray)) := by
  obtain ⟨_, s2, _⟩ := low_size seed n
  have := byteD_size n
  unfold spec_l17Low.f
  rw [l06Byte_eq]
  simp only [Option.bind_some]
  rw [if_pos (by omega), if_pos (by omega)]
theorem hyperSign_same (seed : ByteArray) (i : Int) (m : ByteArray) (hs : seed.size ≤ 999999980) (hm : m.size ≤ 1000000000) : ∃ (x : Int) (a b : List ByteArray) (r : ByteArray) (y : Int) (c d : List ByteArray) (ok : Bool), a.length ≤ 10 ∧ b.length ≤ 2 ∧ c.length ≤ 10 ∧ d.length ≤ 2 ∧ Ev (fun k => spec_HyperSign.f k seed i m) (x, a, b, r, y, c, d, ok) ∧ Ev (fun k => impl_HyperSign.f k seed i m) (x, a, b, r, y, c, d, ok) := by
  by_cases h : 0 ≤ i ∧ i ≤ 15
  · obtain ⟨s1, s2, s3⟩ := low_size seed (wrap64 (Int.tdiv i 4))
    have hb := byteD_size (wrap64 (Int.tdiv i 4))
    obtain ⟨p, p4, f1, f2⟩ := publicOf_same ((seed ++ byteD (wrap64 (Int.tdiv i 4))) ++ (⟨#[108]⟩ : ByteArray)) (by omega)
    obtain ⟨y, c, d, v, c1, d1, g1, g2⟩ := signAt_same ((seed ++ byteD (wrap64 (Int.tdiv i 4))) ++ (⟨#[108]⟩ : ByteArray)) (Int.tmod i 4) m (by omega) hm
    obtain ⟨x, a, b, u, a1, b1, e1, e2⟩ := signAt_same (seed ++ (⟨#[116]⟩ : ByteArray)) (wrap64 (Int.tdiv i 4)) p (by omega) (by omega)
    refine ⟨x, a, b, p, y, c, d, true, a1, b1, c1, d1, ?_, ?_⟩
    · unfold spec_HyperSign.f
      exact Ev.then (spec_in _ _ _) (Ev.pos (decide_eq_true h) (Ev.then (low_ev seed _ hs) (Ev.bind f1 (Ev.bind g1 (Ev.pos (by omega) (Ev.bind e1 (Ev.now _)))))))
    · unfold impl_HyperSign.f
      exact Ev.then (impl_in_eq _ _ _) (Ev.pos (decide_eq_true h) (Ev.then (oneByte_eq _) (Ev.pos (by omega) (Ev.pos (by omega) (Ev.bind f2 (Ev.bind g2 (Ev.pos (by omega) (Ev.bind e2 (Ev.now _)))))))))
  · refine ⟨0, [], [], ⟨#[]⟩, 0, [], [], false, by decide, by decide, by decide, by decide, ?_, ?_⟩
    · unfold spec_HyperSign.f
      exact Ev.then (spec_in _ _ _) (Ev.neg (by rw [decide_eq_false h]; decide) (Ev.now _))
    · unfold impl_HyperSign.f
      exact Ev.then (impl_in_eq _ _ _) (Ev.neg (by rw [decide_eq_false h]; decide) (Ev.now _))
end Go.Proofs.YtjcmafoepabpkaaDoor.Pure
