/- Squeeze and Stretch, of the program and of the reference, as plain numbers. -/
import Derived.Test.YthkbgflbbnjcpaaMKB
import Derived.Test.YthkbgflbbnjcpaaPx1
import Derived.Test.YthkbgflbbnjcpaaPx7
import Derived.Test.YthkbgflbbnjcpaaPx9
import Derived.Test.YthkbgflbbnjcpaaPx16
import Derived.Test.YthkbgflbbnjcpaaPx20
namespace Go.Proofs.Ythkbgflbbnjcpaa.Pure
open Go.RowKit Go.Proofs.YthkbgflbbnjcpaaW.PrintWords Go.Proofs.YthkbgflbbnjcpaaW.PrintLast Go.Proofs.YthkbgflbbnjcpaaW.PrintMore Go.Proofs.Ythkbgflbbnjcpaa.P

theorem l01In_eq (a b c : Int) : spec_l01In.f a b c = some (decide (b ≤ a ∧ a ≤ c)) := some_in a b c
theorem in_eq (a b c : Int) : impl_in.f a b c = some (decide (b ≤ a ∧ a ≤ c)) := some_in a b c

theorem two_le {i : Nat} (h : i ≤ 62) : (2 : Int) ^ i ≤ 4611686018427387904 := by
  have := Nat.pow_le_pow_right (n := 2) (by omega) h
  have h2 : ((2 ^ i : Nat) : Int) ≤ ((2 ^ 62 : Nat) : Int) := Int.ofNat_le.mpr this
  simpa using h2
theorem two_pos (i : Nat) : (0 : Int) < 2 ^ i := Int.pow_pos (by omega)
theorem l11Two_ev (n : Int) (h : n ≤ 62) : Ev (fun k => spec_l11Two.f k n) (2 ^ n.toNat) := by
  unfold spec_l11Two.f
  refine Ev.up (g := fun i k => spec_l11Two.l0 k n (2 ^ i) (i : Int)) (r := (2 : Int) ^ n.toNat) n.toNat ?_ ?_ 0 (by omega)
  · intro i hi h'
    refine Ev.step (fun k => ?_) h'
    simp only [spec_l11Two.l0]
    have h1 := two_le (i := i + 1) (by omega)
    have h2 := two_pos i
    rw [Int.pow_succ] at h1
    rw [if_pos (by omega), w64s i (by omega), w64 (by omega) (by omega), Int.pow_succ, Int.mul_comm]
  · refine Ev.step (f := fun _ => some ((2 : Int) ^ n.toNat)) (fun k => ?_) (Ev.now _)
    simp only [spec_l11Two.l0]
    rw [if_neg (by omega)]

theorem shl64 (x n : Int) (h : n ≤ 64) : shl .i64 x n = wrap64 (x * 2 ^ n.toNat) := by
  unfold shl
  rw [i64_w, show min n.toNat IntKind.i64.bits = n.toNat by simp [IntKind.bits]; omega]
theorem shr64 (x n : Int) (h : n ≤ 64) : shr .i64 x n = x / 2 ^ n.toNat := by
  unfold shr
  rw [show min n.toNat IntKind.i64.bits = n.toNat by simp [IntKind.bits]; omega]

def squeezeV (x d : Int) : Int := if (0 ≤ x ∧ x ≤ 3328) ∧ 1 ≤ d ∧ d ≤ 11 then (2 ^ d.toNat * x + 1664) / 3329 % 2 ^ d.toNat else 0
def stretchV (y d : Int) : Int := if (1 ≤ d ∧ d ≤ 11) ∧ 0 ≤ y ∧ y ≤ 2 ^ d.toNat - 1 then (3329 * y + 2 ^ (d - 1).toNat) / 2 ^ d.toNat else 0

theorem squeezeV_in {x d : Int} (hx : 0 ≤ x ∧ x ≤ 3328) (hd : 1 ≤ d ∧ d ≤ 11) : squeezeV x d = (2 ^ d.toNat * x + 1664) / 3329 % 2 ^ d.toNat := if_pos ⟨hx, hd⟩
theorem squeezeV_out {x d : Int} (h : ¬ ((0 ≤ x ∧ x ≤ 3328) ∧ 1 ≤ d ∧ d ≤ 11)) : squeezeV x d = 0 := if_neg h
theorem stretchV_in {y d : Int} (hd : 1 ≤ d ∧ d ≤ 11) (hy : 0 ≤ y ∧ y ≤ 2 ^ d.toNat - 1) : stretchV y d = (3329 * y + 2 ^ (d - 1).toNat) / 2 ^ d.toNat := if_pos ⟨hd, hy⟩
theorem stretchV_out {y d : Int} (h : ¬ ((1 ≤ d ∧ d ≤ 11) ∧ 0 ≤ y ∧ y ≤ 2 ^ d.toNat - 1)) : stretchV y d = 0 := if_neg h
theorem d11 {d : Int} (h1 : 1 ≤ d) (h2 : d ≤ 11) : d = 1 ∨ d = 2 ∨ d = 3 ∨ d = 4 ∨ d = 5 ∨ d = 6 ∨ d = 7 ∨ d = 8 ∨ d = 9 ∨ d = 10 ∨ d = 11 := by omega
theorem two_bd {d : Int} (h1 : 1 ≤ d) (h2 : d ≤ 11) : (2 : Int) ≤ 2 ^ d.toNat ∧ (2 : Int) ^ d.toNat ≤ 2048 := by
  rcases d11 h1 h2 with rfl | rfl | rfl | rfl | rfl | rfl | rfl | rfl | rfl | rfl | rfl <;> decide
theorem two_half {d : Int} (h1 : 1 ≤ d) : (2 : Int) ^ d.toNat = 2 * 2 ^ (d - 1).toNat := by
  rw [show d.toNat = (d - 1).toNat + 1 by omega, Int.pow_succ, Int.mul_comm]
theorem two_mul_bd {t x : Int} (ht0 : 0 ≤ t) (ht : t ≤ 2048) (h0 : 0 ≤ x) (h1 : x ≤ 3328) : 0 ≤ t * x ∧ t * x ≤ 6815744 := by
  refine ⟨Int.mul_nonneg ht0 h0, ?_⟩
  have := Int.mul_le_mul ht h1 h0 (by omega)
  omega

theorem sq_core {t x : Int} (h0 : 0 ≤ t * x) (h1 : t * x ≤ 6815744) : Int.tmod (wrap64 (Int.tdiv (wrap64 (t * x + 1664)) 3329)) t = (t * x + 1664) / 3329 % t := by
  rw [w64 (x := t * x + 1664) (by omega) (by omega), Int.tdiv_eq_ediv_of_nonneg (by omega), w64 (x := (t * x + 1664) / 3329) (by omega) (by omega), Int.tmod_eq_emod_of_nonneg (by omega)]
theorem st_core {a y t : Int} (ht : 2 ≤ t) (h0 : 0 ≤ 3329 * y + a) (h1 : 3329 * y + a ≤ 1000000000) (hy : -1000000 ≤ y ∧ y ≤ 1000000) : wrap64 (Int.tdiv (wrap64 ((wrap64 (3329 * y)) + a)) t) = (3329 * y + a) / t := by
  rw [w64 (x := 3329 * y) (by omega) (by omega), w64 (x := 3329 * y + a) (by omega) (by omega), Int.tdiv_eq_ediv_of_nonneg (by omega)]
  have h2 := Int.ediv_nonneg (a := 3329 * y + a) (b := t) (by omega) (by omega)
  have h3 := Int.ediv_le_self (a := 3329 * y + a) t (by omega)
  exact w64 (by omega) (by omega)
theorem spec_Squeeze_ev (x d : Int) : Ev (fun k => spec_Squeeze.f k x d) (squeezeV x d) := by
  unfold spec_Squeeze.f
  simp only [l01In_eq, Option.bind_some]
  by_cases hx : 0 ≤ x ∧ x ≤ 3328
  · refine Ev.pos (by simpa using hx) ?_
    by_cases hd : 1 ≤ d ∧ d ≤ 11
    · rw [squeezeV_in hx hd]
      have hb := two_bd hd.1 hd.2
      have hm := two_mul_bd (by omega) hb.2 hx.1 hx.2
      refine Ev.step (f := fun k => (spec_l11Two.f k d).bind fun t103 => ((spec_l11Two.f k d).bind fun t104 => (if t104 = 0 then (none) else (some (Int.tmod (wrap64 (Int.tdiv (wrap64 ((wrap64 (t103 * x)) + 1664)) 3329)) t104))))) (fun k => ?_) ?_
      · simp only [spec_Squeeze.j0]
        rw [if_neg (by simpa using hd)]
      · refine Ev.bind (l11Two_ev d (by omega)) (Ev.bind (l11Two_ev d (by omega)) (Ev.neg (by omega) (Ev.const ?_)))
        rw [w64 (x := 2 ^ d.toNat * x) (by omega) (by omega), sq_core (by omega) (by omega)]
    · rw [squeezeV_out (fun h => hd h.2)]
      refine Ev.step (f := fun _ => some 0) (fun k => ?_) (Ev.now _)
      simp only [spec_Squeeze.j0]
      rw [if_pos (by rw [decide_eq_false hd]; rfl)]
  · rw [squeezeV_out (fun h => hx h.1)]
    refine Ev.neg (by simpa using hx) ?_
    refine Ev.step (f := fun _ => some 0) (fun k => ?_) (Ev.now _)
    simp only [spec_Squeeze.j0, if_true]

theorem impl_Squeeze_eq (x d : Int) : impl_Squeeze.f x d = some (squeezeV x d) := by
  unfold impl_Squeeze.f
  simp only [in_eq, Option.bind_some]
  by_cases hx : 0 ≤ x ∧ x ≤ 3328
  · rw [if_pos (by simpa using hx)]
    by_cases hd : 1 ≤ d ∧ d ≤ 11
    · have hb := two_bd hd.1 hd.2
      have hm := two_mul_bd (by omega) hb.2 hx.1 hx.2
      rw [squeezeV_in hx hd, if_pos (decide_eq_true hd), if_pos (by omega), shl64 _ _ (by omega), shl64 _ _ (by omega), Int.one_mul, Int.mul_comm x,
        w64 (x := 2 ^ d.toNat) (by omega) (by omega), if_neg (by omega), w64 (x := 2 ^ d.toNat * x) (by omega) (by omega), sq_core (by omega) (by omega)]
    · rw [squeezeV_out (fun h => hd h.2), if_neg (by rw [decide_eq_false hd]; decide)]
  · rw [squeezeV_out (fun h => hx h.1), if_neg (by rw [decide_eq_false hx]; decide)]

theorem spec_Stretch_ev (y d : Int) : Ev (fun k => spec_Stretch.f k y d) (stretchV y d) := by
  unfold spec_Stretch.f
  simp only [l01In_eq, Option.bind_some]
  by_cases hd : 1 ≤ d ∧ d ≤ 11
  · have hb := two_bd hd.1 hd.2
    have hh := two_half hd.1
    refine Ev.pos (by simpa using hd) (Ev.bind (l11Two_ev d (by omega)) ?_)
    rw [w64 (by omega) (by omega)]
    by_cases hy : 0 ≤ y ∧ y ≤ 2 ^ d.toNat - 1
    · rw [stretchV_in hd hy]
      refine Ev.step (f := fun k => (spec_l11Two.f k (wrap64 (d - 1))).bind fun t112 => ((spec_l11Two.f k d).bind fun t113 => (if t113 = 0 then (none) else (some (wrap64 (Int.tdiv (wrap64 ((wrap64 (3329 * y)) + t112)) t113)))))) (fun k => ?_) ?_
      · simp only [spec_Stretch.j0]
        rw [if_neg (by simpa using hy)]
      · rw [w64 (x := d - 1) (by omega) (by omega)]
        refine Ev.bind (l11Two_ev (d - 1) (by omega)) (Ev.bind (l11Two_ev d (by omega)) (Ev.neg (by omega) (Ev.const ?_)))
        rw [st_core (by omega) (by omega) (by omega) (by omega)]
    · rw [stretchV_out (fun h => hy h.2)]
      refine Ev.step (f := fun _ => some 0) (fun k => ?_) (Ev.now _)
      simp only [spec_Stretch.j0]
      rw [if_pos (by rw [decide_eq_false hy]; rfl)]
  · rw [stretchV_out (fun h => hd h.1)]
    refine Ev.neg (by simpa using hd) ?_
    refine Ev.step (f := fun _ => some 0) (fun k => ?_) (Ev.now _)
    simp only [spec_Stretch.j0, if_true]

theorem impl_Stretch_eq (y d : Int) : impl_Stretch.f y d = some (stretchV y d) := by
  unfold impl_Stretch.f
  simp only [in_eq, Option.bind_some]
  by_cases hd : 1 ≤ d ∧ d ≤ 11
  · have hb := two_bd hd.1 hd.2
    have hh := two_half hd.1
    rw [if_pos (by simpa using hd), if_pos (by omega), shl64 1 d (by omega), Int.one_mul, w64 (x := 2 ^ d.toNat) (by omega) (by omega), w64 (x := 2 ^ d.toNat - 1) (by omega) (by omega), w64 (x := d - 1) (by omega) (by omega)]
    by_cases hy : 0 ≤ y ∧ y ≤ 2 ^ d.toNat - 1
    · rw [stretchV_in hd hy, if_pos (decide_eq_true hy), if_pos (by omega), shl64 1 (d - 1) (by omega), shr64 _ d (by omega), Int.one_mul, w64 (x := 2 ^ (d - 1).toNat) (by omega) (by omega), w64 (x := 3329 * y) (by omega) (by omega), w64 (by omega) (by omega)]
    · rw [stretchV_out (fun h => hy h.2), if_neg (by rw [decide_eq_false hy]; decide)]
  · rw [stretchV_out (fun h => hd h.1), if_neg (by rw [decide_eq_false hd]; decide)]
end Go.Proofs.Ythkbgflbbnjcpaa.Pure
