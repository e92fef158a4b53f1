/- Squeeze and Stretch, of the program and of the reference, as plain numbers. -/
import Derived.Test.YtoeagdpddggliaaDoorMKB
import Derived.Test.YtoeagdpddggliaaDoorPx3
namespace Go.Proofs.YtoeagdpddggliaaDoor.Pure
open Go.RowKit Go.Proofs.YtoeagdpddggliaaDoorW.PrintWords Go.Proofs.YtoeagdpddggliaaDoorW.PrintLast Go.Proofs.YtoeagdpddggliaaDoorW.PrintMore Go.Proofs.YtoeagdpddggliaaDoor.P

theorem l01In_eq (a b c : Int) : spec_l01In.f a b c = some (decide (b ≤ a ∧ a ≤ c)) := some_in a b c
theorem two_le {i : Nat} (h : i ≤ 62) : (2 : Int) ^ i ≤ 4611686018427387904 := by
  have := Nat.pow_le_pow_right (n := 2) (by omega) h
  have h2 : ((2 ^ i : Nat) : Int) ≤ ((2 ^ 62 : Nat) : Int) := Int.ofNat_le.mpr this
  simpa using h2
theorem two_pos (i : Nat) : (0 : Int) < 2 ^ i := Int.pow_pos (by omega)
theorem shl64 (x n : Int) (h : n ≤ 64) : shl .i64 x n = wrap64 (x * 2 ^ n.toNat) := by
  unfold shl
  rw [i64_w, show min n.toNat IntKind.i64.bits = n.toNat by simp [IntKind.bits]; omega]
theorem shr64 (x n : Int) (h : n ≤ 64) : shr .i64 x n = x / 2 ^ n.toNat := by
  unfold shr
  rw [show min n.toNat IntKind.i64.bits = n.toNat by simp [IntKind.bits]; omega]

def squeezeV (x d : Int) : Int := if (0 ≤ x ∧ x ≤ 3328) ∧ 1 ≤ d ∧ d ≤ 11 then (2 ^ d.toNat * x + 1664) / 3329 % 2 ^ d.toNat else 0
def stretchV (y d : Int) : Int := if (1 ≤ d ∧ d ≤ 11) ∧ 0 ≤ y ∧ y ≤ 2 ^ d.toNat - 1 then (3329 * y + 2 ^ (d - 1).toNat) / 2 ^ d.toNat else 0

theorem squeezeV_in {x d : Int} (hx : 0 ≤ x ∧ x ≤ 3328) (hd : 1 ≤ d ∧ d ≤ 11) : squeezeV x d = (2 ^ d.toNat * x + 1664) / 3329 % 2 ^ d.toNat := if_pos ⟨hx, hd⟩
theorem squeezeV_out {x d : Int} (h : ¬ ((0 ≤ x ∧ x ≤ 3328) ∧ 1 ≤ d ∧ d ≤ 11)) : squeezeV x d = 0 := if_neg h
theorem stretchV_in {y d : Int} (hd : 1 ≤ d ∧ d ≤ 11) (hy : 0 ≤ y ∧ y ≤ 2 ^ d.toNat - 1) : stretchV y d = (3329 * y + 2 ^ (d - 1).toNat) / 2 ^ d.toNat := if_pos ⟨hd, hy⟩
theorem stretchV_out {y d : Int} (h : ¬ ((1 ≤ d ∧ d ≤ 11) ∧ 0 ≤ y ∧ y ≤ 2 ^ d.toNat - 1)) : stretchV y d = 0 := if_neg h
theorem d11 {d : Int} (h1 : 1 ≤ d) (h2 : d ≤ 11) : d = 1 ∨ d = 2 ∨ d = 3 ∨ d = 4 ∨ d = 5 ∨ d = 6 ∨ d = 7 ∨ d = 8 ∨ d = 9 ∨ d = 10 ∨ d = 11 := by omega
theorem two_bd {d : Int} (h1 : 1 ≤ d) (h2 : d ≤ 11) : (2 : Int) ≤ 2 ^ d.toNat ∧ (2 : Int) ^ d.toNat ≤ 2048 := by
  rcases d11 h1 h2 with rfl | rfl | rfl | rfl | rfl | rfl | rfl | rfl | rfl | rfl | rfl <;> decide
theorem two_half {d : Int} (h1 : 1 ≤ d) : (2 : Int) ^ d.toNat = 2 * 2 ^ (d - 1).toNat := by
  rw [show d.toNat = (d - 1).toNat + 1 by omega, Int.pow_succ, Int.mul_comm]
theorem two_mul_bd {t x : Int} (ht0 : 0 ≤ t) (ht : t ≤ 2048) (h0 : 0 ≤ x) (h1 : x ≤ 3328) : 0 ≤ t * x ∧ t * x ≤ 6815744 := by
  refine ⟨Int.mul_nonneg ht0 h0, ?_⟩
  have := Int.mul_le_mul ht h1 h0 (by omega)
  omega

theorem sq_core {t x : Int} (h0 : 0 ≤ t * x) (h1 : t * x ≤ 6815744) : Int.tmod (wrap64 (Int.tdiv (wrap64 (t * x + 1664)) 3329)) t = (t * x + 1664) / 3329 % t := by
  rw [w64 (x := t * x + 1664) (by omega) (by omega), Int.tdiv_eq_ediv_of_nonneg (by omega), w64 (x := (t * x + 1664) / 3329) (by omega) (by omega), Int.tmod_eq_emod_of_nonneg (by omega)]
theorem st_core {a y t : Int} (ht : 2 ≤ t) (h0 : 0 ≤ 3329 * y + a) (h1 : 3329 * y + a ≤ 1000000000) (hy : -1000000 ≤ y ∧ y ≤ 1000000) : wrap64 (Int.tdiv (wrap64 ((wrap64 (3329 * y)) + a)) t) = (3329 * y + a) / t := by
  rw [w64 (x := 3329 * y) (by omega) (by omega), w64 (x := 3329 * y + a) (by omega) (by omega), Int.tdiv_eq_ediv_of_nonneg (by omega)]
  have h2 := Int.ediv_nonneg (a := 3329 * y + a) (b := t) (by omega) (by omega)
  have h3 := Int.ediv_le_self (a := 3329 * y + a) t (by omega)
  exact w64 (by omega) (by omega)
end Go.Proofs.YtoeagdpddggliaaDoor.Pure
