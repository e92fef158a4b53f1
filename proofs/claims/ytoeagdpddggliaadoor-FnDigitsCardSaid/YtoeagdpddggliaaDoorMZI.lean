/- Digits of a text: the reference's and the program's. -/
import Derived.Test.YtoeagdpddggliaaDoorMZC
import Derived.Test.YtoeagdpddggliaaDoorPx11
import Derived.Test.YtoeagdpddggliaaDoorPx12
namespace Go.Proofs.YtoeagdpddggliaaDoor.Pure
open Go.RowKit Go.Proofs.YtoeagdpddggliaaDoorW.PrintWords Go.Proofs.YtoeagdpddggliaaDoorW.PrintLast Go.Proofs.YtoeagdpddggliaaDoorW.PrintMore Go.Proofs.YtoeagdpddggliaaDoor.P Go.Proofs.YtoeagdpddggliaaDoor.Kit
set_option linter.unusedVariables false
set_option linter.unusedSimpArgs false

def digL (d : ByteArray) : Nat → List Int
  | 0 => []
  | n + 1 => digL d n ++ [bt d (n : Int) / 16, bt d (n : Int) % 16]
def sumD (d : ByteArray) : Nat → Int
  | 0 => 0
  | n + 1 => sumD d n + 30 - bt d (n : Int) / 16 - bt d (n : Int) % 16
theorem digL_len (d : ByteArray) (n : Nat) : (digL d n).length = 2 * n := by
  induction n with
  | zero => rfl
  | succ n ih => simp [digL, ih]; omega
theorem sumD_range (d : ByteArray) (n : Nat) : 0 ≤ sumD d n ∧ sumD d n ≤ 30 * n := by
  induction n with
  | zero => simp [sumD]
  | succ n ih =>
    have hb := bt_range d (n : Int)
    simp only [sumD]
    push_cast
    omega
theorem and15 (b : Int) (h : 0 ≤ b ∧ b ≤ 255) : Go.bits .and .u8 b 15 = b % 16 := by
  have := bits_mask .u8 8 (by decide) wraps_u8 4 (by decide) b (by omega) (by omega)
  simpa using this
def psum (L : List Int) : Nat → Int
  | 0 => 0
  | j + 1 => psum L j + (15 - rd L (j : Int))
theorem digits_more (m : ByteArray) (hm : m.size ≤ 1000000000) : ∃ R : List Int, R.length = 10 ∧ (∀ x ∈ R, 0 ≤ x ∧ x ≤ 15) ∧ rd R 8 * 16 + rd R 9 = psum R 8 ∧ Ev (fun k => spec_DigitsOf.f k m) R ∧ Ev (fun k => impl_DigitsOf.f k m) R := by
  obtain ⟨d, d4, f1, f2⟩ := chop_same m hm
  have b0 := bt_range d 0
  have b1 := bt_range d 1
  have b2 := bt_range d 2
  have b3 := bt_range d 3
  have hS := sumD_range d 4
  have hL4 : digL d 4 = [bt d 0 / 16, bt d 0 % 16, bt d 1 / 16, bt d 1 % 16, bt d 2 / 16, bt d 2 % 16, bt d 3 / 16, bt d 3 % 16] := rfl
  have hSe : sumD d 4 = 0 + 30 - bt d 0 / 16 - bt d 0 % 16 + 30 - bt d 1 / 16 - bt d 1 % 16 + 30 - bt d 2 / 16 - bt d 2 % 16 + 30 - bt d 3 / 16 - bt d 3 % 16 := rfl
  have hend : ([wrap64 (Int.tdiv (sumD d 4) 16), Int.tmod (sumD d 4) 16] : List Int) = [sumD d 4 / 16, sumD d 4 % 16] := by
    rw [Int.tdiv_eq_ediv_of_nonneg hS.1, Int.tmod_eq_emod_of_nonneg hS.1, w64 (by omega) (by omega)]
  refine ⟨digL d 4 ++ [sumD d 4 / 16, sumD d 4 % 16], by rw [hL4]; rfl, ?_, ?_, ?_, ?_⟩
  · intro x hx
    rw [hL4] at hx
    simp only [List.cons_append, List.nil_append, List.mem_cons, List.not_mem_nil, or_false] at hx
    rw [hSe] at hx
    rcases hx with rfl | rfl | rfl | rfl | rfl | rfl | rfl | rfl | rfl | rfl <;> omega
  · rw [hL4]
    have e8 : ∀ a b c d' e f g h x y : Int, rd ([a, b, c, d', e, f, g, h] ++ [x, y]) 8 = x ∧ rd ([a, b, c, d', e, f, g, h] ++ [x, y]) 9 = y ∧ psum ([a, b, c, d', e, f, g, h] ++ [x, y]) 8 = 0 + (15 - a) + (15 - b) + (15 - c) + (15 - d') + (15 - e) + (15 - f) + (15 - g) + (15 - h) := fun _ _ _ _ _ _ _ _ _ _ => ⟨rfl, rfl, rfl⟩
    obtain ⟨q1, q2, q3⟩ := e8 (bt d 0 / 16) (bt d 0 % 16) (bt d 1 / 16) (bt d 1 % 16) (bt d 2 / 16) (bt d 2 % 16) (bt d 3 / 16) (bt d 3 % 16) (sumD d 4 / 16) (sumD d 4 % 16)
    have hq : sumD d 4 / 16 * 16 + sumD d 4 % 16 = sumD d 4 := Int.ediv_mul_add_emod _ _
    rw [q1, q2, q3, hq, hSe]
    clear hq hSe hend hL4 hS q1 q2 q3
    generalize bt d 0 / 16 = a0, bt d 0 % 16 = a1, bt d 1 / 16 = a2, bt d 1 % 16 = a3, bt d 2 / 16 = a4, bt d 2 % 16 = a5, bt d 3 / 16 = a6, bt d 3 % 16 = a7
    omega
  · unfold spec_DigitsOf.f
    refine Ev.bind f1 ?_
    refine Ev.up (g := fun i k => spec_DigitsOf.l0 k d (digL d i) (sumD d i) (i : Int)) 4 ?_ ?_ 0 (Nat.zero_le _)
    · intro i hi hh
      have hb := bt_range d (i : Int)
      have hs := sumD_range d i
      refine Ev.step (fun k => ?_) hh
      simp only [spec_DigitsOf.l0, Option.bind_some]
      rw [w64 (x := bt d (i : Int)) (by omega) (by omega), Int.tdiv_eq_ediv_of_nonneg hb.1, Int.tmod_eq_emod_of_nonneg hb.1, w64 (x := bt d (i : Int) / 16) (by omega) (by omega)]
      rw [if_pos (by omega), if_pos (by omega), if_pos (by omega), if_pos (by rw [digL_len]; simp; omega), w64s i (by omega)]
      have e : wrap64 (wrap64 (wrap64 (sumD d i + 30) - bt d (i : Int) / 16) - bt d (i : Int) % 16) = sumD d (i + 1) := by
        rw [w64 (x := sumD d i + 30) (by omega) (by omega), w64 (x := sumD d i + 30 - bt d (i : Int) / 16) (by omega) (by omega), w64 (by omega) (by omega)]
        rfl
      rw [e]
      rfl
    · refine Ev.step (f := fun _ => some (digL d 4 ++ [sumD d 4 / 16, sumD d 4 % 16])) (fun k => ?_) (Ev.now _)
      simp only [spec_DigitsOf.l0, Option.bind_some]
      rw [hend, if_neg (by omega), if_pos (by rw [digL_len]; simp)]
  · unfold impl_DigitsOf.f
    rw [f2]
    simp only [Option.bind_some]
    refine Ev.up (g := fun i k => impl_DigitsOf.l0 k (digL d i) 0 d (i : Int)) 4 ?_ ?_ 0 (Nat.zero_le _)
    · intro i hi hh
      have hb := bt_range d (i : Int)
      refine Ev.step (fun k => ?_) hh
      simp only [impl_DigitsOf.l0, Option.bind_some]
      rw [and15 _ hb, w64 (x := bt d (i : Int) / 16) (by omega) (by omega), w64 (x := bt d (i : Int) % 16) (by omega) (by omega)]
      rw [if_pos (by omega), if_pos (by omega), if_pos (by omega), if_pos (by rw [digL_len]; simp; omega), w64s i (by omega)]
      rfl
    · refine Ev.step (f := fun k => impl_DigitsOf.l1 k (digL d 4) 0 (digL d 4) ((8 : Nat) : Int) ((0 : Nat) : Int)) (fun k => ?_) ?_
      · simp only [impl_DigitsOf.l0]
        rw [if_neg (by omega), digL_len]
        rfl
      have hl8 : (digL d 4).length = 8 := digL_len d 4
      have hmem : ∀ j : Nat, j < 8 → 0 ≤ rd (digL d 4) (j : Int) ∧ rd (digL d 4) (j : Int) ≤ 15 := by
        intro j hj
        rw [hL4]
        match j, hj with
        | 0, _ => show 0 ≤ bt d 0 / 16 ∧ bt d 0 / 16 ≤ 15; omega
        | 1, _ => show 0 ≤ bt d 0 % 16 ∧ bt d 0 % 16 ≤ 15; omega
        | 2, _ => show 0 ≤ bt d 1 / 16 ∧ bt d 1 / 16 ≤ 15; omega
        | 3, _ => show 0 ≤ bt d 1 % 16 ∧ bt d 1 % 16 ≤ 15; omega
        | 4, _ => show 0 ≤ bt d 2 / 16 ∧ bt d 2 / 16 ≤ 15; omega
        | 5, _ => show 0 ≤ bt d 2 % 16 ∧ bt d 2 % 16 ≤ 15; omega
        | 6, _ => show 0 ≤ bt d 3 / 16 ∧ bt d 3 / 16 ≤ 15; omega
        | 7, _ => show 0 ≤ bt d 3 % 16 ∧ bt d 3 % 16 ≤ 15; omega
      have hp : ∀ j : Nat, j ≤ 8 → 0 ≤ psum (digL d 4) j ∧ psum (digL d 4) j ≤ 15 * j := by
        intro j
        induction j with
        | zero => intro _; simp [psum]
        | succ j ih =>
          intro hj
          have h1 := ih (by omega)
          have h2 := hmem j (by omega)
          simp only [psum]
          push_cast
          omega
      have hsum : psum (digL d 4) 8 = sumD d 4 := by
        have e : psum (digL d 4) 8 = 0 + (15 - bt d 0 / 16) + (15 - bt d 0 % 16) + (15 - bt d 1 / 16) + (15 - bt d 1 % 16) + (15 - bt d 2 / 16) + (15 - bt d 2 % 16) + (15 - bt d 3 / 16) + (15 - bt d 3 % 16) := rfl
        rw [e, hSe]
        omega
      refine Ev.up (g := fun j k => impl_DigitsOf.l1 k (digL d 4) (psum (digL d 4) j) (digL d 4) ((8 : Nat) : Int) (j : Int)) 8 ?_ ?_ 0 (Nat.zero_le _)
      · intro j hj hh
        have h1 := hp j (by omega)
        have h2 := hmem j hj
        refine Ev.step (fun k => ?_) hh
        simp only [impl_DigitsOf.l1]
        rw [if_pos (by omega), if_pos (by omega), if_pos (by omega), w64s j (by omega), w64 (x := 15 - rd (digL d 4) (j : Int)) (by omega) (by omega), w64 (by omega) (by omega)]
        rfl
      · refine Ev.step (f := fun _ => some (digL d 4 ++ [sumD d 4 / 16, sumD d 4 % 16])) (fun k => ?_) (Ev.now _)
        simp only [impl_DigitsOf.l1, Option.bind_some]
        rw [hsum, hend, if_neg (by omega), if_pos (by rw [digL_len]; simp)]
theorem digits_same (m : ByteArray) (hm : m.size ≤ 1000000000) : ∃ R : List Int, R.length = 10 ∧ (∀ x ∈ R, 0 ≤ x ∧ x ≤ 15) ∧ Ev (fun k => spec_DigitsOf.f k m) R ∧ Ev (fun k => impl_DigitsOf.f k m) R := by
  obtain ⟨R, h1, h2, _, h3, h4⟩ := digits_more m hm
  exact ⟨R, h1, h2, h3, h4⟩
end Go.Proofs.YtoeagdpddggliaaDoor.Pure
