/- The law on Squeeze and Stretch over drawn numbers: squeezed and stretched again a number is near; what is stretched is squeezed to what it was. -/
import Derived.Test.YtmnnklealendcaaMJ
import Derived.Test.YtmnnklealendcaaMS
import Derived.Test.YtmnnklealendcaaPx1
import Derived.Test.YtmnnklealendcaaPx2
import Derived.Test.YtmnnklealendcaaPx16
import Derived.Test.YtmnnklealendcaaPx18
namespace Go.Proofs.Ytmnnklealendcaa.Pure
open Go.RowKit Go.Proofs.YtmnnklealendcaaW.PrintWords Go.Proofs.YtmnnklealendcaaW.PrintLast Go.Proofs.YtmnnklealendcaaW.PrintMore Go.Proofs.Ytmnnklealendcaa.P

def farV (x z : Int) : Int := if 3329 - (x - z + 3329) % 3329 < (x - z + 3329) % 3329 then 3329 - (x - z + 3329) % 3329 else (x - z + 3329) % 3329
theorem sq_range {x d : Int} (hx : 0 ≤ x ∧ x ≤ 3328) (hd : 1 ≤ d ∧ d ≤ 11) : 0 ≤ squeezeV x d ∧ squeezeV x d < 2 ^ d.toNat := by
  have hb := two_bd hd.1 hd.2
  rw [squeezeV_in hx hd]
  exact ⟨Int.emod_nonneg _ (by omega), Int.emod_lt_of_pos _ (by omega)⟩
theorem st_range {y d : Int} (hd : 1 ≤ d ∧ d ≤ 11) (hy : 0 ≤ y ∧ y < 2 ^ d.toNat) : 0 ≤ stretchV y d ∧ stretchV y d ≤ 3328 := by
  rw [stretchV_in hd ⟨hy.1, by omega⟩]
  rcases d11 hd.1 hd.2 with rfl | rfl | rfl | rfl | rfl | rfl | rfl | rfl | rfl | rfl | rfl <;> simp at hy ⊢ <;> omega
theorem sq_one {T H w : Int} (hT : T = 2 * H) (hH : 1 ≤ H) (hH2 : H ≤ 1024) (hw : 0 ≤ w ∧ w < T) : (T * ((3329 * w + H) / T) + 1664) / 3329 % T = w := by
  have h1 := Int.mul_ediv_add_emod (3329 * w + H) T
  have h2 := Int.emod_nonneg (3329 * w + H) (show T ≠ 0 by omega)
  have h3 := Int.emod_lt_of_pos (3329 * w + H) (show 0 < T by omega)
  have h4 : (T * ((3329 * w + H) / T) + 1664) / 3329 = w := by omega
  rw [h4]
  exact Int.emod_eq_of_lt hw.1 hw.2
theorem sq_st {w d : Int} (hd : 1 ≤ d ∧ d ≤ 11) (hw : 0 ≤ w ∧ w < 2 ^ d.toNat) : squeezeV (stretchV w d) d = w := by
  have hb := two_bd hd.1 hd.2
  have hh := two_half hd.1
  rw [squeezeV_in (st_range hd hw) hd, stretchV_in hd ⟨hw.1, by omega⟩]
  exact sq_one hh (by omega) (by omega) hw
theorem far_le {x z B : Int} (hB : B ≤ 1664) (h : -B ≤ x - z ∧ x - z ≤ B ∨ 3329 - B ≤ x - z ∧ x - z ≤ 3328) : farV x z ≤ B := by
  unfold farV
  rcases h with h | h
  · by_cases h0 : 0 ≤ x - z
    · rw [show (x - z + 3329) % 3329 = x - z by omega]; split <;> omega
    · rw [show (x - z + 3329) % 3329 = x - z + 3329 by omega]; split <;> omega
  · rw [show (x - z + 3329) % 3329 = x - z by omega]; split <;> omega
theorem near_one {T H x : Int} (hT : T = 2 * H) (hH : 1 ≤ H) (hH2 : H ≤ 1024) (hx : 0 ≤ x ∧ x ≤ 3328) :
    farV x ((3329 * ((T * x + 1664) / 3329 % T) + H) / T) ≤ (3329 + T) / (2 * T) := by
  have hB : (3329 + T) / (2 * T) ≤ 1664 := by
    have := Int.ediv_le_ediv (show 0 < 2 * T by omega) (show 3329 + T ≤ 1664 * (2 * T) by omega)
    rwa [Int.mul_ediv_cancel _ (by omega)] at this
  have hTx := Int.mul_nonneg (show 0 ≤ T by omega) hx.1
  have hTx2 : T * x ≤ T * 3328 := Int.mul_le_mul_of_nonneg_left hx.2 (by omega)
  obtain ⟨q, hq⟩ : ∃ q, (T * x + 1664) / 3329 = q := ⟨_, rfl⟩
  rw [hq]
  refine far_le hB ?_
  by_cases hqT : q < T
  · rw [Int.emod_eq_of_lt (by omega) hqT]
    obtain ⟨z, hz⟩ : ∃ z, (3329 * q + H) / T = z := ⟨_, rfl⟩
    have h1 := Int.mul_ediv_add_emod (3329 * q + H) T
    have h2 := Int.emod_nonneg (3329 * q + H) (show T ≠ 0 by omega)
    have h3 := Int.emod_lt_of_pos (3329 * q + H) (show 0 < T by omega)
    rw [hz] at h1 ⊢
    have e1 : T * (x - z) = T * x - T * z := Int.mul_sub ..
    left
    constructor
    · have : z - x ≤ (3329 + T) / (2 * T) := by
        refine Int.le_ediv_of_mul_le (by omega) ?_
        have : (z - x) * (2 * T) = -(2 * (T * (x - z))) := by
          rw [Int.mul_comm, Int.mul_assoc, ← Int.mul_neg, ← Int.mul_neg]; congr 2; omega
        omega
      omega
    · refine Int.le_ediv_of_mul_le (by omega) ?_
      have : (x - z) * (2 * T) = 2 * (T * (x - z)) := by rw [Int.mul_comm, Int.mul_assoc]
      omega
  · have hqe : q = T := by omega
    rw [hqe, Int.emod_self, Int.mul_zero, Int.zero_add, Int.ediv_eq_zero_of_lt (a := H) (b := T) (by omega) (by omega)]
    right
    have e2 : 3329 - x ≤ (3329 + T) / (2 * T) := by
      refine Int.le_ediv_of_mul_le (by omega) ?_
      have : (3329 - x) * (2 * T) = 2 * (3329 * T - T * x) := by rw [Int.sub_mul, Int.mul_comm x, Int.mul_assoc, Int.mul_comm 2 T, ← Int.mul_assoc 3329, Int.mul_assoc]; omega
      omega
    omega
theorem sq_near {x d : Int} (hx : 0 ≤ x ∧ x ≤ 3328) (hd : 1 ≤ d ∧ d ≤ 11) : farV x (stretchV (squeezeV x d) d) ≤ (3329 + 2 ^ d.toNat) / (2 * 2 ^ d.toNat) := by
  have hr := sq_range hx hd
  have hb := two_bd hd.1 hd.2
  have hh := two_half hd.1
  rw [stretchV_in hd ⟨hr.1, by omega⟩, squeezeV_in hx hd]
  exact near_one hh (by omega) (by omega) hx

theorem FnSqueezes : laws_FnSqueezes.Pure := by
  intro l _ _ _
  refine Ev.rounds ?_
  unfold laws_FnSqueezes.f laws_big.f
  simp only [Option.bind_some]
  by_cases h : (l.length : Int) > 1048576
  · exact Ev.pos (decide_eq_true h) (Ev.now _)
  refine Ev.neg (by rw [decide_eq_false h]; decide) ?_
  obtain ⟨ps, ep, hl, hp⟩ := places_some l (by omega)
  refine Ev.bind ep (Ev.pos (by omega) (Ev.pos (by omega) ?_))
  obtain ⟨x, hx⟩ : ∃ x, x = Int.tmod (rd ps 0) 3329 := ⟨_, rfl⟩
  obtain ⟨d, hd⟩ : ∃ d, d = wrap64 (1 + (Int.tmod (rd ps 1) 11)) := ⟨_, rfl⟩
  have p0 := hp _ (rd_mem ps 0 (by omega) (by omega))
  have p1 := hp _ (rd_mem ps 1 (by omega) (by omega))
  have p2 := hp _ (rd_mem ps 2 (by omega) (by omega))
  have hx' : 0 ≤ x ∧ x ≤ 3328 := by
    have := tmod_range p0.1 (n := 3329) (by omega)
    omega
  have hd' : 1 ≤ d ∧ d ≤ 11 := by
    have := tmod_range p1.1 (n := 11) (by omega)
    rw [w64 (by omega) (by omega)] at hd
    omega
  rw [← hx, ← hd]
  refine Ev.then (impl_Squeeze_eq x d) (Ev.then (impl_Stretch_eq _ d) ?_)
  have hb := two_bd hd'.1 hd'.2
  have hr := sq_range hx' hd'
  have hz := st_range hd' hr
  have hnear := sq_near hx' hd'
  have hw := tmod_range p2.1 (n := 2 ^ d.toNat) (by omega)
  have hback := sq_st hd' hw
  have e1 : Int.tmod (wrap64 ((wrap64 (x - stretchV (squeezeV x d) d)) + 3329)) 3329 = (x - stretchV (squeezeV x d) d + 3329) % 3329 := by
    rw [w64 (x := x - _) (by omega) (by omega), w64 (by omega) (by omega), Int.tmod_eq_emod_of_nonneg (by omega)]
  have hm := Int.emod_lt_of_pos (x - stretchV (squeezeV x d) d + 3329) (show (0 : Int) < 3329 by omega)
  have hm0 := Int.emod_nonneg (x - stretchV (squeezeV x d) d + 3329) (show (3329 : Int) ≠ 0 by omega)
  have e2 : wrap64 (3329 - (x - stretchV (squeezeV x d) d + 3329) % 3329) = 3329 - (x - stretchV (squeezeV x d) d + 3329) % 3329 := w64 (by omega) (by omega)
  have e3 : wrap64 (2 * (2 : Int) ^ d.toNat) = 2 * 2 ^ d.toNat := w64 (by omega) (by omega)
  have e4 : wrap64 (Int.tdiv (wrap64 (3329 + 2 ^ d.toNat)) (2 * 2 ^ d.toNat)) = (3329 + 2 ^ d.toNat) / (2 * 2 ^ d.toNat) := by
    rw [w64 (x := 3329 + 2 ^ d.toNat) (by omega) (by omega), Int.tdiv_eq_ediv_of_nonneg (by omega)]
    have h1 := Int.ediv_nonneg (a := 3329 + 2 ^ d.toNat) (b := 2 * 2 ^ d.toNat) (by omega) (by omega)
    have h2 := Int.ediv_le_self (a := 3329 + 2 ^ d.toNat) (2 * 2 ^ d.toNat) (by omega)
    exact w64 (by omega) (by omega)
  refine Ev.up (g := fun i k => laws_FnSqueezes.l0 k ps x d (squeezeV x d) (stretchV (squeezeV x d) d) (2 ^ i) (i : Int)) d.toNat ?_ ?_ 0 (by omega)
  · intro i hi h'
    refine Ev.step (fun k => ?_) h'
    have h1 := two_le (i := i + 1) (by omega)
    have h2 := two_pos i
    rw [Int.pow_succ] at h1
    simp only [laws_FnSqueezes.l0]
    rw [if_pos (by omega), w64s i (by omega), w64 (by omega) (by omega), Int.pow_succ, Int.mul_comm 2]
  · have tail : ∀ (u : Nat → Int → Option Bool), (∀ k w, u k w = (impl_Squeeze.f w d).bind fun t => (if t = (Int.tmod (rd ps 2) (2 ^ d.toNat)) then (some (decide (stretchV (squeezeV x d) d < 3329))) else (some false))) → Ev (fun k => (impl_Stretch.f (Int.tmod (rd ps 2) (2 ^ d.toNat)) d).bind (u k)) true := by
      intro u hu
      refine Ev.then (impl_Stretch_eq _ d) ?_
      simp only [hu]
      refine Ev.then (impl_Squeeze_eq _ d) ?_
      rw [hback, decide_eq_true (show stretchV (squeezeV x d) d < 3329 by omega)]
      exact Ev.pos rfl (Ev.now _)
    unfold farV at hnear
    by_cases hc : 3329 - (x - stretchV (squeezeV x d) d + 3329) % 3329 < (x - stretchV (squeezeV x d) d + 3329) % 3329
    · rw [if_pos hc] at hnear
      refine Ev.step (f := fun k => (spec_Squeeze.f k x d).bind fun t346 => (if squeezeV x d = t346 then ((impl_Stretch.f (Int.tmod (rd ps 2) (2 ^ d.toNat)) d).bind fun t347 => ((impl_Squeeze.f t347 d).bind fun t348 => (if t348 = (Int.tmod (rd ps 2) (2 ^ d.toNat)) then (some (decide (stretchV (squeezeV x d) d < 3329))) else (some false)))) else (some false))) (fun k => ?_) (Ev.bind (spec_Squeeze_ev x d) (Ev.pos rfl (tail _ (fun _ _ => rfl))))
      simp only [laws_FnSqueezes.l0]
      rw [if_neg (by omega), e1, e2, if_pos hc, if_pos (by omega), if_neg (by omega), if_pos (by omega), if_pos (by omega), e3, if_neg (by omega), e4, if_pos hnear]
    · rw [if_neg hc] at hnear
      refine Ev.step (f := fun k => (spec_Squeeze.f k x d).bind fun t346 => (if squeezeV x d = t346 then ((impl_Stretch.f (Int.tmod (rd ps 2) (2 ^ d.toNat)) d).bind fun t347 => ((impl_Squeeze.f t347 d).bind fun t348 => (if t348 = (Int.tmod (rd ps 2) (2 ^ d.toNat)) then (some (decide (stretchV (squeezeV x d) d < 3329))) else (some false)))) else (some false))) (fun k => ?_) (Ev.bind (spec_Squeeze_ev x d) (Ev.pos rfl (tail _ (fun _ _ => rfl))))
      simp only [laws_FnSqueezes.l0]
      rw [if_neg (by omega), e1, e2, if_neg hc, if_pos (by omega), if_neg (by omega), if_pos (by omega), if_pos (by omega), e3, if_neg (by omega), e4, if_pos hnear]
end Go.Proofs.Ytmnnklealendcaa.Pure
