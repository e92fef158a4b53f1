/- Products of transforms, MulNtt, of the program and of the reference: pair by pair. -/
import Derived.Test.YtcpgpjggnghpdaaMP2
import Derived.Test.YtcpgpjggnghpdaaPx29
import Derived.Test.YtcpgpjggnghpdaaPx30
import Derived.Test.YtcpgpjggnghpdaaPx33
import Derived.Test.YtcpgpjggnghpdaaPx36
import Derived.Test.YtcpgpjggnghpdaaPx37
import Derived.Test.YtcpgpjggnghpdaaPx38
namespace Go.Proofs.Ytcpgpjggnghpdaa.Pure
open Go.RowKit Go.Proofs.YtcpgpjggnghpdaaW.PrintWords Go.Proofs.YtcpgpjggnghpdaaW.PrintLast Go.Proofs.YtcpgpjggnghpdaaW.PrintMore Go.Proofs.Ytcpgpjggnghpdaa.P

def gam (i : Nat) : Int := pw 17 (2 * t7s i 7 + 1)
theorem gam_in (i : Nat) : 0 ≤ gam i ∧ gam i ≤ 3328 := pw_in _ _
def mnE (a b : Nat → Int) (i : Nat) : Int := (a (2 * i) * b (2 * i) + a (2 * i + 1) * b (2 * i + 1) % 3329 * gam i) % 3329
def mnO (a b : Nat → Int) (i : Nat) : Int := (a (2 * i) * b (2 * i + 1) + a (2 * i + 1) * b (2 * i)) % 3329
def mulNttV (a b : Nat → Int) (n : Nat) : Int := if n % 2 = 0 then mnE a b (n / 2) else mnO a b (n / 2)
theorem mulNttV_e (a b : Nat → Int) (i : Nat) : mulNttV a b (2 * i) = mnE a b i := by
  unfold mulNttV; rw [if_pos (by omega), show 2 * i / 2 = i by omega]
theorem mulNttV_o (a b : Nat → Int) (i : Nat) : mulNttV a b (2 * i + 1) = mnO a b i := by
  unfold mulNttV; rw [if_neg (by omega), show (2 * i + 1) / 2 = i by omega]
theorem mulNttV_in (a b : Nat → Int) (n : Nat) : 0 ≤ mulNttV a b n ∧ mulNttV a b n ≤ 3328 := by
  unfold mulNttV mnE mnO
  split
  · exact mod_in _
  · exact mod_in _
theorem turn2 (i : Nat) : wrap64 ((wrap64 (2 * ((t7s i 7 : Nat) : Int))) + 1) = ((2 * t7s i 7 + 1 : Nat) : Int) := by
  have h := t7_lt i
  have h1 : t7s i 7 ≤ 100000 := by omega
  have h2 : 2 * t7s i 7 < 9223372036854775807 := by omega
  rw [wdbl _ h1, w64s _ h2]
theorem pow17_ok (i : Nat) : 2 * t7s i 7 + 1 ≤ 1000000000 := by have := t7_lt i; omega
theorem mnE_w (a b : Nat → Int) (ha : ∀ i, 0 ≤ a i ∧ a i ≤ 3328) (hb : ∀ i, 0 ≤ b i ∧ b i ≤ 3328) (i : Nat) :
    wrap64 ((wrap64 (a (2 * i) * b (2 * i))) + (wrap64 ((Int.tmod (wrap64 (a (2 * i + 1) * b (2 * i + 1))) 3329) * gam i))) = a (2 * i) * b (2 * i) + a (2 * i + 1) * b (2 * i + 1) % 3329 * gam i := by
  have h1 := mul_bd (ha (2 * i)) (hb (2 * i))
  have h2 := mul_bd (mod_in (a (2 * i + 1) * b (2 * i + 1))) (gam_in i)
  rw [sq_mod (ha _) (hb _), wmul_in (ha _) (hb _), wmul_in (mod_in _) (gam_in i)]
  exact w64 (by omega) (by omega)
theorem mnE_bd (a b : Nat → Int) (ha : ∀ i, 0 ≤ a i ∧ a i ≤ 3328) (hb : ∀ i, 0 ≤ b i ∧ b i ≤ 3328) (i : Nat) : 0 ≤ a (2 * i) * b (2 * i) + a (2 * i + 1) * b (2 * i + 1) % 3329 * gam i ∧ a (2 * i) * b (2 * i) + a (2 * i + 1) * b (2 * i + 1) % 3329 * gam i ≤ 9223372036854775807 := by
  have h1 := mul_bd (ha (2 * i)) (hb (2 * i))
  have h2 := mul_bd (mod_in (a (2 * i + 1) * b (2 * i + 1))) (gam_in i)
  omega
theorem mnO_w (a b : Nat → Int) (ha : ∀ i, 0 ≤ a i ∧ a i ≤ 3328) (hb : ∀ i, 0 ≤ b i ∧ b i ≤ 3328) (i : Nat) :
    wrap64 ((wrap64 (a (2 * i) * b (2 * i + 1))) + (wrap64 (a (2 * i + 1) * b (2 * i)))) = a (2 * i) * b (2 * i + 1) + a (2 * i + 1) * b (2 * i) := by
  have h1 := mul_bd (ha (2 * i)) (hb (2 * i + 1))
  have h2 := mul_bd (ha (2 * i + 1)) (hb (2 * i))
  rw [wmul_in (ha _) (hb _), wmul_in (ha _) (hb _)]
  exact w64 (by omega) (by omega)
theorem mnO_bd (a b : Nat → Int) (ha : ∀ i, 0 ≤ a i ∧ a i ≤ 3328) (hb : ∀ i, 0 ≤ b i ∧ b i ≤ 3328) (i : Nat) : 0 ≤ a (2 * i) * b (2 * i + 1) + a (2 * i + 1) * b (2 * i) ∧ a (2 * i) * b (2 * i + 1) + a (2 * i + 1) * b (2 * i) ≤ 9223372036854775807 := by
  have h1 := mul_bd (ha (2 * i)) (hb (2 * i + 1))
  have h2 := mul_bd (ha (2 * i + 1)) (hb (2 * i))
  omega

theorem impl_MulNtt_ev (a b : Nat → Int) (ha : ∀ i, 0 ≤ a i ∧ a i ≤ 3328) (hb : ∀ i, 0 ≤ b i ∧ b i ≤ 3328) : Ev (fun k => impl_MulNtt.f k (vec a) (vec b)) (vec (mulNttV a b)) := by
  have core : Ev (fun k => impl_MulNtt.l0 k (vec a) (vec b) (List.replicate 256 0) 0) (vec (mulNttV a b)) := by
    rw [vec_replicate]
    have key := Ev.up (g := fun i k => impl_MulNtt.l0 k (vec a) (vec b) (vec fun n => if n < 2 * i then mulNttV a b n else 0) (i : Int)) (r := vec (mulNttV a b)) 128 ?_ ?_ 0 (by omega)
    · have e : (vec fun _ => (0 : Int)) = vec fun n => if n < 2 * 0 then mulNttV a b n else 0 := vec_congr fun n _ => by rw [if_neg (by omega)]
      rw [e]; exact key
    · intro i hi h
      obtain ⟨K1, h1⟩ := impl_Turn7_ev i hi 
      obtain ⟨K2, h2⟩ := impl_PowQ_ev 17 (by decide) (2 * t7s i 7 + 1) (pow17_ok i)
      obtain ⟨K3, h3⟩ := h
      refine ⟨K1 + K2 + K3 + 1, fun k hk => ?_⟩
      obtain ⟨m, rfl⟩ : ∃ m, k = m + 1 := ⟨k - 1, by omega⟩
      have e1 : impl_Turn7.f m (i : Int) = some ((t7s i 7 : Nat) : Int) := h1 m (by omega)
      have e2 : impl_PowQ.f m 17 ((2 * t7s i 7 + 1 : Nat) : Int) = some (pw 17 (2 * t7s i 7 + 1)) := h2 m (by omega)
      have e3 := h3 m (by omega)
      have c0 : 2 * i < 256 := by omega
      have c1 : 2 * i + 1 < 256 := by omega
      have b0 : i ≤ 100000 := by omega
      have b1 : 2 * i < 9223372036854775807 := by omega
      have b2 : i < 9223372036854775807 := by omega
      have be := mnE_bd a b ha hb i
      have bo := mnO_bd a b ha hb i
      have bem : -9223372036854775808 ≤ a (2 * i) * b (2 * i) + a (2 * i + 1) * b (2 * i + 1) % 3329 * gam i := Int.le_trans (by decide) be.1
      have bom : -9223372036854775808 ≤ a (2 * i) * b (2 * i + 1) + a (2 * i + 1) * b (2 * i) := Int.le_trans (by decide) bo.1
      have ee : (vec fun n => if n = 2 * i + 1 then mnO a b i else if n = 2 * i then mnE a b i else if n < 2 * i then mulNttV a b n else 0) = vec fun n => if n < 2 * (i + 1) then mulNttV a b n else 0 := by
        refine vec_congr fun n _ => ?_
        by_cases h1 : n = 2 * i + 1
        · subst h1; rw [if_pos rfl, if_pos (by omega), mulNttV_o]
        · rw [if_neg h1]
          by_cases h2 : n = 2 * i
          · subst h2; rw [if_pos rfl, if_pos (by omega), mulNttV_e]
          · rw [if_neg h2]
            by_cases h3 : n < 2 * i
            · rw [if_pos h3, if_pos (by omega)]
            · rw [if_neg h3, if_neg (by omega)]
      clear h1 h2 h3 hk be
      simp only [impl_MulNtt.l0]
      rw [if_pos (show (i : Int) < 128 from Int.ofNat_lt.mpr hi), e1, Option.bind_some, turn2, e2, Option.bind_some, wdbl i b0, w64s (2 * i) b1, if_pos (Int.natCast_nonneg _), vec_length, vec_length, vec_length, if_pos (Int.ofNat_lt.mpr c0), if_pos (Int.natCast_nonneg _), if_pos (Int.ofNat_lt.mpr c1), if_pos (Int.ofNat_lt.mpr c0), if_pos (Int.ofNat_lt.mpr c1),
        vec_rd _ _ c0, vec_rd _ _ c0, vec_rd _ _ c1, vec_rd _ _ c1]
      rw [show pw 17 (2 * t7s i 7 + 1) = gam i from rfl, mnE_w a b ha hb i, mnO_w a b ha hb i, modQ_eq _ bem (mnE_bd a b ha hb i).2, Option.bind_some, if_pos (Int.ofNat_lt.mpr c0), modQ_eq _ bom bo.2, Option.bind_some, if_pos (Int.ofNat_lt.mpr c1), Int.toNat_natCast, Int.toNat_natCast, vec_set, vec_set, w64s i b2]
      rw [show (a (2 * i) * b (2 * i) + a (2 * i + 1) * b (2 * i + 1) % 3329 * gam i) % 3329 = mnE a b i from rfl, show (a (2 * i) * b (2 * i + 1) + a (2 * i + 1) * b (2 * i)) % 3329 = mnO a b i from rfl, ee]
      exact e3
    · refine Ev.step (f := fun _ => some (vec fun n => if n < 2 * 128 then mulNttV a b n else 0)) (fun k => ?_) ?_
      · simp only [impl_MulNtt.l0]
        rw [if_neg (by decide)]
      · rw [vec_congr (g := mulNttV a b) fun n hn => if_pos hn]; exact Ev.now _
  unfold impl_MulNtt.f
  have oka := vec_ok (f := a) fun i _ => ha i
  have okb := vec_ok (f := b) fun i _ => hb i
  have la := vec_length a
  have lb := vec_length b
  refine Ev.bind (oka ▸ impl_PolyOk_ev (vec a) (by omega)) (Ev.pos rfl (Ev.bind (okb ▸ impl_PolyOk_ev (vec b) (by omega)) ?_))
  refine Ev.step (fun k => ?_) core
  simp only [impl_MulNtt.j0]
  rw [if_neg (by decide), if_pos (by decide)]

theorem spec_MulNtt_ev (a b : Nat → Int) (ha : ∀ i, 0 ≤ a i ∧ a i ≤ 3328) (hb : ∀ i, 0 ≤ b i ∧ b i ≤ 3328) : Ev (fun k => spec_MulNtt.f k (vec a) (vec b)) (vec (mulNttV a b)) := by
  have core : Ev (fun k => spec_MulNtt.l0 k (vec a) (vec b) [] 0) (vec (mulNttV a b)) := by
    refine Ev.up (g := fun i k => spec_MulNtt.l0 k (vec a) (vec b) ((vec (mulNttV a b)).take (2 * i)) (i : Int)) (r := vec (mulNttV a b)) 128 ?_ ?_ 0 (by omega)
    · intro i hi h
      obtain ⟨K1, h1⟩ := spec_Turn7_ev i hi 
      obtain ⟨K2, h2⟩ := spec_PowQ_ev 17 (by decide) (2 * t7s i 7 + 1) (pow17_ok i)
      obtain ⟨K3, h3⟩ := h
      refine ⟨K1 + K2 + K3 + 1, fun k hk => ?_⟩
      obtain ⟨m, rfl⟩ : ∃ m, k = m + 1 := ⟨k - 1, by omega⟩
      have e1 : spec_Turn7.f m (i : Int) = some ((t7s i 7 : Nat) : Int) := h1 m (by omega)
      have e2 : spec_PowQ.f m 17 ((2 * t7s i 7 + 1 : Nat) : Int) = some (pw 17 (2 * t7s i 7 + 1)) := h2 m (by omega)
      have e3 := h3 m (by omega)
      have c0 : 2 * i < 256 := by omega
      have c1 : 2 * i + 1 < 256 := by omega
      have b0 : i ≤ 100000 := by omega
      have b1 : 2 * i < 9223372036854775807 := by omega
      have b2 : i < 9223372036854775807 := by omega
      have be := mnE_bd a b ha hb i
      have bo := mnO_bd a b ha hb i
      have ln : (List.take (2 * i) (vec (mulNttV a b))).length + [mnE a b i, mnO a b i].length < 17592186044416 := by show _ + 2 < _; rw [List.length_take, vec_length]; omega
      have ee : List.take (2 * i) (vec (mulNttV a b)) ++ [mnE a b i, mnO a b i] = List.take (2 * (i + 1)) (vec (mulNttV a b)) := by
        have t1 := take_snoc (vec (mulNttV a b)) (2 * i) (by rw [vec_length]; exact c0)
        have t2 := take_snoc (vec (mulNttV a b)) (2 * i + 1) (by rw [vec_length]; exact c1)
        rw [vec_get, mulNttV_e] at t1
        rw [vec_get, mulNttV_o] at t2
        rw [show 2 * (i + 1) = 2 * i + 1 + 1 by omega, ← t2, ← t1, List.append_assoc]
        rfl
      clear h1 h2 h3 hk
      simp only [spec_MulNtt.l0]
      rw [if_pos (show (i : Int) < 128 from Int.ofNat_lt.mpr hi), e1, Option.bind_some, turn2, e2, Option.bind_some, wdbl i b0, w64s (2 * i) b1, if_pos (Int.natCast_nonneg _), vec_length, vec_length, if_pos (Int.ofNat_lt.mpr c1), if_pos (Int.ofNat_lt.mpr c1), if_pos (Int.natCast_nonneg _), if_pos (Int.ofNat_lt.mpr c0), if_pos (Int.ofNat_lt.mpr c0),
        vec_rd _ _ c0, vec_rd _ _ c0, vec_rd _ _ c1, vec_rd _ _ c1, Option.bind_some]
      rw [show pw 17 (2 * t7s i 7 + 1) = gam i from rfl, mnE_w a b ha hb i, mnO_w a b ha hb i, Int.tmod_eq_emod_of_nonneg be.1, Int.tmod_eq_emod_of_nonneg bo.1, w64s i b2]
      rw [show (a (2 * i) * b (2 * i) + a (2 * i + 1) * b (2 * i + 1) % 3329 * gam i) % 3329 = mnE a b i from rfl, show (a (2 * i) * b (2 * i + 1) + a (2 * i + 1) * b (2 * i)) % 3329 = mnO a b i from rfl]
      rw [if_pos ln, ee]
      exact e3
    · refine Ev.step (f := fun _ => some (List.take (2 * 128) (vec (mulNttV a b)))) (fun k => ?_) ?_
      · simp only [spec_MulNtt.l0]
        rw [if_neg (by decide)]
      · rw [List.take_of_length_le (by rw [vec_length]; decide)]; exact Ev.now _
  unfold spec_MulNtt.f
  have oka := vec_ok (f := a) fun i _ => ha i
  have okb := vec_ok (f := b) fun i _ => hb i
  simp only [Option.bind_some]
  refine Ev.bind (oka ▸ spec_PolyOk_ev (vec a)) (Ev.pos rfl (Ev.bind (okb ▸ spec_PolyOk_ev (vec b)) ?_))
  refine Ev.step (fun k => ?_) core
  simp only [spec_MulNtt.j0]
  rw [if_neg (by decide)]
end Go.Proofs.Ytcpgpjggnghpdaa.Pure
