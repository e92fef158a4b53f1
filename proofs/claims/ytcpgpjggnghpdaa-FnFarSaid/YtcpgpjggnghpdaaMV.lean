/- Polynomials as 256 numbers; the product, of the program: each number of it is a sum. -/
import Derived.Test.YtcpgpjggnghpdaaMU
import Derived.Test.YtcpgpjggnghpdaaMQ
import Derived.Test.YtcpgpjggnghpdaaPx9
namespace Go.Proofs.Ytcpgpjggnghpdaa.Pure
open Go.RowKit Go.Proofs.YtcpgpjggnghpdaaW.PrintWords Go.Proofs.YtcpgpjggnghpdaaW.PrintLast Go.Proofs.YtcpgpjggnghpdaaW.PrintMore Go.Proofs.Ytcpgpjggnghpdaa.P

def vec (f : Nat → Int) : List Int := (List.range 256).map f
theorem vec_length (f : Nat → Int) : (vec f).length = 256 := by simp [vec]
theorem vec_get (f : Nat → Int) (i : Nat) (h : i < (vec f).length) : (vec f)[i] = f i := by simp [vec]
theorem vec_rd (f : Nat → Int) (i : Nat) (h : i < 256) : rd (vec f) (i : Int) = f i := by rw [rd_get _ _ (by rw [vec_length]; exact h), vec_get]
theorem vec_congr {f g : Nat → Int} (h : ∀ i, i < 256 → f i = g i) : vec f = vec g := by
  apply List.ext_getElem
  · rw [vec_length, vec_length]
  · intro i h1 h2
    rw [vec_get, vec_get]
    exact h i (by rw [vec_length] at h1; exact h1)
theorem vec_set (f : Nat → Int) (n : Nat) (v : Int) : (vec f).set n v = vec fun i => if i = n then v else f i := by
  apply List.ext_getElem
  · rw [List.length_set, vec_length, vec_length]
  · intro i h1 h2
    rw [List.getElem_set, vec_get, vec_get]
    by_cases h : n = i
    · rw [if_pos h, if_pos h.symm]
    · rw [if_neg h, if_neg (fun e => h e.symm)]
theorem vec_inj {f g : Nat → Int} (h : vec f = vec g) (i : Nat) (hi : i < 256) : f i = g i := by
  have h1 : rd (vec f) i = rd (vec g) i := by rw [h]
  rwa [vec_rd f i hi, vec_rd g i hi] at h1
theorem vec_of {l : List Int} (h : l.length = 256) : l = vec fun i => rd l i := by
  apply List.ext_getElem
  · rw [vec_length, h]
  · intro i h1 h2
    rw [vec_get, rd_get l i h1]
theorem vec_replicate (d : Int) : List.replicate 256 d = vec fun _ => d := by
  apply List.ext_getElem
  · rw [vec_length, List.length_replicate]
  · intro i h1 h2
    rw [vec_get, List.getElem_replicate]
theorem vec_ok {f : Nat → Int} (h : ∀ i, i < 256 → 0 ≤ f i ∧ f i ≤ 3328) : polyOk (vec f) = true := by
  refine polyOk_mk (vec_length f) fun x hx => ?_
  obtain ⟨i, hi, rfl⟩ := List.mem_map.mp hx
  exact h i (List.mem_range.mp hi)
theorem vec_ok_get {f : Nat → Int} (h : polyOk (vec f) = true) (i : Nat) (hi : i < 256) : 0 ≤ f i ∧ f i ≤ 3328 := by
  have := polyOk_get h i (by rw [vec_length]; exact hi)
  rwa [vec_get] at this
/-- A right polynomial is 256 numbers in their range. -/
theorem poly_vec {l : List Int} (h : polyOk l = true) : ∃ f, l = vec f ∧ ∀ i, i < 256 → 0 ≤ f i ∧ f i ≤ 3328 := by
  have e := vec_of (polyOk_len h)
  refine ⟨_, e, fun i hi => ?_⟩
  rw [e] at h
  exact vec_ok_get h i hi
/-- The same, each place 0 beyond the last. -/
theorem poly_vec' {l : List Int} (h : polyOk l = true) : ∃ f, l = vec f ∧ ∀ i, 0 ≤ f i ∧ f i ≤ 3328 := by
  obtain ⟨f, rfl, hf⟩ := poly_vec h
  refine ⟨fun i => if i < 256 then f i else 0, vec_congr fun i hi => (if_pos hi).symm, fun i => ?_⟩
  show 0 ≤ (if i < 256 then f i else 0) ∧ (if i < 256 then f i else 0) ≤ 3328
  split
  · exact hf i ‹_›
  · omega

theorem modQ_eq (n : Int) (h1 : -9223372036854775808 ≤ n) (h2 : n ≤ 9223372036854775807) : impl_modQ.f n = some (n % 3329) := by
  unfold impl_modQ.f
  congr 1
  by_cases h : 0 ≤ n
  · rw [Int.tmod_eq_emod_of_nonneg h, w64 (by omega) (by omega), Int.tmod_eq_emod_of_nonneg (by omega)]
    omega
  · have e : Int.tmod n 3329 = -((-n) % 3329) := by
      have := Int.neg_tmod (-n) 3329
      rw [Int.neg_neg] at this
      rw [this, Int.tmod_eq_emod_of_nonneg (by omega)]
    rw [e, w64 (by omega) (by omega), Int.tmod_eq_emod_of_nonneg (by omega)]
    omega

/-- What the number at place i of a puts to the product's number at place n. -/
def termM (a b : Nat → Int) (i n : Nat) : Int := if i ≤ n then a i * b (n - i) else -(a i * b (256 + n - i))
def mulV (a b : Nat → Int) (n : Nat) : Int := sumN 256 (fun i => termM a b i n) % 3329

theorem mul_bd {x y : Int} (hx : 0 ≤ x ∧ x ≤ 3328) (hy : 0 ≤ y ∧ y ≤ 3328) : 0 ≤ x * y ∧ x * y ≤ 11075584 := by
  refine ⟨Int.mul_nonneg hx.1 hy.1, ?_⟩
  have := Int.mul_le_mul hx.2 hy.2 hy.1 (by omega)
  omega
theorem termM_bd {a b : Nat → Int} (ha : ∀ i, 0 ≤ a i ∧ a i ≤ 3328) (hb : ∀ i, 0 ≤ b i ∧ b i ≤ 3328) (i n : Nat) : -11075584 ≤ termM a b i n ∧ termM a b i n ≤ 11075584 := by
  unfold termM
  split
  · have := mul_bd (ha i) (hb (n - i)); omega
  · have := mul_bd (ha i) (hb (256 + n - i)); omega
theorem sumM_bd {a b : Nat → Int} (ha : ∀ i, 0 ≤ a i ∧ a i ≤ 3328) (hb : ∀ i, 0 ≤ b i ∧ b i ≤ 3328) (m n : Nat) (hm : m ≤ 256) :
    -2835349504 ≤ sumN m (fun i => termM a b i n) ∧ sumN m (fun i => termM a b i n) ≤ 2835349504 := by
  have := sumN_bound (n := m) (c := 11075584) (f := fun i => termM a b i n) (fun i _ => termM_bd ha hb i n)
  omega

/-- Behind row i (and j numbers of it). -/
def accM (a b : Nat → Int) (i j n : Nat) : Int := sumN i (fun i' => termM a b i' n) + if (n + 256 - i) % 256 < j then termM a b i n else 0

end Go.Proofs.Ytcpgpjggnghpdaa.Pure
