/- Polynomials as 256 numbers; the product, of the program: each number of it is a sum. -/
import Derived.Test.YtcpgpjggnghpdaaMU
import Derived.Test.YtcpgpjggnghpdaaMQ
import Derived.Test.YtcpgpjggnghpdaaPx9
import Derived.Test.YtcpgpjggnghpdaaPx34
namespace Go.Proofs.Ytcpgpjggnghpdaa.Pure
open Go.RowKit Go.Proofs.YtcpgpjggnghpdaaW.PrintWords Go.Proofs.YtcpgpjggnghpdaaW.PrintLast Go.Proofs.YtcpgpjggnghpdaaW.PrintMore Go.Proofs.Ytcpgpjggnghpdaa.P

def vec (f : Nat → Int) : List Int := (List.range 256).map f
theorem vec_length (f : Nat → Int) : (vec f).length = 256 := by simp [vec]
theorem vec_get (f : Nat → Int) (i : Nat) (h : i < (vec f).length) : (vec f)[i] = f i := by simp [vec]
theorem vec_rd (f : Nat → Int) (i : Nat) (h : i < 256) : rd (vec f) (i : Int) = f i := by rw [rd_get _ _ (by rw [vec_length]; exact h), vec_get]
theorem vec_congr {f g : Nat → Int} (h : ∀ i, i < 256 → f i = g i) : vec f = vec g := by
  apply List.ext_getElem
  · rw [vec_length, vec_length]
  · intro i h1 h2
    rw [vec_get, vec_get]
    exact h i (by rw [vec_length] at h1; exact h1)
theorem vec_set (f : Nat → Int) (n : Nat) (v : Int) : (vec f).set n v = vec fun i => if i = n then v else f i := by
  apply List.ext_getElem
  · rw [List.length_set, vec_length, vec_length]
  · intro i h1 h2
    rw [List.getElem_set, vec_get, vec_get]
    by_cases h : n = i
    · rw [if_pos h, if_pos h.symm]
    · rw [if_neg h, if_neg (fun e => h e.symm)]
theorem vec_inj {f g : Nat → Int} (h : vec f = vec g) (i : Nat) (hi : i < 256) : f i = g i := by
  have h1 : rd (vec f) i = rd (vec g) i := by rw [h]
  rwa [vec_rd f i hi, vec_rd g i hi] at h1
theorem vec_of {l : List Int} (h : l.length = 256) : l = vec fun i => rd l i := by
  apply List.ext_getElem
  · rw [vec_length, h]
  · intro i h1 h2
    rw [vec_get, rd_get l i h1]
theorem vec_replicate (d : Int) : List.replicate 256 d = vec fun _ => d := by
  apply List.ext_getElem
  · rw [vec_length, List.length_replicate]
  · intro i h1 h2
    rw [vec_get, List.getElem_replicate]
theorem vec_ok {f : Nat → Int} (h : ∀ i, i < 256 → 0 ≤ f i ∧ f i ≤ 3328) : polyOk (vec f) = true := by
  refine polyOk_mk (vec_length f) fun x hx => ?_
  obtain ⟨i, hi, rfl⟩ := List.mem_map.mp hx
  exact h i (List.mem_range.mp hi)
theorem vec_ok_get {f : Nat → Int} (h : polyOk (vec f) = true) (i : Nat) (hi : i < 256) : 0 ≤ f i ∧ f i ≤ 3328 := by
  have := polyOk_get h i (by rw [vec_length]; exact hi)
  rwa [vec_get] at this
/-- A right polynomial is 256 numbers in their range. -/
theorem poly_vec {l : List Int} (h : polyOk l = true) : ∃ f, l = vec f ∧ ∀ i, i < 256 → 0 ≤ f i ∧ f i ≤ 3328 := by
  have e := vec_of (polyOk_len h)
  refine ⟨_, e, fun i hi => ?_⟩
  rw [e] at h
  exact vec_ok_get h i hi
/-- The same, each place 0 beyond the last. -/
theorem poly_vec' {l : List Int} (h : polyOk l = true) : ∃ f, l = vec f ∧ ∀ i, 0 ≤ f i ∧ f i ≤ 3328 := by
  obtain ⟨f, rfl, hf⟩ := poly_vec h
  refine ⟨fun i => if i < 256 then f i else 0, vec_congr fun i hi => (if_pos hi).symm, fun i => ?_⟩
  show 0 ≤ (if i < 256 then f i else 0) ∧ (if i < 256 then f i else 0) ≤ 3328
  split
  · exact hf i ‹_›
  · omega

theorem modQ_eq (n : Int) (h1 : -9223372036854775808 ≤ n) (h2 : n ≤ 9223372036854775807) : impl_modQ.f n = some (n % 3329) := by
  unfold impl_modQ.f
  congr 1
  by_cases h : 0 ≤ n
  · rw [Int.tmod_eq_emod_of_nonneg h, w64 (by omega) (by omega), Int.tmod_eq_emod_of_nonneg (by omega)]
    omega
  · have e : Int.tmod n 3329 = -((-n) % 3329) := by
      have := Int.neg_tmod (-n) 3329
      rw [Int.neg_neg] at this
      rw [this, Int.tmod_eq_emod_of_nonneg (by omega)]
    rw [e, w64 (by omega) (by omega), Int.tmod_eq_emod_of_nonneg (by omega)]
    omega

/-- What the number at place i of a puts to the product's number at place n. -/
def termM (a b : Nat → Int) (i n : Nat) : Int := if i ≤ n then a i * b (n - i) else -(a i * b (256 + n - i))
def mulV (a b : Nat → Int) (n : Nat) : Int := sumN 256 (fun i => termM a b i n) % 3329

theorem mul_bd {x y : Int} (hx : 0 ≤ x ∧ x ≤ 3328) (hy : 0 ≤ y ∧ y ≤ 3328) : 0 ≤ x * y ∧ x * y ≤ 11075584 := by
  refine ⟨Int.mul_nonneg hx.1 hy.1, ?_⟩
  have := Int.mul_le_mul hx.2 hy.2 hy.1 (by omega)
  omega
theorem termM_bd {a b : Nat → Int} (ha : ∀ i, 0 ≤ a i ∧ a i ≤ 3328) (hb : ∀ i, 0 ≤ b i ∧ b i ≤ 3328) (i n : Nat) : -11075584 ≤ termM a b i n ∧ termM a b i n ≤ 11075584 := by
  unfold termM
  split
  · have := mul_bd (ha i) (hb (n - i)); omega
  · have := mul_bd (ha i) (hb (256 + n - i)); omega
theorem sumM_bd {a b : Nat → Int} (ha : ∀ i, 0 ≤ a i ∧ a i ≤ 3328) (hb : ∀ i, 0 ≤ b i ∧ b i ≤ 3328) (m n : Nat) (hm : m ≤ 256) :
    -2835349504 ≤ sumN m (fun i => termM a b i n) ∧ sumN m (fun i => termM a b i n) ≤ 2835349504 := by
  have := sumN_bound (n := m) (c := 11075584) (f := fun i => termM a b i n) (fun i _ => termM_bd ha hb i n)
  omega

/-- Behind row i (and j numbers of it). -/
def accM (a b : Nat → Int) (i j n : Nat) : Int := sumN i (fun i' => termM a b i' n) + if (n + 256 - i) % 256 < j then termM a b i n else 0

set_option maxHeartbeats 800000 in
theorem impl_PolyMul_ev (a b : Nat → Int) (ha : ∀ i, 0 ≤ a i ∧ a i ≤ 3328) (hb : ∀ i, 0 ≤ b i ∧ b i ≤ 3328) : Ev (fun k => impl_PolyMul.f k (vec a) (vec b)) (vec (mulV a b)) := by
  unfold impl_PolyMul.f
  have oka := vec_ok (f := a) fun i _ => ha i
  have okb := vec_ok (f := b) fun i _ => hb i
  have la := vec_length a
  have lb := vec_length b
  refine Ev.bind (oka ▸ impl_PolyOk_ev (vec a) (by omega)) (Ev.pos rfl (Ev.bind (okb ▸ impl_PolyOk_ev (vec b) (by omega)) ?_))
  refine Ev.step (f := fun k => impl_PolyMul.l0 k (vec b) (List.replicate 256 0) (vec a) ((vec a).length : Int) 0) (fun k => ?_) ?_
  · simp only [impl_PolyMul.j0]
    rw [if_neg (by decide), if_pos (by omega)]
  · rw [la, vec_replicate]
    have key := Ev.up (g := fun i k => impl_PolyMul.l0 k (vec b) (vec (accM a b i 0)) (vec a) ((256 : Nat) : Int) (i : Int)) (r := vec (mulV a b)) 256 ?_ ?_ 0 (by omega)
    · have e : (vec fun _ => (0 : Int)) = vec (accM a b 0 0) := vec_congr fun n _ => by unfold accM; rw [if_neg (by omega)]; rfl
      rw [e]; exact key
    · intro i hi h
      refine Ev.step (f := fun k => impl_PolyMul.l1 k (vec b) (vec (accM a b i 0)) (i : Int) (a i) (vec a) ((256 : Nat) : Int) (i : Int) (vec b) ((256 : Nat) : Int) 0) (fun k => ?_) ?_
      · simp only [impl_PolyMul.l0]
        rw [if_pos (by omega), if_pos (by omega), if_pos (by omega), vec_rd a i hi, lb]
      · refine Ev.up (g := fun j k => impl_PolyMul.l1 k (vec b) (vec (accM a b i j)) (i : Int) (a i) (vec a) ((256 : Nat) : Int) (i : Int) (vec b) ((256 : Nat) : Int) (j : Int)) (r := vec (mulV a b)) 256 ?_ ?_ 0 (by omega)
        · intro j hj h'
          refine Ev.step (fun k => ?_) h'
          simp only [impl_PolyMul.l1]
          have ew : wrap64 ((i : Int) + (j : Int)) = ((i + j : Nat) : Int) := by rw [w64 (by omega) (by omega)]; omega
          have hp := mul_bd (ha i) (hb j)
          rw [if_pos (by omega), if_pos (by omega), if_pos (by omega), ew, vec_rd b j hj, w64s j (by omega), w64 (x := a i * b j) (by omega) (by omega)]
          by_cases hij : i + j < 256
          · have hs := sumM_bd ha hb i (i + j) (by omega)
            have h0 : accM a b i j (i + j) = sumN i (fun i' => termM a b i' (i + j)) := by
              unfold accM; rw [if_neg (by omega)]; omega
            rw [if_pos (by omega), if_pos (by omega), if_pos (by rw [vec_length]; omega), Int.toNat_natCast, vec_rd _ _ hij, vec_set, h0, w64 (by omega) (by omega)]
            have e : (vec fun n => if n = i + j then sumN i (fun i' => termM a b i' (i + j)) + a i * b j else accM a b i j n) = vec (accM a b i (j + 1)) := by
              refine vec_congr fun n hn => ?_
              by_cases hne : n = i + j
              · subst hne
                rw [if_pos rfl]
                unfold accM
                rw [if_pos (by omega)]
                congr 1
                unfold termM
                rw [if_pos (by omega), show i + j - i = j by omega]
              · rw [if_neg hne]
                unfold accM
                congr 1
                by_cases hlt : (n + 256 - i) % 256 < j
                · rw [if_pos hlt, if_pos (by omega)]
                · rw [if_neg hlt, if_neg (by omega)]
            rw [e]
          · have hs := sumM_bd ha hb i (i + j - 256) (by omega)
            have h0 : accM a b i j (i + j - 256) = sumN i (fun i' => termM a b i' (i + j - 256)) := by
              unfold accM; rw [if_neg (by omega)]; omega
            have e2 : wrap64 (((i + j : Nat) : Int) - 256) = ((i + j - 256 : Nat) : Int) := by rw [w64 (by omega) (by omega)]; omega
            rw [if_neg (by omega), e2, if_pos (by omega), if_pos (by rw [vec_length]; omega), Int.toNat_natCast, vec_rd _ _ (by omega), vec_set, h0, w64 (by omega) (by omega)]
            have e : (vec fun n => if n = i + j - 256 then sumN i (fun i' => termM a b i' (i + j - 256)) - a i * b j else accM a b i j n) = vec (accM a b i (j + 1)) := by
              refine vec_congr fun n hn => ?_
              by_cases hne : n = i + j - 256
              · rw [if_pos hne]
                unfold accM
                rw [if_pos (by omega)]
                rw [← hne]
                unfold termM
                rw [if_neg (by omega), show 256 + n - i = j by omega]
                omega
              · rw [if_neg hne]
                unfold accM
                congr 1
                by_cases hlt : (n + 256 - i) % 256 < j
                · rw [if_pos hlt, if_pos (by omega)]
                · rw [if_neg hlt, if_neg (by omega)]
            rw [e]
        · refine Ev.step (fun k => ?_) h
          simp only [impl_PolyMul.l1]
          rw [if_neg (by omega), w64s i (by omega)]
          have e : vec (accM a b i 256) = vec (accM a b (i + 1) 0) := vec_congr fun n _ => by
            unfold accM
            rw [if_pos (by omega), if_neg (by omega)]
            simp only [sumN]; omega
          rw [e]
    · refine Ev.step (f := fun k => impl_PolyMul.l2 k (vec (accM a b 256 0)) ((256 : Nat) : Int) 0) (fun k => ?_) ?_
      · simp only [impl_PolyMul.l0]
        rw [if_neg (by omega), vec_length]
      · have key := Ev.up (g := fun i k => impl_PolyMul.l2 k (vec fun n => if n < i then mulV a b n else accM a b 256 0 n) ((256 : Nat) : Int) (i : Int)) (r := vec (mulV a b)) 256 ?_ ?_ 0 (by omega)
        · have e : vec (accM a b 256 0) = vec fun n => if n < 0 then mulV a b n else accM a b 256 0 n := vec_congr fun n _ => by rw [if_neg (by omega)]
          rw [e]; exact key
        · intro i hi h'
          refine Ev.step (fun k => ?_) h'
          have hs := sumM_bd ha hb 256 i (by omega)
          have h0 : accM a b 256 0 i = sumN 256 (fun i' => termM a b i' i) := by unfold accM; rw [if_neg (by omega)]; omega
          simp only [impl_PolyMul.l2]
          rw [if_pos (by omega), if_pos (by omega), if_pos (by rw [vec_length]; omega), vec_rd _ i hi, if_neg (by omega), h0, modQ_eq _ (by omega) (by omega), Option.bind_some, Int.toNat_natCast, vec_set, w64s i (by omega)]
          have e : (vec fun n => if n = i then sumN 256 (fun i' => termM a b i' i) % 3329 else if n < i then mulV a b n else accM a b 256 0 n) = vec fun n => if n < i + 1 then mulV a b n else accM a b 256 0 n := by
            refine vec_congr fun n _ => ?_
            by_cases h1 : n = i
            · subst h1; rw [if_pos rfl, if_pos (by omega)]; rfl
            · rw [if_neg h1]
              by_cases h2 : n < i
              · rw [if_pos h2, if_pos (by omega)]
              · rw [if_neg h2, if_neg (by omega)]
          rw [e]
        · refine Ev.step (f := fun _ => some (vec (mulV a b))) (fun k => ?_) (Ev.now _)
          simp only [impl_PolyMul.l2]
          rw [if_neg (by omega)]
          exact congrArg some (vec_congr fun n hn => if_pos hn)
end Go.Proofs.Ytcpgpjggnghpdaa.Pure
