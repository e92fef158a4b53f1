/- Polynomials as 256 numbers; the product, of the program: each number of it is a sum. PolyAdd and PolySub, of the program, of right polynomials. Products of polynomials modulo 3329 and X to 256 and one: in whatever order, and through sums. -/
import Derived.Test.YthkbgflbbnjcpaaMKB
import Derived.Test.YthkbgflbbnjcpaaMQ
import Derived.Test.YthkbgflbbnjcpaaPx11
import Derived.Test.YthkbgflbbnjcpaaPx14
import Derived.Test.YthkbgflbbnjcpaaPx17
namespace Go.Proofs.Ythkbgflbbnjcpaa.Pure
open Go.RowKit Go.Proofs.YthkbgflbbnjcpaaW.PrintWords Go.Proofs.YthkbgflbbnjcpaaW.PrintLast Go.Proofs.YthkbgflbbnjcpaaW.PrintMore Go.Proofs.Ythkbgflbbnjcpaa.P

def vec (f : Nat → Int) : List Int := (List.range 256).map f
theorem vec_length (f : Nat → Int) : (vec f).length = 256 := by simp [vec]
theorem vec_get (f : Nat → Int) (i : Nat) (h : i < (vec f).length) : (vec f)[i] = f i := by simp [vec]
theorem vec_rd (f : Nat → Int) (i : Nat) (h : i < 256) : rd (vec f) (i : Int) = f i := by rw [rd_get _ _ (by rw [vec_length]; exact h), vec_get]
theorem vec_congr {f g : Nat → Int} (h : ∀ i, i < 256 → f i = g i) : vec f = vec g := by
  apply List.ext_getElem
  · rw [vec_length, vec_length]
  · intro i h1 h2
    rw [vec_get, vec_get]
    exact h i (by rw [vec_length] at h1; exact h1)
theorem vec_set (f : Nat → Int) (n : Nat) (v : Int) : (vec f).set n v = vec fun i => if i = n then v else f i := by
  apply List.ext_getElem
  · rw [List.length_set, vec_length, vec_length]
  · intro i h1 h2
    rw [List.getElem_set, vec_get, vec_get]
    by_cases h : n = i
    · rw [if_pos h, if_pos h.symm]
    · rw [if_neg h, if_neg (fun e => h e.symm)]
theorem vec_inj {f g : Nat → Int} (h : vec f = vec g) (i : Nat) (hi : i < 256) : f i = g i := by
  have h1 : rd (vec f) i = rd (vec g) i := by rw [h]
  rwa [vec_rd f i hi, vec_rd g i hi] at h1
theorem vec_of {l : List Int} (h : l.length = 256) : l = vec fun i => rd l i := by
  apply List.ext_getElem
  · rw [vec_length, h]
  · intro i h1 h2
    rw [vec_get, rd_get l i h1]
theorem vec_replicate (d : Int) : List.replicate 256 d = vec fun _ => d := by
  apply List.ext_getElem
  · rw [vec_length, List.length_replicate]
  · intro i h1 h2
    rw [vec_get, List.getElem_replicate]
theorem vec_ok {f : Nat → Int} (h : ∀ i, i < 256 → 0 ≤ f i ∧ f i ≤ 3328) : polyOk (vec f) = true := by
  refine polyOk_mk (vec_length f) fun x hx => ?_
  obtain ⟨i, hi, rfl⟩ := List.mem_map.mp hx
  exact h i (List.mem_range.mp hi)
theorem vec_ok_get {f : Nat → Int} (h : polyOk (vec f) = true) (i : Nat) (hi : i < 256) : 0 ≤ f i ∧ f i ≤ 3328 := by
  have := polyOk_get h i (by rw [vec_length]; exact hi)
  rwa [vec_get] at this
/-- A right polynomial is 256 numbers in their range. -/
theorem poly_vec {l : List Int} (h : polyOk l = true) : ∃ f, l = vec f ∧ ∀ i, i < 256 → 0 ≤ f i ∧ f i ≤ 3328 := by
  have e := vec_of (polyOk_len h)
  refine ⟨_, e, fun i hi => ?_⟩
  rw [e] at h
  exact vec_ok_get h i hi
/-- The same, each place 0 beyond the last. -/
theorem poly_vec' {l : List Int} (h : polyOk l = true) : ∃ f, l = vec f ∧ ∀ i, 0 ≤ f i ∧ f i ≤ 3328 := by
  obtain ⟨f, rfl, hf⟩ := poly_vec h
  refine ⟨fun i => if i < 256 then f i else 0, vec_congr fun i hi => (if_pos hi).symm, fun i => ?_⟩
  show 0 ≤ (if i < 256 then f i else 0) ∧ (if i < 256 then f i else 0) ≤ 3328
  split
  · exact hf i ‹_›
  · omega

theorem modQ_eq (n : Int) (h1 : -9223372036854775808 ≤ n) (h2 : n ≤ 9223372036854775807) : impl_modQ.f n = some (n % 3329) := by
  unfold impl_modQ.f
  congr 1
  by_cases h : 0 ≤ n
  · rw [Int.tmod_eq_emod_of_nonneg h, w64 (by omega) (by omega), Int.tmod_eq_emod_of_nonneg (by omega)]
    omega
  · have e : Int.tmod n 3329 = -((-n) % 3329) := by
      have := Int.neg_tmod (-n) 3329
      rw [Int.neg_neg] at this
      rw [this, Int.tmod_eq_emod_of_nonneg (by omega)]
    rw [e, w64 (by omega) (by omega), Int.tmod_eq_emod_of_nonneg (by omega)]
    omega

/-- What the number at place i of a puts to the product's number at place n. -/
def termM (a b : Nat → Int) (i n : Nat) : Int := if i ≤ n then a i * b (n - i) else -(a i * b (256 + n - i))
def mulV (a b : Nat → Int) (n : Nat) : Int := sumN 256 (fun i => termM a b i n) % 3329

theorem mul_bd {x y : Int} (hx : 0 ≤ x ∧ x ≤ 3328) (hy : 0 ≤ y ∧ y ≤ 3328) : 0 ≤ x * y ∧ x * y ≤ 11075584 := by
  refine ⟨Int.mul_nonneg hx.1 hy.1, ?_⟩
  have := Int.mul_le_mul hx.2 hy.2 hy.1 (by omega)
  omega
theorem termM_bd {a b : Nat → Int} (ha : ∀ i, 0 ≤ a i ∧ a i ≤ 3328) (hb : ∀ i, 0 ≤ b i ∧ b i ≤ 3328) (i n : Nat) : -11075584 ≤ termM a b i n ∧ termM a b i n ≤ 11075584 := by
  unfold termM
  split
  · have := mul_bd (ha i) (hb (n - i)); omega
  · have := mul_bd (ha i) (hb (256 + n - i)); omega
theorem sumM_bd {a b : Nat → Int} (ha : ∀ i, 0 ≤ a i ∧ a i ≤ 3328) (hb : ∀ i, 0 ≤ b i ∧ b i ≤ 3328) (m n : Nat) (hm : m ≤ 256) :
    -2835349504 ≤ sumN m (fun i => termM a b i n) ∧ sumN m (fun i => termM a b i n) ≤ 2835349504 := by
  have := sumN_bound (n := m) (c := 11075584) (f := fun i => termM a b i n) (fun i _ => termM_bd ha hb i n)
  omega

/-- Behind row i (and j numbers of it). -/
def accM (a b : Nat → Int) (i j n : Nat) : Int := sumN i (fun i' => termM a b i' n) + if (n + 256 - i) % 256 < j then termM a b i n else 0

theorem impl_PolyAdd_ev (a b : Nat → Int) (ha : ∀ i, 0 ≤ a i ∧ a i ≤ 3328) (hb : ∀ i, 0 ≤ b i ∧ b i ≤ 3328) : Ev (fun k => impl_PolyAdd.f k (vec a) (vec b)) (vec fun i => (a i + b i) % 3329) := by
  have key : Ev (fun k => impl_each_PolyAdd_1.f k (vec a) (vec b)) (vec fun i => (a i + b i) % 3329) := by
    unfold impl_each_PolyAdd_1.f
    have oka := vec_ok (f := a) fun i _ => ha i
    have okb := vec_ok (f := b) fun i _ => hb i
    have la := vec_length a
    have lb := vec_length b
    refine Ev.bind (oka ▸ impl_PolyOk_ev (vec a) (by omega)) (Ev.pos rfl (Ev.bind (okb ▸ impl_PolyOk_ev (vec b) (by omega)) ?_))
    refine Ev.step (f := fun k => impl_each_PolyAdd_1.l0 k (vec a) (vec b) (List.replicate 256 0) ((256 : Nat) : Int) 0) (fun k => ?_) ?_
    · simp only [impl_each_PolyAdd_1.j0, Option.bind_some]
      rw [if_neg (by decide), if_pos (by omega), List.length_replicate]
    · rw [vec_replicate]
      have key := Ev.up (g := fun i k => impl_each_PolyAdd_1.l0 k (vec a) (vec b) (vec fun n => if n < i then (a n + b n) % 3329 else 0) ((256 : Nat) : Int) (i : Int)) (r := vec fun i => (a i + b i) % 3329) 256 ?_ ?_ 0 (by omega)
      · have e : (vec fun _ => (0 : Int)) = vec fun n => if n < 0 then (a n + b n) % 3329 else 0 := vec_congr fun n _ => by rw [if_neg (by omega)]
        rw [e]; exact key
      · intro i hi h
        refine Ev.step (fun k => ?_) h
        have h1 := ha i
        have h2 := hb i
        simp only [impl_each_PolyAdd_1.l0, impl_PolyAdd_1.f, Option.bind_some]
        rw [if_pos (by omega), if_pos (by omega), if_pos (by omega), if_pos (by omega), vec_rd a i hi, vec_rd b i hi, w64 (x := a i + b i) (by omega) (by omega), modQ_eq _ (by omega) (by omega), Option.bind_some, if_pos (by rw [vec_length]; omega), Int.toNat_natCast, vec_set, w64s i (by omega)]
        have e : (vec fun n => if n = i then (a i + b i) % 3329 else if n < i then (a n + b n) % 3329 else 0) = vec fun n => if n < i + 1 then (a n + b n) % 3329 else 0 := by
          refine vec_congr fun n _ => ?_
          by_cases h1 : n = i
          · subst h1; rw [if_pos rfl, if_pos (by omega)]
          · rw [if_neg h1]
            by_cases h2 : n < i
            · rw [if_pos h2, if_pos (by omega)]
            · rw [if_neg h2, if_neg (by omega)]
        rw [e]
      · refine Ev.step (f := fun _ => some (vec fun i => (a i + b i) % 3329)) (fun k => ?_) (Ev.now _)
        simp only [impl_each_PolyAdd_1.l0]
        rw [if_neg (by omega)]
        exact congrArg some (vec_congr fun n hn => if_pos hn)
  unfold impl_PolyAdd.f
  exact Ev.bind key (Ev.now _)

theorem impl_PolySub_ev (a b : Nat → Int) (ha : ∀ i, 0 ≤ a i ∧ a i ≤ 3328) (hb : ∀ i, 0 ≤ b i ∧ b i ≤ 3328) : Ev (fun k => impl_PolySub.f k (vec a) (vec b)) (vec fun i => (a i - b i) % 3329) := by
  have key : Ev (fun k => impl_each_PolySub_1.f k (vec a) (vec b)) (vec fun i => (a i - b i) % 3329) := by
    unfold impl_each_PolySub_1.f
    have oka := vec_ok (f := a) fun i _ => ha i
    have okb := vec_ok (f := b) fun i _ => hb i
    have la := vec_length a
    have lb := vec_length b
    refine Ev.bind (oka ▸ impl_PolyOk_ev (vec a) (by omega)) (Ev.pos rfl (Ev.bind (okb ▸ impl_PolyOk_ev (vec b) (by omega)) ?_))
    refine Ev.step (f := fun k => impl_each_PolySub_1.l0 k (vec a) (vec b) (List.replicate 256 0) ((256 : Nat) : Int) 0) (fun k => ?_) ?_
    · simp only [impl_each_PolySub_1.j0, Option.bind_some]
      rw [if_neg (by decide), if_pos (by omega), List.length_replicate]
    · rw [vec_replicate]
      have key := Ev.up (g := fun i k => impl_each_PolySub_1.l0 k (vec a) (vec b) (vec fun n => if n < i then (a n - b n) % 3329 else 0) ((256 : Nat) : Int) (i : Int)) (r := vec fun i => (a i - b i) % 3329) 256 ?_ ?_ 0 (by omega)
      · have e : (vec fun _ => (0 : Int)) = vec fun n => if n < 0 then (a n - b n) % 3329 else 0 := vec_congr fun n _ => by rw [if_neg (by omega)]
        rw [e]; exact key
      · intro i hi h
        refine Ev.step (fun k => ?_) h
        have h1 := ha i
        have h2 := hb i
        simp only [impl_each_PolySub_1.l0, impl_PolySub_1.f, Option.bind_some]
        rw [if_pos (by omega), if_pos (by omega), if_pos (by omega), if_pos (by omega), vec_rd a i hi, vec_rd b i hi, w64 (x := a i - b i) (by omega) (by omega), modQ_eq _ (by omega) (by omega), Option.bind_some, if_pos (by rw [vec_length]; omega), Int.toNat_natCast, vec_set, w64s i (by omega)]
        have e : (vec fun n => if n = i then (a i - b i) % 3329 else if n < i then (a n - b n) % 3329 else 0) = vec fun n => if n < i + 1 then (a n - b n) % 3329 else 0 := by
          refine vec_congr fun n _ => ?_
          by_cases h1 : n = i
          · subst h1; rw [if_pos rfl, if_pos (by omega)]
          · rw [if_neg h1]
            by_cases h2 : n < i
            · rw [if_pos h2, if_pos (by omega)]
            · rw [if_neg h2, if_neg (by omega)]
        rw [e]
      · refine Ev.step (f := fun _ => some (vec fun i => (a i - b i) % 3329)) (fun k => ?_) (Ev.now _)
        simp only [impl_each_PolySub_1.l0]
        rw [if_neg (by omega)]
        exact congrArg some (vec_congr fun n hn => if_pos hn)
  unfold impl_PolySub.f
  exact Ev.bind key (Ev.now _)

theorem mulV_in (a b : Nat → Int) (n : Nat) : 0 ≤ mulV a b n ∧ mulV a b n ≤ 3328 := mod_in _
theorem sumM_comm (a b : Nat → Int) (n : Nat) (hn : n < 256) : sumN 256 (fun i => termM a b i n) = sumN 256 (fun i => termM b a i n) := by
  have h1 : sumN (n + 1) (fun i => termM a b i n) = sumN (n + 1) (fun i => termM b a i n) := by
    rw [← sumN_rev (n + 1) (fun i => termM b a i n)]
    refine sumN_congr fun i hi => ?_
    unfold termM
    rw [if_pos (by omega), if_pos (by omega), show n - (n + 1 - 1 - i) = i by omega, show n + 1 - 1 - i = n - i by omega, Int.mul_comm]
  have h2 : sumN (255 - n) (fun i => termM a b (n + 1 + i) n) = sumN (255 - n) (fun i => termM b a (n + 1 + i) n) := by
    rw [← sumN_rev (255 - n) (fun i => termM b a (n + 1 + i) n)]
    refine sumN_congr fun i hi => ?_
    unfold termM
    rw [if_neg (by omega), if_neg (by omega), show 256 + n - (n + 1 + (255 - n - 1 - i)) = n + 1 + i by omega, show n + 1 + (255 - n - 1 - i) = 256 + n - (n + 1 + i) by omega, Int.mul_comm]
  rw [show 256 = (n + 1) + (255 - n) by omega, sumN_split (n + 1) (255 - n) (fun i => termM a b i n), sumN_split (n + 1) (255 - n) (fun i => termM b a i n), h1, h2]
theorem mulV_comm (a b : Nat → Int) (n : Nat) (hn : n < 256) : mulV a b n = mulV b a n := by
  unfold mulV; rw [sumM_comm a b n hn]
theorem termM_eqQ {a a' b b' : Nat → Int} (ha : ∀ i, EqQ (a i) (a' i)) (hb : ∀ i, EqQ (b i) (b' i)) (i n : Nat) : EqQ (termM a b i n) (termM a' b' i n) := by
  unfold termM
  split
  · exact EqQ.mul (ha _) (hb _)
  · exact EqQ.neg (EqQ.mul (ha _) (hb _))
theorem mulV_eqQ {a a' b b' : Nat → Int} (ha : ∀ i, EqQ (a i) (a' i)) (hb : ∀ i, EqQ (b i) (b' i)) (n : Nat) : mulV a b n = mulV a' b' n :=
  (sumN_eqQ fun i _ => termM_eqQ ha hb i n).eqm
theorem termM_add (a b c : Nat → Int) (i n : Nat) : termM (fun i => a i + b i) c i n = termM a c i n + termM b c i n := by
  unfold termM
  split
  · rw [Int.add_mul]
  · rw [Int.add_mul]; omega
theorem mulV_add (a b c : Nat → Int) (n : Nat) : mulV (fun i => (a i + b i) % 3329) c n = (mulV a c n + mulV b c n) % 3329 := by
  rw [mulV_eqQ (a' := fun i => a i + b i) (b' := c) (fun i => EqQ.mod _) (fun i => EqQ.refl _) n]
  unfold mulV
  simp only [termM_add]
  rw [sumN_add]
  exact (EqQ.add (EqQ.mod _) (EqQ.mod _)).symm.eqm
end Go.Proofs.Ythkbgflbbnjcpaa.Pure
