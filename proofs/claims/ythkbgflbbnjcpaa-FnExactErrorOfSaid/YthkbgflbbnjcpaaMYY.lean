/- Sums, differences, transforms and products of whatever lists of numbers: the program and the reference answer the same. The bits of 32 bytes, stretched. Ciphers opened: what a secret and a cipher hide, with its error; its bits; how far it is from a text: the program and the reference answer the same. -/
import Derived.Test.YthkbgflbbnjcpaaMPP
import Derived.Test.YthkbgflbbnjcpaaMF4
import Derived.Test.YthkbgflbbnjcpaaMPK
import Derived.Test.YthkbgflbbnjcpaaMF3
import Derived.Test.YthkbgflbbnjcpaaPx1
import Derived.Test.YthkbgflbbnjcpaaPx2
import Derived.Test.YthkbgflbbnjcpaaPx3
import Derived.Test.YthkbgflbbnjcpaaPx4
import Derived.Test.YthkbgflbbnjcpaaPx5
import Derived.Test.YthkbgflbbnjcpaaPx6
import Derived.Test.YthkbgflbbnjcpaaPx7
import Derived.Test.YthkbgflbbnjcpaaPx8
import Derived.Test.YthkbgflbbnjcpaaPx9
import Derived.Test.YthkbgflbbnjcpaaPx10
import Derived.Test.YthkbgflbbnjcpaaPx11
import Derived.Test.YthkbgflbbnjcpaaPx13
import Derived.Test.YthkbgflbbnjcpaaPx14
import Derived.Test.YthkbgflbbnjcpaaPx15
import Derived.Test.YthkbgflbbnjcpaaPx16
import Derived.Test.YthkbgflbbnjcpaaPx17
import Derived.Test.YthkbgflbbnjcpaaPx18
import Derived.Test.YthkbgflbbnjcpaaPx19
import Derived.Test.YthkbgflbbnjcpaaPx20
namespace Go.Proofs.Ythkbgflbbnjcpaa.Pure
open Go.RowKit Go.Proofs.YthkbgflbbnjcpaaW.PrintWords Go.Proofs.YthkbgflbbnjcpaaW.PrintLast Go.Proofs.YthkbgflbbnjcpaaW.PrintMore Go.Proofs.Ythkbgflbbnjcpaa.P

theorem not_ok {l : List Int} (h : ¬ polyOk l = true) : polyOk l = false := by simpa using h
theorem ntt_any (l : List Int) (hl : l.length ≤ 35184372088832) : ∃ R : List Int, R.length ≤ 256 ∧ Ev (fun k => spec_Ntt.f k l) R ∧ Ev (fun k => impl_Ntt.f k l) R := by
  by_cases h : polyOk l = true
  · obtain ⟨f, rfl, hf⟩ := poly_vec' h
    exact ⟨vec (nttV f), by rw [vec_length]; omega, spec_Ntt_ev f hf, impl_Ntt_ev f hf⟩
  · refine ⟨[], by simp, ?_, ?_⟩
    · unfold spec_Ntt.f
      exact Ev.bind (spec_PolyOk_ev l) (Ev.neg h (Ev.now _))
    · unfold impl_Ntt.f
      exact Ev.bind (impl_PolyOk_ev l hl) (Ev.neg h (Ev.now _))
theorem inv_any (l : List Int) (hl : l.length ≤ 35184372088832) : ∃ R : List Int, R.length ≤ 256 ∧ Ev (fun k => spec_InvNtt.f k l) R ∧ Ev (fun k => impl_InvNtt.f k l) R := by
  by_cases h : polyOk l = true
  · obtain ⟨f, rfl, hf⟩ := poly_vec' h
    exact ⟨vec (invV f), by rw [vec_length]; omega, spec_InvNtt_ev f hf, impl_InvNtt_ev f hf⟩
  · refine ⟨[], by simp, ?_, ?_⟩
    · unfold spec_InvNtt.f
      exact Ev.bind (spec_PolyOk_ev l) (Ev.neg h (Ev.now _))
    · unfold impl_InvNtt.f
      exact Ev.bind (impl_PolyOk_ev l hl) (Ev.neg h (Ev.now _))
theorem mul_any (l u : List Int) (hl : l.length ≤ 35184372088832) (hu : u.length ≤ 35184372088832) : ∃ R : List Int, R.length ≤ 256 ∧ Ev (fun k => spec_MulNtt.f k l u) R ∧ Ev (fun k => impl_MulNtt.f k l u) R := by
  by_cases h : polyOk l = true
  · by_cases h2 : polyOk u = true
    · obtain ⟨f, rfl, hf⟩ := poly_vec' h
      obtain ⟨g, rfl, hg⟩ := poly_vec' h2
      exact ⟨vec (mulNttV f g), by rw [vec_length]; omega, spec_MulNtt_ev f g hf hg, impl_MulNtt_ev f g hf hg⟩
    · refine ⟨[], by simp, ?_, ?_⟩
      · unfold spec_MulNtt.f
        simp only [Option.bind_some]
        refine Ev.bind (spec_PolyOk_ev l) (Ev.pos h (Ev.bind (spec_PolyOk_ev u) ?_))
        refine Ev.step (f := fun _ => some []) (fun k => ?_) (Ev.now _)
        simp only [spec_MulNtt.j0]
        rw [if_pos (by rw [not_ok h2]; rfl)]
      · unfold impl_MulNtt.f
        refine Ev.bind (impl_PolyOk_ev l hl) (Ev.pos h (Ev.bind (impl_PolyOk_ev u hu) ?_))
        refine Ev.step (f := fun _ => some []) (fun k => ?_) (Ev.now _)
        simp only [impl_MulNtt.j0]
        rw [if_pos (by rw [not_ok h2]; rfl)]
  · refine ⟨[], by simp, ?_, ?_⟩
    · unfold spec_MulNtt.f
      simp only [Option.bind_some]
      refine Ev.bind (spec_PolyOk_ev l) (Ev.neg h ?_)
      refine Ev.step (f := fun _ => some []) (fun k => ?_) (Ev.now _)
      simp only [spec_MulNtt.j0]
      rw [if_pos trivial]
    · unfold impl_MulNtt.f
      refine Ev.bind (impl_PolyOk_ev l hl) (Ev.neg h ?_)
      refine Ev.step (f := fun _ => some []) (fun k => ?_) (Ev.now _)
      simp only [impl_MulNtt.j0]
      rw [if_pos trivial]
theorem spec_PolyAdd_ev (a b : Nat → Int) (ha : ∀ i, 0 ≤ a i ∧ a i ≤ 3328) (hb : ∀ i, 0 ≤ b i ∧ b i ≤ 3328) : Ev (fun k => spec_PolyAdd.f k (vec a) (vec b)) (vec fun i => (a i + b i) % 3329) := by
  have oka : Ev (fun k => spec_PolyOk.f k (vec a)) true := vec_ok (f := a) (fun i _ => ha i) ▸ spec_PolyOk_ev (vec a)
  have okb : Ev (fun k => spec_PolyOk.f k (vec b)) true := vec_ok (f := b) (fun i _ => hb i) ▸ spec_PolyOk_ev (vec b)
  unfold spec_PolyAdd.f
  refine Ev.up (g := fun i k => spec_PolyAdd.l0 k (vec a) (vec b) ((vec fun i => (a i + b i) % 3329).take i) (i : Int)) (r := vec fun i => (a i + b i) % 3329) 256 ?_ ?_ 0 (by omega)
  · intro i hi h
    obtain ⟨K1, h1⟩ := oka
    obtain ⟨K2, h2⟩ := okb
    obtain ⟨K3, h3⟩ := h
    refine ⟨K1 + K2 + K3 + 1, fun k hk => ?_⟩
    obtain ⟨m, rfl⟩ : ∃ m, k = m + 1 := ⟨k - 1, by omega⟩
    have e1 : spec_PolyOk.f m (vec a) = some true := h1 m (by omega)
    have e2 : spec_PolyOk.f m (vec b) = some true := h2 m (by omega)
    have e3 := h3 m (by omega)
    have ln : (List.take i (vec fun i => (a i + b i) % 3329)).length < 17592186044416 := by rw [List.length_take, vec_length]; omega
    have t1 := take_snoc (vec fun i => (a i + b i) % 3329) i (by rw [vec_length]; exact hi)
    rw [vec_get] at t1
    have hs : 0 ≤ a i + b i ∧ a i + b i ≤ 6656 := by have := ha i; have := hb i; omega
    have em : Int.tmod (wrap64 (a i + b i)) 3329 = (a i + b i) % 3329 := by
      rw [w64 (by omega) (by omega), Int.tmod_eq_emod_of_nonneg hs.1]
    simp only [spec_PolyAdd.l0]
    rw [if_pos (show (i : Int) < 256 from Int.ofNat_lt.mpr hi), e1, Option.bind_some, if_pos rfl, e2, Option.bind_some, if_pos rfl, if_pos (Int.natCast_nonneg _), vec_length, vec_length, if_pos (Int.ofNat_lt.mpr hi), if_pos (Int.ofNat_lt.mpr hi), if_pos ln, vec_rd a i hi, vec_rd b i hi, em, t1, w64s i (Nat.lt_trans hi (by decide))]
    exact e3
  · refine Ev.step (f := fun _ => some (List.take 256 (vec fun i => (a i + b i) % 3329))) (fun k => ?_) ?_
    · simp only [spec_PolyAdd.l0]
      rw [if_neg (by decide)]
    · rw [List.take_of_length_le (by rw [vec_length]; decide)]; exact Ev.now _
theorem add_any (l u : List Int) (hl : l.length ≤ 35184372088832) (hu : u.length ≤ 35184372088832) : ∃ R : List Int, R.length ≤ 256 ∧ Ev (fun k => spec_PolyAdd.f k l u) R ∧ Ev (fun k => impl_PolyAdd.f k l u) R := by
  by_cases h : polyOk l = true
  · by_cases h2 : polyOk u = true
    · obtain ⟨f, rfl, hf⟩ := poly_vec' h
      obtain ⟨g, rfl, hg⟩ := poly_vec' h2
      exact ⟨_, by rw [vec_length]; omega, spec_PolyAdd_ev f g hf hg, impl_PolyAdd_ev f g hf hg⟩
    · refine ⟨[], by simp, ?_, ?_⟩
      · unfold spec_PolyAdd.f
        refine Ev.step (f := fun k => (spec_PolyOk.f k l).bind fun t => if t = true then ((spec_PolyOk.f k u).bind fun t2 => if t2 = true then none else some []) else some []) (fun k => ?_) ?_
        · simp only [spec_PolyAdd.l0]
          rw [if_pos (by decide)]
          have : ∀ t2 : Bool, spec_PolyOk.f k u = some t2 → t2 = false := fun t2 e => by
            cases t2 with
            | false => rfl
            | true =>
              exfalso
              obtain ⟨K, hK⟩ := spec_PolyOk_ev u
              have e1 := at_rounds (g := fun k => spec_PolyOk.f k u) (fun k => spec_PolyOk.mono u k) (Nat.le_max_left k K) e
              rw [show spec_PolyOk.f (max k K) u = some (polyOk u) from hK (max k K) (Nat.le_max_right k K), not_ok h2] at e1
              exact absurd e1 (by decide)
          cases spec_PolyOk.f k l with
          | none => rfl
          | some t =>
            simp only [Option.bind_some]
            cases t with
            | false => rfl
            | true =>
              rw [if_pos rfl, if_pos rfl]
              cases e : spec_PolyOk.f k u with
              | none => rfl
              | some t2 =>
                have := this t2 e
                subst this
                simp
        · exact Ev.bind (spec_PolyOk_ev l) (Ev.pos h (Ev.bind (spec_PolyOk_ev u) (Ev.neg h2 (Ev.now _))))
      · unfold impl_PolyAdd.f
        refine Ev.bind (a := []) ?_ (Ev.now _)
        unfold impl_each_PolyAdd_1.f
        refine Ev.bind (impl_PolyOk_ev l hl) (Ev.pos h (Ev.bind (impl_PolyOk_ev u hu) ?_))
        refine Ev.step (f := fun _ => some []) (fun k => ?_) (Ev.now _)
        simp only [impl_each_PolyAdd_1.j0]
        rw [if_pos (by rw [not_ok h2]; rfl)]
  · refine ⟨[], by simp, ?_, ?_⟩
    · unfold spec_PolyAdd.f
      refine Ev.step (f := fun k => (spec_PolyOk.f k l).bind fun t => if t = true then none else some []) (fun k => ?_) ?_
      · simp only [spec_PolyAdd.l0]
        rw [if_pos (by decide)]
        have : ∀ t2 : Bool, spec_PolyOk.f k l = some t2 → t2 = false := fun t2 e => by
          cases t2 with
          | false => rfl
          | true =>
            exfalso
            obtain ⟨K, hK⟩ := spec_PolyOk_ev l
            have e1 := at_rounds (g := fun k => spec_PolyOk.f k l) (fun k => spec_PolyOk.mono l k) (Nat.le_max_left k K) e
            rw [show spec_PolyOk.f (max k K) l = some (polyOk l) from hK (max k K) (Nat.le_max_right k K), not_ok h] at e1
            exact absurd e1 (by decide)
        cases e : spec_PolyOk.f k l with
        | none => rfl
        | some t =>
          have := this t e
          subst this
          simp
      · exact Ev.bind (spec_PolyOk_ev l) (Ev.neg h (Ev.now _))
    · unfold impl_PolyAdd.f
      refine Ev.bind (a := []) ?_ (Ev.now _)
      unfold impl_each_PolyAdd_1.f
      refine Ev.bind (impl_PolyOk_ev l hl) (Ev.neg h ?_)
      refine Ev.step (f := fun _ => some []) (fun k => ?_) (Ev.now _)
      simp only [impl_each_PolyAdd_1.j0]
      rw [if_pos trivial]
theorem spec_PolySub_ev (a b : Nat → Int) (ha : ∀ i, 0 ≤ a i ∧ a i ≤ 3328) (hb : ∀ i, 0 ≤ b i ∧ b i ≤ 3328) : Ev (fun k => spec_PolySub.f k (vec a) (vec b)) (vec fun i => (a i - b i) % 3329) := by
  have oka : Ev (fun k => spec_PolyOk.f k (vec a)) true := vec_ok (f := a) (fun i _ => ha i) ▸ spec_PolyOk_ev (vec a)
  have okb : Ev (fun k => spec_PolyOk.f k (vec b)) true := vec_ok (f := b) (fun i _ => hb i) ▸ spec_PolyOk_ev (vec b)
  unfold spec_PolySub.f
  simp only [Option.bind_some]
  refine Ev.bind oka (Ev.pos rfl (Ev.bind okb ?_))
  refine Ev.step (f := fun k => spec_PolySub.l0 k (vec a) (vec b) [] 0) (fun k => ?_) ?_
  · simp only [spec_PolySub.j0]
    rw [if_neg (by decide)]
  refine Ev.up (g := fun i k => spec_PolySub.l0 k (vec a) (vec b) ((vec fun i => (a i - b i) % 3329).take i) (i : Int)) (r := vec fun i => (a i - b i) % 3329) 256 ?_ ?_ 0 (by omega)
  · intro i hi h
    refine Ev.step (fun k => ?_) h
    have ln : (List.take i (vec fun i => (a i - b i) % 3329)).length < 17592186044416 := by rw [List.length_take, vec_length]; omega
    have t1 := take_snoc (vec fun i => (a i - b i) % 3329) i (by rw [vec_length]; exact hi)
    rw [vec_get] at t1
    have hs : -3328 ≤ a i - b i ∧ a i - b i ≤ 3328 := by have := ha i; have := hb i; omega
    have em : Int.tmod (wrap64 (wrap64 (a i - b i) + 3329)) 3329 = (a i - b i) % 3329 := by
      rw [w64 (x := a i - b i) (by omega) (by omega), w64 (by omega) (by omega), Int.tmod_eq_emod_of_nonneg (by omega)]; omega
    simp only [spec_PolySub.l0]
    rw [if_pos (show (i : Int) < 256 from Int.ofNat_lt.mpr hi), if_pos (Int.natCast_nonneg _), vec_length, vec_length, if_pos (Int.ofNat_lt.mpr hi), if_pos (Int.ofNat_lt.mpr hi), if_pos ln, vec_rd a i hi, vec_rd b i hi, em, t1, w64s i (Nat.lt_trans hi (by decide))]
  · refine Ev.step (f := fun _ => some (List.take 256 (vec fun i => (a i - b i) % 3329))) (fun k => ?_) ?_
    · simp only [spec_PolySub.l0]
      rw [if_neg (by decide)]
    · rw [List.take_of_length_le (by rw [vec_length]; decide)]; exact Ev.now _
theorem sub_any (l u : List Int) (hl : l.length ≤ 35184372088832) (hu : u.length ≤ 35184372088832) : ∃ R : List Int, R.length ≤ 256 ∧ Ev (fun k => spec_PolySub.f k l u) R ∧ Ev (fun k => impl_PolySub.f k l u) R := by
  by_cases h : polyOk l = true
  · by_cases h2 : polyOk u = true
    · obtain ⟨f, rfl, hf⟩ := poly_vec' h
      obtain ⟨g, rfl, hg⟩ := poly_vec' h2
      exact ⟨_, by rw [vec_length]; omega, spec_PolySub_ev f g hf hg, impl_PolySub_ev f g hf hg⟩
    · refine ⟨[], by simp, ?_, ?_⟩
      · unfold spec_PolySub.f
        simp only [Option.bind_some]
        refine Ev.bind (spec_PolyOk_ev l) (Ev.pos h (Ev.bind (spec_PolyOk_ev u) ?_))
        refine Ev.step (f := fun _ => some []) (fun k => ?_) (Ev.now _)
        simp only [spec_PolySub.j0]
        rw [if_pos (by rw [not_ok h2]; rfl)]
      · unfold impl_PolySub.f
        refine Ev.bind (a := []) ?_ (Ev.now _)
        unfold impl_each_PolySub_1.f
        refine Ev.bind (impl_PolyOk_ev l hl) (Ev.pos h (Ev.bind (impl_PolyOk_ev u hu) ?_))
        refine Ev.step (f := fun _ => some []) (fun k => ?_) (Ev.now _)
        simp only [impl_each_PolySub_1.j0]
        rw [if_pos (by rw [not_ok h2]; rfl)]
  · refine ⟨[], by simp, ?_, ?_⟩
    · unfold spec_PolySub.f
      simp only [Option.bind_some]
      refine Ev.bind (spec_PolyOk_ev l) (Ev.neg h ?_)
      refine Ev.step (f := fun _ => some []) (fun k => ?_) (Ev.now _)
      simp only [spec_PolySub.j0]
      rw [if_pos trivial]
    · unfold impl_PolySub.f
      refine Ev.bind (a := []) ?_ (Ev.now _)
      unfold impl_each_PolySub_1.f
      refine Ev.bind (impl_PolyOk_ev l hl) (Ev.neg h ?_)
      refine Ev.step (f := fun _ => some []) (fun k => ?_) (Ev.now _)
      simp only [impl_each_PolySub_1.j0]
      rw [if_pos trivial]
theorem far_any (l u : List Int) (hl : l.length ≤ 35184372088832) (hu : u.length ≤ 35184372088832) : ∃ r : Int, Ev (fun k => spec_Far.f k l u) r ∧ Ev (fun k => impl_Far.f k l u) r := by
  by_cases h : polyOk l = true
  · by_cases h2 : polyOk u = true
    · obtain ⟨f, rfl, hf⟩ := poly_vec' h
      obtain ⟨g, rfl, hg⟩ := poly_vec' h2
      exact ⟨_, spec_Far_ev f g hf hg, impl_Far_ev f g hf hg⟩
    · obtain ⟨f, rfl, hf⟩ := poly_vec' h
      refine ⟨-1, ?_, impl_Far_one f hf u hu (not_ok h2)⟩
      unfold spec_Far.f
      refine Ev.bind (spec_PolyOk_ev _) (Ev.pos h (Ev.bind (spec_PolyOk_ev u) ?_))
      refine Ev.step (f := fun _ => some (-1)) (fun k => ?_) (Ev.now _)
      simp only [spec_Far.j0]
      rw [if_pos (by rw [not_ok h2]; rfl)]
  · refine ⟨-1, ?_, ?_⟩
    · unfold spec_Far.f
      refine Ev.bind (spec_PolyOk_ev l) (Ev.neg h ?_)
      refine Ev.step (f := fun _ => some (-1)) (fun k => ?_) (Ev.now _)
      simp only [spec_Far.j0]
      rw [if_pos trivial]
    · have e : Ev (fun k => impl_PolySub.f k l u) [] := by
        unfold impl_PolySub.f
        refine Ev.bind (a := []) ?_ (Ev.now _)
        unfold impl_each_PolySub_1.f
        refine Ev.bind (impl_PolyOk_ev l hl) (Ev.neg h ?_)
        refine Ev.step (f := fun _ => some []) (fun k => ?_) (Ev.now _)
        simp only [impl_each_PolySub_1.j0]
        rw [if_pos trivial]
      unfold impl_Far.f
      exact Ev.bind e (Ev.pos rfl (Ev.now _))
/-- Sums of products of two rows of two. -/
theorem sum_any (a0 a1 b0 b1 : List Int) (h0 : a0.length ≤ 35184372088832) (h1 : a1.length ≤ 35184372088832) (h2 : b0.length ≤ 35184372088832) (h3 : b1.length ≤ 35184372088832) :
    ∃ R : List Int, R.length ≤ 256 ∧ Ev (fun k => spec_l13Sum.f k [a0, a1] [b0, b1]) R ∧ Ev (fun k => impl_dot.f k [a0, a1] [b0, b1]) R := by
  obtain ⟨p, hp, sp, ip⟩ := mul_any a0 b0 h0 h2
  obtain ⟨q, hq, sq, iq⟩ := mul_any a1 b1 h1 h3
  obtain ⟨u, hu, su, iu⟩ := add_any (List.replicate 256 0) p (by rw [List.length_replicate]; decide) (by omega)
  obtain ⟨v, hv, sv, iv⟩ := add_any u q (by omega) (by omega)
  have w1 : wrap64 (0 + 1) = 1 := by rw [w64 (by decide) (by decide)]; rfl
  have w2 : wrap64 (1 + 1) = 2 := by rw [w64 (by decide) (by decide)]; rfl
  have la : (([a0, a1] : List (List Int)).length : Int) = 2 := rfl
  have lb : (([b0, b1] : List (List Int)).length : Int) = 2 := rfl
  refine ⟨v, hv, ?_, ?_⟩
  · unfold spec_l13Sum.f
    refine Ev.pos (by decide) ?_
    refine Ev.step (f := fun k => (spec_MulNtt.f k a0 b0).bind fun t => (spec_PolyAdd.f k (List.replicate 256 0) t).bind fun t2 => spec_l13Sum.l0 k [a0, a1] [b0, b1] t2 1) (fun k => ?_) (Ev.bind sp (Ev.bind su ?_))
    · simp only [spec_l13Sum.l0]
      rw [la, lb, if_pos (by decide), if_pos (by decide), if_pos (by decide), w1]
      rfl
    refine Ev.step (f := fun k => (spec_MulNtt.f k a1 b1).bind fun t => (spec_PolyAdd.f k u t).bind fun t2 => spec_l13Sum.l0 k [a0, a1] [b0, b1] t2 2) (fun k => ?_) (Ev.bind sq (Ev.bind sv ?_))
    · simp only [spec_l13Sum.l0]
      rw [la, lb, if_pos (by decide), if_pos (by decide), if_pos (by decide), w2]
      rfl
    refine Ev.step (f := fun _ => some v) (fun k => ?_) (Ev.now _)
    simp only [spec_l13Sum.l0]
    rw [la, if_neg (by decide)]
  · unfold impl_dot.f
    refine Ev.pos (by decide) ?_
    refine Ev.step (f := fun k => (impl_MulNtt.f k a0 b0).bind fun t => (impl_PolyAdd.f k (List.replicate 256 0) t).bind fun t2 => impl_dot.l0 k [a0, a1] [b0, b1] t2 2 1) (fun k => ?_) (Ev.bind ip (Ev.bind iu ?_))
    · simp only [impl_dot.l0]
      rw [la, lb, if_pos (by decide), if_pos (by decide), if_pos (by decide), if_pos (by decide), w1]
      rfl
    refine Ev.step (f := fun k => (impl_MulNtt.f k a1 b1).bind fun t => (impl_PolyAdd.f k u t).bind fun t2 => impl_dot.l0 k [a0, a1] [b0, b1] t2 2 2) (fun k => ?_) (Ev.bind iq (Ev.bind iv ?_))
    · simp only [impl_dot.l0]
      rw [la, lb, if_pos (by decide), if_pos (by decide), if_pos (by decide), if_pos (by decide), w2]
      rfl
    refine Ev.step (f := fun _ => some v) (fun k => ?_) (Ev.now _)
    simp only [impl_dot.l0]
    rw [if_neg (by decide)]

def bitV (m : ByteArray) (i : Nat) : Int := stretchV (((bt m ((i / 8 : Nat) : Int)).toNat / 2 ^ (i % 8) % 2 : Nat) : Int) 1
def bitsV (m : ByteArray) : List Int := (List.range 256).map (bitV m)
theorem bitsV_len (m : ByteArray) : (bitsV m).length = 256 := by simp [bitsV]
theorem bitsV_get (m : ByteArray) (i : Nat) (h : i < (bitsV m).length) : (bitsV m)[i] = bitV m i := by simp [bitsV]
theorem bt_nat (m : ByteArray) (i : Int) : bt m i = (((bt m i).toNat : Nat) : Int) ∧ (bt m i).toNat < 256 := by
  have := bt_range m i
  omega
theorem w8 (i : Nat) (h : i < 256) : wrap64 (Int.tdiv (i : Int) 8) = ((i / 8 : Nat) : Int) := by
  rw [Int.tdiv_eq_ediv_of_nonneg (by omega), w64 (by omega) (by omega)]; rfl
theorem m8 (i : Nat) : Int.tmod (i : Int) 8 = ((i % 8 : Nat) : Int) := by
  rw [Int.tmod_eq_emod_of_nonneg (by omega)]; rfl
theorem spec_l13Bits_ev (m : ByteArray) (hm : m.size = 32) : Ev (fun k => spec_l13Bits.f k m) (bitsV m) := by
  unfold spec_l13Bits.f
  refine Ev.up (g := fun i k => spec_l13Bits.l0 k m ((bitsV m).take i) (i : Int)) (r := bitsV m) 256 ?_ ?_ 0 (by omega)
  · intro i hi h
    have hb := bt_nat m ((i / 8 : Nat) : Int)
    have c1 : i / 8 < m.size := by omega
    have ww : wrap64 (bt m ((i / 8 : Nat) : Int)) = (((bt m ((i / 8 : Nat) : Int)).toNat : Nat) : Int) := by
      rw [w64 (by omega) (by omega)]; exact hb.1
    have hlt := hb.2
    have ln : (List.take i (bitsV m)).length < 17592186044416 := by rw [List.length_take, bitsV_len]; omega
    have t1 := take_snoc (bitsV m) i (by rw [bitsV_len]; exact hi)
    rw [bitsV_get] at t1
    refine Ev.step (f := fun k => spec_l13Bits.l1 k m ((bitsV m).take i) (i : Int) (((bt m ((i / 8 : Nat) : Int)).toNat : Nat) : Int) 0) (fun k => ?_) ?_
    · simp only [spec_l13Bits.l0]
      rw [if_pos (show (i : Int) < 256 from Int.ofNat_lt.mpr hi), w8 i hi, if_pos (Int.natCast_nonneg _), if_pos (Int.ofNat_lt.mpr c1), ww]
    · have hbit : bitV m i = stretchV (((bt m ((i / 8 : Nat) : Int)).toNat / 2 ^ (i % 8) % 2 : Nat) : Int) 1 := rfl
      rw [hbit] at t1
      clear hbit ww hb
      generalize (bt m ((i / 8 : Nat) : Int)).toNat = u at t1 hlt ⊢
      have key := Ev.up (g := fun j k => spec_l13Bits.l1 k m ((bitsV m).take i) (i : Int) ((u / 2 ^ j : Nat) : Int) (j : Int)) (r := bitsV m) (i % 8) ?_ ?_ 0 (by omega)
      · simpa using key
      · intro j hj h'
        refine Ev.step (fun k => ?_) h'
        have hle : u / 2 ^ j ≤ u := Nat.div_le_self _ _
        have e2 := half_e (u / 2 ^ j) (by omega)
        have e5 : u / 2 ^ j / 2 = u / 2 ^ (j + 1) := by rw [Nat.div_div_eq_div_mul, Nat.pow_succ]
        simp only [spec_l13Bits.l1]
        rw [m8, if_pos (Int.ofNat_lt.mpr hj), e2, e5, w64s j (by omega)]
      · refine Ev.step (f := fun k => (spec_Stretch.f k ((u / 2 ^ (i % 8) % 2 : Nat) : Int) 1).bind fun t => spec_l13Bits.l0 k m ((bitsV m).take i ++ [t]) ((i + 1 : Nat) : Int)) (fun k => ?_) (Ev.bind (spec_Stretch_ev _ 1) ?_)
        · simp only [spec_l13Bits.l1]
          rw [m8, if_neg (Int.lt_irrefl _), odd_e, w64s i (by omega)]
          simp only [if_pos ln]
        · rw [t1]
          exact h
  · refine Ev.step (f := fun _ => some (bitsV m)) (fun k => ?_) (Ev.now _)
    simp only [spec_l13Bits.l0]
    rw [if_neg (by decide), List.take_of_length_le (by rw [bitsV_len]; decide)]
theorem impl_bitsOf_ev (m : ByteArray) (hm : m.size = 32) : Ev (fun k => impl_bitsOf.f k m) (bitsV m) := by
  unfold impl_bitsOf.f
  refine Ev.pos (by decide) ?_
  simp only [Option.bind_some]
  rw [List.length_replicate]
  have e0 : List.take 0 (bitsV m) ++ List.replicate (256 - 0) (0 : Int) = List.replicate 256 0 := by rw [List.take_zero, List.nil_append]
  suffices key : Ev (fun k => impl_bitsOf.l0 k m (List.take 0 (bitsV m) ++ List.replicate (256 - 0) 0) ((256 : Nat) : Int) ((0 : Nat) : Int)) (bitsV m) by rw [e0] at key; exact key
  refine Ev.up (g := fun i k => impl_bitsOf.l0 k m ((bitsV m).take i ++ List.replicate (256 - i) 0) ((256 : Nat) : Int) (i : Int)) (r := bitsV m) 256 ?_ ?_ 0 (by omega)
  · intro i hi h
    refine Ev.step (fun k => ?_) h
    have hb := bt_nat m ((i / 8 : Nat) : Int)
    have hlt := hb.2
    have c1 : i / 8 < m.size := by omega
    have ew : wrap64 (Go.bits .and .u8 (shr .u8 (bt m ((i / 8 : Nat) : Int)) ((i % 8 : Nat) : Int)) 1) = (((bt m ((i / 8 : Nat) : Int)).toNat / 2 ^ (i % 8) % 2 : Nat) : Int) := by
      rw [hb.1]
      generalize (bt m ((i / 8 : Nat) : Int)).toNat = u at hlt ⊢
      have hle : u / 2 ^ (i % 8) ≤ u := Nat.div_le_self _ _
      have h2 : u / 2 ^ (i % 8) % 2 < 2 := Nat.mod_lt _ (by decide)
      rw [Int.toNat_natCast, shr_nat .u8 u (i % 8) (by simp [IntKind.bits]; omega), u8_and1 _ (by omega)]
      generalize u / 2 ^ (i % 8) % 2 = v at h2 ⊢
      exact w64 (by omega) (by omega)
    have hset := set_fill (bitsV m) 0 i (by rw [bitsV_len]; exact hi)
    rw [bitsV_get] at hset
    simp only [bitsV_len] at hset
    have hlen : (List.take i (bitsV m) ++ List.replicate (256 - i) 0).length = 256 := by rw [List.length_append, List.length_take, bitsV_len, List.length_replicate]; omega
    simp only [impl_bitsOf.l0]
    rw [if_pos (Int.ofNat_lt.mpr hi), w8 i hi, if_pos (Int.natCast_nonneg _), if_pos (Int.ofNat_lt.mpr c1), m8, if_pos (Int.natCast_nonneg _), ew, impl_Stretch_eq, Option.bind_some, if_pos (Int.natCast_nonneg _), hlen, if_pos (Int.ofNat_lt.mpr hi), Int.toNat_natCast, show stretchV (((bt m ((i / 8 : Nat) : Int)).toNat / 2 ^ (i % 8) % 2 : Nat) : Int) 1 = bitV m i from rfl, hset, w64s i (by omega)]
  · refine Ev.step (f := fun _ => some (bitsV m)) (fun k => ?_) (Ev.now _)
    simp only [impl_bitsOf.l0]
    rw [if_neg (by decide), List.take_of_length_le (by rw [bitsV_len]; decide), Nat.sub_self, List.replicate_zero, List.append_nil]

theorem map_snoc (f : Int → Int) (l : List Int) (i : Nat) (h : i < l.length) : (l.take i).map f ++ [f l[i]] = (l.take (i + 1)).map f := by
  rw [← List.take_append_getElem h, List.map_append]; rfl
theorem map_set (f : Int → Int) (l : List Int) (i : Nat) (h : i < l.length) : ((l.take i).map f ++ l.drop i).set i (f l[i]) = (l.take (i + 1)).map f ++ l.drop (i + 1) := by
  rw [List.set_append_right _ _ (by rw [List.length_map, List.length_take]; omega), List.length_map, List.length_take, Nat.min_eq_left (by omega), Nat.sub_self, List.drop_eq_getElem_cons h, List.set_cons_zero, ← map_snoc f l i h, List.append_assoc]
  rfl
theorem map_rd (f : Int → Int) (l : List Int) (i : Nat) (h : i < l.length) : rd ((l.take i).map f ++ l.drop i) (i : Int) = l[i] := by
  have hl : i < ((l.take i).map f ++ l.drop i).length := by simp; omega
  rw [rd_get _ _ hl, List.getElem_append_right (by rw [List.length_map, List.length_take]; omega)]
  simp only [List.length_map, List.length_take, Nat.min_eq_left (show i ≤ l.length by omega), Nat.sub_self, List.getElem_drop, Nat.add_zero]
def strV (s : ByteArray) (d : Int) : List Int := (unpackR s d 256).1.map fun y => stretchV y d
theorem strV_len (s : ByteArray) (d : Int) : (strV s d).length ≤ 1000 := by unfold strV; rw [List.length_map]; exact unpackR_len s d 256
theorem spec_l13Stretched_ev (s : ByteArray) (d : Int) : Ev (fun k => spec_l13Stretched.f k s d) (strV s d) := by
  unfold spec_l13Stretched.f strV
  refine Ev.bind (spec_Unpack_ev s d 256) ?_
  have hl := unpackR_len s d 256
  generalize (unpackR s d 256).1 = l at hl ⊢
  refine Ev.up (g := fun i k => spec_l13Stretched.l0 k d ((l.take i).map (fun y => stretchV y d) ++ l.drop i) (i : Int)) (r := l.map fun y => stretchV y d) l.length ?_ ?_ 0 (by omega)
  · intro i hi h
    have e := map_set (fun y => stretchV y d) l i hi
    have e2 := map_rd (fun y => stretchV y d) l i hi
    have hn : ((l.take i).map (fun y => stretchV y d) ++ l.drop i).length = l.length := by simp; omega
    refine Ev.step (f := fun k => (spec_Stretch.f k l[i] d).bind fun t => spec_l13Stretched.l0 k d (((l.take i).map (fun y => stretchV y d) ++ l.drop i).set i t) ((i + 1 : Nat) : Int)) (fun k => ?_) (Ev.bind (spec_Stretch_ev l[i] d) ?_)
    · simp only [spec_l13Stretched.l0]
      rw [hn, if_pos (Int.ofNat_lt.mpr hi), if_pos (Int.natCast_nonneg _), e2, Int.toNat_natCast, w64s i (by omega)]
    · rw [e]
      exact h
  · refine Ev.step (f := fun _ => some (l.map fun y => stretchV y d)) (fun k => ?_) (Ev.now _)
    simp only [spec_l13Stretched.l0]
    rw [if_neg (by simp)]
    simp
theorem impl_stretched_ev (l : List Int) (d : Int) (hl : l.length ≤ 1000) : Ev (fun k => impl_stretched.f k l d) (l.map fun y => stretchV y d) := by
  unfold impl_stretched.f
  refine Ev.up (g := fun i k => impl_stretched.l0 k d ((l.take i).map fun y => stretchV y d) l (l.length : Int) (i : Int)) (r := l.map fun y => stretchV y d) l.length ?_ ?_ 0 (by omega)
  · intro i hi h
    refine Ev.step (fun k => ?_) h
    have ln : ((l.take i).map fun y => stretchV y d).length < 17592186044416 := by rw [List.length_map, List.length_take]; omega
    simp only [impl_stretched.l0]
    rw [if_pos (Int.ofNat_lt.mpr hi), if_pos (Int.natCast_nonneg _), if_pos (Int.ofNat_lt.mpr hi), rd_get l i hi, impl_Stretch_eq, Option.bind_some, if_pos ln, map_snoc (fun y => stretchV y d) l i hi, w64s i (by omega)]
  · refine Ev.step (f := fun _ => some (l.map fun y => stretchV y d)) (fun k => ?_) (Ev.now _)
    simp only [impl_stretched.l0]
    rw [if_neg (by omega), List.take_of_length_le (by omega)]
def sqV (l : List Int) (d : Int) : List Int := l.map fun y => squeezeV y d
theorem sq_fits (l : List Int) (d : Nat) : (sqV l d).all (fitsB d) = true := by
  refine List.all_eq_true.mpr fun x hx => ?_
  obtain ⟨y, _, rfl⟩ := List.mem_map.mp hx
  refine decide_eq_true ?_
  have e : (2 : Int) ^ (d : Int).toNat = 2 ^ d := by rw [Int.toNat_natCast]
  have hp : (1 : Int) ≤ 2 ^ d := by
    have h3 : (1 : Nat) ≤ 2 ^ d := Nat.one_le_two_pow
    have h4 : ((2 ^ d : Nat) : Int) = (2 : Int) ^ d := by simp
    omega
  by_cases h : (0 ≤ y ∧ y ≤ 3328) ∧ 1 ≤ (d : Int) ∧ (d : Int) ≤ 11
  · rw [squeezeV_in h.1 h.2, e]
    have := Int.emod_nonneg ((2 ^ d * y + 1664) / 3329) (show (2 : Int) ^ d ≠ 0 by omega)
    have := Int.emod_lt_of_pos ((2 ^ d * y + 1664) / 3329) (show (0 : Int) < 2 ^ d by omega)
    omega
  · rw [squeezeV_out h]
    omega
theorem spec_l13Squeezed_ev (l : List Int) (d : Nat) (h1 : 1 ≤ d) (h2 : d ≤ 11) (hl : l.length ≤ 1000) : Ev (fun k => spec_l13Squeezed.f k l (d : Int)) (packV d (sqV l d)) := by
  unfold spec_l13Squeezed.f
  refine Ev.up (g := fun i k => spec_l13Squeezed.l0 k l (d : Int) ((l.take i).map fun y => squeezeV y d) (i : Int)) (r := packV d (sqV l d)) l.length ?_ ?_ 0 (by omega)
  · intro i hi h
    have ln : ((l.take i).map fun y => squeezeV y d).length < 17592186044416 := by rw [List.length_map, List.length_take]; omega
    refine Ev.step (f := fun k => (spec_Squeeze.f k l[i] d).bind fun t => spec_l13Squeezed.l0 k l (d : Int) (((l.take i).map fun y => squeezeV y d) ++ [t]) ((i + 1 : Nat) : Int)) (fun k => ?_) (Ev.bind (spec_Squeeze_ev l[i] d) ?_)
    · simp only [spec_l13Squeezed.l0]
      rw [if_pos (Int.ofNat_lt.mpr hi), if_pos (Int.natCast_nonneg _), rd_get l i hi, w64s i (by omega)]
      simp only [if_pos ln]
    · rw [map_snoc (fun y => squeezeV y d) l i hi]
      exact h
  · refine Ev.step (f := fun k => (spec_Pack.f k (sqV l d) (d : Int)).bind fun bt => some bt.1) (fun k => ?_) ?_
    · simp only [spec_l13Squeezed.l0]
      rw [if_neg (by omega), List.take_of_length_le (by omega)]
      rfl
    · have e : packR (sqV l d) (d : Int) = (packV d (sqV l d), true) := by
        unfold packR
        rw [Int.toNat_natCast, if_pos ⟨by omega, sq_fits l d⟩]
      have hp := spec_Pack_ev (sqV l d) (d : Int) (by unfold sqV; rw [List.length_map]; omega)
      rw [e] at hp
      exact Ev.bind hp (Ev.now _)
theorem impl_squeezed_ev (l : List Int) (d : Nat) (hl : l.length ≤ 1000) : Ev (fun k => impl_squeezed.f k l (d : Int)) (sqV l d) := by
  unfold impl_squeezed.f
  refine Ev.up (g := fun i k => impl_squeezed.l0 k (d : Int) ((l.take i).map fun y => squeezeV y d) l (l.length : Int) (i : Int)) (r := sqV l d) l.length ?_ ?_ 0 (by omega)
  · intro i hi h
    refine Ev.step (fun k => ?_) h
    have ln : ((l.take i).map fun y => squeezeV y d).length < 17592186044416 := by rw [List.length_map, List.length_take]; omega
    simp only [impl_squeezed.l0]
    rw [if_pos (Int.ofNat_lt.mpr hi), if_pos (Int.natCast_nonneg _), if_pos (Int.ofNat_lt.mpr hi), rd_get l i hi, impl_Squeeze_eq, Option.bind_some, if_pos ln, map_snoc (fun y => squeezeV y d) l i hi, w64s i (by omega)]
  · refine Ev.step (f := fun _ => some (sqV l d)) (fun k => ?_) (Ev.now _)
    simp only [impl_squeezed.l0]
    rw [if_neg (by omega), List.take_of_length_le (by omega)]
    rfl
theorem impl_sq_packed_ev (l : List Int) (d : Nat) (h1 : 1 ≤ d) (h2 : d ≤ 11) (hl : l.length ≤ 1000) : Ev (fun k => impl_packed.f k (sqV l d) (d : Int)) (packV d (sqV l d)) :=
  impl_packed_ev (sqV l d) d h1 (by omega) (by unfold sqV; rw [List.length_map]; omega) (sq_fits l d)

theorem two384_len (s : ByteArray) : ((two384 s).2 = true → ∃ a b, (two384 s).1 = [a, b] ∧ a.length ≤ 1000 ∧ b.length ≤ 1000) := by
  intro h
  unfold two384 at h ⊢
  split
  · split
    · exact ⟨_, _, rfl, polyFromR_len _, polyFromR_len _⟩
    · rename_i h1 h2
      rw [if_pos h1, if_neg h2] at h
      exact absurd h (by decide)
  · rename_i h1
    rw [if_neg h1] at h
    exact absurd h (by decide)
theorem w320 : wrap64 ((0 : Int) * 320) = 0 ∧ wrap64 (0 + 1) = 1 ∧ wrap64 ((1 : Int) * 320) = 320 ∧ wrap64 (1 + 1) = 2 ∧ wrap64 ((2 : Int) * 320) = 640 := by
  refine ⟨?_, ?_, ?_, ?_, ?_⟩ <;> (rw [w64 (by decide) (by decide)]; rfl)
/-- What is opened: for every secret and every cipher the same on both sides. -/
theorem open_any (s c : ByteArray) : ∃ R : List Int × Bool, R.1.length ≤ 1000 ∧ Ev (fun k => spec_l13Open.f k s c) R ∧ Ev (fun k => impl_opened.f k s c) R := by
  have sbad : Ev (fun k => spec_l13Open.j0 k s c true) ([], false) := by
    refine Ev.step (f := fun _ => some ([], false)) (fun k => ?_) (Ev.now _)
    simp only [spec_l13Open.j0]
    rw [if_pos trivial]
  have ibad : Ev (fun k => impl_opened.j0 k s c true) ([], false) := by
    refine Ev.step (f := fun _ => some ([], false)) (fun k => ?_) (Ev.now _)
    simp only [impl_opened.j0]
    rw [if_pos trivial]
  unfold spec_l13Open.f impl_opened.f
  by_cases hs : (s.size : Int) = 1632
  · by_cases hc : (c.size : Int) = 768
    · have hcb : ((c.size : Int) != 768) = false := bne_eq_false_iff_eq.mpr hc
      have s768 : 768 ≤ s.size := by omega
      rw [hcb]
      by_cases h2 : (two384 s).2 = true
      · obtain ⟨a0, a1, ea, la0, la1⟩ := two384_len s h2
        have u0 := strV_len (c.extract 0 320) 10
        have u1 := strV_len (c.extract 320 640) 10
        have uv := strV_len (c.extract 640 c.size) 4
        obtain ⟨n0, hn0, sn0, in0⟩ := ntt_any (strV (c.extract 0 320) 10) (by omega)
        obtain ⟨n1, hn1, sn1, in1⟩ := ntt_any (strV (c.extract 320 640) 10) (by omega)
        obtain ⟨p, hp, sp, ip⟩ := sum_any a0 a1 n0 n1 (by omega) (by omega) (by omega) (by omega)
        obtain ⟨q, hq, sq, iq⟩ := inv_any p (by omega)
        obtain ⟨v, hv, sv, iv⟩ := sub_any (strV (c.extract 640 c.size) 4) q (by omega) (by omega)
        obtain ⟨w1, w2, w3, w4, w5⟩ := w320
        have c320 : (320 : Int) ≤ c.size := by omega
        have c640 : (640 : Int) ≤ c.size := by omega
        refine ⟨(v, true), by show v.length ≤ 1000; omega, Ev.pos hs ?_, Ev.pos hs ?_⟩
        · refine Ev.step (f := fun k => (spec_l13Polys.f k s).bind fun bt => if bt.2 = true then spec_l13Open.l0 k c bt.1 [] 0 else some ([], false)) (fun k => ?_) (Ev.bind (spec_l13Polys_ev s s768) (Ev.pos h2 ?_))
          · simp only [spec_l13Open.j0]
            rw [if_neg (by decide)]
          rw [ea]
          refine Ev.step (f := fun k => (spec_l13Stretched.f k (c.extract 0 320) 10).bind fun t => (spec_Ntt.f k t).bind fun t2 => spec_l13Open.l0 k c [a0, a1] ([] ++ [t2]) 1) (fun k => ?_) (Ev.bind (spec_l13Stretched_ev _ 10) (Ev.bind sn0 ?_))
          · simp only [spec_l13Open.l0, w1, w2, w3]
            rw [if_pos (by decide), if_pos (by decide), if_pos (by decide), if_pos c320]
            rfl
          refine Ev.step (f := fun k => (spec_l13Stretched.f k (c.extract 320 640) 10).bind fun t => (spec_Ntt.f k t).bind fun t2 => spec_l13Open.l0 k c [a0, a1] ([n0] ++ [t2]) 2) (fun k => ?_) (Ev.bind (spec_l13Stretched_ev _ 10) (Ev.bind sn1 ?_))
          · simp only [spec_l13Open.l0, w3, w4, w5]
            rw [if_pos (by decide), if_pos (by decide), if_pos (by decide), if_pos c640]
            rfl
          refine Ev.step (f := fun k => (spec_l13Stretched.f k (c.extract 640 c.size) 4).bind fun t => (spec_l13Sum.f k [a0, a1] [n0, n1]).bind fun t2 => (spec_InvNtt.f k t2).bind fun t3 => (spec_PolySub.f k t t3).bind fun t4 => some (t4, true)) (fun k => ?_) (Ev.bind (spec_l13Stretched_ev _ 4) (Ev.bind sp (Ev.bind sq (Ev.bind sv (Ev.now _)))))
          simp only [spec_l13Open.l0]
          rw [if_neg (by decide), if_pos c640]
          rfl
        · refine Ev.step (f := fun k => (impl_polysOf.f k s).bind fun bt => if bt.2 = true then impl_opened.l0 k c bt.1 [] 0 else some ([], false)) (fun k => ?_) (Ev.bind (impl_polysOf_ev s s768) (Ev.pos h2 ?_))
          · simp only [impl_opened.j0]
            rw [if_neg (by decide)]
          rw [ea]
          have l0 := unpackR_len (c.extract 0 320) 10 256
          have l1 := unpackR_len (c.extract 320 640) 10 256
          have l2 := unpackR_len (c.extract 640 c.size) 4 256
          refine Ev.step (f := fun k => (impl_Unpack.f k (c.extract 0 320) 10 256).bind fun bt => (impl_stretched.f k bt.1 10).bind fun t => (impl_Ntt.f k t).bind fun t2 => impl_opened.l0 k c [a0, a1] ([] ++ [t2]) 1) (fun k => ?_) (Ev.bind (impl_Unpack_ev _ 10 256) (Ev.bind (impl_stretched_ev _ 10 l0) (Ev.bind in0 ?_)))
          · simp only [impl_opened.l0, w1, w2, w3]
            rw [if_pos (by decide), if_pos (by decide), if_pos (by decide), if_pos c320]
            rfl
          refine Ev.step (f := fun k => (impl_Unpack.f k (c.extract 320 640) 10 256).bind fun bt => (impl_stretched.f k bt.1 10).bind fun t => (impl_Ntt.f k t).bind fun t2 => impl_opened.l0 k c [a0, a1] ([n0] ++ [t2]) 2) (fun k => ?_) (Ev.bind (impl_Unpack_ev _ 10 256) (Ev.bind (impl_stretched_ev _ 10 l1) (Ev.bind in1 ?_)))
          · simp only [impl_opened.l0, w3, w4, w5]
            rw [if_pos (by decide), if_pos (by decide), if_pos (by decide), if_pos c640]
            rfl
          refine Ev.step (f := fun k => (impl_Unpack.f k (c.extract 640 c.size) 4 256).bind fun bt => (impl_stretched.f k bt.1 4).bind fun t => (impl_dot.f k [a0, a1] [n0, n1]).bind fun t2 => (impl_InvNtt.f k t2).bind fun t3 => (impl_PolySub.f k t t3).bind fun t4 => some (t4, true)) (fun k => ?_) (Ev.bind (impl_Unpack_ev _ 4 256) (Ev.bind (impl_stretched_ev _ 4 l2) (Ev.bind ip (Ev.bind iq (Ev.bind iv (Ev.now _))))))
          simp only [impl_opened.l0]
          rw [if_neg (by decide), if_pos c640]
          rfl
      · refine ⟨([], false), by simp, Ev.pos hs ?_, Ev.pos hs ?_⟩
        · refine Ev.step (f := fun k => (spec_l13Polys.f k s).bind fun bt => if bt.2 = true then spec_l13Open.l0 k c bt.1 [] 0 else some ([], false)) (fun k => ?_) (Ev.bind (spec_l13Polys_ev s s768) (Ev.neg h2 (Ev.now _)))
          simp only [spec_l13Open.j0]
          rw [if_neg (by decide)]
        · refine Ev.step (f := fun k => (impl_polysOf.f k s).bind fun bt => if bt.2 = true then impl_opened.l0 k c bt.1 [] 0 else some ([], false)) (fun k => ?_) (Ev.bind (impl_polysOf_ev s s768) (Ev.neg h2 (Ev.now _)))
          simp only [impl_opened.j0]
          rw [if_neg (by decide)]
    · have hcb : ((c.size : Int) != 768) = true := bne_iff_ne.mpr hc
      rw [hcb]
      exact ⟨([], false), by simp, Ev.pos hs sbad, Ev.pos hs ibad⟩
  · exact ⟨([], false), by simp, Ev.neg hs sbad, Ev.neg hs ibad⟩
end Go.Proofs.Ythkbgflbbnjcpaa.Pure
