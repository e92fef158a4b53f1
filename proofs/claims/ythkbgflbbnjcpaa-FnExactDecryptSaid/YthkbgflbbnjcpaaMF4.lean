/- How far polynomials are from each other: the greatest distance of their numbers, around. -/
import Derived.Test.YthkbgflbbnjcpaaMVV
import Derived.Test.YthkbgflbbnjcpaaPx9
import Derived.Test.YthkbgflbbnjcpaaPx17
import Derived.Test.YthkbgflbbnjcpaaPx18
namespace Go.Proofs.Ythkbgflbbnjcpaa.Pure
open Go.RowKit Go.Proofs.YthkbgflbbnjcpaaW.PrintWords Go.Proofs.YthkbgflbbnjcpaaW.PrintLast Go.Proofs.YthkbgflbbnjcpaaW.PrintMore Go.Proofs.Ythkbgflbbnjcpaa.P

def around (d : Int) : Int := if 3329 - d < d then 3329 - d else d
def dst (x y : Int) : Int := around ((x - y) % 3329)
theorem dst_in (x y : Int) : 0 ≤ dst x y ∧ dst x y ≤ 1664 := by
  unfold dst around
  split <;> omega
theorem dst_comm (x y : Int) : dst x y = dst y x := by
  unfold dst around
  have h : (y - x) % 3329 = if (x - y) % 3329 = 0 then 0 else 3329 - (x - y) % 3329 := by split <;> omega
  rw [h]
  by_cases c : (x - y) % 3329 = 0
  · rw [if_pos c, c]
  · rw [if_neg c]
    split <;> split <;> omega
theorem dst_zero {x y : Int} (hx : 0 ≤ x ∧ x ≤ 3328) (hy : 0 ≤ y ∧ y ≤ 3328) : dst x y = 0 ↔ x = y := by
  unfold dst around
  constructor
  · intro h
    split at h <;> omega
  · rintro rfl
    rw [Int.sub_self]
    rfl
theorem dst_tri (x y z : Int) : dst x z ≤ dst x y + dst y z := by
  unfold dst around
  have h : (x - z) % 3329 = (x - y) % 3329 + (y - z) % 3329 ∨ (x - z) % 3329 + 3329 = (x - y) % 3329 + (y - z) % 3329 := by omega
  have h1 : 0 ≤ (x - y) % 3329 ∧ (x - y) % 3329 < 3329 := by omega
  have h2 : 0 ≤ (y - z) % 3329 ∧ (y - z) % 3329 < 3329 := by omega
  have h3 : 0 ≤ (x - z) % 3329 ∧ (x - z) % 3329 < 3329 := by omega
  generalize (x - y) % 3329 = u at *
  generalize (y - z) % 3329 = v at *
  generalize (x - z) % 3329 = t at *
  split <;> split <;> split <;> omega
/-- The greatest of the first n. -/
def mostN (f : Nat → Int) : Nat → Int
  | 0 => 0
  | n + 1 => mx (mostN f n) (f n)
theorem mx_le {a b c : Int} (h1 : a ≤ c) (h2 : b ≤ c) : mx a b ≤ c := by unfold mx; split <;> omega
theorem le_mx_l (a b : Int) : a ≤ mx a b := by unfold mx; split <;> omega
theorem le_mx_r (a b : Int) : b ≤ mx a b := by unfold mx; split <;> omega
theorem mostN_le {f : Nat → Int} {n : Nat} {c : Int} (h0 : 0 ≤ c) (h : ∀ i, i < n → f i ≤ c) : mostN f n ≤ c := by
  induction n with
  | zero => exact h0
  | succ n ih => exact mx_le (ih fun i hi => h i (by omega)) (h n (by omega))
theorem mostN_nn (f : Nat → Int) (n : Nat) : 0 ≤ mostN f n := by
  induction n with
  | zero => exact Int.le_refl _
  | succ n ih => exact Int.le_trans ih (le_mx_l _ _)
theorem le_mostN (f : Nat → Int) {n i : Nat} (h : i < n) : f i ≤ mostN f n := by
  induction n with
  | zero => omega
  | succ n ih =>
    by_cases e : i = n
    · subst e; exact le_mx_r _ _
    · exact Int.le_trans (ih (by omega)) (le_mx_l _ _)
theorem mostN_congr {f g : Nat → Int} {n : Nat} (h : ∀ i, i < n → f i = g i) : mostN f n = mostN g n := by
  induction n with
  | zero => rfl
  | succ n ih => simp only [mostN]; rw [ih fun i hi => h i (by omega), h n (by omega)]
def farV (a b : Nat → Int) : Int := mostN (fun i => dst (a i) (b i)) 256
theorem farV_in (a b : Nat → Int) : 0 ≤ farV a b ∧ farV a b ≤ 1664 := ⟨mostN_nn _ _, mostN_le (by decide) fun i _ => (dst_in _ _).2⟩
theorem farV_comm (a b : Nat → Int) : farV a b = farV b a := mostN_congr fun _ _ => dst_comm _ _
theorem farV_tri (a b c : Nat → Int) : farV a c ≤ farV a b + farV b c := by
  have h1 := (farV_in a b).1
  have h2 := (farV_in b c).1
  refine mostN_le (by omega) fun i hi => ?_
  have e1 : dst (a i) (b i) ≤ farV a b := le_mostN (fun i => dst (a i) (b i)) hi
  have e2 : dst (b i) (c i) ≤ farV b c := le_mostN (fun i => dst (b i) (c i)) hi
  have e3 := dst_tri (a i) (b i) (c i)
  omega
theorem farV_zero {a b : Nat → Int} (ha : ∀ i, 0 ≤ a i ∧ a i ≤ 3328) (hb : ∀ i, 0 ≤ b i ∧ b i ≤ 3328) : farV a b = 0 ↔ ∀ i, i < 256 → a i = b i := by
  constructor
  · intro h i hi
    have e1 : dst (a i) (b i) ≤ farV a b := le_mostN (fun i => dst (a i) (b i)) hi
    have e2 := (dst_in (a i) (b i)).1
    exact (dst_zero (ha i) (hb i)).mp (by omega)
  · intro h
    have : farV a b ≤ 0 := mostN_le (Int.le_refl _) fun i hi => by rw [(dst_zero (ha i) (hb i)).mpr (h i hi)]; exact Int.le_refl _
    have := (farV_in a b).1
    omega
theorem farV_self (a : Nat → Int) (ha : ∀ i, 0 ≤ a i ∧ a i ≤ 3328) : farV a a = 0 := (farV_zero ha ha).mpr fun _ _ => rfl
theorem around_w {d : Int} (h0 : 0 ≤ d) (h1 : d ≤ 3328) : mn d (wrap64 (3329 - d)) = around d := by
  unfold mn around
  rw [w64 (by omega) (by omega)]
theorem spec_Far_ev (a b : Nat → Int) (ha : ∀ i, 0 ≤ a i ∧ a i ≤ 3328) (hb : ∀ i, 0 ≤ b i ∧ b i ≤ 3328) : Ev (fun k => spec_Far.f k (vec a) (vec b)) (farV a b) := by
  unfold spec_Far.f
  have oka := vec_ok (f := a) fun i _ => ha i
  have okb := vec_ok (f := b) fun i _ => hb i
  refine Ev.bind (oka ▸ spec_PolyOk_ev (vec a)) (Ev.pos rfl (Ev.bind (okb ▸ spec_PolyOk_ev (vec b)) ?_))
  refine Ev.step (f := fun k => spec_Far.l0 k (vec a) (vec b) 0 0) (fun k => ?_) ?_
  · simp only [spec_Far.j0]
    rw [if_neg (by decide)]
  · refine Ev.up (g := fun i k => spec_Far.l0 k (vec a) (vec b) (mostN (fun i => dst (a i) (b i)) i) (i : Int)) (r := farV a b) 256 ?_ ?_ 0 (by omega)
    · intro i hi h
      refine Ev.step (fun k => ?_) h
      have h1 := ha i
      have h2 := hb i
      have hd : 0 ≤ (a i - b i) % 3329 ∧ (a i - b i) % 3329 ≤ 3328 := mod_in _
      have e : Int.tmod (wrap64 (wrap64 (a i - b i) + 3329)) 3329 = (a i - b i) % 3329 := by
        rw [w64 (x := a i - b i) (by omega) (by omega), w64 (by omega) (by omega), Int.tmod_eq_emod_of_nonneg (by omega)]; omega
      have e2 : wrap64 (3329 - (a i - b i) % 3329) = 3329 - (a i - b i) % 3329 := w64 (by omega) (by omega)
      simp only [spec_Far.l0]
      rw [if_pos (show (i : Int) < 256 from Int.ofNat_lt.mpr hi), if_pos (Int.natCast_nonneg _), vec_length, vec_length, if_pos (Int.ofNat_lt.mpr hi), if_pos (Int.ofNat_lt.mpr hi), vec_rd a i hi, vec_rd b i hi, e, e2, w64s i (Nat.lt_trans hi (by decide))]
      clear e e2
      have ed : dst (a i) (b i) = around ((a i - b i) % 3329) := rfl
      show _ = spec_Far.l0 k (vec a) (vec b) (mx (mostN (fun i => dst (a i) (b i)) i) (dst (a i) (b i))) ((i + 1 : Nat) : Int)
      rw [ed]
      unfold around mx
      by_cases c : 3329 - (a i - b i) % 3329 < (a i - b i) % 3329
      · rw [if_pos c, if_pos c]
        by_cases c2 : 3329 - (a i - b i) % 3329 > mostN (fun i => dst (a i) (b i)) i
        · rw [if_pos c2, if_pos c2]
        · rw [if_neg c2, if_neg c2]
      · rw [if_neg c, if_neg c]
        by_cases c2 : (a i - b i) % 3329 > mostN (fun i => dst (a i) (b i)) i
        · rw [if_pos c2, if_pos c2]
        · rw [if_neg c2, if_neg c2]
    · refine Ev.step (f := fun _ => some (farV a b)) (fun k => ?_) (Ev.now _)
      simp only [spec_Far.l0]
      rw [if_neg (by decide)]
      rfl
theorem impl_Far_ev (a b : Nat → Int) (ha : ∀ i, 0 ≤ a i ∧ a i ≤ 3328) (hb : ∀ i, 0 ≤ b i ∧ b i ≤ 3328) : Ev (fun k => impl_Far.f k (vec a) (vec b)) (farV a b) := by
  unfold impl_Far.f
  refine Ev.bind (impl_PolySub_ev a b ha hb) (Ev.neg (by rw [vec_length]; decide) ?_)
  rw [vec_length]
  refine Ev.up (g := fun i k => impl_Far.l0 k (mostN (fun i => dst (a i) (b i)) i) (vec fun i => (a i - b i) % 3329) ((256 : Nat) : Int) (i : Int)) (r := farV a b) 256 ?_ ?_ 0 (by omega)
  · intro i hi h
    refine Ev.step (fun k => ?_) h
    have hd : 0 ≤ (a i - b i) % 3329 ∧ (a i - b i) % 3329 ≤ 3328 := mod_in _
    simp only [impl_Far.l0]
    rw [vec_length, if_pos (Int.ofNat_lt.mpr hi), if_pos (Int.natCast_nonneg _), if_pos (Int.ofNat_lt.mpr hi), vec_rd _ i hi, around_w hd.1 hd.2, w64s i (Nat.lt_trans hi (by decide))]
    rfl
  · refine Ev.step (f := fun _ => some (farV a b)) (fun k => ?_) (Ev.now _)
    simp only [impl_Far.l0]
    rw [if_neg (by omega)]
    rfl
theorem impl_Far_one (a : Nat → Int) (ha : ∀ i, 0 ≤ a i ∧ a i ≤ 3328) (u : List Int) (hu : u.length ≤ 35184372088832) (hb : polyOk u = false) : Ev (fun k => impl_Far.f k (vec a) u) (-1) := by
  have oka := vec_ok (f := a) fun i _ => ha i
  have e : Ev (fun k => impl_PolySub.f k (vec a) u) [] := by
    unfold impl_PolySub.f
    refine Ev.bind (a := []) ?_ (Ev.now _)
    unfold impl_each_PolySub_1.f
    refine Ev.bind (oka ▸ impl_PolyOk_ev (vec a) (by rw [vec_length]; omega)) (Ev.pos rfl (Ev.bind (impl_PolyOk_ev u hu) ?_))
    refine Ev.step (f := fun _ => some []) (fun k => ?_) (Ev.now _)
    simp only [impl_each_PolySub_1.j0]
    rw [if_pos (by rw [hb]; rfl)]
  unfold impl_Far.f
  exact Ev.bind e (Ev.pos rfl (Ev.now _))
end Go.Proofs.Ythkbgflbbnjcpaa.Pure
