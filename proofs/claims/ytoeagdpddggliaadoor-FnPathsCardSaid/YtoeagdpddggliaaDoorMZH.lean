/- Paths of trees: the reference's and the program's. -/
import Derived.Test.YtoeagdpddggliaaDoorMZE
import Derived.Test.YtoeagdpddggliaaDoorPx26
import Derived.Test.YtoeagdpddggliaaDoorPx30
import Derived.Test.YtoeagdpddggliaaDoorPx34
import Derived.Test.YtoeagdpddggliaaDoorPx35
namespace Go.Proofs.YtoeagdpddggliaaDoor.Pure
open Go.RowKit Go.Proofs.YtoeagdpddggliaaDoorW.PrintWords Go.Proofs.YtoeagdpddggliaaDoorW.PrintLast Go.Proofs.YtoeagdpddggliaaDoorW.PrintMore Go.Proofs.YtoeagdpddggliaaDoor.P Go.Proofs.YtoeagdpddggliaaDoor.Kit
set_option linter.unusedVariables false
set_option linter.unusedSimpArgs false

def sib (p : Nat) : Nat := if p % 2 = 1 then p - 1 else p + 1
theorem xor_sib (p : Nat) (h : p ≤ 3) : Go.bits .xor .i64 (p : Int) 1 = ((sib p : Nat) : Int) := by
  match p, h with
  | 0, _ => rfl
  | 1, _ => rfl
  | 2, _ => rfl
  | 3, _ => rfl
theorem sib_lt (p n : Nat) (h : p < 2 * n) : sib p < 2 * n := by unfold sib; split <;> omega
theorem path_spec (lv : Nat) (hlv : lv ≤ 2) (l r : List ByteArray) (p m : Nat) (acc R : List ByteArray) (hl : l.length = 2 * m) (hm : m ≤ 2) (hp : p < 2 * m) (ha : acc.length ≤ 5) (f : Ev (fun k => spec_LevelUp.f k (lv : Int) l) r)
    (h : Ev (fun k => spec_PathOf.l0 k r ((p / 2 : Nat) : Int) (acc ++ [rdOf ByteArray.empty l ((sib p : Nat) : Int)]) ((lv + 1 : Nat) : Int)) R) : Ev (fun k => spec_PathOf.l0 k l (p : Int) acc (lv : Int)) R := by
  have hs := sib_lt p m hp
  have e1 : wrap64 (Int.tdiv (p : Int) 2) = ((p / 2 : Nat) : Int) := by rw [Int.tdiv_eq_ediv_of_nonneg (by omega), w64 (by omega) (by omega)]; omega
  have e2 : Int.tmod (p : Int) 2 = ((p % 2 : Nat) : Int) := by rw [Int.tmod_eq_emod_of_nonneg (by omega)]; omega
  refine Ev.step (f := fun k => (spec_LevelUp.f k (lv : Int) l).bind fun t => spec_PathOf.l0 k t ((p / 2 : Nat) : Int) (acc ++ [rdOf ByteArray.empty l ((sib p : Nat) : Int)]) ((lv + 1 : Nat) : Int)) (fun k => ?_) (Ev.bind f h)
  simp only [spec_PathOf.l0]
  rw [if_pos (by omega), e1, e2, w64s lv (by omega)]
  by_cases hb : p % 2 = 1
  · have e3 : wrap64 ((p : Int) - 1) = ((sib p : Nat) : Int) := by rw [w64 (by omega) (by omega)]; unfold sib; rw [if_pos hb]; omega
    rw [if_pos (by omega), e3, if_pos (by omega), if_pos (by omega), if_pos (by omega)]
  · have e3 : wrap64 ((p : Int) + 1) = ((sib p : Nat) : Int) := by rw [w64 (by omega) (by omega)]; unfold sib; rw [if_neg hb]; rfl
    rw [if_neg (by omega), e3, if_pos (by omega), if_pos (by omega), if_pos (by omega)]
theorem path_impl (lv : Nat) (hlv : lv ≤ 2) (l r : List ByteArray) (p m : Nat) (acc R : List ByteArray) (hl : l.length = 2 * m) (hm : m ≤ 2) (hm0 : 0 < m) (hp : p < 2 * m) (ha : acc.length ≤ 5) (f : Ev (fun k => impl_LevelUp.f k (lv : Int) l) r)
    (h : Ev (fun k => impl_PathOf.l0 k r ((p / 2 : Nat) : Int) (acc ++ [rdOf ByteArray.empty l ((sib p : Nat) : Int)]) ((lv + 1 : Nat) : Int)) R) : Ev (fun k => impl_PathOf.l0 k l (p : Int) acc (lv : Int)) R := by
  have hs := sib_lt p m hp
  have e1 : wrap64 (Int.tdiv (p : Int) 2) = ((p / 2 : Nat) : Int) := by rw [Int.tdiv_eq_ediv_of_nonneg (by omega), w64 (by omega) (by omega)]; omega
  refine Ev.step (f := fun k => (impl_LevelUp.f k (lv : Int) l).bind fun t => impl_PathOf.l0 k t ((p / 2 : Nat) : Int) (acc ++ [rdOf ByteArray.empty l ((sib p : Nat) : Int)]) ((lv + 1 : Nat) : Int)) (fun k => ?_) (Ev.bind f h)
  simp only [impl_PathOf.l0]
  rw [if_pos (by omega), e1, w64s lv (by omega), xor_sib p (by omega), if_pos (by omega), if_pos (by omega), if_pos (by omega)]
theorem pathOf_same (l : List ByteArray) (p : Int) (hs : ∀ s ∈ l, s.size ≤ 1048576) : ∃ R, R.length ≤ 2 ∧ Ev (fun k => spec_PathOf.f k l p) R ∧ Ev (fun k => impl_PathOf.f k l p) R := by
  have no1 : Ev (fun k => spec_PathOf.j0 k l p [] true) [] := Ev.step (f := fun _ => some []) (fun k => by simp only [spec_PathOf.j0]; rw [if_pos trivial]) (Ev.now _)
  have no2 : Ev (fun k => impl_PathOf.j0 k l p true) [] := Ev.step (f := fun _ => some []) (fun k => by simp only [impl_PathOf.j0]; rw [if_pos trivial]) (Ev.now _)
  by_cases hl : l.length = 4
  · by_cases hp : 0 ≤ p ∧ p ≤ 3
    · obtain ⟨q, rfl⟩ := Int.eq_ofNat_of_zero_le hp.1
      obtain ⟨r, r1, r2, f1, f2⟩ := level_same 1 l (by omega) hs
      obtain ⟨t, t1, t2, g1, g2⟩ := level_same 2 r (by omega) (fun s h => by rw [r2 s h]; decide)
      refine ⟨([] ++ [rdOf ByteArray.empty l ((sib q : Nat) : Int)]) ++ [rdOf ByteArray.empty r ((sib (q / 2) : Nat) : Int)], by simp, ?_, ?_⟩
      · unfold spec_PathOf.f
        refine Ev.then rfl (Ev.pos (by omega) (Ev.then (spec_in _ _ _) ?_))
        rw [decide_eq_true hp]
        refine Ev.step (f := fun k => spec_PathOf.l0 k l (q : Int) [] 1) (fun k => by simp only [spec_PathOf.j0]; rw [if_neg (by decide)]) ?_
        refine path_spec 1 (by decide) l r q 2 [] _ (by omega) (by omega) (by omega) (by simp) f1 ?_
        refine path_spec 2 (by decide) r t (q / 2) 1 _ _ (by omega) (by omega) (by omega) (by simp) g1 ?_
        exact Ev.step (f := fun _ => some _) (fun k => by simp only [spec_PathOf.l0]; rw [if_neg (by decide)]) (Ev.now _)
      · unfold impl_PathOf.f
        refine Ev.pos (by omega) (Ev.then (impl_in_eq _ _ _) ?_)
        rw [decide_eq_true hp]
        refine Ev.step (f := fun k => impl_PathOf.l0 k l (q : Int) [] 1) (fun k => by simp only [impl_PathOf.j0]; rw [if_neg (by decide)]) ?_
        refine path_impl 1 (by decide) l r q 2 [] _ (by omega) (by omega) (by omega) (by omega) (by simp) f2 ?_
        refine path_impl 2 (by decide) r t (q / 2) 1 _ _ (by omega) (by omega) (by omega) (by omega) (by simp) g2 ?_
        exact Ev.step (f := fun _ => some _) (fun k => by simp only [impl_PathOf.l0]; rw [if_neg (by omega)]) (Ev.now _)
    · refine ⟨[], by decide, ?_, ?_⟩
      · unfold spec_PathOf.f
        refine Ev.then rfl (Ev.pos (by omega) (Ev.then (spec_in _ _ _) ?_))
        rw [decide_eq_false hp]
        exact no1
      · unfold impl_PathOf.f
        refine Ev.pos (by omega) (Ev.then (impl_in_eq _ _ _) ?_)
        rw [decide_eq_false hp]
        exact no2
  · refine ⟨[], by decide, ?_, ?_⟩
    · unfold spec_PathOf.f
      exact Ev.then rfl (Ev.neg (by omega) no1)
    · unfold impl_PathOf.f
      exact Ev.neg (by omega) no2
end Go.Proofs.YtoeagdpddggliaaDoor.Pure
