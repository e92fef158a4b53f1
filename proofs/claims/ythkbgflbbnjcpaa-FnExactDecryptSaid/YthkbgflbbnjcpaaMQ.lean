/- PolyOk and SmallOk, of the program and of the reference: what they answer of any list of numbers. -/
import Derived.Test.YthkbgflbbnjcpaaMS
import Derived.Test.YthkbgflbbnjcpaaPx1
import Derived.Test.YthkbgflbbnjcpaaPx11
namespace Go.Proofs.Ythkbgflbbnjcpaa.Pure
open Go.RowKit Go.Proofs.YthkbgflbbnjcpaaW.PrintWords Go.Proofs.YthkbgflbbnjcpaaW.PrintLast Go.Proofs.YthkbgflbbnjcpaaW.PrintMore Go.Proofs.Ythkbgflbbnjcpaa.P

def inQ (x : Int) : Bool := decide (0 ≤ x ∧ x ≤ 3328)
def polyOk (l : List Int) : Bool := decide (l.length = 256) && l.all inQ
def small1 (x : Int) : Bool := decide (¬ (x > 2 ∧ x < 3327))
def smallOk (l : List Int) : Bool := polyOk l && l.all small1

theorem polyOk_len {l : List Int} (h : polyOk l = true) : l.length = 256 := by
  unfold polyOk at h; rw [Bool.and_eq_true] at h; exact of_decide_eq_true h.1
theorem polyOk_mem {l : List Int} (h : polyOk l = true) {x : Int} (hx : x ∈ l) : 0 ≤ x ∧ x ≤ 3328 := by
  unfold polyOk at h; rw [Bool.and_eq_true] at h
  exact of_decide_eq_true (List.all_eq_true.mp h.2 x hx)
theorem polyOk_get {l : List Int} (h : polyOk l = true) (i : Nat) (hi : i < l.length) : 0 ≤ l[i] ∧ l[i] ≤ 3328 := polyOk_mem h (List.getElem_mem hi)
theorem polyOk_mk {l : List Int} (h : l.length = 256) (hx : ∀ x ∈ l, 0 ≤ x ∧ x ≤ 3328) : polyOk l = true := by
  unfold polyOk; rw [Bool.and_eq_true]
  exact ⟨decide_eq_true h, List.all_eq_true.mpr fun x hm => decide_eq_true (hx x hm)⟩

theorem spec_PolyOk_ev (l : List Int) : Ev (fun k => spec_PolyOk.f k l) (polyOk l) := by
  unfold spec_PolyOk.f polyOk
  by_cases hl : l.length = 256
  · refine Ev.pos (by omega) ?_
    rw [decide_eq_true hl, Bool.true_and]
    refine Ev.upTo (g := fun i k => spec_PolyOk.l0 k l (i : Int)) (r := fun i => (l.drop i).all inQ) l.length ?_ ?_ 0 (by omega)
    · intro i hi h
      simp only [drop_all inQ l i hi]
      cases hb : inQ l[i] with
      | true =>
        rw [Bool.true_and]
        refine Ev.step (fun k => ?_) h
        simp only [spec_PolyOk.l0, l01In_eq, Option.bind_some]
        rw [if_pos (by omega), if_pos (by omega), rd_get l i hi, if_pos (show decide (0 ≤ l[i] ∧ l[i] ≤ 3328) = true from hb), w64s i (by omega)]
      | false =>
        rw [Bool.false_and]
        refine Ev.step (f := fun _ => some false) (fun k => ?_) (Ev.now _)
        simp only [spec_PolyOk.l0, l01In_eq, Option.bind_some]
        rw [if_pos (by omega), if_pos (by omega), rd_get l i hi, if_neg (by unfold inQ at hb; rw [hb]; decide)]
    · refine Ev.step (f := fun _ => some ((l.drop l.length).all inQ)) (fun k => ?_) (Ev.now _)
      simp only [spec_PolyOk.l0]
      rw [if_neg (by omega)]
      simp
  · refine Ev.neg (by omega) ?_
    rw [decide_eq_false hl, Bool.false_and]
    exact Ev.now _

theorem impl_PolyOk_ev (l : List Int) (hl : l.length ≤ 35184372088832) : Ev (fun k => impl_PolyOk.f k l) (polyOk l) := by
  unfold impl_PolyOk.f polyOk
  have h := Ev.upTo (g := fun i k => impl_PolyOk.l0 k l l (l.length : Int) (i : Int)) (r := fun i => decide (l.length = 256) && (l.drop i).all inQ) l.length ?_ ?_ 0 (by omega)
  · simpa using h
  · intro i hi h
    simp only [drop_all inQ l i hi]
    cases hb : inQ l[i] with
    | true =>
      rw [Bool.true_and]
      refine Ev.step (fun k => ?_) h
      simp only [impl_PolyOk.l0, in_eq, Option.bind_some]
      rw [if_pos (by omega), if_pos (by omega), if_pos (by omega), rd_get l i hi, if_pos (show decide (0 ≤ l[i] ∧ l[i] ≤ 3328) = true from hb), w64s i (by omega)]
    | false =>
      rw [Bool.false_and, Bool.and_false]
      refine Ev.step (f := fun _ => some false) (fun k => ?_) (Ev.now _)
      simp only [impl_PolyOk.l0, in_eq, Option.bind_some]
      rw [if_pos (by omega), if_pos (by omega), if_pos (by omega), rd_get l i hi, if_neg (by unfold inQ at hb; rw [hb]; decide)]
  · refine Ev.step (f := fun _ => some (decide (l.length = 256) && (l.drop l.length).all inQ)) (fun k => ?_) (Ev.now _)
    simp only [impl_PolyOk.l0]
    rw [if_neg (by omega)]
    simp
    by_cases h : l.length = 256
    · rw [decide_eq_true h, h]; rfl
    · rw [decide_eq_false h]; rw [beq_eq_false_iff_ne]; omega

def small2 (x : Int) : Bool := decide (¬ mn x (wrap64 (3329 - x)) > 2)
theorem small2_eq {x : Int} (h : inQ x = true) : small2 x = small1 x := by
  have h' : 0 ≤ x ∧ x ≤ 3328 := of_decide_eq_true h
  unfold small2 small1 mn
  rw [w64 (by omega) (by omega), decide_eq_decide]
  split <;> omega
theorem smallOk_eq (l : List Int) : smallOk l = (l.all small2 && polyOk l) := by
  unfold smallOk
  cases hp : polyOk l with
  | false => simp
  | true =>
    rw [Bool.true_and, Bool.and_true]
    have : ∀ l : List Int, (∀ x ∈ l, 0 ≤ x ∧ x ≤ 3328) → l.all small1 = l.all small2 := by
      intro l
      induction l with
      | nil => intro _; rfl
      | cons a l ih =>
        intro hx
        rw [List.all_cons, List.all_cons, ih (fun x hm => hx x (List.mem_cons_of_mem _ hm)), small2_eq (decide_eq_true (hx a (List.mem_cons_self ..)))]
    exact this l fun x hx => polyOk_mem hp hx

end Go.Proofs.Ythkbgflbbnjcpaa.Pure
