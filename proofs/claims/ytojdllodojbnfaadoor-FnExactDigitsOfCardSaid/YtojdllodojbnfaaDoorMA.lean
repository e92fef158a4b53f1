/- What the laws' own helpers answer: a slice of numbers that is copied, compared with itself, marked, and held against its marks. -/
import Derived.Test.YtojdllodojbnfaaDoorMKB
import Derived.Test.YtojdllodojbnfaaDoorPx5
import Derived.Test.YtojdllodojbnfaaDoorPx6
namespace Go.Proofs.YtojdllodojbnfaaDoor.Pure
open Go.RowKit Go.Proofs.YtojdllodojbnfaaDoorW.PrintWords Go.Proofs.YtojdllodojbnfaaDoorW.PrintLast Go.Proofs.YtojdllodojbnfaaDoorW.PrintMore Go.Proofs.YtojdllodojbnfaaDoor.P

theorem eqIntS_refl (l : List Int) (hl : l.length ≤ 35184372088832) : Ev (fun k => laws_eqIntS.f k l l) true := by
  unfold laws_eqIntS.f
  refine Ev.pos rfl ?_
  refine Ev.up (g := fun i k => laws_eqIntS.l0 k l l (i : Int)) (r := true) l.length ?_ ?_ 0 (by omega)
  · intro i hi h
    refine Ev.step (fun k => ?_) h
    simp only [laws_eqIntS.l0]
    rw [if_pos (by omega), if_pos (by omega), if_pos (by omega), if_pos trivial, w64s i (by omega)]
  · refine Ev.step (f := fun _ => some true) (fun k => ?_) (Ev.now _)
    simp only [laws_eqIntS.l0]
    rw [if_neg (by omega)]

/-- The marks 1, 2, .. -/
def marks (n : Nat) : List Int := (List.range n).map fun i : Nat => ((i : Int) + 1)
theorem marks_length (n : Nat) : (marks n).length = n := by simp [marks]
theorem marks_get (n i : Nat) (h : i < (marks n).length) : (marks n)[i] = (i : Int) + 1 := by simp [marks]
theorem marks_succ (n : Nat) : marks (n + 1) = marks n ++ [(n : Int) + 1] := by simp [marks, List.range_succ]
theorem set_mark (l : List Int) (i : Nat) (h : i < l.length) : (marks i ++ l.drop i).set i ((i : Int) + 1) = marks (i + 1) ++ l.drop (i + 1) := by
  rw [List.drop_eq_getElem_cons h, marks_succ, List.append_assoc, List.set_append_right _ _ (by rw [marks_length]; exact Nat.le_refl _), marks_length, Nat.sub_self]
  rfl

theorem markIntS_ev (l : List Int) (hl : l.length ≤ 35184372088832) : Ev (fun k => laws_markIntS.f k l 1) ((l.length : Int) + 1, marks l.length) := by
  unfold laws_markIntS.f
  have h := Ev.up (g := fun i k => laws_markIntS.l0 k (marks i ++ l.drop i) ((i : Int) + 1) (i : Int)) (r := ((l.length : Int) + 1, marks l.length)) l.length ?_ ?_ 0 (by omega)
  · simpa [marks] using h
  · intro i hi h
    refine Ev.step (fun k => ?_) h
    simp only [laws_markIntS.l0]
    rw [if_pos (by simp [marks_length]; omega), if_pos (by omega), Int.toNat_natCast, set_mark l i hi, w64s i (by omega), w64 (by omega) (by omega)]
    rfl
  · refine Ev.step (f := fun _ => some ((l.length : Int) + 1, marks l.length)) (fun k => ?_) (Ev.now _)
    simp only [laws_markIntS.l0]
    rw [if_neg (by simp [marks_length])]
    simp

theorem heldIntS_ev (n : Nat) (hn : n ≤ 35184372088832) : Ev (fun k => laws_heldIntS.f k (marks n) 1) ((n : Int) + 1) := by
  unfold laws_heldIntS.f
  refine Ev.up (g := fun i k => laws_heldIntS.l0 k (marks n) ((i : Int) + 1) (i : Int)) (r := (n : Int) + 1) n ?_ ?_ 0 (by omega)
  · intro i hi h
    refine Ev.step (fun k => ?_) h
    simp only [laws_heldIntS.l0]
    rw [if_pos (by simp [marks_length]; omega), if_pos (by omega), rd_get _ i (by simpa [marks_length] using hi), marks_get, if_pos rfl, w64s i (by omega), w64 (by omega) (by omega)]
    rfl
  · refine Ev.step (f := fun _ => some ((n : Int) + 1)) (fun k => ?_) (Ev.now _)
    simp only [laws_heldIntS.l0]
    rw [if_neg (by simp [marks_length])]
end Go.Proofs.YtojdllodojbnfaaDoor.Pure
