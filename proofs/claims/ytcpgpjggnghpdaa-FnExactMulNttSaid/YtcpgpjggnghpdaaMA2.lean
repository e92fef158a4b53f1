/- A slice of numbers that is marked from any number on. -/
import Derived.Test.YtcpgpjggnghpdaaMA
import Derived.Test.YtcpgpjggnghpdaaPx41
namespace Go.Proofs.Ytcpgpjggnghpdaa.Pure
open Go.RowKit Go.Proofs.YtcpgpjggnghpdaaW.PrintWords Go.Proofs.YtcpgpjggnghpdaaW.PrintLast Go.Proofs.YtcpgpjggnghpdaaW.PrintMore Go.Proofs.Ytcpgpjggnghpdaa.P

theorem markIntS_from (l : List Int) (s : Nat) (hl : l.length ≤ 35184372088832) (hs : s ≤ 35184372088832) : ∃ t, Ev (fun k => laws_markIntS.f k l (s : Int)) (((s + l.length : Nat) : Int), t) := by
  have key : ∀ d i : Nat, ∀ x : List Int, x.length = l.length → l.length - i = d → i ≤ l.length → ∃ t, Ev (fun k => laws_markIntS.l0 k x ((s + i : Nat) : Int) (i : Int)) (((s + l.length : Nat) : Int), t) := by
    intro d
    induction d with
    | zero =>
      intro i x hx hd hi
      have e : i = l.length := by omega
      subst e
      refine ⟨x, Ev.step (f := fun _ => some (((s + l.length : Nat) : Int), x)) (fun k => ?_) (Ev.now _)⟩
      simp only [laws_markIntS.l0]
      rw [if_neg (by omega)]
    | succ d ih =>
      intro i x hx hd hi
      obtain ⟨t, ht⟩ := ih (i + 1) (x.set i ((s + i : Nat) : Int)) (by rw [List.length_set]; exact hx) (by omega) (by omega)
      refine ⟨t, Ev.step (fun k => ?_) ht⟩
      have c1 : i < 9223372036854775807 := by omega
      have c2 : s + i < 9223372036854775807 := by omega
      simp only [laws_markIntS.l0]
      rw [if_pos (by omega), if_pos (by omega), Int.toNat_natCast, w64s i c1, w64s (s + i) c2]
      rfl
  unfold laws_markIntS.f
  exact key l.length 0 l rfl (by omega) (by omega)
end Go.Proofs.Ytcpgpjggnghpdaa.Pure
