/- Draws: one of a list, once in a while, texts, texts that are spoilt. -/
import Derived.Test.YtoeagdpddggliaaDoorMJ
import Derived.Test.YtoeagdpddggliaaDoorMKB
import Derived.Test.YtoeagdpddggliaaDoorPx1
import Derived.Test.YtoeagdpddggliaaDoorPx2
namespace Go.Proofs.YtoeagdpddggliaaDoor.Pure
open Go.RowKit Go.Proofs.YtoeagdpddggliaaDoorW.PrintWords Go.Proofs.YtoeagdpddggliaaDoorW.PrintLast Go.Proofs.YtoeagdpddggliaaDoorW.PrintMore Go.Proofs.YtoeagdpddggliaaDoor.P

theorem pickInt_some (l : List Int) (i h : Int) (xs : List Int) (hc : Cur l i) (hx : 0 < xs.length) : ∃ x i' h', spec_l01PickInt.f l i h xs = some (x, i', h') ∧ x ∈ xs ∧ Cur l i' := by
  obtain ⟨x, i', h', e, h0, h1, hc'⟩ := below_some l i h xs.length hc (by omega)
  refine ⟨rd xs x, i', h', ?_, rd_mem xs x h0 h1, hc'⟩
  unfold spec_l01PickInt.f
  rw [e, Option.bind_some, if_pos h0, if_pos h1]
theorem text_some (l : List Int) (i h : Int) (n : Int) (hc : Cur l i) (hn : n ≤ 5000) : ∃ (t : ByteArray) (i' h' : Int), Ev (fun k => spec_l01Text.f k l i h n) (t, i', h') ∧ t.size = n.toNat ∧ Cur l i' := by
  have key : ∀ d m : Nat, ∀ (ps : List Int) (i h : Int), n.toNat - m = d → m ≤ n.toNat → Cur l i → ps.length = m →
      ∃ (t : ByteArray) (i' h' : Int), Ev (fun k => spec_l01Text.l0 k n ps (m : Int) l i h) (t, i', h') ∧ t.size = n.toNat ∧ Cur l i' := by
    intro d
    induction d with
    | zero =>
      intro m ps i h hd hm hc hp
      refine ⟨strOfNums ps, i, h, Ev.step (f := fun _ => some (strOfNums ps, i, h)) (fun k => ?_) (Ev.now _), by rw [strOfNums_size]; omega, hc⟩
      simp only [spec_l01Text.l0]
      rw [if_neg (by omega)]
    | succ d ih =>
      intro m ps i h hd hm hc hp
      obtain ⟨x, i1, h1, e1, _, _, hc1⟩ := byte_some l i h hc
      obtain ⟨t, i', h', e, ht, hc'⟩ := ih (m + 1) (ps ++ [x % 256]) i1 h1 (by omega) (by omega) hc1 (by simp [hp])
      have c1 : (m : Int) < n := by omega
      have c2 : ps.length < 140737488355328 := by omega
      refine ⟨t, i', h', Ev.step (fun k => ?_) e, ht, hc'⟩
      simp only [spec_l01Text.l0]
      rw [if_pos c1, e1, Option.bind_some, if_pos c2, w64s m (by omega)]
  obtain ⟨t, i', h', e, ht, hc'⟩ := key n.toNat 0 [] i h (by omega) (by omega) hc rfl
  refine ⟨t, i', h', ?_, ht, hc'⟩
  unfold spec_l01Text.f
  refine Ev.neg (by omega) ?_
  refine Ev.step (fun k => ?_) e
  simp only [spec_l01Text.j0]
  rfl
end Go.Proofs.YtoeagdpddggliaaDoor.Pure
