/- Draws: one of a list, once in a while, texts, texts that are spoilt. -/
import Derived.Test.YthkbgflbbnjcpaaMJ
import Derived.Test.YthkbgflbbnjcpaaMKB
import Derived.Test.YthkbgflbbnjcpaaPx2
import Derived.Test.YthkbgflbbnjcpaaPx3
import Derived.Test.YthkbgflbbnjcpaaPx12
import Derived.Test.YthkbgflbbnjcpaaPx13
namespace Go.Proofs.Ythkbgflbbnjcpaa.Pure
open Go.RowKit Go.Proofs.YthkbgflbbnjcpaaW.PrintWords Go.Proofs.YthkbgflbbnjcpaaW.PrintLast Go.Proofs.YthkbgflbbnjcpaaW.PrintMore Go.Proofs.Ythkbgflbbnjcpaa.P

theorem pickInt_some (l : List Int) (i h : Int) (xs : List Int) (hc : Cur l i) (hx : 0 < xs.length) : ∃ x i' h', spec_l01PickInt.f l i h xs = some (x, i', h') ∧ x ∈ xs ∧ Cur l i' := by
  obtain ⟨x, i', h', e, h0, h1, hc'⟩ := below_some l i h xs.length hc (by omega)
  refine ⟨rd xs x, i', h', ?_, rd_mem xs x h0 h1, hc'⟩
  unfold spec_l01PickInt.f
  rw [e, Option.bind_some, if_pos h0, if_pos h1]
theorem once_some (l : List Int) (i h n : Int) (hc : Cur l i) (hn : 0 < n) : ∃ b i' h', spec_l01Once.f l i h n = some (b, i', h') ∧ Cur l i' := by
  obtain ⟨x, i', h', e, _, _, hc'⟩ := below_some l i h n hc hn
  refine ⟨x == 0, i', h', ?_, hc'⟩
  unfold spec_l01Once.f
  rw [e, Option.bind_some]
theorem text_some (l : List Int) (i h : Int) (n : Int) (hc : Cur l i) (hn : n ≤ 5000) : ∃ (t : ByteArray) (i' h' : Int), Ev (fun k => spec_l01Text.f k l i h n) (t, i', h') ∧ t.size = n.toNat ∧ Cur l i' := by
  have key : ∀ d m : Nat, ∀ (ps : List Int) (i h : Int), n.toNat - m = d → m ≤ n.toNat → Cur l i → ps.length = m →
      ∃ (t : ByteArray) (i' h' : Int), Ev (fun k => spec_l01Text.l0 k n ps (m : Int) l i h) (t, i', h') ∧ t.size = n.toNat ∧ Cur l i' := by
    intro d
    induction d with
    | zero =>
      intro m ps i h hd hm hc hp
      refine ⟨strOfNums ps, i, h, Ev.step (f := fun _ => some (strOfNums ps, i, h)) (fun k => ?_) (Ev.now _), by rw [strOfNums_size]; omega, hc⟩
      simp only [spec_l01Text.l0]
      rw [if_neg (by omega)]
    | succ d ih =>
      intro m ps i h hd hm hc hp
      obtain ⟨x, i1, h1, e1, _, _, hc1⟩ := byte_some l i h hc
      obtain ⟨t, i', h', e, ht, hc'⟩ := ih (m + 1) (ps ++ [x % 256]) i1 h1 (by omega) (by omega) hc1 (by simp [hp])
      have c1 : (m : Int) < n := by omega
      have c2 : ps.length < 140737488355328 := by omega
      refine ⟨t, i', h', Ev.step (fun k => ?_) e, ht, hc'⟩
      simp only [spec_l01Text.l0]
      rw [if_pos c1, e1, Option.bind_some, if_pos c2, w64s m (by omega)]
  obtain ⟨t, i', h', e, ht, hc'⟩ := key n.toNat 0 [] i h (by omega) (by omega) hc rfl
  refine ⟨t, i', h', ?_, ht, hc'⟩
  unfold spec_l01Text.f
  refine Ev.neg (by omega) ?_
  refine Ev.step (fun k => ?_) e
  simp only [spec_l01Text.j0]
  rfl
theorem spoilt_some (l : List Int) (i h : Int) (s : ByteArray) (hc : Cur l i) (hs : s.size ≤ 1000000) : ∃ (t : ByteArray) (i' h' : Int), Ev (fun k => spec_l02Spoilt.f k l i h s) (t, i', h') ∧ t.size ≤ 1000001 ∧ Cur l i' := by
  obtain ⟨x, i1, h1, e1, hx0, hx1, hc1⟩ := below_some l i h 12 hc (by omega)
  have no : ∃ (t : ByteArray) (i' h' : Int), Ev (fun k => spec_l02Spoilt.j0 k s false l i1 h1) (t, i', h') ∧ t.size ≤ 1000001 ∧ Cur l i' := by
    refine ⟨s, i1, h1, Ev.step (f := fun _ => some (s, i1, h1)) (fun k => ?_) (Ev.now _), by omega, hc1⟩
    simp only [spec_l02Spoilt.j0]
    rw [if_neg (by decide)]
  have yes : ∃ (t : ByteArray) (i' h' : Int), Ev (fun k => spec_l02Spoilt.j0 k s true l i1 h1) (t, i', h') ∧ t.size ≤ 1000001 ∧ Cur l i' := by
    by_cases hp : (s.size : Int) > 0
    · obtain ⟨y, i2, h2, e2, hy0, hy1, hc2⟩ := below_some l i1 h1 s.size hc1 (by omega)
      obtain ⟨t, i3, h3, e3, ht, hc3⟩ := text_some l i2 h2 1 hc2 (by omega)
      have ew : wrap64 (y + 1) = y + 1 := w64 (by omega) (by omega)
      have s1 : (s.extract 0 y.toNat).size ≤ s.size := by rw [ByteArray.size_extract]; omega
      have s2 : (s.extract (y + 1).toNat s.size).size ≤ s.size - (y + 1).toNat := by rw [ByteArray.size_extract]; omega
      have s1' : (s.extract 0 y.toNat).size = y.toNat := by rw [ByteArray.size_extract]; omega
      have ht1 : t.size = 1 := by rw [ht]; rfl
      have s3 : (s.extract 0 y.toNat ++ t).size = y.toNat + 1 := by rw [ByteArray.size_append, s1', ht1]
      refine ⟨(s.extract 0 y.toNat ++ t) ++ s.extract (y + 1).toNat s.size, i3, h3, ?_, by rw [ByteArray.size_append, s3]; omega, hc3⟩
      refine Ev.step (f := fun k => (spec_l01Text.f k l i2 h2 1).bind fun bt216 => (if (s.extract 0 (y : Int).toNat).size + bt216.1.size ≤ 9223372036854775807 then (if 0 ≤ (y + 1) then (if (y + 1) ≤ (s.size : Int) then (if ((s.extract 0 (y : Int).toNat) ++ bt216.1).size + (s.extract ((y + 1) : Int).toNat s.size).size ≤ 9223372036854775807 then (some (((s.extract 0 (y : Int).toNat) ++ bt216.1) ++ (s.extract ((y + 1) : Int).toNat s.size), bt216.2.1, bt216.2.2)) else (none)) else (none)) else (none)) else (none))) (fun k => ?_) (Ev.bind e3 ?_)
      · simp only [spec_l02Spoilt.j0]
        rw [if_pos trivial, if_pos hp, e2, Option.bind_some, if_pos hy0, if_pos (by omega), ew]
      · exact Ev.pos (by show (s.extract 0 y.toNat).size + t.size ≤ _; omega) (Ev.pos (by omega) (Ev.pos (by omega) (Ev.pos (by show (s.extract 0 y.toNat ++ t).size + (s.extract (y + 1).toNat s.size).size ≤ _; omega) (Ev.now _))))
    · refine ⟨s, i1, h1, Ev.step (f := fun _ => some (s, i1, h1)) (fun k => ?_) (Ev.now _), by omega, hc1⟩
      simp only [spec_l02Spoilt.j0]
      rw [if_pos trivial, if_neg hp]
  have both : ∀ b : Bool, ∃ (t : ByteArray) (i' h' : Int), Ev (fun k => spec_l02Spoilt.j0 k s b l i1 h1) (t, i', h') ∧ t.size ≤ 1000001 ∧ Cur l i' := fun b => by
    cases b with
    | true => exact yes
    | false => exact no
  unfold spec_l02Spoilt.f
  simp only [e1, Option.bind_some]
  by_cases h0 : x = 0
  · obtain ⟨t, i3, h3, e3, ht, hc3⟩ := text_some l i1 h1 1 hc1 (by omega)
    have ht1 : t.size = 1 := by rw [ht]; rfl
    exact ⟨s ++ t, i3, h3, Ev.pos h0 (Ev.bind e3 (Ev.pos (by show s.size + t.size ≤ _; omega) (Ev.now _))), by rw [ByteArray.size_append]; omega, hc3⟩
  · by_cases h1' : x = 1
    · have ew : wrap64 ((s.size : Int) + 1) = (s.size : Int) + 1 := w64 (by omega) (by omega)
      obtain ⟨y, i2, h2, e2, hy0, hy1, hc2⟩ := below_some l i1 h1 ((s.size : Int) + 1) hc1 (by omega)
      refine ⟨s.extract 0 y.toNat, i2, h2, Ev.neg h0 (Ev.pos h1' ?_), by rw [ByteArray.size_extract]; omega, hc2⟩
      rw [ew, e2]
      exact Ev.pos hy0 (Ev.pos (by omega) (Ev.now _))
    · by_cases h2 : x = 2
      · obtain ⟨t, i', h', e, p⟩ := both (x == 2)
        exact ⟨t, i', h', Ev.neg h0 (Ev.neg h1' (Ev.pos h2 e)), p⟩
      · obtain ⟨t, i', h', e, p⟩ := both (x == 3)
        exact ⟨t, i', h', Ev.neg h0 (Ev.neg h1' (Ev.neg h2 e)), p⟩
end Go.Proofs.Ythkbgflbbnjcpaa.Pure
