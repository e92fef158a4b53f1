/- Drawing: a cursor over the drawn bytes always gives a next number, in its range. -/
import Derived.Test.YtoeagdpddggliaaDoorMKB
import Derived.Test.YtoeagdpddggliaaDoorPx1
import Derived.Test.YtoeagdpddggliaaDoorPx2
namespace Go.Proofs.YtoeagdpddggliaaDoor.Pure
open Go.RowKit Go.Proofs.YtoeagdpddggliaaDoorW.PrintWords Go.Proofs.YtoeagdpddggliaaDoorW.PrintLast Go.Proofs.YtoeagdpddggliaaDoorW.PrintMore Go.Proofs.YtoeagdpddggliaaDoor.P

theorem and255 (x : Int) : 0 ≤ Go.bits .and .i64 x 255 ∧ Go.bits .and .i64 x 255 ≤ 255 := by
  have h : ((BitVec.ofInt 64 x &&& BitVec.ofInt 64 255).toNat) ≤ 255 := by
    rw [BitVec.toNat_and]
    exact Nat.and_le_right
  show 0 ≤ IntKind.i64.wrap (((BitVec.ofInt 64 x &&& BitVec.ofInt 64 255).toNat : Nat) : Int) ∧ IntKind.i64.wrap (((BitVec.ofInt 64 x &&& BitVec.ofInt 64 255).toNat : Nat) : Int) ≤ 255
  rw [IntKind.wrap_i64]
  omega
/-- The place of a cursor. -/
def Cur (l : List Int) (i : Int) : Prop := 0 ≤ i ∧ i ≤ l.length ∧ l.length ≤ 1048576
theorem new_some (l : List Int) (hl : l.length ≤ 1048576) : ∃ h, Ev (fun k => spec_l01New.f k l) (l, 0, h) ∧ Cur l 0 := by
  have key : ∀ d i : Nat, ∀ h : Int, l.length - i = d → i ≤ l.length → ∃ h', Ev (fun k => spec_l01New.l0 k l h (i : Int)) (l, (0 : Int), h') := by
    intro d
    induction d with
    | zero =>
      intro i h hd hi
      refine ⟨h, Ev.step (f := fun _ => some (l, 0, h)) (fun k => ?_) (Ev.now _)⟩
      simp only [spec_l01New.l0]
      rw [if_neg (by omega)]
    | succ d ih =>
      intro i h hd hi
      by_cases h4 : i < 4000
      · obtain ⟨h', e⟩ := ih (i + 1) (Go.bits .and .i64 (wrap64 ((wrap64 ((wrap64 (h * 131)) + (wrap64 (rd l i)))) + 7)) 1073741823) (by omega) (by omega)
        refine ⟨h', Ev.step (fun k => ?_) e⟩
        simp only [spec_l01New.l0]
        rw [if_pos (by omega), if_pos (by omega), if_pos (by omega), w64s i (by omega)]
      · refine ⟨h, Ev.step (f := fun _ => some (l, 0, h)) (fun k => ?_) (Ev.now _)⟩
        simp only [spec_l01New.l0]
        rw [if_pos (by omega), if_neg (by omega)]
  obtain ⟨h', e⟩ := key l.length 0 (wrap64 (27401 + (l.length : Int))) (by omega) (by omega)
  exact ⟨h', e, by unfold Cur; omega⟩
theorem byte_some (l : List Int) (i h : Int) (hc : Cur l i) : ∃ x i' h', spec_l01Byte.f l i h = some (x, i', h') ∧ 0 ≤ x ∧ x ≤ 255 ∧ Cur l i' := by
  obtain ⟨h0, h1, h2⟩ := hc
  unfold spec_l01Byte.f
  by_cases hi : i < l.length
  · rw [if_pos hi, if_pos h0, w64 (x := i + 1) (by omega) (by omega)]
    exact ⟨_, _, _, rfl, (and255 _).1, (and255 _).2, by unfold Cur; omega⟩
  · rw [if_neg hi]
    exact ⟨_, _, _, rfl, (and255 _).1, (and255 _).2, by unfold Cur; omega⟩
theorem tmod_range {x n : Int} (h0 : 0 ≤ x) (hn : 0 < n) : 0 ≤ Int.tmod x n ∧ Int.tmod x n < n := by
  rw [Int.tmod_eq_emod_of_nonneg h0]
  exact ⟨Int.emod_nonneg _ (by omega), Int.emod_lt_of_pos _ hn⟩
theorem below_some (l : List Int) (i h n : Int) (hc : Cur l i) (hn : 0 < n) : ∃ x i' h', spec_l01Below.f l i h n = some (x, i', h') ∧ 0 ≤ x ∧ x < n ∧ Cur l i' := by
  unfold spec_l01Below.f
  rw [if_neg (by omega)]
  by_cases h256 : n ≤ 256
  · obtain ⟨x, i', h', e, hx0, hx1, hc'⟩ := byte_some l i h hc
    rw [if_pos h256, e]
    simp only [Option.bind_some]
    rw [if_neg (by omega)]
    exact ⟨_, _, _, rfl, (tmod_range hx0 hn).1, (tmod_range hx0 hn).2, hc'⟩
  · obtain ⟨a, i1, h1, e1, ha0, ha1, hc1⟩ := byte_some l i h hc
    obtain ⟨b, i2, h2, e2, hb0, hb1, hc2⟩ := byte_some l i1 h1 hc1
    obtain ⟨c, i3, h3, e3, hc0, hc1', hc3⟩ := byte_some l i2 h2 hc2
    obtain ⟨d, i4, h4, e4, hd0, hd1, hc4⟩ := byte_some l i3 h3 hc3
    rw [if_neg h256, e1]
    simp only [Option.bind_some]
    rw [e2]
    simp only [Option.bind_some]
    rw [e3]
    simp only [Option.bind_some]
    rw [e4]
    simp only [Option.bind_some]
    rw [if_neg (by omega)]
    have e : wrap64 ((wrap64 ((wrap64 ((wrap64 (a * 16777216)) + (wrap64 (b * 65536)))) + (wrap64 (c * 256)))) + d) = a * 16777216 + b * 65536 + c * 256 + d := by
      rw [w64 (x := a * 16777216) (by omega) (by omega), w64 (x := b * 65536) (by omega) (by omega), w64 (x := c * 256) (by omega) (by omega), w64 (x := a * 16777216 + b * 65536) (by omega) (by omega), w64 (x := a * 16777216 + b * 65536 + c * 256) (by omega) (by omega), w64 (by omega) (by omega)]
    rw [e]
    have hx0 : 0 ≤ a * 16777216 + b * 65536 + c * 256 + d := by omega
    exact ⟨_, _, _, rfl, (tmod_range hx0 hn).1, (tmod_range hx0 hn).2, hc4⟩

end Go.Proofs.YtoeagdpddggliaaDoor.Pure
