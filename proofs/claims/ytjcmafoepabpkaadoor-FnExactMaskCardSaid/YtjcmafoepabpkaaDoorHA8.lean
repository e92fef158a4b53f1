/- Walks by hand: the reference's bytes of a key and a number. -/
import Derived.Test.YtjcmafoepabpkaaDoorMW2
import Derived.Test.YtjcmafoepabpkaaDoorMW3
import Derived.Test.YtjcmafoepabpkaaDoorMW4
import Derived.Test.YtjcmafoepabpkaaDoorPx0
import Derived.Test.YtjcmafoepabpkaaDoorPx1
import Derived.Test.YtjcmafoepabpkaaDoorPx2
import Derived.Test.YtjcmafoepabpkaaDoorPx4
import Derived.StillTailTactics
import Derived.Deep.QuietTactic
import Derived.BigQuiet
import Derived.RegionTactic
import Derived.IntWalk
import Derived.Laws.CopyOwn
namespace Go.Proofs.YtjcmafoepabpkaaDoor.P
open Go.RowKit Go.Proofs.YtjcmafoepabpkaaDoorW.PrintWords Go.Proofs.YtjcmafoepabpkaaDoorW.PrintLast Go.Proofs.YtjcmafoepabpkaaDoorW.PrintMore Go.Proofs.YtjcmafoepabpkaaDoor.Kit
set_option linter.unusedVariables false
set_option linter.unusedSimpArgs false

def spec_Mask.l0 : Nat → ByteArray → Int → Nat → ByteArray → Nat → Option ByteArray
  | 0, _, _, _, _, _ => none
  | k + 1, key, num, n, o, i => if o.size < n then (if i < 100000 then ((spec_l01Var.f k num).bind fun v => (spec_l06Byte.f (i : Int)).bind fun b => (if v.size ≤ 1000 ∧ b.size ≤ 1000 then ((spec_MacOf.f k key (((⟨#[109]⟩ : ByteArray) ++ v) ++ b)).bind fun t => (if t.size ≤ 1000 then spec_Mask.l0 k key num n (o ++ t) (i + 1) else none)) else none)) else none) else some (o.extract 0 n)
def spec_Mask.f (k : Nat) (key : ByteArray) (num n : Int) : Option (ByteArray × Bool) :=
  if 0 ≤ num ∧ num ≤ 1000000000 then (if 0 ≤ n ∧ n ≤ 8000 then (spec_Mask.l0 k key num n.toNat ⟨#[]⟩ 0).bind (fun t => some (t, true)) else some (⟨#[]⟩, false)) else some (⟨#[]⟩, false)
theorem bl_append8 (a b : ByteArray) : bl (a ++ b) = bl a ++ bl b := by simp [bl]
theorem spec_Mask.mono_l : ∀ k, (∀ y0 y1 y2 y3 y4, LeO (spec_Mask.l0 k y0 y1 y2 y3 y4) (spec_Mask.l0 (k + 1) y0 y1 y2 y3 y4))
  | 0 => fun _ _ _ _ _ r h => by simp [spec_Mask.l0] at h
  | k + 1 => by
    have ih0 := spec_Mask.mono_l k
    intro y0 y1 y2 y3 y4
    unfold spec_Mask.l0
    exact LeO.ite (LeO.ite (LeO.bind (spec_l01Var.mono _ k) (fun _ => LeO.bind (LeO.refl _) (fun _ => LeO.ite (LeO.bind (spec_MacOf.mono _ _ k) (fun _ => LeO.ite (ih0 _ _ _ _ _) (LeO.refl _))) (LeO.refl _)))) (LeO.refl _)) (LeO.refl _)
theorem spec_Mask.mono : ∀ a0 a1 a2 k, LeO (spec_Mask.f k a0 a1 a2) (spec_Mask.f (k + 1) a0 a1 a2) := by
  intro a0 a1 a2 k
  unfold spec_Mask.f
  exact LeO.ite (LeO.ite (LeO.bind (spec_Mask.mono_l k _ _ _ _ _) (fun _ => LeO.refl _)) (LeO.refl _)) (LeO.refl _)
set_option maxHeartbeats 4000000 in
set_option maxRecDepth 100000 in
theorem spec_Mask.calls (k : Nat) (a0 : ByteArray) (a1 a2 : Int) (r1 : ByteArray) (r2 : Bool) (w : World) (h : spec_Mask.f k a0 a1 a2 = some (r1, r2)) :
    Calls Tryd.prog 13 #[.string a0, .int .i64 a1, .int .i64 a2] w fun e w' => e = .returned (.tuple #[.string r1, .bool r2]) ∧ Below w.heap.size w w' := by
  unfold spec_Mask.f at h
  by_cases hnum : 0 ≤ a1 ∧ a1 ≤ 1000000000
  rotate_left
  · rw [if_neg hnum] at h
    obtain ⟨rfl, rfl⟩ := Prod.mk.inj (Option.some.inj h)
    have i1 : spec_l01In.f a1 0 1000000000 = some false := by unfold spec_l01In.f; split <;> simp <;> omega
    clear h hnum
    go_enter Tryd.func13, Tryd.ntmps13
    go_wp2_with (first
      | (go_at_call 62
         (with_reducible refine (spec_l01In.calls a1 0 1000000000 false _ i1).mono ?_)
         rintro e w1 ⟨rfl, ⟨nd, rfl⟩⟩))
    go_ret2
    exact ⟨rfl, by repeat (first | exact Below.refl _ _ | apply pw_below_drewN)⟩
  rw [if_pos hnum] at h
  have i1 : spec_l01In.f a1 0 1000000000 = some true := by unfold spec_l01In.f; rw [if_pos hnum.1]; simp; exact hnum.2
  by_cases hn : 0 ≤ a2 ∧ a2 ≤ 8000
  rotate_left
  · rw [if_neg hn] at h
    obtain ⟨rfl, rfl⟩ := Prod.mk.inj (Option.some.inj h)
    have i2 : spec_l01In.f a2 0 8000 = some false := by unfold spec_l01In.f; split <;> simp <;> omega
    clear h hnum hn
    go_enter Tryd.func13, Tryd.ntmps13
    go_wp2_with (first
      | (go_at_call 62
         first
         | (with_reducible refine (spec_l01In.calls a1 0 1000000000 true _ i1).mono ?_)
         | (with_reducible refine (spec_l01In.calls a2 0 8000 false _ i2).mono ?_)
         rintro e w1 ⟨rfl, ⟨nd, rfl⟩⟩))
    go_ret2
    exact ⟨rfl, by repeat (first | exact Below.refl _ _ | apply pw_below_drewN)⟩
  rw [if_pos hn] at h
  have i2 : spec_l01In.f a2 0 8000 = some true := by unfold spec_l01In.f; rw [if_pos hn.1]; simp; exact hn.2
  obtain ⟨n, rfl⟩ := Int.eq_ofNat_of_zero_le hn.1
  rw [Int.toNat_natCast] at h
  obtain ⟨tR, ht, h⟩ := Option.bind_eq_some_iff.mp h
  obtain ⟨rfl, rfl⟩ := Prod.mk.inj (Option.some.inj h)
  have HNN := Aside0.mk (show n ≤ 8000 by omega)
  have H' := Aside0.mk ht
  clear h ht hn hnum
  have HB0 := Aside0.mk (Below.refl w.heap.size w)
  go_enter Tryd.func13, Tryd.ntmps13
  go_wp2_with (first
    | (go_at_call 62
       first
       | (with_reducible refine (spec_l01In.calls a1 0 1000000000 true _ i1).mono ?_)
       | (with_reducible refine (spec_l01In.calls (n : Int) 0 8000 true _ i2).mono ?_)
       rintro e w1 ⟨rfl, ⟨nd, hw1⟩⟩
       have HB0 := Aside0.mk (show Below w.heap.size w w1 from by rw [hw1]; exact pw_below_drewN HB0.out nd)
       clear hw1))
  have HO := Aside0.mk (show OwnG (w1.alloc (.cells #[] 5)) w1.heap.size (.slice (some ⟨w1.heap.size, 0, none⟩) 0 0) (bl ⟨#[]⟩) from OwnG.empty w1 5)
  have hE := below_alloc (Below.refl w1.heap.size w1) (.cells #[] 5)
  have HBZ := Aside0.mk hE.size
  have HB := Aside0.mk (HB0.out.trans (hE.mono HB0.out.size))
  have HN := Aside0.mk HB0.out.size
  clear hE HB0 i1 i2
  generalize w1.alloc _ = wA at HO HBZ HB ⊢
  obtain ⟨B, hB⟩ : ∃ B, B = w1.heap.size := ⟨_, rfl⟩
  rw [← hB] at HO HBZ HN ⊢
  clear hB
  go_loopg [8, 9] k (fun kq v c wr => ∃ (o : ByteArray) (i : Nat), c = .int .i64 (i : Int) ∧ Aside0 (spec_Mask.l0 kq a0 a1 n o i = some tR) ∧ Aside0 (kq ≤ k) ∧ Aside0 (OwnG wr B v (bl o)) ∧ Aside0 (B ≤ wr.heap.size) ∧ Aside0 (Below w.heap.size w wr) ∧ Aside0 (o.size ≤ 9000))
  case atStart => exact ⟨⟨#[]⟩, 0, rfl, H', ⟨Nat.le_refl _⟩, HO, HBZ, HB, ⟨Nat.zero_le _⟩⟩
  case round =>
    clear HO HBZ HB H'
    obtain ⟨o, i, rfl, HL, HK1, HO, HBZ, HB, HOA⟩ := hrel
    cases gk with
    | zero => exact absurd HL.out (by simp [spec_Mask.l0])
    | succ k1 =>
      have H := HL.out
      clear HL
      simp only [spec_Mask.l0] at H
      obtain ⟨g, cap, hv, hrest⟩ := HO.out
      rw [bl_len] at hv
      subst hv
      clear hrest
      have hon2 := HOA.out
      have hn4 := HNN.out
      by_cases hon : o.size < n
      · rw [if_pos hon] at H
        have hl1 : decide ((o.size : Int) < (n : Int)) = true := decide_eq_true (by omega)
        have hl2 : decide (o.size < n) = true := decide_eq_true hon
        split at H
        case isFalse => exact absurd H (by simp)
        case isTrue hi =>
        obtain ⟨v, hv, H⟩ := Option.bind_eq_some_iff.mp H
        obtain ⟨b, hb, H⟩ := Option.bind_eq_some_iff.mp H
        split at H
        case isFalse => exact absurd H (by simp)
        case isTrue hvb =>
        obtain ⟨t, ht, H⟩ := Option.bind_eq_some_iff.mp H
        split at H
        case isFalse => exact absurd H (by simp)
        case isTrue htz =>
        have HV := Aside0.mk hv
        have HBB := Aside0.mk hb
        have HT := Aside0.mk ht
        have H' := Aside0.mk H
        have HZ := Aside0.mk (show o.size < 8000 ∧ t.size ≤ 1000 ∧ i < 100000 by omega)
        have c1 : (⟨#[109]⟩ : ByteArray).size + v.size ≤ 9223372036854775807 := by show 1 + v.size ≤ _; omega
        have c1' : 1 + v.size ≤ 9223372036854775807 := by omega
        have c2 : ((⟨#[109]⟩ : ByteArray) ++ v).size + b.size ≤ 9223372036854775807 := by rw [ByteArray.size_append]; show 1 + v.size + b.size ≤ _; omega
        have c2' : 1 + v.size + b.size ≤ 9223372036854775807 := by omega
        have e1 : IntKind.i64.wrap ((i : Int) + 1) = ((i + 1 : Nat) : Int) := (IntWalk.i64_in _ (by omega)).trans (by omega)
        clear H hv hb ht hon hon2 hn4 hvb htz hi
        go_wp2_with (first
          | (go_at_call 64
             (with_reducible refine (spec_l01Var.calls k1 a1 v _ HV.out).mono ?_)
             rintro e w5 ⟨rfl, hb5⟩
             have HO := Aside0.mk (HO.out.below hb5)
             have HBZ := Aside0.mk (Nat.le_trans HBZ.out hb5.size)
             have HB := Aside0.mk (HB.out.trans (hb5.mono HB.out.size))
             clear hb5)
          | (go_at_call 65
             (with_reducible refine (spec_l06Byte.calls (i : Int) b _ HBB.out).mono ?_)
             rintro e w5 ⟨rfl, hb5⟩
             have HO := Aside0.mk (HO.out.below hb5)
             have HBZ := Aside0.mk (Nat.le_trans HBZ.out hb5.size)
             have HB := Aside0.mk (HB.out.trans (hb5.mono HB.out.size))
             clear hb5)
          | (go_at_call 63
             (with_reducible refine (spec_MacOf.calls k1 a0 _ t _ HT.out).mono ?_)
             rintro e w5 ⟨rfl, hb5⟩
             have hcv := Lib.run_convert_string_bytes (P := Tryd.prog) w5 9 31 5 t Tryd.underlying9 Tryd.underlying31 Tryd.underlying5
             have HOC := Aside0.mk (OwnG.conv w5 5 t)
             have hbb := below_bytes w5 5 t
             have HO := Aside0.mk ((HO.out.below hb5).below hbb)
             have HBZ := Aside0.mk (Nat.le_trans HBZ.out (Nat.le_trans hb5.size hbb.size))
             have HB := Aside0.mk ((HB.out.trans (hb5.mono HB.out.size)).trans (hbb.mono (HB.out.trans (hb5.mono HB.out.size)).size))
             clear hb5 hbb)
          | (refine append_many rfl (.tmp 25) (.tmp 34) 31 rfl 5 Tryd.underlying31 (by kernel_rfl) B rfl HO.out HBZ.out w5.heap.size _ (bl t) (by rw [bl_len]; rfl) (fun j hj => by rw [bl_len] at hj; exact HOC.out.cells.2.2.2.2.1 j (by rw [bl_len]; exact hj)) (by rw [bl_len, bl_len]; have := HZ.out; omega) ?_
             rintro v2 w2 ho2 hb2
             have HO2 := Aside0.mk (show OwnG w2 B v2 (bl (o ++ t)) by rw [bl_append8]; exact ho2)
             have HBZ := Aside0.mk (Nat.le_trans HBZ.out hb2.size)
             have HB := Aside0.mk (HB.out.trans (hb2.mono HN.out))
             clear ho2 hb2))
        go_roundg k1
        case measure => have := HK1.out; omega
        case rel => exact ⟨o ++ t, i + 1, by go_num, H', ⟨by have := HK1.out; omega⟩, HO2, HBZ, HB, ⟨by rw [ByteArray.size_append]; have := HZ.out; omega⟩⟩
      · rw [if_neg hon] at H
        have hl1 : decide ((o.size : Int) < (n : Int)) = false := decide_eq_false (by omega)
        have hl2 : decide (o.size < n) = false := decide_eq_false hon
        obtain rfl := Option.some.inj H
        have q1 : (n ≤ o.size) = True := eq_true (by omega)
        have q2 : ((n : Int) ≤ (o.size : Int)) = True := eq_true (by omega)
        have hc := HO.out.cells
        have q3 : (n ≤ cap) = True := eq_true (by have := hc.2.2.2.1; rw [bl_len] at this; omega)
        have q4 : ((n : Int) ≤ (cap : Int)) = True := eq_true (by have := hc.2.2.2.1; rw [bl_len] at this; omega)
        have hes : (o.extract 0 n).size = n := by rw [ByteArray.size_extract]; omega
        have hcv : (convert 31 9 (.slice (some ⟨g, 0, none⟩) n cap)).run Tryd.prog wr = .ok (.string (o.extract 0 n)) wr := by
          have h1 := run_convert_bytes_arg (P := Tryd.prog) wr 31 5 Tryd.underlying31 Tryd.underlying5 g 0 n cap (bl (o.extract 0 n)) (by rw [bl_len]; exact hes) (fun j hj => by
            rw [Nat.zero_add]
            refine (HO.out.at j (by rw [bl_len]; omega)).trans ?_
            congr 2
            simp only [bl, List.getD, List.getElem?_map, ByteArray.data_extract, Array.toList_extract]
            rw [List.extract_eq_take_drop, List.drop_zero, Nat.sub_zero, List.getElem?_take_of_lt (by omega)]) 9 Tryd.underlying9
          rw [strOfNums_bl] at h1
          exact h1
        clear H hon hon2 hn4 hes hc
        go_wp2
        go_ret2
        exact ⟨rfl, HB.out⟩
end Go.Proofs.YtjcmafoepabpkaaDoor.P
