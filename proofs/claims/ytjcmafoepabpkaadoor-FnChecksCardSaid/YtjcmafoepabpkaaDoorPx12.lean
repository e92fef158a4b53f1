-- printed texts of this session, regrouped
import Derived.Test.YtjcmafoepabpkaaDoorMW7
import Derived.Test.YtjcmafoepabpkaaDoorMW6
import Derived.Test.YtjcmafoepabpkaaDoorPx0
import Derived.Test.YtjcmafoepabpkaaDoorPx2
import Derived.Test.YtjcmafoepabpkaaDoorPx11
namespace Go.Proofs.YtjcmafoepabpkaaDoor.P
open Go.RowKit Go.Proofs.YtjcmafoepabpkaaDoorW.PrintWords Go.Proofs.YtjcmafoepabpkaaDoorW.PrintLast Go.Proofs.YtjcmafoepabpkaaDoorW.PrintMore
attribute [local go_sem] max2_int min2_int max_two min_two max_three min_three max_four min_four   -- for this text's walks alone
set_option linter.unusedVariables false
set_option linter.unusedSimpArgs false

/-! ### impl_RootBy: function 86 -/
mutual
def impl_RootBy.j0 : Nat → ByteArray → Int → List ByteArray → Bool → Option (ByteArray)
 | 0, _, _, _, _ => none
 | k + 1, x0, x1, x2, x16 => if x16 = true then (some (⟨#[]⟩ : ByteArray)) else (impl_RootBy.l0 k x0 x1 x2 (x2.length : Int) 0)
def impl_RootBy.l0 : Nat → ByteArray → Int → List ByteArray → Int → Int → Option (ByteArray)
 | 0, _, _, _, _, _ => none
 | k + 1, x0, x1, x17, x18, x19 => if x19 < x18 then (if 0 ≤ x19 then (if x19 < (x17.length : Int) then (if (Int.tmod x1 2) = 0 then ((impl_Node.f (wrap64 (x19 + 1)) (wrap64 (Int.tdiv x1 2)) x0 (rdOf ByteArray.empty x17 x19)).bind fun t481 => (impl_RootBy.l0 k t481 (wrap64 (Int.tdiv x1 2)) x17 x18 (wrap64 (x19 + 1)))) else ((impl_Node.f (wrap64 (x19 + 1)) (wrap64 (Int.tdiv x1 2)) (rdOf ByteArray.empty x17 x19) x0).bind fun t482 => (impl_RootBy.l0 k t482 (wrap64 (Int.tdiv x1 2)) x17 x18 (wrap64 (x19 + 1))))) else (none)) else (none)) else (some x0)
end
def impl_RootBy.f (k : Nat) (a0 : ByteArray) (a1 : Int) (l2 : List ByteArray) : Option (ByteArray) := if (l2.length : Int) = 2 then ((impl_in.f a1 0 3).bind fun t479 => (impl_RootBy.j0 k a0 a1 l2 (!t479))) else (impl_RootBy.j0 k a0 a1 l2 true)
theorem impl_RootBy.mono_l : ∀ k, (∀ y0 y1 y2 y3, LeO (impl_RootBy.j0 k y0 y1 y2 y3) (impl_RootBy.j0 (k + 1) y0 y1 y2 y3)) ∧ (∀ y0 y1 y2 y3 y4, LeO (impl_RootBy.l0 k y0 y1 y2 y3 y4) (impl_RootBy.l0 (k + 1) y0 y1 y2 y3 y4))
 | 0 => ⟨fun _ _ _ _ r h => by simp [impl_RootBy.j0] at h, fun _ _ _ _ _ r h => by simp [impl_RootBy.l0] at h⟩
 | k + 1 => by
  obtain ⟨ih0, ih1⟩ := impl_RootBy.mono_l k
  refine ⟨?_, ?_⟩
  ·intro y0 y1 y2 y3
   unfold impl_RootBy.j0
   repeat' first
   | (with_reducible exact ih0 _ _ _ _)
   | (with_reducible exact ih1 _ _ _ _ _)
   | (with_reducible exact LeO.refl _)
   | (with_reducible exact LeO.none _)
   | (with_reducible refine LeO.ite ?_ ?_)
   | (with_reducible refine LeO.bind ?_ (fun _ => ?_))
  ·intro y0 y1 y2 y3 y4
   unfold impl_RootBy.l0
   repeat' first
   | (with_reducible exact ih0 _ _ _ _)
   | (with_reducible exact ih1 _ _ _ _ _)
   | (with_reducible exact LeO.refl _)
   | (with_reducible exact LeO.none _)
   | (with_reducible refine LeO.ite ?_ ?_)
   | (with_reducible refine LeO.bind ?_ (fun _ => ?_))
theorem impl_RootBy.mono : ∀ a0 a1 a2 k, LeO (impl_RootBy.f k a0 a1 a2) (impl_RootBy.f (k + 1) a0 a1 a2) := by
 intro a0 a1 a2 k
 obtain ⟨ih0, ih1⟩ := impl_RootBy.mono_l k
 unfold impl_RootBy.f
 repeat' first
   | (with_reducible exact ih0 _ _ _ _)
   | (with_reducible exact ih1 _ _ _ _ _)
   | (with_reducible exact LeO.refl _)
   | (with_reducible exact LeO.none _)
   | (with_reducible refine LeO.ite ?_ ?_)
   | (with_reducible refine LeO.bind ?_ (fun _ => ?_))
set_option maxHeartbeats 8000000 in
set_option maxRecDepth 100000 in
theorem impl_RootBy.calls (k : Nat) (a0 : ByteArray) (a1 : Int) (A2 : Option Addr) (c2 : Nat) (l2 : List ByteArray) (r : ByteArray) (w : World) (hr2 : Kd.C Kd.string w A2 l2.length l2) (hc2 : l2.length ≤ c2) (h : impl_RootBy.f k a0 a1 l2 = some r) (hLD : Laid w) :
  Calls Tryd.prog 86 #[.string a0, .int .i64 a1, .slice A2 l2.length c2] w fun e w' => e = .returned (.string r) ∧ Below w.heap.size w w' := by
 have HLD := Aside0.mk hLD
 clear hLD
 have HR2 := Aside0.mk hr2
 have HC2 := Aside0.mk hc2
 clear hr2 hc2
 have HB := Aside0.mk (Below.refl w.heap.size w)
 have H : (if (l2.length : Int) = 2 then ((impl_in.f a1 0 3).bind fun t479 => (impl_RootBy.j0 k a0 a1 l2 (!t479))) else (impl_RootBy.j0 k a0 a1 l2 true)) = some r := h
 clear h
 have HC4 := Aside0.mk H
 clear H
 go_enter Tryd.func86, Tryd.ntmps86
 go_upto_region 1 with (fail)
 go_cut [16] (fun v16 wc => ∃ (kq : Nat) (x16_3 : Bool), v16 = .bool x16_3 ∧ Aside0 (impl_RootBy.j0 kq a0 a1 l2 x16_3 = some r) ∧ Aside0 (kq ≤ k) ∧ Aside0 (Below w.heap.size w wc))
 case first =>
  have H := HC4.out
  clear HC4
  by_cases c5 : (l2.length : Int) = 2
  ·rw [if_pos c5] at H
   have c5b0 : ((l2.length : Int) == 2) = true := beq_iff_eq.mpr c5
   have c5b1 : ((l2.length : Int) != 2) = false := bne_eq_false_iff_eq.mpr c5
   clear c5
   (first | rw [c5b0] | (simp only [i64_w, i32_w]; rw [c5b0]) | skip)
   replace H := Option.bind_eq_some_iff.mp H
   obtain ⟨t479, A60, H⟩ := H
   try dsimp -simprocs only at H
   have A6 := Aside0.mk A60
   clear A60
   have H' := Aside0.mk H
   clear H
   go_wp2_with (first | (go_at_call 67; (with_reducible refine (impl_in.calls a1 0 3 t479 _ A6.out).mono ?_); rintro e w' ⟨rfl, ⟨nd, rfl⟩⟩))
   go_meet
   case rel => exact ⟨_, (!t479), (by first | rfl | (simp; done) | (simp [*]; done)), H', ⟨by first | omega | exact Nat.le_refl _⟩, ⟨hB_⟩⟩
  rw [if_neg c5] at H
  have c5b0 : ((l2.length : Int) == 2) = false := beq_eq_false_iff_ne.mpr c5
  have c5b1 : ((l2.length : Int) != 2) = true := bne_iff_ne.mpr c5
  (first | rw [c5b0] | (simp only [i64_w, i32_w]; rw [c5b0]) | skip)
  have H' := Aside0.mk H
  clear H
  go_wp2
  go_meet
  case rel => exact ⟨_, (true), (by first | rfl | (simp; done) | (simp [*]; done)), H', ⟨by first | omega | exact Nat.le_refl _⟩, ⟨hB_⟩⟩
 case rest =>
  clear HC4
  try clear c2
  try clear p2
  try clear c5
  try clear c5b0
  try clear c5b1
  obtain ⟨kq, x16_3, rfl, HA, HJ3, HB⟩ := hcut
  cases kq with
  | zero => exact absurd HA.out (by simp [impl_RootBy.j0])
  | succ kj3 =>
   have H := HA.out
   clear HA
   simp only [impl_RootBy.j0] at H
   by_cases c7 : x16_3 = true
   ·subst c7
    have H1 : (some (⟨#[]⟩ : ByteArray)) = some r := by rw [if_pos rfl] at H; exact H
    clear H
    have H := H1
    clear H1
    obtain rfl := Option.some.inj H
    go_wp2
    go_ret
    exact ⟨by first | rfl | (simp [errW_none, errW_some] <;> rfl) | (simp [*, errW_none, errW_some] <;> rfl), hB_⟩
   ·replace c7 := Bool.eq_false_iff.mpr c7
    subst c7
    have H1 : (impl_RootBy.l0 kj3 a0 a1 l2 (l2.length : Int) 0) = some r := by rw [if_neg (show ¬ (false = true) by decide)] at H; exact H
    clear H
    have H := H1
    clear H1
    have H' := Aside0.mk H
    clear H
    go_wp2
    go_loopg [0, 1, 19] kj3 (fun kq v0 v1 v19 w' => ∃ (x0_2 : ByteArray) (x1_2 : Int) (x19_2 : Int), v0 = .string x0_2 ∧ v1 = .int .i64 x1_2 ∧ v19 = .int .i64 x19_2 ∧ Aside0 (impl_RootBy.l0 kq x0_2 x1_2 l2 (l2.length : Int) x19_2 = some r) ∧ Aside0 (kq ≤ kj3) ∧ Aside0 (Below w.heap.size w w'))
    case atStart => exact ⟨(a0), (a1), (0), (by first | rfl | (simp; done) | (simp [*]; done)), (by first | rfl | (simp; done) | (simp [*]; done)), (by first | rfl | (simp; done) | (simp [*]; done)), H', ⟨Nat.le_refl _⟩, ⟨hB_⟩⟩
    case round =>
     clear H'
     try clear c2
     try clear p2
     try clear c5
     try clear c5b0
     try clear c5b1
     try clear c7
     try clear p2
     obtain ⟨x0_2, x1_2, x19_2, rfl, rfl, rfl, HA, HK2, HB⟩ := hrel
     cases gk with
     | zero => exact absurd HA.out (by simp [impl_RootBy.l0])
     | succ k2 =>
      have H := HA.out
      clear HA
      simp only [impl_RootBy.l0] at H
      by_cases c8 : x19_2 < (l2.length : Int)
      rotate_left
      ·rw [if_neg c8] at H
       have c8b0 := decide_eq_false c8
       clear c8
       obtain rfl := Option.some.inj H
       go_wp2
       go_ret
       exact ⟨by first | rfl | (simp [errW_none, errW_some] <;> rfl) | (simp [*, errW_none, errW_some] <;> rfl), hB_⟩
      rw [if_pos c8] at H
      have c8b0 := decide_eq_true c8
      clear c8
      obtain ⟨c9, H⟩ := iN_ H
      have c9b0 := decide_eq_true c9
      clear c9
      obtain ⟨c10, H⟩ := iN_ H
      have c10b0 := decide_eq_true c10
      clear c10
      by_cases c11 : (Int.tmod x1_2 2) = 0
      ·rw [if_pos c11] at H
       have c11b0 : ((Int.tmod x1_2 2) == 0) = true := beq_iff_eq.mpr c11
       have c11b1 : ((Int.tmod x1_2 2) != 0) = false := bne_eq_false_iff_eq.mpr c11
       clear c11
       replace H := Option.bind_eq_some_iff.mp H
       obtain ⟨t481, A120, H⟩ := H
       try dsimp -simprocs only at H
       have A12 := Aside0.mk A120
       clear A120
       have H' := Aside0.mk H
       clear H
       have p480 : 0 ≤ (x19_2 : Int) := of_decide_eq_true (by first | (with_reducible assumption) | assumption)
       have q480 : x19_2 < (l2.length : Int) := of_decide_eq_true (by first | (with_reducible assumption) | assumption)
       obtain ⟨ad480, e480, hx480_0⟩ := Kd.at_string HR2.out x19_2 p480 q480
       cases e480
       replace hx480_0 := (HB.out.cell (World.block_lt_of_cell? w _ hx480_0)).trans hx480_0
       replace p480 := eq_true p480
       replace q480 := eq_true q480
       go_wp2_with (first | ((with_reducible refine gate_callee (f := 115) rfl ?_); refine goesL_ (some 33) rfl rfl Tryd.func115 (by kernel_rfl) rfl #[.int .i64 (wrap64 (x19_2 + 1)), .int .i64 (wrap64 (Int.tdiv x1_2 2)), .string x0_2, .string (rdOf ByteArray.empty l2 x19_2)] rfl aM_ ?_; (with_reducible refine (impl_Node.calls (wrap64 (x19_2 + 1)) (wrap64 (Int.tdiv x1_2 2)) x0_2 (rdOf ByteArray.empty l2 x19_2) t481 _ A12.out (HLD.out.below HLD.out.pos (hB_))).mono ?_); rintro e w13 ⟨rfl, hb⟩; refine ⟨_, rfl, ?_⟩; have n0_ := Aside0.mk (below_step (hB_) hb); replace HB := n0_; clear n0_; (try clear hb)))
       go_roundg k2
       case measure => have := HJ3.out; have := HK2.out; omega
       case rel => exact ⟨(t481), (wrap64 (Int.tdiv x1_2 2)), (wrap64 (x19_2 + 1)), (by first | rfl | (simp; done) | (simp [*]; done)), (by first | rfl | (simp; done) | (simp [*]; done)), (by first | rfl | (simp; done) | (simp [*]; done)), H', ⟨by have := HJ3.out; have := HK2.out; omega⟩, ⟨hB_⟩⟩
      rw [if_neg c11] at H
      have c11b0 : ((Int.tmod x1_2 2) == 0) = false := beq_eq_false_iff_ne.mpr c11
      have c11b1 : ((Int.tmod x1_2 2) != 0) = true := bne_iff_ne.mpr c11
      replace H := Option.bind_eq_some_iff.mp H
      obtain ⟨t482, A140, H⟩ := H
      try dsimp -simprocs only at H
      have A14 := Aside0.mk A140
      clear A140
      have H' := Aside0.mk H
      clear H
      have p480 : 0 ≤ (x19_2 : Int) := of_decide_eq_true (by first | (with_reducible assumption) | assumption)
      have q480 : x19_2 < (l2.length : Int) := of_decide_eq_true (by first | (with_reducible assumption) | assumption)
      obtain ⟨ad480, e480, hx480_0⟩ := Kd.at_string HR2.out x19_2 p480 q480
      cases e480
      replace hx480_0 := (HB.out.cell (World.block_lt_of_cell? w _ hx480_0)).trans hx480_0
      replace p480 := eq_true p480
      replace q480 := eq_true q480
      go_wp2_with (first | ((with_reducible refine gate_callee (f := 115) rfl ?_); refine goesL_ (some 40) rfl rfl Tryd.func115 (by kernel_rfl) rfl #[.int .i64 (wrap64 (x19_2 + 1)), .int .i64 (wrap64 (Int.tdiv x1_2 2)), .string (rdOf ByteArray.empty l2 x19_2), .string x0_2] rfl aM_ ?_; (with_reducible refine (impl_Node.calls (wrap64 (x19_2 + 1)) (wrap64 (Int.tdiv x1_2 2)) (rdOf ByteArray.empty l2 x19_2) x0_2 t482 _ A14.out (HLD.out.below HLD.out.pos (hB_))).mono ?_); rintro e w15 ⟨rfl, hb⟩; refine ⟨_, rfl, ?_⟩; have n0_ := Aside0.mk (below_step (hB_) hb); replace HB := n0_; clear n0_; (try clear hb)))
      go_roundg k2
      case measure => have := HJ3.out; have := HK2.out; omega
      case rel => exact ⟨(t482), (wrap64 (Int.tdiv x1_2 2)), (wrap64 (x19_2 + 1)), (by first | rfl | (simp; done) | (simp [*]; done)), (by first | rfl | (simp; done) | (simp [*]; done)), (by first | rfl | (simp; done) | (simp [*]; done)), H', ⟨by have := HJ3.out; have := HK2.out; omega⟩, ⟨hB_⟩⟩

end Go.Proofs.YtjcmafoepabpkaaDoor.P
