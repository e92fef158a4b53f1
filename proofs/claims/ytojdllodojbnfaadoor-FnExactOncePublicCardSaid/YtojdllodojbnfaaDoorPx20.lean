-- PRINTED by print.py (a twelfth state) out of the translation. Not trusted: Lean checks it.
import Derived.Test.YtojdllodojbnfaaDoorPx0
import Derived.Test.YtojdllodojbnfaaDoorPx11
import Derived.Test.YtojdllodojbnfaaDoorPx13
import Derived.Test.YtojdllodojbnfaaDoorPx15
import Derived.Test.YtojdllodojbnfaaDoorPx16
namespace Go.Proofs.YtojdllodojbnfaaDoor.P
open Go.RowKit Go.Proofs.YtojdllodojbnfaaDoorW.PrintWords Go.Proofs.YtojdllodojbnfaaDoorW.PrintLast Go.Proofs.YtojdllodojbnfaaDoorW.PrintMore
attribute [local go_sem] max2_int min2_int max_two min_two max_three min_three max_four min_four   -- for this text's walks alone
set_option linter.unusedVariables false
set_option linter.unusedSimpArgs false

/-! ### spec_OncePublic: function 29 -/
def spec_OncePublic.l0 : Nat → List ByteArray → Int → ByteArray → Int → Option (ByteArray)
 | 0, _, _, _, _ => none
 | k + 1, x0, x1, x5, x6 => if x6 < 10 then (if 0 ≤ x6 then (if x6 < (x0.length : Int) then ((spec_ChainOf.f k (rdOf ByteArray.empty x0 x6) x1 x6 0 15).bind fun t320 => (if x5.size + t320.size ≤ 9223372036854775807 then (spec_OncePublic.l0 k x0 x1 (x5 ++ t320) (wrap64 (x6 + 1))) else (none))) else (none)) else (none)) else ((spec_Chop.f k x5).bind fun t321 => (some t321))
def spec_OncePublic.f (k : Nat) (l0 : List ByteArray) (a1 : Int) : Option (ByteArray) := if (l0.length : Int) = 10 then (spec_OncePublic.l0 k l0 a1 (⟨#[]⟩ : ByteArray) 0) else (some (⟨#[]⟩ : ByteArray))
theorem spec_OncePublic.mono_l : ∀ k, (∀ y0 y1 y2 y3, LeO (spec_OncePublic.l0 k y0 y1 y2 y3) (spec_OncePublic.l0 (k + 1) y0 y1 y2 y3))
 | 0 => fun _ _ _ _ r h => by simp [spec_OncePublic.l0] at h
 | k + 1 => by
  have ih0 := spec_OncePublic.mono_l k
  ·intro y0 y1 y2 y3
   unfold spec_OncePublic.l0
   repeat' first
   | (with_reducible exact ih0 _ _ _ _)
   | (with_reducible exact spec_ChainOf.mono _ _ _ _ _ _)
   | (with_reducible exact spec_Chop.mono _ _)
   | (with_reducible exact LeO.refl _)
   | (with_reducible exact LeO.none _)
   | (with_reducible refine LeO.ite ?_ ?_)
   | (with_reducible refine LeO.bind ?_ (fun _ => ?_))
   | exact ih0 _ _ _ _
   | exact spec_ChainOf.mono _ _ _ _ _ _
   | exact spec_Chop.mono _ _
   | exact LeO.none _
   | refine LeO.ite ?_ ?_
   | refine LeO.bind ?_ (fun _ => ?_)
theorem spec_OncePublic.mono : ∀ a0 a1 k, LeO (spec_OncePublic.f k a0 a1) (spec_OncePublic.f (k + 1) a0 a1) := by
 intro a0 a1 k
 have ih0 := spec_OncePublic.mono_l k
 unfold spec_OncePublic.f
 repeat' first
   | (with_reducible exact ih0 _ _ _ _)
   | (with_reducible exact spec_ChainOf.mono _ _ _ _ _ _)
   | (with_reducible exact spec_Chop.mono _ _)
   | (with_reducible exact LeO.refl _)
   | (with_reducible exact LeO.none _)
   | (with_reducible refine LeO.ite ?_ ?_)
   | (with_reducible refine LeO.bind ?_ (fun _ => ?_))
   | exact ih0 _ _ _ _
   | exact spec_ChainOf.mono _ _ _ _ _ _
   | exact spec_Chop.mono _ _
   | exact LeO.none _
   | refine LeO.ite ?_ ?_
   | refine LeO.bind ?_ (fun _ => ?_)
set_option maxHeartbeats 8000000 in
set_option maxRecDepth 100000 in
theorem spec_OncePublic.calls (k : Nat) (A0 : Option Addr) (c0 : Nat) (l0 : List ByteArray) (a1 : Int) (r : ByteArray) (w : World) (hr0 : Kd.C Kd.string w A0 l0.length l0) (hc0 : l0.length ≤ c0) (h : spec_OncePublic.f k l0 a1 = some r) :
  Calls Tryd.prog 29 #[.slice A0 l0.length c0, .int .i64 a1] w fun e w' => e = .returned (.string r) ∧ Below w.heap.size w w' := by
 have HR0 := Aside0.mk hr0
 have HC0 := Aside0.mk hc0
 clear hr0 hc0
 have HB := Aside0.mk (Below.refl w.heap.size w)
 have H : (if (l0.length : Int) = 10 then (spec_OncePublic.l0 k l0 a1 (⟨#[]⟩ : ByteArray) 0) else (some (⟨#[]⟩ : ByteArray))) = some r := h
 clear h
 by_cases c3 : (l0.length : Int) = 10
 ·rw [if_pos c3] at H
  have c3b0 : ((l0.length : Int) == 10) = true := beq_iff_eq.mpr c3
  have c3b1 : ((l0.length : Int) != 10) = false := bne_eq_false_iff_eq.mpr c3
  clear c3
  have H' := Aside0.mk H
  clear H
  go_enter Tryd.func29, Tryd.ntmps29
  go_wp2
  go_loopg [5, 6] k (fun kq v5 v6 w' => ∃ (x5_1 : ByteArray) (x6_1 : Int), v5 = .string x5_1 ∧ v6 = .int .i64 x6_1 ∧ Aside0 (spec_OncePublic.l0 kq l0 a1 x5_1 x6_1 = some r) ∧ Aside0 (kq ≤ k) ∧ Aside0 (Below w.heap.size w w'))
  case atStart => exact ⟨((⟨#[]⟩ : ByteArray)), (0), (by first | rfl | (simp; done) | (simp [*]; done)), (by first | rfl | (simp; done) | (simp [*]; done)), H', ⟨Nat.le_refl _⟩, ⟨by repeat (first | (with_reducible first | exact HB.out | apply below_alloc | apply pw_below_drewN | apply below_drew1) | exact HB.out)⟩⟩
  case round =>
   clear H'
   try clear c2
   try clear p2
   try clear c3
   try clear c3b0
   try clear c3b1
   obtain ⟨x5_1, x6_1, rfl, rfl, HA, HK1, HB⟩ := hrel
   cases gk with
   | zero => exact absurd HA.out (by simp [spec_OncePublic.l0])
   | succ k1 =>
    have H := HA.out
    clear HA
    simp only [spec_OncePublic.l0] at H
    by_cases c4 : x6_1 < 10
    ·rw [if_pos c4] at H
     have c4b0 : decide (x6_1 < 10) = true := decide_eq_true c4
     clear c4
     by_cases c5 : 0 ≤ x6_1
     ·rw [if_pos c5] at H
      have c5b0 : decide (0 ≤ x6_1) = true := decide_eq_true c5
      clear c5
      by_cases c6 : x6_1 < (l0.length : Int)
      ·rw [if_pos c6] at H
       have c6b0 : decide (x6_1 < (l0.length : Int)) = true := decide_eq_true c6
       clear c6
       replace H := Option.bind_eq_some_iff.mp H
       obtain ⟨t320, A70, H⟩ := H
       replace H : (if x5_1.size + t320.size ≤ 9223372036854775807 then (spec_OncePublic.l0 k1 l0 a1 (x5_1 ++ t320) (wrap64 (x6_1 + 1))) else (none)) = some r := H
       have A7 := Aside0.mk A70
       clear A70
       by_cases c8 : x5_1.size + t320.size ≤ 9223372036854775807
       ·rw [if_pos c8] at H
        have c8b0 := eq_true c8
        have c8b1 : decide (x5_1.size + t320.size ≤ 9223372036854775807) = true := decide_eq_true c8
        try have c8b2 : (9223372036854775807 < x5_1.size + t320.size) = False := eq_false (Nat.not_lt.2 c8)
        have H' := Aside0.mk H
        clear H
        have p319 : 0 ≤ (x6_1 : Int) := of_decide_eq_true (by first | (with_reducible assumption) | assumption)
        have q319 : x6_1 < (l0.length : Int) := of_decide_eq_true (by first | (with_reducible assumption) | assumption)
        obtain ⟨ad319, e319, hx319_0⟩ := Kd.at_string HR0.out x6_1 p319 q319
        cases e319
        replace hx319_0 := (HB.out.cell (World.block_lt_of_cell? w _ hx319_0)).trans hx319_0
        replace p319 := eq_true p319
        replace q319 := eq_true q319
        go_wp2_with (first | ((with_reducible refine gate_callee (f := 16) rfl ?_); refine goesL_ (some 21) rfl rfl Tryd.func16 (by kernel_rfl) rfl #[.string (rdOf ByteArray.empty l0 x6_1), .int .i64 a1, .int .i64 x6_1, .int .i64 0, .int .i64 15] rfl (by (try simp only [List.map_toArray, List.map_cons, List.map_nil]); first | done | rfl | (simp only [List.length_drop, List.length_take]; rfl)) ?_; (with_reducible refine (spec_ChainOf.calls k1 (rdOf ByteArray.empty l0 x6_1) a1 x6_1 0 15 t320 _ A7.out).mono ?_); rintro e w9 ⟨rfl, hb⟩; refine ⟨_, rfl, ?_⟩; have n0_ := Aside0.mk (below_step (by repeat (first | (with_reducible first | exact HB.out | apply below_alloc | apply pw_below_drewN | apply below_drew1) | exact HB.out)) hb); clear HB; have HB := n0_; clear n0_; (try clear hb); (try clear hb2); (try clear hk); (try clear hi)))
        go_roundg k1
        case measure => have := HK1.out; omega
        case rel => exact ⟨(x5_1 ++ t320), (wrap64 (x6_1 + 1)), (by first | rfl | (simp; done) | (simp [*]; done)), (by first | rfl | (simp; done) | (simp [*]; done)), H', ⟨by have := HK1.out; omega⟩, ⟨by repeat (first | (with_reducible first | exact HB.out | apply below_alloc | apply pw_below_drewN | apply below_drew1) | exact HB.out)⟩⟩
       ·rw [if_neg c8] at H
        exact absurd H (by simp)
      ·rw [if_neg c6] at H
       exact absurd H (by simp)
     ·rw [if_neg c5] at H
      exact absurd H (by simp)
    ·rw [if_neg c4] at H
     have c4b0 : decide (x6_1 < 10) = false := decide_eq_false c4
     clear c4
     replace H := Option.bind_eq_some_iff.mp H
     obtain ⟨t321, A100, H⟩ := H
     replace H : (some t321) = some r := H
     have A10 := Aside0.mk A100
     clear A100
     obtain rfl := Option.some.inj H
     go_wp2_with (first | ((with_reducible refine gate_callee (f := 12) rfl ?_); refine goesL_ (some 24) rfl rfl Tryd.func12 (by kernel_rfl) rfl #[.string x5_1] rfl (by (try simp only [List.map_toArray, List.map_cons, List.map_nil]); first | done | rfl | (simp only [List.length_drop, List.length_take]; rfl)) ?_; (with_reducible refine (spec_Chop.calls k1 x5_1 t321 _ A10.out).mono ?_); rintro e w11 ⟨rfl, hb⟩; refine ⟨_, rfl, ?_⟩; have n0_ := Aside0.mk (below_step (by repeat (first | (with_reducible first | exact HB.out | apply below_alloc | apply pw_below_drewN | apply below_drew1) | exact HB.out)) hb); clear HB; have HB := n0_; clear n0_; (try clear hb); (try clear hb2); (try clear hk); (try clear hi)))
     go_ret
     exact ⟨by first | rfl | (simp [errW_none, errW_some] <;> rfl) | (simp [*, errW_none, errW_some] <;> rfl), by repeat (first | (with_reducible first | exact HB.out | apply below_alloc | apply pw_below_drewN | apply below_drew1) | exact HB.out)⟩
 ·rw [if_neg c3] at H
  have c3b0 : ((l0.length : Int) == 10) = false := beq_eq_false_iff_ne.mpr c3
  have c3b1 : ((l0.length : Int) != 10) = true := bne_iff_ne.mpr c3
  obtain rfl := Option.some.inj H
  go_enter Tryd.func29, Tryd.ntmps29
  go_wp2
  go_ret
  exact ⟨by first | rfl | (simp [errW_none, errW_some] <;> rfl) | (simp [*, errW_none, errW_some] <;> rfl), by repeat (first | (with_reducible first | exact HB.out | apply below_alloc | apply pw_below_drewN | apply below_drew1) | exact HB.out)⟩

/-! ### impl_chopped_OncePublic_1_OncePublic_2: function 43 -/
def impl_chopped_OncePublic_1_OncePublic_2.l0 : Nat → Int → ByteArray → List ByteArray → Int → Int → Option (ByteArray)
 | 0, _, _, _, _, _ => none
 | k + 1, x1, x9, x15, x16, x17 => if x17 < x16 then (if 0 ≤ x17 then (if x17 < (x15.length : Int) then ((impl_OncePublic_1.f x17).bind fun t328 => ((impl_OncePublic_2.f x17).bind fun t329 => ((impl_ChainOf.f k (rdOf ByteArray.empty x15 x17) x1 x17 t328 t329).bind fun t330 => (if x9.size + t330.size ≤ 9223372036854775807 then (impl_chopped_OncePublic_1_OncePublic_2.l0 k x1 (x9 ++ t330) x15 x16 (wrap64 (x17 + 1))) else (none))))) else (none)) else (none)) else ((impl_Chop.f x9).bind fun t331 => (some t331))
def impl_chopped_OncePublic_1_OncePublic_2.f (k : Nat) (l0 : List ByteArray) (a1 : Int) : Option (ByteArray) := if (l0.length : Int) = 10 then (impl_chopped_OncePublic_1_OncePublic_2.l0 k a1 (⟨#[]⟩ : ByteArray) l0 (l0.length : Int) 0) else (some (⟨#[]⟩ : ByteArray))
theorem impl_chopped_OncePublic_1_OncePublic_2.mono_l : ∀ k, (∀ y0 y1 y2 y3 y4, LeO (impl_chopped_OncePublic_1_OncePublic_2.l0 k y0 y1 y2 y3 y4) (impl_chopped_OncePublic_1_OncePublic_2.l0 (k + 1) y0 y1 y2 y3 y4))
 | 0 => fun _ _ _ _ _ r h => by simp [impl_chopped_OncePublic_1_OncePublic_2.l0] at h
 | k + 1 => by
  have ih0 := impl_chopped_OncePublic_1_OncePublic_2.mono_l k
  ·intro y0 y1 y2 y3 y4
   unfold impl_chopped_OncePublic_1_OncePublic_2.l0
   repeat' first
   | (with_reducible exact ih0 _ _ _ _ _)
   | (with_reducible exact impl_ChainOf.mono _ _ _ _ _ _)
   | (with_reducible exact LeO.refl _)
   | (with_reducible exact LeO.none _)
   | (with_reducible refine LeO.ite ?_ ?_)
   | (with_reducible refine LeO.bind ?_ (fun _ => ?_))
   | exact ih0 _ _ _ _ _
   | exact impl_ChainOf.mono _ _ _ _ _ _
   | exact LeO.none _
   | refine LeO.ite ?_ ?_
   | refine LeO.bind ?_ (fun _ => ?_)
theorem impl_chopped_OncePublic_1_OncePublic_2.mono : ∀ a0 a1 k, LeO (impl_chopped_OncePublic_1_OncePublic_2.f k a0 a1) (impl_chopped_OncePublic_1_OncePublic_2.f (k + 1) a0 a1) := by
 intro a0 a1 k
 have ih0 := impl_chopped_OncePublic_1_OncePublic_2.mono_l k
 unfold impl_chopped_OncePublic_1_OncePublic_2.f
 repeat' first
   | (with_reducible exact ih0 _ _ _ _ _)
   | (with_reducible exact impl_ChainOf.mono _ _ _ _ _ _)
   | (with_reducible exact LeO.refl _)
   | (with_reducible exact LeO.none _)
   | (with_reducible refine LeO.ite ?_ ?_)
   | (with_reducible refine LeO.bind ?_ (fun _ => ?_))
   | exact ih0 _ _ _ _ _
   | exact impl_ChainOf.mono _ _ _ _ _ _
   | exact LeO.none _
   | refine LeO.ite ?_ ?_
   | refine LeO.bind ?_ (fun _ => ?_)
set_option maxHeartbeats 8000000 in
set_option maxRecDepth 100000 in
theorem impl_chopped_OncePublic_1_OncePublic_2.calls (k : Nat) (A0 : Option Addr) (c0 : Nat) (l0 : List ByteArray) (a1 : Int) (r : ByteArray) (w : World) (hr0 : Kd.C Kd.string w A0 l0.length l0) (hc0 : l0.length ≤ c0) (h : impl_chopped_OncePublic_1_OncePublic_2.f k l0 a1 = some r) (hLD : Laid w) :
  Calls Tryd.prog 43 #[.slice A0 l0.length c0, .int .i64 a1, .func (.func 44) #[] #[], .func (.func 45) #[] #[]] w fun e w' => e = .returned (.string r) ∧ Below w.heap.size w w' := by
 have HLD := Aside0.mk hLD
 clear hLD
 have HR0 := Aside0.mk hr0
 have HC0 := Aside0.mk hc0
 clear hr0 hc0
 have HB := Aside0.mk (Below.refl w.heap.size w)
 have H : (if (l0.length : Int) = 10 then (impl_chopped_OncePublic_1_OncePublic_2.l0 k a1 (⟨#[]⟩ : ByteArray) l0 (l0.length : Int) 0) else (some (⟨#[]⟩ : ByteArray))) = some r := h
 clear h
 by_cases c3 : (l0.length : Int) = 10
 ·rw [if_pos c3] at H
  have c3b0 : ((l0.length : Int) == 10) = true := beq_iff_eq.mpr c3
  have c3b1 : ((l0.length : Int) != 10) = false := bne_eq_false_iff_eq.mpr c3
  clear c3
  have H' := Aside0.mk H
  clear H
  go_enter Tryd.func43, Tryd.ntmps43
  go_wp2
  go_loopg [9, 17] k (fun kq v9 v17 w' => ∃ (x9_1 : ByteArray) (x17_1 : Int), v9 = .string x9_1 ∧ v17 = .int .i64 x17_1 ∧ Aside0 (impl_chopped_OncePublic_1_OncePublic_2.l0 kq a1 x9_1 l0 (l0.length : Int) x17_1 = some r) ∧ Aside0 (kq ≤ k) ∧ Aside0 (Below w.heap.size w w'))
  case atStart => exact ⟨((⟨#[]⟩ : ByteArray)), (0), (by first | rfl | (simp; done) | (simp [*]; done)), (by first | rfl | (simp; done) | (simp [*]; done)), H', ⟨Nat.le_refl _⟩, ⟨by repeat (first | (with_reducible first | exact HB.out | apply below_alloc | apply pw_below_drewN | apply below_drew1) | exact HB.out)⟩⟩
  case round =>
   clear H'
   try clear c1
   try clear p2
   try clear c3
   try clear c3b0
   try clear c3b1
   obtain ⟨x9_1, x17_1, rfl, rfl, HA, HK1, HB⟩ := hrel
   cases gk with
   | zero => exact absurd HA.out (by simp [impl_chopped_OncePublic_1_OncePublic_2.l0])
   | succ k1 =>
    have H := HA.out
    clear HA
    simp only [impl_chopped_OncePublic_1_OncePublic_2.l0] at H
    by_cases c4 : x17_1 < (l0.length : Int)
    ·rw [if_pos c4] at H
     have c4b0 : decide (x17_1 < (l0.length : Int)) = true := decide_eq_true c4
     clear c4
     by_cases c5 : 0 ≤ x17_1
     ·rw [if_pos c5] at H
      have c5b0 : decide (0 ≤ x17_1) = true := decide_eq_true c5
      clear c5
      by_cases c6 : x17_1 < (l0.length : Int)
      ·rw [if_pos c6] at H
       have c6b0 : decide (x17_1 < (l0.length : Int)) = true := decide_eq_true c6
       clear c6
       replace H := Option.bind_eq_some_iff.mp H
       obtain ⟨t328, A70, H⟩ := H
       replace H : ((impl_OncePublic_2.f x17_1).bind fun t329 => ((impl_ChainOf.f k1 (rdOf ByteArray.empty l0 x17_1) a1 x17_1 t328 t329).bind fun t330 => (if x9_1.size + t330.size ≤ 9223372036854775807 then (impl_chopped_OncePublic_1_OncePublic_2.l0 k1 a1 (x9_1 ++ t330) l0 (l0.length : Int) (wrap64 (x17_1 + 1))) else (none)))) = some r := H
       have A7 := Aside0.mk A70
       clear A70
       replace H := Option.bind_eq_some_iff.mp H
       obtain ⟨t329, A80, H⟩ := H
       replace H : ((impl_ChainOf.f k1 (rdOf ByteArray.empty l0 x17_1) a1 x17_1 t328 t329).bind fun t330 => (if x9_1.size + t330.size ≤ 9223372036854775807 then (impl_chopped_OncePublic_1_OncePublic_2.l0 k1 a1 (x9_1 ++ t330) l0 (l0.length : Int) (wrap64 (x17_1 + 1))) else (none))) = some r := H
       have A8 := Aside0.mk A80
       clear A80
       replace H := Option.bind_eq_some_iff.mp H
       obtain ⟨t330, A90, H⟩ := H
       replace H : (if x9_1.size + t330.size ≤ 9223372036854775807 then (impl_chopped_OncePublic_1_OncePublic_2.l0 k1 a1 (x9_1 ++ t330) l0 (l0.length : Int) (wrap64 (x17_1 + 1))) else (none)) = some r := H
       have A9 := Aside0.mk A90
       clear A90
       by_cases c10 : x9_1.size + t330.size ≤ 9223372036854775807
       ·rw [if_pos c10] at H
        have c10b0 := eq_true c10
        have c10b1 : decide (x9_1.size + t330.size ≤ 9223372036854775807) = true := decide_eq_true c10
        try have c10b2 : (9223372036854775807 < x9_1.size + t330.size) = False := eq_false (Nat.not_lt.2 c10)
        have H' := Aside0.mk H
        clear H
        have p327 : 0 ≤ (x17_1 : Int) := of_decide_eq_true (by first | (with_reducible assumption) | assumption)
        have q327 : x17_1 < (l0.length : Int) := of_decide_eq_true (by first | (with_reducible assumption) | assumption)
        obtain ⟨ad327, e327, hx327_0⟩ := Kd.at_string HR0.out x17_1 p327 q327
        cases e327
        replace hx327_0 := (HB.out.cell (World.block_lt_of_cell? w _ hx327_0)).trans hx327_0
        replace p327 := eq_true p327
        replace q327 := eq_true q327
        go_wp2_with (first | ((with_reducible refine Go.Proofs.YtojdllodojbnfaaDoor.Kit.gate_value (x := .tmp 26) rfl ?_); refine Go.Proofs.YtojdllodojbnfaaDoor.Kit.goesV_ (.tmp 26) (some 28) rfl rfl Tryd.func44 (by kernel_rfl) rfl #[.int .i64 x17_1] rfl (by (try simp only [List.map_toArray, List.map_cons, List.map_nil]); first | done | rfl | (simp only [List.length_drop, List.length_take]; rfl)) (by first | rfl | (simp; done)) ?_; (with_reducible refine (impl_OncePublic_1.calls x17_1 t328 _ A7.out).mono ?_); rintro e w' ⟨rfl, ⟨nd, rfl⟩⟩; refine ⟨_, rfl, ?_⟩) | ((with_reducible refine Go.Proofs.YtojdllodojbnfaaDoor.Kit.gate_value (x := .tmp 29) rfl ?_); refine Go.Proofs.YtojdllodojbnfaaDoor.Kit.goesV_ (.tmp 29) (some 31) rfl rfl Tryd.func45 (by kernel_rfl) rfl #[.int .i64 x17_1] rfl (by (try simp only [List.map_toArray, List.map_cons, List.map_nil]); first | done | rfl | (simp only [List.length_drop, List.length_take]; rfl)) (by first | rfl | (simp; done)) ?_; (with_reducible refine (impl_OncePublic_2.calls x17_1 t329 _ A8.out).mono ?_); rintro e w' ⟨rfl, ⟨nd, rfl⟩⟩; refine ⟨_, rfl, ?_⟩) | ((with_reducible refine gate_callee (f := 17) rfl ?_); refine goesL_ (some 32) rfl rfl Tryd.func17 (by kernel_rfl) rfl #[.string (rdOf ByteArray.empty l0 x17_1), .int .i64 a1, .int .i64 x17_1, .int .i64 t328, .int .i64 t329] rfl (by (try simp only [List.map_toArray, List.map_cons, List.map_nil]); first | done | rfl | (simp only [List.length_drop, List.length_take]; rfl)) ?_; (with_reducible refine (impl_ChainOf.calls k1 (rdOf ByteArray.empty l0 x17_1) a1 x17_1 t328 t329 t330 _ A9.out (HLD.out.below HLD.out.pos (by repeat (first | (with_reducible first | exact HB.out | apply below_alloc | apply pw_below_drewN | apply below_drew1) | exact HB.out)))).mono ?_); rintro e w11 ⟨rfl, hb⟩; refine ⟨_, rfl, ?_⟩; have n0_ := Aside0.mk (below_step (by repeat (first | (with_reducible first | exact HB.out | apply below_alloc | apply pw_below_drewN | apply below_drew1) | exact HB.out)) hb); clear HB; have HB := n0_; clear n0_; (try clear hb); (try clear hb2); (try clear hk); (try clear hi)))
        go_roundg k1
        case measure => have := HK1.out; omega
        case rel => exact ⟨(x9_1 ++ t330), (wrap64 (x17_1 + 1)), (by first | rfl | (simp; done) | (simp [*]; done)), (by first | rfl | (simp; done) | (simp [*]; done)), H', ⟨by have := HK1.out; omega⟩, ⟨by repeat (first | (with_reducible first | exact HB.out | apply below_alloc | apply pw_below_drewN | apply below_drew1) | exact HB.out)⟩⟩
       ·rw [if_neg c10] at H
        exact absurd H (by simp)
      ·rw [if_neg c6] at H
       exact absurd H (by simp)
     ·rw [if_neg c5] at H
      exact absurd H (by simp)
    ·rw [if_neg c4] at H
     have c4b0 : decide (x17_1 < (l0.length : Int)) = false := decide_eq_false c4
     clear c4
     replace H := Option.bind_eq_some_iff.mp H
     obtain ⟨t331, A120, H⟩ := H
     replace H : (some t331) = some r := H
     have A12 := Aside0.mk A120
     clear A120
     obtain rfl := Option.some.inj H
     go_wp2_with (first | ((with_reducible refine gate_callee (f := 13) rfl ?_); refine goesL_ (some 36) rfl rfl Tryd.func13 (by kernel_rfl) rfl #[.string x9_1] rfl (by (try simp only [List.map_toArray, List.map_cons, List.map_nil]); first | done | rfl | (simp only [List.length_drop, List.length_take]; rfl)) ?_; (with_reducible refine (impl_Chop.calls x9_1 t331 _ A12.out (HLD.out.below HLD.out.pos (by repeat (first | (with_reducible first | exact HB.out | apply below_alloc | apply pw_below_drewN | apply below_drew1) | exact HB.out)))).mono ?_); rintro e w13 ⟨rfl, hb⟩; refine ⟨_, rfl, ?_⟩; have n0_ := Aside0.mk (below_step (by repeat (first | (with_reducible first | exact HB.out | apply below_alloc | apply pw_below_drewN | apply below_drew1) | exact HB.out)) hb); clear HB; have HB := n0_; clear n0_; (try clear hb); (try clear hb2); (try clear hk); (try clear hi)))
     go_ret
     exact ⟨by first | rfl | (simp [errW_none, errW_some] <;> rfl) | (simp [*, errW_none, errW_some] <;> rfl), by repeat (first | (with_reducible first | exact HB.out | apply below_alloc | apply pw_below_drewN | apply below_drew1) | exact HB.out)⟩
 ·rw [if_neg c3] at H
  have c3b0 : ((l0.length : Int) == 10) = false := beq_eq_false_iff_ne.mpr c3
  have c3b1 : ((l0.length : Int) != 10) = true := bne_iff_ne.mpr c3
  obtain rfl := Option.some.inj H
  go_enter Tryd.func43, Tryd.ntmps43
  go_wp2
  go_ret
  exact ⟨by first | rfl | (simp [errW_none, errW_some] <;> rfl) | (simp [*, errW_none, errW_some] <;> rfl), by repeat (first | (with_reducible first | exact HB.out | apply below_alloc | apply pw_below_drewN | apply below_drew1) | exact HB.out)⟩

end Go.Proofs.YtojdllodojbnfaaDoor.P
