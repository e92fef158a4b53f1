-- printed texts of this session, regrouped
import Derived.Test.YthdjmbbkenbeiaaDoorMWC
import Derived.Test.YthdjmbbkenbeiaaDoorMWA
import Derived.Test.YthdjmbbkenbeiaaDoorMW7
import Derived.Test.YthdjmbbkenbeiaaDoorMW8
import Derived.Test.YthdjmbbkenbeiaaDoorMW6
import Derived.Test.YthdjmbbkenbeiaaDoorPx0
namespace Go.Proofs.YthdjmbbkenbeiaaDoor.P
open Go.RowKit Go.Proofs.YthdjmbbkenbeiaaDoorW.PrintWords Go.Proofs.YthdjmbbkenbeiaaDoorW.PrintLast Go.Proofs.YthdjmbbkenbeiaaDoorW.PrintMore
attribute [local go_sem] max2_int min2_int max_two min_two max_three min_three max_four min_four   -- for this text's walks alone
set_option linter.unusedVariables false
set_option linter.unusedSimpArgs false
set_option maxHeartbeats 8000000
set_option maxRecDepth 100000

/-! ### spec_l01In: function 52 -/
def spec_l01In.f (a0 : Int) (a1 : Int) (a2 : Int) : Option (Bool) := if a0 ≥ a1 then (some (decide (a0 ≤ a2))) else (some false)
theorem spec_l01In.calls (a0 : Int) (a1 : Int) (a2 : Int) (r : Bool) (w : World) (h : spec_l01In.f a0 a1 a2 = some r) :
  Calls Tryd.prog 52 #[.int .i64 a0, .int .i64 a1, .int .i64 a2] w fun e w' => e = .returned (.bool r) ∧ Drawn0 w w' := by
 delta spec_l01In.f at h
 have H := h
 clear h
 by_cases c4 : a0 ≥ a1
 ·rw [if_pos c4] at H
  have c4b0 := decide_eq_true c4
  clear c4
  obtain rfl := Option.some.inj H
  go_enter Tryd.func52, Tryd.ntmps52
  go_wp2
  go_ret
  exact ⟨f0_, d0_⟩
 rw [if_neg c4] at H
 have c4b0 := decide_eq_false c4
 clear c4
 obtain rfl := Option.some.inj H
 go_enter Tryd.func52, Tryd.ntmps52
 go_wp2
 go_ret
 exact ⟨f0_, d0_⟩

/-! ### spec_HasherOk: function 44 -/
def spec_HasherOk.f (a0_0 : ByteArray) (a0_1 : ByteArray) (a0_2 : Int) : Option (Bool) := if (a0_0.size : Int) = 32 then (if (a0_1.size : Int) < 64 then ((spec_l01In.f a0_2 0 1000000000).bind fun t102 => (if t102 = true then (some ((Int.tmod a0_2 64) == (a0_1.size : Int))) else (some false))) else (some false)) else (some false)
theorem spec_HasherOk.calls (a0_0 : ByteArray) (a0_1 : ByteArray) (a0_2 : Int) (r : Bool) (w : World) (h : spec_HasherOk.f a0_0 a0_1 a0_2 = some r) :
  Calls Tryd.prog 44 #[.agg #[.string a0_0, .string a0_1, .int .i64 a0_2]] w fun e w' => e = .returned (.bool r) ∧ Below w.heap.size w w' := by
 have hu42 := Tryd.underlying42
 have HB := Aside0.mk (Below.refl w.heap.size w)
 delta spec_HasherOk.f at h
 have H := h
 clear h
 by_cases c2 : (a0_0.size : Int) = 32
 rotate_left
 ·rw [if_neg c2] at H
  have c2b0 : ((a0_0.size : Int) == 32) = false := beq_eq_false_iff_ne.mpr c2
  have c2b1 : ((a0_0.size : Int) != 32) = true := bne_iff_ne.mpr c2
  obtain rfl := Option.some.inj H
  go_enter Tryd.func44, Tryd.ntmps44
  go_wp2_with (first | ((with_reducible refine gate_dst (N := 1) rfl ?_); (try (refine gate_guard (by rfl) ?_; dsimp only)); refine box_event ?hg (N := 1) ?hd (cs := #[.string a0_0, .string a0_1, .int .i64 a0_2]) (t := 42) ?hr ?_; (case hd => rfl); (case hg => rfl); (case hr => first | (go_simp; done) | (go_simp; rfl)); intro gb101 hg w12 hbox hb; have n_ := b_ (below_step (hB_) hb) <| b_ (hbox) <| b_ (by rw [hg]; exact (below_size (hB_)) : w.heap.size ≤ gb101) <| c_ (by rw [hg]; exact (below_size (hB_)) : w.heap.size ≤ gb101); clear HB; obtain ⟨HB, BK101, GW101, GE101⟩ := n_; clear hb hbox hg; have hcz13_0 : w12.cell? ⟨gb101, 0, none⟩ = some (.string a0_0) := (blk_cell BK101.out 0).trans rfl; have hcz13_1 : w12.cell? ⟨gb101, 1, none⟩ = some (.string a0_1) := (blk_cell BK101.out 1).trans rfl; have hcz13_2 : w12.cell? ⟨gb101, 2, none⟩ = some (.int .i64 a0_2) := (blk_cell BK101.out 2).trans rfl; have hfz13_0 := blk_frozen BK101.out 0; have hfz13_1 := blk_frozen BK101.out 1; have hfz13_2 := blk_frozen BK101.out 2))
  go_ret
  exact ⟨f1_, hS_ GE101.out⟩
 rw [if_pos c2] at H
 have c2b0 : ((a0_0.size : Int) == 32) = true := beq_iff_eq.mpr c2
 have c2b1 : ((a0_0.size : Int) != 32) = false := bne_eq_false_iff_eq.mpr c2
 clear c2
 by_cases c3 : (a0_1.size : Int) < 64
 rotate_left
 ·rw [if_neg c3] at H
  have c3b0 := decide_eq_false c3
  have c3b1 : decide (a0_1.size < 64) = false := decide_eq_false (by omega)
  clear c3
  obtain rfl := Option.some.inj H
  go_enter Tryd.func44, Tryd.ntmps44
  go_wp2_with (first | ((with_reducible refine gate_dst (N := 1) rfl ?_); (try (refine gate_guard (by rfl) ?_; dsimp only)); refine box_event ?hg (N := 1) ?hd (cs := #[.string a0_0, .string a0_1, .int .i64 a0_2]) (t := 42) ?hr ?_; (case hd => rfl); (case hg => rfl); (case hr => first | (go_simp; done) | (go_simp; rfl)); intro gb101 hg w10 hbox hb; have n_ := b_ (below_step (hB_) hb) <| b_ (hbox) <| b_ (by rw [hg]; exact (below_size (hB_)) : w.heap.size ≤ gb101) <| c_ (by rw [hg]; exact (below_size (hB_)) : w.heap.size ≤ gb101); clear HB; obtain ⟨HB, BK101, GW101, GE101⟩ := n_; clear hb hbox hg; have hcz11_0 : w10.cell? ⟨gb101, 0, none⟩ = some (.string a0_0) := (blk_cell BK101.out 0).trans rfl; have hcz11_1 : w10.cell? ⟨gb101, 1, none⟩ = some (.string a0_1) := (blk_cell BK101.out 1).trans rfl; have hcz11_2 : w10.cell? ⟨gb101, 2, none⟩ = some (.int .i64 a0_2) := (blk_cell BK101.out 2).trans rfl; have hfz11_0 := blk_frozen BK101.out 0; have hfz11_1 := blk_frozen BK101.out 1; have hfz11_2 := blk_frozen BK101.out 2))
  go_ret
  exact ⟨f1_, hS_ GE101.out⟩
 rw [if_pos c3] at H
 have c3b0 := decide_eq_true c3
 have c3b1 : decide (a0_1.size < 64) = true := decide_eq_true (by omega)
 clear c3
 obtain ⟨t102, A4, H⟩ := bN_ H
 by_cases c5 : t102 = true
 ·subst c5
  replace H := iT_ H
  obtain rfl := Option.some.inj H
  go_enter Tryd.func44, Tryd.ntmps44
  go_wp2_with (first | ((with_reducible refine gate_dst (N := 1) rfl ?_); (try (refine gate_guard (by rfl) ?_; dsimp only)); refine box_event ?hg (N := 1) ?hd (cs := #[.string a0_0, .string a0_1, .int .i64 a0_2]) (t := 42) ?hr ?_; (case hd => rfl); (case hg => rfl); (case hr => first | (go_simp; done) | (go_simp; rfl)); intro gb101 hg w6 hbox hb; have n_ := b_ (below_step (hB_) hb) <| b_ (hbox) <| b_ (by rw [hg]; exact (below_size (hB_)) : w.heap.size ≤ gb101) <| c_ (by rw [hg]; exact (below_size (hB_)) : w.heap.size ≤ gb101); clear HB; obtain ⟨HB, BK101, GW101, GE101⟩ := n_; clear hb hbox hg; have hcz7_0 : w6.cell? ⟨gb101, 0, none⟩ = some (.string a0_0) := (blk_cell BK101.out 0).trans rfl; have hcz7_1 : w6.cell? ⟨gb101, 1, none⟩ = some (.string a0_1) := (blk_cell BK101.out 1).trans rfl; have hcz7_2 : w6.cell? ⟨gb101, 2, none⟩ = some (.int .i64 a0_2) := (blk_cell BK101.out 2).trans rfl; have hfz7_0 := blk_frozen BK101.out 0; have hfz7_1 := blk_frozen BK101.out 1; have hfz7_2 := blk_frozen BK101.out 2) | (go_at_call 52; (with_reducible refine (spec_l01In.calls a0_2 0 1000000000 true _ A4.out).mono ?_); rintro e w' ⟨rfl, ⟨nd, rfl⟩⟩))
  go_ret
  exact ⟨f1_, hS_ GE101.out⟩
 ·replace c5 := Bool.eq_false_iff.mpr c5
  subst c5
  replace H := iF_ H
  obtain rfl := Option.some.inj H
  go_enter Tryd.func44, Tryd.ntmps44
  go_wp2_with (first | ((with_reducible refine gate_dst (N := 1) rfl ?_); (try (refine gate_guard (by rfl) ?_; dsimp only)); refine box_event ?hg (N := 1) ?hd (cs := #[.string a0_0, .string a0_1, .int .i64 a0_2]) (t := 42) ?hr ?_; (case hd => rfl); (case hg => rfl); (case hr => first | (go_simp; done) | (go_simp; rfl)); intro gb101 hg w8 hbox hb; have n_ := b_ (below_step (hB_) hb) <| b_ (hbox) <| b_ (by rw [hg]; exact (below_size (hB_)) : w.heap.size ≤ gb101) <| c_ (by rw [hg]; exact (below_size (hB_)) : w.heap.size ≤ gb101); clear HB; obtain ⟨HB, BK101, GW101, GE101⟩ := n_; clear hb hbox hg; have hcz9_0 : w8.cell? ⟨gb101, 0, none⟩ = some (.string a0_0) := (blk_cell BK101.out 0).trans rfl; have hcz9_1 : w8.cell? ⟨gb101, 1, none⟩ = some (.string a0_1) := (blk_cell BK101.out 1).trans rfl; have hcz9_2 : w8.cell? ⟨gb101, 2, none⟩ = some (.int .i64 a0_2) := (blk_cell BK101.out 2).trans rfl; have hfz9_0 := blk_frozen BK101.out 0; have hfz9_1 := blk_frozen BK101.out 1; have hfz9_2 := blk_frozen BK101.out 2) | (go_at_call 52; (with_reducible refine (spec_l01In.calls a0_2 0 1000000000 false _ A4.out).mono ?_); rintro e w' ⟨rfl, ⟨nd, rfl⟩⟩))
  go_ret
  exact ⟨f1_, hS_ GE101.out⟩

/-! ### spec_l05Word: function 67 -/
def spec_l05Word.f (a0 : ByteArray) (a1 : Int) : Option (Int) := if 0 ≤ a1 then (if a1 < (a0.size : Int) then (if 0 ≤ (wrap64 (a1 + 1)) then (if (wrap64 (a1 + 1)) < (a0.size : Int) then (if 0 ≤ (wrap64 (a1 + 2)) then (if (wrap64 (a1 + 2)) < (a0.size : Int) then (if 0 ≤ (wrap64 (a1 + 3)) then (if (wrap64 (a1 + 3)) < (a0.size : Int) then (some ((((((((((bt a0 a1) % 4294967296) * 16777216) % 4294967296) + ((((bt a0 (wrap64 (a1 + 1))) % 4294967296) * 65536) % 4294967296)) % 4294967296) + ((((bt a0 (wrap64 (a1 + 2))) % 4294967296) * 256) % 4294967296)) % 4294967296) + ((bt a0 (wrap64 (a1 + 3))) % 4294967296)) % 4294967296)) else (none)) else (none)) else (none)) else (none)) else (none)) else (none)) else (none)) else (none)
theorem spec_l05Word.calls (a0 : ByteArray) (a1 : Int) (r : Int) (w : World) (h : spec_l05Word.f a0 a1 = some r) :
  Calls Tryd.prog 67 #[.string a0, .int .i64 a1] w fun e w' => e = .returned (.int .u32 r) ∧ Drawn0 w w' := by
 delta spec_l05Word.f at h
 have H := h
 clear h
 obtain ⟨c3b0, H⟩ := iD_ H
 obtain ⟨c4b0, H⟩ := iD_ H
 obtain ⟨ji6, hji6⟩ : ∃ j_ : Int, (wrap64 (a1 + 1)) = j_ := ⟨_, rfl⟩
 first | rw [hji6] at H | simp only [hji6] at H
 have hji6w : (IntKind.i64.wrap (a1 + 1)) = ji6 := (i64_w _).trans hji6
 obtain ⟨c7b0, H⟩ := iD_ H
 obtain ⟨c8b0, H⟩ := iD_ H
 obtain ⟨ji10, hji10⟩ : ∃ j_ : Int, (wrap64 (a1 + 2)) = j_ := ⟨_, rfl⟩
 first | rw [hji10] at H | simp only [hji10] at H
 have hji10w : (IntKind.i64.wrap (a1 + 2)) = ji10 := (i64_w _).trans hji10
 obtain ⟨c11b0, H⟩ := iD_ H
 obtain ⟨c12b0, H⟩ := iD_ H
 obtain ⟨ji14, hji14⟩ : ∃ j_ : Int, (wrap64 (a1 + 3)) = j_ := ⟨_, rfl⟩
 first | rw [hji14] at H | simp only [hji14] at H
 have hji14w : (IntKind.i64.wrap (a1 + 3)) = ji14 := (i64_w _).trans hji14
 obtain ⟨c15b0, H⟩ := iD_ H
 obtain ⟨c16b0, H⟩ := iD_ H
 obtain rfl := Option.some.inj H
 have p5 := eq_true (oD_ : 0 ≤ (a1 : Int))
 have q5 := eq_true (oD_ : a1 < (a0.size : Int))
 have hx5 := bt_at a0 a1
 have p9 := eq_true (oD_ : 0 ≤ ((ji6) : Int))
 have q9 := eq_true (oD_ : (ji6) < (a0.size : Int))
 have hx9 := bt_at a0 (ji6)
 have p13 := eq_true (oD_ : 0 ≤ ((ji10) : Int))
 have q13 := eq_true (oD_ : (ji10) < (a0.size : Int))
 have hx13 := bt_at a0 (ji10)
 have p17 := eq_true (oD_ : 0 ≤ ((ji14) : Int))
 have q17 := eq_true (oD_ : (ji14) < (a0.size : Int))
 have hx17 := bt_at a0 (ji14)
 go_enter Tryd.func67, Tryd.ntmps67
 go_wp2
 repeat (go_quiet (fail); try go_wp2)
 go_ret
 exact ⟨by first | rfl | (simp; done) | (simp only [← hji6, ← hji10, ← hji14] <;> (first | rfl | simp)) | (simp [*]; done), d0_⟩

/-! ### spec_l05Words: function 45 -/
def spec_l05Words.l0 : Nat → ByteArray → List Int → Int → Option (List Int)
 | 0, _, _, _ => none
 | k + 1, x0, x3, x4 => if (wrap64 (x4 + 4)) ≤ (x0.size : Int) then ((spec_l05Word.f x0 x4).bind fun t106 => (if x3.length < 35184372088832 then (spec_l05Words.l0 k x0 (x3 ++ [t106]) (wrap64 (x4 + 4))) else (none))) else (some x3)
def spec_l05Words.f (k : Nat) (a0 : ByteArray) : Option (List Int) := spec_l05Words.l0 k a0 (([] : List Int)) 0
theorem spec_l05Words.mono_l : ∀ k, (∀ y0 y1 y2, LeO (spec_l05Words.l0 k y0 y1 y2) (spec_l05Words.l0 (k + 1) y0 y1 y2))
 | 0 => fun _ _ _ r h => by simp [spec_l05Words.l0] at h
 | k + 1 => by
  have ih0 := spec_l05Words.mono_l k
  intros; unfold spec_l05Words.l0; exact o1_ ih0
theorem spec_l05Words.mono : ∀ a0 k, LeO (spec_l05Words.f k a0) (spec_l05Words.f (k + 1) a0) := by
 intro a0 k
 have ih0 := spec_l05Words.mono_l k
 unfold spec_l05Words.f
 exact o1_ ih0
theorem spec_l05Words.calls (k : Nat) (a0 : ByteArray) (r : List Int) (w : World) (h : spec_l05Words.f k a0 = some r) :
  Calls Tryd.prog 45 #[.string a0] w fun e w' => ∃ v0_ : Value, e = .returned (v0_) ∧ Kd.R (Kd.int .u32) 53 w' w.heap.size (fun _ => True) v0_ r ∧ Below w.heap.size w w' := by
 have HB := Aside0.mk (Below.refl w.heap.size w)
 delta spec_l05Words.f at h
 have H := h
 clear h
 obtain ⟨y103, hy103⟩ : ∃ y_ : List Int, y_ = (([] : List Int)) := ⟨_, rfl⟩
 first | replace H := yb_ hy103 H | rw [← hy103] at H
 have Ny103 := Aside0.mk hy103
 clear hy103
 have H' := Aside0.mk H
 clear H
 go_enter Tryd.func45, Tryd.ntmps45
 go_wp2_with (first | ((with_reducible refine gate_dst (N := 5) rfl ?_); refine Kd.R_lit (Kd.int .u32) _ 53 ?hg (N := 5) ?hd (xs := ([] : List Int)) (inner := []) (ok := fun _ => True) (okp := fun _ => True) ?hr ?hp (fun _ hk => hk) trivial (Below.refl _ _) (Nat.le_refl _) (by simp) ?_; (case hd => rfl); (case hg => rfl); (case hr => first | (go_simp; done) | (go_simp; rfl)); (case hp => exact (Reps.none _ _)); intro v104 w2 ho3 hb hg_ hnew_; clear hg_ hnew_; (first | rw [← Ny103.out] at ho3 | (simp only [Int.reduceToNat] at ho3; rw [← Ny103.out] at ho3)); have n_ := b_ (Kd.R_lower ho3 (below_size (hB_))) <| c_ (below_step (hB_) hb); clear HB; obtain ⟨HO105, HB⟩ := n_; clear hb ho3))
 go_loopg [3, 4] k (fun kq v3 v4 w' => ∃ (x3_1 : List Int) (x4_1 : Int), v4 = .int .i64 x4_1 ∧ Aside0 (spec_l05Words.l0 kq a0 x3_1 x4_1 = some r) ∧ Aside0 (kq ≤ k) ∧ Aside0 (Kd.R (Kd.int .u32) 53 w' w.heap.size (fun _ => True) v3 x3_1) ∧ Aside0 (Below w.heap.size w w'))
 case atStart => exact ⟨(y103), (0), f0_, H', ⟨Nat.le_refl _⟩, ⟨rR_ HO105.out⟩, ⟨hB_⟩⟩
 case round =>
  clear H'
  obtain ⟨x3_1, x4_1, rfl, HA, HK1, HO_3, HB⟩ := hrel
  cases gk with
  | zero => exact absurd HA.out (by simp [spec_l05Words.l0])
  | succ k1 =>
   have H := HA.out
   clear HA
   simp only [spec_l05Words.l0] at H
   by_cases c4 : (wrap64 (x4_1 + 4)) ≤ (a0.size : Int)
   ·rw [if_pos c4] at H
    have c4b0 := decide_eq_true c4
    clear c4
    obtain ⟨t106, A5, H⟩ := bN_ H
    obtain ⟨c6, H⟩ := iN_ H
    have LMc6 := Aside0.mk c6
    clear c6
    obtain ⟨y107, hy107⟩ : ∃ y_ : List Int, y_ = (x3_1 ++ [t106]) := ⟨_, rfl⟩
    first | replace H := yb_ hy107 H | rw [← hy107] at H
    have Ny107 := Aside0.mk hy107
    clear hy107
    have H' := Aside0.mk H
    clear H
    go_wp2_with (first | ((with_reducible refine gate_callee (f := 67) rfl ?_); refine goesL_ (some 16) rfl rfl Tryd.func67 (by kernel_rfl) rfl #[.string a0, .int .i64 x4_1] rfl aM_ ?_; (with_reducible refine (spec_l05Word.calls a0 x4_1 t106 _ A5.out).mono ?_); rintro e w' ⟨rfl, ⟨nd, rfl⟩⟩; refine ⟨_, rfl, ?_⟩) | ((with_reducible refine gate_builtin (b := .append) (xs := #[.tmp 13, .tmp 17]) rfl ?_); at_builtin; refine Kd.R_append (Kd.int .u32) (w0 := w) w.heap.size rfl (.tmp 13) (.tmp 17) 63 53 (.int .u32 0) 4 rfl Tryd.underlying63 info53 rfl (by decide) (by omega) u3 x3_1 t106 [.int .u32 t106] (fun _ => True) (fun _ => False) rfl rfl ?aP (fun _ hk => hk.elim) ?aF ?aO ?aB ?aS ?aL ?_; (case aP => exact rfl); (case aB => exact (hB_)); (case aF => exact (fun _ _ => trivial)); (case aO => exact (rR_ HO_3.out)); (case aS => exact (below_size (hB_))); (case aL => have := LMc6.out; omega); intro v108 w7 ho hb hg hat; rw [← Ny107.out] at ho; have n_ := b_ (hb) <| c_ (ho); clear HO_3 HB; obtain ⟨HB, HO109⟩ := n_; clear ho hb hg hat))
    go_roundg k1
    case measure => have := HK1.out; omega
    case rel => exact ⟨(y107), (wrap64 (x4_1 + 4)), f0_, H', ⟨by have := HK1.out; omega⟩, ⟨rR_ HO109.out⟩, ⟨hB_⟩⟩
   rw [if_neg c4] at H
   have c4b0 := decide_eq_false c4
   clear c4
   obtain rfl := Option.some.inj H
   go_wp2
   go_ret
   exact ⟨_, f1_, rR_ HO_3.out, hB_⟩

/-! ### spec_l05K: function 46 -/
def spec_l05K.f  : Option (List Int) := some (([1116352408, 1899447441, 3049323471, 3921009573, 961987163, 1508970993, 2453635748, 2870763221, 3624381080, 310598401, 607225278, 1426881987, 1925078388, 2162078206, 2614888103, 3248222580, 3835390401, 4022224774, 264347078, 604807628, 770255983, 1249150122, 1555081692, 1996064986, 2554220882, 2821834349, 2952996808, 3210313671, 3336571891, 3584528711, 113926993, 338241895, 666307205, 773529912, 1294757372, 1396182291, 1695183700, 1986661051, 2177026350, 2456956037, 2730485921, 2820302411, 3259730800, 3345764771, 3516065817, 3600352804, 4094571909, 275423344, 430227734, 506948616, 659060556, 883997877, 958139571, 1322822218, 1537002063, 1747873779, 1955562222, 2024104815, 2227730452, 2361852424, 2428436474, 2756734187, 3204031479, 3329325298] : List Int))
theorem spec_l05K.calls  (r : List Int) (w : World) (h : spec_l05K.f  = some r) :
  Calls Tryd.prog 46 #[] w fun e w' => ∃ v0_ : Value, e = .returned (v0_) ∧ Kd.R (Kd.int .u32) 53 w' w.heap.size (fun _ => True) v0_ r ∧ Below w.heap.size w w' := by
 have HB := Aside0.mk (Below.refl w.heap.size w)
 delta spec_l05K.f at h
 have H := h
 clear h
 obtain ⟨y110, hy110⟩ : ∃ y_ : List Int, y_ = (([1116352408, 1899447441, 3049323471, 3921009573, 961987163, 1508970993, 2453635748, 2870763221, 3624381080, 310598401, 607225278, 1426881987, 1925078388, 2162078206, 2614888103, 3248222580, 3835390401, 4022224774, 264347078, 604807628, 770255983, 1249150122, 1555081692, 1996064986, 2554220882, 2821834349, 2952996808, 3210313671, 3336571891, 3584528711, 113926993, 338241895, 666307205, 773529912, 1294757372, 1396182291, 1695183700, 1986661051, 2177026350, 2456956037, 2730485921, 2820302411, 3259730800, 3345764771, 3516065817, 3600352804, 4094571909, 275423344, 430227734, 506948616, 659060556, 883997877, 958139571, 1322822218, 1537002063, 1747873779, 1955562222, 2024104815, 2227730452, 2361852424, 2428436474, 2756734187, 3204031479, 3329325298] : List Int)) := ⟨_, rfl⟩
 first | replace H := yb_ hy110 H | rw [← hy110] at H
 have Ny110 := Aside0.mk hy110
 clear hy110
 obtain rfl := Option.some.inj H
 go_enter Tryd.func46, Tryd.ntmps46
 go_wp2_with (first | ((with_reducible refine gate_dst (N := 1) rfl ?_); refine Kd.R_lit (Kd.int .u32) _ 53 ?hg (N := 1) ?hd (xs := ([1116352408, 1899447441, 3049323471, 3921009573, 961987163, 1508970993, 2453635748, 2870763221, 3624381080, 310598401, 607225278, 1426881987, 1925078388, 2162078206, 2614888103, 3248222580, 3835390401, 4022224774, 264347078, 604807628, 770255983, 1249150122, 1555081692, 1996064986, 2554220882, 2821834349, 2952996808, 3210313671, 3336571891, 3584528711, 113926993, 338241895, 666307205, 773529912, 1294757372, 1396182291, 1695183700, 1986661051, 2177026350, 2456956037, 2730485921, 2820302411, 3259730800, 3345764771, 3516065817, 3600352804, 4094571909, 275423344, 430227734, 506948616, 659060556, 883997877, 958139571, 1322822218, 1537002063, 1747873779, 1955562222, 2024104815, 2227730452, 2361852424, 2428436474, 2756734187, 3204031479, 3329325298] : List Int)) (inner := [.int .u32 1116352408, .int .u32 1899447441, .int .u32 3049323471, .int .u32 3921009573, .int .u32 961987163, .int .u32 1508970993, .int .u32 2453635748, .int .u32 2870763221, .int .u32 3624381080, .int .u32 310598401, .int .u32 607225278, .int .u32 1426881987, .int .u32 1925078388, .int .u32 2162078206, .int .u32 2614888103, .int .u32 3248222580, .int .u32 3835390401, .int .u32 4022224774, .int .u32 264347078, .int .u32 604807628, .int .u32 770255983, .int .u32 1249150122, .int .u32 1555081692, .int .u32 1996064986, .int .u32 2554220882, .int .u32 2821834349, .int .u32 2952996808, .int .u32 3210313671, .int .u32 3336571891, .int .u32 3584528711, .int .u32 113926993, .int .u32 338241895, .int .u32 666307205, .int .u32 773529912, .int .u32 1294757372, .int .u32 1396182291, .int .u32 1695183700, .int .u32 1986661051, .int .u32 2177026350, .int .u32 2456956037, .int .u32 2730485921, .int .u32 2820302411, .int .u32 3259730800, .int .u32 3345764771, .int .u32 3516065817, .int .u32 3600352804, .int .u32 4094571909, .int .u32 275423344, .int .u32 430227734, .int .u32 506948616, .int .u32 659060556, .int .u32 883997877, .int .u32 958139571, .int .u32 1322822218, .int .u32 1537002063, .int .u32 1747873779, .int .u32 1955562222, .int .u32 2024104815, .int .u32 2227730452, .int .u32 2361852424, .int .u32 2428436474, .int .u32 2756734187, .int .u32 3204031479, .int .u32 3329325298]) (ok := fun _ => True) (okp := fun _ => True) ?hr ?hp (fun _ hk => hk) trivial (Below.refl _ _) (Nat.le_refl _) (by simp) ?_; (case hd => rfl); (case hg => rfl); (case hr => first | (go_simp; done) | (go_simp; rfl)); (case hp => exact (Reps.one (show Kd.M (Kd.int .u32) _ _ _ 1116352408 [.int .u32 1116352408] from rfl) (Reps.one (show Kd.M (Kd.int .u32) _ _ _ 1899447441 [.int .u32 1899447441] from rfl) (Reps.one (show Kd.M (Kd.int .u32) _ _ _ 3049323471 [.int .u32 3049323471] from rfl) (Reps.one (show Kd.M (Kd.int .u32) _ _ _ 3921009573 [.int .u32 3921009573] from rfl) (Reps.one (show Kd.M (Kd.int .u32) _ _ _ 961987163 [.int .u32 961987163] from rfl) (Reps.one (show Kd.M (Kd.int .u32) _ _ _ 1508970993 [.int .u32 1508970993] from rfl) (Reps.one (show Kd.M (Kd.int .u32) _ _ _ 2453635748 [.int .u32 2453635748] from rfl) (Reps.one (show Kd.M (Kd.int .u32) _ _ _ 2870763221 [.int .u32 2870763221] from rfl) (Reps.one (show Kd.M (Kd.int .u32) _ _ _ 3624381080 [.int .u32 3624381080] from rfl) (Reps.one (show Kd.M (Kd.int .u32) _ _ _ 310598401 [.int .u32 310598401] from rfl) (Reps.one (show Kd.M (Kd.int .u32) _ _ _ 607225278 [.int .u32 607225278] from rfl) (Reps.one (show Kd.M (Kd.int .u32) _ _ _ 1426881987 [.int .u32 1426881987] from rfl) (Reps.one (show Kd.M (Kd.int .u32) _ _ _ 1925078388 [.int .u32 1925078388] from rfl) (Reps.one (show Kd.M (Kd.int .u32) _ _ _ 2162078206 [.int .u32 2162078206] from rfl) (Reps.one (show Kd.M (Kd.int .u32) _ _ _ 2614888103 [.int .u32 2614888103] from rfl) (Reps.one (show Kd.M (Kd.int .u32) _ _ _ 3248222580 [.int .u32 3248222580] from rfl) (Reps.one (show Kd.M (Kd.int .u32) _ _ _ 3835390401 [.int .u32 3835390401] from rfl) (Reps.one (show Kd.M (Kd.int .u32) _ _ _ 4022224774 [.int .u32 4022224774] from rfl) (Reps.one (show Kd.M (Kd.int .u32) _ _ _ 264347078 [.int .u32 264347078] from rfl) (Reps.one (show Kd.M (Kd.int .u32) _ _ _ 604807628 [.int .u32 604807628] from rfl) (Reps.one (show Kd.M (Kd.int .u32) _ _ _ 770255983 [.int .u32 770255983] from rfl) (Reps.one (show Kd.M (Kd.int .u32) _ _ _ 1249150122 [.int .u32 1249150122] from rfl) (Reps.one (show Kd.M (Kd.int .u32) _ _ _ 1555081692 [.int .u32 1555081692] from rfl) (Reps.one (show Kd.M (Kd.int .u32) _ _ _ 1996064986 [.int .u32 1996064986] from rfl) (Reps.one (show Kd.M (Kd.int .u32) _ _ _ 2554220882 [.int .u32 2554220882] from rfl) (Reps.one (show Kd.M (Kd.int .u32) _ _ _ 2821834349 [.int .u32 2821834349] from rfl) (Reps.one (show Kd.M (Kd.int .u32) _ _ _ 2952996808 [.int .u32 2952996808] from rfl) (Reps.one (show Kd.M (Kd.int .u32) _ _ _ 3210313671 [.int .u32 3210313671] from rfl) (Reps.one (show Kd.M (Kd.int .u32) _ _ _ 3336571891 [.int .u32 3336571891] from rfl) (Reps.one (show Kd.M (Kd.int .u32) _ _ _ 3584528711 [.int .u32 3584528711] from rfl) (Reps.one (show Kd.M (Kd.int .u32) _ _ _ 113926993 [.int .u32 113926993] from rfl) (Reps.one (show Kd.M (Kd.int .u32) _ _ _ 338241895 [.int .u32 338241895] from rfl) (Reps.one (show Kd.M (Kd.int .u32) _ _ _ 666307205 [.int .u32 666307205] from rfl) (Reps.one (show Kd.M (Kd.int .u32) _ _ _ 773529912 [.int .u32 773529912] from rfl) (Reps.one (show Kd.M (Kd.int .u32) _ _ _ 1294757372 [.int .u32 1294757372] from rfl) (Reps.one (show Kd.M (Kd.int .u32) _ _ _ 1396182291 [.int .u32 1396182291] from rfl) (Reps.one (show Kd.M (Kd.int .u32) _ _ _ 1695183700 [.int .u32 1695183700] from rfl) (Reps.one (show Kd.M (Kd.int .u32) _ _ _ 1986661051 [.int .u32 1986661051] from rfl) (Reps.one (show Kd.M (Kd.int .u32) _ _ _ 2177026350 [.int .u32 2177026350] from rfl) (Reps.one (show Kd.M (Kd.int .u32) _ _ _ 2456956037 [.int .u32 2456956037] from rfl) (Reps.one (show Kd.M (Kd.int .u32) _ _ _ 2730485921 [.int .u32 2730485921] from rfl) (Reps.one (show Kd.M (Kd.int .u32) _ _ _ 2820302411 [.int .u32 2820302411] from rfl) (Reps.one (show Kd.M (Kd.int .u32) _ _ _ 3259730800 [.int .u32 3259730800] from rfl) (Reps.one (show Kd.M (Kd.int .u32) _ _ _ 3345764771 [.int .u32 3345764771] from rfl) (Reps.one (show Kd.M (Kd.int .u32) _ _ _ 3516065817 [.int .u32 3516065817] from rfl) (Reps.one (show Kd.M (Kd.int .u32) _ _ _ 3600352804 [.int .u32 3600352804] from rfl) (Reps.one (show Kd.M (Kd.int .u32) _ _ _ 4094571909 [.int .u32 4094571909] from rfl) (Reps.one (show Kd.M (Kd.int .u32) _ _ _ 275423344 [.int .u32 275423344] from rfl) (Reps.one (show Kd.M (Kd.int .u32) _ _ _ 430227734 [.int .u32 430227734] from rfl) (Reps.one (show Kd.M (Kd.int .u32) _ _ _ 506948616 [.int .u32 506948616] from rfl) (Reps.one (show Kd.M (Kd.int .u32) _ _ _ 659060556 [.int .u32 659060556] from rfl) (Reps.one (show Kd.M (Kd.int .u32) _ _ _ 883997877 [.int .u32 883997877] from rfl) (Reps.one (show Kd.M (Kd.int .u32) _ _ _ 958139571 [.int .u32 958139571] from rfl) (Reps.one (show Kd.M (Kd.int .u32) _ _ _ 1322822218 [.int .u32 1322822218] from rfl) (Reps.one (show Kd.M (Kd.int .u32) _ _ _ 1537002063 [.int .u32 1537002063] from rfl) (Reps.one (show Kd.M (Kd.int .u32) _ _ _ 1747873779 [.int .u32 1747873779] from rfl) (Reps.one (show Kd.M (Kd.int .u32) _ _ _ 1955562222 [.int .u32 1955562222] from rfl) (Reps.one (show Kd.M (Kd.int .u32) _ _ _ 2024104815 [.int .u32 2024104815] from rfl) (Reps.one (show Kd.M (Kd.int .u32) _ _ _ 2227730452 [.int .u32 2227730452] from rfl) (Reps.one (show Kd.M (Kd.int .u32) _ _ _ 2361852424 [.int .u32 2361852424] from rfl) (Reps.one (show Kd.M (Kd.int .u32) _ _ _ 2428436474 [.int .u32 2428436474] from rfl) (Reps.one (show Kd.M (Kd.int .u32) _ _ _ 2756734187 [.int .u32 2756734187] from rfl) (Reps.one (show Kd.M (Kd.int .u32) _ _ _ 3204031479 [.int .u32 3204031479] from rfl) (Reps.one (show Kd.M (Kd.int .u32) _ _ _ 3329325298 [.int .u32 3329325298] from rfl) (Reps.none _ _)))))))))))))))))))))))))))))))))))))))))))))))))))))))))))))))))); intro v111 w1 ho2 hb hg_ hnew_; clear hg_ hnew_; (first | rw [← Ny110.out] at ho2 | (simp only [Int.reduceToNat] at ho2; rw [← Ny110.out] at ho2)); have n_ := b_ (Kd.R_lower ho2 (below_size (hB_))) <| c_ (below_step (hB_) hb); clear HB; obtain ⟨HO112, HB⟩ := n_; clear hb ho2))
 go_ret
 exact ⟨_, f1_, rR_ HO112.out, hB_⟩

/-! ### spec_l05Right: function 75 -/
def spec_l05Right.f (a0 : Int) (a1 : Int) (a2 : Int) : Option (Int) := if a1 = 0 then (none) else (some ((((Int.tdiv a0 a1) % 4294967296) + (((Int.tmod a0 a1) * a2) % 4294967296)) % 4294967296))
theorem spec_l05Right.calls (a0 : Int) (a1 : Int) (a2 : Int) (r : Int) (w : World) (h : spec_l05Right.f a0 a1 a2 = some r) :
  Calls Tryd.prog 75 #[.int .u32 a0, .int .u32 a1, .int .u32 a2] w fun e w' => e = .returned (.int .u32 r) ∧ Drawn0 w w' := by
 delta spec_l05Right.f at h
 have H := h
 clear h
 by_cases c4 : a1 = 0
 ·rw [if_pos c4] at H
  exact absurd H (by simp)
 rw [if_neg c4] at H
 have c4b0 : (a1 == 0) = false := beq_eq_false_iff_ne.mpr c4
 have c4b1 : (a1 != 0) = true := bne_iff_ne.mpr c4
 obtain rfl := Option.some.inj H
 go_enter Tryd.func75, Tryd.ntmps75
 go_wp2
 repeat (go_quiet (fail); try go_wp2)
 go_ret
 exact ⟨f0_, d0_⟩

/-! ### spec_l05S: function 68 -/
def spec_l05S.f (a0 : Int) (a1 : Int) (a2 : Int) (a3 : Int) (a4 : Bool) : Option (Int) := if a1 = 0 then (none) else ((spec_l05Right.f a0 a1 ((((Int.tdiv (2147483648 : Int) a1) % 4294967296) * 2) % 4294967296)).bind fun t113 => (if a2 = 0 then (none) else ((spec_l05Right.f a0 a2 ((((Int.tdiv (2147483648 : Int) a2) % 4294967296) * 2) % 4294967296)).bind fun t114 => (if a3 = 0 then (none) else (if a4 = true then (some (Go.bits .xor .u32 (Go.bits .xor .u32 t113 t114) ((Int.tdiv a0 a3) % 4294967296))) else ((spec_l05Right.f a0 a3 ((((Int.tdiv (2147483648 : Int) a3) % 4294967296) * 2) % 4294967296)).bind fun t115 => (some (Go.bits .xor .u32 (Go.bits .xor .u32 t113 t114) t115))))))))
theorem spec_l05S.calls (a0 : Int) (a1 : Int) (a2 : Int) (a3 : Int) (a4 : Bool) (r : Int) (w : World) (h : spec_l05S.f a0 a1 a2 a3 a4 = some r) :
  Calls Tryd.prog 68 #[.int .u32 a0, .int .u32 a1, .int .u32 a2, .int .u32 a3, .bool a4] w fun e w' => e = .returned (.int .u32 r) ∧ Drawn0 w w' := by
 delta spec_l05S.f at h
 have H := h
 clear h
 by_cases c6 : a1 = 0
 ·rw [if_pos c6] at H
  exact absurd H (by simp)
 rw [if_neg c6] at H
 have c6b0 : (a1 == 0) = false := beq_eq_false_iff_ne.mpr c6
 have c6b1 : (a1 != 0) = true := bne_iff_ne.mpr c6
 obtain ⟨t113, A7, H⟩ := bN_ H
 by_cases c8 : a2 = 0
 ·rw [if_pos c8] at H
  exact absurd H (by simp)
 rw [if_neg c8] at H
 have c8b0 : (a2 == 0) = false := beq_eq_false_iff_ne.mpr c8
 have c8b1 : (a2 != 0) = true := bne_iff_ne.mpr c8
 obtain ⟨t114, A9, H⟩ := bN_ H
 by_cases c10 : a3 = 0
 ·rw [if_pos c10] at H
  exact absurd H (by simp)
 rw [if_neg c10] at H
 have c10b0 : (a3 == 0) = false := beq_eq_false_iff_ne.mpr c10
 have c10b1 : (a3 != 0) = true := bne_iff_ne.mpr c10
 by_cases c11 : a4 = true
 ·subst c11
  replace H := iT_ H
  obtain rfl := Option.some.inj H
  go_enter Tryd.func68, Tryd.ntmps68
  go_wp2_with (first | ((with_reducible refine gate_callee (f := 75) rfl ?_); refine goesL_ (some 19) rfl rfl Tryd.func75 (by kernel_rfl) rfl #[.int .u32 a0, .int .u32 a1, .int .u32 ((((Int.tdiv (2147483648 : Int) a1) % 4294967296) * 2) % 4294967296)] rfl aM_ ?_; (with_reducible refine (spec_l05Right.calls a0 a1 ((((Int.tdiv (2147483648 : Int) a1) % 4294967296) * 2) % 4294967296) t113 _ A7.out).mono ?_); rintro e w' ⟨rfl, ⟨nd, rfl⟩⟩; refine ⟨_, rfl, ?_⟩) | ((with_reducible refine gate_callee (f := 75) rfl ?_); refine goesL_ (some 25) rfl rfl Tryd.func75 (by kernel_rfl) rfl #[.int .u32 a0, .int .u32 a2, .int .u32 ((((Int.tdiv (2147483648 : Int) a2) % 4294967296) * 2) % 4294967296)] rfl aM_ ?_; (with_reducible refine (spec_l05Right.calls a0 a2 ((((Int.tdiv (2147483648 : Int) a2) % 4294967296) * 2) % 4294967296) t114 _ A9.out).mono ?_); rintro e w' ⟨rfl, ⟨nd, rfl⟩⟩; refine ⟨_, rfl, ?_⟩))
  go_ret
  exact ⟨f0_, d0_⟩
 ·replace c11 := Bool.eq_false_iff.mpr c11
  subst c11
  replace H := iF_ H
  obtain ⟨t115, A12, H⟩ := bN_ H
  obtain rfl := Option.some.inj H
  go_enter Tryd.func68, Tryd.ntmps68
  go_wp2_with (first | ((with_reducible refine gate_callee (f := 75) rfl ?_); refine goesL_ (some 19) rfl rfl Tryd.func75 (by kernel_rfl) rfl #[.int .u32 a0, .int .u32 a1, .int .u32 ((((Int.tdiv (2147483648 : Int) a1) % 4294967296) * 2) % 4294967296)] rfl aM_ ?_; (with_reducible refine (spec_l05Right.calls a0 a1 ((((Int.tdiv (2147483648 : Int) a1) % 4294967296) * 2) % 4294967296) t113 _ A7.out).mono ?_); rintro e w' ⟨rfl, ⟨nd, rfl⟩⟩; refine ⟨_, rfl, ?_⟩) | ((with_reducible refine gate_callee (f := 75) rfl ?_); refine goesL_ (some 25) rfl rfl Tryd.func75 (by kernel_rfl) rfl #[.int .u32 a0, .int .u32 a2, .int .u32 ((((Int.tdiv (2147483648 : Int) a2) % 4294967296) * 2) % 4294967296)] rfl aM_ ?_; (with_reducible refine (spec_l05Right.calls a0 a2 ((((Int.tdiv (2147483648 : Int) a2) % 4294967296) * 2) % 4294967296) t114 _ A9.out).mono ?_); rintro e w' ⟨rfl, ⟨nd, rfl⟩⟩; refine ⟨_, rfl, ?_⟩) | ((with_reducible refine gate_callee (f := 75) rfl ?_); refine goesL_ (some 36) rfl rfl Tryd.func75 (by kernel_rfl) rfl #[.int .u32 a0, .int .u32 a3, .int .u32 ((((Int.tdiv (2147483648 : Int) a3) % 4294967296) * 2) % 4294967296)] rfl aM_ ?_; (with_reducible refine (spec_l05Right.calls a0 a3 ((((Int.tdiv (2147483648 : Int) a3) % 4294967296) * 2) % 4294967296) t115 _ A12.out).mono ?_); rintro e w' ⟨rfl, ⟨nd, rfl⟩⟩; refine ⟨_, rfl, ?_⟩))
  go_ret
  exact ⟨f0_, d0_⟩

/-! ### spec_l05Round: function 47 -/
mutual
def spec_l05Round.l0 : Nat → List Int → List Int → List Int → Int → Option (List Int)
 | 0, _, _, _, _ => none
 | k + 1, x0, x1, x7, x8 => if x8 < 64 then (if 0 ≤ (wrap64 (x8 - 2)) then (if (wrap64 (x8 - 2)) < (x7.length : Int) then ((spec_l05S.f (rd x7 (wrap64 (x8 - 2))) 131072 524288 1024 true).bind fun t120 => (if 0 ≤ (wrap64 (x8 - 7)) then (if (wrap64 (x8 - 7)) < (x7.length : Int) then (if 0 ≤ (wrap64 (x8 - 15)) then (if (wrap64 (x8 - 15)) < (x7.length : Int) then ((spec_l05S.f (rd x7 (wrap64 (x8 - 15))) 128 262144 8 true).bind fun t123 => (if 0 ≤ (wrap64 (x8 - 16)) then (if (wrap64 (x8 - 16)) < (x7.length : Int) then (if x7.length < 35184372088832 then (spec_l05Round.l0 k x0 x1 (x7 ++ [(((((t120 + (rd x7 (wrap64 (x8 - 7)))) % 4294967296) + t123) % 4294967296) + (rd x7 (wrap64 (x8 - 16)))) % 4294967296]) (wrap64 (x8 + 1))) else (none)) else (none)) else (none))) else (none)) else (none)) else (none)) else (none))) else (none)) else (none)) else ((some (([] : List Int) : List Int)).bind fun y128 => (if y128.length + x0.length < 35184372088832 then (spec_l05Round.l1 k x0 x1 x7 (y128 ++ x0) 0) else (none)))
def spec_l05Round.l1 : Nat → List Int → List Int → List Int → List Int → Int → Option (List Int)
 | 0, _, _, _, _, _ => none
 | k + 1, x0, x1, x7, x9, x10 => if x10 < 64 then (if 4 < (x9.length : Int) then (if 5 < (x9.length : Int) then (if 6 < (x9.length : Int) then (if 7 < (x9.length : Int) then ((spec_l05S.f (rd x9 4) 64 2048 33554432 false).bind fun t138 => (if 0 ≤ x10 then (if x10 < (x1.length : Int) then (if x10 < (x7.length : Int) then (if 0 < (x9.length : Int) then (if 1 < (x9.length : Int) then (if 2 < (x9.length : Int) then ((spec_l05S.f (rd x9 0) 4 8192 4194304 false).bind fun t148 => (spec_l05Round.l2 k x0 x1 x7 x9 x10 (((((((((rd x9 7) + t138) % 4294967296) + (Go.bits .xor .u32 (Go.bits .and .u32 (rd x9 4) (rd x9 5)) (Go.bits .and .u32 ((4294967295 - (rd x9 4)) % 4294967296) (rd x9 6)))) % 4294967296) + (rd x1 x10)) % 4294967296) + (rd x7 x10)) % 4294967296) ((t148 + (Go.bits .xor .u32 (Go.bits .xor .u32 (Go.bits .and .u32 (rd x9 0) (rd x9 1)) (Go.bits .and .u32 (rd x9 0) (rd x9 2))) (Go.bits .and .u32 (rd x9 1) (rd x9 2)))) % 4294967296) 7)) else (none)) else (none)) else (none)) else (none)) else (none)) else (none))) else (none)) else (none)) else (none)) else (none)) else (spec_l05Round.l3 k x0 x9 (([] : List Int)) 0)
def spec_l05Round.l2 : Nat → List Int → List Int → List Int → List Int → Int → Int → Int → Int → Option (List Int)
 | 0, _, _, _, _, _, _, _, _ => none
 | k + 1, x0, x1, x7, x9, x10, x13, x15, x16 => if x16 > 0 then (if 0 ≤ (wrap64 (x16 - 1)) then (if (wrap64 (x16 - 1)) < (x9.length : Int) then (if 0 ≤ x16 then (if x16 < (x9.length : Int) then (spec_l05Round.l2 k x0 x1 x7 (x9.set (x16 : Int).toNat (rd x9 (wrap64 (x16 - 1)))) x10 x13 x15 (wrap64 (x16 - 1))) else (none)) else (none)) else (none)) else (none)) else (if 4 < (x9.length : Int) then (if 0 < (x9.length : Int) then (spec_l05Round.l1 k x0 x1 x7 ((x9.set (4 : Int).toNat (((rd x9 4) + x13) % 4294967296)).set (0 : Int).toNat ((x13 + x15) % 4294967296)) (wrap64 (x10 + 1))) else (none)) else (none))
def spec_l05Round.l3 : Nat → List Int → List Int → List Int → Int → Option (List Int)
 | 0, _, _, _, _ => none
 | k + 1, x0, x9, x17, x18 => if x18 < 8 then (if 0 ≤ x18 then (if x18 < (x0.length : Int) then (if x18 < (x9.length : Int) then (if x17.length < 35184372088832 then (spec_l05Round.l3 k x0 x9 (x17 ++ [((rd x0 x18) + (rd x9 x18)) % 4294967296]) (wrap64 (x18 + 1))) else (none)) else (none)) else (none)) else (none)) else (some x17)
end
def spec_l05Round.f (k : Nat) (l0 : List Int) (l1 : List Int) (a2 : ByteArray) : Option (List Int) := (spec_l05Words.f k a2).bind fun t116 => (spec_l05Round.l0 k l0 l1 t116 16)
theorem spec_l05Round.mono_l : ∀ k, (∀ y0 y1 y2 y3, LeO (spec_l05Round.l0 k y0 y1 y2 y3) (spec_l05Round.l0 (k + 1) y0 y1 y2 y3)) ∧ (∀ y0 y1 y2 y3 y4, LeO (spec_l05Round.l1 k y0 y1 y2 y3 y4) (spec_l05Round.l1 (k + 1) y0 y1 y2 y3 y4)) ∧ (∀ y0 y1 y2 y3 y4 y5 y6 y7, LeO (spec_l05Round.l2 k y0 y1 y2 y3 y4 y5 y6 y7) (spec_l05Round.l2 (k + 1) y0 y1 y2 y3 y4 y5 y6 y7)) ∧ (∀ y0 y1 y2 y3, LeO (spec_l05Round.l3 k y0 y1 y2 y3) (spec_l05Round.l3 (k + 1) y0 y1 y2 y3))
 | 0 => ⟨fun _ _ _ _ r h => by simp [spec_l05Round.l0] at h, fun _ _ _ _ _ r h => by simp [spec_l05Round.l1] at h, fun _ _ _ _ _ _ _ _ r h => by simp [spec_l05Round.l2] at h, fun _ _ _ _ r h => by simp [spec_l05Round.l3] at h⟩
 | k + 1 => by
  obtain ⟨ih0, ih1, ih2, ih3⟩ := spec_l05Round.mono_l k
  refine ⟨?_, ?_, ?_, ?_⟩ <;> (intros; (first | unfold spec_l05Round.l0 | unfold spec_l05Round.l1 | unfold spec_l05Round.l2 | unfold spec_l05Round.l3); exact o5_ ih0 ih1 ih2 ih3 spec_l05Words.mono)
theorem spec_l05Round.mono : ∀ a0 a1 a2 k, LeO (spec_l05Round.f k a0 a1 a2) (spec_l05Round.f (k + 1) a0 a1 a2) := by
 intro a0 a1 a2 k
 obtain ⟨ih0, ih1, ih2, ih3⟩ := spec_l05Round.mono_l k
 unfold spec_l05Round.f
 exact o5_ ih0 ih1 ih2 ih3 spec_l05Words.mono
def spec_l05Round.T5 : Bool × List (List Nat × List Nat) := (true, [([], []), ([], []), ([], []), ([2], [2]), ([1, 3], [1, 3]), ([4], [4]), ([5], [5]), ([], []), ([], []), ([8], [8]), ([7, 9], [7, 9]), ([10], [10]), ([6, 11], [6, 11]), ([], []), ([], []), ([14], [14]), ([13, 15], [13, 15]), ([16], [16]), ([17, 6], [17]), ([12, 18], [12, 18]), ([], []), ([], []), ([21], [21]), ([20, 22], [20, 22]), ([23], [23]), ([19, 24], [19, 24]), ([25], [25]), ([0, 26, 18], [0, 26]), ([27, 27, 0, 1, 2, 3, 4, 5, 6, 7, 8, 9, 10, 11, 12, 13, 14, 15, 16, 17, 18, 19, 20, 21, 22, 23, 24, 25, 26, 27], [0, 1, 7, 13, 20, 27])])
def spec_l05Round.B5 : List Nat := [0, 0, 0, 4, 14, 30, 62, 0, 0, 256, 896, 1920, 4094, 0, 0, 16384, 57344, 122880, 254078, 524286, 0, 0, 2097152, 7340032, 15728640, 33554430, 67108862, 134217727, 268435455]
theorem spec_l05Round.tab5 : rtab .any (opsOf Tryd.f47 5) = spec_l05Round.T5 := by kernel_rfl
theorem spec_l05Round.bits5 : waitsOk spec_l05Round.T5.2 spec_l05Round.B5 = true := by kernel_rfl
def spec_l05Round.T11 : Bool × List (List Nat × List Nat) := (true, [([], []), ([], []), ([1], [1]), ([2], [2]), ([0, 3], [0, 3]), ([], []), ([5], [5]), ([], []), ([7], [7]), ([8], [8]), ([6, 9], [6, 9]), ([4, 10], [4, 10]), ([11, 0, 1, 2, 3, 4, 5, 6, 7, 8, 9, 10, 11], [11])])
def spec_l05Round.B11 : List Nat := [0, 0, 2, 6, 15, 0, 32, 0, 128, 384, 992, 2047, 4095]
theorem spec_l05Round.tab11 : rtab .any (opsOf Tryd.f47 11) = spec_l05Round.T11 := by kernel_rfl
theorem spec_l05Round.bits11 : waitsOk spec_l05Round.T11.2 spec_l05Round.B11 = true := by kernel_rfl
def spec_l05Round.T12 : Bool × List (List Nat × List Nat) := (true, [([], []), ([0], [0]), ([1], [1]), ([], []), ([3], [3]), ([2, 4], [2, 4]), ([], []), ([5, 6], [5, 6]), ([], []), ([], []), ([8, 9], [8, 9]), ([10], [10]), ([7, 11], [7, 11]), ([], []), ([], []), ([13, 14], [13, 14]), ([15], [15]), ([12, 16], [12, 16]), ([17, 4, 0, 1, 2, 3, 4, 5, 6, 7, 8, 9, 10, 11, 12, 13, 14, 15, 16, 17], [17])])
def spec_l05Round.B12 : List Nat := [0, 1, 3, 0, 8, 31, 0, 127, 0, 0, 768, 1792, 4095, 0, 0, 24576, 57344, 131071, 262143]
theorem spec_l05Round.tab12 : rtab .any (opsOf Tryd.f47 12) = spec_l05Round.T12 := by kernel_rfl
theorem spec_l05Round.bits12 : waitsOk spec_l05Round.T12.2 spec_l05Round.B12 = true := by kernel_rfl
def spec_l05Round.T13 : Bool × List (List Nat × List Nat) := (true, [([], []), ([0], [0]), ([1], [1]), ([], []), ([3], [3]), ([4], [4]), ([2, 5], [2, 5]), ([], []), ([7], [7]), ([8], [8]), ([], []), ([10], [10]), ([11], [11]), ([9, 12], [9, 12]), ([6, 13], [6, 13]), ([], []), ([15], [15]), ([16], [16]), ([], []), ([18], [18]), ([19], [19]), ([17, 20], [17, 20]), ([14, 21], [14, 21]), ([22, 0, 1, 2, 3, 4, 5, 6, 7, 8, 9, 10, 11, 12, 13, 14, 15, 16, 17, 18, 19, 20, 21, 22], [22])])
def spec_l05Round.B13 : List Nat := [0, 1, 3, 0, 8, 24, 63, 0, 128, 384, 0, 1024, 3072, 8064, 16383, 0, 32768, 98304, 0, 262144, 786432, 2064384, 4194303, 8388607]
theorem spec_l05Round.tab13 : rtab .any (opsOf Tryd.f47 13) = spec_l05Round.T13 := by kernel_rfl
theorem spec_l05Round.bits13 : waitsOk spec_l05Round.T13.2 spec_l05Round.B13 = true := by kernel_rfl
def spec_l05Round.T25 : Bool × List (List Nat × List Nat) := (true, [([], []), ([], []), ([], []), ([1, 2], [1, 2]), ([3], [3]), ([], []), ([], []), ([5, 6], [5, 6]), ([7], [7]), ([4, 8], [4, 8]), ([9], [9]), ([0, 10], [0, 10]), ([11, 11, 0, 1, 2, 3, 4, 5, 6, 7, 8, 9, 10, 11], [0, 11])])
def spec_l05Round.B25 : List Nat := [0, 0, 0, 6, 14, 0, 0, 96, 224, 510, 1022, 2047, 4095]
theorem spec_l05Round.tab25 : rtab .any (opsOf Tryd.f47 25) = spec_l05Round.T25 := by kernel_rfl
theorem spec_l05Round.bits25 : waitsOk spec_l05Round.T25.2 spec_l05Round.B25 = true := by kernel_rfl
theorem spec_l05Round.calls (k : Nat) (A0 : Option Addr) (c0 : Nat) (l0 : List Int) (A1 : Option Addr) (c1 : Nat) (l1 : List Int) (a2 : ByteArray) (r : List Int) (w : World) (hr0 : Kd.C (Kd.int .u32) w A0 l0.length l0) (hc0 : l0.length ≤ c0) (hr1 : Kd.C (Kd.int .u32) w A1 l1.length l1) (hc1 : l1.length ≤ c1) (h : spec_l05Round.f k l0 l1 a2 = some r) :
  Calls Tryd.prog 47 #[.slice A0 l0.length c0, .slice A1 l1.length c1, .string a2] w fun e w' => ∃ v0_ : Value, e = .returned (v0_) ∧ Kd.R (Kd.int .u32) 53 w' w.heap.size (fun _ => True) v0_ r ∧ Below w.heap.size w w' := by
 have HR0 := Aside0.mk hr0
 have HC0 := Aside0.mk hc0
 clear hr0 hc0
 have HR1 := Aside0.mk hr1
 have HC1 := Aside0.mk hc1
 clear hr1 hc1
 have HB := Aside0.mk (Below.refl w.heap.size w)
 delta spec_l05Round.f at h
 have H := h
 clear h
 obtain ⟨t116, A4, H⟩ := bN_ H
 have H' := Aside0.mk H
 clear H
 go_enter Tryd.func47, Tryd.ntmps47
 go_wp2_with (first | ((with_reducible refine gate_callee (f := 45) rfl ?_); refine goesL_ (some 20) rfl rfl Tryd.func45 (by kernel_rfl) rfl #[.string a2] rfl aM_ ?_; (with_reducible refine (spec_l05Words.calls k a2 t116 _ A4.out).mono ?_); rintro e w5 ⟨v117, rfl, ho0, hb⟩; refine ⟨_, rfl, ?_⟩; have n_ := b_ (Kd.R_lower ho0 (below_size (hB_))) <| c_ (below_step (hB_) hb); clear HB; obtain ⟨HO118, HB⟩ := n_; (try clear ho0)))
 go_loopg [7, 8] k (fun kq v7 v8 w' => ∃ (x7_1 : List Int) (x8_1 : Int), v8 = .int .i64 x8_1 ∧ Aside0 (spec_l05Round.l0 kq l0 l1 x7_1 x8_1 = some r) ∧ Aside0 (kq ≤ k) ∧ Aside0 (Kd.R (Kd.int .u32) 53 w' w.heap.size (fun _ => True) v7 x7_1) ∧ Aside0 (Below w.heap.size w w'))
 case atStart => exact ⟨(t116), (16), f0_, H', ⟨Nat.le_refl _⟩, ⟨rR_ HO118.out⟩, ⟨hB_⟩⟩
 case round =>
  clear H'
  obtain ⟨x7_1, x8_1, rfl, HA, HK1, HO_7, HB⟩ := hrel
  cases gk with
  | zero => exact absurd HA.out (by simp [spec_l05Round.l0])
  | succ k1 =>
   have H := HA.out
   clear HA
   simp only [spec_l05Round.l0] at H
   by_cases c6 : x8_1 < 64
   ·rw [if_pos c6] at H
    have c6b0 := decide_eq_true c6
    clear c6
    obtain ⟨ji7, hji7⟩ : ∃ j_ : Int, (wrap64 (x8_1 - 2)) = j_ := ⟨_, rfl⟩
    first | rw [hji7] at H | simp only [hji7] at H
    have hji7w : (IntKind.i64.wrap (x8_1 - 2)) = ji7 := (i64_w _).trans hji7
    obtain ⟨c8b0, H⟩ := iD_ H
    obtain ⟨c9b0, H⟩ := iD_ H
    obtain ⟨t120, A10, H⟩ := bN_ H
    obtain ⟨ji11, hji11⟩ : ∃ j_ : Int, (wrap64 (x8_1 - 7)) = j_ := ⟨_, rfl⟩
    first | rw [hji11] at H | simp only [hji11] at H
    (try rw [hji11] at A10)
    have hji11w : (IntKind.i64.wrap (x8_1 - 7)) = ji11 := (i64_w _).trans hji11
    obtain ⟨c12b0, H⟩ := iD_ H
    obtain ⟨c13b0, H⟩ := iD_ H
    obtain ⟨ji14, hji14⟩ : ∃ j_ : Int, (wrap64 (x8_1 - 15)) = j_ := ⟨_, rfl⟩
    first | rw [hji14] at H | simp only [hji14] at H
    (try rw [hji14] at A10)
    have hji14w : (IntKind.i64.wrap (x8_1 - 15)) = ji14 := (i64_w _).trans hji14
    obtain ⟨c15b0, H⟩ := iD_ H
    obtain ⟨c16b0, H⟩ := iD_ H
    obtain ⟨t123, A17, H⟩ := bN_ H
    obtain ⟨ji18, hji18⟩ : ∃ j_ : Int, (wrap64 (x8_1 - 16)) = j_ := ⟨_, rfl⟩
    first | rw [hji18] at H | simp only [hji18] at H
    (try rw [hji18] at A10)
    (try rw [hji18] at A17)
    have hji18w : (IntKind.i64.wrap (x8_1 - 16)) = ji18 := (i64_w _).trans hji18
    obtain ⟨c19b0, H⟩ := iD_ H
    obtain ⟨c20b0, H⟩ := iD_ H
    obtain ⟨c21, H⟩ := iN_ H
    have LMc21 := Aside0.mk c21
    clear c21
    obtain ⟨y125, hy125⟩ : ∃ y_ : List Int, y_ = (x7_1 ++ [(((((t120 + (rd x7_1 (ji11))) % 4294967296) + t123) % 4294967296) + (rd x7_1 (ji18))) % 4294967296]) := ⟨_, rfl⟩
    first | replace H := yb_ hy125 H | rw [← hy125] at H
    have Ny125 := Aside0.mk hy125
    clear hy125
    have H' := Aside0.mk H
    clear H
    try go_wp2
    have n_ := b_ (Kd.R_drew HO_7.out) <| c_ (below_drew1 HB.out)
    clear HO_7 HB
    obtain ⟨HO_7, HB⟩ := n_
    obtain ⟨Ao23, co23, eo23⟩ := Kd.R_slice HO_7.out
    (first | subst eo23 | (injection eo23 with f1_ f2_ f3_; have f4_ := f1_.symm; have f5_ := f3_.symm; clear f1_ f2_ f3_; subst f4_; subst f5_))
    have p119 : 0 ≤ ((ji7) : Int) := oD_
    have q119 : (ji7) < (x7_1.length : Int) := oD_
    obtain ⟨ad119, e119, hx119_0⟩ := Kd.at_int (Kd.R_reads' HO_7.out).2.2 (ji7) p119 q119
    cases e119
    replace p119 := eq_true p119
    replace q119 := eq_true q119
    have p121 : 0 ≤ ((ji11) : Int) := oD_
    have q121 : (ji11) < (x7_1.length : Int) := oD_
    obtain ⟨ad121, e121, hx121_0⟩ := Kd.at_int (Kd.R_reads' HO_7.out).2.2 (ji11) p121 q121
    obtain rfl : ad119 = ad121 := (by injection e121)
    replace p121 := eq_true p121
    replace q121 := eq_true q121
    have p122 : 0 ≤ ((ji14) : Int) := oD_
    have q122 : (ji14) < (x7_1.length : Int) := oD_
    obtain ⟨ad122, e122, hx122_0⟩ := Kd.at_int (Kd.R_reads' HO_7.out).2.2 (ji14) p122 q122
    obtain rfl : ad119 = ad122 := (by injection e122)
    replace p122 := eq_true p122
    replace q122 := eq_true q122
    have p124 : 0 ≤ ((ji18) : Int) := oD_
    have q124 : (ji18) < (x7_1.length : Int) := oD_
    obtain ⟨ad124, e124, hx124_0⟩ := Kd.at_int (Kd.R_reads' HO_7.out).2.2 (ji18) p124 q124
    obtain rfl : ad119 = ad124 := (by injection e124)
    replace p124 := eq_true p124
    replace q124 := eq_true q124
    refine start_ (n := 29) (S := fun w' => w'.cell? (ad119.add ((ji7)).toNat) = some (.int .u32 (rd x7_1 (ji7))) ∧ w'.cell? (ad119.add ((ji11)).toNat) = some (.int .u32 (rd x7_1 (ji11))) ∧ w'.cell? (ad119.add ((ji14)).toNat) = some (.int .u32 (rd x7_1 (ji14))) ∧ w'.cell? (ad119.add ((ji18)).toNat) = some (.int .u32 (rd x7_1 (ji18)))) (ds := [26, 27]) (bb_ 29 0) (by kernel_rfl) rfl rfl ⟨hx119_0, hx121_0, hx122_0, hx124_0⟩ (fun hHeld => ?_); refine with_tabW spec_l05Round.tab5 spec_l05Round.bits5 (fun HT_ HW_ => ?_)
    generalize wr.drew = w22 at HO_7 HB hx119_0 hx121_0 hx122_0 hx124_0 hHeld ⊢
    refine pS_ 0 25 (bb_ 29 1) HT_.out ?_
    refine pS_ 1 26 (bb_ 29 3) HT_.out ?_
    refine pS_ 2 27 (bb_ 29 7) HT_.out ?_
    refine pS_ 3 28 (bb_ 29 15) HT_.out ?_
    refine pS_ 4 29 (bb_ 29 31) HT_.out ?_
    refine pS_ 7 32 (bb_ 29 159) HT_.out ?_
    refine pS_ 8 33 (bb_ 29 415) HT_.out ?_
    refine pS_ 9 34 (bb_ 29 927) HT_.out ?_
    refine pS_ 10 35 (bb_ 29 1951) HT_.out ?_
    refine pS_ 13 38 (bb_ 29 10143) HT_.out ?_
    refine pS_ 14 39 (bb_ 29 26527) HT_.out ?_
    refine pS_ 15 40 (bb_ 29 59295) HT_.out ?_
    refine pS_ 16 41 (bb_ 29 124831) HT_.out ?_
    refine pS_ 20 45 (bb_ 29 1173407) HT_.out ?_
    refine pS_ 21 46 (bb_ 29 3270559) HT_.out ?_
    refine pS_ 22 47 (bb_ 29 7464863) HT_.out ?_
    refine pS_ 23 48 (bb_ 29 15853471) HT_.out ?_
    refine tS_ 5 30 (bb_ 29 15853503) (take_ofW HT_.out HW_.out (by kernel_rfl)) hHeld ?_
    refine tS_ 11 36 (bb_ 29 15855551) (take_ofW HT_.out HW_.out (by kernel_rfl)) hHeld ?_
    refine tS_ 17 42 (bb_ 29 15986623) (take_ofW HT_.out HW_.out (by kernel_rfl)) hHeld ?_
    refine tS_ 24 49 (bb_ 29 32763839) (take_ofW HT_.out HW_.out (by kernel_rfl)) hHeld ?_
    refine one_ (i := 6) (N := some 31) (bb_ 29 32763903) rfl rfl (one_of HT_.out (by kernel_rfl)) (by decide) (fun K hK => ?_)
    refine goes_ Tryd.func68 (by kernel_rfl) rfl #[.int .u32 (rd x7_1 (ji7)), .int .u32 131072, .int .u32 524288, .int .u32 1024, .bool true] (by rfl) rfl rfl (by (try simp only [List.map_toArray, List.map_cons, List.map_nil]); first | done | (simp only [hji7]; rfl) | rfl | (simp only [List.length_drop, List.length_take]; rfl)) ?_
    with_reducible refine (spec_l05S.calls (rd x7_1 (ji7)) 131072 524288 1024 true t120 _ A10.out).mono ?_
    rintro e w' ⟨rfl, ⟨nd, rfl⟩⟩
    refine ⟨_, rfl, ?_⟩
    refine hK.out _ _ ⟨hHeld.1, hHeld.2.1, hHeld.2.2.1, hHeld.2.2.2⟩ (fun hHeld => ?_)
    clear hK K
    refine norm_ (a' := ?_) ?_ ?_
    rotate_left
    ·show Act.put _ (some 31) _ = _
     simp only [Act.put, List.setIfInBounds_toArray, List.set_cons_zero, List.set_cons_succ, i64_w, i32_w]
     rfl
    refine pS_ 12 37 (bb_ 29 32767999) HT_.out ?_
    refine one_ (i := 18) (N := some 43) (bb_ 29 33030143) rfl rfl (one_of HT_.out (by kernel_rfl)) (by decide) (fun K hK => ?_)
    refine goes_ Tryd.func68 (by kernel_rfl) rfl #[.int .u32 (rd x7_1 (ji14)), .int .u32 128, .int .u32 262144, .int .u32 8, .bool true] (by rfl) rfl rfl (by (try simp only [List.map_toArray, List.map_cons, List.map_nil]); first | done | (simp only [hji14]; rfl) | rfl | (simp only [List.length_drop, List.length_take]; rfl)) ?_
    with_reducible refine (spec_l05S.calls (rd x7_1 (ji14)) 128 262144 8 true t123 _ A17.out).mono ?_
    rintro e w' ⟨rfl, ⟨nd, rfl⟩⟩
    refine ⟨_, rfl, ?_⟩
    refine hK.out _ _ ⟨hHeld.1, hHeld.2.1, hHeld.2.2.1, hHeld.2.2.2⟩ (fun hHeld => ?_)
    clear hK K
    refine norm_ (a' := ?_) ?_ ?_
    rotate_left
    ·show Act.put _ (some 43) _ = _
     simp only [Act.put, List.setIfInBounds_toArray, List.set_cons_zero, List.set_cons_succ, i64_w, i32_w]
     rfl
    refine pS_ 19 44 (bb_ 29 33554431) HT_.out ?_
    refine pS_ 25 50 (bb_ 29 67108863) HT_.out ?_
    refine last_ (i := 26) (N := some 51) (bb_ 29 134217727) rfl rfl (one_of HT_.out (by kernel_rfl)) (by decide) (fun K hK => ?_)
    refine value_ (w1 := ?_) (v := ?_) (by rfl) rfl ?_ ?_
    rotate_left 2
    ·go_simp
     constructor
     ·rfl
     ·rfl
    refine hK.out _ _ ?_
    clear hK K
    refine norm_ (a' := ?_) ?_ ?_
    rotate_left
    ·show Act.put _ (some 51) _ = _
     simp only [Act.put, List.setIfInBounds_toArray, List.set_cons_zero, List.set_cons_succ, i64_w, i32_w]
     rfl
    refine last_ (i := 27) (N := some 52) (bb_ 29 268435455) rfl rfl (one_of HT_.out (by kernel_rfl)) (by decide) (fun K hK => ?_)
    refine Kd.R_append_step (Kd.int .u32) (w0 := w) w.heap.size (by rfl) (.tmp 25) (.tmp 51) 63 53 (.int .u32 0) 4 rfl Tryd.underlying63 info53 rfl (by decide) (by omega) (.slice (some ad119) x7_1.length co23) x7_1 ((((((t120 + (rd x7_1 (ji11))) % 4294967296) + t123) % 4294967296) + (rd x7_1 (ji18))) % 4294967296) [.int .u32 ((((((t120 + (rd x7_1 (ji11))) % 4294967296) + t123) % 4294967296) + (rd x7_1 (ji18))) % 4294967296)] (fun _ => True) (fun _ => False) rfl rfl ?aP (fun _ hk => hk.elim) ?aF ?aO ?aB ?aS ?aL ?_
    (case aP => exact rfl)
    (case aB => exact (hB_))
    (case aF => exact (fun _ _ => trivial))
    (case aO => exact (rR_ HO_7.out))
    (case aS => exact (below_size (hB_)))
    (case aL => have := LMc21.out; omega)
    intro v126 w24 ho hb hg hat
    rw [← Ny125.out] at ho
    have n_ := b_ (hb) <| c_ (ho)
    clear HB HO_7
    obtain ⟨HB, HO127⟩ := n_
    clear ho hb hg hat
    refine hK.out _ _ ?_
    clear hK K
    refine norm_ (a' := ?_) ?_ ?_
    rotate_left
    ·show Act.put _ (some 52) _ = _
     simp only [Act.put, List.setIfInBounds_toArray, List.set_cons_zero, List.set_cons_succ, i64_w, i32_w]
     rfl
    refine pS_ 28 7 (bb_ 29 536870911) HT_.out ?_
    refine done_ (done_of HT_.out (by kernel_rfl)) ?_
    try go_wp2
    go_roundg k1
    case measure => have := HK1.out; omega
    case rel => exact ⟨(y125), (wrap64 (x8_1 + 1)), f0_, H', ⟨by have := HK1.out; omega⟩, ⟨rR_ HO127.out⟩, ⟨hB_⟩⟩
   rw [if_neg c6] at H
   have c6b0 := decide_eq_false c6
   clear c6
   obtain ⟨y128, hy128⟩ : ∃ y_ : List Int, y_ = (([] : List Int)) := ⟨_, rfl⟩
   first | replace H := yb_ hy128 H | rw [← hy128] at H
   have Ny128 := Aside0.mk hy128
   clear hy128
   obtain ⟨c25, H⟩ := iN_ H
   have LMc25 := Aside0.mk c25
   clear c25
   obtain ⟨y131, hy131⟩ : ∃ y_ : List Int, y_ = (y128 ++ l0) := ⟨_, rfl⟩
   first | replace H := yb_ hy131 H | rw [← hy131] at H
   have Ny131 := Aside0.mk hy131
   clear hy131
   have H' := Aside0.mk H
   clear H
   go_wp2_with (first | ((with_reducible refine gate_dst (N := 53) rfl ?_); refine Kd.R_lit (Kd.int .u32) _ 53 ?hg (N := 53) ?hd (xs := ([] : List Int)) (inner := []) (ok := fun _ => True) (okp := fun _ => True) ?hr ?hp (fun _ hk => hk) trivial (Below.refl _ _) (Nat.le_refl _) (by simp) ?_; (case hd => rfl); (case hg => rfl); (case hr => first | (go_simp; done) | (go_simp; rfl)); (case hp => exact (Reps.none _ _)); intro v129 w26 ho27 hb hg_ hnew_; clear hg_ hnew_; (first | rw [← Ny128.out] at ho27 | (simp only [Int.reduceToNat] at ho27; rw [← Ny128.out] at ho27)); have n_ := b_ (Kd.R_elder' (rR_ HO_7.out) (Kd.R_base ho27) hb) <| b_ (Kd.R_lower (Kd.R_new' ho27 (Kd.R_lt (rR_ HO_7.out))) (below_size (hB_))) <| c_ (below_step (hB_) hb); clear HO_7 HB; obtain ⟨HO_7, HO130, HB⟩ := n_; clear hb ho27) | ((with_reducible refine gate_builtin (b := .append) (xs := #[.tmp 53, .tmp 54]) rfl ?_); at_builtin; refine Kd.R_append_rows (Kd.int .u32) (w0 := w) w.heap.size rfl (.tmp 53) (.tmp 54) 63 53 (.int .u32 0) 4 rfl Tryd.underlying63 info53 rfl (by decide) (by omega) v129 y128 l0 _ _ _ (fun k_ => some k_ ≠ (u7 : Value).ownBlock) (fun _ => False) rfl rfl ?aO ?aR (fun _ _ h => h) (fun _ h => h.elim) ?aF ?aB ?aS ?aL ?_; (case aR => exact cR_ (Kd.C_below HR0.out HB.out)); (case aB => exact (hB_)); (case aF => exact (fun k_ hk => Kd.fresh' (Kd.R_lt (rR_ HO_7.out)) k_ hk)); (case aO => exact (by refine kR_ ?_; exact Kd.R_mono HO130.out (fun _ hk => hk.2))); (case aS => exact (below_size (hB_))); (case aL => have := LMc25.out; omega); intro v132 w28 ho hb hg hat; rw [← Ny131.out] at ho; have n_ := b_ (Kd.R_after (ok := (fun _ => True)) (rR_ HO_7.out) hg hat) <| b_ (hb) <| c_ (ho); clear HO130 HO_7 HB; obtain ⟨HO_7, HB, HO133⟩ := n_; clear ho hb hg hat))
   go_loopg [10] k1 (fun kq v10 w' => ∃ (x9_2 : List Int) (x10_2 : Int), v10 = .int .i64 x10_2 ∧ Aside0 (spec_l05Round.l1 kq l0 l1 x7_1 x9_2 x10_2 = some r) ∧ Aside0 (kq ≤ k1) ∧ Aside0 (Kd.R (Kd.int .u32) 53 w' w.heap.size (fun k_ => some k_ ≠ (v132 : Value).ownBlock) u7 x7_1) ∧ Aside0 (Kd.R (Kd.int .u32) 53 w' w.heap.size (fun k_ => some k_ ≠ (u7 : Value).ownBlock) v132 x9_2) ∧ Aside0 (Below w.heap.size w w'))
   case atStart => exact ⟨(y131), (0), f0_, H', ⟨Nat.le_refl _⟩, ⟨by refine kR_ ?_; exact Kd.R_mono HO_7.out (fun _ hk => hk.2)⟩, ⟨rR_ HO133.out⟩, ⟨hB_⟩⟩
   case round =>
    clear H'
    obtain ⟨x9_2, x10_2, rfl, HA, HK2, HO_7, HO_9, HB⟩ := hrel
    cases gk with
    | zero => exact absurd HA.out (by simp [spec_l05Round.l1])
    | succ k2 =>
     have H := HA.out
     clear HA
     simp only [spec_l05Round.l1] at H
     by_cases c29 : x10_2 < 64
     rotate_left
     ·rw [if_neg c29] at H
      have c29b0 := decide_eq_false c29
      clear c29
      obtain ⟨y154, hy154⟩ : ∃ y_ : List Int, y_ = (([] : List Int)) := ⟨_, rfl⟩
      first | replace H := yb_ hy154 H | rw [← hy154] at H
      have Ny154 := Aside0.mk hy154
      clear hy154
      have H' := Aside0.mk H
      clear H
      go_wp2_with (first | ((with_reducible refine gate_dst (N := 146) rfl ?_); refine Kd.R_lit (Kd.int .u32) _ 53 ?hg (N := 146) ?hd (xs := ([] : List Int)) (inner := []) (ok := fun _ => True) (okp := fun _ => True) ?hr ?hp (fun _ hk => hk) trivial (Below.refl _ _) (Nat.le_refl _) (by simp) ?_; (case hd => rfl); (case hg => rfl); (case hr => first | (go_simp; done) | (go_simp; rfl)); (case hp => exact (Reps.none _ _)); intro v155 w64 ho65 hb hg_ hnew_; clear hg_ hnew_; (first | rw [← Ny154.out] at ho65 | (simp only [Int.reduceToNat] at ho65; rw [← Ny154.out] at ho65)); have n_ := b_ (Kd.R_elder' (rR_ HO_7.out) (Kd.R_base ho65) hb) <| b_ (Kd.R_elder' (rR_ HO_9.out) (Kd.R_base ho65) hb) <| b_ (Kd.R_lower (Kd.R_new' (Kd.R_new' ho65 (Kd.R_lt (rR_ HO_7.out))) (Kd.R_lt (rR_ HO_9.out))) (below_size (hB_))) <| c_ (below_step (hB_) hb); clear HO_7 HO_9 HB; obtain ⟨HO_7, HO_9, HO156, HB⟩ := n_; clear hb ho65))
      go_loopg [17, 18] k2 (fun kq v17 v18 w' => ∃ (x17_3 : List Int) (x18_3 : Int), v18 = .int .i64 x18_3 ∧ Aside0 (spec_l05Round.l3 kq l0 x9_2 x17_3 x18_3 = some r) ∧ Aside0 (kq ≤ k2) ∧ Aside0 (Kd.R (Kd.int .u32) 53 w' w.heap.size (fun k_ => some k_ ≠ (v17 : Value).ownBlock) v132 x9_2) ∧ Aside0 (Kd.R (Kd.int .u32) 53 w' w.heap.size (fun k_ => some k_ ≠ (v132 : Value).ownBlock) v17 x17_3) ∧ Aside0 (Below w.heap.size w w'))
      case atStart => exact ⟨(y154), (0), f0_, H', ⟨Nat.le_refl _⟩, ⟨by refine kR_ ?_; exact Kd.R_mono HO_9.out (fun _ hk => hk.2)⟩, ⟨by refine kR_ ?_; exact Kd.R_mono HO156.out (fun _ hk => hk.2)⟩, ⟨hB_⟩⟩
      case round =>
       clear H'
       obtain ⟨x17_3, x18_3, rfl, HA, HK3, HO_9, HO_17, HB⟩ := hrel
       cases gk with
       | zero => exact absurd HA.out (by simp [spec_l05Round.l3])
       | succ k3 =>
        have H := HA.out
        clear HA
        simp only [spec_l05Round.l3] at H
        by_cases c66 : x18_3 < 8
        rotate_left
        ·rw [if_neg c66] at H
         have c66b0 := decide_eq_false c66
         clear c66
         obtain rfl := Option.some.inj H
         go_wp2
         go_ret
         exact ⟨_, f1_, by refine kR_ ?_; exact Kd.R_mono HO_17.out (fun _ hk => trivial), hB_⟩
        rw [if_pos c66] at H
        have c66b0 := decide_eq_true c66
        clear c66
        obtain ⟨c67b0, H⟩ := iD_ H
        obtain ⟨c68b0, H⟩ := iD_ H
        obtain ⟨c69b0, H⟩ := iD_ H
        obtain ⟨c70, H⟩ := iN_ H
        have LMc70 := Aside0.mk c70
        clear c70
        obtain ⟨y159, hy159⟩ : ∃ y_ : List Int, y_ = (x17_3 ++ [((rd l0 x18_3) + (rd x9_2 x18_3)) % 4294967296]) := ⟨_, rfl⟩
        first | replace H := yb_ hy159 H | rw [← hy159] at H
        have Ny159 := Aside0.mk hy159
        clear hy159
        have H' := Aside0.mk H
        clear H
        try go_wp2
        have n_ := b_ (Kd.R_drew HO_9.out) <| b_ (Kd.R_drew HO_17.out) <| c_ (below_drew1 HB.out)
        clear HO_9 HO_17 HB
        obtain ⟨HO_9, HO_17, HB⟩ := n_
        have p157 : 0 ≤ (x18_3 : Int) := oD_
        have q157 : x18_3 < (l0.length : Int) := oD_
        obtain ⟨ad157, e157, hx157_0⟩ := Kd.at_int HR0.out x18_3 p157 q157
        have hw157_0 := hx157_0
        cases e157
        replace hx157_0 := (HB.out.cell (World.block_lt_of_cell? w _ hx157_0)).trans hx157_0
        replace p157 := eq_true p157
        replace q157 := eq_true q157
        obtain ⟨Ao72, co72, eo72⟩ := Kd.R_slice HO_9.out
        (first | subst eo72 | (injection eo72 with f1_ f2_ f3_; have f4_ := f1_.symm; have f5_ := f3_.symm; clear f1_ f2_ f3_; subst f4_; subst f5_))
        have p158 : 0 ≤ (x18_3 : Int) := oD_
        have q158 : x18_3 < (x9_2.length : Int) := oD_
        obtain ⟨ad158, e158, hx158_0⟩ := Kd.at_int (Kd.R_reads' HO_9.out).2.2 x18_3 p158 q158
        cases e158
        replace p158 := eq_true p158
        replace q158 := eq_true q158
        refine start_ (n := 13) (S := fun w' => w'.cell? (ad157.add (x18_3).toNat) = some (.int .u32 (rd l0 x18_3)) ∧ w'.cell? (ad158.add (x18_3).toNat) = some (.int .u32 (rd x9_2 x18_3))) (ds := [10, 11]) (bb_ 13 0) (by kernel_rfl) rfl rfl ⟨((HB.out.cell (World.block_lt_of_cell? w _ hw157_0)).trans hw157_0), hx158_0⟩ (fun hHeld => ?_); refine with_tabW spec_l05Round.tab25 spec_l05Round.bits25 (fun HT_ HW_ => ?_)
        generalize wr.drew = w71 at HO_9 HO_17 HB hx157_0 hx158_0 hHeld ⊢
        refine pS_ 0 151 (bb_ 13 1) HT_.out ?_
        refine pS_ 1 152 (bb_ 13 3) HT_.out ?_
        refine pS_ 2 153 (bb_ 13 7) HT_.out ?_
        refine pS_ 3 154 (bb_ 13 15) HT_.out ?_
        refine pS_ 5 156 (bb_ 13 47) HT_.out ?_
        refine pS_ 6 157 (bb_ 13 111) HT_.out ?_
        refine pS_ 7 158 (bb_ 13 239) HT_.out ?_
        refine tS_ 4 155 (bb_ 13 255) (take_ofW HT_.out HW_.out (by kernel_rfl)) hHeld ?_
        refine tS_ 8 159 (bb_ 13 511) (take_ofW HT_.out HW_.out (by kernel_rfl)) hHeld ?_
        refine pS_ 9 160 (bb_ 13 1023) HT_.out ?_
        refine last_ (i := 10) (N := some 161) (bb_ 13 2047) rfl rfl (one_of HT_.out (by kernel_rfl)) (by decide) (fun K hK => ?_)
        refine value_ (w1 := ?_) (v := ?_) (by rfl) rfl ?_ ?_
        rotate_left 2
        ·go_simp
         constructor
         ·rfl
         ·rfl
        refine hK.out _ _ ?_
        clear hK K
        refine norm_ (a' := ?_) ?_ ?_
        rotate_left
        ·show Act.put _ (some 161) _ = _
         simp only [Act.put, List.setIfInBounds_toArray, List.set_cons_zero, List.set_cons_succ, i64_w, i32_w]
         rfl
        refine last_ (i := 11) (N := some 162) (bb_ 13 4095) rfl rfl (one_of HT_.out (by kernel_rfl)) (by decide) (fun K hK => ?_)
        refine Kd.R_append_step (Kd.int .u32) (w0 := w) w.heap.size (by rfl) (.tmp 151) (.tmp 161) 63 53 (.int .u32 0) 4 rfl Tryd.underlying63 info53 rfl (by decide) (by omega) u17 x17_3 (((rd l0 x18_3) + (rd x9_2 x18_3)) % 4294967296) [.int .u32 (((rd l0 x18_3) + (rd x9_2 x18_3)) % 4294967296)] (fun k_ => some k_ ≠ (.slice (some ad158) x9_2.length co72 : Value).ownBlock) (fun _ => False) rfl rfl ?aP (fun _ hk => hk.elim) ?aF ?aO ?aB ?aS ?aL ?_
        (case aP => exact rfl)
        (case aB => exact (hB_))
        (case aF => exact (fun k_ hk => Kd.fresh' (Kd.R_lt (rR_ HO_9.out)) k_ hk))
        (case aO => exact (rR_ HO_17.out))
        (case aS => exact (below_size (hB_)))
        (case aL => have := LMc70.out; omega)
        intro v160 w73 ho hb hg hat
        rw [← Ny159.out] at ho
        have n_ := b_ (Kd.R_after (ok := (fun _ => True)) (by refine kR_ ?_; exact Kd.R_mono HO_9.out (fun _ hk => ⟨trivial, hk⟩)) hg hat) <| b_ (hb) <| c_ (ho)
        clear HO_9 HB HO_17
        obtain ⟨HO_9, HB, HO161⟩ := n_
        clear ho hb hg hat
        refine hK.out _ _ ?_
        clear hK K
        refine norm_ (a' := ?_) ?_ ?_
        rotate_left
        ·show Act.put _ (some 162) _ = _
         simp only [Act.put, List.setIfInBounds_toArray, List.set_cons_zero, List.set_cons_succ, i64_w, i32_w]
         rfl
        refine pS_ 12 17 (bb_ 13 8191) HT_.out ?_
        refine done_ (done_of HT_.out (by kernel_rfl)) ?_
        try go_wp2
        go_roundg k3
        case measure => have := HK1.out; have := HK2.out; have := HK3.out; omega
        case rel => exact ⟨(y159), (wrap64 (x18_3 + 1)), f0_, H', ⟨by have := HK1.out; have := HK2.out; have := HK3.out; omega⟩, ⟨by refine kR_ ?_; exact Kd.R_mono HO_9.out (fun _ hk => hk.2)⟩, ⟨rR_ HO161.out⟩, ⟨hB_⟩⟩
     rw [if_pos c29] at H
     have c29b0 := decide_eq_true c29
     clear c29
     obtain ⟨c30, H⟩ := iN_ H
     have c30b0 := decide_eq_true c30
     have c30b1 : decide (4 < x9_2.length) = true := decide_eq_true (by omega)
     clear c30
     obtain ⟨c31, H⟩ := iN_ H
     have c31b0 := decide_eq_true c31
     have c31b1 : decide (5 < x9_2.length) = true := decide_eq_true (by omega)
     clear c31
     obtain ⟨c32, H⟩ := iN_ H
     have c32b0 := decide_eq_true c32
     have c32b1 : decide (6 < x9_2.length) = true := decide_eq_true (by omega)
     clear c32
     obtain ⟨c33, H⟩ := iN_ H
     have c33b0 := decide_eq_true c33
     have c33b1 : decide (7 < x9_2.length) = true := decide_eq_true (by omega)
     clear c33
     obtain ⟨t138, A34, H⟩ := bN_ H
     obtain ⟨c35b0, H⟩ := iD_ H
     obtain ⟨c36b0, H⟩ := iD_ H
     obtain ⟨c37b0, H⟩ := iD_ H
     obtain ⟨c38, H⟩ := iN_ H
     have c38b0 := decide_eq_true c38
     have c38b1 : decide (0 < x9_2.length) = true := decide_eq_true (by omega)
     clear c38
     obtain ⟨c39, H⟩ := iN_ H
     have c39b0 := decide_eq_true c39
     have c39b1 : decide (1 < x9_2.length) = true := decide_eq_true (by omega)
     clear c39
     obtain ⟨c40, H⟩ := iN_ H
     have c40b0 := decide_eq_true c40
     have c40b1 : decide (2 < x9_2.length) = true := decide_eq_true (by omega)
     clear c40
     obtain ⟨t148, A41, H⟩ := bN_ H
     have H' := Aside0.mk H
     clear H
     obtain ⟨Ao42, co42, eo42⟩ := Kd.R_slice HO_9.out
     subst eo42
     have p134 : 0 ≤ (4 : Int) := (by omega)
     have q134 : 4 < (x9_2.length : Int) := oD_
     obtain ⟨ad134, e134, hx134_0⟩ := Kd.at_int (Kd.R_reads' HO_9.out).2.2 4 p134 q134
     cases e134
     (try simp only [show (4 : Int).toNat = 4 from rfl, Nat.reduceMul, Nat.reduceEqDiff, Go.Addr.add, ↓reduceIte] at hx134_0)
     have qi134 : (4 < x9_2.length) = True := eq_true (by omega)
     (try rw [show ((4 : Int)).toNat = 4 from rfl] at hx134_0)
     replace p134 := eq_true p134
     replace q134 := eq_true q134
     try go_wp2
     have n_ := b_ (Kd.R_drew HO_7.out) <| b_ (Kd.R_drew HO_9.out) <| c_ (below_drew1 HB.out)
     clear HO_7 HO_9 HB
     obtain ⟨HO_7, HO_9, HB⟩ := n_
     have p135 : 0 ≤ (5 : Int) := (by omega)
     have q135 : 5 < (x9_2.length : Int) := oD_
     obtain ⟨ad135, e135, hx135_0⟩ := Kd.at_int (Kd.R_reads' HO_9.out).2.2 5 p135 q135
     obtain rfl : ad134 = ad135 := (by injection e135)
     (try simp only [show (5 : Int).toNat = 5 from rfl, Nat.reduceMul, Nat.reduceEqDiff, Go.Addr.add, ↓reduceIte] at hx135_0)
     have qi135 : (5 < x9_2.length) = True := eq_true (by omega)
     (try rw [show ((5 : Int)).toNat = 5 from rfl] at hx135_0)
     replace p135 := eq_true p135
     replace q135 := eq_true q135
     have p136 : 0 ≤ (6 : Int) := (by omega)
     have q136 : 6 < (x9_2.length : Int) := oD_
     obtain ⟨ad136, e136, hx136_0⟩ := Kd.at_int (Kd.R_reads' HO_9.out).2.2 6 p136 q136
     obtain rfl : ad134 = ad136 := (by injection e136)
     (try simp only [show (6 : Int).toNat = 6 from rfl, Nat.reduceMul, Nat.reduceEqDiff, Go.Addr.add, ↓reduceIte] at hx136_0)
     have qi136 : (6 < x9_2.length) = True := eq_true (by omega)
     (try rw [show ((6 : Int)).toNat = 6 from rfl] at hx136_0)
     replace p136 := eq_true p136
     replace q136 := eq_true q136
     refine start_ (n := 13) (S := fun w' => w'.cell? ⟨ad134.block, ad134.off + 5, none⟩ = some (.int .u32 (rd x9_2 5)) ∧ w'.cell? ⟨ad134.block, ad134.off + 6, none⟩ = some (.int .u32 (rd x9_2 6))) (ds := []) (bb_ 13 0) (by kernel_rfl) rfl rfl ⟨hx135_0, hx136_0⟩ (fun hHeld => ?_); refine with_tabW spec_l05Round.tab11 spec_l05Round.bits11 (fun HT_ HW_ => ?_)
     generalize wr.drew = w43 at HO_7 HO_9 HB hx135_0 hx136_0 hHeld ⊢
     refine pS_ 0 63 (bb_ 13 1) HT_.out ?_
     refine pS_ 1 64 (bb_ 13 3) HT_.out ?_
     refine pS_ 2 65 (bb_ 13 7) HT_.out ?_
     refine pS_ 5 68 (bb_ 13 39) HT_.out ?_
     refine pS_ 6 69 (bb_ 13 103) HT_.out ?_
     refine pS_ 7 70 (bb_ 13 231) HT_.out ?_
     refine pS_ 8 71 (bb_ 13 487) HT_.out ?_
     refine tS_ 3 66 (bb_ 13 495) (take_ofW HT_.out HW_.out (by kernel_rfl)) hHeld ?_
     refine pS_ 4 67 (bb_ 13 511) HT_.out ?_
     refine tS_ 9 72 (bb_ 13 1023) (take_ofW HT_.out HW_.out (by kernel_rfl)) hHeld ?_
     refine pS_ 10 73 (bb_ 13 2047) HT_.out ?_
     refine pS_ 11 74 (bb_ 13 4095) HT_.out ?_
     refine pS_ 12 12 (bb_ 13 8191) HT_.out ?_
     refine done_ (done_of HT_.out (by kernel_rfl)) ?_
     try go_wp2
     have n_ := b_ (Kd.R_drew HO_7.out) <| b_ (Kd.R_drew HO_9.out) <| c_ (below_drew1 HB.out)
     clear HO_7 HO_9 HB
     obtain ⟨HO_7, HO_9, HB⟩ := n_
     have p137 : 0 ≤ (7 : Int) := (by omega)
     have q137 : 7 < (x9_2.length : Int) := oD_
     obtain ⟨ad137, e137, hx137_0⟩ := Kd.at_int (Kd.R_reads' HO_9.out).2.2 7 p137 q137
     obtain rfl : ad134 = ad137 := (by injection e137)
     (try simp only [show (7 : Int).toNat = 7 from rfl, Nat.reduceMul, Nat.reduceEqDiff, Go.Addr.add, ↓reduceIte] at hx137_0)
     have qi137 : (7 < x9_2.length) = True := eq_true (by omega)
     (try rw [show ((7 : Int)).toNat = 7 from rfl] at hx137_0)
     replace p137 := eq_true p137
     replace q137 := eq_true q137
     have p139 : 0 ≤ (x10_2 : Int) := oD_
     have q139 : x10_2 < (l1.length : Int) := oD_
     obtain ⟨ad139, e139, hx139_0⟩ := Kd.at_int HR1.out x10_2 p139 q139
     have hw139_0 := hx139_0
     cases e139
     replace hx139_0 := (HB.out.cell (World.block_lt_of_cell? w _ hx139_0)).trans hx139_0
     replace p139 := eq_true p139
     replace q139 := eq_true q139
     obtain ⟨Ao45, co45, eo45⟩ := Kd.R_slice HO_7.out
     (first | subst eo45 | (injection eo45 with f1_ f2_ f3_; have f4_ := f1_.symm; have f5_ := f3_.symm; clear f1_ f2_ f3_; subst f4_; subst f5_))
     have p140 : 0 ≤ (x10_2 : Int) := oD_
     have q140 : x10_2 < (x7_1.length : Int) := oD_
     obtain ⟨ad140, e140, hx140_0⟩ := Kd.at_int (Kd.R_reads' HO_7.out).2.2 x10_2 p140 q140
     cases e140
     replace p140 := eq_true p140
     replace q140 := eq_true q140
     refine start_ (n := 19) (S := fun w' => w'.cell? ⟨ad134.block, ad134.off + 7, none⟩ = some (.int .u32 (rd x9_2 7)) ∧ w'.cell? (ad139.add (x10_2).toNat) = some (.int .u32 (rd l1 x10_2)) ∧ w'.cell? (ad140.add (x10_2).toNat) = some (.int .u32 (rd x7_1 x10_2))) (ds := []) (bb_ 19 0) (by kernel_rfl) rfl rfl ⟨hx137_0, ((HB.out.cell (World.block_lt_of_cell? w _ hw139_0)).trans hw139_0), hx140_0⟩ (fun hHeld => ?_); refine with_tabW spec_l05Round.tab12 spec_l05Round.bits12 (fun HT_ HW_ => ?_)
     generalize w43.drew = w44 at HO_7 HO_9 HB hx137_0 hx139_0 hx140_0 hHeld ⊢
     refine pS_ 0 75 (bb_ 19 1) HT_.out ?_
     refine pS_ 1 76 (bb_ 19 3) HT_.out ?_
     refine pS_ 3 78 (bb_ 19 11) HT_.out ?_
     refine pS_ 6 81 (bb_ 19 75) HT_.out ?_
     refine pS_ 8 83 (bb_ 19 331) HT_.out ?_
     refine pS_ 9 84 (bb_ 19 843) HT_.out ?_
     refine pS_ 10 85 (bb_ 19 1867) HT_.out ?_
     refine pS_ 13 88 (bb_ 19 10059) HT_.out ?_
     refine pS_ 14 89 (bb_ 19 26443) HT_.out ?_
     refine pS_ 15 90 (bb_ 19 59211) HT_.out ?_
     refine tS_ 2 77 (bb_ 19 59215) (take_ofW HT_.out HW_.out (by kernel_rfl)) hHeld ?_
     refine tS_ 11 86 (bb_ 19 61263) (take_ofW HT_.out HW_.out (by kernel_rfl)) hHeld ?_
     refine tS_ 16 91 (bb_ 19 126799) (take_ofW HT_.out HW_.out (by kernel_rfl)) hHeld ?_
     refine one_ (i := 4) (N := some 79) (bb_ 19 126815) rfl rfl (one_of HT_.out (by kernel_rfl)) (by decide) (fun K hK => ?_)
     refine goes_ Tryd.func68 (by kernel_rfl) rfl #[.int .u32 (rd x9_2 4), .int .u32 64, .int .u32 2048, .int .u32 33554432, .bool false] (by rfl) rfl rfl aM_ ?_
     with_reducible refine (spec_l05S.calls (rd x9_2 4) 64 2048 33554432 false t138 _ A34.out).mono ?_
     rintro e w' ⟨rfl, ⟨nd, rfl⟩⟩
     refine ⟨_, rfl, ?_⟩
     refine hK.out _ _ ⟨hHeld.1, ((HB.out.cell (World.block_lt_of_cell? w _ hw139_0)).trans hw139_0), hHeld.2.2⟩ (fun hHeld => ?_)
     clear hK K
     refine norm_ (a' := ?_) ?_ ?_
     rotate_left
     ·show Act.put _ (some 79) _ = _
      simp only [Act.put, List.setIfInBounds_toArray, List.set_cons_zero, List.set_cons_succ, i64_w, i32_w]
      rfl
     refine pS_ 5 80 (bb_ 19 126847) HT_.out ?_
     refine pS_ 7 82 (bb_ 19 126975) HT_.out ?_
     refine pS_ 12 87 (bb_ 19 131071) HT_.out ?_
     refine pS_ 17 92 (bb_ 19 262143) HT_.out ?_
     refine pS_ 18 13 (bb_ 19 524287) HT_.out ?_
     refine done_ (done_of HT_.out (by kernel_rfl)) ?_
     try go_wp2
     (try (rw [drewN_self w44]; generalize hq_ : World.drewN w44 _ = w44; have n_ := b_ (show Kd.R (Kd.int .u32) 53 w44 w.heap.size (fun k_ => some k_ ≠ (.slice (some ad134) x9_2.length co42 : Value).ownBlock) (.slice (some ad140) x7_1.length co45) x7_1 from by rw [← hq_]; exact (rR_ HO_7.out)) <| b_ (show Kd.R (Kd.int .u32) 53 w44 w.heap.size (fun k_ => some k_ ≠ (.slice (some ad140) x7_1.length co45 : Value).ownBlock) (.slice (some ad134) x9_2.length co42) x9_2 from by rw [← hq_]; exact (rR_ HO_9.out)) <| c_ (show Below w.heap.size w w44 from by rw [← hq_]; exact (hB_)); clear HO_7 HO_9 HB hq_; obtain ⟨HO_7, HO_9, HB⟩ := n_))
     have n_ := b_ (Kd.R_drew HO_7.out) <| b_ (Kd.R_drew HO_9.out) <| c_ (below_drew1 HB.out)
     clear HO_7 HO_9 HB
     obtain ⟨HO_7, HO_9, HB⟩ := n_
     have p141 : 0 ≤ (0 : Int) := (by omega)
     have q141 : 0 < (x9_2.length : Int) := oD_
     obtain ⟨ad141, e141, hx141_0⟩ := Kd.at_int (Kd.R_reads' HO_9.out).2.2 0 p141 q141
     obtain rfl : ad134 = ad141 := (by injection e141)
     have qi141 : (0 < x9_2.length) = True := eq_true (by omega)
     (try rw [show ((0 : Int)).toNat = 0 from rfl] at hx141_0)
     (try rw [Addr.add_zero'] at hx141_0)
     replace p141 := eq_true p141
     replace q141 := eq_true q141
     have p142 : 0 ≤ (1 : Int) := (by omega)
     have q142 : 1 < (x9_2.length : Int) := oD_
     obtain ⟨ad142, e142, hx142_0⟩ := Kd.at_int (Kd.R_reads' HO_9.out).2.2 1 p142 q142
     obtain rfl : ad134 = ad142 := (by injection e142)
     (try simp only [show (1 : Int).toNat = 1 from rfl, Nat.reduceMul, Nat.reduceEqDiff, Go.Addr.add, ↓reduceIte] at hx142_0)
     have qi142 : (1 < x9_2.length) = True := eq_true (by omega)
     (try rw [show ((1 : Int)).toNat = 1 from rfl] at hx142_0)
     replace p142 := eq_true p142
     replace q142 := eq_true q142
     have p143 : 0 ≤ (0 : Int) := (by omega)
     have q143 : 0 < (x9_2.length : Int) := oD_
     obtain ⟨ad143, e143, hx143_0⟩ := Kd.at_int (Kd.R_reads' HO_9.out).2.2 0 p143 q143
     obtain rfl : ad134 = ad143 := (by injection e143)
     have qi143 : (0 < x9_2.length) = True := eq_true (by omega)
     (try rw [show ((0 : Int)).toNat = 0 from rfl] at hx143_0)
     (try rw [Addr.add_zero'] at hx143_0)
     replace p143 := eq_true p143
     replace q143 := eq_true q143
     have p144 : 0 ≤ (2 : Int) := (by omega)
     have q144 : 2 < (x9_2.length : Int) := oD_
     obtain ⟨ad144, e144, hx144_0⟩ := Kd.at_int (Kd.R_reads' HO_9.out).2.2 2 p144 q144
     obtain rfl : ad134 = ad144 := (by injection e144)
     (try simp only [show (2 : Int).toNat = 2 from rfl, Nat.reduceMul, Nat.reduceEqDiff, Go.Addr.add, ↓reduceIte] at hx144_0)
     have qi144 : (2 < x9_2.length) = True := eq_true (by omega)
     (try rw [show ((2 : Int)).toNat = 2 from rfl] at hx144_0)
     replace p144 := eq_true p144
     replace q144 := eq_true q144
     have p145 : 0 ≤ (1 : Int) := (by omega)
     have q145 : 1 < (x9_2.length : Int) := oD_
     obtain ⟨ad145, e145, hx145_0⟩ := Kd.at_int (Kd.R_reads' HO_9.out).2.2 1 p145 q145
     obtain rfl : ad134 = ad145 := (by injection e145)
     (try simp only [show (1 : Int).toNat = 1 from rfl, Nat.reduceMul, Nat.reduceEqDiff, Go.Addr.add, ↓reduceIte] at hx145_0)
     have qi145 : (1 < x9_2.length) = True := eq_true (by omega)
     (try rw [show ((1 : Int)).toNat = 1 from rfl] at hx145_0)
     replace p145 := eq_true p145
     replace q145 := eq_true q145
     have p146 : 0 ≤ (2 : Int) := (by omega)
     have q146 : 2 < (x9_2.length : Int) := oD_
     obtain ⟨ad146, e146, hx146_0⟩ := Kd.at_int (Kd.R_reads' HO_9.out).2.2 2 p146 q146
     obtain rfl : ad134 = ad146 := (by injection e146)
     (try simp only [show (2 : Int).toNat = 2 from rfl, Nat.reduceMul, Nat.reduceEqDiff, Go.Addr.add, ↓reduceIte] at hx146_0)
     have qi146 : (2 < x9_2.length) = True := eq_true (by omega)
     (try rw [show ((2 : Int)).toNat = 2 from rfl] at hx146_0)
     replace p146 := eq_true p146
     replace q146 := eq_true q146
     refine start_ (n := 24) (S := fun w' => w'.cell? ad134 = some (.int .u32 (rd x9_2 0)) ∧ w'.cell? ⟨ad134.block, ad134.off + 1, none⟩ = some (.int .u32 (rd x9_2 1)) ∧ w'.cell? ad134 = some (.int .u32 (rd x9_2 0)) ∧ w'.cell? ⟨ad134.block, ad134.off + 2, none⟩ = some (.int .u32 (rd x9_2 2)) ∧ w'.cell? ⟨ad134.block, ad134.off + 1, none⟩ = some (.int .u32 (rd x9_2 1)) ∧ w'.cell? ⟨ad134.block, ad134.off + 2, none⟩ = some (.int .u32 (rd x9_2 2))) (ds := []) (bb_ 24 0) (by kernel_rfl) rfl rfl ⟨hx141_0, hx142_0, hx143_0, hx144_0, hx145_0, hx146_0⟩ (fun hHeld => ?_); refine with_tabW spec_l05Round.tab13 spec_l05Round.bits13 (fun HT_ HW_ => ?_)
     generalize w44.drew = w46 at HO_7 HO_9 HB hx141_0 hx142_0 hx143_0 hx144_0 hx145_0 hx146_0 hHeld ⊢
     refine pS_ 0 93 (bb_ 24 1) HT_.out ?_
     refine pS_ 1 94 (bb_ 24 3) HT_.out ?_
     refine pS_ 3 96 (bb_ 24 11) HT_.out ?_
     refine pS_ 4 97 (bb_ 24 27) HT_.out ?_
     refine pS_ 7 100 (bb_ 24 155) HT_.out ?_
     refine pS_ 8 101 (bb_ 24 411) HT_.out ?_
     refine pS_ 10 103 (bb_ 24 1435) HT_.out ?_
     refine pS_ 11 104 (bb_ 24 3483) HT_.out ?_
     refine pS_ 15 108 (bb_ 24 36251) HT_.out ?_
     refine pS_ 16 109 (bb_ 24 101787) HT_.out ?_
     refine pS_ 18 111 (bb_ 24 363931) HT_.out ?_
     refine pS_ 19 112 (bb_ 24 888219) HT_.out ?_
     refine tS_ 2 95 (bb_ 24 888223) (take_ofW HT_.out HW_.out (by kernel_rfl)) hHeld ?_
     refine tS_ 5 98 (bb_ 24 888255) (take_ofW HT_.out HW_.out (by kernel_rfl)) hHeld ?_
     refine pS_ 6 99 (bb_ 24 888319) HT_.out ?_
     refine tS_ 9 102 (bb_ 24 888831) (take_ofW HT_.out HW_.out (by kernel_rfl)) hHeld ?_
     refine tS_ 12 105 (bb_ 24 892927) (take_ofW HT_.out HW_.out (by kernel_rfl)) hHeld ?_
     refine pS_ 13 106 (bb_ 24 901119) HT_.out ?_
     refine pS_ 14 107 (bb_ 24 917503) HT_.out ?_
     refine tS_ 17 110 (bb_ 24 1048575) (take_ofW HT_.out HW_.out (by kernel_rfl)) hHeld ?_
     refine tS_ 20 113 (bb_ 24 2097151) (take_ofW HT_.out HW_.out (by kernel_rfl)) hHeld ?_
     refine pS_ 21 114 (bb_ 24 4194303) HT_.out ?_
     refine pS_ 22 115 (bb_ 24 8388607) HT_.out ?_
     refine pS_ 23 14 (bb_ 24 16777215) HT_.out ?_
     refine done_ (done_of HT_.out (by kernel_rfl)) ?_
     have p147 : 0 ≤ (0 : Int) := (by omega)
     have q147 : 0 < (x9_2.length : Int) := oD_
     obtain ⟨ad147, e147, hx147_0⟩ := Kd.at_int (Kd.R_reads' HO_9.out).2.2 0 p147 q147
     obtain rfl : ad134 = ad147 := (by injection e147)
     have qi147 : (0 < x9_2.length) = True := eq_true (by omega)
     (try rw [show ((0 : Int)).toNat = 0 from rfl] at hx147_0)
     (try rw [Addr.add_zero'] at hx147_0)
     replace p147 := eq_true p147
     replace q147 := eq_true q147
     try go_wp2_with (first | ((with_reducible refine gate_callee (f := 68) rfl ?_); refine goesL_ (some 119) rfl rfl Tryd.func68 (by kernel_rfl) rfl #[.int .u32 (rd x9_2 0), .int .u32 4, .int .u32 8192, .int .u32 4194304, .bool false] rfl aM_ ?_; (with_reducible refine (spec_l05S.calls (rd x9_2 0) 4 8192 4194304 false t148 _ A41.out).mono ?_); rintro e w' ⟨rfl, ⟨nd, rfl⟩⟩; refine ⟨_, rfl, ?_⟩))
     go_loopg [16] k2 (fun kq v16 w' => ∃ (x9_3 : List Int) (x16_3 : Int), v16 = .int .i64 x16_3 ∧ Aside0 (spec_l05Round.l2 kq l0 l1 x7_1 x9_3 x10_2 (((((((((rd x9_2 7) + t138) % 4294967296) + (Go.bits .xor .u32 (Go.bits .and .u32 (rd x9_2 4) (rd x9_2 5)) (Go.bits .and .u32 ((4294967295 - (rd x9_2 4)) % 4294967296) (rd x9_2 6)))) % 4294967296) + (rd l1 x10_2)) % 4294967296) + (rd x7_1 x10_2)) % 4294967296) ((t148 + (Go.bits .xor .u32 (Go.bits .xor .u32 (Go.bits .and .u32 (rd x9_2 0) (rd x9_2 1)) (Go.bits .and .u32 (rd x9_2 0) (rd x9_2 2))) (Go.bits .and .u32 (rd x9_2 1) (rd x9_2 2)))) % 4294967296) x16_3 = some r) ∧ Aside0 (kq ≤ k2) ∧ Aside0 (Kd.R (Kd.int .u32) 53 w' w.heap.size (fun k_ => some k_ ≠ ((.slice (some ad134) x9_2.length co42) : Value).ownBlock) (.slice (some ad140) x7_1.length co45) x7_1) ∧ Aside0 (Kd.R (Kd.int .u32) 53 w' w.heap.size (fun k_ => some k_ ≠ ((.slice (some ad140) x7_1.length co45) : Value).ownBlock) (.slice (some ad134) x9_2.length co42) x9_3) ∧ Aside0 (Below w.heap.size w w'))
     case atStart => exact ⟨(x9_2), (7), f0_, H', ⟨Nat.le_refl _⟩, ⟨rR_ HO_7.out⟩, ⟨rR_ HO_9.out⟩, ⟨hB_⟩⟩
     case round =>
      clear H'
      obtain ⟨x9_3, x16_3, rfl, HA, HK3, HO_7, HO_9, HB⟩ := hrel
      have hl9_3 := (Kd.R_reads' HO_9.out).1
      rw [hl9_3] at HO_9
      (try simp only [hl9_3])
      (try simp only [hl9_3] at HO_7)
      cases gk with
      | zero => exact absurd HA.out (by simp [spec_l05Round.l2])
      | succ k3 =>
       have H := HA.out
       clear HA
       simp only [spec_l05Round.l2] at H
       by_cases c47 : x16_3 > 0
       ·rw [if_pos c47] at H
        have c47b0 := decide_eq_true c47
        clear c47
        obtain ⟨ji48, hji48⟩ : ∃ j_ : Int, (wrap64 (x16_3 - 1)) = j_ := ⟨_, rfl⟩
        first | rw [hji48] at H | simp only [hji48] at H
        have hji48w : (IntKind.i64.wrap (x16_3 - 1)) = ji48 := (i64_w _).trans hji48
        obtain ⟨c49b0, H⟩ := iD_ H
        obtain ⟨c50, H⟩ := iN_ H
        have c50b0 := decide_eq_true c50
        (try simp only [hl9_3] at c50b0)
        clear c50
        obtain ⟨c51b0, H⟩ := iD_ H
        obtain ⟨c52, H⟩ := iN_ H
        have c52b0 := decide_eq_true c52
        (try simp only [hl9_3] at c52b0)
        clear c52
        obtain ⟨y150, hy150⟩ : ∃ y_ : List Int, y_ = (x9_3.set (x16_3 : Int).toNat (rd x9_3 (ji48))) := ⟨_, rfl⟩
        first | replace H := yb_ hy150 H | rw [← hy150] at H
        have Ny150 := Aside0.mk hy150
        clear hy150
        have H' := Aside0.mk H
        clear H
        have p149 : 0 ≤ ((ji48) : Int) := oD_
        have q149 : (ji48) < (x9_3.length : Int) := oD_
        obtain ⟨ad149, e149, hx149_0⟩ := Kd.at_int (Kd.R_reads' HO_9.out).2.2 (ji48) p149 q149
        obtain rfl : ad134 = ad149 := (by injection e149)
        replace p149 := eq_true p149
        replace q149 := eq_true q149
        have p53 : 0 ≤ (x16_3 : Int) := oD_
        have q53 : (x16_3 : Int) < ((x9_3.length : Int) : Int) := oD_
        obtain ⟨go53, co53, eo53, gb53, gl53, cl53, HG53⟩ := Kd.R_form HO_9.out (by omega)
        (first | cases eo53 | (injection eo53 with ea_ en_ ec_; (first | subst ea_ | (injection ea_ with ea_; subst ea_)); subst ec_; clear en_))
        have GB53 := Aside0.mk gb53
        have GG53 := Aside0.mk HG53
        clear gb53 gl53 HG53
        (first | simp only [add_plain] at hx134_0 | skip)
        (first | simp only [add_plain] at hx135_0 | skip)
        (first | simp only [add_plain] at hx136_0 | skip)
        (first | simp only [add_plain] at hx137_0 | skip)
        (first | simp only [add_plain] at hx141_0 | skip)
        (first | simp only [add_plain] at hx142_0 | skip)
        (first | simp only [add_plain] at hx143_0 | skip)
        (first | simp only [add_plain] at hx144_0 | skip)
        (first | simp only [add_plain] at hx145_0 | skip)
        (first | simp only [add_plain] at hx146_0 | skip)
        (first | simp only [add_plain] at hx147_0 | skip)
        (first | simp only [add_plain] at hx149_0 | skip)
        obtain ⟨hx53_0, hf53_0⟩ := Kd.R_celln 0 HO_9.out (x16_3 : Int) p53 q53
        replace p53 := eq_true p53
        replace q53 := eq_true q53
        have HP54 := Kd.R_putg HO_9.out (x16_3 : Int) (rd x9_3 (ji48))
        go_wp2_with (first | ((with_reducible refine gate_store (t := 53) (p := 133) rfl ?_); refine store_event (t := 53) (p := 133) (v := ?vo_w55) (w1 := (wr.setCell ⟨go53, (x16_3 : Int).toNat, none⟩ (.int .u32 (rd x9_3 (ji48))))) ?hg ?ho ?hn ?hr ?_; (case ho => rfl); (case hg => rfl); (case hn => rfl); (case hr => first | (go_simp; done) | (go_simp; rfl)); intro w55 hw; have hg : wr.grownBy w55 (some go53) := (by rw [hw]; exact HP54.2); have hp_ : Kd.R (Kd.int .u32) 53 w55 w.heap.size (fun k_ => some k_ ≠ (.slice (some ad140) x7_1.length co45 : Value).ownBlock) (.slice (some ⟨go53, 0, none⟩) x9_3.length co42) y150 := (by rw [hw, Ny150.out]; exact HP54.1); clear HP54; have n_ := b_ (Kd.R_after (v := (.slice (some ⟨go53, 0, none⟩) x9_3.length co42)) (v1 := (.slice (some ⟨go53, 0, none⟩) x9_3.length co42)) (ok := (fun _ => True)) (by refine kR_ ?_; exact Kd.R_mono HO_7.out (fun _ hk => ⟨trivial, hk⟩)) hg (.inl rfl)) <| b_ (hp_) <| c_ (by rw [hw]; exact below_set (HB.out) GB53.out : Below w.heap.size w w55); clear HO_7 HO_9 HB; obtain ⟨HO_7, HO_9, HB⟩ := n_; clear hg hw hp_))
        (try simp only [← hl9_3])
        go_roundg k3
        case measure => have := HK1.out; have := HK2.out; have := HK3.out; omega
        case rel => exact ⟨(y150), (ji48), (by first | rfl | (simp; done) | (simp only [← hji48] <;> (first | rfl | simp)) | (simp [*]; done)), H', ⟨by have := HK1.out; have := HK2.out; have := HK3.out; omega⟩, ⟨by (try simp only [hl9_3]); refine kR_ ?_; exact Kd.R_mono HO_7.out (fun _ hk => hk.2)⟩, ⟨by (try simp only [hl9_3]); refine kR_ ?_; exact HO_9.out⟩, ⟨hB_⟩⟩
       rw [if_neg c47] at H
       have c47b0 := decide_eq_false c47
       clear c47
       obtain ⟨c56, H⟩ := iN_ H
       have c56b0 := decide_eq_true c56
       have c56b1 : decide (4 < x9_3.length) = true := decide_eq_true (by omega)
       (try simp only [hl9_3] at c56b0)
       (try simp only [hl9_3] at c56b1)
       clear c56
       obtain ⟨y152, hy152⟩ : ∃ y_ : List Int, y_ = (x9_3.set (4 : Int).toNat (((rd x9_3 4) + (((((((((rd x9_2 7) + t138) % 4294967296) + (Go.bits .xor .u32 (Go.bits .and .u32 (rd x9_2 4) (rd x9_2 5)) (Go.bits .and .u32 ((4294967295 - (rd x9_2 4)) % 4294967296) (rd x9_2 6)))) % 4294967296) + (rd l1 x10_2)) % 4294967296) + (rd x7_1 x10_2)) % 4294967296)) % 4294967296)) := ⟨_, rfl⟩
       first | replace H := yb_ hy152 H | rw [← hy152] at H
       have Ny152 := Aside0.mk hy152
       clear hy152
       obtain ⟨c58, H⟩ := iN_ H
       have c58b0 := decide_eq_true c58
       have c58b1 : decide (0 < x9_3.length) = true := decide_eq_true (by omega)
       (try simp only [hl9_3] at c58b0)
       (try simp only [hl9_3] at c58b1)
       clear c58
       obtain ⟨y153, hy153⟩ : ∃ y_ : List Int, y_ = (y152.set (0 : Int).toNat (((((((((((rd x9_2 7) + t138) % 4294967296) + (Go.bits .xor .u32 (Go.bits .and .u32 (rd x9_2 4) (rd x9_2 5)) (Go.bits .and .u32 ((4294967295 - (rd x9_2 4)) % 4294967296) (rd x9_2 6)))) % 4294967296) + (rd l1 x10_2)) % 4294967296) + (rd x7_1 x10_2)) % 4294967296) + ((t148 + (Go.bits .xor .u32 (Go.bits .xor .u32 (Go.bits .and .u32 (rd x9_2 0) (rd x9_2 1)) (Go.bits .and .u32 (rd x9_2 0) (rd x9_2 2))) (Go.bits .and .u32 (rd x9_2 1) (rd x9_2 2)))) % 4294967296)) % 4294967296)) := ⟨_, rfl⟩
       first | replace H := yb_ hy153 H | rw [← hy153] at H
       have Ny153 := Aside0.mk hy153
       clear hy153
       have H' := Aside0.mk H
       clear H
       have p151 : 0 ≤ (4 : Int) := (by omega)
       have q151 : 4 < (x9_3.length : Int) := oD_
       obtain ⟨ad151, e151, hx151_0⟩ := Kd.at_int (Kd.R_reads' HO_9.out).2.2 4 p151 q151
       obtain rfl : ad134 = ad151 := (by injection e151)
       (try simp only [show (4 : Int).toNat = 4 from rfl, Nat.reduceMul, Nat.reduceEqDiff, Go.Addr.add, ↓reduceIte] at hx151_0)
       have qi151 : (4 < x9_3.length) = True := eq_true (by omega)
       (try rw [show ((4 : Int)).toNat = 4 from rfl] at hx151_0)
       replace p151 := eq_true p151
       replace q151 := eq_true q151
       have p57 : 0 ≤ (4 : Int) := (by omega)
       have q57 : (4 : Int) < ((x9_3.length : Int) : Int) := oD_
       have qi57 : (4 < x9_3.length) = True := eq_true (by omega)
       obtain ⟨go57, co57, eo57, gb57, gl57, cl57, HG57⟩ := Kd.R_form HO_9.out (by omega)
       (first | cases eo57 | (injection eo57 with ea_ en_ ec_; (first | subst ea_ | (injection ea_ with ea_; subst ea_)); subst ec_; clear en_))
       have GB57 := Aside0.mk gb57
       have GG57 := Aside0.mk HG57
       clear gb57 gl57 HG57
       (first | simp only [add_plain] at hx151_0 | skip)
       obtain ⟨hx57_0, hf57_0⟩ := Kd.R_celln 0 HO_9.out (4 : Int) p57 q57
       (try rw [show ((4 : Int)).toNat = 4 from rfl] at hx57_0)
       (try simp only [Nat.reduceMul, Nat.zero_mul, Nat.zero_add, Nat.reduceAdd] at hx57_0)
       (try rw [show ((4 : Int)).toNat = 4 from rfl] at hf57_0)
       (try simp only [Nat.reduceMul, Nat.zero_mul, Nat.zero_add, Nat.reduceAdd] at hf57_0)
       replace p57 := eq_true p57
       replace q57 := eq_true q57
       have HP60 := Kd.R_putg HO_9.out (4 : Int) (((rd x9_3 4) + (((((((((rd x9_2 7) + t138) % 4294967296) + (Go.bits .xor .u32 (Go.bits .and .u32 (rd x9_2 4) (rd x9_2 5)) (Go.bits .and .u32 ((4294967295 - (rd x9_2 4)) % 4294967296) (rd x9_2 6)))) % 4294967296) + (rd l1 x10_2)) % 4294967296) + (rd x7_1 x10_2)) % 4294967296)) % 4294967296)
       go_wp2_with (first | ((with_reducible refine gate_store (t := 53) (p := 140) rfl ?_); refine store_event (t := 53) (p := 140) (v := ?vo_w61) (w1 := (wr.setCell ⟨go57, (4 : Int).toNat, none⟩ (.int .u32 (((rd x9_3 4) + (((((((((rd x9_2 7) + t138) % 4294967296) + (Go.bits .xor .u32 (Go.bits .and .u32 (rd x9_2 4) (rd x9_2 5)) (Go.bits .and .u32 ((4294967295 - (rd x9_2 4)) % 4294967296) (rd x9_2 6)))) % 4294967296) + (rd l1 x10_2)) % 4294967296) + (rd x7_1 x10_2)) % 4294967296)) % 4294967296)))) ?hg ?ho ?hn ?hr ?_; (case ho => rfl); (case hg => rfl); (case hn => rfl); (case hr => first | (go_simp; done) | (go_simp; rfl)); intro w61 hw; have hg : wr.grownBy w61 (some go57) := (by rw [hw]; exact HP60.2); have hp_ : Kd.R (Kd.int .u32) 53 w61 w.heap.size (fun k_ => some k_ ≠ (.slice (some ad140) x7_1.length co45 : Value).ownBlock) (.slice (some ⟨go57, 0, none⟩) x9_3.length co42) y152 := (by rw [hw, Ny152.out]; exact HP60.1); clear HP60; have n_ := b_ (Kd.R_after (v := (.slice (some ⟨go57, 0, none⟩) x9_3.length co42)) (v1 := (.slice (some ⟨go57, 0, none⟩) x9_3.length co42)) (ok := (fun _ => True)) (by refine kR_ ?_; exact Kd.R_mono HO_7.out (fun _ hk => ⟨trivial, hk⟩)) hg (.inl rfl)) <| b_ (hp_) <| c_ (by rw [hw]; exact below_set (HB.out) GB57.out : Below w.heap.size w w61); clear HO_7 HO_9 HB; obtain ⟨HO_7, HO_9, HB⟩ := n_; clear hg hw hp_; have p59 : 0 ≤ (0 : Int) := (by omega); have q59 : (0 : Int) < ((x9_3.length : Int) : Int) := oD_; have qi59 : (0 < x9_3.length) = True := eq_true (by omega); obtain ⟨hx59_0, hf59_0⟩ := Kd.R_celln 0 HO_9.out (0 : Int) p59 q59; (try rw [show ((0 : Int)).toNat = 0 from rfl] at hx59_0); (try simp only [Nat.reduceMul, Nat.zero_mul, Nat.zero_add, Nat.reduceAdd] at hx59_0); (try rw [show ((0 : Int)).toNat = 0 from rfl] at hf59_0); (try simp only [Nat.reduceMul, Nat.zero_mul, Nat.zero_add, Nat.reduceAdd] at hf59_0); replace p59 := eq_true p59; replace q59 := eq_true q59; obtain ⟨hy62_, hz62_⟩ := Kd.R_celln 0 HO_9.out (0 : Int) (by omega) oD_; (try simp only [Int.reduceToNat, Int.toNat_zero, Int.toNat_ofNat, Nat.reduceMul, Nat.zero_mul, Nat.zero_add] at hy62_ hz62_); (try rw [show ((0 : Int)).toNat = 0 from rfl] at hy62_); (try rw [show ((0 : Int)).toNat = 0 from rfl] at hz62_); have HP62 := Kd.R_putg HO_9.out (0 : Int) (((((((((((rd x9_2 7) + t138) % 4294967296) + (Go.bits .xor .u32 (Go.bits .and .u32 (rd x9_2 4) (rd x9_2 5)) (Go.bits .and .u32 ((4294967295 - (rd x9_2 4)) % 4294967296) (rd x9_2 6)))) % 4294967296) + (rd l1 x10_2)) % 4294967296) + (rd x7_1 x10_2)) % 4294967296) + ((t148 + (Go.bits .xor .u32 (Go.bits .xor .u32 (Go.bits .and .u32 (rd x9_2 0) (rd x9_2 1)) (Go.bits .and .u32 (rd x9_2 0) (rd x9_2 2))) (Go.bits .and .u32 (rd x9_2 1) (rd x9_2 2)))) % 4294967296)) % 4294967296)) | ((with_reducible refine gate_store (t := 53) (p := 145) rfl ?_); refine store_event (t := 53) (p := 145) (v := ?vo_w63) (w1 := (w61.setCell ⟨go57, (0 : Int).toNat, none⟩ (.int .u32 (((((((((((rd x9_2 7) + t138) % 4294967296) + (Go.bits .xor .u32 (Go.bits .and .u32 (rd x9_2 4) (rd x9_2 5)) (Go.bits .and .u32 ((4294967295 - (rd x9_2 4)) % 4294967296) (rd x9_2 6)))) % 4294967296) + (rd l1 x10_2)) % 4294967296) + (rd x7_1 x10_2)) % 4294967296) + ((t148 + (Go.bits .xor .u32 (Go.bits .xor .u32 (Go.bits .and .u32 (rd x9_2 0) (rd x9_2 1)) (Go.bits .and .u32 (rd x9_2 0) (rd x9_2 2))) (Go.bits .and .u32 (rd x9_2 1) (rd x9_2 2)))) % 4294967296)) % 4294967296)))) ?hg ?ho ?hn ?hr ?_; (case ho => rfl); (case hg => rfl); (case hn => rfl); (case hr => first | (go_simp; done) | (go_simp; rfl)); intro w63 hw; have hg : w61.grownBy w63 (some go57) := (by rw [hw]; exact HP62.2); have hp_ : Kd.R (Kd.int .u32) 53 w63 w.heap.size (fun k_ => some k_ ≠ (.slice (some ad140) x7_1.length co45 : Value).ownBlock) (.slice (some ⟨go57, 0, none⟩) x9_3.length co42) y153 := (by rw [hw, Ny153.out]; exact HP62.1); clear HP62; have n_ := b_ (Kd.R_after (v := (.slice (some ⟨go57, 0, none⟩) x9_3.length co42)) (v1 := (.slice (some ⟨go57, 0, none⟩) x9_3.length co42)) (ok := (fun _ => True)) (rR_ HO_7.out) hg (.inl rfl)) <| b_ (hp_) <| c_ (by rw [hw]; exact below_set (HB.out) GB57.out : Below w.heap.size w w63); clear HO_7 HO_9 HB; obtain ⟨HO_7, HO_9, HB⟩ := n_; clear hg hw hp_))
       (try simp only [← hl9_3])
       go_roundg k3
       case measure => have := HK1.out; have := HK2.out; have := HK3.out; omega
       case rel => exact ⟨(y153), (wrap64 (x10_2 + 1)), f0_, H', ⟨by have := HK1.out; have := HK2.out; have := HK3.out; omega⟩, ⟨by (try simp only [hl9_3]); refine kR_ ?_; exact Kd.R_mono HO_7.out (fun _ hk => hk.2)⟩, ⟨by (try simp only [hl9_3]); refine kR_ ?_; exact HO_9.out⟩, ⟨hB_⟩⟩

/-! ### spec_l05Bytes: function 48 -/
def spec_l05Bytes.l0 : Nat → List Int → List Int → Int → Option (ByteArray)
 | 0, _, _, _ => none
 | k + 1, x0, x3, x4 => if x4 < (x0.length : Int) then (if 0 ≤ x4 then ((some (([((Int.tdiv (rd x0 x4) 16777216) % 4294967296) % 256, ((Int.tdiv (rd x0 x4) 65536) % 4294967296) % 256, ((Int.tdiv (rd x0 x4) 256) % 4294967296) % 256, (Int.tmod (rd x0 x4) 256) % 256] : List Int) : List Int)).bind fun y166 => (if x3.length + y166.length < 140737488355328 then (spec_l05Bytes.l0 k x0 (x3 ++ y166) (wrap64 (x4 + 1))) else (none))) else (none)) else (some (strOfNums x3))
def spec_l05Bytes.f (k : Nat) (l0 : List Int) : Option (ByteArray) := spec_l05Bytes.l0 k l0 (([] : List Int)) 0
theorem spec_l05Bytes.mono_l : ∀ k, (∀ y0 y1 y2, LeO (spec_l05Bytes.l0 k y0 y1 y2) (spec_l05Bytes.l0 (k + 1) y0 y1 y2))
 | 0 => fun _ _ _ r h => by simp [spec_l05Bytes.l0] at h
 | k + 1 => by
  have ih0 := spec_l05Bytes.mono_l k
  intros; unfold spec_l05Bytes.l0; exact o1_ ih0
theorem spec_l05Bytes.mono : ∀ a0 k, LeO (spec_l05Bytes.f k a0) (spec_l05Bytes.f (k + 1) a0) := by
 intro a0 k
 have ih0 := spec_l05Bytes.mono_l k
 unfold spec_l05Bytes.f
 exact o1_ ih0
theorem spec_l05Bytes.calls (k : Nat) (A0 : Option Addr) (c0 : Nat) (l0 : List Int) (r : ByteArray) (w : World) (hr0 : Kd.C (Kd.int .u32) w A0 l0.length l0) (hc0 : l0.length ≤ c0) (h : spec_l05Bytes.f k l0 = some r) :
  Calls Tryd.prog 48 #[.slice A0 l0.length c0] w fun e w' => e = .returned (.string r) ∧ Below w.heap.size w w' := by
 have HR0 := Aside0.mk hr0
 have HC0 := Aside0.mk hc0
 clear hr0 hc0
 have HB := Aside0.mk (Below.refl w.heap.size w)
 delta spec_l05Bytes.f at h
 have H := h
 clear h
 obtain ⟨y162, hy162⟩ : ∃ y_ : List Int, y_ = (([] : List Int)) := ⟨_, rfl⟩
 first | replace H := yb_ hy162 H | rw [← hy162] at H
 have Ny162 := Aside0.mk hy162
 clear hy162
 have H' := Aside0.mk H
 clear H
 go_enter Tryd.func48, Tryd.ntmps48
 go_wp2_with (first | ((with_reducible refine gate_dst (N := 6) rfl ?_); refine Kd.R_lit (Kd.int .u8) _ 5 ?hg (N := 6) ?hd (xs := ([] : List Int)) (inner := []) (ok := fun _ => True) (okp := fun _ => True) ?hr ?hp (fun _ hk => hk) trivial (Below.refl _ _) (Nat.le_refl _) (by simp) ?_; (case hd => rfl); (case hg => rfl); (case hr => first | (go_simp; done) | (go_simp; rfl)); (case hp => exact (Reps.none _ _)); intro v163 w2 ho3 hb hg_ hnew_; clear hg_ hnew_; (first | rw [← Ny162.out] at ho3 | (simp only [Int.reduceToNat] at ho3; rw [← Ny162.out] at ho3)); have n_ := b_ (Kd.R_lower ho3 (below_size (hB_))) <| c_ (below_step (hB_) hb); clear HB; obtain ⟨HO164, HB⟩ := n_; clear hb ho3))
 go_loopg [3, 4] k (fun kq v3 v4 w' => ∃ (x3_1 : List Int) (x4_1 : Int), v4 = .int .i64 x4_1 ∧ Aside0 (spec_l05Bytes.l0 kq l0 x3_1 x4_1 = some r) ∧ Aside0 (kq ≤ k) ∧ Aside0 (Kd.R (Kd.int .u8) 5 w' w.heap.size (fun _ => True) v3 x3_1) ∧ Aside0 (Below w.heap.size w w'))
 case atStart => exact ⟨(y162), (0), f0_, H', ⟨Nat.le_refl _⟩, ⟨rR_ HO164.out⟩, ⟨hB_⟩⟩
 case round =>
  clear H'
  obtain ⟨x3_1, x4_1, rfl, HA, HK1, HO_3, HB⟩ := hrel
  cases gk with
  | zero => exact absurd HA.out (by simp [spec_l05Bytes.l0])
  | succ k1 =>
   have H := HA.out
   clear HA
   simp only [spec_l05Bytes.l0] at H
   by_cases c4 : x4_1 < (l0.length : Int)
   rotate_left
   ·rw [if_neg c4] at H
    have c4b0 := decide_eq_false c4
    clear c4
    obtain rfl := Option.some.inj H
    have hcv11 := own_string (P := Tryd.prog) Tryd.underlying62 Tryd.underlying5 Tryd.underlying9 (Kd.own_of_R HO_3.out)
    go_wp2
    go_ret
    exact ⟨f1_, hB_⟩
   rw [if_pos c4] at H
   have c4b0 := decide_eq_true c4
   clear c4
   obtain ⟨c5b0, H⟩ := iD_ H
   obtain ⟨y166, hy166⟩ : ∃ y_ : List Int, y_ = (([((Int.tdiv (rd l0 x4_1) 16777216) % 4294967296) % 256, ((Int.tdiv (rd l0 x4_1) 65536) % 4294967296) % 256, ((Int.tdiv (rd l0 x4_1) 256) % 4294967296) % 256, (Int.tmod (rd l0 x4_1) 256) % 256] : List Int)) := ⟨_, rfl⟩
   first | replace H := yb_ hy166 H | rw [← hy166] at H
   have Ny166 := Aside0.mk hy166
   clear hy166
   obtain ⟨c6, H⟩ := iN_ H
   have LMc6 := Aside0.mk c6
   clear c6
   obtain ⟨y169, hy169⟩ : ∃ y_ : List Int, y_ = (x3_1 ++ y166) := ⟨_, rfl⟩
   first | replace H := yb_ hy169 H | rw [← hy169] at H
   have Ny169 := Aside0.mk hy169
   clear hy169
   have H' := Aside0.mk H
   clear H
   have p165 : 0 ≤ (x4_1 : Int) := oD_
   have q165 : x4_1 < (l0.length : Int) := oD_
   obtain ⟨ad165, e165, hx165_0⟩ := Kd.at_int HR0.out x4_1 p165 q165
   cases e165
   replace hx165_0 := (HB.out.cell (World.block_lt_of_cell? w _ hx165_0)).trans hx165_0
   replace p165 := eq_true p165
   replace q165 := eq_true q165
   go_wp2_with (first | ((with_reducible refine gate_dst (N := 32) rfl ?_); refine Kd.R_lit (Kd.int .u8) _ 5 ?hg (N := 32) ?hd (xs := ([((Int.tdiv (rd l0 x4_1) 16777216) % 4294967296) % 256, ((Int.tdiv (rd l0 x4_1) 65536) % 4294967296) % 256, ((Int.tdiv (rd l0 x4_1) 256) % 4294967296) % 256, (Int.tmod (rd l0 x4_1) 256) % 256] : List Int)) (inner := [.int .u8 (((Int.tdiv (rd l0 x4_1) 16777216) % 4294967296) % 256), .int .u8 (((Int.tdiv (rd l0 x4_1) 65536) % 4294967296) % 256), .int .u8 (((Int.tdiv (rd l0 x4_1) 256) % 4294967296) % 256), .int .u8 ((Int.tmod (rd l0 x4_1) 256) % 256)]) (ok := fun _ => True) (okp := fun _ => True) ?hr ?hp (fun _ hk => hk) trivial (Below.refl _ _) (Nat.le_refl _) (by simp) ?_; (case hd => rfl); (case hg => rfl); (case hr => first | (go_simp; done) | (go_simp; rfl)); (case hp => exact (Reps.one (show Kd.M (Kd.int .u8) _ _ _ (((Int.tdiv (rd l0 x4_1) 16777216) % 4294967296) % 256) [.int .u8 (((Int.tdiv (rd l0 x4_1) 16777216) % 4294967296) % 256)] from rfl) (Reps.one (show Kd.M (Kd.int .u8) _ _ _ (((Int.tdiv (rd l0 x4_1) 65536) % 4294967296) % 256) [.int .u8 (((Int.tdiv (rd l0 x4_1) 65536) % 4294967296) % 256)] from rfl) (Reps.one (show Kd.M (Kd.int .u8) _ _ _ (((Int.tdiv (rd l0 x4_1) 256) % 4294967296) % 256) [.int .u8 (((Int.tdiv (rd l0 x4_1) 256) % 4294967296) % 256)] from rfl) (Reps.one (show Kd.M (Kd.int .u8) _ _ _ ((Int.tmod (rd l0 x4_1) 256) % 256) [.int .u8 ((Int.tmod (rd l0 x4_1) 256) % 256)] from rfl) (Reps.none _ _)))))); intro v167 w7 ho8 hb hg_ hnew_; clear hg_ hnew_; (first | rw [← Ny166.out] at ho8 | (simp only [Int.reduceToNat] at ho8; rw [← Ny166.out] at ho8)); have n_ := b_ (Kd.R_elder' (rR_ HO_3.out) (Kd.R_base ho8) hb) <| b_ (Kd.R_lower (Kd.R_new' ho8 (Kd.R_lt (rR_ HO_3.out))) (below_size (hB_))) <| c_ (below_step (hB_) hb); clear HO_3 HB; obtain ⟨HO_3, HO168, HB⟩ := n_; clear hb ho8; obtain ⟨Ao10, co10, eo10⟩ := Kd.R_slice HO168.out; subst eo10) | ((with_reducible refine gate_builtin (b := .append) (xs := #[.tmp 17, .tmp 32]) rfl ?_); at_builtin; refine Kd.R_append_rows (Kd.int .u8) (w0 := w) w.heap.size rfl (.tmp 17) (.tmp 32) 62 5 (.int .u8 0) 1 rfl Tryd.underlying62 info5 rfl (by decide) (by omega) u3 x3_1 y166 _ _ _ (fun k_ => some k_ ≠ (.slice Ao10 y166.length co10 : Value).ownBlock) (fun _ => False) rfl rfl ?aO ?aR (fun _ _ h => h) (fun _ h => h.elim) ?aF ?aB ?aS ?aL ?_; (case aR => exact cR_ (Kd.R_reads' HO168.out).2.2); (case aB => exact (hB_)); (case aF => exact (fun k_ hk => Kd.fresh' (Kd.R_lt (rR_ HO168.out)) k_ hk)); (case aO => exact (by refine kR_ ?_; exact Kd.R_mono HO_3.out (fun _ hk => hk.2))); (case aS => exact (below_size (hB_))); (case aL => have := LMc6.out; omega); intro v170 w9 ho hb hg hat; rw [← Ny169.out] at ho; have n_ := b_ (Kd.R_after (ok := (fun _ => True)) (rR_ HO168.out) hg hat) <| b_ (hb) <| c_ (ho); clear HO_3 HO168 HB; obtain ⟨HO168, HB, HO171⟩ := n_; clear ho hb hg hat))
   go_roundg k1
   case measure => have := HK1.out; omega
   case rel => exact ⟨(y169), (wrap64 (x4_1 + 1)), f0_, H', ⟨by have := HK1.out; omega⟩, ⟨by refine kR_ ?_; exact Kd.R_mono HO171.out (fun _ hk => trivial)⟩, ⟨hB_⟩⟩

-- GIVEN: function 21 (spec_HashEnd)

/-! ### spec_HashMore: function 22 -/
mutual
def spec_HashMore.j0 : Nat → ByteArray → Bool → ByteArray → ByteArray → Int → Option (ByteArray × ByteArray × Int)
 | 0, _, _, _, _, _ => none
 | k + 1, x1, x19, x173000, x173001, x173002 => if x19 = true then (some (x173000, x173001, x173002)) else ((spec_l05Words.f k x173000).bind fun t175 => ((spec_l05K.f).bind fun t178 => (if x173001.size + x1.size ≤ 9223372036854775807 then (spec_HashMore.l0 k x1 t175 t178 (x173001 ++ x1) 0 x173000 x173001 x173002) else (none))))
def spec_HashMore.l0 : Nat → ByteArray → List Int → List Int → ByteArray → Int → ByteArray → ByteArray → Int → Option (ByteArray × ByteArray × Int)
 | 0, _, _, _, _, _, _, _, _ => none
 | k + 1, x1, x5, x6, x7, x8, x173000, x173001, x173002 => if (wrap64 (x8 + 64)) ≤ (x7.size : Int) then (if 0 ≤ x8 then (if x8 ≤ (wrap64 (x8 + 64)) then ((spec_l05Round.f k x5 x6 (x7.extract (x8 : Int).toNat ((wrap64 (x8 + 64)) : Int).toNat)).bind fun t181 => (spec_HashMore.l0 k x1 t181 x6 x7 (wrap64 (x8 + 64)) x173000 x173001 x173002)) else (none)) else (none)) else ((spec_l05Bytes.f k x5).bind fun t184 => (if 0 ≤ x8 then (if x8 ≤ (x7.size : Int) then (some (t184, x7.extract (x8 : Int).toNat x7.size, wrap64 (x173002 + (x1.size : Int)))) else (none)) else (none)))
end
def spec_HashMore.f (k : Nat) (a0_0 : ByteArray) (a0_1 : ByteArray) (a0_2 : Int) (a1 : ByteArray) : Option (ByteArray × ByteArray × Int) := (spec_HasherOk.f a0_0 a0_1 a0_2).bind fun t174 => (if t174 = true then (spec_HashMore.j0 k a1 (decide ((wrap64 (a0_2 + (a1.size : Int))) > 1000000000)) a0_0 a0_1 a0_2) else (spec_HashMore.j0 k a1 true a0_0 a0_1 a0_2))
theorem spec_HashMore.mono_l : ∀ k, (∀ y0 y1 y2 y3 y4, LeO (spec_HashMore.j0 k y0 y1 y2 y3 y4) (spec_HashMore.j0 (k + 1) y0 y1 y2 y3 y4)) ∧ (∀ y0 y1 y2 y3 y4 y5 y6 y7, LeO (spec_HashMore.l0 k y0 y1 y2 y3 y4 y5 y6 y7) (spec_HashMore.l0 (k + 1) y0 y1 y2 y3 y4 y5 y6 y7))
 | 0 => ⟨fun _ _ _ _ _ r h => by simp [spec_HashMore.j0] at h, fun _ _ _ _ _ _ _ _ r h => by simp [spec_HashMore.l0] at h⟩
 | k + 1 => by
  obtain ⟨ih0, ih1⟩ := spec_HashMore.mono_l k
  refine ⟨?_, ?_⟩ <;> (intros; (first | unfold spec_HashMore.j0 | unfold spec_HashMore.l0); exact o5_ ih0 ih1 spec_l05Bytes.mono spec_l05Round.mono spec_l05Words.mono)
theorem spec_HashMore.mono : ∀ a0 a1 a2 a3 k, LeO (spec_HashMore.f k a0 a1 a2 a3) (spec_HashMore.f (k + 1) a0 a1 a2 a3) := by
 intro a0 a1 a2 a3 k
 obtain ⟨ih0, ih1⟩ := spec_HashMore.mono_l k
 unfold spec_HashMore.f
 exact o5_ ih0 ih1 spec_l05Bytes.mono spec_l05Round.mono spec_l05Words.mono
def spec_HashMore.T10 : Bool × List (List Nat × List Nat) := (true, [([], []), ([0], [0]), ([], []), ([], []), ([2, 3], [2, 3]), ([], []), ([5], [5]), ([], []), ([7], [7]), ([6, 8], [6, 8]), ([1, 4, 9], [1, 4, 9]), ([10, 1, 0, 1, 2, 3, 4, 5, 6, 7, 8, 9, 10], [10])])
def spec_HashMore.B10 : List Nat := [0, 1, 0, 0, 12, 0, 32, 0, 128, 480, 1023, 2047]
theorem spec_HashMore.tab10 : rtab .any (opsOf Tryd.f22 10) = spec_HashMore.T10 := by kernel_rfl
theorem spec_HashMore.bits10 : waitsOk spec_HashMore.T10.2 spec_HashMore.B10 = true := by kernel_rfl
theorem spec_HashMore.calls (k : Nat) (a0_0 : ByteArray) (a0_1 : ByteArray) (a0_2 : Int) (a1 : ByteArray) (r1 : ByteArray) (r2 : ByteArray) (r3 : Int) (w : World) (h : spec_HashMore.f k a0_0 a0_1 a0_2 a1 = some (r1, r2, r3)) :
  Calls Tryd.prog 22 #[.agg #[.string a0_0, .string a0_1, .int .i64 a0_2], .string a1] w fun e w' => e = .returned (.agg #[.string r1, .string r2, .int .i64 r3]) ∧ Below w.heap.size w w' := by
 have hu42 := Tryd.underlying42
 have HB := Aside0.mk (Below.refl w.heap.size w)
 delta spec_HashMore.f at h
 have H := h
 clear h
 have HC3 := Aside0.mk H
 clear H
 go_enter Tryd.func22, Tryd.ntmps22
 go_upto_region 1 with (first | ((with_reducible refine gate_dst (N := 2) rfl ?_); (try (refine gate_guard (by rfl) ?_; dsimp only)); refine box_event ?hg (N := 2) ?hd (cs := #[.string a0_0, .string a0_1, .int .i64 a0_2]) (t := 42) ?hr ?_; (case hd => rfl); (case hg => rfl); (case hr => first | (go_simp; done) | (go_simp; rfl)); intro gb172 hg w4 hbox hb; have n_ := b_ (below_step (hB_) hb) <| b_ (hbox) <| b_ (by rw [hg]; exact (below_size (hB_)) : w.heap.size ≤ gb172) <| c_ (by rw [hg]; exact (below_size (hB_)) : w.heap.size ≤ gb172); clear HB; obtain ⟨HB, BK172, GW172, GE172⟩ := n_; clear hb hbox hg) | ((with_reducible refine gate_dst (N := 4) rfl ?_); (try (refine gate_guard (by rfl) ?_; dsimp only)); refine box_event ?hg (N := 4) ?hd (cs := #[.string (⟨#[]⟩ : ByteArray), .string (⟨#[]⟩ : ByteArray), .int .i64 0]) (t := 42) ?hr ?_; (case hd => rfl); (case hg => rfl); (case hr => first | (go_simp; done) | (go_simp; rfl)); intro gb173 hg w5 hbox hb; have n_ := b_ (blk_below (g := gb172) (o := .cells #[.string a0_0, .string a0_1, .int .i64 a0_2] 42 (0, 0)) (rK_ BK172.out) hb) <| b_ (below_step (hS_ GE172.out) hb) <| b_ (hbox) <| b_ (by rw [hg]; exact (below_size (hS_ GE172.out)) : w.heap.size ≤ gb173) <| b_ (by rw [hg]; exact (below_size (hS_ GE172.out)) : w.heap.size ≤ gb173) <| b_ (by rw [hg]; exact Nat.ne_of_lt (blk_lt (g := gb172) (o := .cells #[.string a0_0, .string a0_1, .int .i64 a0_2] 42 (0, 0)) (rK_ BK172.out)) : gb172 ≠ gb173) <| c_ (by rw [hg]; exact Nat.ne_of_gt (blk_lt (g := gb172) (o := .cells #[.string a0_0, .string a0_1, .int .i64 a0_2] 42 (0, 0)) (rK_ BK172.out)) : gb173 ≠ gb172); clear BK172 HB; obtain ⟨BK172, HB, BK173, GW173, GE173, NB172_173, NB173_172⟩ := n_; clear hb hbox hg))
 (try simp only [Act.put, List.setIfInBounds_toArray, List.set_cons_zero, List.set_cons_succ])
 go_cut [19] (fun v19 wc => ∃ (kq : Nat) (x19_2 : Bool), v19 = .bool x19_2 ∧ Aside0 (spec_HashMore.j0 kq a1 x19_2 a0_0 a0_1 a0_2 = some (r1, r2, r3)) ∧ Aside0 (kq ≤ k) ∧ Aside0 (wc.heap[gb172]? = some (.cells #[.string a0_0, .string a0_1, .int .i64 a0_2] 42 (0, 0))) ∧ Aside0 (wc.heap[gb173]? = some (.cells #[.string (⟨#[]⟩ : ByteArray), .string (⟨#[]⟩ : ByteArray), .int .i64 0] 42 (0, 0))) ∧ Aside0 (Below w.heap.size w wc))
 case first =>
  have H := HC3.out
  clear HC3
  obtain ⟨t174, A6, H⟩ := bN_ H
  by_cases c7 : t174 = true
  ·subst c7
   replace H := iT_ H
   have H' := Aside0.mk H
   clear H
   have hnb8 := NB172_173.out
   have hnc8 := NB173_172.out
   have hcz9_0 : w5.cell? ⟨gb172, 0, none⟩ = some (.string a0_0) := (blk_cell BK172.out 0).trans rfl
   have hcz9_1 : w5.cell? ⟨gb172, 1, none⟩ = some (.string a0_1) := (blk_cell BK172.out 1).trans rfl
   have hcz9_2 : w5.cell? ⟨gb172, 2, none⟩ = some (.int .i64 a0_2) := (blk_cell BK172.out 2).trans rfl
   have hfz9_0 := blk_frozen BK172.out 0
   have hfz9_1 := blk_frozen BK172.out 1
   have hfz9_2 := blk_frozen BK172.out 2
   go_wp2_with (first | ((with_reducible refine gate_callee (f := 44) rfl ?_); refine goesL_ (some 10) rfl rfl Tryd.func44 (by kernel_rfl) rfl #[.agg #[.string a0_0, .string a0_1, .int .i64 a0_2]] rfl aM_ ?_; (with_reducible refine (spec_HasherOk.calls a0_0 a0_1 a0_2 true _ A6.out).mono ?_); rintro e w10 ⟨rfl, hb⟩; refine ⟨_, rfl, ?_⟩; have n_ := b_ (blk_below (g := gb172) (o := .cells #[.string a0_0, .string a0_1, .int .i64 a0_2] 42 (0, 0)) (rK_ BK172.out) hb) <| b_ (blk_below (g := gb173) (o := .cells #[.string (⟨#[]⟩ : ByteArray), .string (⟨#[]⟩ : ByteArray), .int .i64 0] 42 (0, 0)) (rK_ BK173.out) hb) <| c_ (below_step ((u0_ GE172.out GE173.out)) hb); clear BK172 BK173 HB; obtain ⟨BK172, BK173, HB⟩ := n_; have hcz11_0 : w10.cell? ⟨gb172, 0, none⟩ = some (.string a0_0) := (blk_cell BK172.out 0).trans rfl; have hcz11_1 : w10.cell? ⟨gb172, 1, none⟩ = some (.string a0_1) := (blk_cell BK172.out 1).trans rfl; have hcz11_2 : w10.cell? ⟨gb172, 2, none⟩ = some (.int .i64 a0_2) := (blk_cell BK172.out 2).trans rfl; have hfz11_0 := blk_frozen BK172.out 0; have hfz11_1 := blk_frozen BK172.out 1; have hfz11_2 := blk_frozen BK172.out 2))
   go_meet
   case rel => exact ⟨_, (decide ((wrap64 (a0_2 + (a1.size : Int))) > 1000000000)), f0_, H', ⟨by first | omega | exact Nat.le_refl _⟩, ⟨by refine kK_ ?_; exact BK172.out⟩, ⟨by refine kK_ ?_; exact BK173.out⟩, ⟨(u0_ GE172.out GE173.out)⟩⟩
  ·replace c7 := Bool.eq_false_iff.mpr c7
   subst c7
   replace H := iF_ H
   have H' := Aside0.mk H
   clear H
   have hnb12 := NB172_173.out
   have hnc12 := NB173_172.out
   have hcz13_0 : w5.cell? ⟨gb172, 0, none⟩ = some (.string a0_0) := (blk_cell BK172.out 0).trans rfl
   have hcz13_1 : w5.cell? ⟨gb172, 1, none⟩ = some (.string a0_1) := (blk_cell BK172.out 1).trans rfl
   have hcz13_2 : w5.cell? ⟨gb172, 2, none⟩ = some (.int .i64 a0_2) := (blk_cell BK172.out 2).trans rfl
   have hfz13_0 := blk_frozen BK172.out 0
   have hfz13_1 := blk_frozen BK172.out 1
   have hfz13_2 := blk_frozen BK172.out 2
   go_wp2_with (first | ((with_reducible refine gate_callee (f := 44) rfl ?_); refine goesL_ (some 10) rfl rfl Tryd.func44 (by kernel_rfl) rfl #[.agg #[.string a0_0, .string a0_1, .int .i64 a0_2]] rfl aM_ ?_; (with_reducible refine (spec_HasherOk.calls a0_0 a0_1 a0_2 false _ A6.out).mono ?_); rintro e w14 ⟨rfl, hb⟩; refine ⟨_, rfl, ?_⟩; have n_ := b_ (blk_below (g := gb172) (o := .cells #[.string a0_0, .string a0_1, .int .i64 a0_2] 42 (0, 0)) (rK_ BK172.out) hb) <| b_ (blk_below (g := gb173) (o := .cells #[.string (⟨#[]⟩ : ByteArray), .string (⟨#[]⟩ : ByteArray), .int .i64 0] 42 (0, 0)) (rK_ BK173.out) hb) <| c_ (below_step ((u0_ GE172.out GE173.out)) hb); clear BK172 BK173 HB; obtain ⟨BK172, BK173, HB⟩ := n_; (try clear hb)))
   go_meet
   case rel => exact ⟨_, (true), f0_, H', ⟨by first | omega | exact Nat.le_refl _⟩, ⟨by refine kK_ ?_; exact BK172.out⟩, ⟨by refine kK_ ?_; exact BK173.out⟩, ⟨(u0_ GE172.out GE173.out)⟩⟩
 case rest =>
  clear HC3
  obtain ⟨kq, x19_2, rfl, HA, HJ2, BK172, BK173, HB⟩ := hcut
  cases kq with
  | zero => exact absurd HA.out (by simp [spec_HashMore.j0])
  | succ kj2 =>
   have H := HA.out
   clear HA
   simp only [spec_HashMore.j0] at H
   by_cases c15 : x19_2 = true
   ·subst c15
    replace H := iT_ H
    simp only [Option.some.injEq, Prod.mk.injEq] at H
    obtain ⟨rfl, rfl, rfl⟩ := H
    have hnb16 := NB172_173.out
    have hnc16 := NB173_172.out
    have hcz17_0 : wc.cell? ⟨gb172, 0, none⟩ = some (.string a0_0) := (blk_cell BK172.out 0).trans rfl
    have hcz17_1 : wc.cell? ⟨gb172, 1, none⟩ = some (.string a0_1) := (blk_cell BK172.out 1).trans rfl
    have hcz17_2 : wc.cell? ⟨gb172, 2, none⟩ = some (.int .i64 a0_2) := (blk_cell BK172.out 2).trans rfl
    have hfz17_0 := blk_frozen BK172.out 0
    have hfz17_1 := blk_frozen BK172.out 1
    have hfz17_2 := blk_frozen BK172.out 2
    have hcz18_0 : wc.cell? ⟨gb173, 0, none⟩ = some (.string (⟨#[]⟩ : ByteArray)) := (blk_cell BK173.out 0).trans rfl
    have hcz18_1 : wc.cell? ⟨gb173, 1, none⟩ = some (.string (⟨#[]⟩ : ByteArray)) := (blk_cell BK173.out 1).trans rfl
    have hcz18_2 : wc.cell? ⟨gb173, 2, none⟩ = some (.int .i64 0) := (blk_cell BK173.out 2).trans rfl
    have hfz18_0 := blk_frozen BK173.out 0
    have hfz18_1 := blk_frozen BK173.out 1
    have hfz18_2 := blk_frozen BK173.out 2
    go_wp2
    refine bodyPost_ret (results_cell_row rfl _ _ gb173 42 #[.string a0_0, .string a0_1, .int .i64 a0_2] (0, 0) _ rfl (by refine kK_ ?_; refine blk_put (cs := #[.string a0_0, .string a0_1, .int .i64 0]) ?_ 2 _ rfl; refine kK_ ?_; refine blk_put (cs := #[.string a0_0, .string (⟨#[]⟩ : ByteArray), .int .i64 0]) ?_ 1 _ rfl; refine kK_ ?_; refine blk_put (cs := #[.string (⟨#[]⟩ : ByteArray), .string (⟨#[]⟩ : ByteArray), .int .i64 0]) ?_ 0 _ rfl; exact rK_ BK173.out) Tryd.underlying42 rfl (by kernel_rfl)) rfl ?_
    exact ⟨f1_, (u0_ GE172.out GE173.out)⟩
   ·replace c15 := Bool.eq_false_iff.mpr c15
    subst c15
    replace H := iF_ H
    obtain ⟨t175, A19, H⟩ := bN_ H
    obtain ⟨t178, A20, H⟩ := bN_ H
    obtain ⟨c21, H⟩ := iN_ H
    have c21b0 := eq_true c21
    have c21b1 := decide_eq_true c21
    try have c21b2 : (9223372036854775807 < a0_1.size + a1.size) = False := eq_false (Nat.not_lt.2 c21)
    obtain ⟨bf_, hbf_⟩ : ∃ y_ : ByteArray, y_ = a0_1 ++ a1 := ⟨_, rfl⟩
    rw [← hbf_] at H
    have HBF_ := Aside0.mk hbf_
    clear hbf_
    have H' := Aside0.mk H
    clear H
    have hnb22 := NB172_173.out
    have hnc22 := NB173_172.out
    have hcz23_0 : wc.cell? ⟨gb172, 0, none⟩ = some (.string a0_0) := (blk_cell BK172.out 0).trans rfl
    have hcz23_1 : wc.cell? ⟨gb172, 1, none⟩ = some (.string a0_1) := (blk_cell BK172.out 1).trans rfl
    have hcz23_2 : wc.cell? ⟨gb172, 2, none⟩ = some (.int .i64 a0_2) := (blk_cell BK172.out 2).trans rfl
    have hfz23_0 := blk_frozen BK172.out 0
    have hfz23_1 := blk_frozen BK172.out 1
    have hfz23_2 := blk_frozen BK172.out 2
    go_wp2_with (first | ((with_reducible refine gate_callee (f := 45) rfl ?_); refine goesL_ (some 23) rfl rfl Tryd.func45 (by kernel_rfl) rfl #[.string a0_0] rfl aM_ ?_; (with_reducible refine (spec_l05Words.calls kj2 a0_0 t175 _ A19.out).mono ?_); rintro e w24 ⟨v176, rfl, ho0, hb⟩; refine ⟨_, rfl, ?_⟩; have n_ := b_ (Kd.R_lower ho0 (below_size ((u0_ GE172.out GE173.out)))) <| b_ (blk_below (g := gb172) (o := .cells #[.string a0_0, .string a0_1, .int .i64 a0_2] 42 (0, 0)) (rK_ BK172.out) hb) <| b_ (blk_below (g := gb173) (o := .cells #[.string (⟨#[]⟩ : ByteArray), .string (⟨#[]⟩ : ByteArray), .int .i64 0] 42 (0, 0)) (rK_ BK173.out) hb) <| c_ (below_step ((u0_ GE172.out GE173.out)) hb); clear BK172 BK173 HB; obtain ⟨HO177, BK172, BK173, HB⟩ := n_; (try clear ho0)) | ((with_reducible refine gate_callee (f := 46) rfl ?_); refine goesL_ (some 24) rfl rfl Tryd.func46 (by kernel_rfl) rfl #[] rfl aM_ ?_; (with_reducible refine (spec_l05K.calls  t178 _ A20.out).mono ?_); rintro e w25 ⟨v179, rfl, ho0, hb⟩; refine ⟨_, rfl, ?_⟩; have n_ := b_ (Kd.R_elder' (rR_ HO177.out) (Kd.R_base ho0) hb) <| b_ (Kd.R_lower (Kd.R_new' ho0 (Kd.R_lt (rR_ HO177.out))) (below_size ((u0_ GE172.out GE173.out)))) <| b_ (blk_below (g := gb172) (o := .cells #[.string a0_0, .string a0_1, .int .i64 a0_2] 42 (0, 0)) (rK_ BK172.out) hb) <| b_ (blk_below (g := gb173) (o := .cells #[.string (⟨#[]⟩ : ByteArray), .string (⟨#[]⟩ : ByteArray), .int .i64 0] 42 (0, 0)) (rK_ BK173.out) hb) <| c_ (below_step ((u0_ GE172.out GE173.out)) hb); clear HO177 BK172 BK173 HB; obtain ⟨HO177, HO180, BK172, BK173, HB⟩ := n_; have hcz26_0 : w25.cell? ⟨gb172, 0, none⟩ = some (.string a0_0) := (blk_cell BK172.out 0).trans rfl; have hcz26_1 : w25.cell? ⟨gb172, 1, none⟩ = some (.string a0_1) := (blk_cell BK172.out 1).trans rfl; have hcz26_2 : w25.cell? ⟨gb172, 2, none⟩ = some (.int .i64 a0_2) := (blk_cell BK172.out 2).trans rfl; have hfz26_0 := blk_frozen BK172.out 0; have hfz26_1 := blk_frozen BK172.out 1; have hfz26_2 := blk_frozen BK172.out 2))
    rw [← HBF_.out]
    go_loopg [5, 8] kj2 (fun kq v5 v8 w' => ∃ (x5_2 : List Int) (x8_2 : Int), v8 = .int .i64 x8_2 ∧ Aside0 (spec_HashMore.l0 kq a1 x5_2 t178 bf_ x8_2 a0_0 a0_1 a0_2 = some (r1, r2, r3)) ∧ Aside0 (kq ≤ kj2) ∧ Aside0 (Kd.R (Kd.int .u32) 53 w' w.heap.size (fun k_ => some k_ ≠ (v179 : Value).ownBlock) v5 x5_2) ∧ Aside0 (Kd.R (Kd.int .u32) 53 w' w.heap.size (fun k_ => some k_ ≠ (v5 : Value).ownBlock) v179 t178) ∧ Aside0 (w'.heap[gb172]? = some (.cells #[.string a0_0, .string a0_1, .int .i64 a0_2] 42 (0, 0))) ∧ Aside0 (w'.heap[gb173]? = some (.cells #[.string (⟨#[]⟩ : ByteArray), .string (⟨#[]⟩ : ByteArray), .int .i64 0] 42 (0, 0))) ∧ Aside0 (Below w.heap.size w w'))
    case atStart => exact ⟨(t175), (0), f0_, H', ⟨Nat.le_refl _⟩, ⟨by refine kR_ ?_; exact Kd.R_mono HO177.out (fun _ hk => hk.2)⟩, ⟨by refine kR_ ?_; exact Kd.R_mono HO180.out (fun _ hk => hk.2)⟩, ⟨by refine kK_ ?_; exact BK172.out⟩, ⟨by refine kK_ ?_; exact BK173.out⟩, ⟨(u0_ GE172.out GE173.out)⟩⟩
    case round =>
     clear H'
     obtain ⟨x5_2, x8_2, rfl, HA, HK2, HO_5, HO_6, BK172, BK173, HB⟩ := hrel
     cases gk with
     | zero => exact absurd HA.out (by simp [spec_HashMore.l0])
     | succ k2 =>
      have H := HA.out
      clear HA
      simp only [spec_HashMore.l0] at H
      by_cases c27 : (wrap64 (x8_2 + 64)) ≤ (bf_.size : Int)
      ·rw [if_pos c27] at H
       have c27b0 := decide_eq_true c27
       clear c27
       obtain ⟨c28, H⟩ := iN_ H
       have c28b0 := eq_true c28
       have c28b1 := decide_eq_true c28
       clear c28
       obtain ⟨c29, H⟩ := iN_ H
       have c29b0 := eq_true c29
       have c29b1 := decide_eq_true c29
       have c30b0 := eq_true (oD_ : (wrap64 (x8_2 + 64)) ≤ (bf_.size : Int))
       obtain ⟨t181, A31, H⟩ := bN_ H
       have H' := Aside0.mk H
       clear H
       obtain ⟨Ao32, co32, eo32⟩ := Kd.R_slice HO_5.out
       subst eo32
       obtain ⟨Ao33, co33, eo33⟩ := Kd.R_slice HO_6.out
       subst eo33
       go_wp2_with (first | ((with_reducible refine gate_callee (f := 47) rfl ?_); refine goesL_ (some 41) rfl rfl Tryd.func47 (by kernel_rfl) rfl #[.slice Ao32 x5_2.length co32, .slice Ao33 t178.length co33, .string (bf_.extract (x8_2 : Int).toNat ((wrap64 (x8_2 + 64)) : Int).toNat)] rfl aM_ ?_; (with_reducible refine (spec_l05Round.calls k2 _ _ x5_2 _ _ t178 (bf_.extract (x8_2 : Int).toNat ((wrap64 (x8_2 + 64)) : Int).toNat) t181 _ ?side1 ?side2 ?side3 ?side4 A31.out).mono ?_); (case side1 => exact cR_ (Kd.R_reads' HO_5.out).2.2); (case side2 => exact (Kd.R_reads' HO_5.out).2.1); (case side3 => exact cR_ (Kd.R_reads' HO_6.out).2.2); (case side4 => exact (Kd.R_reads' HO_6.out).2.1); rintro e w34 ⟨v182, rfl, ho0, hb⟩; refine ⟨_, rfl, ?_⟩; have n_ := b_ (Kd.R_elder' (rR_ HO_5.out) (Kd.R_base ho0) hb) <| b_ (Kd.R_elder' (rR_ HO_6.out) (Kd.R_base ho0) hb) <| b_ (Kd.R_lower (Kd.R_new' (Kd.R_new' ho0 (Kd.R_lt (rR_ HO_5.out))) (Kd.R_lt (rR_ HO_6.out))) (below_size ((u0_ GE172.out GE173.out)))) <| b_ (blk_below (g := gb172) (o := .cells #[.string a0_0, .string a0_1, .int .i64 a0_2] 42 (0, 0)) (rK_ BK172.out) hb) <| b_ (blk_below (g := gb173) (o := .cells #[.string (⟨#[]⟩ : ByteArray), .string (⟨#[]⟩ : ByteArray), .int .i64 0] 42 (0, 0)) (rK_ BK173.out) hb) <| c_ (below_step ((u0_ GE172.out GE173.out)) hb); clear HO_5 HO_6 BK172 BK173 HB; obtain ⟨HO_5, HO_6, HO183, BK172, BK173, HB⟩ := n_; (try clear ho0)))
       go_roundg k2
       case measure => have := HJ2.out; have := HK2.out; omega
       case rel => exact ⟨(t181), (wrap64 (x8_2 + 64)), f0_, H', ⟨by have := HJ2.out; have := HK2.out; omega⟩, ⟨by refine kR_ ?_; exact Kd.R_mono HO183.out (fun _ hk => hk.2)⟩, ⟨by refine kR_ ?_; exact Kd.R_mono HO_6.out (fun _ hk => hk.2)⟩, ⟨by refine kK_ ?_; exact BK172.out⟩, ⟨by refine kK_ ?_; exact BK173.out⟩, ⟨(u0_ GE172.out GE173.out)⟩⟩
      rw [if_neg c27] at H
      have c27b0 := decide_eq_false c27
      clear c27
      obtain ⟨t184, A35, H⟩ := bN_ H
      obtain ⟨c36, H⟩ := iN_ H
      have c36b0 := eq_true c36
      have c36b1 := decide_eq_true c36
      clear c36
      obtain ⟨c37, H⟩ := iN_ H
      have c37b0 := eq_true c37
      have c37b1 := decide_eq_true c37
      simp only [Option.some.injEq, Prod.mk.injEq] at H
      obtain ⟨rfl, rfl, rfl⟩ := H
      try go_wp2
      have n_ := b_ (Kd.R_drew HO_5.out) <| b_ (Kd.R_drew HO_6.out) <| b_ (blk_drew BK172.out) <| b_ (blk_drew BK173.out) <| c_ (below_drew1 HB.out)
      clear HO_5 HO_6 BK172 BK173 HB
      obtain ⟨HO_5, HO_6, BK172, BK173, HB⟩ := n_
      obtain ⟨Ao39, co39, eo39⟩ := Kd.R_slice HO_5.out
      (first | subst eo39 | (injection eo39 with f1_ f2_ f3_; have f4_ := f1_.symm; have f5_ := f3_.symm; clear f1_ f2_ f3_; subst f4_; subst f5_))
      refine start_ (n := 12) (S := fun w' => w'.cell? ⟨gb172, 0, none⟩ = some (.string a0_0) ∧ w'.cell? ⟨gb172, 1, none⟩ = some (.string a0_1) ∧ w'.cell? ⟨gb172, 2, none⟩ = some (.int .i64 a0_2)) (ds := []) (bb_ 12 0) (by kernel_rfl) rfl rfl ⟨(blk_cell BK172.out 0).trans rfl, (blk_cell BK172.out 1).trans rfl, (blk_cell BK172.out 2).trans rfl⟩ (fun hHeld => ?_); refine with_tabW spec_HashMore.tab10 spec_HashMore.bits10 (fun HT_ HW_ => ?_)
      generalize wr.drew = w38 at HO_5 HO_6 BK172 BK173 HB hHeld ⊢
      refine pS_ 0 44 (bb_ 12 1) HT_.out ?_
      refine pS_ 2 46 (bb_ 12 5) HT_.out ?_
      refine pS_ 3 47 (bb_ 12 13) HT_.out ?_
      refine pS_ 4 48 (bb_ 12 29) HT_.out ?_
      refine pS_ 5 49 (bb_ 12 61) HT_.out ?_
      refine pS_ 7 51 (bb_ 12 189) HT_.out ?_
      refine pS_ 8 52 (bb_ 12 445) HT_.out ?_
      refine tS_ 6 50 (bb_ 12 509) (take_ofW HT_.out HW_.out (by kernel_rfl)) hHeld ?_
      refine pS_ 9 53 (bb_ 12 1021) HT_.out ?_
      refine one_ (i := 1) (N := some 45) (bb_ 12 1023) rfl rfl (one_of HT_.out (by kernel_rfl)) (by decide) (fun K hK => ?_)
      refine goes_ Tryd.func48 (by kernel_rfl) rfl #[.slice Ao39 x5_2.length co39] (by rfl) rfl rfl aM_ ?_
      with_reducible refine (spec_l05Bytes.calls k2 _ _ x5_2 t184 _ ?side1 ?side2 A35.out).mono ?_
      (case side1 => exact cR_ (Kd.R_reads' HO_5.out).2.2)
      (case side2 => exact (Kd.R_reads' HO_5.out).2.1)
      rintro e w40 ⟨rfl, hb⟩
      refine ⟨_, rfl, ?_⟩
      have n_ := b_ (Kd.R_below (rR_ HO_5.out) hb) <| b_ (Kd.R_below (rR_ HO_6.out) hb) <| b_ (blk_below (g := gb172) (o := .cells #[.string a0_0, .string a0_1, .int .i64 a0_2] 42 (0, 0)) (rK_ BK172.out) hb) <| b_ (blk_below (g := gb173) (o := .cells #[.string (⟨#[]⟩ : ByteArray), .string (⟨#[]⟩ : ByteArray), .int .i64 0] 42 (0, 0)) (rK_ BK173.out) hb) <| c_ (below_step ((u0_ GE172.out GE173.out)) hb)
      clear HO_5 HO_6 BK172 BK173 HB
      obtain ⟨HO_5, HO_6, BK172, BK173, HB⟩ := n_
      refine hK.out _ _ ⟨(blk_cell BK172.out 0).trans rfl, (blk_cell BK172.out 1).trans rfl, (blk_cell BK172.out 2).trans rfl⟩ (fun hHeld => ?_)
      clear hK K
      refine norm_ (a' := ?_) ?_ ?_
      rotate_left
      ·show Act.put _ (some 45) _ = _
       simp only [Act.put, List.setIfInBounds_toArray, List.set_cons_zero, List.set_cons_succ, i64_w, i32_w]
       rfl
      refine pS_ 10 54 (bb_ 12 2047) HT_.out ?_
      refine one_ (i := 11) (N := none) (bb_ 12 4095) rfl rfl (one_of HT_.out (by kernel_rfl)) (by decide) (fun K hK => ?_)
      have hs41 : w40.cell? ⟨gb173, 0, none⟩ = some (.string (⟨#[]⟩ : ByteArray)) := (blk_cell BK173.out 0).trans rfl
      have hfs41 := blk_frozen BK173.out 0
      have hns41_0 := NB172_173.out
      have hms41_0 := NB173_172.out
      have hs42 : w40.cell? ⟨gb173, 1, none⟩ = some (.string (⟨#[]⟩ : ByteArray)) := (blk_cell BK173.out 1).trans rfl
      have hfs42 := blk_frozen BK173.out 1
      have hns42_0 := NB172_173.out
      have hms42_0 := NB173_172.out
      have hs43 : w40.cell? ⟨gb173, 2, none⟩ = some (.int .i64 0) := (blk_cell BK173.out 2).trans rfl
      have hfs43 := blk_frozen BK173.out 2
      have hns43_0 := NB172_173.out
      have hms43_0 := NB173_172.out
      refine skip_ (w1 := ?_) (by rfl) rfl ?_ ?_
      rotate_left
      ·go_simp
       rfl
      refine hK.out _ _ ⟨((cell_far (p := ⟨gb173, _, none⟩) NB172_173.out _).trans (((cell_far (p := ⟨gb173, _, none⟩) NB172_173.out _).trans (((cell_far (p := ⟨gb173, _, none⟩) NB172_173.out _).trans (hHeld.1)))))), ((cell_far (p := ⟨gb173, _, none⟩) NB172_173.out _).trans (((cell_far (p := ⟨gb173, _, none⟩) NB172_173.out _).trans (((cell_far (p := ⟨gb173, _, none⟩) NB172_173.out _).trans (hHeld.2.1)))))), ((cell_far (p := ⟨gb173, _, none⟩) NB172_173.out _).trans (((cell_far (p := ⟨gb173, _, none⟩) NB172_173.out _).trans (((cell_far (p := ⟨gb173, _, none⟩) NB172_173.out _).trans (hHeld.2.2))))))⟩ (fun hHeld => ?_)
      clear hK K
      refine done_ (done_of HT_.out (by kernel_rfl)) ?_
      try go_wp2
      refine bodyPost_ret (results_cell_row rfl _ _ gb173 42 #[.string t184, .string (bf_.extract (x8_2 : Int).toNat bf_.size), .int .i64 (wrap64 (a0_2 + (a1.size : Int)))] (0, 0) _ rfl (by refine kK_ ?_; refine blk_put (cs := #[.string t184, .string (bf_.extract (x8_2 : Int).toNat bf_.size), .int .i64 0]) ?_ 2 _ rfl; refine kK_ ?_; refine blk_put (cs := #[.string t184, .string (⟨#[]⟩ : ByteArray), .int .i64 0]) ?_ 1 _ rfl; refine kK_ ?_; refine blk_put (cs := #[.string (⟨#[]⟩ : ByteArray), .string (⟨#[]⟩ : ByteArray), .int .i64 0]) ?_ 0 _ rfl; exact rK_ BK173.out) Tryd.underlying42 rfl (by kernel_rfl)) rfl ?_
      exact ⟨f1_, (u0_ GE172.out GE173.out)⟩

/-! ### spec_l05First: function 49 -/
def spec_l05First.f  : Option (List Int) := some (([1779033703, 3144134277, 1013904242, 2773480762, 1359893119, 2600822924, 528734635, 1541459225] : List Int))
theorem spec_l05First.calls  (r : List Int) (w : World) (h : spec_l05First.f  = some r) :
  Calls Tryd.prog 49 #[] w fun e w' => ∃ v0_ : Value, e = .returned (v0_) ∧ Kd.R (Kd.int .u32) 53 w' w.heap.size (fun _ => True) v0_ r ∧ Below w.heap.size w w' := by
 have HB := Aside0.mk (Below.refl w.heap.size w)
 delta spec_l05First.f at h
 have H := h
 clear h
 obtain ⟨y185, hy185⟩ : ∃ y_ : List Int, y_ = (([1779033703, 3144134277, 1013904242, 2773480762, 1359893119, 2600822924, 528734635, 1541459225] : List Int)) := ⟨_, rfl⟩
 first | replace H := yb_ hy185 H | rw [← hy185] at H
 have Ny185 := Aside0.mk hy185
 clear hy185
 obtain rfl := Option.some.inj H
 go_enter Tryd.func49, Tryd.ntmps49
 go_wp2_with (first | ((with_reducible refine gate_dst (N := 1) rfl ?_); refine Kd.R_lit (Kd.int .u32) _ 53 ?hg (N := 1) ?hd (xs := ([1779033703, 3144134277, 1013904242, 2773480762, 1359893119, 2600822924, 528734635, 1541459225] : List Int)) (inner := [.int .u32 1779033703, .int .u32 3144134277, .int .u32 1013904242, .int .u32 2773480762, .int .u32 1359893119, .int .u32 2600822924, .int .u32 528734635, .int .u32 1541459225]) (ok := fun _ => True) (okp := fun _ => True) ?hr ?hp (fun _ hk => hk) trivial (Below.refl _ _) (Nat.le_refl _) (by simp) ?_; (case hd => rfl); (case hg => rfl); (case hr => first | (go_simp; done) | (go_simp; rfl)); (case hp => exact (Reps.one (show Kd.M (Kd.int .u32) _ _ _ 1779033703 [.int .u32 1779033703] from rfl) (Reps.one (show Kd.M (Kd.int .u32) _ _ _ 3144134277 [.int .u32 3144134277] from rfl) (Reps.one (show Kd.M (Kd.int .u32) _ _ _ 1013904242 [.int .u32 1013904242] from rfl) (Reps.one (show Kd.M (Kd.int .u32) _ _ _ 2773480762 [.int .u32 2773480762] from rfl) (Reps.one (show Kd.M (Kd.int .u32) _ _ _ 1359893119 [.int .u32 1359893119] from rfl) (Reps.one (show Kd.M (Kd.int .u32) _ _ _ 2600822924 [.int .u32 2600822924] from rfl) (Reps.one (show Kd.M (Kd.int .u32) _ _ _ 528734635 [.int .u32 528734635] from rfl) (Reps.one (show Kd.M (Kd.int .u32) _ _ _ 1541459225 [.int .u32 1541459225] from rfl) (Reps.none _ _)))))))))); intro v186 w1 ho2 hb hg_ hnew_; clear hg_ hnew_; (first | rw [← Ny185.out] at ho2 | (simp only [Int.reduceToNat] at ho2; rw [← Ny185.out] at ho2)); have n_ := b_ (Kd.R_lower ho2 (below_size (hB_))) <| c_ (below_step (hB_) hb); clear HB; obtain ⟨HO187, HB⟩ := n_; clear hb ho2))
 go_ret
 exact ⟨_, f1_, rR_ HO187.out, hB_⟩

end Go.Proofs.YthdjmbbkenbeiaaDoor.P
