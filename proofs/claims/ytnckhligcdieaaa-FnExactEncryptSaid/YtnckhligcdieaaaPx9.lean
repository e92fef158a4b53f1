-- printed texts of this session, regrouped
import Derived.Test.YtnckhligcdieaaaMWC
import Derived.Test.YtnckhligcdieaaaMWA
import Derived.Test.YtnckhligcdieaaaMW7
import Derived.Test.YtnckhligcdieaaaMW8
import Derived.Test.YtnckhligcdieaaaMW6
import Derived.Test.YtnckhligcdieaaaPx0
import Derived.Test.YtnckhligcdieaaaPx5
import Derived.Test.YtnckhligcdieaaaPx8
namespace Go.Proofs.Ytnckhligcdieaaa.P
open Go.RowKit Go.Proofs.YtnckhligcdieaaaW.PrintWords Go.Proofs.YtnckhligcdieaaaW.PrintLast Go.Proofs.YtnckhligcdieaaaW.PrintMore
attribute [local go_sem] max2_int min2_int max_two min_two max_three min_three max_four min_four   -- for this text's walks alone
set_option linter.unusedVariables false
set_option linter.unusedSimpArgs false
set_option maxHeartbeats 8000000
set_option maxRecDepth 100000

/-! ### impl_ntts: function 61 -/
def impl_ntts.l0 : Nat → List (List Int) → List (List Int) → Int → Int → Option ((List (List Int)))
 | 0, _, _, _, _ => none
 | k + 1, x3, x6, x7, x8 => if x8 < x7 then (if 0 ≤ x8 then (if x8 < (x6.length : Int) then ((impl_Ntt.f k (rd_L5 x6 x8)).bind fun t1135 => (if x3.length < 5864062014805 then (impl_ntts.l0 k (x3 ++ [t1135]) x6 x7 (wrap64 (x8 + 1))) else (none))) else (none)) else (none)) else (some x3)
def impl_ntts.f (k : Nat) (l0 : List (List Int)) : Option ((List (List Int))) := impl_ntts.l0 k ([] : List (List Int)) l0 (l0.length : Int) 0
theorem impl_ntts.mono_l : ∀ k, (∀ y0 y1 y2 y3, LeO (impl_ntts.l0 k y0 y1 y2 y3) (impl_ntts.l0 (k + 1) y0 y1 y2 y3))
 | 0 => fun _ _ _ _ r h => by simp [impl_ntts.l0] at h
 | k + 1 => by
  have ih0 := impl_ntts.mono_l k
  intros; unfold impl_ntts.l0; exact o2_ ih0 impl_Ntt.mono
theorem impl_ntts.mono : ∀ a0 k, LeO (impl_ntts.f k a0) (impl_ntts.f (k + 1) a0) := by
 intro a0 k
 have ih0 := impl_ntts.mono_l k
 unfold impl_ntts.f
 exact o2_ ih0 impl_Ntt.mono
theorem impl_ntts.calls (k : Nat) (A0 : Option Addr) (c0 : Nat) (l0 : List (List Int)) (r : List (List Int)) (w : World) (hr0 : Kd.C (Kd.slice 3 (Kd.int .i64)) w A0 l0.length l0) (hc0 : l0.length ≤ c0) (h : impl_ntts.f k l0 = some r) :
  Calls Try.prog 61 #[.slice A0 l0.length c0] w fun e w' => ∃ v0_ : Value, e = .returned (v0_) ∧ Kd.S (Kd.slice 3 (Kd.int .i64)) 22 w' w.heap.size (fun _ => True) v0_ r ∧ Below w.heap.size w w' := by
 have HR0 := Aside0.mk hr0
 have HC0 := Aside0.mk hc0
 clear hr0 hc0
 have HB := Aside0.mk (Below.refl w.heap.size w)
 delta impl_ntts.f at h
 have H := h
 clear h
 have H' := Aside0.mk H
 clear H
 go_enter Try.func61, Try.ntmps61
 go_wp2
 go_loopg [3, 8] k (fun kq v3 v8 w' => ∃ (x3_1 : List (List Int)) (x8_1 : Int), v8 = .int .i64 x8_1 ∧ Aside0 (impl_ntts.l0 kq x3_1 l0 (l0.length : Int) x8_1 = some r) ∧ Aside0 (kq ≤ k) ∧ Aside0 (Kd.S (Kd.slice 3 (Kd.int .i64)) 22 w' w.heap.size (fun _ => True) v3 x3_1) ∧ Aside0 (Below w.heap.size w w'))
 case atStart => exact ⟨(([] : List (List Int))), (0), f0_, H', ⟨Nat.le_refl _⟩, ⟨by first | exact Kd.S_nil _ _ _ _ _ | exact Kd.N_nil _ _ _ _ _ | exact Kd.V_nil _ _ _ _ _ | exact Kd.Q_nil _ _ _ _ _ | exact Kd.R_nil _ _ _ _ _⟩, ⟨hB_⟩⟩
 case round =>
  clear H'
  obtain ⟨x3_1, x8_1, rfl, HA, HK1, HO_3, HB⟩ := hrel
  cases gk with
  | zero => exact absurd HA.out (by simp [impl_ntts.l0])
  | succ k1 =>
   have H := HA.out
   clear HA
   simp only [impl_ntts.l0] at H
   by_cases c2 : x8_1 < (l0.length : Int)
   rotate_left
   ·rw [if_neg c2] at H
    have c2b0 := decide_eq_false c2
    clear c2
    obtain rfl := Option.some.inj H
    go_wp2
    go_ret
    exact ⟨_, f1_, by refine kS_ ?_; exact HO_3.out, hB_⟩
   rw [if_pos c2] at H
   have c2b0 := decide_eq_true c2
   clear c2
   obtain ⟨c3b0, H⟩ := iD_ H
   obtain ⟨c4b0, H⟩ := iD_ H
   obtain ⟨t1135, A5, H⟩ := bN_ H
   obtain ⟨c6, H⟩ := iN_ H
   have LMc6 := Aside0.mk c6
   clear c6
   obtain ⟨y1138, hy1138⟩ : ∃ y_ : List (List Int), y_ = (x3_1 ++ [t1135]) := ⟨_, rfl⟩
   first | replace H := yb_ hy1138 H | rw [← hy1138] at H
   have Ny1138 := Aside0.mk hy1138
   clear hy1138
   have H' := Aside0.mk H
   clear H
   have p1134 : 0 ≤ (x8_1 : Int) := oD_
   have q1134 : x8_1 < (l0.length : Int) := oD_
   obtain ⟨ad1134, A1134_0, c1134_0, e1134, hx1134_0, hl1134_0, hi1134_0⟩ := at_L5 HR0.out x8_1 p1134 q1134
   cases e1134
   replace hx1134_0 := (HB.out.cell (World.block_lt_of_cell? w _ hx1134_0)).trans hx1134_0
   have HR1134_0 := Aside0.mk hi1134_0
   have HC1134_0 := Aside0.mk hl1134_0
   clear hi1134_0 hl1134_0
   replace p1134 := eq_true p1134
   replace q1134 := eq_true q1134
   go_wp2_with (first | ((with_reducible refine gate_callee (f := 94) rfl ?_); refine goesL_ (some 14) rfl rfl Try.func94 (by kernel_rfl) rfl #[.slice A1134_0 (rd_L5 l0 x8_1).length c1134_0] rfl aM_ ?_; (with_reducible refine (impl_Ntt.calls k1 _ _ (rd_L5 l0 x8_1) t1135 _ ?side1 ?side2 A5.out).mono ?_); (case side1 => exact cR_ (Kd.C_below HR1134_0.out HB.out)); (case side2 => exact HC1134_0.out); rintro e w7 ⟨v1136, rfl, ho0, hb⟩; refine ⟨_, rfl, ?_⟩; have n_ := b_ (Kd.S_elder' (rS_ HO_3.out) (Kd.R_base ho0) hb) <| b_ (Kd.R_lower ho0 (below_size (hB_))) <| c_ (below_step (hB_) hb); clear HO_3 HB; obtain ⟨HO_3, HO1137, HB⟩ := n_; obtain ⟨Ao9, co9, eo9⟩ := Kd.R_slice HO1137.out; subst eo9) | ((with_reducible refine gate_builtin (b := .append) (xs := #[.tmp 12, .tmp 15]) rfl ?_); at_builtin; refine Kd.S_append (Kd.slice 3 (Kd.int .i64)) (w0 := w) w.heap.size rfl (.tmp 12) (.tmp 15) 70 22 (.slice none 0 0) 24 rfl Try.underlying70 info22 rfl (by decide) (by omega) u3 x3_1 t1135 [.slice Ao9 t1135.length co9] (fun _ => True) (fun k_ => some k_ = (.slice Ao9 t1135.length co9 : Value).ownBlock) rfl rfl ?aP (fun k_ hk_ => ((Kd.R_mono (ok' := fun k_ => ((fun _ => True)) k_ ∧ some k_ ≠ (u3 : Value).ownBlock) (Kd.R_apart' (HO1137.out) (Kd.S_typed HO_3.out) (by decide)) (fun k_ hk => ⟨trivial, hk.2⟩))).1 k_ hk_.symm) ?aF ?aO ?aB ?aS ?aL ?_; (case aP => exact Kd.M_row (Kd.R_mono (Kd.R_tight rfl (Kd.R_mono (ok' := fun k_ => ((fun _ => True)) k_ ∧ some k_ ≠ (u3 : Value).ownBlock) (Kd.R_apart' (HO1137.out) (Kd.S_typed HO_3.out) (by decide)) (fun k_ hk => ⟨trivial, hk.2⟩))) (fun _ h_ => h_))); (case aB => exact (hB_)); (case aF => exact (fun _ _ => trivial)); (case aO => exact (by refine kS_ ?_; exact Kd.S_mono HO_3.out (fun k_ hk => ⟨trivial, fun e_ => hk.2 e_⟩))); (case aS => exact (below_size (hB_))); (case aL => have := LMc6.out; omega); intro v1139 w8 ho hb hg hat; rw [← Ny1138.out] at ho; have n_ := b_ (hb) <| c_ (ho); clear HO_3 HO1137 HB; obtain ⟨HB, HO1140⟩ := n_; clear ho hb hg hat))
   go_roundg k1
   case measure => have := HK1.out; omega
   case rel => exact ⟨(y1138), (wrap64 (x8_1 + 1)), f0_, H', ⟨by have := HK1.out; omega⟩, ⟨rS_ HO1140.out⟩, ⟨hB_⟩⟩

/-! ### impl_PolyAdd_1: function 96 -/
def impl_PolyAdd_1.f (a0 : Int) (a1 : Int) : Option (Int) := some (wrap64 (a0 + a1))
theorem impl_PolyAdd_1.calls (a0 : Int) (a1 : Int) (r : Int) (w : World) (h : impl_PolyAdd_1.f a0 a1 = some r) :
  Calls Try.prog 96 #[.int .i64 a0, .int .i64 a1] w fun e w' => e = .returned (.int .i64 r) ∧ Drawn0 w w' := by
 delta impl_PolyAdd_1.f at h
 have H := h
 clear h
 obtain rfl := Option.some.inj H
 go_enter Try.func96, Try.ntmps96
 go_wp2
 go_ret
 exact ⟨f0_, d0_⟩

/-! ### impl_each_PolyAdd_1: function 95 -/
mutual
def impl_each_PolyAdd_1.j0 : Nat → List Int → List Int → Bool → Option (List Int)
 | 0, _, _, _ => none
 | k + 1, x0, x1, x16 => if x16 = true then (some ([] : List Int)) else (if 256 ≤ 35184372088832 then ((some (List.replicate 256 0 : List Int)).bind fun y1149 => (impl_each_PolyAdd_1.l0 k x0 x1 y1149 (y1149.length : Int) 0)) else (none))
def impl_each_PolyAdd_1.l0 : Nat → List Int → List Int → List Int → Int → Int → Option (List Int)
 | 0, _, _, _, _, _ => none
 | k + 1, x0, x1, x7, x19, x20 => if x20 < x19 then (if 0 ≤ x20 then (if x20 < (x0.length : Int) then (if x20 < (x1.length : Int) then ((impl_PolyAdd_1.f (rd x0 x20) (rd x1 x20)).bind fun t1154 => ((impl_modQ.f t1154).bind fun t1155 => (if x20 < (x7.length : Int) then (impl_each_PolyAdd_1.l0 k x0 x1 (x7.set (x20 : Int).toNat t1155) x19 (wrap64 (x20 + 1))) else (none)))) else (none)) else (none)) else (none)) else (some x7)
end
def impl_each_PolyAdd_1.f (k : Nat) (l0 : List Int) (l1 : List Int) : Option (List Int) := (impl_PolyOk.f k l0).bind fun t1147 => (if t1147 = true then ((impl_PolyOk.f k l1).bind fun t1148 => (impl_each_PolyAdd_1.j0 k l0 l1 (!t1148))) else (impl_each_PolyAdd_1.j0 k l0 l1 true))
theorem impl_each_PolyAdd_1.mono_l : ∀ k, (∀ y0 y1 y2, LeO (impl_each_PolyAdd_1.j0 k y0 y1 y2) (impl_each_PolyAdd_1.j0 (k + 1) y0 y1 y2)) ∧ (∀ y0 y1 y2 y3 y4, LeO (impl_each_PolyAdd_1.l0 k y0 y1 y2 y3 y4) (impl_each_PolyAdd_1.l0 (k + 1) y0 y1 y2 y3 y4))
 | 0 => ⟨fun _ _ _ r h => by simp [impl_each_PolyAdd_1.j0] at h, fun _ _ _ _ _ r h => by simp [impl_each_PolyAdd_1.l0] at h⟩
 | k + 1 => by
  obtain ⟨ih0, ih1⟩ := impl_each_PolyAdd_1.mono_l k
  refine ⟨?_, ?_⟩ <;> (intros; (first | unfold impl_each_PolyAdd_1.j0 | unfold impl_each_PolyAdd_1.l0); exact o3_ ih0 ih1 impl_PolyOk.mono)
theorem impl_each_PolyAdd_1.mono : ∀ a0 a1 k, LeO (impl_each_PolyAdd_1.f k a0 a1) (impl_each_PolyAdd_1.f (k + 1) a0 a1) := by
 intro a0 a1 k
 obtain ⟨ih0, ih1⟩ := impl_each_PolyAdd_1.mono_l k
 unfold impl_each_PolyAdd_1.f
 exact o3_ ih0 ih1 impl_PolyOk.mono
def impl_each_PolyAdd_1.T7 : Bool × List (List Nat × List Nat) := (true, [([], []), ([], []), ([], []), ([], []), ([], []), ([3, 4], [3, 4]), ([5], [5]), ([], []), ([], []), ([7, 8], [7, 8]), ([9], [9]), ([2, 6, 10], [2, 6, 10]), ([11, 11], [11]), ([0, 1, 0, 1, 2, 3, 4, 5, 6, 7, 8, 9, 10, 11, 12], [0, 1]), ([13, 12, 12, 0, 1, 2, 3, 4, 5, 6, 7, 8, 9, 10, 11, 12], [12, 13])])
def impl_each_PolyAdd_1.B7 : List Nat := [0, 0, 0, 0, 0, 24, 56, 0, 0, 384, 896, 2044, 4092, 8191, 16383]
theorem impl_each_PolyAdd_1.tab7 : rtab .any (opsOf Try.f95 7) = impl_each_PolyAdd_1.T7 := by kernel_rfl
theorem impl_each_PolyAdd_1.bits7 : waitsOk impl_each_PolyAdd_1.T7.2 impl_each_PolyAdd_1.B7 = true := by kernel_rfl
theorem impl_each_PolyAdd_1.calls (k : Nat) (A0 : Option Addr) (c0 : Nat) (l0 : List Int) (A1 : Option Addr) (c1 : Nat) (l1 : List Int) (r : List Int) (w : World) (hr0 : Kd.C (Kd.int .i64) w A0 l0.length l0) (hc0 : l0.length ≤ c0) (hr1 : Kd.C (Kd.int .i64) w A1 l1.length l1) (hc1 : l1.length ≤ c1) (h : impl_each_PolyAdd_1.f k l0 l1 = some r) :
  Calls Try.prog 95 #[.slice A0 l0.length c0, .slice A1 l1.length c1, .func (.func 96) #[] #[]] w fun e w' => ∃ v0_ : Value, e = .returned (v0_) ∧ Kd.R (Kd.int .i64) 3 w' w.heap.size (fun _ => True) v0_ r ∧ Below w.heap.size w w' := by
 have HR0 := Aside0.mk hr0
 have HC0 := Aside0.mk hc0
 clear hr0 hc0
 have HR1 := Aside0.mk hr1
 have HC1 := Aside0.mk hc1
 clear hr1 hc1
 have HB := Aside0.mk (Below.refl w.heap.size w)
 delta impl_each_PolyAdd_1.f at h
 have H := h
 clear h
 have HC3 := Aside0.mk H
 clear H
 go_enter Try.func95, Try.ntmps95
 go_upto_region 1 with (fail)
 go_cut [16] (fun v16 wc => ∃ (kq : Nat) (x16_2 : Bool), v16 = .bool x16_2 ∧ Aside0 (impl_each_PolyAdd_1.j0 kq l0 l1 x16_2 = some r) ∧ Aside0 (kq ≤ k) ∧ Aside0 (Below w.heap.size w wc))
 case first =>
  have H := HC3.out
  clear HC3
  obtain ⟨t1147, A4, H⟩ := bN_ H
  by_cases c5 : t1147 = true
  ·subst c5
   replace H := iT_ H
   obtain ⟨t1148, A6, H⟩ := bN_ H
   have H' := Aside0.mk H
   clear H
   go_wp2_with (first | ((with_reducible refine gate_callee (f := 17) rfl ?_); refine goesL_ (some 10) rfl rfl Try.func17 (by kernel_rfl) rfl #[.slice A0 l0.length c0] rfl aM_ ?_; (with_reducible refine (impl_PolyOk.calls k _ _ l0 true _ ?side1 ?side2 A4.out).mono ?_); (case side1 => exact cR_ (Kd.C_below HR0.out HB.out)); (case side2 => exact HC0.out); rintro e w' ⟨rfl, ⟨nd, rfl⟩⟩; refine ⟨_, rfl, ?_⟩) | (go_at_call 17; (with_reducible refine (impl_PolyOk.calls k _ _ l1 t1148 _ ?side1 ?side2 A6.out).mono ?_); (case side1 => exact cR_ (Kd.C_below HR1.out (hB_))); (case side2 => exact HC1.out); rintro e w' ⟨rfl, ⟨nd, rfl⟩⟩))
   go_meet
   case rel => exact ⟨_, (!t1148), f0_, H', ⟨by first | omega | exact Nat.le_refl _⟩, ⟨hB_⟩⟩
  ·replace c5 := Bool.eq_false_iff.mpr c5
   subst c5
   replace H := iF_ H
   have H' := Aside0.mk H
   clear H
   go_wp2_with (first | ((with_reducible refine gate_callee (f := 17) rfl ?_); refine goesL_ (some 10) rfl rfl Try.func17 (by kernel_rfl) rfl #[.slice A0 l0.length c0] rfl aM_ ?_; (with_reducible refine (impl_PolyOk.calls k _ _ l0 false _ ?side1 ?side2 A4.out).mono ?_); (case side1 => exact cR_ (Kd.C_below HR0.out HB.out)); (case side2 => exact HC0.out); rintro e w' ⟨rfl, ⟨nd, rfl⟩⟩; refine ⟨_, rfl, ?_⟩))
   go_meet
   case rel => exact ⟨_, (true), f0_, H', ⟨by first | omega | exact Nat.le_refl _⟩, ⟨hB_⟩⟩
 case rest =>
  clear HC3
  obtain ⟨kq, x16_2, rfl, HA, HJ2, HB⟩ := hcut
  cases kq with
  | zero => exact absurd HA.out (by simp [impl_each_PolyAdd_1.j0])
  | succ kj2 =>
   have H := HA.out
   clear HA
   simp only [impl_each_PolyAdd_1.j0] at H
   by_cases c7 : x16_2 = true
   ·subst c7
    replace H := iT_ H
    obtain rfl := Option.some.inj H
    go_wp2
    go_ret
    exact ⟨_, f1_, by first | exact Kd.R_nil _ _ _ _ _ | exact Kd.N_nil _ _ _ _ _ | exact Kd.V_nil _ _ _ _ _ | exact Kd.Q_nil _ _ _ _ _ | exact Kd.S_nil _ _ _ _ _, hB_⟩
   ·replace c7 := Bool.eq_false_iff.mpr c7
    subst c7
    replace H := iF_ H
    obtain ⟨c8, H⟩ := iN_ H
    have c8b0 := eq_true c8
    have c8b1 := decide_eq_true c8
    clear c8
    obtain ⟨y1149, hy1149⟩ : ∃ y_ : List Int, y_ = (List.replicate 256 0) := ⟨_, rfl⟩
    first | replace H := yb_ hy1149 H | rw [← hy1149] at H
    have Ny1149 := Aside0.mk hy1149
    clear hy1149
    have H' := Aside0.mk H
    clear H
    go_wp2_with (first | ((with_reducible refine gate_dst (N := 17) rfl ?_); refine Kd.R_make (Kd.int .i64) _ 3 rfl (N := 17) rfl 22 _ _ rfl 256 rfl rfl Try.underlying22 (.int .i64 0) 8 info3 rfl (by decide) (by omega) 0 (ok := fun _ => True) (okp := fun _ => True) rfl (fun _ hk => hk) trivial (by omega) (by omega) (Below.refl _ _) (Nat.le_refl _) ?_; intro v1150 w9 ho10 hb hg_ hnew_; clear hg_ hnew_; (first | rw [← Ny1149.out] at ho10 | (simp only [Int.reduceToNat] at ho10; rw [← Ny1149.out] at ho10)); have n_ := b_ (Kd.R_lower ho10 (below_size (hB_))) <| c_ (below_step (hB_) hb); clear HB; obtain ⟨HO1151, HB⟩ := n_; clear hb ho10; obtain ⟨Ao11, co11, eo11⟩ := Kd.R_slice HO1151.out; subst eo11))
    go_loopg [20] kj2 (fun kq v20 w' => ∃ (x7_2 : List Int) (x20_2 : Int), v20 = .int .i64 x20_2 ∧ Aside0 (impl_each_PolyAdd_1.l0 kq l0 l1 x7_2 (y1149.length : Int) x20_2 = some r) ∧ Aside0 (kq ≤ kj2) ∧ Aside0 (Kd.R (Kd.int .i64) 3 w' w.heap.size (fun _ => True) (.slice Ao11 y1149.length co11) x7_2) ∧ Aside0 (Below w.heap.size w w'))
    case atStart => exact ⟨(y1149), (0), f0_, H', ⟨Nat.le_refl _⟩, ⟨rR_ HO1151.out⟩, ⟨hB_⟩⟩
    case round =>
     clear H'
     obtain ⟨x7_2, x20_2, rfl, HA, HK2, HO_7, HB⟩ := hrel
     have hl7_2 := (Kd.R_reads' HO_7.out).1
     rw [hl7_2] at HO_7
     (try simp only [hl7_2])
     cases gk with
     | zero => exact absurd HA.out (by simp [impl_each_PolyAdd_1.l0])
     | succ k2 =>
      have H := HA.out
      clear HA
      simp only [impl_each_PolyAdd_1.l0] at H
      by_cases c12 : x20_2 < (y1149.length : Int)
      rotate_left
      ·rw [if_neg c12] at H
       have c12b0 := decide_eq_false c12
       (try simp only [hl7_2] at c12b0)
       clear c12
       obtain rfl := Option.some.inj H
       go_wp2
       go_ret
       exact ⟨_, f1_, rR_ HO_7.out, hB_⟩
      rw [if_pos c12] at H
      have c12b0 := decide_eq_true c12
      (try simp only [hl7_2] at c12b0)
      clear c12
      obtain ⟨c13b0, H⟩ := iD_ H
      obtain ⟨c14, H⟩ := iN_ H
      have c14b0 := decide_eq_true c14
      (try simp only [hl7_2] at c14b0)
      clear c14
      obtain ⟨c15, H⟩ := iN_ H
      have c15b0 := decide_eq_true c15
      (try simp only [hl7_2] at c15b0)
      clear c15
      obtain ⟨t1154, A16, H⟩ := bN_ H
      obtain ⟨t1155, A17, H⟩ := bN_ H
      obtain ⟨c18, H⟩ := iN_ H
      have c18b0 := decide_eq_true c18
      (try simp only [hl7_2] at c18b0)
      clear c18
      obtain ⟨y1156, hy1156⟩ : ∃ y_ : List Int, y_ = (x7_2.set (x20_2 : Int).toNat t1155) := ⟨_, rfl⟩
      first | replace H := yb_ hy1156 H | rw [← hy1156] at H
      have Ny1156 := Aside0.mk hy1156
      clear hy1156
      have H' := Aside0.mk H
      clear H
      try go_wp2
      have n_ := b_ (Kd.R_drew HO_7.out) <| c_ (below_drew1 HB.out)
      clear HO_7 HB
      obtain ⟨HO_7, HB⟩ := n_
      have p1152 : 0 ≤ (x20_2 : Int) := oD_
      have q1152 : x20_2 < (l0.length : Int) := oD_
      obtain ⟨ad1152, e1152, hx1152_0⟩ := Kd.at_int HR0.out x20_2 p1152 q1152
      have hw1152_0 := hx1152_0
      cases e1152
      replace hx1152_0 := (HB.out.cell (World.block_lt_of_cell? w _ hx1152_0)).trans hx1152_0
      replace p1152 := eq_true p1152
      replace q1152 := eq_true q1152
      have p1153 : 0 ≤ (x20_2 : Int) := oD_
      have q1153 : x20_2 < (l1.length : Int) := oD_
      obtain ⟨ad1153, e1153, hx1153_0⟩ := Kd.at_int HR1.out x20_2 p1153 q1153
      have hw1153_0 := hx1153_0
      cases e1153
      replace hx1153_0 := (HB.out.cell (World.block_lt_of_cell? w _ hx1153_0)).trans hx1153_0
      replace p1153 := eq_true p1153
      replace q1153 := eq_true q1153
      refine start_ (n := 15) (S := fun w' => w'.cell? (ad1152.add (x20_2).toNat) = some (.int .i64 (rd l0 x20_2)) ∧ w'.cell? (ad1153.add (x20_2).toNat) = some (.int .i64 (rd l1 x20_2))) (ds := [14]) (bb_ 15 0) (by kernel_rfl) rfl rfl ⟨((HB.out.cell (World.block_lt_of_cell? w _ hw1152_0)).trans hw1152_0), ((HB.out.cell (World.block_lt_of_cell? w _ hw1153_0)).trans hw1153_0)⟩ (fun hHeld => ?_); refine with_tabW impl_each_PolyAdd_1.tab7 impl_each_PolyAdd_1.bits7 (fun HT_ HW_ => ?_)
      generalize wr.drew = w20 at HO_7 HB hx1152_0 hx1153_0 hHeld ⊢
      refine pS_ 0 23 (bb_ 15 1) HT_.out ?_
      refine pS_ 1 24 (bb_ 15 3) HT_.out ?_
      refine pS_ 2 25 (bb_ 15 7) HT_.out ?_
      refine pS_ 3 26 (bb_ 15 15) HT_.out ?_
      refine pS_ 4 27 (bb_ 15 31) HT_.out ?_
      refine pS_ 5 28 (bb_ 15 63) HT_.out ?_
      refine pS_ 7 30 (bb_ 15 191) HT_.out ?_
      refine pS_ 8 31 (bb_ 15 447) HT_.out ?_
      refine pS_ 9 32 (bb_ 15 959) HT_.out ?_
      refine tS_ 6 29 (bb_ 15 1023) (take_ofW HT_.out HW_.out (by kernel_rfl)) hHeld ?_
      refine tS_ 10 33 (bb_ 15 2047) (take_ofW HT_.out HW_.out (by kernel_rfl)) hHeld ?_
      refine one_ (i := 11) (N := some 34) (bb_ 15 4095) rfl rfl (one_of HT_.out (by kernel_rfl)) (by decide) (fun K hK => ?_)
      refine Go.Proofs.Ytnckhligcdieaaa.Kit.goesW_ (.tmp 25) Try.func96 (by kernel_rfl) rfl #[.int .i64 (rd l0 x20_2), .int .i64 (rd l1 x20_2)] (by rfl) rfl rfl aM_ (by first | rfl | (simp; done)) ?_
      with_reducible refine (impl_PolyAdd_1.calls (rd l0 x20_2) (rd l1 x20_2) t1154 _ A16.out).mono ?_
      rintro e w' ⟨rfl, ⟨nd, rfl⟩⟩
      refine ⟨_, rfl, ?_⟩
      refine hK.out _ _ ⟨((HB.out.cell (World.block_lt_of_cell? w _ hw1152_0)).trans hw1152_0), ((HB.out.cell (World.block_lt_of_cell? w _ hw1153_0)).trans hw1153_0)⟩ (fun hHeld => ?_)
      clear hK K
      refine norm_ (a' := ?_) ?_ ?_
      rotate_left
      ·show Act.put _ (some 34) _ = _
       simp only [Act.put, List.setIfInBounds_toArray, List.set_cons_zero, List.set_cons_succ, i64_w, i32_w]
       rfl
      refine one_ (i := 12) (N := some 35) (bb_ 15 8191) rfl rfl (one_of HT_.out (by kernel_rfl)) (by decide) (fun K hK => ?_)
      refine goes_ Try.func33 (by kernel_rfl) rfl #[.int .i64 t1154] (by rfl) rfl rfl aM_ ?_
      with_reducible refine (impl_modQ.calls t1154 t1155 _ A17.out).mono ?_
      rintro e w' ⟨rfl, ⟨nd, rfl⟩⟩
      refine ⟨_, rfl, ?_⟩
      have p19 : 0 ≤ (x20_2 : Int) := oD_
      have q19 : (x20_2 : Int) < ((x7_2.length : Int) : Int) := oD_
      obtain ⟨go19, co19, eo19, gb19, gl19, cl19, HG19⟩ := Kd.R_form HO_7.out (by omega)
      (first | cases eo19 | (injection eo19 with ea_ en_ ec_; (first | subst ea_ | (injection ea_ with ea_; subst ea_)); subst ec_; clear en_))
      have GB19 := Aside0.mk gb19
      have GG19 := Aside0.mk HG19
      clear gb19 gl19 HG19
      obtain ⟨hx19_0, hf19_0⟩ := Kd.R_celln 0 HO_7.out (x20_2 : Int) p19 q19
      replace p19 := eq_true p19
      replace q19 := eq_true q19
      have HP21 := Kd.R_putn HO_7.out (x20_2 : Int) t1155
      rw [← Ny1156.out] at HP21
      have HQ21 := Aside0.mk HP21
      clear HP21
      refine hK.out _ _ ⟨((HB.out.cell (World.block_lt_of_cell? w _ hw1152_0)).trans hw1152_0), ((HB.out.cell (World.block_lt_of_cell? w _ hw1153_0)).trans hw1153_0)⟩ (fun hHeld => ?_)
      clear hK K
      refine norm_ (a' := ?_) ?_ ?_
      rotate_left
      ·show Act.put _ (some 35) _ = _
       simp only [Act.put, List.setIfInBounds_toArray, List.set_cons_zero, List.set_cons_succ, i64_w, i32_w]
       rfl
      refine pS_ 13 36 (bb_ 15 16383) HT_.out ?_
      refine last_ (i := 14) (N := none) (bb_ 15 32767) rfl rfl (one_of HT_.out (by kernel_rfl)) (by decide) (fun K hK => ?_)
      refine skip_ (w1 := ?_) (by rfl) rfl ?_ ?_
      rotate_left
      ·go_simp
       rfl
      refine hK.out _ _ ?_
      clear hK K
      refine done_ (done_of HT_.out (by kernel_rfl)) ?_
      try go_wp2
      (try simp only [← hl7_2])
      go_roundg k2
      case measure => have := HJ2.out; have := HK2.out; omega
      case rel => exact ⟨(y1156), (wrap64 (x20_2 + 1)), f0_, H', ⟨by have := HJ2.out; have := HK2.out; omega⟩, ⟨by (try simp only [hl7_2]); refine kR_ ?_; exact HQ21.out⟩, ⟨hS_ GB19.out⟩⟩

/-! ### impl_PolyAdd: function 63 -/
def impl_PolyAdd.f (k : Nat) (l0 : List Int) (l1 : List Int) : Option (List Int) := (impl_each_PolyAdd_1.f k l0 l1).bind fun t1157 => (some t1157)
theorem impl_PolyAdd.mono : ∀ a0 a1 k, LeO (impl_PolyAdd.f k a0 a1) (impl_PolyAdd.f (k + 1) a0 a1) := by
 intro a0 a1 k
 unfold impl_PolyAdd.f
 exact o1_ impl_each_PolyAdd_1.mono
theorem impl_PolyAdd.calls (k : Nat) (A0 : Option Addr) (c0 : Nat) (l0 : List Int) (A1 : Option Addr) (c1 : Nat) (l1 : List Int) (r : List Int) (w : World) (hr0 : Kd.C (Kd.int .i64) w A0 l0.length l0) (hc0 : l0.length ≤ c0) (hr1 : Kd.C (Kd.int .i64) w A1 l1.length l1) (hc1 : l1.length ≤ c1) (h : impl_PolyAdd.f k l0 l1 = some r) :
  Calls Try.prog 63 #[.slice A0 l0.length c0, .slice A1 l1.length c1] w fun e w' => ∃ v0_ : Value, e = .returned (v0_) ∧ Kd.R (Kd.int .i64) 3 w' w.heap.size (fun _ => True) v0_ r ∧ Below w.heap.size w w' := by
 have HR0 := Aside0.mk hr0
 have HC0 := Aside0.mk hc0
 clear hr0 hc0
 have HR1 := Aside0.mk hr1
 have HC1 := Aside0.mk hc1
 clear hr1 hc1
 have HB := Aside0.mk (Below.refl w.heap.size w)
 delta impl_PolyAdd.f at h
 have H := h
 clear h
 obtain ⟨t1157, A3, H⟩ := bN_ H
 obtain rfl := Option.some.inj H
 go_enter Try.func63, Try.ntmps63
 go_wp2_with (first | ((with_reducible refine gate_callee (f := 95) rfl ?_); refine goesL_ (some 7) rfl rfl Try.func95 (by kernel_rfl) rfl #[.slice A0 l0.length c0, .slice A1 l1.length c1, .func (.func 96) #[] #[]] rfl aM_ ?_; (with_reducible refine (impl_each_PolyAdd_1.calls k _ _ l0 _ _ l1 t1157 _ ?side1 ?side2 ?side3 ?side4 A3.out).mono ?_); (case side1 => exact cR_ HR0.out); (case side2 => exact HC0.out); (case side3 => exact cR_ HR1.out); (case side4 => exact HC1.out); rintro e w4 ⟨v1158, rfl, ho0, hb⟩; refine ⟨_, rfl, ?_⟩; have n_ := b_ (Kd.R_lower ho0 (below_size (hB_))) <| c_ (below_step (hB_) hb); clear HB; obtain ⟨HO1159, HB⟩ := n_; (try clear ho0)))
 go_ret
 exact ⟨_, f1_, rR_ HO1159.out, hB_⟩

/-! ### impl_InvNtt: function 64 -/
theorem impl_InvNtt.cell_setCell_drewN (w : World) (n : Nat) (a b : Addr) (v : Value) : ((w.drewN n).setCell a v).cell? b = (w.setCell a v).cell? b := rfl
theorem impl_InvNtt.frozen_setCell (w : World) (a b : Addr) (v : Value) : (w.setCell a v).frozen? b = w.frozen? b := World.frozen?_setCell w a b v
attribute [local go_sem] impl_InvNtt.cell_setCell_drewN
mutual
def impl_InvNtt.l0 : Nat → List Int → Int → Int → Option (List Int)
 | 0, _, _, _ => none
 | k + 1, x3, x4, x5 => if x5 ≤ 128 then (impl_InvNtt.l1 k x3 x4 x5 0) else (impl_InvNtt.l3 k x3 (x3.length : Int) 0)
def impl_InvNtt.l1 : Nat → List Int → Int → Int → Int → Option (List Int)
 | 0, _, _, _, _ => none
 | k + 1, x3, x4, x5, x6 => if x6 < 256 then ((impl_Turn7.f k x4).bind fun t1164 => ((impl_PowQ.f k 17 t1164).bind fun t1165 => (impl_InvNtt.l2 k x3 (wrap64 (x4 - 1)) x5 x6 t1165 x6))) else (impl_InvNtt.l0 k x3 x4 (wrap64 (x5 * 2)))
def impl_InvNtt.l2 : Nat → List Int → Int → Int → Int → Int → Int → Option (List Int)
 | 0, _, _, _, _, _, _ => none
 | k + 1, x3, x4, x5, x6, x7, x8 => if x8 < (wrap64 (x6 + x5)) then (if 0 ≤ x8 then (if x8 < (x3.length : Int) then (if 0 ≤ (wrap64 (x8 + x5)) then (if (wrap64 (x8 + x5)) < (x3.length : Int) then ((impl_modQ.f (wrap64 ((rd x3 x8) + (rd x3 (wrap64 (x8 + x5)))))).bind fun t1168 => ((impl_modQ.f (wrap64 (x7 * (wrap64 ((rd x3 (wrap64 (x8 + x5))) - (rd x3 x8)))))).bind fun t1170 => (impl_InvNtt.l2 k ((x3.set (x8 : Int).toNat t1168).set ((wrap64 (x8 + x5)) : Int).toNat t1170) x4 x5 x6 x7 (wrap64 (x8 + 1))))) else (none)) else (none)) else (none)) else (none)) else (impl_InvNtt.l1 k x3 x4 x5 (wrap64 (x6 + (wrap64 (2 * x5)))))
def impl_InvNtt.l3 : Nat → List Int → Int → Int → Option (List Int)
 | 0, _, _, _ => none
 | k + 1, x3, x72, x73 => if x73 < x72 then (if 0 ≤ x73 then (if x73 < (x3.length : Int) then ((impl_modQ.f (wrap64 ((rd x3 x73) * 3303))).bind fun t1174 => (impl_InvNtt.l3 k (x3.set (x73 : Int).toNat t1174) x72 (wrap64 (x73 + 1)))) else (none)) else (none)) else (some x3)
end
def impl_InvNtt.f (k : Nat) (l0 : List Int) : Option (List Int) := (impl_PolyOk.f k l0).bind fun t1160 => (if t1160 = true then ((impl_copyInts.f l0).bind fun t1161 => (impl_InvNtt.l0 k t1161 127 2)) else (some ([] : List Int)))
theorem impl_InvNtt.mono_l : ∀ k, (∀ y0 y1 y2, LeO (impl_InvNtt.l0 k y0 y1 y2) (impl_InvNtt.l0 (k + 1) y0 y1 y2)) ∧ (∀ y0 y1 y2 y3, LeO (impl_InvNtt.l1 k y0 y1 y2 y3) (impl_InvNtt.l1 (k + 1) y0 y1 y2 y3)) ∧ (∀ y0 y1 y2 y3 y4 y5, LeO (impl_InvNtt.l2 k y0 y1 y2 y3 y4 y5) (impl_InvNtt.l2 (k + 1) y0 y1 y2 y3 y4 y5)) ∧ (∀ y0 y1 y2, LeO (impl_InvNtt.l3 k y0 y1 y2) (impl_InvNtt.l3 (k + 1) y0 y1 y2))
 | 0 => ⟨fun _ _ _ r h => by simp [impl_InvNtt.l0] at h, fun _ _ _ _ r h => by simp [impl_InvNtt.l1] at h, fun _ _ _ _ _ _ r h => by simp [impl_InvNtt.l2] at h, fun _ _ _ r h => by simp [impl_InvNtt.l3] at h⟩
 | k + 1 => by
  obtain ⟨ih0, ih1, ih2, ih3⟩ := impl_InvNtt.mono_l k
  refine ⟨?_, ?_, ?_, ?_⟩ <;> (intros; (first | unfold impl_InvNtt.l0 | unfold impl_InvNtt.l1 | unfold impl_InvNtt.l2 | unfold impl_InvNtt.l3); exact o7_ ih0 ih1 ih2 ih3 impl_PolyOk.mono impl_PowQ.mono impl_Turn7.mono)
theorem impl_InvNtt.mono : ∀ a0 k, LeO (impl_InvNtt.f k a0) (impl_InvNtt.f (k + 1) a0) := by
 intro a0 k
 obtain ⟨ih0, ih1, ih2, ih3⟩ := impl_InvNtt.mono_l k
 unfold impl_InvNtt.f
 exact o7_ ih0 ih1 ih2 ih3 impl_PolyOk.mono impl_PowQ.mono impl_Turn7.mono
def impl_InvNtt.T17 : Bool × List (List Nat × List Nat) := (true, [([], []), ([], []), ([], []), ([], []), ([], []), ([3, 4], [3, 4]), ([], []), ([], []), ([], []), ([], []), ([8, 9], [8, 9]), ([7, 10], [7, 10]), ([11], [11]), ([6, 12], [6, 12]), ([13], [13]), ([], []), ([], []), ([], []), ([], []), ([17, 18], [17, 18]), ([16, 19], [16, 19]), ([20], [20]), ([], []), ([21, 22], [21, 22]), ([15, 23], [15, 23]), ([24, 14], [24]), ([0, 1, 0, 1, 6, 7, 8, 9, 10, 11, 12, 13, 14, 21, 25], [0, 1]), ([26, 14, 25, 0, 1, 6, 7, 8, 9, 10, 11, 12, 13, 14, 21, 25], [14, 26]), ([2, 5, 0, 1, 2, 3, 4, 5, 6, 7, 8, 9, 10, 11, 12, 13, 14, 15, 16, 17, 18, 19, 20, 21, 22, 23, 24, 25, 26, 27], [2, 5]), ([28, 25, 27, 0, 1, 2, 3, 4, 5, 6, 7, 8, 9, 10, 11, 12, 13, 14, 15, 16, 17, 18, 19, 20, 21, 22, 23, 24, 25, 26, 27], [25, 28])])
def impl_InvNtt.B17 : List Nat := [0, 0, 0, 0, 0, 24, 0, 0, 0, 0, 768, 1920, 3968, 8128, 16320, 0, 0, 0, 0, 393216, 983040, 2031616, 0, 8323072, 16744448, 33554368, 67108803, 134217667, 268435455, 536870911]
theorem impl_InvNtt.tab17 : rtab .any (opsOf Try.f64 17) = impl_InvNtt.T17 := by kernel_rfl
theorem impl_InvNtt.bits17 : waitsOk impl_InvNtt.T17.2 impl_InvNtt.B17 = true := by kernel_rfl
theorem impl_InvNtt.calls (k : Nat) (A0 : Option Addr) (c0 : Nat) (l0 : List Int) (r : List Int) (w : World) (hr0 : Kd.C (Kd.int .i64) w A0 l0.length l0) (hc0 : l0.length ≤ c0) (h : impl_InvNtt.f k l0 = some r) :
  Calls Try.prog 64 #[.slice A0 l0.length c0] w fun e w' => ∃ v0_ : Value, e = .returned (v0_) ∧ Kd.R (Kd.int .i64) 3 w' w.heap.size (fun _ => True) v0_ r ∧ Below w.heap.size w w' := by
 have HR0 := Aside0.mk hr0
 have HC0 := Aside0.mk hc0
 clear hr0 hc0
 have HB := Aside0.mk (Below.refl w.heap.size w)
 delta impl_InvNtt.f at h
 have H := h
 clear h
 obtain ⟨t1160, A2, H⟩ := bN_ H
 by_cases c3 : t1160 = true
 ·subst c3
  replace H := iT_ H
  obtain ⟨t1161, A4, H⟩ := bN_ H
  have H' := Aside0.mk H
  clear H
  go_enter Try.func64, Try.ntmps64
  go_wp2_with (first | ((with_reducible refine gate_callee (f := 17) rfl ?_); refine goesL_ (some 12) rfl rfl Try.func17 (by kernel_rfl) rfl #[.slice A0 l0.length c0] rfl aM_ ?_; (with_reducible refine (impl_PolyOk.calls k _ _ l0 true _ ?side1 ?side2 A2.out).mono ?_); (case side1 => exact cR_ HR0.out); (case side2 => exact HC0.out); rintro e w' ⟨rfl, ⟨nd, rfl⟩⟩; refine ⟨_, rfl, ?_⟩) | ((with_reducible refine gate_callee (f := 97) rfl ?_); refine goesL_ (some 15) rfl rfl Try.func97 (by kernel_rfl) rfl #[.slice A0 l0.length c0] rfl aM_ ?_; (with_reducible refine (impl_copyInts.calls _ _ l0 t1161 _ ?side1 ?side2 A4.out).mono ?_); (case side1 => exact cR_ HR0.out); (case side2 => exact HC0.out); rintro e w5 ⟨v1162, rfl, ho0, hb⟩; refine ⟨_, rfl, ?_⟩; have n_ := b_ (Kd.R_lower ho0 (below_size (hB_))) <| c_ (below_step (hB_) hb); clear HB; obtain ⟨HO1163, HB⟩ := n_; (try clear ho0)))
  go_loopg [4, 5] k (fun kq v4 v5 w' => ∃ (x3_1 : List Int) (x4_1 : Int) (x5_1 : Int), v4 = .int .i64 x4_1 ∧ v5 = .int .i64 x5_1 ∧ Aside0 (impl_InvNtt.l0 kq x3_1 x4_1 x5_1 = some r) ∧ Aside0 (kq ≤ k) ∧ Aside0 (Kd.R (Kd.int .i64) 3 w' w.heap.size (fun _ => True) v1162 x3_1) ∧ Aside0 (Below w.heap.size w w'))
  case atStart => exact ⟨(t1161), (127), (2), f0_, f0_, H', ⟨Nat.le_refl _⟩, ⟨rR_ HO1163.out⟩, ⟨hB_⟩⟩
  case round =>
   clear H'
   obtain ⟨x3_1, x4_1, x5_1, rfl, rfl, HA, HK1, HO_3, HB⟩ := hrel
   cases gk with
   | zero => exact absurd HA.out (by simp [impl_InvNtt.l0])
   | succ k1 =>
    have H := HA.out
    clear HA
    simp only [impl_InvNtt.l0] at H
    by_cases c6 : x5_1 ≤ 128
    rotate_left
    ·rw [if_neg c6] at H
     have c6b0 := decide_eq_false c6
     clear c6
     have H' := Aside0.mk H
     clear H
     obtain ⟨Ao24, co24, eo24⟩ := Kd.R_slice HO_3.out
     subst eo24
     go_wp2
     go_loopg [73] k1 (fun kq v73 w' => ∃ (x3_2 : List Int) (x73_2 : Int), v73 = .int .i64 x73_2 ∧ Aside0 (impl_InvNtt.l3 kq x3_2 (x3_1.length : Int) x73_2 = some r) ∧ Aside0 (kq ≤ k1) ∧ Aside0 (Kd.R (Kd.int .i64) 3 w' w.heap.size (fun _ => True) (.slice Ao24 x3_1.length co24) x3_2) ∧ Aside0 (Below w.heap.size w w'))
     case atStart => exact ⟨(x3_1), (0), f0_, H', ⟨Nat.le_refl _⟩, ⟨rR_ HO_3.out⟩, ⟨hB_⟩⟩
     case round =>
      clear H'
      obtain ⟨x3_2, x73_2, rfl, HA, HK2, HO_3, HB⟩ := hrel
      have hl3_2 := (Kd.R_reads' HO_3.out).1
      rw [hl3_2] at HO_3
      (try simp only [hl3_2])
      cases gk with
      | zero => exact absurd HA.out (by simp [impl_InvNtt.l3])
      | succ k2 =>
       have H := HA.out
       clear HA
       simp only [impl_InvNtt.l3] at H
       by_cases c25 : x73_2 < (x3_1.length : Int)
       rotate_left
       ·rw [if_neg c25] at H
        have c25b0 := decide_eq_false c25
        (try simp only [hl3_2] at c25b0)
        clear c25
        obtain rfl := Option.some.inj H
        go_wp2
        go_ret
        exact ⟨_, f1_, rR_ HO_3.out, hB_⟩
       rw [if_pos c25] at H
       have c25b0 := decide_eq_true c25
       (try simp only [hl3_2] at c25b0)
       clear c25
       obtain ⟨c26b0, H⟩ := iD_ H
       obtain ⟨c27, H⟩ := iN_ H
       have c27b0 := decide_eq_true c27
       (try simp only [hl3_2] at c27b0)
       clear c27
       obtain ⟨t1174, A28, H⟩ := bN_ H
       obtain ⟨y1175, hy1175⟩ : ∃ y_ : List Int, y_ = (x3_2.set (x73_2 : Int).toNat t1174) := ⟨_, rfl⟩
       first | replace H := yb_ hy1175 H | rw [← hy1175] at H
       have Ny1175 := Aside0.mk hy1175
       clear hy1175
       have H' := Aside0.mk H
       clear H
       have p1173 : 0 ≤ (x73_2 : Int) := oD_
       have q1173 : x73_2 < (x3_2.length : Int) := oD_
       obtain ⟨ad1173, e1173, hx1173_0⟩ := Kd.at_int (Kd.R_reads' HO_3.out).2.2 x73_2 p1173 q1173
       cases e1173
       replace p1173 := eq_true p1173
       replace q1173 := eq_true q1173
       go_wp2_with (first | ((with_reducible refine gate_callee (f := 33) rfl ?_); refine goesL_ (some 83) rfl rfl Try.func33 (by kernel_rfl) rfl #[.int .i64 (wrap64 ((rd x3_2 x73_2) * 3303))] rfl aM_ ?_; (with_reducible refine (impl_modQ.calls (wrap64 ((rd x3_2 x73_2) * 3303)) t1174 _ A28.out).mono ?_); rintro e w' ⟨rfl, ⟨nd, rfl⟩⟩; refine ⟨_, rfl, ?_⟩; (try (rw [drewN_self wr]; generalize hq_ : World.drewN wr _ = wr; have n_ := b_ (show Kd.R (Kd.int .i64) 3 wr w.heap.size (fun _ => True) (.slice (some ad1173) x3_2.length co24) x3_2 from by rw [← hq_]; exact (rR_ HO_3.out)) <| c_ (show Below w.heap.size w wr from by rw [← hq_]; exact (hB_)); clear HO_3 HB hq_; obtain ⟨HO_3, HB⟩ := n_)); have p29 : 0 ≤ (x73_2 : Int) := oD_; have q29 : (x73_2 : Int) < ((x3_2.length : Int) : Int) := oD_; obtain ⟨go29, co29, eo29, gb29, gl29, cl29, HG29⟩ := Kd.R_form HO_3.out (by omega); (first | cases eo29 | (injection eo29 with ea_ en_ ec_; (first | subst ea_ | (injection ea_ with ea_; subst ea_)); subst ec_; clear en_)); have GB29 := Aside0.mk gb29; have GG29 := Aside0.mk HG29; clear gb29 gl29 HG29; (first | simp only [add_plain] at hx1173_0 | skip); obtain ⟨hx29_0, hf29_0⟩ := Kd.R_celln 0 HO_3.out (x73_2 : Int) p29 q29; replace p29 := eq_true p29; replace q29 := eq_true q29; obtain ⟨hy30_, hz30_⟩ := Kd.R_celln 0 HO_3.out (x73_2 : Int) oD_ oD_; have HP30 := Kd.R_putg HO_3.out (x73_2 : Int) t1174) | ((with_reducible refine gate_store (t := 3) (p := 84) rfl ?_); refine store_event (t := 3) (p := 84) (v := ?vo_w31) (w1 := (wr.setCell ⟨go29, (x73_2 : Int).toNat, none⟩ (.int .i64 t1174))) ?hg ?ho ?hn ?hr ?_; (case ho => rfl); (case hg => rfl); (case hn => rfl); (case hr => first | (go_simp; done) | (go_simp; rfl)); intro w31 hw; have hg : wr.grownBy w31 (some go29) := (by rw [hw]; exact HP30.2); have hp_ : Kd.R (Kd.int .i64) 3 w31 w.heap.size (fun _ => True) (.slice (some ⟨go29, 0, none⟩) x3_2.length co24) y1175 := (by rw [hw, Ny1175.out]; exact HP30.1); clear HP30; have n_ := b_ (hp_) <| c_ (by rw [hw]; exact below_set (HB.out) GB29.out : Below w.heap.size w w31); clear HO_3 HB; obtain ⟨HO_3, HB⟩ := n_; clear hg hw hp_))
       (try simp only [← hl3_2])
       go_roundg k2
       case measure => have := HK1.out; have := HK2.out; omega
       case rel => exact ⟨(y1175), (wrap64 (x73_2 + 1)), f0_, H', ⟨by have := HK1.out; have := HK2.out; omega⟩, ⟨by (try simp only [hl3_2]); refine kR_ ?_; exact HO_3.out⟩, ⟨hB_⟩⟩
    rw [if_pos c6] at H
    have c6b0 := decide_eq_true c6
    clear c6
    have H' := Aside0.mk H
    clear H
    go_wp2
    go_loopg [4, 6] k1 (fun kq v4 v6 w' => ∃ (x3_2 : List Int) (x4_2 : Int) (x6_2 : Int), v4 = .int .i64 x4_2 ∧ v6 = .int .i64 x6_2 ∧ Aside0 (impl_InvNtt.l1 kq x3_2 x4_2 x5_1 x6_2 = some r) ∧ Aside0 (kq ≤ k1) ∧ Aside0 (Kd.R (Kd.int .i64) 3 w' w.heap.size (fun _ => True) v1162 x3_2) ∧ Aside0 (Below w.heap.size w w'))
    case atStart => exact ⟨(x3_1), (x4_1), (0), f0_, f0_, H', ⟨Nat.le_refl _⟩, ⟨rR_ HO_3.out⟩, ⟨hB_⟩⟩
    case round =>
     clear H'
     obtain ⟨x3_2, x4_2, x6_2, rfl, rfl, HA, HK2, HO_3, HB⟩ := hrel
     cases gk with
     | zero => exact absurd HA.out (by simp [impl_InvNtt.l1])
     | succ k2 =>
      have H := HA.out
      clear HA
      simp only [impl_InvNtt.l1] at H
      by_cases c7 : x6_2 < 256
      rotate_left
      ·rw [if_neg c7] at H
       have c7b0 := decide_eq_false c7
       clear c7
       have H' := Aside0.mk H
       clear H
       go_wp2
       go_roundg k2
       case measure => have := HK1.out; have := HK2.out; omega
       case rel => exact ⟨(x3_2), (x4_2), (wrap64 (x5_1 * 2)), f0_, f0_, H', ⟨by have := HK1.out; have := HK2.out; omega⟩, ⟨rR_ HO_3.out⟩, ⟨hB_⟩⟩
      rw [if_pos c7] at H
      have c7b0 := decide_eq_true c7
      clear c7
      obtain ⟨t1164, A8, H⟩ := bN_ H
      obtain ⟨t1165, A9, H⟩ := bN_ H
      have H' := Aside0.mk H
      clear H
      go_wp2_with (first | ((with_reducible refine gate_callee (f := 99) rfl ?_); refine goesL_ (some 27) rfl rfl Try.func99 (by kernel_rfl) rfl #[.int .i64 x4_2] rfl aM_ ?_; (with_reducible refine (impl_Turn7.calls k2 x4_2 t1164 _ A8.out).mono ?_); rintro e w' ⟨rfl, ⟨nd, rfl⟩⟩; refine ⟨_, rfl, ?_⟩) | ((with_reducible refine gate_callee (f := 98) rfl ?_); refine goesL_ (some 28) rfl rfl Try.func98 (by kernel_rfl) rfl #[.int .i64 17, .int .i64 t1164] rfl aM_ ?_; (with_reducible refine (impl_PowQ.calls k2 17 t1164 t1165 _ A9.out).mono ?_); rintro e w' ⟨rfl, ⟨nd, rfl⟩⟩; refine ⟨_, rfl, ?_⟩))
      go_loopg [8] k2 (fun kq v8 w' => ∃ (x3_3 : List Int) (x8_3 : Int), v8 = .int .i64 x8_3 ∧ Aside0 (impl_InvNtt.l2 kq x3_3 (wrap64 (x4_2 - 1)) x5_1 x6_2 t1165 x8_3 = some r) ∧ Aside0 (kq ≤ k2) ∧ Aside0 (Kd.R (Kd.int .i64) 3 w' w.heap.size (fun _ => True) v1162 x3_3) ∧ Aside0 (Below w.heap.size w w'))
      case atStart => exact ⟨(x3_2), (x6_2), f0_, H', ⟨Nat.le_refl _⟩, ⟨rR_ HO_3.out⟩, ⟨hB_⟩⟩
      case round =>
       clear H'
       obtain ⟨x3_3, x8_3, rfl, HA, HK3, HO_3, HB⟩ := hrel
       cases gk with
       | zero => exact absurd HA.out (by simp [impl_InvNtt.l2])
       | succ k3 =>
        have H := HA.out
        clear HA
        simp only [impl_InvNtt.l2] at H
        by_cases c10 : x8_3 < (wrap64 (x6_2 + x5_1))
        rotate_left
        ·rw [if_neg c10] at H
         have c10b0 := decide_eq_false c10
         clear c10
         have H' := Aside0.mk H
         clear H
         go_wp2
         go_roundg k3
         case measure => have := HK1.out; have := HK2.out; have := HK3.out; omega
         case rel => exact ⟨(x3_3), ((wrap64 (x4_2 - 1))), (wrap64 (x6_2 + (wrap64 (2 * x5_1)))), f0_, f0_, H', ⟨by have := HK1.out; have := HK2.out; have := HK3.out; omega⟩, ⟨rR_ HO_3.out⟩, ⟨hB_⟩⟩
        rw [if_pos c10] at H
        have c10b0 := decide_eq_true c10
        clear c10
        obtain ⟨c11b0, H⟩ := iD_ H
        obtain ⟨c12b0, H⟩ := iD_ H
        obtain ⟨ji13, hji13⟩ : ∃ j_ : Int, (wrap64 (x8_3 + x5_1)) = j_ := ⟨_, rfl⟩
        first | rw [hji13] at H | simp only [hji13] at H
        have hji13w : (IntKind.i64.wrap (x8_3 + x5_1)) = ji13 := (i64_w _).trans hji13
        obtain ⟨c14b0, H⟩ := iD_ H
        obtain ⟨c15b0, H⟩ := iD_ H
        obtain ⟨t1168, A16, H⟩ := bN_ H
        obtain ⟨t1170, A17, H⟩ := bN_ H
        obtain ⟨y1171, hy1171⟩ : ∃ y_ : List Int, y_ = (x3_3.set (x8_3 : Int).toNat t1168) := ⟨_, rfl⟩
        first | replace H := yb_ hy1171 H | rw [← hy1171] at H
        have Ny1171 := Aside0.mk hy1171
        clear hy1171
        obtain ⟨y1172, hy1172⟩ : ∃ y_ : List Int, y_ = (y1171.set ((ji13) : Int).toNat t1170) := ⟨_, rfl⟩
        first | replace H := yb_ hy1172 H | rw [← hy1172] at H
        have Ny1172 := Aside0.mk hy1172
        clear hy1172
        have H' := Aside0.mk H
        clear H
        obtain ⟨Ao20, co20, eo20⟩ := Kd.R_slice HO_3.out
        subst eo20
        have p1166 : 0 ≤ (x8_3 : Int) := oD_
        have q1166 : x8_3 < (x3_3.length : Int) := oD_
        obtain ⟨ad1166, e1166, hx1166_0⟩ := Kd.at_int (Kd.R_reads' HO_3.out).2.2 x8_3 p1166 q1166
        cases e1166
        replace p1166 := eq_true p1166
        replace q1166 := eq_true q1166
        try go_wp2
        have n_ := b_ (Kd.R_drew HO_3.out) <| c_ (below_drew1 HB.out)
        clear HO_3 HB
        obtain ⟨HO_3, HB⟩ := n_
        have p1167 : 0 ≤ ((ji13) : Int) := oD_
        have q1167 : (ji13) < (x3_3.length : Int) := oD_
        obtain ⟨ad1167, e1167, hx1167_0⟩ := Kd.at_int (Kd.R_reads' HO_3.out).2.2 (ji13) p1167 q1167
        obtain rfl : ad1166 = ad1167 := (by injection e1167)
        replace p1167 := eq_true p1167
        replace q1167 := eq_true q1167
        have p1169 : 0 ≤ ((ji13) : Int) := oD_
        have q1169 : (ji13) < (x3_3.length : Int) := oD_
        obtain ⟨ad1169, e1169, hx1169_0⟩ := Kd.at_int (Kd.R_reads' HO_3.out).2.2 (ji13) p1169 q1169
        obtain rfl : ad1166 = ad1169 := (by injection e1169)
        replace p1169 := eq_true p1169
        replace q1169 := eq_true q1169
        refine start_ (n := 30) (S := fun w' => w'.cell? (ad1166.add ((ji13)).toNat) = some (.int .i64 (rd x3_3 (ji13))) ∧ w'.cell? (ad1166.add ((ji13)).toNat) = some (.int .i64 (rd x3_3 (ji13)))) (ds := [27, 29]) (bb_ 30 0) (by kernel_rfl) rfl rfl ⟨hx1167_0, hx1169_0⟩ (fun hHeld => ?_); refine with_tabW impl_InvNtt.tab17 impl_InvNtt.bits17 (fun HT_ HW_ => ?_)
        generalize wr.drew = w21 at HO_3 HB hx1167_0 hx1169_0 hHeld ⊢
        refine pS_ 0 43 (bb_ 30 1) HT_.out ?_
        refine pS_ 1 44 (bb_ 30 3) HT_.out ?_
        refine pS_ 2 45 (bb_ 30 7) HT_.out ?_
        refine pS_ 3 46 (bb_ 30 15) HT_.out ?_
        refine pS_ 4 47 (bb_ 30 31) HT_.out ?_
        refine pS_ 5 48 (bb_ 30 63) HT_.out ?_
        refine pS_ 6 49 (bb_ 30 127) HT_.out ?_
        refine pS_ 7 50 (bb_ 30 255) HT_.out ?_
        refine pS_ 8 51 (bb_ 30 511) HT_.out ?_
        refine pS_ 9 52 (bb_ 30 1023) HT_.out ?_
        refine pS_ 10 53 (bb_ 30 2047) HT_.out ?_
        refine pS_ 11 54 (bb_ 30 4095) HT_.out ?_
        refine pS_ 15 58 (bb_ 30 36863) HT_.out ?_
        refine pS_ 16 59 (bb_ 30 102399) HT_.out ?_
        refine pS_ 17 60 (bb_ 30 233471) HT_.out ?_
        refine pS_ 18 61 (bb_ 30 495615) HT_.out ?_
        refine pS_ 19 62 (bb_ 30 1019903) HT_.out ?_
        refine pS_ 20 63 (bb_ 30 2068479) HT_.out ?_
        refine pS_ 22 65 (bb_ 30 6262783) HT_.out ?_
        refine tS_ 12 55 (bb_ 30 6266879) (take_ofW HT_.out HW_.out (by kernel_rfl)) hHeld ?_
        refine pS_ 13 56 (bb_ 30 6275071) HT_.out ?_
        refine tS_ 21 64 (bb_ 30 8372223) (take_ofW HT_.out HW_.out (by kernel_rfl)) hHeld ?_
        refine pS_ 23 66 (bb_ 30 16760831) HT_.out ?_
        refine pS_ 24 67 (bb_ 30 33538047) HT_.out ?_
        refine one_ (i := 14) (N := some 57) (bb_ 30 33554431) rfl rfl (one_of HT_.out (by kernel_rfl)) (by decide) (fun K hK => ?_)
        refine goes_ Try.func33 (by kernel_rfl) rfl #[.int .i64 (wrap64 ((rd x3_3 x8_3) + (rd x3_3 (ji13))))] (by rfl) rfl rfl (by (try simp only [List.map_toArray, List.map_cons, List.map_nil]); first | done | (simp only [hji13]; rfl) | rfl | (simp only [List.length_drop, List.length_take]; rfl)) ?_
        with_reducible refine (impl_modQ.calls (wrap64 ((rd x3_3 x8_3) + (rd x3_3 (ji13)))) t1168 _ A16.out).mono ?_
        rintro e w' ⟨rfl, ⟨nd, rfl⟩⟩
        refine ⟨_, rfl, ?_⟩
        refine hK.out _ _ ⟨hHeld.1, hHeld.2⟩ (fun hHeld => ?_)
        clear hK K
        refine norm_ (a' := ?_) ?_ ?_
        rotate_left
        ·show Act.put _ (some 57) _ = _
         simp only [Act.put, List.setIfInBounds_toArray, List.set_cons_zero, List.set_cons_succ, i64_w, i32_w]
         rfl
        refine one_ (i := 25) (N := some 68) (bb_ 30 67108863) rfl rfl (one_of HT_.out (by kernel_rfl)) (by decide) (fun K hK => ?_)
        refine goes_ Try.func33 (by kernel_rfl) rfl #[.int .i64 (wrap64 (t1165 * (wrap64 ((rd x3_3 (ji13)) - (rd x3_3 x8_3)))))] (by rfl) rfl rfl (by (try simp only [List.map_toArray, List.map_cons, List.map_nil]); first | done | (simp only [hji13]; rfl) | rfl | (simp only [List.length_drop, List.length_take]; rfl)) ?_
        with_reducible refine (impl_modQ.calls (wrap64 (t1165 * (wrap64 ((rd x3_3 (ji13)) - (rd x3_3 x8_3))))) t1170 _ A17.out).mono ?_
        rintro e w' ⟨rfl, ⟨nd, rfl⟩⟩
        refine ⟨_, rfl, ?_⟩
        have p18 : 0 ≤ (x8_3 : Int) := oD_
        have q18 : (x8_3 : Int) < ((x3_3.length : Int) : Int) := oD_
        obtain ⟨go18, co18, eo18, gb18, gl18, cl18, HG18⟩ := Kd.R_form HO_3.out (by omega)
        (first | cases eo18 | (injection eo18 with ea_ en_ ec_; (first | subst ea_ | (injection ea_ with ea_; subst ea_)); subst ec_; clear en_))
        have GB18 := Aside0.mk gb18
        have GG18 := Aside0.mk HG18
        clear gb18 gl18 HG18
        (first | simp only [add_plain] at hx1166_0 | skip)
        (first | simp only [add_plain] at hx1167_0 | skip)
        (first | simp only [add_plain] at hx1169_0 | skip)
        obtain ⟨hx18_0, hf18_0⟩ := Kd.R_celln 0 HO_3.out (x8_3 : Int) p18 q18
        replace p18 := eq_true p18
        replace q18 := eq_true q18
        have HP22 := Kd.R_putn HO_3.out (x8_3 : Int) t1168
        rw [← Ny1171.out] at HP22
        have HQ22 := Aside0.mk HP22
        clear HP22
        have p19 : 0 ≤ ((ji13) : Int) := oD_
        have q19 : ((ji13) : Int) < ((x3_3.length : Int) : Int) := oD_
        obtain ⟨hx19_0, hf19_0⟩ := Kd.R_celln 0 HQ22.out ((ji13) : Int) p19 q19
        (first | simp only [impl_InvNtt.frozen_setCell] at hf19_0 | skip)
        replace p19 := eq_true p19
        replace q19 := eq_true q19
        have HP23 := Kd.R_putn HQ22.out ((ji13) : Int) t1170
        rw [← Ny1172.out] at HP23
        have HQ23 := Aside0.mk HP23
        clear HP23
        refine hK.out _ _ ⟨hHeld.1, hHeld.2⟩ (fun hHeld => ?_)
        clear hK K
        refine norm_ (a' := ?_) ?_ ?_
        rotate_left
        ·show Act.put _ (some 68) _ = _
         simp only [Act.put, List.setIfInBounds_toArray, List.set_cons_zero, List.set_cons_succ, i64_w, i32_w]
         rfl
        refine pS_ 26 69 (bb_ 30 134217727) HT_.out ?_
        refine last_ (i := 27) (N := none) (bb_ 30 268435455) rfl rfl (one_of HT_.out (by kernel_rfl)) (by decide) (fun K hK => ?_)
        refine skip_ (w1 := ?_) (by rfl) rfl ?_ ?_
        rotate_left
        ·go_simp
         rfl
        refine hK.out _ _ ?_
        clear hK K
        refine pS_ 28 70 (bb_ 30 536870911) HT_.out ?_
        refine last_ (i := 29) (N := none) (bb_ 30 1073741823) rfl rfl (one_of HT_.out (by kernel_rfl)) (by decide) (fun K hK => ?_)
        refine skip_ (w1 := ?_) (by rfl) rfl ?_ ?_
        rotate_left
        ·go_simp
         rfl
        refine hK.out _ _ ?_
        clear hK K
        refine done_ (done_of HT_.out (by kernel_rfl)) ?_
        try go_wp2
        go_roundg k3
        case measure => have := HK1.out; have := HK2.out; have := HK3.out; omega
        case rel => exact ⟨(y1172), (wrap64 (x8_3 + 1)), f0_, H', ⟨by have := HK1.out; have := HK2.out; have := HK3.out; omega⟩, ⟨rR_ HQ23.out⟩, ⟨(u4_ GB18.out GB18.out)⟩⟩
 ·replace c3 := Bool.eq_false_iff.mpr c3
  subst c3
  replace H := iF_ H
  obtain rfl := Option.some.inj H
  go_enter Try.func64, Try.ntmps64
  go_wp2_with (first | ((with_reducible refine gate_callee (f := 17) rfl ?_); refine goesL_ (some 12) rfl rfl Try.func17 (by kernel_rfl) rfl #[.slice A0 l0.length c0] rfl aM_ ?_; (with_reducible refine (impl_PolyOk.calls k _ _ l0 false _ ?side1 ?side2 A2.out).mono ?_); (case side1 => exact cR_ HR0.out); (case side2 => exact HC0.out); rintro e w' ⟨rfl, ⟨nd, rfl⟩⟩; refine ⟨_, rfl, ?_⟩))
  go_ret
  exact ⟨_, f1_, by first | exact Kd.R_nil _ _ _ _ _ | exact Kd.N_nil _ _ _ _ _ | exact Kd.V_nil _ _ _ _ _ | exact Kd.Q_nil _ _ _ _ _ | exact Kd.S_nil _ _ _ _ _, hB_⟩

/-! ### impl_MulNtt: function 100 -/
mutual
def impl_MulNtt.j0 : Nat → List Int → List Int → Bool → Option (List Int)
 | 0, _, _, _ => none
 | k + 1, x0, x1, x19 => if x19 = true then (some ([] : List Int)) else (if 256 ≤ 35184372088832 then (impl_MulNtt.l0 k x0 x1 (List.replicate 256 0) 0) else (none))
def impl_MulNtt.l0 : Nat → List Int → List Int → List Int → Int → Option (List Int)
 | 0, _, _, _, _ => none
 | k + 1, x0, x1, x5, x21 => if x21 < 128 then ((impl_Turn7.f k x21).bind fun t1181 => ((impl_PowQ.f k 17 (wrap64 ((wrap64 (2 * t1181)) + 1))).bind fun t1182 => (if 0 ≤ (wrap64 (2 * x21)) then (if (wrap64 (2 * x21)) < (x0.length : Int) then (if 0 ≤ (wrap64 ((wrap64 (2 * x21)) + 1)) then (if (wrap64 ((wrap64 (2 * x21)) + 1)) < (x0.length : Int) then (if (wrap64 (2 * x21)) < (x1.length : Int) then (if (wrap64 ((wrap64 (2 * x21)) + 1)) < (x1.length : Int) then ((impl_modQ.f (wrap64 ((wrap64 ((rd x0 (wrap64 (2 * x21))) * (rd x1 (wrap64 (2 * x21))))) + (wrap64 ((Int.tmod (wrap64 ((rd x0 (wrap64 ((wrap64 (2 * x21)) + 1))) * (rd x1 (wrap64 ((wrap64 (2 * x21)) + 1))))) 3329) * t1182))))).bind fun t1187 => (if (wrap64 (2 * x21)) < (x5.length : Int) then ((impl_modQ.f (wrap64 ((wrap64 ((rd x0 (wrap64 (2 * x21))) * (rd x1 (wrap64 ((wrap64 (2 * x21)) + 1))))) + (wrap64 ((rd x0 (wrap64 ((wrap64 (2 * x21)) + 1))) * (rd x1 (wrap64 (2 * x21)))))))).bind fun t1189 => (if (wrap64 ((wrap64 (2 * x21)) + 1)) < (x5.length : Int) then (impl_MulNtt.l0 k x0 x1 ((x5.set ((wrap64 (2 * x21)) : Int).toNat t1187).set ((wrap64 ((wrap64 (2 * x21)) + 1)) : Int).toNat t1189) (wrap64 (x21 + 1))) else (none))) else (none))) else (none)) else (none)) else (none)) else (none)) else (none)) else (none)))) else (some x5)
end
def impl_MulNtt.f (k : Nat) (l0 : List Int) (l1 : List Int) : Option (List Int) := (impl_PolyOk.f k l0).bind fun t1176 => (if t1176 = true then ((impl_PolyOk.f k l1).bind fun t1177 => (impl_MulNtt.j0 k l0 l1 (!t1177))) else (impl_MulNtt.j0 k l0 l1 true))
theorem impl_MulNtt.mono_l : ∀ k, (∀ y0 y1 y2, LeO (impl_MulNtt.j0 k y0 y1 y2) (impl_MulNtt.j0 (k + 1) y0 y1 y2)) ∧ (∀ y0 y1 y2 y3, LeO (impl_MulNtt.l0 k y0 y1 y2 y3) (impl_MulNtt.l0 (k + 1) y0 y1 y2 y3))
 | 0 => ⟨fun _ _ _ r h => by simp [impl_MulNtt.j0] at h, fun _ _ _ _ r h => by simp [impl_MulNtt.l0] at h⟩
 | k + 1 => by
  obtain ⟨ih0, ih1⟩ := impl_MulNtt.mono_l k
  refine ⟨?_, ?_⟩ <;> (intros; (first | unfold impl_MulNtt.j0 | unfold impl_MulNtt.l0); exact o5_ ih0 ih1 impl_PolyOk.mono impl_PowQ.mono impl_Turn7.mono)
theorem impl_MulNtt.mono : ∀ a0 a1 k, LeO (impl_MulNtt.f k a0 a1) (impl_MulNtt.f (k + 1) a0 a1) := by
 intro a0 a1 k
 obtain ⟨ih0, ih1⟩ := impl_MulNtt.mono_l k
 unfold impl_MulNtt.f
 exact o5_ ih0 ih1 impl_PolyOk.mono impl_PowQ.mono impl_Turn7.mono
theorem impl_MulNtt.calls (k : Nat) (A0 : Option Addr) (c0 : Nat) (l0 : List Int) (A1 : Option Addr) (c1 : Nat) (l1 : List Int) (r : List Int) (w : World) (hr0 : Kd.C (Kd.int .i64) w A0 l0.length l0) (hc0 : l0.length ≤ c0) (hr1 : Kd.C (Kd.int .i64) w A1 l1.length l1) (hc1 : l1.length ≤ c1) (h : impl_MulNtt.f k l0 l1 = some r) :
  Calls Try.prog 100 #[.slice A0 l0.length c0, .slice A1 l1.length c1] w fun e w' => ∃ v0_ : Value, e = .returned (v0_) ∧ Kd.R (Kd.int .i64) 3 w' w.heap.size (fun _ => True) v0_ r ∧ Below w.heap.size w w' := by
 have HR0 := Aside0.mk hr0
 have HC0 := Aside0.mk hc0
 clear hr0 hc0
 have HR1 := Aside0.mk hr1
 have HC1 := Aside0.mk hc1
 clear hr1 hc1
 have HB := Aside0.mk (Below.refl w.heap.size w)
 delta impl_MulNtt.f at h
 have H := h
 clear h
 have HC3 := Aside0.mk H
 clear H
 go_enter Try.func100, Try.ntmps100
 go_upto_region 1 with (fail)
 repeat (go_quiet (fail); go_upto_region 1 with (fail))
 go_cut [19] (fun v19 wc => ∃ (kq : Nat) (x19_2 : Bool), v19 = .bool x19_2 ∧ Aside0 (impl_MulNtt.j0 kq l0 l1 x19_2 = some r) ∧ Aside0 (kq ≤ k) ∧ Aside0 (Below w.heap.size w wc))
 case first =>
  have H := HC3.out
  clear HC3
  obtain ⟨t1176, A4, H⟩ := bN_ H
  by_cases c5 : t1176 = true
  ·subst c5
   replace H := iT_ H
   obtain ⟨t1177, A6, H⟩ := bN_ H
   have H' := Aside0.mk H
   clear H
   go_wp2_with (first | (go_at_call 17; (with_reducible refine (impl_PolyOk.calls k _ _ l0 true _ ?side1 ?side2 A4.out).mono ?_); (case side1 => exact cR_ (Kd.C_below HR0.out HB.out)); (case side2 => exact HC0.out); rintro e w' ⟨rfl, ⟨nd, rfl⟩⟩; (try first | exact ⟨rfl, _, World.drewN_drewN _ _ _⟩ | exact ⟨rfl, _, Eq.trans (World.drewN_drewN _ _ _) (congrArg (World.drewN _) (Nat.add_assoc _ _ _))⟩)) | (go_at_call 17; (with_reducible refine (impl_PolyOk.calls k _ _ l1 t1177 _ ?side1 ?side2 A6.out).mono ?_); (case side1 => exact cR_ (Kd.C_below HR1.out (hB_))); (case side2 => exact HC1.out); rintro e w' ⟨rfl, ⟨nd, rfl⟩⟩; (try first | exact ⟨rfl, _, World.drewN_drewN _ _ _⟩ | exact ⟨rfl, _, Eq.trans (World.drewN_drewN _ _ _) (congrArg (World.drewN _) (Nat.add_assoc _ _ _))⟩)))
   repeat (go_quiet (first | (go_at_call 17; (with_reducible refine (impl_PolyOk.calls k _ _ l0 true _ ?side1 ?side2 A4.out).mono ?_); (case side1 => exact cR_ (Kd.C_below HR0.out HB.out)); (case side2 => exact HC0.out); rintro e w' ⟨rfl, ⟨nd, rfl⟩⟩; (try first | exact ⟨rfl, _, World.drewN_drewN _ _ _⟩ | exact ⟨rfl, _, Eq.trans (World.drewN_drewN _ _ _) (congrArg (World.drewN _) (Nat.add_assoc _ _ _))⟩)) | (go_at_call 17; (with_reducible refine (impl_PolyOk.calls k _ _ l1 t1177 _ ?side1 ?side2 A6.out).mono ?_); (case side1 => exact cR_ (Kd.C_below HR1.out (hB_))); (case side2 => exact HC1.out); rintro e w' ⟨rfl, ⟨nd, rfl⟩⟩; (try first | exact ⟨rfl, _, World.drewN_drewN _ _ _⟩ | exact ⟨rfl, _, Eq.trans (World.drewN_drewN _ _ _) (congrArg (World.drewN _) (Nat.add_assoc _ _ _))⟩))); try go_wp2_with (first | (go_at_call 17; (with_reducible refine (impl_PolyOk.calls k _ _ l0 true _ ?side1 ?side2 A4.out).mono ?_); (case side1 => exact cR_ (Kd.C_below HR0.out HB.out)); (case side2 => exact HC0.out); rintro e w' ⟨rfl, ⟨nd, rfl⟩⟩; (try first | exact ⟨rfl, _, World.drewN_drewN _ _ _⟩ | exact ⟨rfl, _, Eq.trans (World.drewN_drewN _ _ _) (congrArg (World.drewN _) (Nat.add_assoc _ _ _))⟩)) | (go_at_call 17; (with_reducible refine (impl_PolyOk.calls k _ _ l1 t1177 _ ?side1 ?side2 A6.out).mono ?_); (case side1 => exact cR_ (Kd.C_below HR1.out (hB_))); (case side2 => exact HC1.out); rintro e w' ⟨rfl, ⟨nd, rfl⟩⟩; (try first | exact ⟨rfl, _, World.drewN_drewN _ _ _⟩ | exact ⟨rfl, _, Eq.trans (World.drewN_drewN _ _ _) (congrArg (World.drewN _) (Nat.add_assoc _ _ _))⟩))))
   go_meet
   case rel => exact ⟨_, (!t1177), f0_, H', ⟨by first | omega | exact Nat.le_refl _⟩, ⟨hB_⟩⟩
  ·replace c5 := Bool.eq_false_iff.mpr c5
   subst c5
   replace H := iF_ H
   have H' := Aside0.mk H
   clear H
   go_wp2_with (first | (go_at_call 17; (with_reducible refine (impl_PolyOk.calls k _ _ l0 false _ ?side1 ?side2 A4.out).mono ?_); (case side1 => exact cR_ (Kd.C_below HR0.out HB.out)); (case side2 => exact HC0.out); rintro e w' ⟨rfl, ⟨nd, rfl⟩⟩; (try first | exact ⟨rfl, _, World.drewN_drewN _ _ _⟩ | exact ⟨rfl, _, Eq.trans (World.drewN_drewN _ _ _) (congrArg (World.drewN _) (Nat.add_assoc _ _ _))⟩)))
   repeat (go_quiet (first | (go_at_call 17; (with_reducible refine (impl_PolyOk.calls k _ _ l0 false _ ?side1 ?side2 A4.out).mono ?_); (case side1 => exact cR_ (Kd.C_below HR0.out HB.out)); (case side2 => exact HC0.out); rintro e w' ⟨rfl, ⟨nd, rfl⟩⟩; (try first | exact ⟨rfl, _, World.drewN_drewN _ _ _⟩ | exact ⟨rfl, _, Eq.trans (World.drewN_drewN _ _ _) (congrArg (World.drewN _) (Nat.add_assoc _ _ _))⟩))); try go_wp2_with (first | (go_at_call 17; (with_reducible refine (impl_PolyOk.calls k _ _ l0 false _ ?side1 ?side2 A4.out).mono ?_); (case side1 => exact cR_ (Kd.C_below HR0.out HB.out)); (case side2 => exact HC0.out); rintro e w' ⟨rfl, ⟨nd, rfl⟩⟩; (try first | exact ⟨rfl, _, World.drewN_drewN _ _ _⟩ | exact ⟨rfl, _, Eq.trans (World.drewN_drewN _ _ _) (congrArg (World.drewN _) (Nat.add_assoc _ _ _))⟩))))
   go_meet
   case rel => exact ⟨_, (true), f0_, H', ⟨by first | omega | exact Nat.le_refl _⟩, ⟨hB_⟩⟩
 case rest =>
  clear HC3
  obtain ⟨kq, x19_2, rfl, HA, HJ2, HB⟩ := hcut
  cases kq with
  | zero => exact absurd HA.out (by simp [impl_MulNtt.j0])
  | succ kj2 =>
   have H := HA.out
   clear HA
   simp only [impl_MulNtt.j0] at H
   by_cases c7 : x19_2 = true
   ·subst c7
    replace H := iT_ H
    obtain rfl := Option.some.inj H
    go_wp2
    repeat (go_quiet (fail); try go_wp2)
    go_ret
    exact ⟨_, f1_, by first | exact Kd.R_nil _ _ _ _ _ | exact Kd.N_nil _ _ _ _ _ | exact Kd.V_nil _ _ _ _ _ | exact Kd.Q_nil _ _ _ _ _ | exact Kd.S_nil _ _ _ _ _, hB_⟩
   ·replace c7 := Bool.eq_false_iff.mpr c7
    subst c7
    replace H := iF_ H
    obtain ⟨c8, H⟩ := iN_ H
    have c8b0 := eq_true c8
    have c8b1 := decide_eq_true c8
    clear c8
    obtain ⟨y1178, hy1178⟩ : ∃ y_ : List Int, y_ = (List.replicate 256 0) := ⟨_, rfl⟩
    first | replace H := yb_ hy1178 H | rw [← hy1178] at H
    have Ny1178 := Aside0.mk hy1178
    clear hy1178
    have H' := Aside0.mk H
    clear H
    go_wp2_with (first | ((with_reducible refine gate_dst (N := 20) rfl ?_); refine Kd.R_make (Kd.int .i64) _ 3 rfl (N := 20) rfl 22 _ _ rfl 256 rfl rfl Try.underlying22 (.int .i64 0) 8 info3 rfl (by decide) (by omega) 0 (ok := fun _ => True) (okp := fun _ => True) rfl (fun _ hk => hk) trivial (by omega) (by omega) (Below.refl _ _) (Nat.le_refl _) ?_; intro v1179 w9 ho10 hb hg_ hnew_; clear hg_ hnew_; (first | rw [← Ny1178.out] at ho10 | (simp only [Int.reduceToNat] at ho10; rw [← Ny1178.out] at ho10)); have n_ := b_ (Kd.R_lower ho10 (below_size (hB_))) <| c_ (below_step (hB_) hb); clear HB; obtain ⟨HO1180, HB⟩ := n_; clear hb ho10))
    repeat (go_quiet (first | ((with_reducible refine gate_dst (N := 20) rfl ?_); refine Kd.R_make (Kd.int .i64) _ 3 rfl (N := 20) rfl 22 _ _ rfl 256 rfl rfl Try.underlying22 (.int .i64 0) 8 info3 rfl (by decide) (by omega) 0 (ok := fun _ => True) (okp := fun _ => True) rfl (fun _ hk => hk) trivial (by omega) (by omega) (Below.refl _ _) (Nat.le_refl _) ?_; intro v1179 w9 ho10 hb hg_ hnew_; clear hg_ hnew_; (first | rw [← Ny1178.out] at ho10 | (simp only [Int.reduceToNat] at ho10; rw [← Ny1178.out] at ho10)); have n_ := b_ (Kd.R_lower ho10 (below_size (hB_))) <| c_ (below_step (hB_) hb); clear HB; obtain ⟨HO1180, HB⟩ := n_; clear hb ho10)); try go_wp2_with (first | ((with_reducible refine gate_dst (N := 20) rfl ?_); refine Kd.R_make (Kd.int .i64) _ 3 rfl (N := 20) rfl 22 _ _ rfl 256 rfl rfl Try.underlying22 (.int .i64 0) 8 info3 rfl (by decide) (by omega) 0 (ok := fun _ => True) (okp := fun _ => True) rfl (fun _ hk => hk) trivial (by omega) (by omega) (Below.refl _ _) (Nat.le_refl _) ?_; intro v1179 w9 ho10 hb hg_ hnew_; clear hg_ hnew_; (first | rw [← Ny1178.out] at ho10 | (simp only [Int.reduceToNat] at ho10; rw [← Ny1178.out] at ho10)); have n_ := b_ (Kd.R_lower ho10 (below_size (hB_))) <| c_ (below_step (hB_) hb); clear HB; obtain ⟨HO1180, HB⟩ := n_; clear hb ho10)))
    go_loopg [21] kj2 (fun kq v21 w' => ∃ (x5_2 : List Int) (x21_2 : Int), v21 = .int .i64 x21_2 ∧ Aside0 (impl_MulNtt.l0 kq l0 l1 x5_2 x21_2 = some r) ∧ Aside0 (kq ≤ kj2) ∧ Aside0 (Kd.R (Kd.int .i64) 3 w' w.heap.size (fun _ => True) v1179 x5_2) ∧ Aside0 (Below w.heap.size w w'))
    case atStart => exact ⟨(y1178), (0), f0_, H', ⟨Nat.le_refl _⟩, ⟨rR_ HO1180.out⟩, ⟨hB_⟩⟩
    case round =>
     clear H'
     obtain ⟨x5_2, x21_2, rfl, HA, HK2, HO_5, HB⟩ := hrel
     cases gk with
     | zero => exact absurd HA.out (by simp [impl_MulNtt.l0])
     | succ k2 =>
      have H := HA.out
      clear HA
      simp only [impl_MulNtt.l0] at H
      by_cases c11 : x21_2 < 128
      rotate_left
      ·rw [if_neg c11] at H
       have c11b0 := decide_eq_false c11
       clear c11
       obtain rfl := Option.some.inj H
       go_wp2
       repeat (go_quiet (fail); try go_wp2)
       go_ret
       exact ⟨_, f1_, rR_ HO_5.out, hB_⟩
      rw [if_pos c11] at H
      have c11b0 := decide_eq_true c11
      clear c11
      obtain ⟨t1181, A12, H⟩ := bN_ H
      obtain ⟨t1182, A13, H⟩ := bN_ H
      obtain ⟨ji14, hji14⟩ : ∃ j_ : Int, (wrap64 (2 * x21_2)) = j_ := ⟨_, rfl⟩
      first | rw [hji14] at H | simp only [hji14] at H
      (try rw [hji14] at A12)
      (try rw [hji14] at A13)
      have hji14w : (IntKind.i64.wrap (2 * x21_2)) = ji14 := (i64_w _).trans hji14
      obtain ⟨c15b0, H⟩ := iD_ H
      obtain ⟨c16b0, H⟩ := iD_ H
      obtain ⟨ji17, hji17⟩ : ∃ j_ : Int, (wrap64 ((ji14) + 1)) = j_ := ⟨_, rfl⟩
      first | rw [hji17] at H | simp only [hji17] at H
      (try rw [hji17] at A12)
      (try rw [hji17] at A13)
      have hji17w : (IntKind.i64.wrap ((ji14) + 1)) = ji17 := (i64_w _).trans hji17
      obtain ⟨c18b0, H⟩ := iD_ H
      obtain ⟨c19b0, H⟩ := iD_ H
      obtain ⟨c20b0, H⟩ := iD_ H
      obtain ⟨c21b0, H⟩ := iD_ H
      obtain ⟨t1187, A22, H⟩ := bN_ H
      obtain ⟨c23b0, H⟩ := iD_ H
      obtain ⟨y1188, hy1188⟩ : ∃ y_ : List Int, y_ = (x5_2.set ((ji14) : Int).toNat t1187) := ⟨_, rfl⟩
      first | replace H := yb_ hy1188 H | rw [← hy1188] at H
      have Ny1188 := Aside0.mk hy1188
      clear hy1188
      obtain ⟨t1189, A25, H⟩ := bN_ H
      obtain ⟨c26b0, H⟩ := iD_ H
      obtain ⟨y1190, hy1190⟩ : ∃ y_ : List Int, y_ = (y1188.set ((ji17) : Int).toNat t1189) := ⟨_, rfl⟩
      first | replace H := yb_ hy1190 H | rw [← hy1190] at H
      have Ny1190 := Aside0.mk hy1190
      clear hy1190
      have H' := Aside0.mk H
      clear H
      go_wp2_with (first | (go_at_call 99; (with_reducible refine (impl_Turn7.calls k2 x21_2 t1181 _ A12.out).mono ?_); rintro e w' ⟨rfl, ⟨nd, rfl⟩⟩; (try first | exact ⟨rfl, _, World.drewN_drewN _ _ _⟩ | exact ⟨rfl, _, Eq.trans (World.drewN_drewN _ _ _) (congrArg (World.drewN _) (Nat.add_assoc _ _ _))⟩)) | (go_at_call 98; (with_reducible refine (impl_PowQ.calls k2 17 (wrap64 ((wrap64 (2 * t1181)) + 1)) t1182 _ A13.out).mono ?_); rintro e w' ⟨rfl, ⟨nd, rfl⟩⟩; (try first | exact ⟨rfl, _, World.drewN_drewN _ _ _⟩ | exact ⟨rfl, _, Eq.trans (World.drewN_drewN _ _ _) (congrArg (World.drewN _) (Nat.add_assoc _ _ _))⟩); have p1183 : 0 ≤ ((ji14) : Int) := oD_; have q1183 : (ji14) < (l0.length : Int) := oD_; obtain ⟨ad1183, e1183, hx1183_0⟩ := Kd.at_int HR0.out (ji14) p1183 q1183; cases e1183; replace hx1183_0 := (HB.out.cell (World.block_lt_of_cell? w _ hx1183_0)).trans hx1183_0; replace p1183 := eq_true p1183; replace q1183 := eq_true q1183; have p1184 : 0 ≤ ((ji17) : Int) := oD_; have q1184 : (ji17) < (l0.length : Int) := oD_; obtain ⟨ad1184, e1184, hx1184_0⟩ := Kd.at_int HR0.out (ji17) p1184 q1184; obtain rfl : ad1183 = ad1184 := (by injection e1184); replace hx1184_0 := (HB.out.cell (World.block_lt_of_cell? w _ hx1184_0)).trans hx1184_0; replace p1184 := eq_true p1184; replace q1184 := eq_true q1184; have p1185 : 0 ≤ ((ji14) : Int) := oD_; have q1185 : (ji14) < (l1.length : Int) := oD_; obtain ⟨ad1185, e1185, hx1185_0⟩ := Kd.at_int HR1.out (ji14) p1185 q1185; cases e1185; replace hx1185_0 := (HB.out.cell (World.block_lt_of_cell? w _ hx1185_0)).trans hx1185_0; replace p1185 := eq_true p1185; replace q1185 := eq_true q1185; have p1186 : 0 ≤ ((ji17) : Int) := oD_; have q1186 : (ji17) < (l1.length : Int) := oD_; obtain ⟨ad1186, e1186, hx1186_0⟩ := Kd.at_int HR1.out (ji17) p1186 q1186; obtain rfl : ad1185 = ad1186 := (by injection e1186); replace hx1186_0 := (HB.out.cell (World.block_lt_of_cell? w _ hx1186_0)).trans hx1186_0; replace p1186 := eq_true p1186; replace q1186 := eq_true q1186) | (go_at_call 33; (with_reducible refine (impl_modQ.calls (wrap64 ((wrap64 ((rd l0 (ji14)) * (rd l1 (ji14)))) + (wrap64 ((Int.tmod (wrap64 ((rd l0 (ji17)) * (rd l1 (ji17)))) 3329) * t1182)))) t1187 _ A22.out).mono ?_); rintro e w' ⟨rfl, ⟨nd, rfl⟩⟩; (try first | exact ⟨rfl, _, World.drewN_drewN _ _ _⟩ | exact ⟨rfl, _, Eq.trans (World.drewN_drewN _ _ _) (congrArg (World.drewN _) (Nat.add_assoc _ _ _))⟩); have p24 : 0 ≤ ((ji14) : Int) := oD_; have q24 : ((ji14) : Int) < ((x5_2.length : Int) : Int) := oD_; obtain ⟨go24, co24, eo24, gb24, gl24, cl24, HG24⟩ := Kd.R_form HO_5.out (by omega); (first | cases eo24 | (injection eo24 with ea_ en_ ec_; (first | subst ea_ | (injection ea_ with ea_; subst ea_)); subst ec_; clear en_)); have GB24 := Aside0.mk gb24; have GG24 := Aside0.mk HG24; clear gb24 gl24 HG24; obtain ⟨hx24_0, hf24_0⟩ := Kd.R_celln 0 HO_5.out ((ji14) : Int) p24 q24; replace p24 := eq_true p24; replace q24 := eq_true q24; obtain ⟨hy28_, hz28_⟩ := Kd.R_celln 0 HO_5.out ((ji14) : Int) oD_ oD_; have HP28 := Kd.R_putg HO_5.out ((ji14) : Int) t1187) | ((with_reducible refine gate_store (t := 3) (p := 65) rfl ?_); (try (rw [drewN_self wr]; generalize hq_ : World.drewN wr _ = wr; have n_ := b_ (Kd.R_at hq_ HO_5.out) <| c_ (below_at hq_ HB.out); clear hq_ HO_5 HB; obtain ⟨HO_5, HB⟩ := n_; (try (obtain ⟨hy28_, hz28_⟩ := Kd.R_celln 0 HO_5.out ((ji14) : Int) oD_ oD_)); (try (have HP28 := Kd.R_putg HO_5.out ((ji14) : Int) t1187)))); refine store_event (t := 3) (p := 65) (v := ?vo_w29) (w1 := (wr.setCell ⟨go24, ((ji14) : Int).toNat, none⟩ (.int .i64 t1187))) ?hg ?ho ?hn ?hr ?_; (case ho => rfl); (case hg => rfl); (case hn => rfl); (case hr => first | (go_simp; done) | (go_simp; rfl)); intro w29 hw; have hg : wr.grownBy w29 (some go24) := (by rw [hw]; exact HP28.2); have hp_ : Kd.R (Kd.int .i64) 3 w29 w.heap.size (fun _ => True) (.slice (some ⟨go24, 0, none⟩) x5_2.length co24) y1188 := (by rw [hw, Ny1188.out]; exact HP28.1); clear HP28; have n0_ := Aside0.mk (hp_); have n1_ := Aside0.mk ((by rw [hw]; exact below_set (HB.out) GB24.out : Below w.heap.size w w29)); replace HO_5 := n0_; replace HB := n1_; clear n0_ n1_; clear hg hw hp_) | (go_at_call 33; (with_reducible refine (impl_modQ.calls (wrap64 ((wrap64 ((rd l0 (ji14)) * (rd l1 (ji17)))) + (wrap64 ((rd l0 (ji17)) * (rd l1 (ji14)))))) t1189 _ A25.out).mono ?_); rintro e w' ⟨rfl, ⟨nd, rfl⟩⟩; (try first | exact ⟨rfl, _, World.drewN_drewN _ _ _⟩ | exact ⟨rfl, _, Eq.trans (World.drewN_drewN _ _ _) (congrArg (World.drewN _) (Nat.add_assoc _ _ _))⟩); have p27 : 0 ≤ ((ji17) : Int) := oD_; have q27 : ((ji17) : Int) < ((x5_2.length : Int) : Int) := oD_; obtain ⟨hx27_0, hf27_0⟩ := Kd.R_celln 0 HO_5.out ((ji17) : Int) p27 q27; replace p27 := eq_true p27; replace q27 := eq_true q27; obtain ⟨hy30_, hz30_⟩ := Kd.R_celln 0 HO_5.out ((ji17) : Int) oD_ oD_; have HP30 := Kd.R_putg HO_5.out ((ji17) : Int) t1189) | ((with_reducible refine gate_store (t := 3) (p := 78) rfl ?_); (try (rw [drewN_self w29]; generalize hq_ : World.drewN w29 _ = w29; have n_ := b_ (Kd.R_at hq_ HO_5.out) <| c_ (below_at hq_ HB.out); clear hq_ HO_5 HB; obtain ⟨HO_5, HB⟩ := n_; (try (obtain ⟨hy30_, hz30_⟩ := Kd.R_celln 0 HO_5.out ((ji17) : Int) oD_ oD_)); (try (have HP30 := Kd.R_putg HO_5.out ((ji17) : Int) t1189)))); refine store_event (t := 3) (p := 78) (v := ?vo_w31) (w1 := (w29.setCell ⟨go24, ((ji17) : Int).toNat, none⟩ (.int .i64 t1189))) ?hg ?ho ?hn ?hr ?_; (case ho => rfl); (case hg => rfl); (case hn => rfl); (case hr => first | (go_simp; done) | (go_simp; rfl)); intro w31 hw; have hg : w29.grownBy w31 (some go24) := (by rw [hw]; exact HP30.2); have hp_ : Kd.R (Kd.int .i64) 3 w31 w.heap.size (fun _ => True) (.slice (some ⟨go24, 0, none⟩) x5_2.length co24) y1190 := (by rw [hw, Ny1190.out]; exact HP30.1); clear HP30; have n0_ := Aside0.mk (hp_); have n1_ := Aside0.mk ((by rw [hw]; exact below_set (HB.out) GB24.out : Below w.heap.size w w31)); replace HO_5 := n0_; replace HB := n1_; clear n0_ n1_; clear hg hw hp_))
      repeat (go_quiet (first | (go_at_call 99; (with_reducible refine (impl_Turn7.calls k2 x21_2 t1181 _ A12.out).mono ?_); rintro e w' ⟨rfl, ⟨nd, rfl⟩⟩; (try first | exact ⟨rfl, _, World.drewN_drewN _ _ _⟩ | exact ⟨rfl, _, Eq.trans (World.drewN_drewN _ _ _) (congrArg (World.drewN _) (Nat.add_assoc _ _ _))⟩)) | (go_at_call 98; (with_reducible refine (impl_PowQ.calls k2 17 (wrap64 ((wrap64 (2 * t1181)) + 1)) t1182 _ A13.out).mono ?_); rintro e w' ⟨rfl, ⟨nd, rfl⟩⟩; (try first | exact ⟨rfl, _, World.drewN_drewN _ _ _⟩ | exact ⟨rfl, _, Eq.trans (World.drewN_drewN _ _ _) (congrArg (World.drewN _) (Nat.add_assoc _ _ _))⟩); have p1183 : 0 ≤ ((ji14) : Int) := oD_; have q1183 : (ji14) < (l0.length : Int) := oD_; obtain ⟨ad1183, e1183, hx1183_0⟩ := Kd.at_int HR0.out (ji14) p1183 q1183; cases e1183; replace hx1183_0 := (HB.out.cell (World.block_lt_of_cell? w _ hx1183_0)).trans hx1183_0; replace p1183 := eq_true p1183; replace q1183 := eq_true q1183; have p1184 : 0 ≤ ((ji17) : Int) := oD_; have q1184 : (ji17) < (l0.length : Int) := oD_; obtain ⟨ad1184, e1184, hx1184_0⟩ := Kd.at_int HR0.out (ji17) p1184 q1184; obtain rfl : ad1183 = ad1184 := (by injection e1184); replace hx1184_0 := (HB.out.cell (World.block_lt_of_cell? w _ hx1184_0)).trans hx1184_0; replace p1184 := eq_true p1184; replace q1184 := eq_true q1184; have p1185 : 0 ≤ ((ji14) : Int) := oD_; have q1185 : (ji14) < (l1.length : Int) := oD_; obtain ⟨ad1185, e1185, hx1185_0⟩ := Kd.at_int HR1.out (ji14) p1185 q1185; cases e1185; replace hx1185_0 := (HB.out.cell (World.block_lt_of_cell? w _ hx1185_0)).trans hx1185_0; replace p1185 := eq_true p1185; replace q1185 := eq_true q1185; have p1186 : 0 ≤ ((ji17) : Int) := oD_; have q1186 : (ji17) < (l1.length : Int) := oD_; obtain ⟨ad1186, e1186, hx1186_0⟩ := Kd.at_int HR1.out (ji17) p1186 q1186; obtain rfl : ad1185 = ad1186 := (by injection e1186); replace hx1186_0 := (HB.out.cell (World.block_lt_of_cell? w _ hx1186_0)).trans hx1186_0; replace p1186 := eq_true p1186; replace q1186 := eq_true q1186) | (go_at_call 33; (with_reducible refine (impl_modQ.calls (wrap64 ((wrap64 ((rd l0 (ji14)) * (rd l1 (ji14)))) + (wrap64 ((Int.tmod (wrap64 ((rd l0 (ji17)) * (rd l1 (ji17)))) 3329) * t1182)))) t1187 _ A22.out).mono ?_); rintro e w' ⟨rfl, ⟨nd, rfl⟩⟩; (try first | exact ⟨rfl, _, World.drewN_drewN _ _ _⟩ | exact ⟨rfl, _, Eq.trans (World.drewN_drewN _ _ _) (congrArg (World.drewN _) (Nat.add_assoc _ _ _))⟩); have p24 : 0 ≤ ((ji14) : Int) := oD_; have q24 : ((ji14) : Int) < ((x5_2.length : Int) : Int) := oD_; obtain ⟨go24, co24, eo24, gb24, gl24, cl24, HG24⟩ := Kd.R_form HO_5.out (by omega); (first | cases eo24 | (injection eo24 with ea_ en_ ec_; (first | subst ea_ | (injection ea_ with ea_; subst ea_)); subst ec_; clear en_)); have GB24 := Aside0.mk gb24; have GG24 := Aside0.mk HG24; clear gb24 gl24 HG24; obtain ⟨hx24_0, hf24_0⟩ := Kd.R_celln 0 HO_5.out ((ji14) : Int) p24 q24; replace p24 := eq_true p24; replace q24 := eq_true q24; obtain ⟨hy28_, hz28_⟩ := Kd.R_celln 0 HO_5.out ((ji14) : Int) oD_ oD_; have HP28 := Kd.R_putg HO_5.out ((ji14) : Int) t1187) | ((with_reducible refine gate_store (t := 3) (p := 65) rfl ?_); (try (rw [drewN_self wr]; generalize hq_ : World.drewN wr _ = wr; have n_ := b_ (Kd.R_at hq_ HO_5.out) <| c_ (below_at hq_ HB.out); clear hq_ HO_5 HB; obtain ⟨HO_5, HB⟩ := n_; (try (obtain ⟨hy28_, hz28_⟩ := Kd.R_celln 0 HO_5.out ((ji14) : Int) oD_ oD_)); (try (have HP28 := Kd.R_putg HO_5.out ((ji14) : Int) t1187)))); refine store_event (t := 3) (p := 65) (v := ?vo_w29) (w1 := (wr.setCell ⟨go24, ((ji14) : Int).toNat, none⟩ (.int .i64 t1187))) ?hg ?ho ?hn ?hr ?_; (case ho => rfl); (case hg => rfl); (case hn => rfl); (case hr => first | (go_simp; done) | (go_simp; rfl)); intro w29 hw; have hg : wr.grownBy w29 (some go24) := (by rw [hw]; exact HP28.2); have hp_ : Kd.R (Kd.int .i64) 3 w29 w.heap.size (fun _ => True) (.slice (some ⟨go24, 0, none⟩) x5_2.length co24) y1188 := (by rw [hw, Ny1188.out]; exact HP28.1); clear HP28; have n0_ := Aside0.mk (hp_); have n1_ := Aside0.mk ((by rw [hw]; exact below_set (HB.out) GB24.out : Below w.heap.size w w29)); replace HO_5 := n0_; replace HB := n1_; clear n0_ n1_; clear hg hw hp_) | (go_at_call 33; (with_reducible refine (impl_modQ.calls (wrap64 ((wrap64 ((rd l0 (ji14)) * (rd l1 (ji17)))) + (wrap64 ((rd l0 (ji17)) * (rd l1 (ji14)))))) t1189 _ A25.out).mono ?_); rintro e w' ⟨rfl, ⟨nd, rfl⟩⟩; (try first | exact ⟨rfl, _, World.drewN_drewN _ _ _⟩ | exact ⟨rfl, _, Eq.trans (World.drewN_drewN _ _ _) (congrArg (World.drewN _) (Nat.add_assoc _ _ _))⟩); have p27 : 0 ≤ ((ji17) : Int) := oD_; have q27 : ((ji17) : Int) < ((x5_2.length : Int) : Int) := oD_; obtain ⟨hx27_0, hf27_0⟩ := Kd.R_celln 0 HO_5.out ((ji17) : Int) p27 q27; replace p27 := eq_true p27; replace q27 := eq_true q27; obtain ⟨hy30_, hz30_⟩ := Kd.R_celln 0 HO_5.out ((ji17) : Int) oD_ oD_; have HP30 := Kd.R_putg HO_5.out ((ji17) : Int) t1189) | ((with_reducible refine gate_store (t := 3) (p := 78) rfl ?_); (try (rw [drewN_self w29]; generalize hq_ : World.drewN w29 _ = w29; have n_ := b_ (Kd.R_at hq_ HO_5.out) <| c_ (below_at hq_ HB.out); clear hq_ HO_5 HB; obtain ⟨HO_5, HB⟩ := n_; (try (obtain ⟨hy30_, hz30_⟩ := Kd.R_celln 0 HO_5.out ((ji17) : Int) oD_ oD_)); (try (have HP30 := Kd.R_putg HO_5.out ((ji17) : Int) t1189)))); refine store_event (t := 3) (p := 78) (v := ?vo_w31) (w1 := (w29.setCell ⟨go24, ((ji17) : Int).toNat, none⟩ (.int .i64 t1189))) ?hg ?ho ?hn ?hr ?_; (case ho => rfl); (case hg => rfl); (case hn => rfl); (case hr => first | (go_simp; done) | (go_simp; rfl)); intro w31 hw; have hg : w29.grownBy w31 (some go24) := (by rw [hw]; exact HP30.2); have hp_ : Kd.R (Kd.int .i64) 3 w31 w.heap.size (fun _ => True) (.slice (some ⟨go24, 0, none⟩) x5_2.length co24) y1190 := (by rw [hw, Ny1190.out]; exact HP30.1); clear HP30; have n0_ := Aside0.mk (hp_); have n1_ := Aside0.mk ((by rw [hw]; exact below_set (HB.out) GB24.out : Below w.heap.size w w31)); replace HO_5 := n0_; replace HB := n1_; clear n0_ n1_; clear hg hw hp_)); try go_wp2_with (first | (go_at_call 99; (with_reducible refine (impl_Turn7.calls k2 x21_2 t1181 _ A12.out).mono ?_); rintro e w' ⟨rfl, ⟨nd, rfl⟩⟩; (try first | exact ⟨rfl, _, World.drewN_drewN _ _ _⟩ | exact ⟨rfl, _, Eq.trans (World.drewN_drewN _ _ _) (congrArg (World.drewN _) (Nat.add_assoc _ _ _))⟩)) | (go_at_call 98; (with_reducible refine (impl_PowQ.calls k2 17 (wrap64 ((wrap64 (2 * t1181)) + 1)) t1182 _ A13.out).mono ?_); rintro e w' ⟨rfl, ⟨nd, rfl⟩⟩; (try first | exact ⟨rfl, _, World.drewN_drewN _ _ _⟩ | exact ⟨rfl, _, Eq.trans (World.drewN_drewN _ _ _) (congrArg (World.drewN _) (Nat.add_assoc _ _ _))⟩); have p1183 : 0 ≤ ((ji14) : Int) := oD_; have q1183 : (ji14) < (l0.length : Int) := oD_; obtain ⟨ad1183, e1183, hx1183_0⟩ := Kd.at_int HR0.out (ji14) p1183 q1183; cases e1183; replace hx1183_0 := (HB.out.cell (World.block_lt_of_cell? w _ hx1183_0)).trans hx1183_0; replace p1183 := eq_true p1183; replace q1183 := eq_true q1183; have p1184 : 0 ≤ ((ji17) : Int) := oD_; have q1184 : (ji17) < (l0.length : Int) := oD_; obtain ⟨ad1184, e1184, hx1184_0⟩ := Kd.at_int HR0.out (ji17) p1184 q1184; obtain rfl : ad1183 = ad1184 := (by injection e1184); replace hx1184_0 := (HB.out.cell (World.block_lt_of_cell? w _ hx1184_0)).trans hx1184_0; replace p1184 := eq_true p1184; replace q1184 := eq_true q1184; have p1185 : 0 ≤ ((ji14) : Int) := oD_; have q1185 : (ji14) < (l1.length : Int) := oD_; obtain ⟨ad1185, e1185, hx1185_0⟩ := Kd.at_int HR1.out (ji14) p1185 q1185; cases e1185; replace hx1185_0 := (HB.out.cell (World.block_lt_of_cell? w _ hx1185_0)).trans hx1185_0; replace p1185 := eq_true p1185; replace q1185 := eq_true q1185; have p1186 : 0 ≤ ((ji17) : Int) := oD_; have q1186 : (ji17) < (l1.length : Int) := oD_; obtain ⟨ad1186, e1186, hx1186_0⟩ := Kd.at_int HR1.out (ji17) p1186 q1186; obtain rfl : ad1185 = ad1186 := (by injection e1186); replace hx1186_0 := (HB.out.cell (World.block_lt_of_cell? w _ hx1186_0)).trans hx1186_0; replace p1186 := eq_true p1186; replace q1186 := eq_true q1186) | (go_at_call 33; (with_reducible refine (impl_modQ.calls (wrap64 ((wrap64 ((rd l0 (ji14)) * (rd l1 (ji14)))) + (wrap64 ((Int.tmod (wrap64 ((rd l0 (ji17)) * (rd l1 (ji17)))) 3329) * t1182)))) t1187 _ A22.out).mono ?_); rintro e w' ⟨rfl, ⟨nd, rfl⟩⟩; (try first | exact ⟨rfl, _, World.drewN_drewN _ _ _⟩ | exact ⟨rfl, _, Eq.trans (World.drewN_drewN _ _ _) (congrArg (World.drewN _) (Nat.add_assoc _ _ _))⟩); have p24 : 0 ≤ ((ji14) : Int) := oD_; have q24 : ((ji14) : Int) < ((x5_2.length : Int) : Int) := oD_; obtain ⟨go24, co24, eo24, gb24, gl24, cl24, HG24⟩ := Kd.R_form HO_5.out (by omega); (first | cases eo24 | (injection eo24 with ea_ en_ ec_; (first | subst ea_ | (injection ea_ with ea_; subst ea_)); subst ec_; clear en_)); have GB24 := Aside0.mk gb24; have GG24 := Aside0.mk HG24; clear gb24 gl24 HG24; obtain ⟨hx24_0, hf24_0⟩ := Kd.R_celln 0 HO_5.out ((ji14) : Int) p24 q24; replace p24 := eq_true p24; replace q24 := eq_true q24; obtain ⟨hy28_, hz28_⟩ := Kd.R_celln 0 HO_5.out ((ji14) : Int) oD_ oD_; have HP28 := Kd.R_putg HO_5.out ((ji14) : Int) t1187) | ((with_reducible refine gate_store (t := 3) (p := 65) rfl ?_); (try (rw [drewN_self wr]; generalize hq_ : World.drewN wr _ = wr; have n_ := b_ (Kd.R_at hq_ HO_5.out) <| c_ (below_at hq_ HB.out); clear hq_ HO_5 HB; obtain ⟨HO_5, HB⟩ := n_; (try (obtain ⟨hy28_, hz28_⟩ := Kd.R_celln 0 HO_5.out ((ji14) : Int) oD_ oD_)); (try (have HP28 := Kd.R_putg HO_5.out ((ji14) : Int) t1187)))); refine store_event (t := 3) (p := 65) (v := ?vo_w29) (w1 := (wr.setCell ⟨go24, ((ji14) : Int).toNat, none⟩ (.int .i64 t1187))) ?hg ?ho ?hn ?hr ?_; (case ho => rfl); (case hg => rfl); (case hn => rfl); (case hr => first | (go_simp; done) | (go_simp; rfl)); intro w29 hw; have hg : wr.grownBy w29 (some go24) := (by rw [hw]; exact HP28.2); have hp_ : Kd.R (Kd.int .i64) 3 w29 w.heap.size (fun _ => True) (.slice (some ⟨go24, 0, none⟩) x5_2.length co24) y1188 := (by rw [hw, Ny1188.out]; exact HP28.1); clear HP28; have n0_ := Aside0.mk (hp_); have n1_ := Aside0.mk ((by rw [hw]; exact below_set (HB.out) GB24.out : Below w.heap.size w w29)); replace HO_5 := n0_; replace HB := n1_; clear n0_ n1_; clear hg hw hp_) | (go_at_call 33; (with_reducible refine (impl_modQ.calls (wrap64 ((wrap64 ((rd l0 (ji14)) * (rd l1 (ji17)))) + (wrap64 ((rd l0 (ji17)) * (rd l1 (ji14)))))) t1189 _ A25.out).mono ?_); rintro e w' ⟨rfl, ⟨nd, rfl⟩⟩; (try first | exact ⟨rfl, _, World.drewN_drewN _ _ _⟩ | exact ⟨rfl, _, Eq.trans (World.drewN_drewN _ _ _) (congrArg (World.drewN _) (Nat.add_assoc _ _ _))⟩); have p27 : 0 ≤ ((ji17) : Int) := oD_; have q27 : ((ji17) : Int) < ((x5_2.length : Int) : Int) := oD_; obtain ⟨hx27_0, hf27_0⟩ := Kd.R_celln 0 HO_5.out ((ji17) : Int) p27 q27; replace p27 := eq_true p27; replace q27 := eq_true q27; obtain ⟨hy30_, hz30_⟩ := Kd.R_celln 0 HO_5.out ((ji17) : Int) oD_ oD_; have HP30 := Kd.R_putg HO_5.out ((ji17) : Int) t1189) | ((with_reducible refine gate_store (t := 3) (p := 78) rfl ?_); (try (rw [drewN_self w29]; generalize hq_ : World.drewN w29 _ = w29; have n_ := b_ (Kd.R_at hq_ HO_5.out) <| c_ (below_at hq_ HB.out); clear hq_ HO_5 HB; obtain ⟨HO_5, HB⟩ := n_; (try (obtain ⟨hy30_, hz30_⟩ := Kd.R_celln 0 HO_5.out ((ji17) : Int) oD_ oD_)); (try (have HP30 := Kd.R_putg HO_5.out ((ji17) : Int) t1189)))); refine store_event (t := 3) (p := 78) (v := ?vo_w31) (w1 := (w29.setCell ⟨go24, ((ji17) : Int).toNat, none⟩ (.int .i64 t1189))) ?hg ?ho ?hn ?hr ?_; (case ho => rfl); (case hg => rfl); (case hn => rfl); (case hr => first | (go_simp; done) | (go_simp; rfl)); intro w31 hw; have hg : w29.grownBy w31 (some go24) := (by rw [hw]; exact HP30.2); have hp_ : Kd.R (Kd.int .i64) 3 w31 w.heap.size (fun _ => True) (.slice (some ⟨go24, 0, none⟩) x5_2.length co24) y1190 := (by rw [hw, Ny1190.out]; exact HP30.1); clear HP30; have n0_ := Aside0.mk (hp_); have n1_ := Aside0.mk ((by rw [hw]; exact below_set (HB.out) GB24.out : Below w.heap.size w w31)); replace HO_5 := n0_; replace HB := n1_; clear n0_ n1_; clear hg hw hp_)))
      go_roundg k2
      case measure => have := HJ2.out; have := HK2.out; omega
      case rel => exact ⟨(y1190), (wrap64 (x21_2 + 1)), f0_, H', ⟨by have := HJ2.out; have := HK2.out; omega⟩, ⟨rR_ HO_5.out⟩, ⟨hB_⟩⟩

/-! ### impl_dot: function 65 -/
def impl_dot.l0 : Nat → List (List Int) → List (List Int) → List Int → Int → Int → Option (List Int)
 | 0, _, _, _, _, _ => none
 | k + 1, x0, x1, x5, x9, x10 => if x10 < x9 then (if 0 ≤ x10 then (if x10 < (x0.length : Int) then (if x10 < (x1.length : Int) then ((impl_MulNtt.f k (rd_L5 x0 x10) (rd_L5 x1 x10)).bind fun t1196 => ((impl_PolyAdd.f k x5 t1196).bind fun t1199 => (impl_dot.l0 k x0 x1 t1199 x9 (wrap64 (x10 + 1))))) else (none)) else (none)) else (none)) else (some x5)
def impl_dot.f (k : Nat) (l0 : List (List Int)) (l1 : List (List Int)) : Option (List Int) := if 256 ≤ 35184372088832 then (impl_dot.l0 k l0 l1 (List.replicate 256 0) (l0.length : Int) 0) else (none)
theorem impl_dot.mono_l : ∀ k, (∀ y0 y1 y2 y3 y4, LeO (impl_dot.l0 k y0 y1 y2 y3 y4) (impl_dot.l0 (k + 1) y0 y1 y2 y3 y4))
 | 0 => fun _ _ _ _ _ r h => by simp [impl_dot.l0] at h
 | k + 1 => by
  have ih0 := impl_dot.mono_l k
  intros; unfold impl_dot.l0; exact o3_ ih0 impl_MulNtt.mono impl_PolyAdd.mono
theorem impl_dot.mono : ∀ a0 a1 k, LeO (impl_dot.f k a0 a1) (impl_dot.f (k + 1) a0 a1) := by
 intro a0 a1 k
 have ih0 := impl_dot.mono_l k
 unfold impl_dot.f
 exact o3_ ih0 impl_MulNtt.mono impl_PolyAdd.mono
def impl_dot.T5 : Bool × List (List Nat × List Nat) := (true, [([], []), ([], []), ([], []), ([1, 2], [1, 2]), ([3], [3]), ([], []), ([], []), ([5, 6], [5, 6]), ([7], [7]), ([4, 8], [4, 8]), ([0, 9, 9], [0, 9]), ([10, 10, 0, 1, 2, 3, 4, 5, 6, 7, 8, 9, 10], [0, 10])])
def impl_dot.B5 : List Nat := [0, 0, 0, 6, 14, 0, 0, 96, 224, 510, 1023, 2047]
theorem impl_dot.tab5 : rtab .any (opsOf Try.f65 5) = impl_dot.T5 := by kernel_rfl
theorem impl_dot.bits5 : waitsOk impl_dot.T5.2 impl_dot.B5 = true := by kernel_rfl
theorem impl_dot.calls (k : Nat) (A0 : Option Addr) (c0 : Nat) (l0 : List (List Int)) (A1 : Option Addr) (c1 : Nat) (l1 : List (List Int)) (r : List Int) (w : World) (hr0 : Kd.C (Kd.slice 3 (Kd.int .i64)) w A0 l0.length l0) (hc0 : l0.length ≤ c0) (hr1 : Kd.C (Kd.slice 3 (Kd.int .i64)) w A1 l1.length l1) (hc1 : l1.length ≤ c1) (h : impl_dot.f k l0 l1 = some r) :
  Calls Try.prog 65 #[.slice A0 l0.length c0, .slice A1 l1.length c1] w fun e w' => ∃ v0_ : Value, e = .returned (v0_) ∧ Kd.R (Kd.int .i64) 3 w' w.heap.size (fun _ => True) v0_ r ∧ Below w.heap.size w w' := by
 have HR0 := Aside0.mk hr0
 have HC0 := Aside0.mk hc0
 clear hr0 hc0
 have HR1 := Aside0.mk hr1
 have HC1 := Aside0.mk hc1
 clear hr1 hc1
 have HB := Aside0.mk (Below.refl w.heap.size w)
 delta impl_dot.f at h
 have H := h
 clear h
 obtain ⟨c3, H⟩ := iN_ H
 have c3b0 := eq_true c3
 have c3b1 := decide_eq_true c3
 clear c3
 obtain ⟨y1191, hy1191⟩ : ∃ y_ : List Int, y_ = (List.replicate 256 0) := ⟨_, rfl⟩
 first | replace H := yb_ hy1191 H | rw [← hy1191] at H
 have Ny1191 := Aside0.mk hy1191
 clear hy1191
 have H' := Aside0.mk H
 clear H
 go_enter Try.func65, Try.ntmps65
 go_wp2_with (first | ((with_reducible refine gate_dst (N := 7) rfl ?_); refine Kd.R_make (Kd.int .i64) _ 3 rfl (N := 7) rfl 22 _ _ rfl 256 rfl rfl Try.underlying22 (.int .i64 0) 8 info3 rfl (by decide) (by omega) 0 (ok := fun _ => True) (okp := fun _ => True) rfl (fun _ hk => hk) trivial (by omega) (by omega) (Below.refl _ _) (Nat.le_refl _) ?_; intro v1192 w4 ho5 hb hg_ hnew_; clear hg_ hnew_; (first | rw [← Ny1191.out] at ho5 | (simp only [Int.reduceToNat] at ho5; rw [← Ny1191.out] at ho5)); have n_ := b_ (Kd.R_lower ho5 (below_size (hB_))) <| c_ (below_step (hB_) hb); clear HB; obtain ⟨HO1193, HB⟩ := n_; clear hb ho5))
 go_loopg [5, 10] k (fun kq v5 v10 w' => ∃ (x5_1 : List Int) (x10_1 : Int), v10 = .int .i64 x10_1 ∧ Aside0 (impl_dot.l0 kq l0 l1 x5_1 (l0.length : Int) x10_1 = some r) ∧ Aside0 (kq ≤ k) ∧ Aside0 (Kd.R (Kd.int .i64) 3 w' w.heap.size (fun _ => True) v5 x5_1) ∧ Aside0 (Below w.heap.size w w'))
 case atStart => exact ⟨(y1191), (0), f0_, H', ⟨Nat.le_refl _⟩, ⟨rR_ HO1193.out⟩, ⟨hB_⟩⟩
 case round =>
  clear H'
  obtain ⟨x5_1, x10_1, rfl, HA, HK1, HO_5, HB⟩ := hrel
  cases gk with
  | zero => exact absurd HA.out (by simp [impl_dot.l0])
  | succ k1 =>
   have H := HA.out
   clear HA
   simp only [impl_dot.l0] at H
   by_cases c6 : x10_1 < (l0.length : Int)
   rotate_left
   ·rw [if_neg c6] at H
    have c6b0 := decide_eq_false c6
    clear c6
    obtain rfl := Option.some.inj H
    go_wp2
    go_ret
    exact ⟨_, f1_, rR_ HO_5.out, hB_⟩
   rw [if_pos c6] at H
   have c6b0 := decide_eq_true c6
   clear c6
   obtain ⟨c7b0, H⟩ := iD_ H
   obtain ⟨c8b0, H⟩ := iD_ H
   obtain ⟨c9b0, H⟩ := iD_ H
   obtain ⟨t1196, A10, H⟩ := bN_ H
   obtain ⟨t1199, A11, H⟩ := bN_ H
   have H' := Aside0.mk H
   clear H
   try go_wp2
   have n_ := b_ (Kd.R_drew HO_5.out) <| c_ (below_drew1 HB.out)
   clear HO_5 HB
   obtain ⟨HO_5, HB⟩ := n_
   have p1194 : 0 ≤ (x10_1 : Int) := oD_
   have q1194 : x10_1 < (l0.length : Int) := oD_
   obtain ⟨ad1194, A1194_0, c1194_0, e1194, hx1194_0, hl1194_0, hi1194_0⟩ := at_L5 HR0.out x10_1 p1194 q1194
   have hw1194_0 := hx1194_0
   cases e1194
   replace hx1194_0 := (HB.out.cell (World.block_lt_of_cell? w _ hx1194_0)).trans hx1194_0
   have HR1194_0 := Aside0.mk hi1194_0
   have HC1194_0 := Aside0.mk hl1194_0
   clear hi1194_0 hl1194_0
   replace p1194 := eq_true p1194
   replace q1194 := eq_true q1194
   have p1195 : 0 ≤ (x10_1 : Int) := oD_
   have q1195 : x10_1 < (l1.length : Int) := oD_
   obtain ⟨ad1195, A1195_0, c1195_0, e1195, hx1195_0, hl1195_0, hi1195_0⟩ := at_L5 HR1.out x10_1 p1195 q1195
   have hw1195_0 := hx1195_0
   cases e1195
   replace hx1195_0 := (HB.out.cell (World.block_lt_of_cell? w _ hx1195_0)).trans hx1195_0
   have HR1195_0 := Aside0.mk hi1195_0
   have HC1195_0 := Aside0.mk hl1195_0
   clear hi1195_0 hl1195_0
   replace p1195 := eq_true p1195
   replace q1195 := eq_true q1195
   refine start_ (n := 12) (S := fun w' => w'.cell? (ad1194.add (x10_1).toNat) = some (.slice A1194_0 (rd_L5 l0 x10_1).length c1194_0) ∧ w'.cell? (ad1195.add (x10_1).toNat) = some (.slice A1195_0 (rd_L5 l1 x10_1).length c1195_0)) (ds := []) (bb_ 12 0) (by kernel_rfl) rfl rfl ⟨((HB.out.cell (World.block_lt_of_cell? w _ hw1194_0)).trans hw1194_0), ((HB.out.cell (World.block_lt_of_cell? w _ hw1195_0)).trans hw1195_0)⟩ (fun hHeld => ?_); refine with_tabW impl_dot.tab5 impl_dot.bits5 (fun HT_ HW_ => ?_)
   generalize wr.drew = w12 at HO_5 HB HR1194_0 HR1195_0 hx1194_0 hx1195_0 hHeld ⊢
   refine pS_ 0 13 (bb_ 12 1) HT_.out ?_
   refine pS_ 1 14 (bb_ 12 3) HT_.out ?_
   refine pS_ 2 15 (bb_ 12 7) HT_.out ?_
   refine pS_ 3 16 (bb_ 12 15) HT_.out ?_
   refine pS_ 5 18 (bb_ 12 47) HT_.out ?_
   refine pS_ 6 19 (bb_ 12 111) HT_.out ?_
   refine pS_ 7 20 (bb_ 12 239) HT_.out ?_
   refine tS_ 4 17 (bb_ 12 255) (take_ofW HT_.out HW_.out (by kernel_rfl)) hHeld ?_
   refine tS_ 8 21 (bb_ 12 511) (take_ofW HT_.out HW_.out (by kernel_rfl)) hHeld ?_
   refine one_ (i := 9) (N := some 22) (bb_ 12 1023) rfl rfl (one_of HT_.out (by kernel_rfl)) (by decide) (fun K hK => ?_)
   refine goes_ Try.func100 (by kernel_rfl) rfl #[.slice A1194_0 (rd_L5 l0 x10_1).length c1194_0, .slice A1195_0 (rd_L5 l1 x10_1).length c1195_0] (by rfl) rfl rfl aM_ ?_
   with_reducible refine (impl_MulNtt.calls k1 _ _ (rd_L5 l0 x10_1) _ _ (rd_L5 l1 x10_1) t1196 _ ?side1 ?side2 ?side3 ?side4 A10.out).mono ?_
   (case side1 => exact cR_ (Kd.C_below HR1194_0.out HB.out))
   (case side2 => exact HC1194_0.out)
   (case side3 => exact cR_ (Kd.C_below HR1195_0.out HB.out))
   (case side4 => exact HC1195_0.out)
   rintro e w13 ⟨v1197, rfl, ho0, hb⟩
   refine ⟨_, rfl, ?_⟩
   have n_ := b_ (Kd.R_elder' (rR_ HO_5.out) (Kd.R_base ho0) hb) <| b_ (Kd.R_lower (Kd.R_new' ho0 (Kd.R_lt (rR_ HO_5.out))) (below_size (hB_))) <| c_ (below_step (hB_) hb)
   clear HO_5 HB
   obtain ⟨HO_5, HO1198, HB⟩ := n_
   obtain ⟨Ao14, co14, eo14⟩ := Kd.R_slice HO_5.out
   (first | subst eo14 | (injection eo14 with f1_ f2_ f3_; have f4_ := f1_.symm; have f5_ := f3_.symm; clear f1_ f2_ f3_; subst f4_; subst f5_))
   obtain ⟨Ao15, co15, eo15⟩ := Kd.R_slice HO1198.out
   (first | subst eo15 | (injection eo15 with f1_ f2_ f3_; have f4_ := f1_.symm; have f5_ := f3_.symm; clear f1_ f2_ f3_; subst f4_; subst f5_))
   refine hK.out _ _ ⟨((HB.out.cell (World.block_lt_of_cell? w _ hw1194_0)).trans hw1194_0), ((HB.out.cell (World.block_lt_of_cell? w _ hw1195_0)).trans hw1195_0)⟩ (fun hHeld => ?_)
   clear hK K
   refine norm_ (a' := ?_) ?_ ?_
   rotate_left
   ·show Act.put _ (some 22) _ = _
    simp only [Act.put, List.setIfInBounds_toArray, List.set_cons_zero, List.set_cons_succ, i64_w, i32_w]
    rfl
   refine one_ (i := 10) (N := some 23) (bb_ 12 2047) rfl rfl (one_of HT_.out (by kernel_rfl)) (by decide) (fun K hK => ?_)
   refine goes_ Try.func63 (by kernel_rfl) rfl #[.slice Ao14 x5_1.length co14, .slice Ao15 t1196.length co15] (by rfl) rfl rfl aM_ ?_
   with_reducible refine (impl_PolyAdd.calls k1 _ _ x5_1 _ _ t1196 t1199 _ ?side1 ?side2 ?side3 ?side4 A11.out).mono ?_
   (case side1 => exact cR_ (Kd.R_reads' HO_5.out).2.2)
   (case side2 => exact (Kd.R_reads' HO_5.out).2.1)
   (case side3 => exact cR_ (Kd.R_reads' HO1198.out).2.2)
   (case side4 => exact (Kd.R_reads' HO1198.out).2.1)
   rintro e w16 ⟨v1200, rfl, ho0, hb⟩
   refine ⟨_, rfl, ?_⟩
   have n_ := b_ (Kd.R_elder' (rR_ HO_5.out) (Kd.R_base ho0) hb) <| b_ (Kd.R_elder' (rR_ HO1198.out) (Kd.R_base ho0) hb) <| b_ (Kd.R_lower (Kd.R_new' (Kd.R_new' ho0 (Kd.R_lt (rR_ HO_5.out))) (Kd.R_lt (rR_ HO1198.out))) (below_size (hB_))) <| c_ (below_step (hB_) hb)
   clear HO_5 HO1198 HB
   obtain ⟨HO_5, HO1198, HO1201, HB⟩ := n_
   refine hK.out _ _ ⟨((HB.out.cell (World.block_lt_of_cell? w _ hw1194_0)).trans hw1194_0), ((HB.out.cell (World.block_lt_of_cell? w _ hw1195_0)).trans hw1195_0)⟩ (fun hHeld => ?_)
   clear hK K
   refine norm_ (a' := ?_) ?_ ?_
   rotate_left
   ·show Act.put _ (some 23) _ = _
    simp only [Act.put, List.setIfInBounds_toArray, List.set_cons_zero, List.set_cons_succ, i64_w, i32_w]
    rfl
   refine pS_ 11 5 (bb_ 12 4095) HT_.out ?_
   refine done_ (done_of HT_.out (by kernel_rfl)) ?_
   try go_wp2
   go_roundg k1
   case measure => have := HK1.out; omega
   case rel => exact ⟨(t1199), (wrap64 (x10_1 + 1)), f0_, H', ⟨by have := HK1.out; omega⟩, ⟨by refine kR_ ?_; exact Kd.R_mono HO1201.out (fun _ hk => trivial)⟩, ⟨hB_⟩⟩

/-! ### impl_Squeeze: function 101 -/
def impl_Squeeze.f (a0 : Int) (a1 : Int) : Option (Int) := (impl_in.f a0 0 3328).bind fun t1231 => (if t1231 = true then ((impl_in.f a1 1 11).bind fun t1232 => (if t1232 = true then (if 0 ≤ a1 then (if (shl .i64 1 a1) = 0 then (none) else (some (Int.tmod (wrap64 (Int.tdiv (wrap64 ((shl .i64 a0 a1) + 1664)) 3329)) (shl .i64 1 a1)))) else (none)) else (some 0))) else (some 0))
theorem impl_Squeeze.calls (a0 : Int) (a1 : Int) (r : Int) (w : World) (h : impl_Squeeze.f a0 a1 = some r) :
  Calls Try.prog 101 #[.int .i64 a0, .int .i64 a1] w fun e w' => e = .returned (.int .i64 r) ∧ Drawn0 w w' := by
 delta impl_Squeeze.f at h
 have H := h
 clear h
 obtain ⟨t1231, A3, H⟩ := bN_ H
 by_cases c4 : t1231 = true
 ·subst c4
  replace H := iT_ H
  obtain ⟨t1232, A5, H⟩ := bN_ H
  by_cases c6 : t1232 = true
  ·subst c6
   replace H := iT_ H
   obtain ⟨c7, H⟩ := iN_ H
   have c7b0 := eq_true c7
   have c7b1 := decide_eq_true c7
   clear c7
   obtain ⟨ji8, hji8⟩ : ∃ j_ : Int, (shl .i64 a0 a1) = j_ := ⟨_, rfl⟩
   first | rw [hji8] at H | simp only [hji8] at H
   (try rw [hji8] at A3)
   (try rw [hji8] at A5)
   have hji8_ : (IntKind.i64.wrap (a0 * 2 ^ min a1.toNat 64)) = ji8 := hji8
   have hji8z : a1 ≤ 64 → (IntKind.i64.wrap (a0 * 2 ^ a1.toNat)) = ji8 := shl_small hji8
   have hji8y : (wrap64 (a0 * 2 ^ min a1.toNat 64)) = ji8 := (i64_w _).symm.trans hji8_
   have hji8x : a1 ≤ 64 → (wrap64 (a0 * 2 ^ a1.toNat)) = ji8 := fun h_ => (i64_w _).symm.trans (hji8z h_)
   have c9b0 := eq_true (oD_ : 0 ≤ a1)
   obtain ⟨ji10, hji10⟩ : ∃ j_ : Int, (shl .i64 1 a1) = j_ := ⟨_, rfl⟩
   first | rw [hji10] at H | simp only [hji10] at H
   (try rw [hji10] at A3)
   (try rw [hji10] at A5)
   have hji10_ : (IntKind.i64.wrap (1 * 2 ^ min a1.toNat 64)) = ji10 := hji10
   have hji10z : a1 ≤ 64 → (IntKind.i64.wrap (1 * 2 ^ a1.toNat)) = ji10 := shl_small hji10
   have hji10u : (IntKind.i64.wrap (2 ^ min a1.toNat 64)) = ji10 := by have h_ := hji10_; rw [Int.one_mul] at h_; exact h_
   have hji10v : a1 ≤ 64 → (IntKind.i64.wrap (2 ^ a1.toNat)) = ji10 := fun hle_ => by have h_ := hji10z hle_; rw [Int.one_mul] at h_; exact h_
   have hji10y : (wrap64 (1 * 2 ^ min a1.toNat 64)) = ji10 := (i64_w _).symm.trans hji10_
   have hji10x : a1 ≤ 64 → (wrap64 (1 * 2 ^ a1.toNat)) = ji10 := fun h_ => (i64_w _).symm.trans (hji10z h_)
   by_cases c11 : (ji10) = 0
   ·rw [if_pos c11] at H
    exact absurd H (by simp)
   rw [if_neg c11] at H
   have c11b0 : ((ji10) == 0) = false := beq_eq_false_iff_ne.mpr c11
   have c11b1 : ((ji10) != 0) = true := bne_iff_ne.mpr c11
   obtain rfl := Option.some.inj H
   go_enter Try.func101, Try.ntmps101
   go_wp2_with (first | (go_at_call 41; (with_reducible refine (impl_in.calls a0 0 3328 true _ A3.out).mono ?_); rintro e w' ⟨rfl, ⟨nd, rfl⟩⟩; (try first | exact ⟨rfl, _, World.drewN_drewN _ _ _⟩ | exact ⟨rfl, _, Eq.trans (World.drewN_drewN _ _ _) (congrArg (World.drewN _) (Nat.add_assoc _ _ _))⟩)) | (go_at_call 41; (with_reducible refine (impl_in.calls a1 1 11 true _ A5.out).mono ?_); rintro e w' ⟨rfl, ⟨nd, rfl⟩⟩; (try first | exact ⟨rfl, _, World.drewN_drewN _ _ _⟩ | exact ⟨rfl, _, Eq.trans (World.drewN_drewN _ _ _) (congrArg (World.drewN _) (Nat.add_assoc _ _ _))⟩)))
   repeat (go_quiet (first | (go_at_call 41; (with_reducible refine (impl_in.calls a0 0 3328 true _ A3.out).mono ?_); rintro e w' ⟨rfl, ⟨nd, rfl⟩⟩; (try first | exact ⟨rfl, _, World.drewN_drewN _ _ _⟩ | exact ⟨rfl, _, Eq.trans (World.drewN_drewN _ _ _) (congrArg (World.drewN _) (Nat.add_assoc _ _ _))⟩)) | (go_at_call 41; (with_reducible refine (impl_in.calls a1 1 11 true _ A5.out).mono ?_); rintro e w' ⟨rfl, ⟨nd, rfl⟩⟩; (try first | exact ⟨rfl, _, World.drewN_drewN _ _ _⟩ | exact ⟨rfl, _, Eq.trans (World.drewN_drewN _ _ _) (congrArg (World.drewN _) (Nat.add_assoc _ _ _))⟩))); try go_wp2)
   go_ret
   exact ⟨by first | rfl | (simp; done) | (simp only [← hji8, ← hji10] <;> (first | rfl | simp)) | (simp [*]; done), d0_⟩
  ·replace c6 := Bool.eq_false_iff.mpr c6
   subst c6
   replace H := iF_ H
   obtain rfl := Option.some.inj H
   go_enter Try.func101, Try.ntmps101
   go_wp2_with (first | (go_at_call 41; (with_reducible refine (impl_in.calls a0 0 3328 true _ A3.out).mono ?_); rintro e w' ⟨rfl, ⟨nd, rfl⟩⟩; (try first | exact ⟨rfl, _, World.drewN_drewN _ _ _⟩ | exact ⟨rfl, _, Eq.trans (World.drewN_drewN _ _ _) (congrArg (World.drewN _) (Nat.add_assoc _ _ _))⟩)) | (go_at_call 41; (with_reducible refine (impl_in.calls a1 1 11 false _ A5.out).mono ?_); rintro e w' ⟨rfl, ⟨nd, rfl⟩⟩; (try first | exact ⟨rfl, _, World.drewN_drewN _ _ _⟩ | exact ⟨rfl, _, Eq.trans (World.drewN_drewN _ _ _) (congrArg (World.drewN _) (Nat.add_assoc _ _ _))⟩)))
   repeat (go_quiet (first | (go_at_call 41; (with_reducible refine (impl_in.calls a0 0 3328 true _ A3.out).mono ?_); rintro e w' ⟨rfl, ⟨nd, rfl⟩⟩; (try first | exact ⟨rfl, _, World.drewN_drewN _ _ _⟩ | exact ⟨rfl, _, Eq.trans (World.drewN_drewN _ _ _) (congrArg (World.drewN _) (Nat.add_assoc _ _ _))⟩)) | (go_at_call 41; (with_reducible refine (impl_in.calls a1 1 11 false _ A5.out).mono ?_); rintro e w' ⟨rfl, ⟨nd, rfl⟩⟩; (try first | exact ⟨rfl, _, World.drewN_drewN _ _ _⟩ | exact ⟨rfl, _, Eq.trans (World.drewN_drewN _ _ _) (congrArg (World.drewN _) (Nat.add_assoc _ _ _))⟩))); try go_wp2)
   go_ret
   exact ⟨f0_, d0_⟩
 ·replace c4 := Bool.eq_false_iff.mpr c4
  subst c4
  replace H := iF_ H
  obtain rfl := Option.some.inj H
  go_enter Try.func101, Try.ntmps101
  go_wp2_with (first | (go_at_call 41; (with_reducible refine (impl_in.calls a0 0 3328 false _ A3.out).mono ?_); rintro e w' ⟨rfl, ⟨nd, rfl⟩⟩; (try first | exact ⟨rfl, _, World.drewN_drewN _ _ _⟩ | exact ⟨rfl, _, Eq.trans (World.drewN_drewN _ _ _) (congrArg (World.drewN _) (Nat.add_assoc _ _ _))⟩)))
  repeat (go_quiet (first | (go_at_call 41; (with_reducible refine (impl_in.calls a0 0 3328 false _ A3.out).mono ?_); rintro e w' ⟨rfl, ⟨nd, rfl⟩⟩; (try first | exact ⟨rfl, _, World.drewN_drewN _ _ _⟩ | exact ⟨rfl, _, Eq.trans (World.drewN_drewN _ _ _) (congrArg (World.drewN _) (Nat.add_assoc _ _ _))⟩))); try go_wp2)
  go_ret
  exact ⟨f0_, d0_⟩

/-! ### impl_squeezed: function 68 -/
def impl_squeezed.l0 : Nat → Int → List Int → List Int → Int → Int → Option (List Int)
 | 0, _, _, _, _, _ => none
 | k + 1, x1, x5, x8, x9, x10 => if x10 < x9 then (if 0 ≤ x10 then (if x10 < (x8.length : Int) then ((impl_Squeeze.f (rd x8 x10) x1).bind fun t1234 => (if x5.length < 17592186044416 then (impl_squeezed.l0 k x1 (x5 ++ [t1234]) x8 x9 (wrap64 (x10 + 1))) else (none))) else (none)) else (none)) else (some x5)
def impl_squeezed.f (k : Nat) (l0 : List Int) (a1 : Int) : Option (List Int) := impl_squeezed.l0 k a1 ([] : List Int) l0 (l0.length : Int) 0
theorem impl_squeezed.mono_l : ∀ k, (∀ y0 y1 y2 y3 y4, LeO (impl_squeezed.l0 k y0 y1 y2 y3 y4) (impl_squeezed.l0 (k + 1) y0 y1 y2 y3 y4))
 | 0 => fun _ _ _ _ _ r h => by simp [impl_squeezed.l0] at h
 | k + 1 => by
  have ih0 := impl_squeezed.mono_l k
  intros; unfold impl_squeezed.l0; exact o1_ ih0
theorem impl_squeezed.mono : ∀ a0 a1 k, LeO (impl_squeezed.f k a0 a1) (impl_squeezed.f (k + 1) a0 a1) := by
 intro a0 a1 k
 have ih0 := impl_squeezed.mono_l k
 unfold impl_squeezed.f
 exact o1_ ih0
theorem impl_squeezed.calls (k : Nat) (A0 : Option Addr) (c0 : Nat) (l0 : List Int) (a1 : Int) (r : List Int) (w : World) (hr0 : Kd.C (Kd.int .i64) w A0 l0.length l0) (hc0 : l0.length ≤ c0) (h : impl_squeezed.f k l0 a1 = some r) :
  Calls Try.prog 68 #[.slice A0 l0.length c0, .int .i64 a1] w fun e w' => ∃ v0_ : Value, e = .returned (v0_) ∧ Kd.R (Kd.int .i64) 3 w' w.heap.size (fun _ => True) v0_ r ∧ Below w.heap.size w w' := by
 have HR0 := Aside0.mk hr0
 have HC0 := Aside0.mk hc0
 clear hr0 hc0
 have HB := Aside0.mk (Below.refl w.heap.size w)
 delta impl_squeezed.f at h
 have H := h
 clear h
 have H' := Aside0.mk H
 clear H
 go_enter Try.func68, Try.ntmps68
 go_wp2
 go_loopg [5, 10] k (fun kq v5 v10 w' => ∃ (x5_1 : List Int) (x10_1 : Int), v10 = .int .i64 x10_1 ∧ Aside0 (impl_squeezed.l0 kq a1 x5_1 l0 (l0.length : Int) x10_1 = some r) ∧ Aside0 (kq ≤ k) ∧ Aside0 (Kd.R (Kd.int .i64) 3 w' w.heap.size (fun _ => True) v5 x5_1) ∧ Aside0 (Below w.heap.size w w'))
 case atStart => exact ⟨(([] : List Int)), (0), f0_, H', ⟨Nat.le_refl _⟩, ⟨by first | exact Kd.R_nil _ _ _ _ _ | exact Kd.N_nil _ _ _ _ _ | exact Kd.V_nil _ _ _ _ _ | exact Kd.Q_nil _ _ _ _ _ | exact Kd.S_nil _ _ _ _ _⟩, ⟨hB_⟩⟩
 case round =>
  clear H'
  obtain ⟨x5_1, x10_1, rfl, HA, HK1, HO_5, HB⟩ := hrel
  cases gk with
  | zero => exact absurd HA.out (by simp [impl_squeezed.l0])
  | succ k1 =>
   have H := HA.out
   clear HA
   simp only [impl_squeezed.l0] at H
   by_cases c3 : x10_1 < (l0.length : Int)
   rotate_left
   ·rw [if_neg c3] at H
    have c3b0 := decide_eq_false c3
    clear c3
    obtain rfl := Option.some.inj H
    go_wp2
    go_ret
    exact ⟨_, f1_, rR_ HO_5.out, hB_⟩
   rw [if_pos c3] at H
   have c3b0 := decide_eq_true c3
   clear c3
   obtain ⟨c4b0, H⟩ := iD_ H
   obtain ⟨c5b0, H⟩ := iD_ H
   obtain ⟨t1234, A6, H⟩ := bN_ H
   obtain ⟨c7, H⟩ := iN_ H
   have LMc7 := Aside0.mk c7
   clear c7
   obtain ⟨y1235, hy1235⟩ : ∃ y_ : List Int, y_ = (x5_1 ++ [t1234]) := ⟨_, rfl⟩
   first | replace H := yb_ hy1235 H | rw [← hy1235] at H
   have Ny1235 := Aside0.mk hy1235
   clear hy1235
   have H' := Aside0.mk H
   clear H
   have p1233 : 0 ≤ (x10_1 : Int) := oD_
   have q1233 : x10_1 < (l0.length : Int) := oD_
   obtain ⟨ad1233, e1233, hx1233_0⟩ := Kd.at_int HR0.out x10_1 p1233 q1233
   cases e1233
   replace hx1233_0 := (HB.out.cell (World.block_lt_of_cell? w _ hx1233_0)).trans hx1233_0
   replace p1233 := eq_true p1233
   replace q1233 := eq_true q1233
   go_wp2_with (first | ((with_reducible refine gate_callee (f := 101) rfl ?_); refine goesL_ (some 17) rfl rfl Try.func101 (by kernel_rfl) rfl #[.int .i64 (rd l0 x10_1), .int .i64 a1] rfl aM_ ?_; (with_reducible refine (impl_Squeeze.calls (rd l0 x10_1) a1 t1234 _ A6.out).mono ?_); rintro e w' ⟨rfl, ⟨nd, rfl⟩⟩; refine ⟨_, rfl, ?_⟩) | ((with_reducible refine gate_builtin (b := .append) (xs := #[.tmp 14, .tmp 18]) rfl ?_); at_builtin; refine Kd.R_append (Kd.int .i64) (w0 := w) w.heap.size rfl (.tmp 14) (.tmp 18) 22 3 (.int .i64 0) 8 rfl Try.underlying22 info3 rfl (by decide) (by omega) u5 x5_1 t1234 [.int .i64 t1234] (fun _ => True) (fun _ => False) rfl rfl ?aP (fun _ hk => hk.elim) ?aF ?aO ?aB ?aS ?aL ?_; (case aP => exact rfl); (case aB => exact (hB_)); (case aF => exact (fun _ _ => trivial)); (case aO => exact (rR_ HO_5.out)); (case aS => exact (below_size (hB_))); (case aL => have := LMc7.out; omega); intro v1236 w8 ho hb hg hat; rw [← Ny1235.out] at ho; have n_ := b_ (hb) <| c_ (ho); clear HO_5 HB; obtain ⟨HB, HO1237⟩ := n_; clear ho hb hg hat))
   go_roundg k1
   case measure => have := HK1.out; omega
   case rel => exact ⟨(y1235), (wrap64 (x10_1 + 1)), f0_, H', ⟨by have := HK1.out; omega⟩, ⟨rR_ HO1237.out⟩, ⟨hB_⟩⟩

/-! ### impl_Stretch: function 102 -/
def impl_Stretch.f (a0 : Int) (a1 : Int) : Option (Int) := (impl_in.f a1 1 11).bind fun t1238 => (if t1238 = true then (if 0 ≤ a1 then ((impl_in.f a0 0 (wrap64 ((shl .i64 1 a1) - 1))).bind fun t1239 => (if t1239 = true then (if 0 ≤ (wrap64 (a1 - 1)) then (some (shr .i64 (wrap64 ((wrap64 (3329 * a0)) + (shl .i64 1 (wrap64 (a1 - 1))))) a1)) else (none)) else (some 0))) else (none)) else (some 0))
theorem impl_Stretch.calls (a0 : Int) (a1 : Int) (r : Int) (w : World) (h : impl_Stretch.f a0 a1 = some r) :
  Calls Try.prog 102 #[.int .i64 a0, .int .i64 a1] w fun e w' => e = .returned (.int .i64 r) ∧ Drawn0 w w' := by
 delta impl_Stretch.f at h
 have H := h
 clear h
 obtain ⟨t1238, A3, H⟩ := bN_ H
 by_cases c4 : t1238 = true
 ·subst c4
  replace H := iT_ H
  obtain ⟨c5, H⟩ := iN_ H
  have c5b0 := eq_true c5
  have c5b1 := decide_eq_true c5
  clear c5
  obtain ⟨ji6, hji6⟩ : ∃ j_ : Int, (shl .i64 1 a1) = j_ := ⟨_, rfl⟩
  first | rw [hji6] at H | simp only [hji6] at H
  (try rw [hji6] at A3)
  have hji6_ : (IntKind.i64.wrap (1 * 2 ^ min a1.toNat 64)) = ji6 := hji6
  have hji6z : a1 ≤ 64 → (IntKind.i64.wrap (1 * 2 ^ a1.toNat)) = ji6 := shl_small hji6
  have hji6u : (IntKind.i64.wrap (2 ^ min a1.toNat 64)) = ji6 := by have h_ := hji6_; rw [Int.one_mul] at h_; exact h_
  have hji6v : a1 ≤ 64 → (IntKind.i64.wrap (2 ^ a1.toNat)) = ji6 := fun hle_ => by have h_ := hji6z hle_; rw [Int.one_mul] at h_; exact h_
  have hji6y : (wrap64 (1 * 2 ^ min a1.toNat 64)) = ji6 := (i64_w _).symm.trans hji6_
  have hji6x : a1 ≤ 64 → (wrap64 (1 * 2 ^ a1.toNat)) = ji6 := fun h_ => (i64_w _).symm.trans (hji6z h_)
  obtain ⟨t1239, A7, H⟩ := bN_ H
  by_cases c8 : t1239 = true
  ·subst c8
   replace H := iT_ H
   obtain ⟨ji9, hji9⟩ : ∃ j_ : Int, (wrap64 (a1 - 1)) = j_ := ⟨_, rfl⟩
   first | rw [hji9] at H | simp only [hji9] at H
   (try rw [hji9] at A3)
   (try rw [hji9] at A7)
   have hji9w : (IntKind.i64.wrap (a1 - 1)) = ji9 := (i64_w _).trans hji9
   obtain ⟨c10, H⟩ := iN_ H
   have c10b0 := eq_true c10
   have c10b1 := decide_eq_true c10
   clear c10
   obtain ⟨ji11, hji11⟩ : ∃ j_ : Int, (shl .i64 1 (ji9)) = j_ := ⟨_, rfl⟩
   first | rw [hji11] at H | simp only [hji11] at H
   (try rw [hji11] at A3)
   (try rw [hji11] at A7)
   have hji11_ : (IntKind.i64.wrap (1 * 2 ^ min (ji9).toNat 64)) = ji11 := hji11
   have hji11z : (ji9) ≤ 64 → (IntKind.i64.wrap (1 * 2 ^ (ji9).toNat)) = ji11 := shl_small hji11
   have hji11u : (IntKind.i64.wrap (2 ^ min (ji9).toNat 64)) = ji11 := by have h_ := hji11_; rw [Int.one_mul] at h_; exact h_
   have hji11v : (ji9) ≤ 64 → (IntKind.i64.wrap (2 ^ (ji9).toNat)) = ji11 := fun hle_ => by have h_ := hji11z hle_; rw [Int.one_mul] at h_; exact h_
   have hji11y : (wrap64 (1 * 2 ^ min (ji9).toNat 64)) = ji11 := (i64_w _).symm.trans hji11_
   have hji11x : (ji9) ≤ 64 → (wrap64 (1 * 2 ^ (ji9).toNat)) = ji11 := fun h_ => (i64_w _).symm.trans (hji11z h_)
   have c12b0 := eq_true (oD_ : 0 ≤ a1)
   obtain ⟨ji13, hji13⟩ : ∃ j_ : Int, (shr .i64 (wrap64 ((wrap64 (3329 * a0)) + (ji11))) a1) = j_ := ⟨_, rfl⟩
   first | rw [hji13] at H | simp only [hji13] at H
   (try rw [hji13] at A3)
   (try rw [hji13] at A7)
   have hji13_ : ((wrap64 ((wrap64 (3329 * a0)) + (ji11))) / 2 ^ min a1.toNat 64) = ji13 := hji13
   have hji13z : a1 ≤ 64 → ((wrap64 ((wrap64 (3329 * a0)) + (ji11))) / 2 ^ a1.toNat) = ji13 := shr_small hji13
   obtain rfl := Option.some.inj H
   go_enter Try.func102, Try.ntmps102
   go_wp2_with (first | ((with_reducible refine gate_callee (f := 41) rfl ?_); refine goesL_ (some 6) rfl rfl Try.func41 (by kernel_rfl) rfl #[.int .i64 a1, .int .i64 1, .int .i64 11] rfl aM_ ?_; (with_reducible refine (impl_in.calls a1 1 11 true _ A3.out).mono ?_); rintro e w' ⟨rfl, ⟨nd, rfl⟩⟩; refine ⟨_, rfl, ?_⟩) | (go_at_call 41; (with_reducible refine (impl_in.calls a0 0 (wrap64 ((ji6) - 1)) true _ A7.out).mono ?_); rintro e w' ⟨rfl, ⟨nd, rfl⟩⟩))
   go_ret
   exact ⟨by first | rfl | (simp; done) | (simp only [← hji6, ← hji9, ← hji11, ← hji13] <;> (first | rfl | simp)) | (simp [*]; done), d0_⟩
  ·replace c8 := Bool.eq_false_iff.mpr c8
   subst c8
   replace H := iF_ H
   obtain rfl := Option.some.inj H
   go_enter Try.func102, Try.ntmps102
   go_wp2_with (first | ((with_reducible refine gate_callee (f := 41) rfl ?_); refine goesL_ (some 6) rfl rfl Try.func41 (by kernel_rfl) rfl #[.int .i64 a1, .int .i64 1, .int .i64 11] rfl aM_ ?_; (with_reducible refine (impl_in.calls a1 1 11 true _ A3.out).mono ?_); rintro e w' ⟨rfl, ⟨nd, rfl⟩⟩; refine ⟨_, rfl, ?_⟩) | (go_at_call 41; (with_reducible refine (impl_in.calls a0 0 (wrap64 ((ji6) - 1)) false _ A7.out).mono ?_); rintro e w' ⟨rfl, ⟨nd, rfl⟩⟩))
   go_ret
   exact ⟨by first | rfl | (simp; done) | (simp only [← hji6] <;> (first | rfl | simp)) | (simp [*]; done), d0_⟩
 ·replace c4 := Bool.eq_false_iff.mpr c4
  subst c4
  replace H := iF_ H
  obtain rfl := Option.some.inj H
  go_enter Try.func102, Try.ntmps102
  go_wp2_with (first | ((with_reducible refine gate_callee (f := 41) rfl ?_); refine goesL_ (some 6) rfl rfl Try.func41 (by kernel_rfl) rfl #[.int .i64 a1, .int .i64 1, .int .i64 11] rfl aM_ ?_; (with_reducible refine (impl_in.calls a1 1 11 false _ A3.out).mono ?_); rintro e w' ⟨rfl, ⟨nd, rfl⟩⟩; refine ⟨_, rfl, ?_⟩))
  go_ret
  exact ⟨f0_, d0_⟩

/-! ### impl_bitsOf: function 69 -/
def impl_bitsOf.l0 : Nat → ByteArray → List Int → Int → Int → Option (List Int)
 | 0, _, _, _, _ => none
 | k + 1, x0, x3, x7, x8 => if x8 < x7 then (if 0 ≤ (wrap64 (Int.tdiv x8 8)) then (if (wrap64 (Int.tdiv x8 8)) < (x0.size : Int) then (if 0 ≤ (Int.tmod x8 8) then ((impl_Stretch.f (wrap64 (Go.bits .and .u8 (shr .u8 (bt x0 (wrap64 (Int.tdiv x8 8))) (Int.tmod x8 8)) 1)) 1).bind fun t1243 => (if 0 ≤ x8 then (if x8 < (x3.length : Int) then (impl_bitsOf.l0 k x0 (x3.set (x8 : Int).toNat t1243) x7 (wrap64 (x8 + 1))) else (none)) else (none))) else (none)) else (none)) else (none)) else (some x3)
def impl_bitsOf.f (k : Nat) (a0 : ByteArray) : Option (List Int) := if 256 ≤ 35184372088832 then ((some (List.replicate 256 0 : List Int)).bind fun y1240 => (impl_bitsOf.l0 k a0 y1240 (y1240.length : Int) 0)) else (none)
theorem impl_bitsOf.mono_l : ∀ k, (∀ y0 y1 y2 y3, LeO (impl_bitsOf.l0 k y0 y1 y2 y3) (impl_bitsOf.l0 (k + 1) y0 y1 y2 y3))
 | 0 => fun _ _ _ _ r h => by simp [impl_bitsOf.l0] at h
 | k + 1 => by
  have ih0 := impl_bitsOf.mono_l k
  intros; unfold impl_bitsOf.l0; exact o1_ ih0
theorem impl_bitsOf.mono : ∀ a0 k, LeO (impl_bitsOf.f k a0) (impl_bitsOf.f (k + 1) a0) := by
 intro a0 k
 have ih0 := impl_bitsOf.mono_l k
 unfold impl_bitsOf.f
 exact o1_ ih0
theorem impl_bitsOf.calls (k : Nat) (a0 : ByteArray) (r : List Int) (w : World) (h : impl_bitsOf.f k a0 = some r) :
  Calls Try.prog 69 #[.string a0] w fun e w' => ∃ v0_ : Value, e = .returned (v0_) ∧ Kd.R (Kd.int .i64) 3 w' w.heap.size (fun _ => True) v0_ r ∧ Below w.heap.size w w' := by
 have HB := Aside0.mk (Below.refl w.heap.size w)
 delta impl_bitsOf.f at h
 have H := h
 clear h
 obtain ⟨c2, H⟩ := iN_ H
 have c2b0 := eq_true c2
 have c2b1 := decide_eq_true c2
 clear c2
 obtain ⟨y1240, hy1240⟩ : ∃ y_ : List Int, y_ = (List.replicate 256 0) := ⟨_, rfl⟩
 first | replace H := yb_ hy1240 H | rw [← hy1240] at H
 have Ny1240 := Aside0.mk hy1240
 clear hy1240
 have H' := Aside0.mk H
 clear H
 go_enter Try.func69, Try.ntmps69
 go_wp2_with (first | ((with_reducible refine gate_dst (N := 5) rfl ?_); refine Kd.R_make (Kd.int .i64) _ 3 rfl (N := 5) rfl 22 _ _ rfl 256 rfl rfl Try.underlying22 (.int .i64 0) 8 info3 rfl (by decide) (by omega) 0 (ok := fun _ => True) (okp := fun _ => True) rfl (fun _ hk => hk) trivial (by omega) (by omega) (Below.refl _ _) (Nat.le_refl _) ?_; intro v1241 w3 ho4 hb hg_ hnew_; clear hg_ hnew_; (first | rw [← Ny1240.out] at ho4 | (simp only [Int.reduceToNat] at ho4; rw [← Ny1240.out] at ho4)); have n_ := b_ (Kd.R_lower ho4 (below_size (hB_))) <| c_ (below_step (hB_) hb); clear HB; obtain ⟨HO1242, HB⟩ := n_; clear hb ho4; obtain ⟨Ao5, co5, eo5⟩ := Kd.R_slice HO1242.out; subst eo5))
 go_loopg [8] k (fun kq v8 w' => ∃ (x3_1 : List Int) (x8_1 : Int), v8 = .int .i64 x8_1 ∧ Aside0 (impl_bitsOf.l0 kq a0 x3_1 (y1240.length : Int) x8_1 = some r) ∧ Aside0 (kq ≤ k) ∧ Aside0 (Kd.R (Kd.int .i64) 3 w' w.heap.size (fun _ => True) (.slice Ao5 y1240.length co5) x3_1) ∧ Aside0 (Below w.heap.size w w'))
 case atStart => exact ⟨(y1240), (0), f0_, H', ⟨Nat.le_refl _⟩, ⟨rR_ HO1242.out⟩, ⟨hB_⟩⟩
 case round =>
  clear H'
  obtain ⟨x3_1, x8_1, rfl, HA, HK1, HO_3, HB⟩ := hrel
  have hl3_1 := (Kd.R_reads' HO_3.out).1
  rw [hl3_1] at HO_3
  (try simp only [hl3_1])
  cases gk with
  | zero => exact absurd HA.out (by simp [impl_bitsOf.l0])
  | succ k1 =>
   have H := HA.out
   clear HA
   simp only [impl_bitsOf.l0] at H
   by_cases c6 : x8_1 < (y1240.length : Int)
   rotate_left
   ·rw [if_neg c6] at H
    have c6b0 := decide_eq_false c6
    (try simp only [hl3_1] at c6b0)
    clear c6
    obtain rfl := Option.some.inj H
    go_wp2
    go_ret
    exact ⟨_, f1_, rR_ HO_3.out, hB_⟩
   rw [if_pos c6] at H
   have c6b0 := decide_eq_true c6
   (try simp only [hl3_1] at c6b0)
   clear c6
   obtain ⟨ji7, hji7⟩ : ∃ j_ : Int, (wrap64 (Int.tdiv x8_1 8)) = j_ := ⟨_, rfl⟩
   first | rw [hji7] at H | simp only [hji7] at H
   have hji7w : (IntKind.i64.wrap (Int.tdiv x8_1 8)) = ji7 := (i64_w _).trans hji7
   obtain ⟨c8b0, H⟩ := iD_ H
   obtain ⟨c9b0, H⟩ := iD_ H
   obtain ⟨ji11, hji11⟩ : ∃ j_ : Int, (Int.tmod x8_1 8) = j_ := ⟨_, rfl⟩
   first | rw [hji11] at H | simp only [hji11] at H
   obtain ⟨c12, H⟩ := iN_ H
   have c12b0 := eq_true c12
   have c12b1 := decide_eq_true c12
   clear c12
   obtain ⟨ji13, hji13⟩ : ∃ j_ : Int, (shr .u8 (bt a0 (ji7)) (ji11)) = j_ := ⟨_, rfl⟩
   first | rw [hji13] at H | simp only [hji13] at H
   have hji13_ : ((bt a0 (ji7)) / 2 ^ min (ji11).toNat 8) = ji13 := hji13
   have hji13z : (ji11) ≤ 8 → ((bt a0 (ji7)) / 2 ^ (ji11).toNat) = ji13 := shr_small hji13
   obtain ⟨t1243, A14, H⟩ := bN_ H
   obtain ⟨c15b0, H⟩ := iD_ H
   obtain ⟨c16, H⟩ := iN_ H
   have c16b0 := decide_eq_true c16
   (try simp only [hl3_1] at c16b0)
   clear c16
   obtain ⟨y1244, hy1244⟩ : ∃ y_ : List Int, y_ = (x3_1.set (x8_1 : Int).toNat t1243) := ⟨_, rfl⟩
   first | replace H := yb_ hy1244 H | rw [← hy1244] at H
   have Ny1244 := Aside0.mk hy1244
   clear hy1244
   have H' := Aside0.mk H
   clear H
   have p10 := eq_true (oD_ : 0 ≤ ((ji7) : Int))
   have q10 := eq_true (oD_ : (ji7) < (a0.size : Int))
   have hx10 := bt_at a0 (ji7)
   go_wp2_with (first | ((with_reducible refine gate_callee (f := 102) rfl ?_); refine goesL_ (some 22) rfl rfl Try.func102 (by kernel_rfl) rfl #[.int .i64 (wrap64 (Go.bits .and .u8 (ji13) 1)), .int .i64 1] rfl (by (try simp only [List.map_toArray, List.map_cons, List.map_nil]); first | done | (simp only [hji13]; rfl) | rfl | (simp only [List.length_drop, List.length_take]; rfl)) ?_; (with_reducible refine (impl_Stretch.calls (wrap64 (Go.bits .and .u8 (ji13) 1)) 1 t1243 _ A14.out).mono ?_); rintro e w' ⟨rfl, ⟨nd, rfl⟩⟩; refine ⟨_, rfl, ?_⟩; (try (rw [drewN_self wr]; generalize hq_ : World.drewN wr _ = wr; have n_ := b_ (show Kd.R (Kd.int .i64) 3 wr w.heap.size (fun _ => True) (.slice Ao5 x3_1.length co5) x3_1 from by rw [← hq_]; exact (rR_ HO_3.out)) <| c_ (show Below w.heap.size w wr from by rw [← hq_]; exact (hB_)); clear HO_3 HB hq_; obtain ⟨HO_3, HB⟩ := n_)); have p17 : 0 ≤ (x8_1 : Int) := oD_; have q17 : (x8_1 : Int) < ((x3_1.length : Int) : Int) := oD_; obtain ⟨go17, co17, eo17, gb17, gl17, cl17, HG17⟩ := Kd.R_form HO_3.out (by omega); (first | cases eo17 | (injection eo17 with ea_ en_ ec_; (first | subst ea_ | (injection ea_ with ea_; subst ea_)); subst ec_; clear en_)); have GB17 := Aside0.mk gb17; have GG17 := Aside0.mk HG17; clear gb17 gl17 HG17; obtain ⟨hx17_0, hf17_0⟩ := Kd.R_celln 0 HO_3.out (x8_1 : Int) p17 q17; replace p17 := eq_true p17; replace q17 := eq_true q17; obtain ⟨hy18_, hz18_⟩ := Kd.R_celln 0 HO_3.out (x8_1 : Int) oD_ oD_; have HP18 := Kd.R_putg HO_3.out (x8_1 : Int) t1243) | ((with_reducible refine gate_store (t := 3) (p := 23) rfl ?_); refine store_event (t := 3) (p := 23) (v := ?vo_w19) (w1 := (wr.setCell ⟨go17, (x8_1 : Int).toNat, none⟩ (.int .i64 t1243))) ?hg ?ho ?hn ?hr ?_; (case ho => rfl); (case hg => rfl); (case hn => rfl); (case hr => first | (go_simp; done) | (go_simp; rfl)); intro w19 hw; have hg : wr.grownBy w19 (some go17) := (by rw [hw]; exact HP18.2); have hp_ : Kd.R (Kd.int .i64) 3 w19 w.heap.size (fun _ => True) (.slice (some ⟨go17, 0, none⟩) x3_1.length co5) y1244 := (by rw [hw, Ny1244.out]; exact HP18.1); clear HP18; have n_ := b_ (hp_) <| c_ (by rw [hw]; exact below_set (HB.out) GB17.out : Below w.heap.size w w19); clear HO_3 HB; obtain ⟨HO_3, HB⟩ := n_; clear hg hw hp_))
   (try simp only [← hl3_1])
   go_roundg k1
   case measure => have := HK1.out; omega
   case rel => exact ⟨(y1244), (wrap64 (x8_1 + 1)), f0_, H', ⟨by have := HK1.out; omega⟩, ⟨by (try simp only [hl3_1]); refine kR_ ?_; exact HO_3.out⟩, ⟨hB_⟩⟩

end Go.Proofs.Ytnckhligcdieaaa.P
