-- printed texts of this session, regrouped
import Derived.Test.YthdjmbbkenbeiaaDoorMWC
import Derived.Test.YthdjmbbkenbeiaaDoorMWA
import Derived.Test.YthdjmbbkenbeiaaDoorMW7
import Derived.Test.YthdjmbbkenbeiaaDoorMW6
import Derived.Test.YthdjmbbkenbeiaaDoorPx0
import Derived.Test.YthdjmbbkenbeiaaDoorPx1
import Derived.Test.YthdjmbbkenbeiaaDoorPx2
namespace Go.Proofs.YthdjmbbkenbeiaaDoor.P
open Go.RowKit Go.Proofs.YthdjmbbkenbeiaaDoorW.PrintWords Go.Proofs.YthdjmbbkenbeiaaDoorW.PrintLast Go.Proofs.YthdjmbbkenbeiaaDoorW.PrintMore
attribute [local go_sem] max2_int min2_int max_two min_two max_three min_three max_four min_four   -- for this text's walks alone
set_option linter.unusedVariables false
set_option linter.unusedSimpArgs false
set_option maxHeartbeats 8000000
set_option maxRecDepth 100000

/-! ### spec_Turn7: function 27 -/
mutual
def spec_Turn7.j0 : Nat → Int → Option (Int)
 | 0, _ => none
 | k + 1, x0 => spec_Turn7.l0 k x0 0 0
def spec_Turn7.l0 : Nat → Int → Int → Int → Option (Int)
 | 0, _, _, _ => none
 | k + 1, x0, x3, x4 => if x4 < 7 then (spec_Turn7.l0 k (wrap64 (Int.tdiv x0 2)) (wrap64 ((wrap64 (2 * x3)) + (Int.tmod x0 2))) (wrap64 (x4 + 1))) else (some x3)
end
def spec_Turn7.f (k : Nat) (a0 : Int) : Option (Int) := if (Int.tmod a0 128) < 0 then (spec_Turn7.j0 k (wrap64 ((Int.tmod a0 128) + 128))) else (spec_Turn7.j0 k (Int.tmod a0 128))
theorem spec_Turn7.mono_l : ∀ k, (∀ y0, LeO (spec_Turn7.j0 k y0) (spec_Turn7.j0 (k + 1) y0)) ∧ (∀ y0 y1 y2, LeO (spec_Turn7.l0 k y0 y1 y2) (spec_Turn7.l0 (k + 1) y0 y1 y2))
 | 0 => ⟨fun _ r h => by simp [spec_Turn7.j0] at h, fun _ _ _ r h => by simp [spec_Turn7.l0] at h⟩
 | k + 1 => by
  obtain ⟨ih0, ih1⟩ := spec_Turn7.mono_l k
  refine ⟨?_, ?_⟩ <;> (intros; (first | unfold spec_Turn7.j0 | unfold spec_Turn7.l0); exact o2_ ih0 ih1)
theorem spec_Turn7.mono : ∀ a0 k, LeO (spec_Turn7.f k a0) (spec_Turn7.f (k + 1) a0) := by
 intro a0 k
 obtain ⟨ih0, ih1⟩ := spec_Turn7.mono_l k
 unfold spec_Turn7.f
 exact o2_ ih0 ih1
theorem spec_Turn7.calls (k : Nat) (a0 : Int) (r : Int) (w : World) (h : spec_Turn7.f k a0 = some r) :
  Calls Tryd.prog 27 #[.int .i64 a0] w fun e w' => e = .returned (.int .i64 r) ∧ Drawn0 w w' := by
 delta spec_Turn7.f at h
 have H := h
 clear h
 have HC2 := Aside0.mk H
 clear H
 go_enter Tryd.func27, Tryd.ntmps27
 go_upto_if 8 with (fail)
 go_cut [0] (fun v0 wc => ∃ (kq : Nat) (x0_1 : Int), v0 = .int .i64 x0_1 ∧ Aside0 (spec_Turn7.j0 kq x0_1 = some r) ∧ Aside0 (kq ≤ k) ∧ Drawn0 w wc)
 case first =>
  have H := HC2.out
  clear HC2
  by_cases c3 : (Int.tmod a0 128) < 0
  ·rw [if_pos c3] at H
   have c3b0 := decide_eq_true c3
   clear c3
   (first | rw [c3b0] | (simp only [i64_w, i32_w]; rw [c3b0]) | skip)
   have H' := Aside0.mk H
   clear H
   go_wp2
   go_meet
   case rel => exact ⟨_, (wrap64 ((Int.tmod a0 128) + 128)), f0_, H', ⟨by first | omega | exact Nat.le_refl _⟩, d0_⟩
  rw [if_neg c3] at H
  have c3b0 := decide_eq_false c3
  clear c3
  (first | rw [c3b0] | (simp only [i64_w, i32_w]; rw [c3b0]) | skip)
  have H' := Aside0.mk H
  clear H
  go_wp2
  go_meet
  case rel => exact ⟨_, (Int.tmod a0 128), f0_, H', ⟨by first | omega | exact Nat.le_refl _⟩, d0_⟩
 case rest =>
  clear HC2
  obtain ⟨kq, x0_1, rfl, HA, HJ1, ⟨mc1, rfl⟩⟩ := hcut
  cases kq with
  | zero => exact absurd HA.out (by simp [spec_Turn7.j0])
  | succ kj1 =>
   have H := HA.out
   clear HA
   simp only [spec_Turn7.j0] at H
   have H' := Aside0.mk H
   clear H
   go_wp2
   go_loopg [0, 3, 4] kj1 (fun kq v0 v3 v4 w' => ∃ (x0_2 : Int) (x3_2 : Int) (x4_2 : Int), v0 = .int .i64 x0_2 ∧ v3 = .int .i64 x3_2 ∧ v4 = .int .i64 x4_2 ∧ Aside0 (spec_Turn7.l0 kq x0_2 x3_2 x4_2 = some r) ∧ Aside0 (kq ≤ kj1) ∧ Drawn0 w w')
   case atStart => exact ⟨(x0_1), (0), (0), f0_, f0_, f0_, H', ⟨Nat.le_refl _⟩, d0_⟩
   case round =>
    clear H'
    obtain ⟨x0_2, x3_2, x4_2, rfl, rfl, rfl, HA, HK2, ⟨m2, rfl⟩⟩ := hrel
    cases gk with
    | zero => exact absurd HA.out (by simp [spec_Turn7.l0])
    | succ k2 =>
     have H := HA.out
     clear HA
     simp only [spec_Turn7.l0] at H
     by_cases c4 : x4_2 < 7
     ·rw [if_pos c4] at H
      have c4b0 := decide_eq_true c4
      clear c4
      have H' := Aside0.mk H
      clear H
      go_wp2
      go_roundg k2
      case measure => have := HJ1.out; have := HK2.out; omega
      case rel => exact ⟨(wrap64 (Int.tdiv x0_2 2)), (wrap64 ((wrap64 (2 * x3_2)) + (Int.tmod x0_2 2))), (wrap64 (x4_2 + 1)), f0_, f0_, f0_, H', ⟨by have := HJ1.out; have := HK2.out; omega⟩, d0_⟩
     rw [if_neg c4] at H
     have c4b0 := decide_eq_false c4
     clear c4
     obtain rfl := Option.some.inj H
     go_wp2
     go_ret
     exact ⟨f0_, d0_⟩

/-! ### spec_Ntt: function 9 -/
mutual
def spec_Ntt.l0 : Nat → List Int → Int → Int → Option (List Int)
 | 0, _, _, _ => none
 | k + 1, x3, x4, x5 => if x5 ≥ 2 then (spec_Ntt.l1 k x3 x4 x5 0) else (some x3)
def spec_Ntt.l1 : Nat → List Int → Int → Int → Int → Option (List Int)
 | 0, _, _, _, _ => none
 | k + 1, x3, x4, x5, x6 => if x6 < 256 then ((spec_Turn7.f k x4).bind fun t322 => ((spec_PowQ.f k 17 t322).bind fun t323 => (spec_Ntt.l2 k x3 (wrap64 (x4 + 1)) x5 x6 t323 x6))) else (spec_Ntt.l0 k x3 x4 (wrap64 (Int.tdiv x5 2)))
def spec_Ntt.l2 : Nat → List Int → Int → Int → Int → Int → Int → Option (List Int)
 | 0, _, _, _, _, _, _ => none
 | k + 1, x3, x4, x5, x6, x7, x8 => if x8 < (wrap64 (x6 + x5)) then (if 0 ≤ (wrap64 (x8 + x5)) then (if (wrap64 (x8 + x5)) < (x3.length : Int) then (if 0 ≤ x8 then (if x8 < (x3.length : Int) then ((some (x3.set ((wrap64 (x8 + x5)) : Int).toNat (Int.tmod (wrap64 ((wrap64 ((rd x3 x8) - (Int.tmod (wrap64 (x7 * (rd x3 (wrap64 (x8 + x5))))) 3329))) + 3329)) 3329) : List Int)).bind fun y326 => (spec_Ntt.l2 k (y326.set (x8 : Int).toNat (Int.tmod (wrap64 ((rd y326 x8) + (Int.tmod (wrap64 (x7 * (rd x3 (wrap64 (x8 + x5))))) 3329))) 3329)) x4 x5 x6 x7 (wrap64 (x8 + 1)))) else (none)) else (none)) else (none)) else (none)) else (spec_Ntt.l1 k x3 x4 x5 (wrap64 (x6 + (wrap64 (2 * x5)))))
end
def spec_Ntt.f (k : Nat) (l0 : List Int) : Option (List Int) := (spec_PolyOk.f k l0).bind fun t312 => (if t312 = true then ((some (([] : List Int) : List Int)).bind fun y316 => (if y316.length + l0.length < 17592186044416 then (spec_Ntt.l0 k (y316 ++ l0) 1 128) else (none))) else (some (([] : List Int))))
theorem spec_Ntt.mono_l : ∀ k, (∀ y0 y1 y2, LeO (spec_Ntt.l0 k y0 y1 y2) (spec_Ntt.l0 (k + 1) y0 y1 y2)) ∧ (∀ y0 y1 y2 y3, LeO (spec_Ntt.l1 k y0 y1 y2 y3) (spec_Ntt.l1 (k + 1) y0 y1 y2 y3)) ∧ (∀ y0 y1 y2 y3 y4 y5, LeO (spec_Ntt.l2 k y0 y1 y2 y3 y4 y5) (spec_Ntt.l2 (k + 1) y0 y1 y2 y3 y4 y5))
 | 0 => ⟨fun _ _ _ r h => by simp [spec_Ntt.l0] at h, fun _ _ _ _ r h => by simp [spec_Ntt.l1] at h, fun _ _ _ _ _ _ r h => by simp [spec_Ntt.l2] at h⟩
 | k + 1 => by
  obtain ⟨ih0, ih1, ih2⟩ := spec_Ntt.mono_l k
  refine ⟨?_, ?_, ?_⟩ <;> (intros; (first | unfold spec_Ntt.l0 | unfold spec_Ntt.l1 | unfold spec_Ntt.l2); exact o6_ ih0 ih1 ih2 spec_PolyOk.mono spec_PowQ.mono spec_Turn7.mono)
theorem spec_Ntt.mono : ∀ a0 k, LeO (spec_Ntt.f k a0) (spec_Ntt.f (k + 1) a0) := by
 intro a0 k
 obtain ⟨ih0, ih1, ih2⟩ := spec_Ntt.mono_l k
 unfold spec_Ntt.f
 exact o6_ ih0 ih1 ih2 spec_PolyOk.mono spec_PowQ.mono spec_Turn7.mono
theorem spec_Ntt.calls (k : Nat) (A0 : Option Addr) (c0 : Nat) (l0 : List Int) (r : List Int) (w : World) (hr0 : Kd.C (Kd.int .i64) w A0 l0.length l0) (hc0 : l0.length ≤ c0) (h : spec_Ntt.f k l0 = some r) :
  Calls Tryd.prog 9 #[.slice A0 l0.length c0] w fun e w' => ∃ v0_ : Value, e = .returned (v0_) ∧ Kd.R (Kd.int .i64) 3 w' w.heap.size (fun _ => True) v0_ r ∧ Below w.heap.size w w' := by
 have HR0 := Aside0.mk hr0
 have HC0 := Aside0.mk hc0
 clear hr0 hc0
 have HB := Aside0.mk (Below.refl w.heap.size w)
 delta spec_Ntt.f at h
 have H := h
 clear h
 obtain ⟨t312, A2, H⟩ := bN_ H
 by_cases c3 : t312 = true
 ·subst c3
  replace H := iT_ H
  obtain ⟨y316, hy316⟩ : ∃ y_ : List Int, y_ = (([] : List Int)) := ⟨_, rfl⟩
  first | replace H := yb_ hy316 H | rw [← hy316] at H
  have Ny316 := Aside0.mk hy316
  clear hy316
  obtain ⟨c4, H⟩ := iN_ H
  have LMc4 := Aside0.mk c4
  clear c4
  obtain ⟨y319, hy319⟩ : ∃ y_ : List Int, y_ = (y316 ++ l0) := ⟨_, rfl⟩
  first | replace H := yb_ hy319 H | rw [← hy319] at H
  have Ny319 := Aside0.mk hy319
  clear hy319
  have H' := Aside0.mk H
  clear H
  go_enter Tryd.func9, Tryd.ntmps9
  go_wp2_with (first | ((with_reducible refine gate_callee (f := 25) rfl ?_); refine goesL_ (some 11) rfl rfl Tryd.func25 (by kernel_rfl) rfl #[.slice A0 l0.length c0] rfl aM_ ?_; (with_reducible refine (spec_PolyOk.calls k _ _ l0 true _ ?side1 ?side2 A2.out).mono ?_); (case side1 => exact cR_ HR0.out); (case side2 => exact HC0.out); rintro e w' ⟨rfl, ⟨nd, rfl⟩⟩; refine ⟨_, rfl, ?_⟩) | ((with_reducible refine gate_dst (N := 14) rfl ?_); refine Kd.R_lit (Kd.int .i64) _ 3 ?hg (N := 14) ?hd (xs := ([] : List Int)) (inner := []) (ok := fun _ => True) (okp := fun _ => True) ?hr ?hp (fun _ hk => hk) trivial (Below.refl _ _) (Nat.le_refl _) (by simp) ?_; (case hd => rfl); (case hg => rfl); (case hr => first | (go_simp; done) | (go_simp; rfl)); (case hp => exact (Reps.none _ _)); intro v317 w5 ho6 hb hg_ hnew_; clear hg_ hnew_; (first | rw [← Ny316.out] at ho6 | (simp only [Int.reduceToNat] at ho6; rw [← Ny316.out] at ho6)); have n_ := b_ (Kd.R_lower ho6 (below_size (hB_))) <| c_ (below_step (hB_) hb); clear HB; obtain ⟨HO318, HB⟩ := n_; clear hb ho6) | ((with_reducible refine gate_builtin (b := .append) (xs := #[.tmp 14, .tmp 15]) rfl ?_); at_builtin; refine Kd.R_append_rows (Kd.int .i64) (w0 := w) w.heap.size rfl (.tmp 14) (.tmp 15) 31 3 (.int .i64 0) 8 rfl Tryd.underlying31 info3 rfl (by decide) (by omega) v317 y316 l0 _ _ _ (fun _ => True) (fun _ => False) rfl rfl ?aO ?aR (fun _ _ h => h) (fun _ h => h.elim) ?aF ?aB ?aS ?aL ?_; (case aR => exact cR_ (Kd.C_below HR0.out HB.out)); (case aB => exact (hB_)); (case aF => exact (fun _ _ => trivial)); (case aO => exact (rR_ HO318.out)); (case aS => exact (below_size (hB_))); (case aL => have := LMc4.out; omega); intro v320 w7 ho hb hg hat; rw [← Ny319.out] at ho; have n_ := b_ (hb) <| c_ (ho); clear HO318 HB; obtain ⟨HB, HO321⟩ := n_; clear ho hb hg hat))
  go_loopg [4, 5] k (fun kq v4 v5 w' => ∃ (x3_1 : List Int) (x4_1 : Int) (x5_1 : Int), v4 = .int .i64 x4_1 ∧ v5 = .int .i64 x5_1 ∧ Aside0 (spec_Ntt.l0 kq x3_1 x4_1 x5_1 = some r) ∧ Aside0 (kq ≤ k) ∧ Aside0 (Kd.R (Kd.int .i64) 3 w' w.heap.size (fun _ => True) v320 x3_1) ∧ Aside0 (Below w.heap.size w w'))
  case atStart => exact ⟨(y319), (1), (128), f0_, f0_, H', ⟨Nat.le_refl _⟩, ⟨rR_ HO321.out⟩, ⟨hB_⟩⟩
  case round =>
   clear H'
   obtain ⟨x3_1, x4_1, x5_1, rfl, rfl, HA, HK1, HO_3, HB⟩ := hrel
   cases gk with
   | zero => exact absurd HA.out (by simp [spec_Ntt.l0])
   | succ k1 =>
    have H := HA.out
    clear HA
    simp only [spec_Ntt.l0] at H
    by_cases c8 : x5_1 ≥ 2
    rotate_left
    ·rw [if_neg c8] at H
     have c8b0 := decide_eq_false c8
     clear c8
     obtain rfl := Option.some.inj H
     go_wp2
     go_ret
     exact ⟨_, f1_, rR_ HO_3.out, hB_⟩
    rw [if_pos c8] at H
    have c8b0 := decide_eq_true c8
    clear c8
    have H' := Aside0.mk H
    clear H
    go_wp2
    go_loopg [4, 6] k1 (fun kq v4 v6 w' => ∃ (x3_2 : List Int) (x4_2 : Int) (x6_2 : Int), v4 = .int .i64 x4_2 ∧ v6 = .int .i64 x6_2 ∧ Aside0 (spec_Ntt.l1 kq x3_2 x4_2 x5_1 x6_2 = some r) ∧ Aside0 (kq ≤ k1) ∧ Aside0 (Kd.R (Kd.int .i64) 3 w' w.heap.size (fun _ => True) v320 x3_2) ∧ Aside0 (Below w.heap.size w w'))
    case atStart => exact ⟨(x3_1), (x4_1), (0), f0_, f0_, H', ⟨Nat.le_refl _⟩, ⟨rR_ HO_3.out⟩, ⟨hB_⟩⟩
    case round =>
     clear H'
     obtain ⟨x3_2, x4_2, x6_2, rfl, rfl, HA, HK2, HO_3, HB⟩ := hrel
     cases gk with
     | zero => exact absurd HA.out (by simp [spec_Ntt.l1])
     | succ k2 =>
      have H := HA.out
      clear HA
      simp only [spec_Ntt.l1] at H
      by_cases c9 : x6_2 < 256
      rotate_left
      ·rw [if_neg c9] at H
       have c9b0 := decide_eq_false c9
       clear c9
       have H' := Aside0.mk H
       clear H
       go_wp2
       go_roundg k2
       case measure => have := HK1.out; have := HK2.out; omega
       case rel => exact ⟨(x3_2), (x4_2), (wrap64 (Int.tdiv x5_1 2)), f0_, f0_, H', ⟨by have := HK1.out; have := HK2.out; omega⟩, ⟨rR_ HO_3.out⟩, ⟨hB_⟩⟩
      rw [if_pos c9] at H
      have c9b0 := decide_eq_true c9
      clear c9
      obtain ⟨t322, A10, H⟩ := bN_ H
      obtain ⟨t323, A11, H⟩ := bN_ H
      have H' := Aside0.mk H
      clear H
      go_wp2_with (first | ((with_reducible refine gate_callee (f := 27) rfl ?_); refine goesL_ (some 28) rfl rfl Tryd.func27 (by kernel_rfl) rfl #[.int .i64 x4_2] rfl aM_ ?_; (with_reducible refine (spec_Turn7.calls k2 x4_2 t322 _ A10.out).mono ?_); rintro e w' ⟨rfl, ⟨nd, rfl⟩⟩; refine ⟨_, rfl, ?_⟩) | ((with_reducible refine gate_callee (f := 26) rfl ?_); refine goesL_ (some 29) rfl rfl Tryd.func26 (by kernel_rfl) rfl #[.int .i64 17, .int .i64 t322] rfl aM_ ?_; (with_reducible refine (spec_PowQ.calls k2 17 t322 t323 _ A11.out).mono ?_); rintro e w' ⟨rfl, ⟨nd, rfl⟩⟩; refine ⟨_, rfl, ?_⟩))
      go_loopg [8] k2 (fun kq v8 w' => ∃ (x3_3 : List Int) (x8_3 : Int), v8 = .int .i64 x8_3 ∧ Aside0 (spec_Ntt.l2 kq x3_3 (wrap64 (x4_2 + 1)) x5_1 x6_2 t323 x8_3 = some r) ∧ Aside0 (kq ≤ k2) ∧ Aside0 (Kd.R (Kd.int .i64) 3 w' w.heap.size (fun _ => True) v320 x3_3) ∧ Aside0 (Below w.heap.size w w'))
      case atStart => exact ⟨(x3_2), (x6_2), f0_, H', ⟨Nat.le_refl _⟩, ⟨rR_ HO_3.out⟩, ⟨hB_⟩⟩
      case round =>
       clear H'
       obtain ⟨x3_3, x8_3, rfl, HA, HK3, HO_3, HB⟩ := hrel
       cases gk with
       | zero => exact absurd HA.out (by simp [spec_Ntt.l2])
       | succ k3 =>
        have H := HA.out
        clear HA
        simp only [spec_Ntt.l2] at H
        by_cases c12 : x8_3 < (wrap64 (x6_2 + x5_1))
        rotate_left
        ·rw [if_neg c12] at H
         have c12b0 := decide_eq_false c12
         clear c12
         have H' := Aside0.mk H
         clear H
         go_wp2
         go_roundg k3
         case measure => have := HK1.out; have := HK2.out; have := HK3.out; omega
         case rel => exact ⟨(x3_3), ((wrap64 (x4_2 + 1))), (wrap64 (x6_2 + (wrap64 (2 * x5_1)))), f0_, f0_, H', ⟨by have := HK1.out; have := HK2.out; have := HK3.out; omega⟩, ⟨rR_ HO_3.out⟩, ⟨hB_⟩⟩
        rw [if_pos c12] at H
        have c12b0 := decide_eq_true c12
        clear c12
        obtain ⟨ji13, hji13⟩ : ∃ j_ : Int, (wrap64 (x8_3 + x5_1)) = j_ := ⟨_, rfl⟩
        first | rw [hji13] at H | simp only [hji13] at H
        have hji13w : (IntKind.i64.wrap (x8_3 + x5_1)) = ji13 := (i64_w _).trans hji13
        obtain ⟨c14b0, H⟩ := iD_ H
        obtain ⟨c15b0, H⟩ := iD_ H
        obtain ⟨c16b0, H⟩ := iD_ H
        obtain ⟨c17b0, H⟩ := iD_ H
        obtain ⟨y326, hy326⟩ : ∃ y_ : List Int, y_ = (x3_3.set ((ji13) : Int).toNat (Int.tmod (wrap64 ((wrap64 ((rd x3_3 x8_3) - (Int.tmod (wrap64 (t323 * (rd x3_3 (ji13)))) 3329))) + 3329)) 3329)) := ⟨_, rfl⟩
        first | replace H := yb_ hy326 H | rw [← hy326] at H
        have Ny326 := Aside0.mk hy326
        clear hy326
        obtain ⟨y328, hy328⟩ : ∃ y_ : List Int, y_ = (y326.set (x8_3 : Int).toNat (Int.tmod (wrap64 ((rd y326 x8_3) + (Int.tmod (wrap64 (t323 * (rd x3_3 (ji13)))) 3329))) 3329)) := ⟨_, rfl⟩
        first | replace H := yb_ hy328 H | rw [← hy328] at H
        have Ny328 := Aside0.mk hy328
        clear hy328
        have H' := Aside0.mk H
        clear H
        obtain ⟨Ao20, co20, eo20⟩ := Kd.R_slice HO_3.out
        subst eo20
        have p324 : 0 ≤ ((ji13) : Int) := oD_
        have q324 : (ji13) < (x3_3.length : Int) := oD_
        obtain ⟨ad324, e324, hx324_0⟩ := Kd.at_int (Kd.R_reads' HO_3.out).2.2 (ji13) p324 q324
        cases e324
        replace p324 := eq_true p324
        replace q324 := eq_true q324
        have p325 : 0 ≤ (x8_3 : Int) := oD_
        have q325 : x8_3 < (x3_3.length : Int) := oD_
        obtain ⟨ad325, e325, hx325_0⟩ := Kd.at_int (Kd.R_reads' HO_3.out).2.2 x8_3 p325 q325
        obtain rfl : ad324 = ad325 := (by injection e325)
        replace p325 := eq_true p325
        replace q325 := eq_true q325
        have p18 : 0 ≤ ((ji13) : Int) := oD_
        have q18 : ((ji13) : Int) < ((x3_3.length : Int) : Int) := oD_
        obtain ⟨go18, co18, eo18, gb18, gl18, cl18, HG18⟩ := Kd.R_form HO_3.out (by omega)
        (first | cases eo18 | (injection eo18 with ea_ en_ ec_; (first | subst ea_ | (injection ea_ with ea_; subst ea_)); subst ec_; clear en_))
        have GB18 := Aside0.mk gb18
        have GG18 := Aside0.mk HG18
        clear gb18 gl18 HG18
        (first | simp only [add_plain] at hx324_0 | skip)
        (first | simp only [add_plain] at hx325_0 | skip)
        obtain ⟨hx18_0, hf18_0⟩ := Kd.R_celln 0 HO_3.out ((ji13) : Int) p18 q18
        replace p18 := eq_true p18
        replace q18 := eq_true q18
        have HP21 := Kd.R_putg HO_3.out ((ji13) : Int) (Int.tmod (wrap64 ((wrap64 ((rd x3_3 x8_3) - (Int.tmod (wrap64 (t323 * (rd x3_3 (ji13)))) 3329))) + 3329)) 3329)
        go_wp2_with (first | ((with_reducible refine gate_store (t := 3) (p := 61) rfl ?_); refine store_event (t := 3) (p := 61) (v := ?vo_w22) (w1 := (wr.setCell ⟨go18, ((ji13) : Int).toNat, none⟩ (.int .i64 (Int.tmod (wrap64 ((wrap64 ((rd x3_3 x8_3) - (Int.tmod (wrap64 (t323 * (rd x3_3 (ji13)))) 3329))) + 3329)) 3329)))) ?hg ?ho ?hn ?hr ?_; (case ho => rfl); (case hg => rfl); (case hn => rfl); (case hr => first | (go_simp; done) | (go_simp; rfl)); intro w22 hw; have hg : wr.grownBy w22 (some go18) := (by rw [hw]; exact HP21.2); have hp_ : Kd.R (Kd.int .i64) 3 w22 w.heap.size (fun _ => True) (.slice (some ⟨go18, 0, none⟩) x3_3.length co20) y326 := (by rw [hw, Ny326.out]; exact HP21.1); clear HP21; have n_ := b_ (hp_) <| c_ (by rw [hw]; exact below_set (HB.out) GB18.out : Below w.heap.size w w22); clear HO_3 HB; obtain ⟨HO_3, HB⟩ := n_; clear hg hw hp_; have p327 : 0 ≤ (x8_3 : Int) := oD_; have q327 : x8_3 < (y326.length : Int) := (by have h_ : (x8_3 : Int) < ((x3_3.length : Int) : Int) := oD_; first | (have e_ := (Kd.R_reads' HO_3.out).1; omega) | simpa only [Ny326.out, List.length_set] using h_); have ql327 : ((x8_3 : Int) < ((x3_3.length : Int) : Int)) = True := eq_true oD_; obtain ⟨ad327, e327, hx327_0⟩ := Kd.at_int (Kd.R_reads' HO_3.out).2.2 x8_3 p327 q327; obtain rfl : (⟨go18, 0, none⟩ : Addr) = ad327 := (by injection e327); (first | simp only [add_plain] at hx327_0 | simp only [add_at] at hx327_0 | simp only [Addr.add, Nat.zero_add] at hx327_0 | skip); replace p327 := eq_true p327; replace q327 := eq_true q327; have p19 : 0 ≤ (x8_3 : Int) := oD_; have q19 : (x8_3 : Int) < ((x3_3.length : Int) : Int) := oD_; obtain ⟨hx19_0, hf19_0⟩ := Kd.R_celln 0 HO_3.out (x8_3 : Int) p19 q19; replace p19 := eq_true p19; replace q19 := eq_true q19; obtain ⟨hy23_, hz23_⟩ := Kd.R_celln 0 HO_3.out (x8_3 : Int) oD_ oD_; have HP23 := Kd.R_putg HO_3.out (x8_3 : Int) (Int.tmod (wrap64 ((rd y326 x8_3) + (Int.tmod (wrap64 (t323 * (rd x3_3 (ji13)))) 3329))) 3329)) | ((with_reducible refine gate_store (t := 3) (p := 71) rfl ?_); refine store_event (t := 3) (p := 71) (v := ?vo_w24) (w1 := (w22.setCell ⟨go18, (x8_3 : Int).toNat, none⟩ (.int .i64 (Int.tmod (wrap64 ((rd y326 x8_3) + (Int.tmod (wrap64 (t323 * (rd x3_3 (ji13)))) 3329))) 3329)))) ?hg ?ho ?hn ?hr ?_; (case ho => rfl); (case hg => rfl); (case hn => rfl); (case hr => first | (go_simp; done) | (go_simp; rfl)); intro w24 hw; have hg : w22.grownBy w24 (some go18) := (by rw [hw]; exact HP23.2); have hp_ : Kd.R (Kd.int .i64) 3 w24 w.heap.size (fun _ => True) (.slice (some ⟨go18, 0, none⟩) x3_3.length co20) y328 := (by rw [hw, Ny328.out]; exact HP23.1); clear HP23; have n_ := b_ (hp_) <| c_ (by rw [hw]; exact below_set (HB.out) GB18.out : Below w.heap.size w w24); clear HO_3 HB; obtain ⟨HO_3, HB⟩ := n_; clear hg hw hp_))
        go_roundg k3
        case measure => have := HK1.out; have := HK2.out; have := HK3.out; omega
        case rel => exact ⟨(y328), (wrap64 (x8_3 + 1)), f0_, H', ⟨by have := HK1.out; have := HK2.out; have := HK3.out; omega⟩, ⟨rR_ HO_3.out⟩, ⟨hB_⟩⟩
 ·replace c3 := Bool.eq_false_iff.mpr c3
  subst c3
  replace H := iF_ H
  obtain ⟨y313, hy313⟩ : ∃ y_ : List Int, y_ = (([] : List Int)) := ⟨_, rfl⟩
  first | replace H := yb_ hy313 H | rw [← hy313] at H
  have Ny313 := Aside0.mk hy313
  clear hy313
  obtain rfl := Option.some.inj H
  go_enter Tryd.func9, Tryd.ntmps9
  go_wp2_with (first | ((with_reducible refine gate_callee (f := 25) rfl ?_); refine goesL_ (some 11) rfl rfl Tryd.func25 (by kernel_rfl) rfl #[.slice A0 l0.length c0] rfl aM_ ?_; (with_reducible refine (spec_PolyOk.calls k _ _ l0 false _ ?side1 ?side2 A2.out).mono ?_); (case side1 => exact cR_ HR0.out); (case side2 => exact HC0.out); rintro e w' ⟨rfl, ⟨nd, rfl⟩⟩; refine ⟨_, rfl, ?_⟩) | ((with_reducible refine gate_dst (N := 13) rfl ?_); refine Kd.R_lit (Kd.int .i64) _ 3 ?hg (N := 13) ?hd (xs := ([] : List Int)) (inner := []) (ok := fun _ => True) (okp := fun _ => True) ?hr ?hp (fun _ hk => hk) trivial (Below.refl _ _) (Nat.le_refl _) (by simp) ?_; (case hd => rfl); (case hg => rfl); (case hr => first | (go_simp; done) | (go_simp; rfl)); (case hp => exact (Reps.none _ _)); intro v314 w25 ho26 hb hg_ hnew_; clear hg_ hnew_; (first | rw [← Ny313.out] at ho26 | (simp only [Int.reduceToNat] at ho26; rw [← Ny313.out] at ho26)); have n_ := b_ (Kd.R_lower ho26 (below_size (hB_))) <| c_ (below_step (hB_) hb); clear HB; obtain ⟨HO315, HB⟩ := n_; clear hb ho26))
  go_ret
  exact ⟨_, f1_, rR_ HO315.out, hB_⟩

/-! ### spec_l11Two: function 53 -/
def spec_l11Two.l0 : Nat → Int → Int → Int → Option (Int)
 | 0, _, _, _ => none
 | k + 1, x0, x3, x4 => if x4 < x0 then (spec_l11Two.l0 k x0 (wrap64 (2 * x3)) (wrap64 (x4 + 1))) else (some x3)
def spec_l11Two.f (k : Nat) (a0 : Int) : Option (Int) := spec_l11Two.l0 k a0 1 0
theorem spec_l11Two.mono_l : ∀ k, (∀ y0 y1 y2, LeO (spec_l11Two.l0 k y0 y1 y2) (spec_l11Two.l0 (k + 1) y0 y1 y2))
 | 0 => fun _ _ _ r h => by simp [spec_l11Two.l0] at h
 | k + 1 => by
  have ih0 := spec_l11Two.mono_l k
  intros; unfold spec_l11Two.l0; exact o1_ ih0
theorem spec_l11Two.mono : ∀ a0 k, LeO (spec_l11Two.f k a0) (spec_l11Two.f (k + 1) a0) := by
 intro a0 k
 have ih0 := spec_l11Two.mono_l k
 unfold spec_l11Two.f
 exact o1_ ih0
theorem spec_l11Two.calls (k : Nat) (a0 : Int) (r : Int) (w : World) (h : spec_l11Two.f k a0 = some r) :
  Calls Tryd.prog 53 #[.int .i64 a0] w fun e w' => e = .returned (.int .i64 r) ∧ Drawn0 w w' := by
 delta spec_l11Two.f at h
 have H := h
 clear h
 have H' := Aside0.mk H
 clear H
 go_enter Tryd.func53, Tryd.ntmps53
 go_wp2
 go_loopg [3, 4] k (fun kq v3 v4 w' => ∃ (x3_1 : Int) (x4_1 : Int), v3 = .int .i64 x3_1 ∧ v4 = .int .i64 x4_1 ∧ Aside0 (spec_l11Two.l0 kq a0 x3_1 x4_1 = some r) ∧ Aside0 (kq ≤ k) ∧ Drawn0 w w')
 case atStart => exact ⟨(1), (0), f0_, f0_, H', ⟨Nat.le_refl _⟩, d0_⟩
 case round =>
  clear H'
  obtain ⟨x3_1, x4_1, rfl, rfl, HA, HK1, ⟨m1, rfl⟩⟩ := hrel
  cases gk with
  | zero => exact absurd HA.out (by simp [spec_l11Two.l0])
  | succ k1 =>
   have H := HA.out
   clear HA
   simp only [spec_l11Two.l0] at H
   by_cases c2 : x4_1 < a0
   ·rw [if_pos c2] at H
    have c2b0 := decide_eq_true c2
    clear c2
    have H' := Aside0.mk H
    clear H
    go_wp2
    go_roundg k1
    case measure => have := HK1.out; omega
    case rel => exact ⟨(wrap64 (2 * x3_1)), (wrap64 (x4_1 + 1)), f0_, f0_, H', ⟨by have := HK1.out; omega⟩, d0_⟩
   rw [if_neg c2] at H
   have c2b0 := decide_eq_false c2
   clear c2
   obtain rfl := Option.some.inj H
   go_wp2
   go_ret
   exact ⟨f0_, d0_⟩

/-! ### spec_Pack: function 30 -/
mutual
def spec_Pack.l0 : Nat → List Int → Int → Int → Option (ByteArray × Bool)
 | 0, _, _, _ => none
 | k + 1, x0, x1, x6 => if x6 < (x0.length : Int) then (if 0 ≤ x6 then ((spec_l11Two.f k x1).bind fun t350 => ((spec_l01In.f (rd x0 x6) 0 (wrap64 (t350 - 1))).bind fun t351 => (if t351 = true then (spec_Pack.l0 k x0 x1 (wrap64 (x6 + 1))) else (some ((⟨#[]⟩ : ByteArray), false))))) else (none)) else (spec_Pack.l1 k x0 x1 (([] : List Int)) 0 0 0)
def spec_Pack.l1 : Nat → List Int → Int → List Int → Int → Int → Int → Option (ByteArray × Bool)
 | 0, _, _, _, _, _, _ => none
 | k + 1, x0, x1, x7, x8, x9, x10 => if x10 < (x0.length : Int) then (if 0 ≤ x10 then ((spec_l11Two.f k x9).bind fun t359 => (spec_Pack.l2 k x0 x1 x7 (wrap64 (x8 + (wrap64 ((rd x0 x10) * t359)))) (wrap64 (x9 + x1)) x10)) else (none)) else (if x9 > 0 then (if x7.length < 140737488355328 then (some (strOfNums (x7 ++ [(x8) % 256]), true)) else (none)) else (some (strOfNums x7, true)))
def spec_Pack.l2 : Nat → List Int → Int → List Int → Int → Int → Int → Option (ByteArray × Bool)
 | 0, _, _, _, _, _, _ => none
 | k + 1, x0, x1, x7, x8, x9, x10 => if x9 ≥ 8 then (if x7.length < 140737488355328 then (spec_Pack.l2 k x0 x1 (x7 ++ [(Int.tmod x8 256) % 256]) (wrap64 (Int.tdiv x8 256)) (wrap64 (x9 - 8)) x10) else (none)) else (spec_Pack.l1 k x0 x1 x7 x8 x9 (wrap64 (x10 + 1)))
end
def spec_Pack.f (k : Nat) (l0 : List Int) (a1 : Int) : Option (ByteArray × Bool) := (spec_l01In.f a1 1 12).bind fun t348 => (if t348 = true then (spec_Pack.l0 k l0 a1 0) else (some ((⟨#[]⟩ : ByteArray), false)))
theorem spec_Pack.mono_l : ∀ k, (∀ y0 y1 y2, LeO (spec_Pack.l0 k y0 y1 y2) (spec_Pack.l0 (k + 1) y0 y1 y2)) ∧ (∀ y0 y1 y2 y3 y4 y5, LeO (spec_Pack.l1 k y0 y1 y2 y3 y4 y5) (spec_Pack.l1 (k + 1) y0 y1 y2 y3 y4 y5)) ∧ (∀ y0 y1 y2 y3 y4 y5, LeO (spec_Pack.l2 k y0 y1 y2 y3 y4 y5) (spec_Pack.l2 (k + 1) y0 y1 y2 y3 y4 y5))
 | 0 => ⟨fun _ _ _ r h => by simp [spec_Pack.l0] at h, fun _ _ _ _ _ _ r h => by simp [spec_Pack.l1] at h, fun _ _ _ _ _ _ r h => by simp [spec_Pack.l2] at h⟩
 | k + 1 => by
  obtain ⟨ih0, ih1, ih2⟩ := spec_Pack.mono_l k
  refine ⟨?_, ?_, ?_⟩ <;> (intros; (first | unfold spec_Pack.l0 | unfold spec_Pack.l1 | unfold spec_Pack.l2); exact o4_ ih0 ih1 ih2 spec_l11Two.mono)
theorem spec_Pack.mono : ∀ a0 a1 k, LeO (spec_Pack.f k a0 a1) (spec_Pack.f (k + 1) a0 a1) := by
 intro a0 a1 k
 obtain ⟨ih0, ih1, ih2⟩ := spec_Pack.mono_l k
 unfold spec_Pack.f
 exact o4_ ih0 ih1 ih2 spec_l11Two.mono
theorem spec_Pack.calls (k : Nat) (A0 : Option Addr) (c0 : Nat) (l0 : List Int) (a1 : Int) (r1 : ByteArray) (r2 : Bool) (w : World) (hr0 : Kd.C (Kd.int .i64) w A0 l0.length l0) (hc0 : l0.length ≤ c0) (h : spec_Pack.f k l0 a1 = some (r1, r2)) :
  Calls Tryd.prog 30 #[.slice A0 l0.length c0, .int .i64 a1] w fun e w' => e = .returned (.tuple #[.string r1, .bool r2]) ∧ Below w.heap.size w w' := by
 have HR0 := Aside0.mk hr0
 have HC0 := Aside0.mk hc0
 clear hr0 hc0
 have HB := Aside0.mk (Below.refl w.heap.size w)
 delta spec_Pack.f at h
 have H := h
 clear h
 obtain ⟨t348, A3, H⟩ := bN_ H
 by_cases c4 : t348 = true
 ·subst c4
  replace H := iT_ H
  have H' := Aside0.mk H
  clear H
  go_enter Tryd.func30, Tryd.ntmps30
  go_wp2_with (first | (go_at_call 52; (with_reducible refine (spec_l01In.calls a1 1 12 true _ A3.out).mono ?_); rintro e w' ⟨rfl, ⟨nd, rfl⟩⟩; (try first | exact ⟨rfl, _, World.drewN_drewN _ _ _⟩ | exact ⟨rfl, _, Eq.trans (World.drewN_drewN _ _ _) (congrArg (World.drewN _) (Nat.add_assoc _ _ _))⟩)))
  repeat (go_quiet (first | (go_at_call 52; (with_reducible refine (spec_l01In.calls a1 1 12 true _ A3.out).mono ?_); rintro e w' ⟨rfl, ⟨nd, rfl⟩⟩; (try first | exact ⟨rfl, _, World.drewN_drewN _ _ _⟩ | exact ⟨rfl, _, Eq.trans (World.drewN_drewN _ _ _) (congrArg (World.drewN _) (Nat.add_assoc _ _ _))⟩))); try go_wp2)
  go_loopg [6] k (fun kq v6 w' => ∃ (x6_1 : Int), v6 = .int .i64 x6_1 ∧ Aside0 (spec_Pack.l0 kq l0 a1 x6_1 = some (r1, r2)) ∧ Aside0 (kq ≤ k) ∧ Aside0 (Below w.heap.size w w'))
  case atStart => exact ⟨(0), f0_, H', ⟨Nat.le_refl _⟩, ⟨hB_⟩⟩
  case round =>
   clear H'
   obtain ⟨x6_1, rfl, HA, HK1, HB⟩ := hrel
   cases gk with
   | zero => exact absurd HA.out (by simp [spec_Pack.l0])
   | succ k1 =>
    have H := HA.out
    clear HA
    simp only [spec_Pack.l0] at H
    by_cases c5 : x6_1 < (l0.length : Int)
    ·rw [if_pos c5] at H
     have c5b0 := decide_eq_true c5
     clear c5
     obtain ⟨c6b0, H⟩ := iD_ H
     obtain ⟨t350, A7, H⟩ := bN_ H
     obtain ⟨t351, A8, H⟩ := bN_ H
     by_cases c9 : t351 = true
     ·subst c9
      replace H := iT_ H
      have H' := Aside0.mk H
      clear H
      have p349 : 0 ≤ (x6_1 : Int) := oD_
      have q349 : x6_1 < (l0.length : Int) := oD_
      obtain ⟨ad349, e349, hx349_0⟩ := Kd.at_int HR0.out x6_1 p349 q349
      cases e349
      replace hx349_0 := (HB.out.cell (World.block_lt_of_cell? w _ hx349_0)).trans hx349_0
      replace p349 := eq_true p349
      replace q349 := eq_true q349
      go_wp2_with (first | (go_at_call 53; (with_reducible refine (spec_l11Two.calls k1 a1 t350 _ A7.out).mono ?_); rintro e w' ⟨rfl, ⟨nd, rfl⟩⟩; (try first | exact ⟨rfl, _, World.drewN_drewN _ _ _⟩ | exact ⟨rfl, _, Eq.trans (World.drewN_drewN _ _ _) (congrArg (World.drewN _) (Nat.add_assoc _ _ _))⟩)) | (go_at_call 52; (with_reducible refine (spec_l01In.calls (rd l0 x6_1) 0 (wrap64 (t350 - 1)) true _ A8.out).mono ?_); rintro e w' ⟨rfl, ⟨nd, rfl⟩⟩; (try first | exact ⟨rfl, _, World.drewN_drewN _ _ _⟩ | exact ⟨rfl, _, Eq.trans (World.drewN_drewN _ _ _) (congrArg (World.drewN _) (Nat.add_assoc _ _ _))⟩)))
      repeat (go_quiet (first | (go_at_call 53; (with_reducible refine (spec_l11Two.calls k1 a1 t350 _ A7.out).mono ?_); rintro e w' ⟨rfl, ⟨nd, rfl⟩⟩; (try first | exact ⟨rfl, _, World.drewN_drewN _ _ _⟩ | exact ⟨rfl, _, Eq.trans (World.drewN_drewN _ _ _) (congrArg (World.drewN _) (Nat.add_assoc _ _ _))⟩)) | (go_at_call 52; (with_reducible refine (spec_l01In.calls (rd l0 x6_1) 0 (wrap64 (t350 - 1)) true _ A8.out).mono ?_); rintro e w' ⟨rfl, ⟨nd, rfl⟩⟩; (try first | exact ⟨rfl, _, World.drewN_drewN _ _ _⟩ | exact ⟨rfl, _, Eq.trans (World.drewN_drewN _ _ _) (congrArg (World.drewN _) (Nat.add_assoc _ _ _))⟩))); try go_wp2)
      go_roundg k1
      case measure => have := HK1.out; omega
      case rel => exact ⟨(wrap64 (x6_1 + 1)), f0_, H', ⟨by have := HK1.out; omega⟩, ⟨hB_⟩⟩
     ·replace c9 := Bool.eq_false_iff.mpr c9
      subst c9
      replace H := iF_ H
      simp only [Option.some.injEq, Prod.mk.injEq] at H
      obtain ⟨rfl, rfl⟩ := H
      have p349 : 0 ≤ (x6_1 : Int) := oD_
      have q349 : x6_1 < (l0.length : Int) := oD_
      obtain ⟨ad349, e349, hx349_0⟩ := Kd.at_int HR0.out x6_1 p349 q349
      cases e349
      replace hx349_0 := (HB.out.cell (World.block_lt_of_cell? w _ hx349_0)).trans hx349_0
      replace p349 := eq_true p349
      replace q349 := eq_true q349
      go_wp2_with (first | (go_at_call 53; (with_reducible refine (spec_l11Two.calls k1 a1 t350 _ A7.out).mono ?_); rintro e w' ⟨rfl, ⟨nd, rfl⟩⟩; (try first | exact ⟨rfl, _, World.drewN_drewN _ _ _⟩ | exact ⟨rfl, _, Eq.trans (World.drewN_drewN _ _ _) (congrArg (World.drewN _) (Nat.add_assoc _ _ _))⟩)) | (go_at_call 52; (with_reducible refine (spec_l01In.calls (rd l0 x6_1) 0 (wrap64 (t350 - 1)) false _ A8.out).mono ?_); rintro e w' ⟨rfl, ⟨nd, rfl⟩⟩; (try first | exact ⟨rfl, _, World.drewN_drewN _ _ _⟩ | exact ⟨rfl, _, Eq.trans (World.drewN_drewN _ _ _) (congrArg (World.drewN _) (Nat.add_assoc _ _ _))⟩)))
      repeat (go_quiet (first | (go_at_call 53; (with_reducible refine (spec_l11Two.calls k1 a1 t350 _ A7.out).mono ?_); rintro e w' ⟨rfl, ⟨nd, rfl⟩⟩; (try first | exact ⟨rfl, _, World.drewN_drewN _ _ _⟩ | exact ⟨rfl, _, Eq.trans (World.drewN_drewN _ _ _) (congrArg (World.drewN _) (Nat.add_assoc _ _ _))⟩)) | (go_at_call 52; (with_reducible refine (spec_l01In.calls (rd l0 x6_1) 0 (wrap64 (t350 - 1)) false _ A8.out).mono ?_); rintro e w' ⟨rfl, ⟨nd, rfl⟩⟩; (try first | exact ⟨rfl, _, World.drewN_drewN _ _ _⟩ | exact ⟨rfl, _, Eq.trans (World.drewN_drewN _ _ _) (congrArg (World.drewN _) (Nat.add_assoc _ _ _))⟩))); try go_wp2)
      go_ret2
      exact ⟨f1_, hB_⟩
    rw [if_neg c5] at H
    have c5b0 := decide_eq_false c5
    clear c5
    obtain ⟨y352, hy352⟩ : ∃ y_ : List Int, y_ = (([] : List Int)) := ⟨_, rfl⟩
    first | replace H := yb_ hy352 H | rw [← hy352] at H
    have Ny352 := Aside0.mk hy352
    clear hy352
    have H' := Aside0.mk H
    clear H
    go_wp2_with (first | ((with_reducible refine gate_dst (N := 29) rfl ?_); refine Kd.R_lit (Kd.int .u8) _ 5 ?hg (N := 29) ?hd (xs := ([] : List Int)) (inner := []) (ok := fun _ => True) (okp := fun _ => True) ?hr ?hp (fun _ hk => hk) trivial (Below.refl _ _) (Nat.le_refl _) (by simp) ?_; (case hd => rfl); (case hg => rfl); (case hr => first | (go_simp; done) | (go_simp; rfl)); (case hp => exact (Reps.none _ _)); intro v353 w10 ho11 hb hg_ hnew_; clear hg_ hnew_; (first | rw [← Ny352.out] at ho11 | (simp only [Int.reduceToNat] at ho11; rw [← Ny352.out] at ho11)); have n_ := b_ (Kd.R_lower ho11 (below_size (hB_))) <| c_ (below_step (hB_) hb); clear HB; obtain ⟨HO354, HB⟩ := n_; clear hb ho11))
    repeat (go_quiet (first | ((with_reducible refine gate_dst (N := 29) rfl ?_); refine Kd.R_lit (Kd.int .u8) _ 5 ?hg (N := 29) ?hd (xs := ([] : List Int)) (inner := []) (ok := fun _ => True) (okp := fun _ => True) ?hr ?hp (fun _ hk => hk) trivial (Below.refl _ _) (Nat.le_refl _) (by simp) ?_; (case hd => rfl); (case hg => rfl); (case hr => first | (go_simp; done) | (go_simp; rfl)); (case hp => exact (Reps.none _ _)); intro v353 w10 ho11 hb hg_ hnew_; clear hg_ hnew_; (first | rw [← Ny352.out] at ho11 | (simp only [Int.reduceToNat] at ho11; rw [← Ny352.out] at ho11)); have n_ := b_ (Kd.R_lower ho11 (below_size (hB_))) <| c_ (below_step (hB_) hb); clear HB; obtain ⟨HO354, HB⟩ := n_; clear hb ho11)); try go_wp2)
    go_loopg [7, 8, 9, 10] k1 (fun kq v7 v8 v9 v10 w' => ∃ (x7_2 : List Int) (x8_2 : Int) (x9_2 : Int) (x10_2 : Int), v8 = .int .i64 x8_2 ∧ v9 = .int .i64 x9_2 ∧ v10 = .int .i64 x10_2 ∧ Aside0 (spec_Pack.l1 kq l0 a1 x7_2 x8_2 x9_2 x10_2 = some (r1, r2)) ∧ Aside0 (kq ≤ k1) ∧ Aside0 (Kd.R (Kd.int .u8) 5 w' w.heap.size (fun _ => True) v7 x7_2) ∧ Aside0 (Below w.heap.size w w'))
    case atStart => exact ⟨(y352), (0), (0), (0), f0_, f0_, f0_, H', ⟨Nat.le_refl _⟩, ⟨rR_ HO354.out⟩, ⟨hB_⟩⟩
    case round =>
     clear H'
     obtain ⟨x7_2, x8_2, x9_2, x10_2, rfl, rfl, rfl, HA, HK2, HO_7, HB⟩ := hrel
     cases gk with
     | zero => exact absurd HA.out (by simp [spec_Pack.l1])
     | succ k2 =>
      have H := HA.out
      clear HA
      simp only [spec_Pack.l1] at H
      by_cases c12 : x10_2 < (l0.length : Int)
      rotate_left
      ·rw [if_neg c12] at H
       have c12b0 := decide_eq_false c12
       clear c12
       by_cases c18 : x9_2 > 0
       ·rw [if_pos c18] at H
        have c18b0 := decide_eq_true c18
        clear c18
        obtain ⟨c19, H⟩ := iN_ H
        have LMc19 := Aside0.mk c19
        clear c19
        obtain ⟨y355, hy355⟩ : ∃ y_ : List Int, y_ = (x7_2 ++ [(x8_2) % 256]) := ⟨_, rfl⟩
        first | replace H := yb_ hy355 H | rw [← hy355] at H
        have Ny355 := Aside0.mk hy355
        clear hy355
        simp only [Option.some.injEq, Prod.mk.injEq] at H
        obtain ⟨rfl, rfl⟩ := H
        go_wp2_with (first | ((with_reducible refine gate_builtin (b := .append) (xs := #[.tmp 62, .tmp 65]) rfl ?_); at_builtin; refine Kd.R_append (Kd.int .u8) (w0 := w) w.heap.size rfl (.tmp 62) (.tmp 65) 62 5 (.int .u8 0) 1 rfl Tryd.underlying62 info5 rfl (by decide) (by omega) u7 x7_2 ((x8_2) % 256) [.int .u8 ((x8_2) % 256)] (fun _ => True) (fun _ => False) rfl rfl ?aP (fun _ hk => hk.elim) ?aF ?aO ?aB ?aS ?aL ?_; (case aP => exact rfl); (case aB => exact (hB_)); (case aF => exact (fun _ _ => trivial)); (case aO => exact (rR_ HO_7.out)); (case aS => exact (below_size (hB_))); (case aL => have := LMc19.out; omega); intro v356 w20 ho hb hg hat; rw [← Ny355.out] at ho; have n_ := b_ (hb) <| c_ (ho); clear HO_7 HB; obtain ⟨HB, HO357⟩ := n_; clear ho hb hg hat; have hcv21 := own_string (P := Tryd.prog) Tryd.underlying62 Tryd.underlying5 Tryd.underlying9 (Kd.own_of_R HO357.out)))
        repeat (go_quiet (first | ((with_reducible refine gate_builtin (b := .append) (xs := #[.tmp 62, .tmp 65]) rfl ?_); at_builtin; refine Kd.R_append (Kd.int .u8) (w0 := w) w.heap.size rfl (.tmp 62) (.tmp 65) 62 5 (.int .u8 0) 1 rfl Tryd.underlying62 info5 rfl (by decide) (by omega) u7 x7_2 ((x8_2) % 256) [.int .u8 ((x8_2) % 256)] (fun _ => True) (fun _ => False) rfl rfl ?aP (fun _ hk => hk.elim) ?aF ?aO ?aB ?aS ?aL ?_; (case aP => exact rfl); (case aB => exact (hB_)); (case aF => exact (fun _ _ => trivial)); (case aO => exact (rR_ HO_7.out)); (case aS => exact (below_size (hB_))); (case aL => have := LMc19.out; omega); intro v356 w20 ho hb hg hat; rw [← Ny355.out] at ho; have n_ := b_ (hb) <| c_ (ho); clear HO_7 HB; obtain ⟨HB, HO357⟩ := n_; clear ho hb hg hat; have hcv21 := own_string (P := Tryd.prog) Tryd.underlying62 Tryd.underlying5 Tryd.underlying9 (Kd.own_of_R HO357.out))); try go_wp2)
        go_ret2
        exact ⟨f1_, hB_⟩
       rw [if_neg c18] at H
       have c18b0 := decide_eq_false c18
       clear c18
       simp only [Option.some.injEq, Prod.mk.injEq] at H
       obtain ⟨rfl, rfl⟩ := H
       have hcv22 := own_string (P := Tryd.prog) Tryd.underlying62 Tryd.underlying5 Tryd.underlying9 (Kd.own_of_R HO_7.out)
       go_wp2
       repeat (go_quiet (fail); try go_wp2)
       go_ret2
       exact ⟨f1_, hB_⟩
      rw [if_pos c12] at H
      have c12b0 := decide_eq_true c12
      clear c12
      obtain ⟨c13b0, H⟩ := iD_ H
      obtain ⟨t359, A14, H⟩ := bN_ H
      have H' := Aside0.mk H
      clear H
      have p358 : 0 ≤ (x10_2 : Int) := oD_
      have q358 : x10_2 < (l0.length : Int) := oD_
      obtain ⟨ad358, e358, hx358_0⟩ := Kd.at_int HR0.out x10_2 p358 q358
      cases e358
      replace hx358_0 := (HB.out.cell (World.block_lt_of_cell? w _ hx358_0)).trans hx358_0
      replace p358 := eq_true p358
      replace q358 := eq_true q358
      go_wp2_with (first | (go_at_call 53; (with_reducible refine (spec_l11Two.calls k2 x9_2 t359 _ A14.out).mono ?_); rintro e w' ⟨rfl, ⟨nd, rfl⟩⟩; (try first | exact ⟨rfl, _, World.drewN_drewN _ _ _⟩ | exact ⟨rfl, _, Eq.trans (World.drewN_drewN _ _ _) (congrArg (World.drewN _) (Nat.add_assoc _ _ _))⟩)))
      repeat (go_quiet (first | (go_at_call 53; (with_reducible refine (spec_l11Two.calls k2 x9_2 t359 _ A14.out).mono ?_); rintro e w' ⟨rfl, ⟨nd, rfl⟩⟩; (try first | exact ⟨rfl, _, World.drewN_drewN _ _ _⟩ | exact ⟨rfl, _, Eq.trans (World.drewN_drewN _ _ _) (congrArg (World.drewN _) (Nat.add_assoc _ _ _))⟩))); try go_wp2)
      go_loopg [7, 8, 9] k2 (fun kq v7 v8 v9 w' => ∃ (x7_3 : List Int) (x8_3 : Int) (x9_3 : Int), v8 = .int .i64 x8_3 ∧ v9 = .int .i64 x9_3 ∧ Aside0 (spec_Pack.l2 kq l0 a1 x7_3 x8_3 x9_3 x10_2 = some (r1, r2)) ∧ Aside0 (kq ≤ k2) ∧ Aside0 (Kd.R (Kd.int .u8) 5 w' w.heap.size (fun _ => True) v7 x7_3) ∧ Aside0 (Below w.heap.size w w'))
      case atStart => exact ⟨(x7_2), (wrap64 (x8_2 + (wrap64 ((rd l0 x10_2) * t359)))), (wrap64 (x9_2 + a1)), f0_, f0_, H', ⟨Nat.le_refl _⟩, ⟨rR_ HO_7.out⟩, ⟨hB_⟩⟩
      case round =>
       clear H'
       obtain ⟨x7_3, x8_3, x9_3, rfl, rfl, HA, HK3, HO_7, HB⟩ := hrel
       cases gk with
       | zero => exact absurd HA.out (by simp [spec_Pack.l2])
       | succ k3 =>
        have H := HA.out
        clear HA
        simp only [spec_Pack.l2] at H
        by_cases c15 : x9_3 ≥ 8
        ·rw [if_pos c15] at H
         have c15b0 := decide_eq_true c15
         clear c15
         obtain ⟨c16, H⟩ := iN_ H
         have LMc16 := Aside0.mk c16
         clear c16
         obtain ⟨y360, hy360⟩ : ∃ y_ : List Int, y_ = (x7_3 ++ [(Int.tmod x8_3 256) % 256]) := ⟨_, rfl⟩
         first | replace H := yb_ hy360 H | rw [← hy360] at H
         have Ny360 := Aside0.mk hy360
         clear hy360
         have H' := Aside0.mk H
         clear H
         go_wp2_with (first | ((with_reducible refine gate_builtin (b := .append) (xs := #[.tmp 50, .tmp 54]) rfl ?_); at_builtin; refine Kd.R_append (Kd.int .u8) (w0 := w) w.heap.size rfl (.tmp 50) (.tmp 54) 62 5 (.int .u8 0) 1 rfl Tryd.underlying62 info5 rfl (by decide) (by omega) u7 x7_3 ((Int.tmod x8_3 256) % 256) [.int .u8 ((Int.tmod x8_3 256) % 256)] (fun _ => True) (fun _ => False) rfl rfl ?aP (fun _ hk => hk.elim) ?aF ?aO ?aB ?aS ?aL ?_; (case aP => exact rfl); (case aB => exact (hB_)); (case aF => exact (fun _ _ => trivial)); (case aO => exact (rR_ HO_7.out)); (case aS => exact (below_size (hB_))); (case aL => have := LMc16.out; omega); intro v361 w17 ho hb hg hat; rw [← Ny360.out] at ho; have n_ := b_ (hb) <| c_ (ho); clear HO_7 HB; obtain ⟨HB, HO362⟩ := n_; clear ho hb hg hat))
         repeat (go_quiet (first | ((with_reducible refine gate_builtin (b := .append) (xs := #[.tmp 50, .tmp 54]) rfl ?_); at_builtin; refine Kd.R_append (Kd.int .u8) (w0 := w) w.heap.size rfl (.tmp 50) (.tmp 54) 62 5 (.int .u8 0) 1 rfl Tryd.underlying62 info5 rfl (by decide) (by omega) u7 x7_3 ((Int.tmod x8_3 256) % 256) [.int .u8 ((Int.tmod x8_3 256) % 256)] (fun _ => True) (fun _ => False) rfl rfl ?aP (fun _ hk => hk.elim) ?aF ?aO ?aB ?aS ?aL ?_; (case aP => exact rfl); (case aB => exact (hB_)); (case aF => exact (fun _ _ => trivial)); (case aO => exact (rR_ HO_7.out)); (case aS => exact (below_size (hB_))); (case aL => have := LMc16.out; omega); intro v361 w17 ho hb hg hat; rw [← Ny360.out] at ho; have n_ := b_ (hb) <| c_ (ho); clear HO_7 HB; obtain ⟨HB, HO362⟩ := n_; clear ho hb hg hat)); try go_wp2)
         go_roundg k3
         case measure => have := HK1.out; have := HK2.out; have := HK3.out; omega
         case rel => exact ⟨(y360), (wrap64 (Int.tdiv x8_3 256)), (wrap64 (x9_3 - 8)), f0_, f0_, H', ⟨by have := HK1.out; have := HK2.out; have := HK3.out; omega⟩, ⟨rR_ HO362.out⟩, ⟨hB_⟩⟩
        rw [if_neg c15] at H
        have c15b0 := decide_eq_false c15
        clear c15
        have H' := Aside0.mk H
        clear H
        go_wp2
        repeat (go_quiet (fail); try go_wp2)
        go_roundg k3
        case measure => have := HK1.out; have := HK2.out; have := HK3.out; omega
        case rel => exact ⟨(x7_3), (x8_3), (x9_3), (wrap64 (x10_2 + 1)), f0_, f0_, f0_, H', ⟨by have := HK1.out; have := HK2.out; have := HK3.out; omega⟩, ⟨rR_ HO_7.out⟩, ⟨hB_⟩⟩
 ·replace c4 := Bool.eq_false_iff.mpr c4
  subst c4
  replace H := iF_ H
  simp only [Option.some.injEq, Prod.mk.injEq] at H
  obtain ⟨rfl, rfl⟩ := H
  go_enter Tryd.func30, Tryd.ntmps30
  go_wp2_with (first | (go_at_call 52; (with_reducible refine (spec_l01In.calls a1 1 12 false _ A3.out).mono ?_); rintro e w' ⟨rfl, ⟨nd, rfl⟩⟩; (try first | exact ⟨rfl, _, World.drewN_drewN _ _ _⟩ | exact ⟨rfl, _, Eq.trans (World.drewN_drewN _ _ _) (congrArg (World.drewN _) (Nat.add_assoc _ _ _))⟩)))
  repeat (go_quiet (first | (go_at_call 52; (with_reducible refine (spec_l01In.calls a1 1 12 false _ A3.out).mono ?_); rintro e w' ⟨rfl, ⟨nd, rfl⟩⟩; (try first | exact ⟨rfl, _, World.drewN_drewN _ _ _⟩ | exact ⟨rfl, _, Eq.trans (World.drewN_drewN _ _ _) (congrArg (World.drewN _) (Nat.add_assoc _ _ _))⟩))); try go_wp2)
  go_ret2
  exact ⟨f1_, hB_⟩

/-! ### spec_PolyBytes: function 11 -/
def spec_PolyBytes.f (k : Nat) (l0 : List Int) : Option (ByteArray) := (spec_PolyOk.f k l0).bind fun t363 => (if t363 = true then ((spec_Pack.f k l0 12).bind fun bt364 => (some bt364.1)) else (some (⟨#[]⟩ : ByteArray)))
theorem spec_PolyBytes.mono : ∀ a0 k, LeO (spec_PolyBytes.f k a0) (spec_PolyBytes.f (k + 1) a0) := by
 intro a0 k
 unfold spec_PolyBytes.f
 exact o2_ spec_Pack.mono spec_PolyOk.mono
theorem spec_PolyBytes.calls (k : Nat) (A0 : Option Addr) (c0 : Nat) (l0 : List Int) (r : ByteArray) (w : World) (hr0 : Kd.C (Kd.int .i64) w A0 l0.length l0) (hc0 : l0.length ≤ c0) (h : spec_PolyBytes.f k l0 = some r) :
  Calls Tryd.prog 11 #[.slice A0 l0.length c0] w fun e w' => e = .returned (.string r) ∧ Below w.heap.size w w' := by
 have HR0 := Aside0.mk hr0
 have HC0 := Aside0.mk hc0
 clear hr0 hc0
 have HB := Aside0.mk (Below.refl w.heap.size w)
 delta spec_PolyBytes.f at h
 have H := h
 clear h
 obtain ⟨t363, A2, H⟩ := bN_ H
 by_cases c3 : t363 = true
 ·subst c3
  replace H := iT_ H
  obtain ⟨⟨t364, t365⟩, A4, H⟩ := bN_ H
  obtain rfl := Option.some.inj H
  go_enter Tryd.func11, Tryd.ntmps11
  go_wp2_with (first | ((with_reducible refine gate_callee (f := 25) rfl ?_); refine goesL_ (some 6) rfl rfl Tryd.func25 (by kernel_rfl) rfl #[.slice A0 l0.length c0] rfl aM_ ?_; (with_reducible refine (spec_PolyOk.calls k _ _ l0 true _ ?side1 ?side2 A2.out).mono ?_); (case side1 => exact cR_ HR0.out); (case side2 => exact HC0.out); rintro e w' ⟨rfl, ⟨nd, rfl⟩⟩; refine ⟨_, rfl, ?_⟩) | ((with_reducible refine gate_callee (f := 30) rfl ?_); refine goesL_ (some 10) rfl rfl Tryd.func30 (by kernel_rfl) rfl #[.slice A0 l0.length c0, .int .i64 12] rfl aM_ ?_; (with_reducible refine (spec_Pack.calls k _ _ l0 12 t364 t365 _ ?side1 ?side2 A4.out).mono ?_); (case side1 => exact cR_ HR0.out); (case side2 => exact HC0.out); rintro e w5 ⟨rfl, hb⟩; refine ⟨_, rfl, ?_⟩; replace HB := Aside0.mk (below_step (hB_) hb); (try clear hb)))
  go_ret
  exact ⟨f1_, hB_⟩
 ·replace c3 := Bool.eq_false_iff.mpr c3
  subst c3
  replace H := iF_ H
  obtain rfl := Option.some.inj H
  go_enter Tryd.func11, Tryd.ntmps11
  go_wp2_with (first | ((with_reducible refine gate_callee (f := 25) rfl ?_); refine goesL_ (some 6) rfl rfl Tryd.func25 (by kernel_rfl) rfl #[.slice A0 l0.length c0] rfl aM_ ?_; (with_reducible refine (spec_PolyOk.calls k _ _ l0 false _ ?side1 ?side2 A2.out).mono ?_); (case side1 => exact cR_ HR0.out); (case side2 => exact HC0.out); rintro e w' ⟨rfl, ⟨nd, rfl⟩⟩; refine ⟨_, rfl, ?_⟩))
  go_ret
  exact ⟨f1_, hB_⟩

/-! ### spec_PolyAdd: function 12 -/
def spec_PolyAdd.l0 : Nat → List Int → List Int → List Int → Int → Option (List Int)
 | 0, _, _, _, _ => none
 | k + 1, x0, x1, x5, x6 => if x6 < 256 then ((spec_PolyOk.f k x0).bind fun t369 => (if t369 = true then ((spec_PolyOk.f k x1).bind fun t370 => (if t370 = true then (if 0 ≤ x6 then (if x6 < (x0.length : Int) then (if x6 < (x1.length : Int) then (if x5.length < 17592186044416 then (spec_PolyAdd.l0 k x0 x1 (x5 ++ [Int.tmod (wrap64 ((rd x0 x6) + (rd x1 x6))) 3329]) (wrap64 (x6 + 1))) else (none)) else (none)) else (none)) else (none)) else (some x5))) else (some x5))) else (some x5)
def spec_PolyAdd.f (k : Nat) (l0 : List Int) (l1 : List Int) : Option (List Int) := spec_PolyAdd.l0 k l0 l1 (([] : List Int)) 0
theorem spec_PolyAdd.mono_l : ∀ k, (∀ y0 y1 y2 y3, LeO (spec_PolyAdd.l0 k y0 y1 y2 y3) (spec_PolyAdd.l0 (k + 1) y0 y1 y2 y3))
 | 0 => fun _ _ _ _ r h => by simp [spec_PolyAdd.l0] at h
 | k + 1 => by
  have ih0 := spec_PolyAdd.mono_l k
  intros; unfold spec_PolyAdd.l0; exact o2_ ih0 spec_PolyOk.mono
theorem spec_PolyAdd.mono : ∀ a0 a1 k, LeO (spec_PolyAdd.f k a0 a1) (spec_PolyAdd.f (k + 1) a0 a1) := by
 intro a0 a1 k
 have ih0 := spec_PolyAdd.mono_l k
 unfold spec_PolyAdd.f
 exact o2_ ih0 spec_PolyOk.mono
def spec_PolyAdd.T5 : Bool × List (List Nat × List Nat) := (true, [([], []), ([], []), ([], []), ([1, 2], [1, 2]), ([3], [3]), ([], []), ([], []), ([5, 6], [5, 6]), ([7], [7]), ([4, 8], [4, 8]), ([9], [9]), ([10], [10]), ([0, 11], [0, 11]), ([12, 12, 0, 1, 2, 3, 4, 5, 6, 7, 8, 9, 10, 11, 12], [0, 12])])
def spec_PolyAdd.B5 : List Nat := [0, 0, 0, 6, 14, 0, 0, 96, 224, 510, 1022, 2046, 4095, 8191]
theorem spec_PolyAdd.tab5 : rtab .any (opsOf Tryd.f12 5) = spec_PolyAdd.T5 := by kernel_rfl
theorem spec_PolyAdd.bits5 : waitsOk spec_PolyAdd.T5.2 spec_PolyAdd.B5 = true := by kernel_rfl
theorem spec_PolyAdd.calls (k : Nat) (A0 : Option Addr) (c0 : Nat) (l0 : List Int) (A1 : Option Addr) (c1 : Nat) (l1 : List Int) (r : List Int) (w : World) (hr0 : Kd.C (Kd.int .i64) w A0 l0.length l0) (hc0 : l0.length ≤ c0) (hr1 : Kd.C (Kd.int .i64) w A1 l1.length l1) (hc1 : l1.length ≤ c1) (h : spec_PolyAdd.f k l0 l1 = some r) :
  Calls Tryd.prog 12 #[.slice A0 l0.length c0, .slice A1 l1.length c1] w fun e w' => ∃ v0_ : Value, e = .returned (v0_) ∧ Kd.R (Kd.int .i64) 3 w' w.heap.size (fun _ => True) v0_ r ∧ Below w.heap.size w w' := by
 have HR0 := Aside0.mk hr0
 have HC0 := Aside0.mk hc0
 clear hr0 hc0
 have HR1 := Aside0.mk hr1
 have HC1 := Aside0.mk hc1
 clear hr1 hc1
 have HB := Aside0.mk (Below.refl w.heap.size w)
 delta spec_PolyAdd.f at h
 have H := h
 clear h
 obtain ⟨y366, hy366⟩ : ∃ y_ : List Int, y_ = (([] : List Int)) := ⟨_, rfl⟩
 first | replace H := yb_ hy366 H | rw [← hy366] at H
 have Ny366 := Aside0.mk hy366
 clear hy366
 have H' := Aside0.mk H
 clear H
 go_enter Tryd.func12, Tryd.ntmps12
 go_wp2_with (first | ((with_reducible refine gate_dst (N := 7) rfl ?_); refine Kd.R_lit (Kd.int .i64) _ 3 ?hg (N := 7) ?hd (xs := ([] : List Int)) (inner := []) (ok := fun _ => True) (okp := fun _ => True) ?hr ?hp (fun _ hk => hk) trivial (Below.refl _ _) (Nat.le_refl _) (by simp) ?_; (case hd => rfl); (case hg => rfl); (case hr => first | (go_simp; done) | (go_simp; rfl)); (case hp => exact (Reps.none _ _)); intro v367 w3 ho4 hb hg_ hnew_; clear hg_ hnew_; (first | rw [← Ny366.out] at ho4 | (simp only [Int.reduceToNat] at ho4; rw [← Ny366.out] at ho4)); have n_ := b_ (Kd.R_lower ho4 (below_size (hB_))) <| c_ (below_step (hB_) hb); clear HB; obtain ⟨HO368, HB⟩ := n_; clear hb ho4))
 go_loopg [5, 6] k (fun kq v5 v6 w' => ∃ (x5_1 : List Int) (x6_1 : Int), v6 = .int .i64 x6_1 ∧ Aside0 (spec_PolyAdd.l0 kq l0 l1 x5_1 x6_1 = some r) ∧ Aside0 (kq ≤ k) ∧ Aside0 (Kd.R (Kd.int .i64) 3 w' w.heap.size (fun _ => True) v5 x5_1) ∧ Aside0 (Below w.heap.size w w'))
 case atStart => exact ⟨(y366), (0), f0_, H', ⟨Nat.le_refl _⟩, ⟨rR_ HO368.out⟩, ⟨hB_⟩⟩
 case round =>
  clear H'
  obtain ⟨x5_1, x6_1, rfl, HA, HK1, HO_5, HB⟩ := hrel
  cases gk with
  | zero => exact absurd HA.out (by simp [spec_PolyAdd.l0])
  | succ k1 =>
   have H := HA.out
   clear HA
   simp only [spec_PolyAdd.l0] at H
   by_cases c5 : x6_1 < 256
   rotate_left
   ·rw [if_neg c5] at H
    have c5b0 := decide_eq_false c5
    clear c5
    obtain rfl := Option.some.inj H
    go_wp2
    go_ret
    exact ⟨_, f1_, rR_ HO_5.out, hB_⟩
   rw [if_pos c5] at H
   have c5b0 := decide_eq_true c5
   clear c5
   obtain ⟨t369, A6, H⟩ := bN_ H
   by_cases c7 : t369 = true
   ·subst c7
    replace H := iT_ H
    obtain ⟨t370, A8, H⟩ := bN_ H
    by_cases c9 : t370 = true
    ·subst c9
     replace H := iT_ H
     obtain ⟨c10b0, H⟩ := iD_ H
     obtain ⟨c11b0, H⟩ := iD_ H
     obtain ⟨c12b0, H⟩ := iD_ H
     obtain ⟨c13, H⟩ := iN_ H
     have LMc13 := Aside0.mk c13
     clear c13
     obtain ⟨y373, hy373⟩ : ∃ y_ : List Int, y_ = (x5_1 ++ [Int.tmod (wrap64 ((rd l0 x6_1) + (rd l1 x6_1))) 3329]) := ⟨_, rfl⟩
     first | replace H := yb_ hy373 H | rw [← hy373] at H
     have Ny373 := Aside0.mk hy373
     clear hy373
     have H' := Aside0.mk H
     clear H
     try go_wp2_with (first | (go_at_call 25; (with_reducible refine (spec_PolyOk.calls k1 _ _ l0 true _ ?side1 ?side2 A6.out).mono ?_); (case side1 => exact cR_ (Kd.C_below HR0.out HB.out)); (case side2 => exact HC0.out); rintro e w' ⟨rfl, ⟨nd, rfl⟩⟩) | (go_at_call 25; (with_reducible refine (spec_PolyOk.calls k1 _ _ l1 true _ ?side1 ?side2 A8.out).mono ?_); (case side1 => exact cR_ (Kd.C_below HR1.out (hB_))); (case side2 => exact HC1.out); rintro e w' ⟨rfl, ⟨nd, rfl⟩⟩))
     (try (rw [drewN_self wr]; generalize hq_ : World.drewN wr _ = wr; have n_ := b_ (show Kd.R (Kd.int .i64) 3 wr w.heap.size (fun _ => True) u5 x5_1 from by rw [← hq_]; exact (rR_ HO_5.out)) <| c_ (show Below w.heap.size w wr from by rw [← hq_]; exact (hB_)); clear HO_5 HB hq_; obtain ⟨HO_5, HB⟩ := n_))
     have n_ := b_ (Kd.R_drew HO_5.out) <| c_ (below_drew1 HB.out)
     clear HO_5 HB
     obtain ⟨HO_5, HB⟩ := n_
     have p371 : 0 ≤ (x6_1 : Int) := oD_
     have q371 : x6_1 < (l0.length : Int) := oD_
     obtain ⟨ad371, e371, hx371_0⟩ := Kd.at_int HR0.out x6_1 p371 q371
     have hw371_0 := hx371_0
     cases e371
     replace hx371_0 := (HB.out.cell (World.block_lt_of_cell? w _ hx371_0)).trans hx371_0
     replace p371 := eq_true p371
     replace q371 := eq_true q371
     have p372 : 0 ≤ (x6_1 : Int) := oD_
     have q372 : x6_1 < (l1.length : Int) := oD_
     obtain ⟨ad372, e372, hx372_0⟩ := Kd.at_int HR1.out x6_1 p372 q372
     have hw372_0 := hx372_0
     cases e372
     replace hx372_0 := (HB.out.cell (World.block_lt_of_cell? w _ hx372_0)).trans hx372_0
     replace p372 := eq_true p372
     replace q372 := eq_true q372
     refine start_ (n := 14) (S := fun w' => w'.cell? (ad371.add (x6_1).toNat) = some (.int .i64 (rd l0 x6_1)) ∧ w'.cell? (ad372.add (x6_1).toNat) = some (.int .i64 (rd l1 x6_1))) (ds := []) (bb_ 14 0) (by kernel_rfl) rfl rfl ⟨((HB.out.cell (World.block_lt_of_cell? w _ hw371_0)).trans hw371_0), ((HB.out.cell (World.block_lt_of_cell? w _ hw372_0)).trans hw372_0)⟩ (fun hHeld => ?_); refine with_tabW spec_PolyAdd.tab5 spec_PolyAdd.bits5 (fun HT_ HW_ => ?_)
     generalize wr.drew = w14 at HO_5 HB hx371_0 hx372_0 hHeld ⊢
     refine pS_ 0 20 (bb_ 14 1) HT_.out ?_
     refine pS_ 1 21 (bb_ 14 3) HT_.out ?_
     refine pS_ 2 22 (bb_ 14 7) HT_.out ?_
     refine pS_ 3 23 (bb_ 14 15) HT_.out ?_
     refine pS_ 5 25 (bb_ 14 47) HT_.out ?_
     refine pS_ 6 26 (bb_ 14 111) HT_.out ?_
     refine pS_ 7 27 (bb_ 14 239) HT_.out ?_
     refine tS_ 4 24 (bb_ 14 255) (take_ofW HT_.out HW_.out (by kernel_rfl)) hHeld ?_
     refine tS_ 8 28 (bb_ 14 511) (take_ofW HT_.out HW_.out (by kernel_rfl)) hHeld ?_
     refine pS_ 9 29 (bb_ 14 1023) HT_.out ?_
     refine pS_ 10 30 (bb_ 14 2047) HT_.out ?_
     refine one_ (i := 11) (N := some 31) (bb_ 14 4095) rfl rfl (one_of HT_.out (by kernel_rfl)) (by decide) (fun K hK => ?_)
     refine value_ (w1 := ?_) (v := ?_) (by rfl) rfl ?_ ?_
     rotate_left 2
     ·go_simp
      constructor
      ·rfl
      ·rfl
     refine hK.out _ _ ⟨(World.cell?_alloc_lt _ _ _ (World.block_lt_of_cell? _ _ (((HB.out.cell (World.block_lt_of_cell? w _ hw371_0)).trans hw371_0)))).trans (((HB.out.cell (World.block_lt_of_cell? w _ hw371_0)).trans hw371_0)), (World.cell?_alloc_lt _ _ _ (World.block_lt_of_cell? _ _ (((HB.out.cell (World.block_lt_of_cell? w _ hw372_0)).trans hw372_0)))).trans (((HB.out.cell (World.block_lt_of_cell? w _ hw372_0)).trans hw372_0))⟩ (fun hHeld => ?_)
     clear hK K
     refine norm_ (a' := ?_) ?_ ?_
     rotate_left
     ·show Act.put _ (some 31) _ = _
      simp only [Act.put, List.setIfInBounds_toArray, List.set_cons_zero, List.set_cons_succ, i64_w, i32_w]
      rfl
     refine one_ (i := 12) (N := some 32) (bb_ 14 8191) rfl rfl (one_of HT_.out (by kernel_rfl)) (by decide) (fun K hK => ?_)
     refine Kd.R_append_step (Kd.int .i64) (w0 := w) w.heap.size (by rfl) (.tmp 20) (.tmp 31) 31 3 (.int .i64 0) 8 rfl Tryd.underlying31 info3 rfl (by decide) (by omega) u5 x5_1 (Int.tmod (wrap64 ((rd l0 x6_1) + (rd l1 x6_1))) 3329) [.int .i64 (Int.tmod (wrap64 ((rd l0 x6_1) + (rd l1 x6_1))) 3329)] (fun _ => True) (fun _ => False) rfl rfl ?aP (fun _ hk => hk.elim) ?aF ?aO ?aB ?aS ?aL ?_
     (case aP => exact rfl)
     (case aB => exact (hB_))
     (case aF => exact (fun _ _ => trivial))
     (case aO => exact (rR_ HO_5.out))
     (case aS => exact (below_size (hB_)))
     (case aL => have := LMc13.out; omega)
     intro v374 w15 ho hb hg hat
     rw [← Ny373.out] at ho
     have n_ := b_ (hb) <| c_ (ho)
     clear HB HO_5
     obtain ⟨HB, HO375⟩ := n_
     clear ho hb hg hat
     refine hK.out _ _ ⟨((HB.out.cell (World.block_lt_of_cell? w _ hw371_0)).trans hw371_0), ((HB.out.cell (World.block_lt_of_cell? w _ hw372_0)).trans hw372_0)⟩ (fun hHeld => ?_)
     clear hK K
     refine norm_ (a' := ?_) ?_ ?_
     rotate_left
     ·show Act.put _ (some 32) _ = _
      simp only [Act.put, List.setIfInBounds_toArray, List.set_cons_zero, List.set_cons_succ, i64_w, i32_w]
      rfl
     refine pS_ 13 5 (bb_ 14 16383) HT_.out ?_
     refine done_ (done_of HT_.out (by kernel_rfl)) ?_
     try go_wp2
     go_roundg k1
     case measure => have := HK1.out; omega
     case rel => exact ⟨(y373), (wrap64 (x6_1 + 1)), f0_, H', ⟨by have := HK1.out; omega⟩, ⟨rR_ HO375.out⟩, ⟨hB_⟩⟩
    ·replace c9 := Bool.eq_false_iff.mpr c9
     subst c9
     replace H := iF_ H
     obtain rfl := Option.some.inj H
     go_wp2_with (first | (go_at_call 25; (with_reducible refine (spec_PolyOk.calls k1 _ _ l0 true _ ?side1 ?side2 A6.out).mono ?_); (case side1 => exact cR_ (Kd.C_below HR0.out HB.out)); (case side2 => exact HC0.out); rintro e w' ⟨rfl, ⟨nd, rfl⟩⟩) | (go_at_call 25; (with_reducible refine (spec_PolyOk.calls k1 _ _ l1 false _ ?side1 ?side2 A8.out).mono ?_); (case side1 => exact cR_ (Kd.C_below HR1.out (hB_))); (case side2 => exact HC1.out); rintro e w' ⟨rfl, ⟨nd, rfl⟩⟩))
     go_ret
     exact ⟨_, f1_, rR_ HO_5.out, hB_⟩
   ·replace c7 := Bool.eq_false_iff.mpr c7
    subst c7
    replace H := iF_ H
    obtain rfl := Option.some.inj H
    go_wp2_with (first | (go_at_call 25; (with_reducible refine (spec_PolyOk.calls k1 _ _ l0 false _ ?side1 ?side2 A6.out).mono ?_); (case side1 => exact cR_ (Kd.C_below HR0.out HB.out)); (case side2 => exact HC0.out); rintro e w' ⟨rfl, ⟨nd, rfl⟩⟩))
    go_ret
    exact ⟨_, f1_, rR_ HO_5.out, hB_⟩

/-! ### spec_MulNtt: function 31 -/
mutual
def spec_MulNtt.j0 : Nat → List Int → List Int → List Int → Bool → Option (List Int)
 | 0, _, _, _, _ => none
 | k + 1, x0, x1, x5, x17 => if x17 = true then (some x5) else (spec_MulNtt.l0 k x0 x1 x5 0)
def spec_MulNtt.l0 : Nat → List Int → List Int → List Int → Int → Option (List Int)
 | 0, _, _, _, _ => none
 | k + 1, x0, x1, x5, x6 => if x6 < 128 then ((spec_Turn7.f k x6).bind fun t381 => ((spec_PowQ.f k 17 (wrap64 ((wrap64 (2 * t381)) + 1))).bind fun t382 => (if 0 ≤ (wrap64 ((wrap64 (2 * x6)) + 1)) then (if (wrap64 ((wrap64 (2 * x6)) + 1)) < (x0.length : Int) then (if (wrap64 ((wrap64 (2 * x6)) + 1)) < (x1.length : Int) then (if 0 ≤ (wrap64 (2 * x6)) then (if (wrap64 (2 * x6)) < (x0.length : Int) then (if (wrap64 (2 * x6)) < (x1.length : Int) then ((some (([Int.tmod (wrap64 ((wrap64 ((rd x0 (wrap64 (2 * x6))) * (rd x1 (wrap64 (2 * x6))))) + (wrap64 ((Int.tmod (wrap64 ((rd x0 (wrap64 ((wrap64 (2 * x6)) + 1))) * (rd x1 (wrap64 ((wrap64 (2 * x6)) + 1))))) 3329) * t382)))) 3329, Int.tmod (wrap64 ((wrap64 ((rd x0 (wrap64 (2 * x6))) * (rd x1 (wrap64 ((wrap64 (2 * x6)) + 1))))) + (wrap64 ((rd x0 (wrap64 ((wrap64 (2 * x6)) + 1))) * (rd x1 (wrap64 (2 * x6))))))) 3329] : List Int) : List Int)).bind fun y391 => (if x5.length + y391.length < 17592186044416 then (spec_MulNtt.l0 k x0 x1 (x5 ++ y391) (wrap64 (x6 + 1))) else (none))) else (none)) else (none)) else (none)) else (none)) else (none)) else (none)))) else (some x5)
end
def spec_MulNtt.f (k : Nat) (l0 : List Int) (l1 : List Int) : Option (List Int) := (some (([] : List Int) : List Int)).bind fun y376 => ((spec_PolyOk.f k l0).bind fun t379 => (if t379 = true then ((spec_PolyOk.f k l1).bind fun t380 => (spec_MulNtt.j0 k l0 l1 y376 (!t380))) else (spec_MulNtt.j0 k l0 l1 y376 true)))
theorem spec_MulNtt.mono_l : ∀ k, (∀ y0 y1 y2 y3, LeO (spec_MulNtt.j0 k y0 y1 y2 y3) (spec_MulNtt.j0 (k + 1) y0 y1 y2 y3)) ∧ (∀ y0 y1 y2 y3, LeO (spec_MulNtt.l0 k y0 y1 y2 y3) (spec_MulNtt.l0 (k + 1) y0 y1 y2 y3))
 | 0 => ⟨fun _ _ _ _ r h => by simp [spec_MulNtt.j0] at h, fun _ _ _ _ r h => by simp [spec_MulNtt.l0] at h⟩
 | k + 1 => by
  obtain ⟨ih0, ih1⟩ := spec_MulNtt.mono_l k
  refine ⟨?_, ?_⟩ <;> (intros; (first | unfold spec_MulNtt.j0 | unfold spec_MulNtt.l0); exact o5_ ih0 ih1 spec_PolyOk.mono spec_PowQ.mono spec_Turn7.mono)
theorem spec_MulNtt.mono : ∀ a0 a1 k, LeO (spec_MulNtt.f k a0 a1) (spec_MulNtt.f (k + 1) a0 a1) := by
 intro a0 a1 k
 obtain ⟨ih0, ih1⟩ := spec_MulNtt.mono_l k
 unfold spec_MulNtt.f
 exact o5_ ih0 ih1 spec_PolyOk.mono spec_PowQ.mono spec_Turn7.mono
def spec_MulNtt.T8 : Bool × List (List Nat × List Nat) := (true, [([], []), ([], []), ([1], [1]), ([2], [2]), ([0, 3], [0, 3]), ([4], [4]), ([], []), ([], []), ([7], [7]), ([8], [8]), ([6, 9], [6, 9]), ([10], [10]), ([5, 11], [5, 11]), ([12], [12]), ([], []), ([13, 14], [13, 14]), ([15, 0, 1, 2, 3, 4, 5, 6, 7, 8, 9, 10, 11, 12, 13, 14, 15], [15])])
def spec_MulNtt.B8 : List Nat := [0, 0, 2, 6, 15, 31, 0, 0, 128, 384, 960, 1984, 4095, 8191, 0, 32767, 65535]
theorem spec_MulNtt.tab8 : rtab .any (opsOf Tryd.f31 8) = spec_MulNtt.T8 := by kernel_rfl
theorem spec_MulNtt.bits8 : waitsOk spec_MulNtt.T8.2 spec_MulNtt.B8 = true := by kernel_rfl
def spec_MulNtt.T9 : Bool × List (List Nat × List Nat) := (true, [([], []), ([], []), ([], []), ([2], [2]), ([1, 3], [1, 3]), ([4], [4]), ([], []), ([], []), ([7], [7]), ([6, 8], [6, 8]), ([9], [9]), ([5, 10], [5, 10]), ([], []), ([11, 12], [11, 12]), ([13], [13]), ([], []), ([], []), ([16], [16]), ([15, 17], [15, 17]), ([18], [18]), ([], []), ([], []), ([21], [21]), ([22], [22]), ([20, 23], [20, 23]), ([24], [24]), ([19, 25], [19, 25]), ([], []), ([], []), ([28], [28]), ([29], [29]), ([27, 30], [27, 30]), ([31], [31]), ([], []), ([], []), ([34], [34]), ([33, 35], [33, 35]), ([36], [36]), ([32, 37], [32, 37]), ([26, 38], [26, 38]), ([39], [39]), ([14, 40], [14, 40]), ([0, 41], [0, 41]), ([42, 42, 0, 1, 2, 3, 4, 5, 6, 7, 8, 9, 10, 11, 12, 13, 14, 15, 16, 17, 18, 19, 20, 21, 22, 23, 24, 25, 26, 27, 28, 29, 30, 31, 32, 33, 34, 35, 36, 37, 38, 39, 40, 41, 42], [0, 42])])
def spec_MulNtt.B9 : List Nat := [0, 0, 0, 4, 14, 30, 0, 0, 128, 448, 960, 2046, 0, 8190, 16382, 0, 0, 65536, 229376, 491520, 0, 0, 2097152, 6291456, 15728640, 32505856, 67076096, 0, 0, 268435456, 805306368, 2013265920, 4160749568, 0, 0, 17179869184, 60129542144, 128849018880, 274743689216, 549755781120, 1099511595008, 2199023255550, 4398046511103, 8796093022207]
theorem spec_MulNtt.tab9 : rtab .any (opsOf Tryd.f31 9) = spec_MulNtt.T9 := by kernel_rfl
theorem spec_MulNtt.bits9 : waitsOk spec_MulNtt.T9.2 spec_MulNtt.B9 = true := by kernel_rfl
theorem spec_MulNtt.calls (k : Nat) (A0 : Option Addr) (c0 : Nat) (l0 : List Int) (A1 : Option Addr) (c1 : Nat) (l1 : List Int) (r : List Int) (w : World) (hr0 : Kd.C (Kd.int .i64) w A0 l0.length l0) (hc0 : l0.length ≤ c0) (hr1 : Kd.C (Kd.int .i64) w A1 l1.length l1) (hc1 : l1.length ≤ c1) (h : spec_MulNtt.f k l0 l1 = some r) :
  Calls Tryd.prog 31 #[.slice A0 l0.length c0, .slice A1 l1.length c1] w fun e w' => ∃ v0_ : Value, e = .returned (v0_) ∧ Kd.R (Kd.int .i64) 3 w' w.heap.size (fun _ => True) v0_ r ∧ Below w.heap.size w w' := by
 have HR0 := Aside0.mk hr0
 have HC0 := Aside0.mk hc0
 clear hr0 hc0
 have HR1 := Aside0.mk hr1
 have HC1 := Aside0.mk hc1
 clear hr1 hc1
 have HB := Aside0.mk (Below.refl w.heap.size w)
 delta spec_MulNtt.f at h
 have H := h
 clear h
 obtain ⟨y376, hy376⟩ : ∃ y_ : List Int, y_ = (([] : List Int)) := ⟨_, rfl⟩
 first | replace H := yb_ hy376 H | rw [← hy376] at H
 have Ny376 := Aside0.mk hy376
 clear hy376
 have HC3 := Aside0.mk H
 clear H
 go_enter Tryd.func31, Tryd.ntmps31
 go_upto_region 2 with (first | ((with_reducible refine gate_dst (N := 9) rfl ?_); refine Kd.R_lit (Kd.int .i64) _ 3 ?hg (N := 9) ?hd (xs := ([] : List Int)) (inner := []) (ok := fun _ => True) (okp := fun _ => True) ?hr ?hp (fun _ hk => hk) trivial (Below.refl _ _) (Nat.le_refl _) (by simp) ?_; (case hd => rfl); (case hg => rfl); (case hr => first | (go_simp; done) | (go_simp; rfl)); (case hp => exact (Reps.none _ _)); intro v377 w4 ho5 hb hg_ hnew_; clear hg_ hnew_; (first | rw [← Ny376.out] at ho5 | (simp only [Int.reduceToNat] at ho5; rw [← Ny376.out] at ho5)); have n_ := b_ (Kd.R_lower ho5 (below_size (hB_))) <| c_ (below_step (hB_) hb); clear HB; obtain ⟨HO378, HB⟩ := n_; clear hb ho5))
 (try simp only [Act.put, List.setIfInBounds_toArray, List.set_cons_zero, List.set_cons_succ])
 go_cut [17] (fun v17 wc => ∃ (kq : Nat) (x17_2 : Bool), v17 = .bool x17_2 ∧ Aside0 (spec_MulNtt.j0 kq l0 l1 y376 x17_2 = some r) ∧ Aside0 (kq ≤ k) ∧ Aside0 (Kd.R (Kd.int .i64) 3 wc w.heap.size (fun _ => True) v377 y376) ∧ Aside0 (Below w.heap.size w wc))
 case first =>
  have H := HC3.out
  clear HC3
  obtain ⟨t379, A6, H⟩ := bN_ H
  by_cases c7 : t379 = true
  ·subst c7
   replace H := iT_ H
   obtain ⟨t380, A8, H⟩ := bN_ H
   have H' := Aside0.mk H
   clear H
   go_wp2_with (first | ((with_reducible refine gate_callee (f := 25) rfl ?_); refine goesL_ (some 11) rfl rfl Tryd.func25 (by kernel_rfl) rfl #[.slice A0 l0.length c0] rfl aM_ ?_; (with_reducible refine (spec_PolyOk.calls k _ _ l0 true _ ?side1 ?side2 A6.out).mono ?_); (case side1 => exact cR_ (Kd.C_below HR0.out HB.out)); (case side2 => exact HC0.out); rintro e w' ⟨rfl, ⟨nd, rfl⟩⟩; refine ⟨_, rfl, ?_⟩) | (go_at_call 25; (with_reducible refine (spec_PolyOk.calls k _ _ l1 t380 _ ?side1 ?side2 A8.out).mono ?_); (case side1 => exact cR_ (Kd.C_below HR1.out (hB_))); (case side2 => exact HC1.out); rintro e w' ⟨rfl, ⟨nd, rfl⟩⟩))
   go_meet
   case rel => exact ⟨_, (!t380), f0_, H', ⟨by first | omega | exact Nat.le_refl _⟩, ⟨rR_ HO378.out⟩, ⟨hB_⟩⟩
  ·replace c7 := Bool.eq_false_iff.mpr c7
   subst c7
   replace H := iF_ H
   have H' := Aside0.mk H
   clear H
   go_wp2_with (first | ((with_reducible refine gate_callee (f := 25) rfl ?_); refine goesL_ (some 11) rfl rfl Tryd.func25 (by kernel_rfl) rfl #[.slice A0 l0.length c0] rfl aM_ ?_; (with_reducible refine (spec_PolyOk.calls k _ _ l0 false _ ?side1 ?side2 A6.out).mono ?_); (case side1 => exact cR_ (Kd.C_below HR0.out HB.out)); (case side2 => exact HC0.out); rintro e w' ⟨rfl, ⟨nd, rfl⟩⟩; refine ⟨_, rfl, ?_⟩))
   go_meet
   case rel => exact ⟨_, (true), f0_, H', ⟨by first | omega | exact Nat.le_refl _⟩, ⟨rR_ HO378.out⟩, ⟨hB_⟩⟩
 case rest =>
  clear HC3
  obtain ⟨kq, x17_2, rfl, HA, HJ2, HO_5, HB⟩ := hcut
  cases kq with
  | zero => exact absurd HA.out (by simp [spec_MulNtt.j0])
  | succ kj2 =>
   have H := HA.out
   clear HA
   simp only [spec_MulNtt.j0] at H
   by_cases c9 : x17_2 = true
   ·subst c9
    replace H := iT_ H
    obtain rfl := Option.some.inj H
    go_wp2
    go_ret
    exact ⟨_, f1_, rR_ HO_5.out, hB_⟩
   ·replace c9 := Bool.eq_false_iff.mpr c9
    subst c9
    replace H := iF_ H
    have H' := Aside0.mk H
    clear H
    go_wp2
    go_loopg [5, 6] kj2 (fun kq v5 v6 w' => ∃ (x5_2 : List Int) (x6_2 : Int), v6 = .int .i64 x6_2 ∧ Aside0 (spec_MulNtt.l0 kq l0 l1 x5_2 x6_2 = some r) ∧ Aside0 (kq ≤ kj2) ∧ Aside0 (Kd.R (Kd.int .i64) 3 w' w.heap.size (fun _ => True) v5 x5_2) ∧ Aside0 (Below w.heap.size w w'))
    case atStart => exact ⟨(y376), (0), f0_, H', ⟨Nat.le_refl _⟩, ⟨rR_ HO_5.out⟩, ⟨hB_⟩⟩
    case round =>
     clear H'
     obtain ⟨x5_2, x6_2, rfl, HA, HK2, HO_5, HB⟩ := hrel
     cases gk with
     | zero => exact absurd HA.out (by simp [spec_MulNtt.l0])
     | succ k2 =>
      have H := HA.out
      clear HA
      simp only [spec_MulNtt.l0] at H
      by_cases c10 : x6_2 < 128
      rotate_left
      ·rw [if_neg c10] at H
       have c10b0 := decide_eq_false c10
       clear c10
       obtain rfl := Option.some.inj H
       go_wp2
       go_ret
       exact ⟨_, f1_, rR_ HO_5.out, hB_⟩
      rw [if_pos c10] at H
      have c10b0 := decide_eq_true c10
      clear c10
      obtain ⟨t381, A11, H⟩ := bN_ H
      obtain ⟨t382, A12, H⟩ := bN_ H
      obtain ⟨ji13, hji13⟩ : ∃ j_ : Int, (wrap64 ((wrap64 (2 * x6_2)) + 1)) = j_ := ⟨_, rfl⟩
      first | rw [hji13] at H | simp only [hji13] at H
      (try rw [hji13] at A11)
      (try rw [hji13] at A12)
      have hji13w : (IntKind.i64.wrap ((wrap64 (2 * x6_2)) + 1)) = ji13 := (i64_w _).trans hji13
      obtain ⟨c14b0, H⟩ := iD_ H
      obtain ⟨c15b0, H⟩ := iD_ H
      obtain ⟨c16b0, H⟩ := iD_ H
      obtain ⟨ji17, hji17⟩ : ∃ j_ : Int, (wrap64 (2 * x6_2)) = j_ := ⟨_, rfl⟩
      first | rw [hji17] at H | simp only [hji17] at H
      (try rw [hji17] at A11)
      (try rw [hji17] at A12)
      have hji17w : (IntKind.i64.wrap (2 * x6_2)) = ji17 := (i64_w _).trans hji17
      have hji13_ji17 : wrap64 (ji17 + 1) = ji13 := by rw [← hji17]; exact hji13
      have hji13_ji17w : IntKind.i64.wrap (ji17 + 1) = ji13 := (i64_w _).trans hji13_ji17
      obtain ⟨c18b0, H⟩ := iD_ H
      obtain ⟨c19b0, H⟩ := iD_ H
      obtain ⟨c20b0, H⟩ := iD_ H
      obtain ⟨y391, hy391⟩ : ∃ y_ : List Int, y_ = (([Int.tmod (wrap64 ((wrap64 ((rd l0 (ji17)) * (rd l1 (ji17)))) + (wrap64 ((Int.tmod (wrap64 ((rd l0 (ji13)) * (rd l1 (ji13)))) 3329) * t382)))) 3329, Int.tmod (wrap64 ((wrap64 ((rd l0 (ji17)) * (rd l1 (ji13)))) + (wrap64 ((rd l0 (ji13)) * (rd l1 (ji17)))))) 3329] : List Int)) := ⟨_, rfl⟩
      first | replace H := yb_ hy391 H | rw [← hy391] at H
      have Ny391 := Aside0.mk hy391
      clear hy391
      obtain ⟨c21, H⟩ := iN_ H
      have LMc21 := Aside0.mk c21
      clear c21
      obtain ⟨y394, hy394⟩ : ∃ y_ : List Int, y_ = (x5_2 ++ y391) := ⟨_, rfl⟩
      first | replace H := yb_ hy394 H | rw [← hy394] at H
      have Ny394 := Aside0.mk hy394
      clear hy394
      have H' := Aside0.mk H
      clear H
      try go_wp2_with (first | ((with_reducible refine gate_callee (f := 27) rfl ?_); refine goesL_ (some 24) rfl rfl Tryd.func27 (by kernel_rfl) rfl #[.int .i64 x6_2] rfl aM_ ?_; (with_reducible refine (spec_Turn7.calls k2 x6_2 t381 _ A11.out).mono ?_); rintro e w' ⟨rfl, ⟨nd, rfl⟩⟩; refine ⟨_, rfl, ?_⟩) | ((with_reducible refine gate_callee (f := 26) rfl ?_); refine goesL_ (some 27) rfl rfl Tryd.func26 (by kernel_rfl) rfl #[.int .i64 17, .int .i64 (wrap64 ((wrap64 (2 * t381)) + 1))] rfl aM_ ?_; (with_reducible refine (spec_PowQ.calls k2 17 (wrap64 ((wrap64 (2 * t381)) + 1)) t382 _ A12.out).mono ?_); rintro e w' ⟨rfl, ⟨nd, rfl⟩⟩; refine ⟨_, rfl, ?_⟩))
      (try (rw [drewN_self wr]; generalize hq_ : World.drewN wr _ = wr; have n_ := b_ (show Kd.R (Kd.int .i64) 3 wr w.heap.size (fun _ => True) u5 x5_2 from by rw [← hq_]; exact (rR_ HO_5.out)) <| c_ (show Below w.heap.size w wr from by rw [← hq_]; exact (hB_)); clear HO_5 HB hq_; obtain ⟨HO_5, HB⟩ := n_))
      have n_ := b_ (Kd.R_drew HO_5.out) <| c_ (below_drew1 HB.out)
      clear HO_5 HB
      obtain ⟨HO_5, HB⟩ := n_
      have p383 : 0 ≤ ((ji13) : Int) := oD_
      have q383 : (ji13) < (l0.length : Int) := oD_
      obtain ⟨ad383, e383, hx383_0⟩ := Kd.at_int HR0.out (ji13) p383 q383
      have hw383_0 := hx383_0
      cases e383
      replace hx383_0 := (HB.out.cell (World.block_lt_of_cell? w _ hx383_0)).trans hx383_0
      replace p383 := eq_true p383
      replace q383 := eq_true q383
      have p384 : 0 ≤ ((ji13) : Int) := oD_
      have q384 : (ji13) < (l1.length : Int) := oD_
      obtain ⟨ad384, e384, hx384_0⟩ := Kd.at_int HR1.out (ji13) p384 q384
      have hw384_0 := hx384_0
      cases e384
      replace hx384_0 := (HB.out.cell (World.block_lt_of_cell? w _ hx384_0)).trans hx384_0
      replace p384 := eq_true p384
      replace q384 := eq_true q384
      refine start_ (n := 17) (S := fun w' => w'.cell? (ad383.add ((ji13)).toNat) = some (.int .i64 (rd l0 (ji13))) ∧ w'.cell? (ad384.add ((ji13)).toNat) = some (.int .i64 (rd l1 (ji13)))) (ds := []) (bb_ 17 0) (by kernel_rfl) rfl rfl ⟨((HB.out.cell (World.block_lt_of_cell? w _ hw383_0)).trans hw383_0), ((HB.out.cell (World.block_lt_of_cell? w _ hw384_0)).trans hw384_0)⟩ (fun hHeld => ?_); refine with_tabW spec_MulNtt.tab8 spec_MulNtt.bits8 (fun HT_ HW_ => ?_)
      generalize wr.drew = w22 at HO_5 HB hx383_0 hx384_0 hHeld ⊢
      refine pS_ 0 28 (bb_ 17 1) HT_.out ?_
      refine pS_ 1 29 (bb_ 17 3) HT_.out ?_
      refine pS_ 2 30 (bb_ 17 7) HT_.out ?_
      refine pS_ 3 31 (bb_ 17 15) HT_.out ?_
      refine pS_ 4 32 (bb_ 17 31) HT_.out ?_
      refine pS_ 6 34 (bb_ 17 95) HT_.out ?_
      refine pS_ 7 35 (bb_ 17 223) HT_.out ?_
      refine pS_ 8 36 (bb_ 17 479) HT_.out ?_
      refine pS_ 9 37 (bb_ 17 991) HT_.out ?_
      refine pS_ 10 38 (bb_ 17 2015) HT_.out ?_
      refine pS_ 14 42 (bb_ 17 18399) HT_.out ?_
      refine tS_ 5 33 (bb_ 17 18431) (take_ofW HT_.out HW_.out (by kernel_rfl)) hHeld ?_
      refine tS_ 11 39 (bb_ 17 20479) (take_ofW HT_.out HW_.out (by kernel_rfl)) hHeld ?_
      refine pS_ 12 40 (bb_ 17 24575) HT_.out ?_
      refine pS_ 13 41 (bb_ 17 32767) HT_.out ?_
      refine pS_ 15 43 (bb_ 17 65535) HT_.out ?_
      refine pS_ 16 8 (bb_ 17 131071) HT_.out ?_
      refine done_ (done_of HT_.out (by kernel_rfl)) ?_
      try go_wp2
      have n_ := b_ (Kd.R_drew HO_5.out) <| c_ (below_drew1 HB.out)
      clear HO_5 HB
      obtain ⟨HO_5, HB⟩ := n_
      have p385 : 0 ≤ ((ji17) : Int) := oD_
      have q385 : (ji17) < (l0.length : Int) := oD_
      obtain ⟨ad385, e385, hx385_0⟩ := Kd.at_int HR0.out (ji17) p385 q385
      have hw385_0 := hx385_0
      obtain rfl : ad383 = ad385 := (by injection e385)
      replace hx385_0 := (HB.out.cell (World.block_lt_of_cell? w _ hx385_0)).trans hx385_0
      replace p385 := eq_true p385
      replace q385 := eq_true q385
      have p386 : 0 ≤ ((ji17) : Int) := oD_
      have q386 : (ji17) < (l1.length : Int) := oD_
      obtain ⟨ad386, e386, hx386_0⟩ := Kd.at_int HR1.out (ji17) p386 q386
      have hw386_0 := hx386_0
      obtain rfl : ad384 = ad386 := (by injection e386)
      replace hx386_0 := (HB.out.cell (World.block_lt_of_cell? w _ hx386_0)).trans hx386_0
      replace p386 := eq_true p386
      replace q386 := eq_true q386
      have p387 : 0 ≤ ((ji17) : Int) := oD_
      have q387 : (ji17) < (l0.length : Int) := oD_
      obtain ⟨ad387, e387, hx387_0⟩ := Kd.at_int HR0.out (ji17) p387 q387
      have hw387_0 := hx387_0
      obtain rfl : ad383 = ad387 := (by injection e387)
      replace hx387_0 := (HB.out.cell (World.block_lt_of_cell? w _ hx387_0)).trans hx387_0
      replace p387 := eq_true p387
      replace q387 := eq_true q387
      have p388 : 0 ≤ ((ji13) : Int) := oD_
      have q388 : (ji13) < (l1.length : Int) := oD_
      obtain ⟨ad388, e388, hx388_0⟩ := Kd.at_int HR1.out (ji13) p388 q388
      have hw388_0 := hx388_0
      obtain rfl : ad384 = ad388 := (by injection e388)
      replace hx388_0 := (HB.out.cell (World.block_lt_of_cell? w _ hx388_0)).trans hx388_0
      replace p388 := eq_true p388
      replace q388 := eq_true q388
      have p389 : 0 ≤ ((ji13) : Int) := oD_
      have q389 : (ji13) < (l0.length : Int) := oD_
      obtain ⟨ad389, e389, hx389_0⟩ := Kd.at_int HR0.out (ji13) p389 q389
      have hw389_0 := hx389_0
      obtain rfl : ad383 = ad389 := (by injection e389)
      replace hx389_0 := (HB.out.cell (World.block_lt_of_cell? w _ hx389_0)).trans hx389_0
      replace p389 := eq_true p389
      replace q389 := eq_true q389
      have p390 : 0 ≤ ((ji17) : Int) := oD_
      have q390 : (ji17) < (l1.length : Int) := oD_
      obtain ⟨ad390, e390, hx390_0⟩ := Kd.at_int HR1.out (ji17) p390 q390
      have hw390_0 := hx390_0
      obtain rfl : ad384 = ad390 := (by injection e390)
      replace hx390_0 := (HB.out.cell (World.block_lt_of_cell? w _ hx390_0)).trans hx390_0
      replace p390 := eq_true p390
      replace q390 := eq_true q390
      refine start_ (n := 44) (S := fun w' => w'.cell? (ad383.add ((ji17)).toNat) = some (.int .i64 (rd l0 (ji17))) ∧ w'.cell? (ad384.add ((ji17)).toNat) = some (.int .i64 (rd l1 (ji17))) ∧ w'.cell? (ad383.add ((ji17)).toNat) = some (.int .i64 (rd l0 (ji17))) ∧ w'.cell? (ad384.add ((ji13)).toNat) = some (.int .i64 (rd l1 (ji13))) ∧ w'.cell? (ad383.add ((ji13)).toNat) = some (.int .i64 (rd l0 (ji13))) ∧ w'.cell? (ad384.add ((ji17)).toNat) = some (.int .i64 (rd l1 (ji17)))) (ds := []) (bb_ 44 0) (by kernel_rfl) rfl rfl ⟨((HB.out.cell (World.block_lt_of_cell? w _ hw385_0)).trans hw385_0), ((HB.out.cell (World.block_lt_of_cell? w _ hw386_0)).trans hw386_0), ((HB.out.cell (World.block_lt_of_cell? w _ hw387_0)).trans hw387_0), ((HB.out.cell (World.block_lt_of_cell? w _ hw388_0)).trans hw388_0), ((HB.out.cell (World.block_lt_of_cell? w _ hw389_0)).trans hw389_0), ((HB.out.cell (World.block_lt_of_cell? w _ hw390_0)).trans hw390_0)⟩ (fun hHeld => ?_); refine with_tabW spec_MulNtt.tab9 spec_MulNtt.bits9 (fun HT_ HW_ => ?_)
      generalize w22.drew = w23 at HO_5 HB hx385_0 hx386_0 hx387_0 hx388_0 hx389_0 hx390_0 hHeld ⊢
      refine pS_ 0 44 (bb_ 44 1) HT_.out ?_
      refine pS_ 1 45 (bb_ 44 3) HT_.out ?_
      refine pS_ 2 46 (bb_ 44 7) HT_.out ?_
      refine pS_ 3 47 (bb_ 44 15) HT_.out ?_
      refine pS_ 4 48 (bb_ 44 31) HT_.out ?_
      refine pS_ 6 50 (bb_ 44 95) HT_.out ?_
      refine pS_ 7 51 (bb_ 44 223) HT_.out ?_
      refine pS_ 8 52 (bb_ 44 479) HT_.out ?_
      refine pS_ 9 53 (bb_ 44 991) HT_.out ?_
      refine pS_ 12 56 (bb_ 44 5087) HT_.out ?_
      refine pS_ 15 59 (bb_ 44 37855) HT_.out ?_
      refine pS_ 16 60 (bb_ 44 103391) HT_.out ?_
      refine pS_ 17 61 (bb_ 44 234463) HT_.out ?_
      refine pS_ 18 62 (bb_ 44 496607) HT_.out ?_
      refine pS_ 20 64 (bb_ 44 1545183) HT_.out ?_
      refine pS_ 21 65 (bb_ 44 3642335) HT_.out ?_
      refine pS_ 22 66 (bb_ 44 7836639) HT_.out ?_
      refine pS_ 23 67 (bb_ 44 16225247) HT_.out ?_
      refine pS_ 24 68 (bb_ 44 33002463) HT_.out ?_
      refine pS_ 27 71 (bb_ 44 167220191) HT_.out ?_
      refine pS_ 28 72 (bb_ 44 435655647) HT_.out ?_
      refine pS_ 29 73 (bb_ 44 972526559) HT_.out ?_
      refine pS_ 30 74 (bb_ 44 2046268383) HT_.out ?_
      refine pS_ 31 75 (bb_ 44 4193752031) HT_.out ?_
      refine pS_ 33 77 (bb_ 44 12783686623) HT_.out ?_
      refine pS_ 34 78 (bb_ 44 29963555807) HT_.out ?_
      refine pS_ 35 79 (bb_ 44 64323294175) HT_.out ?_
      refine pS_ 36 80 (bb_ 44 133042770911) HT_.out ?_
      refine tS_ 5 49 (bb_ 44 133042770943) (take_ofW HT_.out HW_.out (by kernel_rfl)) hHeld ?_
      refine tS_ 10 54 (bb_ 44 133042771967) (take_ofW HT_.out HW_.out (by kernel_rfl)) hHeld ?_
      refine pS_ 11 55 (bb_ 44 133042774015) HT_.out ?_
      refine pS_ 13 57 (bb_ 44 133042782207) HT_.out ?_
      refine pS_ 14 58 (bb_ 44 133042798591) HT_.out ?_
      refine tS_ 19 63 (bb_ 44 133043322879) (take_ofW HT_.out HW_.out (by kernel_rfl)) hHeld ?_
      refine tS_ 25 69 (bb_ 44 133076877311) (take_ofW HT_.out HW_.out (by kernel_rfl)) hHeld ?_
      refine pS_ 26 70 (bb_ 44 133143986175) HT_.out ?_
      refine tS_ 32 76 (bb_ 44 137438953471) (take_ofW HT_.out HW_.out (by kernel_rfl)) hHeld ?_
      refine tS_ 37 81 (bb_ 44 274877906943) (take_ofW HT_.out HW_.out (by kernel_rfl)) hHeld ?_
      refine pS_ 38 82 (bb_ 44 549755813887) HT_.out ?_
      refine pS_ 39 83 (bb_ 44 1099511627775) HT_.out ?_
      refine pS_ 40 84 (bb_ 44 2199023255551) HT_.out ?_
      refine one_ (i := 41) (N := some 85) (bb_ 44 4398046511103) rfl rfl (one_of HT_.out (by kernel_rfl)) (by decide) (fun K hK => ?_)
      refine Kd.R_lit_step (Kd.int .i64) _ 3 ?hg (N := 85) ?hd (xs := ([Int.tmod (wrap64 ((wrap64 ((rd l0 (ji17)) * (rd l1 (ji17)))) + (wrap64 ((Int.tmod (wrap64 ((rd l0 (ji13)) * (rd l1 (ji13)))) 3329) * t382)))) 3329, Int.tmod (wrap64 ((wrap64 ((rd l0 (ji17)) * (rd l1 (ji13)))) + (wrap64 ((rd l0 (ji13)) * (rd l1 (ji17)))))) 3329] : List Int)) (inner := [.int .i64 (Int.tmod (wrap64 ((wrap64 ((rd l0 (ji17)) * (rd l1 (ji17)))) + (wrap64 ((Int.tmod (wrap64 ((rd l0 (ji13)) * (rd l1 (ji13)))) 3329) * t382)))) 3329), .int .i64 (Int.tmod (wrap64 ((wrap64 ((rd l0 (ji17)) * (rd l1 (ji13)))) + (wrap64 ((rd l0 (ji13)) * (rd l1 (ji17)))))) 3329)]) (ok := fun _ => True) (okp := fun _ => True) ?hr ?hp (fun _ hk => hk) trivial (Below.refl _ _) (Nat.le_refl _) (by simp) ?_; (case hd => rfl); (case hg => rfl); (case hr => first | (go_simp; done) | (go_simp; rfl)); (case hp => exact (Reps.one (show Kd.M (Kd.int .i64) _ _ _ (Int.tmod (wrap64 ((wrap64 ((rd l0 (ji17)) * (rd l1 (ji17)))) + (wrap64 ((Int.tmod (wrap64 ((rd l0 (ji13)) * (rd l1 (ji13)))) 3329) * t382)))) 3329) [.int .i64 (Int.tmod (wrap64 ((wrap64 ((rd l0 (ji17)) * (rd l1 (ji17)))) + (wrap64 ((Int.tmod (wrap64 ((rd l0 (ji13)) * (rd l1 (ji13)))) 3329) * t382)))) 3329)] from rfl) (Reps.one (show Kd.M (Kd.int .i64) _ _ _ (Int.tmod (wrap64 ((wrap64 ((rd l0 (ji17)) * (rd l1 (ji13)))) + (wrap64 ((rd l0 (ji13)) * (rd l1 (ji17)))))) 3329) [.int .i64 (Int.tmod (wrap64 ((wrap64 ((rd l0 (ji17)) * (rd l1 (ji13)))) + (wrap64 ((rd l0 (ji13)) * (rd l1 (ji17)))))) 3329)] from rfl) (Reps.none _ _))))
      intro v392 w24 ho25 hb hg_ hnew_
      clear hg_ hnew_
      (first | rw [← Ny391.out] at ho25 | (simp only [Int.reduceToNat] at ho25; rw [← Ny391.out] at ho25))
      have n_ := b_ (Kd.R_elder' (rR_ HO_5.out) (Kd.R_base ho25) hb) <| b_ (Kd.R_lower (Kd.R_new' ho25 (Kd.R_lt (rR_ HO_5.out))) (below_size (hB_))) <| c_ (below_step (hB_) hb)
      clear HO_5 HB
      obtain ⟨HO_5, HO393, HB⟩ := n_
      clear hb ho25
      obtain ⟨Ao27, co27, eo27⟩ := Kd.R_slice HO393.out
      (first | subst eo27 | (injection eo27 with f1_ f2_ f3_; have f4_ := f1_.symm; have f5_ := f3_.symm; clear f1_ f2_ f3_; subst f4_; subst f5_))
      refine hK.out _ _ ⟨((HB.out.cell (World.block_lt_of_cell? w _ hw385_0)).trans hw385_0), ((HB.out.cell (World.block_lt_of_cell? w _ hw386_0)).trans hw386_0), ((HB.out.cell (World.block_lt_of_cell? w _ hw387_0)).trans hw387_0), ((HB.out.cell (World.block_lt_of_cell? w _ hw388_0)).trans hw388_0), ((HB.out.cell (World.block_lt_of_cell? w _ hw389_0)).trans hw389_0), ((HB.out.cell (World.block_lt_of_cell? w _ hw390_0)).trans hw390_0)⟩ (fun hHeld => ?_)
      clear hK K
      refine norm_ (a' := ?_) ?_ ?_
      rotate_left
      ·show Act.put _ (some 85) _ = _
       simp only [Act.put, List.setIfInBounds_toArray, List.set_cons_zero, List.set_cons_succ, i64_w, i32_w]
       rfl
      refine one_ (i := 42) (N := some 86) (bb_ 44 8796093022207) rfl rfl (one_of HT_.out (by kernel_rfl)) (by decide) (fun K hK => ?_)
      refine Kd.R_append_rows_step (Kd.int .i64) (w0 := w) w.heap.size (by rfl) (.tmp 44) (.tmp 85) 31 3 (.int .i64 0) 8 rfl Tryd.underlying31 info3 rfl (by decide) (by omega) u5 x5_2 y391 _ _ _ (fun k_ => some k_ ≠ (.slice Ao27 y391.length co27 : Value).ownBlock) (fun _ => False) rfl rfl ?aO ?aR (fun _ _ h => h) (fun _ h => h.elim) ?aF ?aB ?aS ?aL ?_
      (case aR => exact cR_ (Kd.R_reads' HO393.out).2.2)
      (case aB => exact (hB_))
      (case aF => exact (fun k_ hk => Kd.fresh' (Kd.R_lt (rR_ HO393.out)) k_ hk))
      (case aO => exact (by refine kR_ ?_; exact Kd.R_mono HO_5.out (fun _ hk => hk.2)))
      (case aS => exact (below_size (hB_)))
      (case aL => have := LMc21.out; omega)
      intro v395 w26 ho hb hg hat
      rw [← Ny394.out] at ho
      have n_ := b_ (Kd.R_after (ok := (fun _ => True)) (rR_ HO393.out) hg hat) <| b_ (hb) <| c_ (ho)
      clear HO393 HB HO_5
      obtain ⟨HO393, HB, HO396⟩ := n_
      clear ho hb hg hat
      refine hK.out _ _ ⟨((HB.out.cell (World.block_lt_of_cell? w _ hw385_0)).trans hw385_0), ((HB.out.cell (World.block_lt_of_cell? w _ hw386_0)).trans hw386_0), ((HB.out.cell (World.block_lt_of_cell? w _ hw387_0)).trans hw387_0), ((HB.out.cell (World.block_lt_of_cell? w _ hw388_0)).trans hw388_0), ((HB.out.cell (World.block_lt_of_cell? w _ hw389_0)).trans hw389_0), ((HB.out.cell (World.block_lt_of_cell? w _ hw390_0)).trans hw390_0)⟩ (fun hHeld => ?_)
      clear hK K
      refine norm_ (a' := ?_) ?_ ?_
      rotate_left
      ·show Act.put _ (some 86) _ = _
       simp only [Act.put, List.setIfInBounds_toArray, List.set_cons_zero, List.set_cons_succ, i64_w, i32_w]
       rfl
      refine pS_ 43 5 (bb_ 44 17592186044415) HT_.out ?_
      refine done_ (done_of HT_.out (by kernel_rfl)) ?_
      try go_wp2
      go_roundg k2
      case measure => have := HJ2.out; have := HK2.out; omega
      case rel => exact ⟨(y394), (wrap64 (x6_2 + 1)), f0_, H', ⟨by have := HJ2.out; have := HK2.out; omega⟩, ⟨by refine kR_ ?_; exact Kd.R_mono HO396.out (fun _ hk => trivial)⟩, ⟨hB_⟩⟩

/-! ### spec_l13Sum: function 13 -/
def spec_l13Sum.l0 : Nat → List (List Int) → List (List Int) → List Int → Int → Option (List Int)
 | 0, _, _, _, _ => none
 | k + 1, x0, x1, x5, x6 => if x6 < (x0.length : Int) then (if 0 ≤ x6 then (if x6 < (x1.length : Int) then ((spec_MulNtt.f k (rd_L4 x0 x6) (rd_L4 x1 x6)).bind fun t402 => ((spec_PolyAdd.f k x5 t402).bind fun t405 => (spec_l13Sum.l0 k x0 x1 t405 (wrap64 (x6 + 1))))) else (none)) else (none)) else (some x5)
def spec_l13Sum.f (k : Nat) (l0 : List (List Int)) (l1 : List (List Int)) : Option (List Int) := if 256 ≤ 35184372088832 then (spec_l13Sum.l0 k l0 l1 (List.replicate 256 0) 0) else (none)
theorem spec_l13Sum.mono_l : ∀ k, (∀ y0 y1 y2 y3, LeO (spec_l13Sum.l0 k y0 y1 y2 y3) (spec_l13Sum.l0 (k + 1) y0 y1 y2 y3))
 | 0 => fun _ _ _ _ r h => by simp [spec_l13Sum.l0] at h
 | k + 1 => by
  have ih0 := spec_l13Sum.mono_l k
  intros; unfold spec_l13Sum.l0; exact o3_ ih0 spec_MulNtt.mono spec_PolyAdd.mono
theorem spec_l13Sum.mono : ∀ a0 a1 k, LeO (spec_l13Sum.f k a0 a1) (spec_l13Sum.f (k + 1) a0 a1) := by
 intro a0 a1 k
 have ih0 := spec_l13Sum.mono_l k
 unfold spec_l13Sum.f
 exact o3_ ih0 spec_MulNtt.mono spec_PolyAdd.mono
def spec_l13Sum.T5 : Bool × List (List Nat × List Nat) := (true, [([], []), ([], []), ([], []), ([1, 2], [1, 2]), ([3], [3]), ([], []), ([], []), ([5, 6], [5, 6]), ([7], [7]), ([4, 8], [4, 8]), ([0, 9, 9], [0, 9]), ([10, 10, 0, 1, 2, 3, 4, 5, 6, 7, 8, 9, 10], [0, 10])])
def spec_l13Sum.B5 : List Nat := [0, 0, 0, 6, 14, 0, 0, 96, 224, 510, 1023, 2047]
theorem spec_l13Sum.tab5 : rtab .any (opsOf Tryd.f13 5) = spec_l13Sum.T5 := by kernel_rfl
theorem spec_l13Sum.bits5 : waitsOk spec_l13Sum.T5.2 spec_l13Sum.B5 = true := by kernel_rfl
theorem spec_l13Sum.calls (k : Nat) (A0 : Option Addr) (c0 : Nat) (l0 : List (List Int)) (A1 : Option Addr) (c1 : Nat) (l1 : List (List Int)) (r : List Int) (w : World) (hr0 : Kd.C (Kd.slice 3 (Kd.int .i64)) w A0 l0.length l0) (hc0 : l0.length ≤ c0) (hr1 : Kd.C (Kd.slice 3 (Kd.int .i64)) w A1 l1.length l1) (hc1 : l1.length ≤ c1) (h : spec_l13Sum.f k l0 l1 = some r) :
  Calls Tryd.prog 13 #[.slice A0 l0.length c0, .slice A1 l1.length c1] w fun e w' => ∃ v0_ : Value, e = .returned (v0_) ∧ Kd.R (Kd.int .i64) 3 w' w.heap.size (fun _ => True) v0_ r ∧ Below w.heap.size w w' := by
 have HR0 := Aside0.mk hr0
 have HC0 := Aside0.mk hc0
 clear hr0 hc0
 have HR1 := Aside0.mk hr1
 have HC1 := Aside0.mk hc1
 clear hr1 hc1
 have HB := Aside0.mk (Below.refl w.heap.size w)
 delta spec_l13Sum.f at h
 have H := h
 clear h
 obtain ⟨c3, H⟩ := iN_ H
 have c3b0 := eq_true c3
 have c3b1 := decide_eq_true c3
 clear c3
 obtain ⟨y397, hy397⟩ : ∃ y_ : List Int, y_ = (List.replicate 256 0) := ⟨_, rfl⟩
 first | replace H := yb_ hy397 H | rw [← hy397] at H
 have Ny397 := Aside0.mk hy397
 clear hy397
 have H' := Aside0.mk H
 clear H
 go_enter Tryd.func13, Tryd.ntmps13
 go_wp2_with (first | ((with_reducible refine gate_dst (N := 7) rfl ?_); refine Kd.R_make (Kd.int .i64) _ 3 rfl (N := 7) rfl 31 _ _ rfl 256 rfl rfl Tryd.underlying31 (.int .i64 0) 8 info3 rfl (by decide) (by omega) 0 (ok := fun _ => True) (okp := fun _ => True) rfl (fun _ hk => hk) trivial (by omega) (by omega) (Below.refl _ _) (Nat.le_refl _) ?_; intro v398 w4 ho5 hb hg_ hnew_; clear hg_ hnew_; (first | rw [← Ny397.out] at ho5 | (simp only [Int.reduceToNat] at ho5; rw [← Ny397.out] at ho5)); have n_ := b_ (Kd.R_lower ho5 (below_size (hB_))) <| c_ (below_step (hB_) hb); clear HB; obtain ⟨HO399, HB⟩ := n_; clear hb ho5))
 go_loopg [5, 6] k (fun kq v5 v6 w' => ∃ (x5_1 : List Int) (x6_1 : Int), v6 = .int .i64 x6_1 ∧ Aside0 (spec_l13Sum.l0 kq l0 l1 x5_1 x6_1 = some r) ∧ Aside0 (kq ≤ k) ∧ Aside0 (Kd.R (Kd.int .i64) 3 w' w.heap.size (fun _ => True) v5 x5_1) ∧ Aside0 (Below w.heap.size w w'))
 case atStart => exact ⟨(y397), (0), f0_, H', ⟨Nat.le_refl _⟩, ⟨rR_ HO399.out⟩, ⟨hB_⟩⟩
 case round =>
  clear H'
  obtain ⟨x5_1, x6_1, rfl, HA, HK1, HO_5, HB⟩ := hrel
  cases gk with
  | zero => exact absurd HA.out (by simp [spec_l13Sum.l0])
  | succ k1 =>
   have H := HA.out
   clear HA
   simp only [spec_l13Sum.l0] at H
   by_cases c6 : x6_1 < (l0.length : Int)
   rotate_left
   ·rw [if_neg c6] at H
    have c6b0 := decide_eq_false c6
    clear c6
    obtain rfl := Option.some.inj H
    go_wp2
    go_ret
    exact ⟨_, f1_, rR_ HO_5.out, hB_⟩
   rw [if_pos c6] at H
   have c6b0 := decide_eq_true c6
   clear c6
   obtain ⟨c7b0, H⟩ := iD_ H
   obtain ⟨c8b0, H⟩ := iD_ H
   obtain ⟨t402, A9, H⟩ := bN_ H
   obtain ⟨t405, A10, H⟩ := bN_ H
   have H' := Aside0.mk H
   clear H
   try go_wp2
   have n_ := b_ (Kd.R_drew HO_5.out) <| c_ (below_drew1 HB.out)
   clear HO_5 HB
   obtain ⟨HO_5, HB⟩ := n_
   have p400 : 0 ≤ (x6_1 : Int) := oD_
   have q400 : x6_1 < (l0.length : Int) := oD_
   obtain ⟨ad400, A400_0, c400_0, e400, hx400_0, hl400_0, hi400_0⟩ := at_L4 HR0.out x6_1 p400 q400
   have hw400_0 := hx400_0
   cases e400
   replace hx400_0 := (HB.out.cell (World.block_lt_of_cell? w _ hx400_0)).trans hx400_0
   have HR400_0 := Aside0.mk hi400_0
   have HC400_0 := Aside0.mk hl400_0
   clear hi400_0 hl400_0
   replace p400 := eq_true p400
   replace q400 := eq_true q400
   have p401 : 0 ≤ (x6_1 : Int) := oD_
   have q401 : x6_1 < (l1.length : Int) := oD_
   obtain ⟨ad401, A401_0, c401_0, e401, hx401_0, hl401_0, hi401_0⟩ := at_L4 HR1.out x6_1 p401 q401
   have hw401_0 := hx401_0
   cases e401
   replace hx401_0 := (HB.out.cell (World.block_lt_of_cell? w _ hx401_0)).trans hx401_0
   have HR401_0 := Aside0.mk hi401_0
   have HC401_0 := Aside0.mk hl401_0
   clear hi401_0 hl401_0
   replace p401 := eq_true p401
   replace q401 := eq_true q401
   refine start_ (n := 12) (S := fun w' => w'.cell? (ad400.add (x6_1).toNat) = some (.slice A400_0 (rd_L4 l0 x6_1).length c400_0) ∧ w'.cell? (ad401.add (x6_1).toNat) = some (.slice A401_0 (rd_L4 l1 x6_1).length c401_0)) (ds := []) (bb_ 12 0) (by kernel_rfl) rfl rfl ⟨((HB.out.cell (World.block_lt_of_cell? w _ hw400_0)).trans hw400_0), ((HB.out.cell (World.block_lt_of_cell? w _ hw401_0)).trans hw401_0)⟩ (fun hHeld => ?_); refine with_tabW spec_l13Sum.tab5 spec_l13Sum.bits5 (fun HT_ HW_ => ?_)
   generalize wr.drew = w11 at HO_5 HB HR400_0 HR401_0 hx400_0 hx401_0 hHeld ⊢
   refine pS_ 0 14 (bb_ 12 1) HT_.out ?_
   refine pS_ 1 15 (bb_ 12 3) HT_.out ?_
   refine pS_ 2 16 (bb_ 12 7) HT_.out ?_
   refine pS_ 3 17 (bb_ 12 15) HT_.out ?_
   refine pS_ 5 19 (bb_ 12 47) HT_.out ?_
   refine pS_ 6 20 (bb_ 12 111) HT_.out ?_
   refine pS_ 7 21 (bb_ 12 239) HT_.out ?_
   refine tS_ 4 18 (bb_ 12 255) (take_ofW HT_.out HW_.out (by kernel_rfl)) hHeld ?_
   refine tS_ 8 22 (bb_ 12 511) (take_ofW HT_.out HW_.out (by kernel_rfl)) hHeld ?_
   refine one_ (i := 9) (N := some 23) (bb_ 12 1023) rfl rfl (one_of HT_.out (by kernel_rfl)) (by decide) (fun K hK => ?_)
   refine goes_ Tryd.func31 (by kernel_rfl) rfl #[.slice A400_0 (rd_L4 l0 x6_1).length c400_0, .slice A401_0 (rd_L4 l1 x6_1).length c401_0] (by rfl) rfl rfl aM_ ?_
   with_reducible refine (spec_MulNtt.calls k1 _ _ (rd_L4 l0 x6_1) _ _ (rd_L4 l1 x6_1) t402 _ ?side1 ?side2 ?side3 ?side4 A9.out).mono ?_
   (case side1 => exact cR_ (Kd.C_below HR400_0.out HB.out))
   (case side2 => exact HC400_0.out)
   (case side3 => exact cR_ (Kd.C_below HR401_0.out HB.out))
   (case side4 => exact HC401_0.out)
   rintro e w12 ⟨v403, rfl, ho0, hb⟩
   refine ⟨_, rfl, ?_⟩
   have n_ := b_ (Kd.R_elder' (rR_ HO_5.out) (Kd.R_base ho0) hb) <| b_ (Kd.R_lower (Kd.R_new' ho0 (Kd.R_lt (rR_ HO_5.out))) (below_size (hB_))) <| c_ (below_step (hB_) hb)
   clear HO_5 HB
   obtain ⟨HO_5, HO404, HB⟩ := n_
   obtain ⟨Ao13, co13, eo13⟩ := Kd.R_slice HO_5.out
   (first | subst eo13 | (injection eo13 with f1_ f2_ f3_; have f4_ := f1_.symm; have f5_ := f3_.symm; clear f1_ f2_ f3_; subst f4_; subst f5_))
   obtain ⟨Ao14, co14, eo14⟩ := Kd.R_slice HO404.out
   (first | subst eo14 | (injection eo14 with f1_ f2_ f3_; have f4_ := f1_.symm; have f5_ := f3_.symm; clear f1_ f2_ f3_; subst f4_; subst f5_))
   refine hK.out _ _ ⟨((HB.out.cell (World.block_lt_of_cell? w _ hw400_0)).trans hw400_0), ((HB.out.cell (World.block_lt_of_cell? w _ hw401_0)).trans hw401_0)⟩ (fun hHeld => ?_)
   clear hK K
   refine norm_ (a' := ?_) ?_ ?_
   rotate_left
   ·show Act.put _ (some 23) _ = _
    simp only [Act.put, List.setIfInBounds_toArray, List.set_cons_zero, List.set_cons_succ, i64_w, i32_w]
    rfl
   refine one_ (i := 10) (N := some 24) (bb_ 12 2047) rfl rfl (one_of HT_.out (by kernel_rfl)) (by decide) (fun K hK => ?_)
   refine goes_ Tryd.func12 (by kernel_rfl) rfl #[.slice Ao13 x5_1.length co13, .slice Ao14 t402.length co14] (by rfl) rfl rfl aM_ ?_
   with_reducible refine (spec_PolyAdd.calls k1 _ _ x5_1 _ _ t402 t405 _ ?side1 ?side2 ?side3 ?side4 A10.out).mono ?_
   (case side1 => exact cR_ (Kd.R_reads' HO_5.out).2.2)
   (case side2 => exact (Kd.R_reads' HO_5.out).2.1)
   (case side3 => exact cR_ (Kd.R_reads' HO404.out).2.2)
   (case side4 => exact (Kd.R_reads' HO404.out).2.1)
   rintro e w15 ⟨v406, rfl, ho0, hb⟩
   refine ⟨_, rfl, ?_⟩
   have n_ := b_ (Kd.R_elder' (rR_ HO_5.out) (Kd.R_base ho0) hb) <| b_ (Kd.R_elder' (rR_ HO404.out) (Kd.R_base ho0) hb) <| b_ (Kd.R_lower (Kd.R_new' (Kd.R_new' ho0 (Kd.R_lt (rR_ HO_5.out))) (Kd.R_lt (rR_ HO404.out))) (below_size (hB_))) <| c_ (below_step (hB_) hb)
   clear HO_5 HO404 HB
   obtain ⟨HO_5, HO404, HO407, HB⟩ := n_
   refine hK.out _ _ ⟨((HB.out.cell (World.block_lt_of_cell? w _ hw400_0)).trans hw400_0), ((HB.out.cell (World.block_lt_of_cell? w _ hw401_0)).trans hw401_0)⟩ (fun hHeld => ?_)
   clear hK K
   refine norm_ (a' := ?_) ?_ ?_
   rotate_left
   ·show Act.put _ (some 24) _ = _
    simp only [Act.put, List.setIfInBounds_toArray, List.set_cons_zero, List.set_cons_succ, i64_w, i32_w]
    rfl
   refine pS_ 11 5 (bb_ 12 4095) HT_.out ?_
   refine done_ (done_of HT_.out (by kernel_rfl)) ?_
   try go_wp2
   go_roundg k1
   case measure => have := HK1.out; omega
   case rel => exact ⟨(t405), (wrap64 (x6_1 + 1)), f0_, H', ⟨by have := HK1.out; omega⟩, ⟨by refine kR_ ?_; exact Kd.R_mono HO407.out (fun _ hk => trivial)⟩, ⟨hB_⟩⟩

/-! ### bits_RotateLeft32: function 79 -/
def bits_RotateLeft32.f (a0 : Int) (a1 : Int) : Option (Int) := if 0 ≤ (Go.bits .and .u64 (IntKind.u64.wrap (a1)) 31) then (if 0 ≤ (IntKind.u64.wrap (32 - (Go.bits .and .u64 (IntKind.u64.wrap (a1)) 31))) then (some (Go.bits .or .u32 (shl .u32 a0 (Go.bits .and .u64 (IntKind.u64.wrap (a1)) 31)) (shr .u32 a0 (IntKind.u64.wrap (32 - (Go.bits .and .u64 (IntKind.u64.wrap (a1)) 31)))))) else (none)) else (none)
theorem bits_RotateLeft32.calls (a0 : Int) (a1 : Int) (r : Int) (w : World) (h : bits_RotateLeft32.f a0 a1 = some r) :
  Calls Tryd.prog 79 #[.int .u32 a0, .int .i64 a1] w fun e w' => e = .returned (.int .u32 r) ∧ Drawn0 w w' := by
 delta bits_RotateLeft32.f at h
 have H := h
 clear h
 obtain ⟨ji3, hji3⟩ : ∃ j_ : Int, (Go.bits .and .u64 (IntKind.u64.wrap (a1)) 31) = j_ := ⟨_, rfl⟩
 first | rw [hji3] at H | simp only [hji3] at H
 obtain ⟨c4, H⟩ := iN_ H
 have c4b0 := eq_true c4
 have c4b1 := decide_eq_true c4
 clear c4
 obtain ⟨ji5, hji5⟩ : ∃ j_ : Int, (shl .u32 a0 (ji3)) = j_ := ⟨_, rfl⟩
 first | rw [hji5] at H | simp only [hji5] at H
 have hji5_ : (IntKind.u32.wrap (a0 * 2 ^ min (ji3).toNat 32)) = ji5 := hji5
 have hji5z : (ji3) ≤ 32 → (IntKind.u32.wrap (a0 * 2 ^ (ji3).toNat)) = ji5 := shl_small hji5
 have hji5k : ((a0 * 2 ^ min (ji3).toNat 32) % 4294967296) = ji5 := (IntKind.wrap_u32 _).symm.trans hji5_
 have hji5n : (ji3) ≤ 32 → ((a0 * 2 ^ (ji3).toNat) % 4294967296) = ji5 := fun h_ => (IntKind.wrap_u32 _).symm.trans (hji5z h_)
 obtain ⟨ji6, hji6⟩ : ∃ j_ : Int, (IntKind.u64.wrap (32 - (ji3))) = j_ := ⟨_, rfl⟩
 first | rw [hji6] at H | simp only [hji6] at H
 obtain ⟨c7, H⟩ := iN_ H
 have c7b0 := eq_true c7
 have c7b1 := decide_eq_true c7
 clear c7
 obtain ⟨ji8, hji8⟩ : ∃ j_ : Int, (shr .u32 a0 (ji6)) = j_ := ⟨_, rfl⟩
 first | rw [hji8] at H | simp only [hji8] at H
 have hji8_ : (a0 / 2 ^ min (ji6).toNat 32) = ji8 := hji8
 have hji8z : (ji6) ≤ 32 → (a0 / 2 ^ (ji6).toNat) = ji8 := shr_small hji8
 obtain rfl := Option.some.inj H
 go_enter Tryd.func79, Tryd.ntmps79
 go_wp2
 go_ret
 exact ⟨by first | rfl | (simp; done) | (simp only [← hji3, ← hji5, ← hji6, ← hji8] <;> (first | rfl | simp)) | (simp [*]; done), d0_⟩

/-! ### impl_right: function 72 -/
def impl_right.f (a0 : Int) (a1 : Int) : Option (Int) := (bits_RotateLeft32.f a0 (wrap64 (-a1))).bind fun t447 => (some t447)
theorem impl_right.calls (a0 : Int) (a1 : Int) (r : Int) (w : World) (h : impl_right.f a0 a1 = some r) :
  Calls Tryd.prog 72 #[.int .u32 a0, .int .i64 a1] w fun e w' => e = .returned (.int .u32 r) ∧ Drawn0 w w' := by
 delta impl_right.f at h
 have H := h
 clear h
 obtain ⟨t447, A3, H⟩ := bN_ H
 obtain rfl := Option.some.inj H
 go_enter Tryd.func72, Tryd.ntmps72
 go_wp2_with (first | ((with_reducible refine gate_callee (f := 79) rfl ?_); refine goesL_ (some 8) rfl rfl Tryd.func79 (by kernel_rfl) rfl #[.int .u32 a0, .int .i64 (wrap64 (-a1))] rfl aM_ ?_; (with_reducible refine (bits_RotateLeft32.calls a0 (wrap64 (-a1)) t447 _ A3.out).mono ?_); rintro e w' ⟨rfl, ⟨nd, rfl⟩⟩; refine ⟨_, rfl, ?_⟩))
 go_ret
 exact ⟨f0_, d0_⟩

-- NOT PRINTED: function 71 (impl_wordsOf)

-- NOT PRINTED: function 54 (impl_oneBlock)

-- NOT PRINTED: function 32 (impl_blocks)

-- NOT PRINTED: function 33 (impl_firstState)

/-! ### impl_zeros: function 55 -/
def impl_zeros.f (a0 : Int) : Option (ByteArray) := if 0 ≤ a0 then (if (a0 : Int).toNat ≤ 281474976710656 then (some (strOfNums (List.replicate (a0 : Int).toNat 0))) else (none)) else (none)
theorem impl_zeros.calls (a0 : Int) (r : ByteArray) (w : World) (h : impl_zeros.f a0 = some r) :
  Calls Tryd.prog 55 #[.int .i64 a0] w fun e w' => e = .returned (.string r) ∧ Below w.heap.size w w' := by
 have HB := Aside0.mk (Below.refl w.heap.size w)
 delta impl_zeros.f at h
 have H := h
 clear h
 obtain ⟨c2, H⟩ := iN_ H
 have c2b0 := eq_true c2
 have c2b1 := decide_eq_true c2
 clear c2
 obtain ⟨c3, H⟩ := iN_ H
 have c3b0 := eq_true c3
 have c3b1 := decide_eq_true c3
 clear c3
 obtain ⟨y448, hy448⟩ : ∃ y_ : List Int, y_ = (List.replicate (a0 : Int).toNat 0) := ⟨_, rfl⟩
 first | replace H := yb_ hy448 H | rw [← hy448] at H
 have Ny448 := Aside0.mk hy448
 clear hy448
 obtain rfl := Option.some.inj H
 go_enter Tryd.func55, Tryd.ntmps55
 go_wp2_with (first | ((with_reducible refine gate_dst (N := 4) rfl ?_); refine Kd.R_make (Kd.int .u8) _ 5 rfl (N := 4) rfl 62 _ _ rfl a0 rfl rfl Tryd.underlying62 (.int .u8 0) 1 info5 rfl (by decide) (by omega) 0 (ok := fun _ => True) (okp := fun _ => True) rfl (fun _ hk => hk) trivial oD_ (Nat.le_trans (Nat.mul_le_mul_right _ (oD_ : a0.toNat ≤ 281474976710656)) (by omega)) (Below.refl _ _) (Nat.le_refl _) ?_; intro v449 w4 ho5 hb hg_ hnew_; clear hg_ hnew_; (first | rw [← Ny448.out] at ho5 | (simp only [Int.reduceToNat] at ho5; rw [← Ny448.out] at ho5)); have n_ := b_ (Kd.R_lower ho5 (below_size (hB_))) <| c_ (below_step (hB_) hb); clear HB; obtain ⟨HO450, HB⟩ := n_; clear hb ho5; have hcv6 := own_string (P := Tryd.prog) Tryd.underlying62 Tryd.underlying5 Tryd.underlying9 (Kd.own_of_R HO450.out)))
 go_ret
 exact ⟨f1_, hB_⟩

/-! ### impl_fourBytes: function 57 -/
def impl_fourBytes.f (a0 : Int) : Option (ByteArray) := some (strOfNums (([(a0 / 16777216) % 256, (a0 / 65536) % 256, (a0 / 256) % 256, (a0) % 256] : List Int)))
theorem impl_fourBytes.calls (a0 : Int) (r : ByteArray) (w : World) (h : impl_fourBytes.f a0 = some r) :
  Calls Tryd.prog 57 #[.int .u32 a0] w fun e w' => e = .returned (.string r) ∧ Below w.heap.size w w' := by
 have HB := Aside0.mk (Below.refl w.heap.size w)
 delta impl_fourBytes.f at h
 have H := h
 clear h
 obtain ⟨y451, hy451⟩ : ∃ y_ : List Int, y_ = (([(a0 / 16777216) % 256, (a0 / 65536) % 256, (a0 / 256) % 256, (a0) % 256] : List Int)) := ⟨_, rfl⟩
 first | replace H := yb_ hy451 H | rw [← hy451] at H
 have Ny451 := Aside0.mk hy451
 clear hy451
 obtain rfl := Option.some.inj H
 go_enter Tryd.func57, Tryd.ntmps57
 go_wp2_with (first | ((with_reducible refine gate_dst (N := 14) rfl ?_); refine Kd.R_lit (Kd.int .u8) _ 5 ?hg (N := 14) ?hd (xs := ([(a0 / 16777216) % 256, (a0 / 65536) % 256, (a0 / 256) % 256, (a0) % 256] : List Int)) (inner := [.int .u8 ((a0 / 16777216) % 256), .int .u8 ((a0 / 65536) % 256), .int .u8 ((a0 / 256) % 256), .int .u8 ((a0) % 256)]) (ok := fun _ => True) (okp := fun _ => True) ?hr ?hp (fun _ hk => hk) trivial (Below.refl _ _) (Nat.le_refl _) (by simp) ?_; (case hd => rfl); (case hg => rfl); (case hr => first | (go_simp; done) | (go_simp; rfl)); (case hp => exact (Reps.one (show Kd.M (Kd.int .u8) _ _ _ ((a0 / 16777216) % 256) [.int .u8 ((a0 / 16777216) % 256)] from rfl) (Reps.one (show Kd.M (Kd.int .u8) _ _ _ ((a0 / 65536) % 256) [.int .u8 ((a0 / 65536) % 256)] from rfl) (Reps.one (show Kd.M (Kd.int .u8) _ _ _ ((a0 / 256) % 256) [.int .u8 ((a0 / 256) % 256)] from rfl) (Reps.one (show Kd.M (Kd.int .u8) _ _ _ ((a0) % 256) [.int .u8 ((a0) % 256)] from rfl) (Reps.none _ _)))))); intro v452 w2 ho3 hb hg_ hnew_; clear hg_ hnew_; (first | rw [← Ny451.out] at ho3 | (simp only [Int.reduceToNat] at ho3; rw [← Ny451.out] at ho3)); have n_ := b_ (Kd.R_lower ho3 (below_size (hB_))) <| c_ (below_step (hB_) hb); clear HB; obtain ⟨HO453, HB⟩ := n_; clear hb ho3; have hcv4 := own_string (P := Tryd.prog) Tryd.underlying62 Tryd.underlying5 Tryd.underlying9 (Kd.own_of_R HO453.out)))
 go_ret
 exact ⟨f1_, hB_⟩

/-! ### impl_eightBytes: function 56 -/
def impl_eightBytes.f (a0 : Int) : Option (ByteArray) := (impl_fourBytes.f ((a0 / 4294967296) % 4294967296)).bind fun t454 => ((impl_fourBytes.f ((a0) % 4294967296)).bind fun t455 => (if t454.size + t455.size ≤ 9223372036854775807 then (some (t454 ++ t455)) else (none)))
theorem impl_eightBytes.calls (a0 : Int) (r : ByteArray) (w : World) (h : impl_eightBytes.f a0 = some r) :
  Calls Tryd.prog 56 #[.int .i64 a0] w fun e w' => e = .returned (.string r) ∧ Below w.heap.size w w' := by
 have HB := Aside0.mk (Below.refl w.heap.size w)
 delta impl_eightBytes.f at h
 have H := h
 clear h
 obtain ⟨t454, A2, H⟩ := bN_ H
 obtain ⟨t455, A3, H⟩ := bN_ H
 obtain ⟨c4, H⟩ := iN_ H
 have c4b0 := eq_true c4
 have c4b1 := decide_eq_true c4
 try have c4b2 : (9223372036854775807 < t454.size + t455.size) = False := eq_false (Nat.not_lt.2 c4)
 obtain rfl := Option.some.inj H
 go_enter Tryd.func56, Tryd.ntmps56
 go_wp2_with (first | ((with_reducible refine gate_callee (f := 57) rfl ?_); refine goesL_ (some 6) rfl rfl Tryd.func57 (by kernel_rfl) rfl #[.int .u32 ((a0 / 4294967296) % 4294967296)] rfl aM_ ?_; (with_reducible refine (impl_fourBytes.calls ((a0 / 4294967296) % 4294967296) t454 _ A2.out).mono ?_); rintro e w5 ⟨rfl, hb⟩; refine ⟨_, rfl, ?_⟩; replace HB := Aside0.mk (below_step (hB_) hb); (try clear hb)) | ((with_reducible refine gate_callee (f := 57) rfl ?_); refine goesL_ (some 9) rfl rfl Tryd.func57 (by kernel_rfl) rfl #[.int .u32 ((a0) % 4294967296)] rfl aM_ ?_; (with_reducible refine (impl_fourBytes.calls ((a0) % 4294967296) t455 _ A3.out).mono ?_); rintro e w6 ⟨rfl, hb⟩; refine ⟨_, rfl, ?_⟩; replace HB := Aside0.mk (below_step (hB_) hb); (try clear hb)))
 go_ret
 exact ⟨f1_, hB_⟩

/-! ### impl_ending: function 34 -/
def impl_ending.f (a0 : Int) : Option (ByteArray) := (impl_zeros.f (Int.tmod (wrap64 (119 - (Int.tmod a0 64))) 64)).bind fun t456 => (if 1 + t456.size ≤ 9223372036854775807 then ((impl_eightBytes.f (wrap64 (8 * a0))).bind fun t457 => (if ((⟨#[128]⟩ : ByteArray) ++ t456).size + t457.size ≤ 9223372036854775807 then (some (((⟨#[128]⟩ : ByteArray) ++ t456) ++ t457)) else (none))) else (none))
theorem impl_ending.calls (a0 : Int) (r : ByteArray) (w : World) (h : impl_ending.f a0 = some r) :
  Calls Tryd.prog 34 #[.int .i64 a0] w fun e w' => e = .returned (.string r) ∧ Below w.heap.size w w' := by
 have HB := Aside0.mk (Below.refl w.heap.size w)
 delta impl_ending.f at h
 have H := h
 clear h
 obtain ⟨t456, A2, H⟩ := bN_ H
 obtain ⟨c3, H⟩ := iN_ H
 have c3b0 := eq_true c3
 have c3b1 := decide_eq_true c3
 try have c3b2 : (9223372036854775807 < 1 + t456.size) = False := eq_false (Nat.not_lt.2 c3)
 obtain ⟨t457, A4, H⟩ := bN_ H
 obtain ⟨c5, H⟩ := iN_ H
 have c5b0 := eq_true c5
 have c5b1 := decide_eq_true c5
 try have c5b2 : (9223372036854775807 < ((⟨#[128]⟩ : ByteArray) ++ t456).size + t457.size) = False := eq_false (Nat.not_lt.2 c5)
 try have c5b9 : (9223372036854775807 < 1 + t456.size + t457.size) = False := (show ((⟨#[128]⟩ : ByteArray) ++ t456).size = 1 + t456.size from (by rw [ByteArray.size_append]; rfl)) ▸ c5b2
 obtain rfl := Option.some.inj H
 go_enter Tryd.func34, Tryd.ntmps34
 go_wp2_with (first | ((with_reducible refine gate_callee (f := 55) rfl ?_); refine goesL_ (some 7) rfl rfl Tryd.func55 (by kernel_rfl) rfl #[.int .i64 (Int.tmod (wrap64 (119 - (Int.tmod a0 64))) 64)] rfl aM_ ?_; (with_reducible refine (impl_zeros.calls (Int.tmod (wrap64 (119 - (Int.tmod a0 64))) 64) t456 _ A2.out).mono ?_); rintro e w6 ⟨rfl, hb⟩; refine ⟨_, rfl, ?_⟩; replace HB := Aside0.mk (below_step (hB_) hb); (try clear hb)) | ((with_reducible refine gate_callee (f := 56) rfl ?_); refine goesL_ (some 11) rfl rfl Tryd.func56 (by kernel_rfl) rfl #[.int .i64 (wrap64 (8 * a0))] rfl aM_ ?_; (with_reducible refine (impl_eightBytes.calls (wrap64 (8 * a0)) t457 _ A4.out).mono ?_); rintro e w7 ⟨rfl, hb⟩; refine ⟨_, rfl, ?_⟩; replace HB := Aside0.mk (below_step (hB_) hb); (try clear hb)))
 go_ret
 exact ⟨f1_, hB_⟩

-- NOT PRINTED: function 35 (impl_stateText)

-- GIVEN: function 14 (impl_DigestOf)

/-! ### impl_in: function 64 -/
def impl_in.f (a0 : Int) (a1 : Int) (a2 : Int) : Option (Bool) := if a0 ≥ a1 then (some (decide (a0 ≤ a2))) else (some false)
theorem impl_in.calls (a0 : Int) (a1 : Int) (a2 : Int) (r : Bool) (w : World) (h : impl_in.f a0 a1 a2 = some r) :
  Calls Tryd.prog 64 #[.int .i64 a0, .int .i64 a1, .int .i64 a2] w fun e w' => e = .returned (.bool r) ∧ Drawn0 w w' := by
 delta impl_in.f at h
 have H := h
 clear h
 by_cases c4 : a0 ≥ a1
 ·rw [if_pos c4] at H
  have c4b0 := decide_eq_true c4
  clear c4
  obtain rfl := Option.some.inj H
  go_enter Tryd.func64, Tryd.ntmps64
  go_wp2
  go_ret
  exact ⟨f0_, d0_⟩
 rw [if_neg c4] at H
 have c4b0 := decide_eq_false c4
 clear c4
 obtain rfl := Option.some.inj H
 go_enter Tryd.func64, Tryd.ntmps64
 go_wp2
 go_ret
 exact ⟨f0_, d0_⟩

/-! ### impl_PolyOk: function 38 -/
def impl_PolyOk.l0 : Nat → List Int → List Int → Int → Int → Option (Bool)
 | 0, _, _, _, _ => none
 | k + 1, x0, x5, x6, x7 => if x7 < x6 then (if 0 ≤ x7 then (if x7 < (x5.length : Int) then ((impl_in.f (rd x5 x7) 0 3328).bind fun t459 => (if t459 = true then (impl_PolyOk.l0 k x0 x5 x6 (wrap64 (x7 + 1))) else (some false))) else (none)) else (none)) else (some ((x0.length : Int) == 256))
def impl_PolyOk.f (k : Nat) (l0 : List Int) : Option (Bool) := impl_PolyOk.l0 k l0 l0 (l0.length : Int) 0
theorem impl_PolyOk.mono_l : ∀ k, (∀ y0 y1 y2 y3, LeO (impl_PolyOk.l0 k y0 y1 y2 y3) (impl_PolyOk.l0 (k + 1) y0 y1 y2 y3))
 | 0 => fun _ _ _ _ r h => by simp [impl_PolyOk.l0] at h
 | k + 1 => by
  have ih0 := impl_PolyOk.mono_l k
  intros; unfold impl_PolyOk.l0; exact o1_ ih0
theorem impl_PolyOk.mono : ∀ a0 k, LeO (impl_PolyOk.f k a0) (impl_PolyOk.f (k + 1) a0) := by
 intro a0 k
 have ih0 := impl_PolyOk.mono_l k
 unfold impl_PolyOk.f
 exact o1_ ih0
theorem impl_PolyOk.calls (k : Nat) (A0 : Option Addr) (c0 : Nat) (l0 : List Int) (r : Bool) (w : World) (hr0 : Kd.C (Kd.int .i64) w A0 l0.length l0) (hc0 : l0.length ≤ c0) (h : impl_PolyOk.f k l0 = some r) :
  Calls Tryd.prog 38 #[.slice A0 l0.length c0] w fun e w' => e = .returned (.bool r) ∧ Drawn0 w w' := by
 have HR0 := Aside0.mk hr0
 have HC0 := Aside0.mk hc0
 clear hr0 hc0
 delta impl_PolyOk.f at h
 have H := h
 clear h
 have H' := Aside0.mk H
 clear H
 go_enter Tryd.func38, Tryd.ntmps38
 go_wp2
 go_loopg [7] k (fun kq v7 w' => ∃ (x7_1 : Int), v7 = .int .i64 x7_1 ∧ Aside0 (impl_PolyOk.l0 kq l0 l0 (l0.length : Int) x7_1 = some r) ∧ Aside0 (kq ≤ k) ∧ Drawn0 w w')
 case atStart => exact ⟨(0), f0_, H', ⟨Nat.le_refl _⟩, d0_⟩
 case round =>
  clear H'
  obtain ⟨x7_1, rfl, HA, HK1, ⟨m1, rfl⟩⟩ := hrel
  cases gk with
  | zero => exact absurd HA.out (by simp [impl_PolyOk.l0])
  | succ k1 =>
   have H := HA.out
   clear HA
   simp only [impl_PolyOk.l0] at H
   by_cases c2 : x7_1 < (l0.length : Int)
   rotate_left
   ·rw [if_neg c2] at H
    have c2b0 := decide_eq_false c2
    clear c2
    obtain rfl := Option.some.inj H
    go_wp2
    go_ret
    exact ⟨f0_, d0_⟩
   rw [if_pos c2] at H
   have c2b0 := decide_eq_true c2
   clear c2
   obtain ⟨c3b0, H⟩ := iD_ H
   obtain ⟨c4b0, H⟩ := iD_ H
   obtain ⟨t459, A5, H⟩ := bN_ H
   by_cases c6 : t459 = true
   ·subst c6
    replace H := iT_ H
    have H' := Aside0.mk H
    clear H
    have p458 : 0 ≤ (x7_1 : Int) := oD_
    have q458 : x7_1 < (l0.length : Int) := oD_
    obtain ⟨ad458, e458, hx458_0⟩ := Kd.at_int HR0.out x7_1 p458 q458
    cases e458
    replace p458 := eq_true p458
    replace q458 := eq_true q458
    go_wp2_with (first | ((with_reducible refine gate_callee (f := 64) rfl ?_); refine goesL_ (some 12) rfl rfl Tryd.func64 (by kernel_rfl) rfl #[.int .i64 (rd l0 x7_1), .int .i64 0, .int .i64 3328] rfl aM_ ?_; (with_reducible refine (impl_in.calls (rd l0 x7_1) 0 3328 true _ A5.out).mono ?_); rintro e w' ⟨rfl, ⟨nd, rfl⟩⟩; refine ⟨_, rfl, ?_⟩))
    go_roundg k1
    case measure => have := HK1.out; omega
    case rel => exact ⟨(wrap64 (x7_1 + 1)), f0_, H', ⟨by have := HK1.out; omega⟩, d0_⟩
   ·replace c6 := Bool.eq_false_iff.mpr c6
    subst c6
    replace H := iF_ H
    obtain rfl := Option.some.inj H
    have p458 : 0 ≤ (x7_1 : Int) := oD_
    have q458 : x7_1 < (l0.length : Int) := oD_
    obtain ⟨ad458, e458, hx458_0⟩ := Kd.at_int HR0.out x7_1 p458 q458
    cases e458
    replace p458 := eq_true p458
    replace q458 := eq_true q458
    go_wp2_with (first | ((with_reducible refine gate_callee (f := 64) rfl ?_); refine goesL_ (some 12) rfl rfl Tryd.func64 (by kernel_rfl) rfl #[.int .i64 (rd l0 x7_1), .int .i64 0, .int .i64 3328] rfl aM_ ?_; (with_reducible refine (impl_in.calls (rd l0 x7_1) 0 3328 false _ A5.out).mono ?_); rintro e w' ⟨rfl, ⟨nd, rfl⟩⟩; refine ⟨_, rfl, ?_⟩))
    go_ret
    exact ⟨f0_, d0_⟩

/-! ### impl_copyInts: function 58 -/
def impl_copyInts.f (l0 : List Int) : Option (List Int) := if ([] : List Int).length + l0.length < 17592186044416 then (some (([] : List Int) ++ l0)) else (none)
theorem impl_copyInts.calls (A0 : Option Addr) (c0 : Nat) (l0 : List Int) (r : List Int) (w : World) (hr0 : Kd.C (Kd.int .i64) w A0 l0.length l0) (hc0 : l0.length ≤ c0) (h : impl_copyInts.f l0 = some r) :
  Calls Tryd.prog 58 #[.slice A0 l0.length c0] w fun e w' => ∃ v0_ : Value, e = .returned (v0_) ∧ Kd.R (Kd.int .i64) 3 w' w.heap.size (fun _ => True) v0_ r ∧ Below w.heap.size w w' := by
 have HR0 := Aside0.mk hr0
 have HC0 := Aside0.mk hc0
 clear hr0 hc0
 have HB := Aside0.mk (Below.refl w.heap.size w)
 delta impl_copyInts.f at h
 have H := h
 clear h
 obtain ⟨c2, H⟩ := iN_ H
 have LMc2 := Aside0.mk c2
 clear c2
 obtain ⟨y460, hy460⟩ : ∃ y_ : List Int, y_ = (([] : List Int) ++ l0) := ⟨_, rfl⟩
 first | replace H := yb_ hy460 H | rw [← hy460] at H
 have Ny460 := Aside0.mk hy460
 clear hy460
 obtain rfl := Option.some.inj H
 go_enter Tryd.func58, Tryd.ntmps58
 go_wp2_with (first | ((with_reducible refine gate_builtin (b := .append) (xs := #[.const (.slice none 0 0), .tmp 3]) rfl ?_); at_builtin; refine Kd.R_append_rows (Kd.int .i64) (w0 := w) w.heap.size rfl (.const (.slice none 0 0)) (.tmp 3) 31 3 (.int .i64 0) 8 rfl Tryd.underlying31 info3 rfl (by decide) (by omega) (.slice none 0 0) ([] : List Int) l0 _ _ _ (fun _ => True) (fun _ => False) rfl rfl ?aO ?aR (fun _ _ h => h) (fun _ h => h.elim) ?aF ?aB ?aS ?aL ?_; (case aR => exact cR_ HR0.out); (case aB => exact (hB_)); (case aF => exact (fun _ _ => trivial)); (case aO => exact ((Kd.R_nil _ _ _ _ (fun _ => True)))); (case aS => exact (below_size (hB_))); (case aL => have := LMc2.out; omega); intro v461 w3 ho hb hg hat; rw [← Ny460.out] at ho; have n_ := b_ (hb) <| c_ (ho); clear HB; obtain ⟨HB, HO462⟩ := n_; clear ho hb hg hat))
 go_ret
 exact ⟨_, f1_, rR_ HO462.out, hB_⟩

/-! ### impl_modQ: function 61 -/
def impl_modQ.f (a0 : Int) : Option (Int) := some (Int.tmod (wrap64 ((Int.tmod a0 3329) + 3329)) 3329)
theorem impl_modQ.calls (a0 : Int) (r : Int) (w : World) (h : impl_modQ.f a0 = some r) :
  Calls Tryd.prog 61 #[.int .i64 a0] w fun e w' => e = .returned (.int .i64 r) ∧ Drawn0 w w' := by
 delta impl_modQ.f at h
 have H := h
 clear h
 obtain rfl := Option.some.inj H
 go_enter Tryd.func61, Tryd.ntmps61
 go_wp2
 go_ret
 exact ⟨f0_, d0_⟩

/-! ### impl_PowQ: function 59 -/
def impl_PowQ.l0 : Nat → Int → Int → Int → Option (Int)
 | 0, _, _, _ => none
 | k + 1, x0, x1, x5 => if x1 > 0 then (if (Int.tmod x1 2) = 1 then (impl_PowQ.l0 k (Int.tmod (wrap64 (x0 * x0)) 3329) (wrap64 (Int.tdiv x1 2)) (Int.tmod (wrap64 (x5 * x0)) 3329)) else (impl_PowQ.l0 k (Int.tmod (wrap64 (x0 * x0)) 3329) (wrap64 (Int.tdiv x1 2)) x5)) else (some x5)
def impl_PowQ.f (k : Nat) (a0 : Int) (a1 : Int) : Option (Int) := (impl_in.f a1 0 1000000000).bind fun t463 => (if t463 = true then ((impl_modQ.f a0).bind fun t464 => (impl_PowQ.l0 k t464 a1 1)) else (some 0))
theorem impl_PowQ.mono_l : ∀ k, (∀ y0 y1 y2, LeO (impl_PowQ.l0 k y0 y1 y2) (impl_PowQ.l0 (k + 1) y0 y1 y2))
 | 0 => fun _ _ _ r h => by simp [impl_PowQ.l0] at h
 | k + 1 => by
  have ih0 := impl_PowQ.mono_l k
  intros; unfold impl_PowQ.l0; exact o1_ ih0
theorem impl_PowQ.mono : ∀ a0 a1 k, LeO (impl_PowQ.f k a0 a1) (impl_PowQ.f (k + 1) a0 a1) := by
 intro a0 a1 k
 have ih0 := impl_PowQ.mono_l k
 unfold impl_PowQ.f
 exact o1_ ih0
theorem impl_PowQ.calls (k : Nat) (a0 : Int) (a1 : Int) (r : Int) (w : World) (h : impl_PowQ.f k a0 a1 = some r) :
  Calls Tryd.prog 59 #[.int .i64 a0, .int .i64 a1] w fun e w' => e = .returned (.int .i64 r) ∧ Drawn0 w w' := by
 delta impl_PowQ.f at h
 have H := h
 clear h
 obtain ⟨t463, A3, H⟩ := bN_ H
 by_cases c4 : t463 = true
 ·subst c4
  replace H := iT_ H
  obtain ⟨t464, A5, H⟩ := bN_ H
  have H' := Aside0.mk H
  clear H
  go_enter Tryd.func59, Tryd.ntmps59
  go_wp2_with (first | ((with_reducible refine gate_callee (f := 64) rfl ?_); refine goesL_ (some 7) rfl rfl Tryd.func64 (by kernel_rfl) rfl #[.int .i64 a1, .int .i64 0, .int .i64 1000000000] rfl aM_ ?_; (with_reducible refine (impl_in.calls a1 0 1000000000 true _ A3.out).mono ?_); rintro e w' ⟨rfl, ⟨nd, rfl⟩⟩; refine ⟨_, rfl, ?_⟩) | ((with_reducible refine gate_callee (f := 61) rfl ?_); refine goesL_ (some 10) rfl rfl Tryd.func61 (by kernel_rfl) rfl #[.int .i64 a0] rfl aM_ ?_; (with_reducible refine (impl_modQ.calls a0 t464 _ A5.out).mono ?_); rintro e w' ⟨rfl, ⟨nd, rfl⟩⟩; refine ⟨_, rfl, ?_⟩))
  go_loopg [0, 1, 5] k (fun kq v0 v1 v5 w' => ∃ (x0_1 : Int) (x1_1 : Int) (x5_1 : Int), v0 = .int .i64 x0_1 ∧ v1 = .int .i64 x1_1 ∧ v5 = .int .i64 x5_1 ∧ Aside0 (impl_PowQ.l0 kq x0_1 x1_1 x5_1 = some r) ∧ Aside0 (kq ≤ k) ∧ Drawn0 w w')
  case atStart => exact ⟨(t464), (a1), (1), f0_, f0_, f0_, H', ⟨Nat.le_refl _⟩, d0_⟩
  case round =>
   clear H'
   obtain ⟨x0_1, x1_1, x5_1, rfl, rfl, rfl, HA, HK1, ⟨m1, rfl⟩⟩ := hrel
   cases gk with
   | zero => exact absurd HA.out (by simp [impl_PowQ.l0])
   | succ k1 =>
    have H := HA.out
    clear HA
    simp only [impl_PowQ.l0] at H
    by_cases c6 : x1_1 > 0
    ·rw [if_pos c6] at H
     have c6b0 := decide_eq_true c6
     clear c6
     by_cases c7 : (Int.tmod x1_1 2) = 1
     ·rw [if_pos c7] at H
      have c7b0 : ((Int.tmod x1_1 2) == 1) = true := beq_iff_eq.mpr c7
      have c7b1 : ((Int.tmod x1_1 2) != 1) = false := bne_eq_false_iff_eq.mpr c7
      clear c7
      have H' := Aside0.mk H
      clear H
      go_wp2
      go_roundg k1
      case measure => have := HK1.out; omega
      case rel => exact ⟨(Int.tmod (wrap64 (x0_1 * x0_1)) 3329), (wrap64 (Int.tdiv x1_1 2)), (Int.tmod (wrap64 (x5_1 * x0_1)) 3329), f0_, f0_, f0_, H', ⟨by have := HK1.out; omega⟩, d0_⟩
     rw [if_neg c7] at H
     have c7b0 : ((Int.tmod x1_1 2) == 1) = false := beq_eq_false_iff_ne.mpr c7
     have c7b1 : ((Int.tmod x1_1 2) != 1) = true := bne_iff_ne.mpr c7
     have H' := Aside0.mk H
     clear H
     go_wp2
     go_roundg k1
     case measure => have := HK1.out; omega
     case rel => exact ⟨(Int.tmod (wrap64 (x0_1 * x0_1)) 3329), (wrap64 (Int.tdiv x1_1 2)), (x5_1), f0_, f0_, f0_, H', ⟨by have := HK1.out; omega⟩, d0_⟩
    rw [if_neg c6] at H
    have c6b0 := decide_eq_false c6
    clear c6
    obtain rfl := Option.some.inj H
    go_wp2
    go_ret
    exact ⟨f0_, d0_⟩
 ·replace c4 := Bool.eq_false_iff.mpr c4
  subst c4
  replace H := iF_ H
  obtain rfl := Option.some.inj H
  go_enter Tryd.func59, Tryd.ntmps59
  go_wp2_with (first | ((with_reducible refine gate_callee (f := 64) rfl ?_); refine goesL_ (some 7) rfl rfl Tryd.func64 (by kernel_rfl) rfl #[.int .i64 a1, .int .i64 0, .int .i64 1000000000] rfl aM_ ?_; (with_reducible refine (impl_in.calls a1 0 1000000000 false _ A3.out).mono ?_); rintro e w' ⟨rfl, ⟨nd, rfl⟩⟩; refine ⟨_, rfl, ?_⟩))
  go_ret
  exact ⟨f0_, d0_⟩

/-! ### impl_Turn7: function 60 -/
def impl_Turn7.l0 : Nat → Int → Int → Int → Option (Int)
 | 0, _, _, _ => none
 | k + 1, x0, x3, x5 => if x5 < 7 then (if 0 ≤ x5 then (impl_Turn7.l0 k x0 (wrap64 ((wrap64 (2 * x3)) + (Go.bits .and .i64 (shr .i64 x0 x5) 1))) (wrap64 (x5 + 1))) else (none)) else (some x3)
def impl_Turn7.f (k : Nat) (a0 : Int) : Option (Int) := impl_Turn7.l0 k a0 0 0
theorem impl_Turn7.mono_l : ∀ k, (∀ y0 y1 y2, LeO (impl_Turn7.l0 k y0 y1 y2) (impl_Turn7.l0 (k + 1) y0 y1 y2))
 | 0 => fun _ _ _ r h => by simp [impl_Turn7.l0] at h
 | k + 1 => by
  have ih0 := impl_Turn7.mono_l k
  intros; unfold impl_Turn7.l0; exact o1_ ih0
theorem impl_Turn7.mono : ∀ a0 k, LeO (impl_Turn7.f k a0) (impl_Turn7.f (k + 1) a0) := by
 intro a0 k
 have ih0 := impl_Turn7.mono_l k
 unfold impl_Turn7.f
 exact o1_ ih0
theorem impl_Turn7.calls (k : Nat) (a0 : Int) (r : Int) (w : World) (h : impl_Turn7.f k a0 = some r) :
  Calls Tryd.prog 60 #[.int .i64 a0] w fun e w' => e = .returned (.int .i64 r) ∧ Drawn0 w w' := by
 delta impl_Turn7.f at h
 have H := h
 clear h
 have H' := Aside0.mk H
 clear H
 go_enter Tryd.func60, Tryd.ntmps60
 go_wp2
 go_loopg [3, 5] k (fun kq v3 v5 w' => ∃ (x3_1 : Int) (x5_1 : Int), v3 = .int .i64 x3_1 ∧ v5 = .int .i64 x5_1 ∧ Aside0 (impl_Turn7.l0 kq a0 x3_1 x5_1 = some r) ∧ Aside0 (kq ≤ k) ∧ Drawn0 w w')
 case atStart => exact ⟨(0), (0), f0_, f0_, H', ⟨Nat.le_refl _⟩, d0_⟩
 case round =>
  clear H'
  obtain ⟨x3_1, x5_1, rfl, rfl, HA, HK1, ⟨m1, rfl⟩⟩ := hrel
  cases gk with
  | zero => exact absurd HA.out (by simp [impl_Turn7.l0])
  | succ k1 =>
   have H := HA.out
   clear HA
   simp only [impl_Turn7.l0] at H
   by_cases c2 : x5_1 < 7
   ·rw [if_pos c2] at H
    have c2b0 := decide_eq_true c2
    clear c2
    obtain ⟨c3, H⟩ := iN_ H
    have c3b0 := eq_true c3
    have c3b1 := decide_eq_true c3
    clear c3
    obtain ⟨ji4, hji4⟩ : ∃ j_ : Int, (shr .i64 a0 x5_1) = j_ := ⟨_, rfl⟩
    first | rw [hji4] at H | simp only [hji4] at H
    have hji4_ : (a0 / 2 ^ min x5_1.toNat 64) = ji4 := hji4
    have hji4z : x5_1 ≤ 64 → (a0 / 2 ^ x5_1.toNat) = ji4 := shr_small hji4
    have H' := Aside0.mk H
    clear H
    go_wp2
    go_roundg k1
    case measure => have := HK1.out; omega
    case rel => exact ⟨(wrap64 ((wrap64 (2 * x3_1)) + (Go.bits .and .i64 (ji4) 1))), (wrap64 (x5_1 + 1)), (by first | rfl | (simp; done) | (simp only [← hji4] <;> (first | rfl | simp)) | (simp [*]; done)), f0_, H', ⟨by have := HK1.out; omega⟩, d0_⟩
   rw [if_neg c2] at H
   have c2b0 := decide_eq_false c2
   clear c2
   obtain rfl := Option.some.inj H
   go_wp2
   go_ret
   exact ⟨f0_, d0_⟩

end Go.Proofs.YthdjmbbkenbeiaaDoor.P
