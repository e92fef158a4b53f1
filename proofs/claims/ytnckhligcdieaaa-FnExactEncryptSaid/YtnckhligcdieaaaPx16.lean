-- printed texts of this session, regrouped
import Derived.Test.YtnckhligcdieaaaMWC
import Derived.Test.YtnckhligcdieaaaMWB
import Derived.Test.YtnckhligcdieaaaMWA
import Derived.Test.YtnckhligcdieaaaMW7
import Derived.Test.YtnckhligcdieaaaMW8
import Derived.Test.YtnckhligcdieaaaMW6
import Derived.Test.YtnckhligcdieaaaHB6
import Derived.Test.YtnckhligcdieaaaPx0
import Derived.Test.YtnckhligcdieaaaPx5
import Derived.Test.YtnckhligcdieaaaPx7
import Derived.Test.YtnckhligcdieaaaPx8
import Derived.Test.YtnckhligcdieaaaPx15
import Derived.Test.YtnckhligcdieaaaPx17
namespace Go.Proofs.Ytnckhligcdieaaa.P
open Go.RowKit Go.Proofs.YtnckhligcdieaaaW.PrintWords Go.Proofs.YtnckhligcdieaaaW.PrintLast Go.Proofs.YtnckhligcdieaaaW.PrintMore
attribute [local go_sem] max2_int min2_int max_two min_two max_three min_three max_four min_four   -- for this text's walks alone
set_option linter.unusedVariables false
set_option linter.unusedSimpArgs false
set_option maxHeartbeats 8000000
set_option maxRecDepth 100000

/-! ### spec_ShakeOf: function 29 -/
def spec_ShakeOf.f (k : Nat) (a0 : ByteArray) (a1 : Int) : Option (ByteArray × Bool) := (spec_l01In.f a1 0 4000).bind fun t788 => (if t788 = true then ((spec_StreamNew.f k a0).bind fun bt789 => ((spec_StreamTake.f k bt789.1 bt789.2 a1).bind fun bt791 => (some (bt791.2.2, true)))) else (some ((⟨#[]⟩ : ByteArray), false)))
theorem spec_ShakeOf.mono : ∀ a0 a1 k, LeO (spec_ShakeOf.f k a0 a1) (spec_ShakeOf.f (k + 1) a0 a1) := by
 intro a0 a1 k
 unfold spec_ShakeOf.f
 exact o2_ spec_StreamNew.mono spec_StreamTake.mono
theorem spec_ShakeOf.calls (k : Nat) (a0 : ByteArray) (a1 : Int) (r1 : ByteArray) (r2 : Bool) (w : World) (h : spec_ShakeOf.f k a0 a1 = some (r1, r2)) :
  Calls Try.prog 29 #[.string a0, .int .i64 a1] w fun e w' => e = .returned (.tuple #[.string r1, .bool r2]) ∧ Below w.heap.size w w' := by
 have hu53 := Try.underlying53
 have HB := Aside0.mk (Below.refl w.heap.size w)
 delta spec_ShakeOf.f at h
 have H := h
 clear h
 obtain ⟨t788, A3, H⟩ := bN_ H
 by_cases c4 : t788 = true
 ·subst c4
  replace H := iT_ H
  obtain ⟨⟨t789, t790⟩, A5, H⟩ := bN_ H
  obtain ⟨⟨t791, t792, t793⟩, A6, H⟩ := bN_ H
  simp only [Option.some.injEq, Prod.mk.injEq] at H
  obtain ⟨rfl, rfl⟩ := H
  go_enter Try.func29, Try.ntmps29
  go_wp2_with (first | ((with_reducible refine gate_callee (f := 70) rfl ?_); refine goesL_ (some 9) rfl rfl Try.func70 (by kernel_rfl) rfl #[.int .i64 a1, .int .i64 0, .int .i64 4000] rfl aM_ ?_; (with_reducible refine (spec_l01In.calls a1 0 4000 true _ A3.out).mono ?_); rintro e w' ⟨rfl, ⟨nd, rfl⟩⟩; refine ⟨_, rfl, ?_⟩) | ((with_reducible refine gate_callee (f := 34) rfl ?_); refine goesL_ (some 13) rfl rfl Try.func34 (by kernel_rfl) rfl #[.string a0] rfl aM_ ?_; (with_reducible refine (spec_StreamNew.calls k a0 t789 t790 _ A5.out).mono ?_); rintro e w7 ⟨rfl, hb⟩; refine ⟨_, rfl, ?_⟩; replace HB := Aside0.mk (below_step (hB_) hb); (try clear hb)) | ((with_reducible refine gate_callee (f := 35) rfl ?_); refine goesL_ (some 15) rfl rfl Try.func35 (by kernel_rfl) rfl #[.agg #[.string t789, .int .i64 t790], .int .i64 a1] rfl aM_ ?_; (with_reducible refine (spec_StreamTake.calls k t789 t790 a1 t791 t792 t793 _ A6.out).mono ?_); rintro e w8 ⟨rfl, hb⟩; refine ⟨_, rfl, ?_⟩; replace HB := Aside0.mk (below_step (hB_) hb); (try clear hb)) | ((with_reducible refine gate_dst (N := 6) rfl ?_); refine box_event ?hg (N := 6) ?hd (cs := #[.string (⟨#[]⟩ : ByteArray), .int .i64 0]) (t := 53) ?hr ?_; (case hd => rfl); (case hg => rfl); (case hr => first | (go_simp; done) | (go_simp; rfl)); intro gb794 hg w9 hbox hb; have n_ := b_ (below_step (hB_) hb) <| b_ (hbox) <| b_ (by rw [hg]; exact (below_size (hB_)) : w.heap.size ≤ gb794) <| c_ (by rw [hg]; exact (below_size (hB_)) : w.heap.size ≤ gb794); clear HB; obtain ⟨HB, BK794, GW794, GE794⟩ := n_; clear hb hbox hg; have hcz10_0 : w9.cell? ⟨gb794, 0, none⟩ = some (.string (⟨#[]⟩ : ByteArray)) := (blk_cell BK794.out 0).trans rfl; have hcz10_1 : w9.cell? ⟨gb794, 1, none⟩ = some (.int .i64 0) := (blk_cell BK794.out 1).trans rfl; have hfz10_0 := blk_frozen BK794.out 0; have hfz10_1 := blk_frozen BK794.out 1))
  go_ret2
  exact ⟨f1_, hS_ GE794.out⟩
 ·replace c4 := Bool.eq_false_iff.mpr c4
  subst c4
  replace H := iF_ H
  simp only [Option.some.injEq, Prod.mk.injEq] at H
  obtain ⟨rfl, rfl⟩ := H
  go_enter Try.func29, Try.ntmps29
  go_wp2_with (first | ((with_reducible refine gate_callee (f := 70) rfl ?_); refine goesL_ (some 9) rfl rfl Try.func70 (by kernel_rfl) rfl #[.int .i64 a1, .int .i64 0, .int .i64 4000] rfl aM_ ?_; (with_reducible refine (spec_l01In.calls a1 0 4000 false _ A3.out).mono ?_); rintro e w' ⟨rfl, ⟨nd, rfl⟩⟩; refine ⟨_, rfl, ?_⟩))
  go_ret2
  exact ⟨f1_, hB_⟩

/-! ### spec_Small: function 8 -/
def spec_Small.l0 : Nat → List Int → ByteArray → Int → Option (List Int)
 | 0, _, _, _ => none
 | k + 1, x5, x6, x8 => if x8 < 256 then (if 0 ≤ (wrap64 (Int.tdiv x8 2)) then (if (wrap64 (Int.tdiv x8 2)) < (x6.size : Int) then (if (Int.tmod x8 2) = 1 then (if x5.length < 17592186044416 then (spec_Small.l0 k (x5 ++ [Int.tmod (wrap64 ((wrap64 ((wrap64 ((wrap64 ((Int.tmod (wrap64 (Int.tdiv (wrap64 (bt x6 (wrap64 (Int.tdiv x8 2)))) 16)) 2) + (Int.tmod (wrap64 (Int.tdiv (wrap64 (Int.tdiv (wrap64 (bt x6 (wrap64 (Int.tdiv x8 2)))) 16)) 2)) 2))) - (Int.tmod (wrap64 (Int.tdiv (wrap64 (Int.tdiv (wrap64 (bt x6 (wrap64 (Int.tdiv x8 2)))) 16)) 4)) 2))) - (Int.tmod (wrap64 (Int.tdiv (wrap64 (Int.tdiv (wrap64 (bt x6 (wrap64 (Int.tdiv x8 2)))) 16)) 8)) 2))) + 3329)) 3329]) x6 (wrap64 (x8 + 1))) else (none)) else (if x5.length < 17592186044416 then (spec_Small.l0 k (x5 ++ [Int.tmod (wrap64 ((wrap64 ((wrap64 ((wrap64 ((Int.tmod (wrap64 (bt x6 (wrap64 (Int.tdiv x8 2)))) 2) + (Int.tmod (wrap64 (Int.tdiv (wrap64 (bt x6 (wrap64 (Int.tdiv x8 2)))) 2)) 2))) - (Int.tmod (wrap64 (Int.tdiv (wrap64 (bt x6 (wrap64 (Int.tdiv x8 2)))) 4)) 2))) - (Int.tmod (wrap64 (Int.tdiv (wrap64 (bt x6 (wrap64 (Int.tdiv x8 2)))) 8)) 2))) + 3329)) 3329]) x6 (wrap64 (x8 + 1))) else (none))) else (none)) else (none)) else (some x5)
def spec_Small.f (k : Nat) (a0 : ByteArray) (a1 : Int) : Option (List Int) := (spec_l06Byte.f a1).bind fun t798 => (if a0.size + t798.size ≤ 9223372036854775807 then ((spec_ShakeOf.f k (a0 ++ t798) 128).bind fun bt799 => (spec_Small.l0 k (([] : List Int)) bt799.1 0)) else (none))
theorem spec_Small.mono_l : ∀ k, (∀ y0 y1 y2, LeO (spec_Small.l0 k y0 y1 y2) (spec_Small.l0 (k + 1) y0 y1 y2))
 | 0 => fun _ _ _ r h => by simp [spec_Small.l0] at h
 | k + 1 => by
  have ih0 := spec_Small.mono_l k
  intros; unfold spec_Small.l0; exact o2_ ih0 spec_ShakeOf.mono
theorem spec_Small.mono : ∀ a0 a1 k, LeO (spec_Small.f k a0 a1) (spec_Small.f (k + 1) a0 a1) := by
 intro a0 a1 k
 have ih0 := spec_Small.mono_l k
 unfold spec_Small.f
 exact o2_ ih0 spec_ShakeOf.mono
theorem spec_Small.calls (k : Nat) (a0 : ByteArray) (a1 : Int) (r : List Int) (w : World) (h : spec_Small.f k a0 a1 = some r) :
  Calls Try.prog 8 #[.string a0, .int .i64 a1] w fun e w' => ∃ v0_ : Value, e = .returned (v0_) ∧ Kd.R (Kd.int .i64) 3 w' w.heap.size (fun _ => True) v0_ r ∧ Below w.heap.size w w' := by
 have HB := Aside0.mk (Below.refl w.heap.size w)
 delta spec_Small.f at h
 have H := h
 clear h
 obtain ⟨y795, hy795⟩ : ∃ y_ : List Int, y_ = (([] : List Int)) := ⟨_, rfl⟩
 first | replace H := yb_ hy795 H | rw [← hy795] at H
 have Ny795 := Aside0.mk hy795
 clear hy795
 obtain ⟨t798, A3, H⟩ := bN_ H
 obtain ⟨c4, H⟩ := iN_ H
 have c4b0 := eq_true c4
 have c4b1 := decide_eq_true c4
 try have c4b2 : (9223372036854775807 < a0.size + t798.size) = False := eq_false (Nat.not_lt.2 c4)
 obtain ⟨⟨t799, t800⟩, A5, H⟩ := bN_ H
 have H' := Aside0.mk H
 clear H
 go_enter Try.func8, Try.ntmps8
 go_wp2_with (first | ((with_reducible refine gate_dst (N := 10) rfl ?_); refine Kd.R_lit (Kd.int .i64) _ 3 ?hg (N := 10) ?hd (xs := ([] : List Int)) (inner := []) (ok := fun _ => True) (okp := fun _ => True) ?hr ?hp (fun _ hk => hk) trivial (Below.refl _ _) (Nat.le_refl _) (by simp) ?_; (case hd => rfl); (case hg => rfl); (case hr => first | (go_simp; done) | (go_simp; rfl)); (case hp => exact (Reps.none _ _)); intro v796 w6 ho7 hb hg_ hnew_; clear hg_ hnew_; (first | rw [← Ny795.out] at ho7 | (simp only [Int.reduceToNat] at ho7; rw [← Ny795.out] at ho7)); have n_ := b_ (Kd.R_lower ho7 (below_size (hB_))) <| c_ (below_step (hB_) hb); clear HB; obtain ⟨HO797, HB⟩ := n_; clear hb ho7) | ((with_reducible refine gate_callee (f := 30) rfl ?_); refine goesL_ (some 14) rfl rfl Try.func30 (by kernel_rfl) rfl #[.int .i64 a1] rfl aM_ ?_; (with_reducible refine (spec_l06Byte.calls a1 t798 _ A3.out).mono ?_); rintro e w8 ⟨rfl, hb⟩; refine ⟨_, rfl, ?_⟩; have n_ := b_ (Kd.R_below (rR_ HO797.out) hb) <| c_ (below_step (hB_) hb); clear HO797 HB; obtain ⟨HO797, HB⟩ := n_; (try clear hb)) | ((with_reducible refine gate_callee (f := 29) rfl ?_); refine goesL_ (some 16) rfl rfl Try.func29 (by kernel_rfl) rfl #[.string (a0 ++ t798), .int .i64 128] rfl aM_ ?_; (with_reducible refine (spec_ShakeOf.calls k (a0 ++ t798) 128 t799 t800 _ A5.out).mono ?_); rintro e w9 ⟨rfl, hb⟩; refine ⟨_, rfl, ?_⟩; have n_ := b_ (Kd.R_below (rR_ HO797.out) hb) <| c_ (below_step (hB_) hb); clear HO797 HB; obtain ⟨HO797, HB⟩ := n_; (try clear hb)))
 go_loopg [5, 8] k (fun kq v5 v8 w' => ∃ (x5_1 : List Int) (x8_1 : Int), v8 = .int .i64 x8_1 ∧ Aside0 (spec_Small.l0 kq x5_1 t799 x8_1 = some r) ∧ Aside0 (kq ≤ k) ∧ Aside0 (Kd.R (Kd.int .i64) 3 w' w.heap.size (fun _ => True) v5 x5_1) ∧ Aside0 (Below w.heap.size w w'))
 case atStart => exact ⟨(y795), (0), f0_, H', ⟨Nat.le_refl _⟩, ⟨rR_ HO797.out⟩, ⟨hB_⟩⟩
 case round =>
  clear H'
  obtain ⟨x5_1, x8_1, rfl, HA, HK1, HO_5, HB⟩ := hrel
  cases gk with
  | zero => exact absurd HA.out (by simp [spec_Small.l0])
  | succ k1 =>
   have H := HA.out
   clear HA
   simp only [spec_Small.l0] at H
   by_cases c10 : x8_1 < 256
   rotate_left
   ·rw [if_neg c10] at H
    have c10b0 := decide_eq_false c10
    clear c10
    obtain rfl := Option.some.inj H
    go_wp2
    go_ret
    exact ⟨_, f1_, rR_ HO_5.out, hB_⟩
   rw [if_pos c10] at H
   have c10b0 := decide_eq_true c10
   clear c10
   obtain ⟨ji11, hji11⟩ : ∃ j_ : Int, (wrap64 (Int.tdiv x8_1 2)) = j_ := ⟨_, rfl⟩
   first | rw [hji11] at H | simp only [hji11] at H
   have hji11w : (IntKind.i64.wrap (Int.tdiv x8_1 2)) = ji11 := (i64_w _).trans hji11
   obtain ⟨c12b0, H⟩ := iD_ H
   obtain ⟨c13b0, H⟩ := iD_ H
   by_cases c15 : (Int.tmod x8_1 2) = 1
   ·rw [if_pos c15] at H
    have c15b0 : ((Int.tmod x8_1 2) == 1) = true := beq_iff_eq.mpr c15
    have c15b1 : ((Int.tmod x8_1 2) != 1) = false := bne_eq_false_iff_eq.mpr c15
    clear c15
    obtain ⟨c16, H⟩ := iN_ H
    have LMc16 := Aside0.mk c16
    clear c16
    obtain ⟨y801, hy801⟩ : ∃ y_ : List Int, y_ = (x5_1 ++ [Int.tmod (wrap64 ((wrap64 ((wrap64 ((wrap64 ((Int.tmod (wrap64 (Int.tdiv (wrap64 (bt t799 (ji11))) 16)) 2) + (Int.tmod (wrap64 (Int.tdiv (wrap64 (Int.tdiv (wrap64 (bt t799 (ji11))) 16)) 2)) 2))) - (Int.tmod (wrap64 (Int.tdiv (wrap64 (Int.tdiv (wrap64 (bt t799 (ji11))) 16)) 4)) 2))) - (Int.tmod (wrap64 (Int.tdiv (wrap64 (Int.tdiv (wrap64 (bt t799 (ji11))) 16)) 8)) 2))) + 3329)) 3329]) := ⟨_, rfl⟩
    first | replace H := yb_ hy801 H | rw [← hy801] at H
    have Ny801 := Aside0.mk hy801
    clear hy801
    have H' := Aside0.mk H
    clear H
    have p14 := eq_true (oD_ : 0 ≤ ((ji11) : Int))
    have q14 := eq_true (oD_ : (ji11) < (t799.size : Int))
    have hx14 := bt_at t799 (ji11)
    go_wp2_with (first | ((with_reducible refine gate_builtin (b := .append) (xs := #[.tmp 33, .tmp 50]) rfl ?_); at_builtin; refine Kd.R_append (Kd.int .i64) (w0 := w) w.heap.size rfl (.tmp 33) (.tmp 50) 22 3 (.int .i64 0) 8 rfl Try.underlying22 info3 rfl (by decide) (by omega) u5 x5_1 (Int.tmod (wrap64 ((wrap64 ((wrap64 ((wrap64 ((Int.tmod (wrap64 (Int.tdiv (wrap64 (bt t799 (ji11))) 16)) 2) + (Int.tmod (wrap64 (Int.tdiv (wrap64 (Int.tdiv (wrap64 (bt t799 (ji11))) 16)) 2)) 2))) - (Int.tmod (wrap64 (Int.tdiv (wrap64 (Int.tdiv (wrap64 (bt t799 (ji11))) 16)) 4)) 2))) - (Int.tmod (wrap64 (Int.tdiv (wrap64 (Int.tdiv (wrap64 (bt t799 (ji11))) 16)) 8)) 2))) + 3329)) 3329) [.int .i64 (Int.tmod (wrap64 ((wrap64 ((wrap64 ((wrap64 ((Int.tmod (wrap64 (Int.tdiv (wrap64 (bt t799 (ji11))) 16)) 2) + (Int.tmod (wrap64 (Int.tdiv (wrap64 (Int.tdiv (wrap64 (bt t799 (ji11))) 16)) 2)) 2))) - (Int.tmod (wrap64 (Int.tdiv (wrap64 (Int.tdiv (wrap64 (bt t799 (ji11))) 16)) 4)) 2))) - (Int.tmod (wrap64 (Int.tdiv (wrap64 (Int.tdiv (wrap64 (bt t799 (ji11))) 16)) 8)) 2))) + 3329)) 3329)] (fun _ => True) (fun _ => False) rfl rfl ?aP (fun _ hk => hk.elim) ?aF ?aO ?aB ?aS ?aL ?_; (case aP => exact rfl); (case aB => exact (hB_)); (case aF => exact (fun _ _ => trivial)); (case aO => exact (rR_ HO_5.out)); (case aS => exact (below_size (hB_))); (case aL => have := LMc16.out; omega); intro v802 w17 ho hb hg hat; rw [← Ny801.out] at ho; have n_ := b_ (hb) <| c_ (ho); clear HO_5 HB; obtain ⟨HB, HO803⟩ := n_; clear ho hb hg hat))
    go_roundg k1
    case measure => have := HK1.out; omega
    case rel => exact ⟨(y801), (wrap64 (x8_1 + 1)), f0_, H', ⟨by have := HK1.out; omega⟩, ⟨rR_ HO803.out⟩, ⟨hB_⟩⟩
   rw [if_neg c15] at H
   have c15b0 : ((Int.tmod x8_1 2) == 1) = false := beq_eq_false_iff_ne.mpr c15
   have c15b1 : ((Int.tmod x8_1 2) != 1) = true := bne_iff_ne.mpr c15
   obtain ⟨c18, H⟩ := iN_ H
   have LMc18 := Aside0.mk c18
   clear c18
   obtain ⟨y804, hy804⟩ : ∃ y_ : List Int, y_ = (x5_1 ++ [Int.tmod (wrap64 ((wrap64 ((wrap64 ((wrap64 ((Int.tmod (wrap64 (bt t799 (ji11))) 2) + (Int.tmod (wrap64 (Int.tdiv (wrap64 (bt t799 (ji11))) 2)) 2))) - (Int.tmod (wrap64 (Int.tdiv (wrap64 (bt t799 (ji11))) 4)) 2))) - (Int.tmod (wrap64 (Int.tdiv (wrap64 (bt t799 (ji11))) 8)) 2))) + 3329)) 3329]) := ⟨_, rfl⟩
   first | replace H := yb_ hy804 H | rw [← hy804] at H
   have Ny804 := Aside0.mk hy804
   clear hy804
   have H' := Aside0.mk H
   clear H
   have p14 := eq_true (oD_ : 0 ≤ ((ji11) : Int))
   have q14 := eq_true (oD_ : (ji11) < (t799.size : Int))
   have hx14 := bt_at t799 (ji11)
   go_wp2_with (first | ((with_reducible refine gate_builtin (b := .append) (xs := #[.tmp 33, .tmp 50]) rfl ?_); at_builtin; refine Kd.R_append (Kd.int .i64) (w0 := w) w.heap.size rfl (.tmp 33) (.tmp 50) 22 3 (.int .i64 0) 8 rfl Try.underlying22 info3 rfl (by decide) (by omega) u5 x5_1 (Int.tmod (wrap64 ((wrap64 ((wrap64 ((wrap64 ((Int.tmod (wrap64 (bt t799 (ji11))) 2) + (Int.tmod (wrap64 (Int.tdiv (wrap64 (bt t799 (ji11))) 2)) 2))) - (Int.tmod (wrap64 (Int.tdiv (wrap64 (bt t799 (ji11))) 4)) 2))) - (Int.tmod (wrap64 (Int.tdiv (wrap64 (bt t799 (ji11))) 8)) 2))) + 3329)) 3329) [.int .i64 (Int.tmod (wrap64 ((wrap64 ((wrap64 ((wrap64 ((Int.tmod (wrap64 (bt t799 (ji11))) 2) + (Int.tmod (wrap64 (Int.tdiv (wrap64 (bt t799 (ji11))) 2)) 2))) - (Int.tmod (wrap64 (Int.tdiv (wrap64 (bt t799 (ji11))) 4)) 2))) - (Int.tmod (wrap64 (Int.tdiv (wrap64 (bt t799 (ji11))) 8)) 2))) + 3329)) 3329)] (fun _ => True) (fun _ => False) rfl rfl ?aP (fun _ hk => hk.elim) ?aF ?aO ?aB ?aS ?aL ?_; (case aP => exact rfl); (case aB => exact (hB_)); (case aF => exact (fun _ _ => trivial)); (case aO => exact (rR_ HO_5.out)); (case aS => exact (below_size (hB_))); (case aL => have := LMc18.out; omega); intro v805 w19 ho hb hg hat; rw [← Ny804.out] at ho; have n_ := b_ (hb) <| c_ (ho); clear HO_5 HB; obtain ⟨HB, HO806⟩ := n_; clear ho hb hg hat))
   go_roundg k1
   case measure => have := HK1.out; omega
   case rel => exact ⟨(y804), (wrap64 (x8_1 + 1)), f0_, H', ⟨by have := HK1.out; omega⟩, ⟨rR_ HO806.out⟩, ⟨hB_⟩⟩

/-! ### spec_Uniform: function 13 -/
mutual
def spec_Uniform.l0 : Nat → List Int → ByteArray → Int → ByteArray → Int → Option (List Int)
 | 0, _, _, _, _, _ => none
 | k + 1, x7, x9, x10, x859000, x859001 => if x10 < 4000 then (spec_Uniform.j1 k x7 x9 x10 (decide ((x7.length : Int) < 256)) x859000 x859001) else (spec_Uniform.j1 k x7 x9 x10 false x859000 x859001)
def spec_Uniform.j1 : Nat → List Int → ByteArray → Int → Bool → ByteArray → Int → Option (List Int)
 | 0, _, _, _, _, _, _ => none
 | k + 1, x7, x9, x10, x31, x859000, x859001 => if x31 = true then (if (wrap64 ((Int.tmod x10 56) * 3)) = 0 then ((spec_StreamTake.f k x859000 x859001 168).bind fun bt859 => (spec_Uniform.j2 k x7 bt859.2.2 x10 (wrap64 ((Int.tmod x10 56) * 3)) bt859.1 bt859.2.1)) else (spec_Uniform.j2 k x7 x9 x10 (wrap64 ((Int.tmod x10 56) * 3)) x859000 x859001)) else (spec_Uniform.l1 k x7)
def spec_Uniform.j2 : Nat → List Int → ByteArray → Int → Int → ByteArray → Int → Option (List Int)
 | 0, _, _, _, _, _, _ => none
 | k + 1, x7, x9, x10, x11, x859000, x859001 => if 0 ≤ x11 then (if x11 < (x9.size : Int) then (if 0 ≤ (wrap64 (x11 + 1)) then (if (wrap64 (x11 + 1)) < (x9.size : Int) then (if 0 ≤ (wrap64 (x11 + 2)) then (if (wrap64 (x11 + 2)) < (x9.size : Int) then (if (wrap64 ((wrap64 (bt x9 x11)) + (wrap64 (256 * (Int.tmod (wrap64 (bt x9 (wrap64 (x11 + 1)))) 16))))) < 3329 then (if x7.length < 17592186044416 then ((some (x7 ++ [wrap64 ((wrap64 (bt x9 x11)) + (wrap64 (256 * (Int.tmod (wrap64 (bt x9 (wrap64 (x11 + 1)))) 16))))] : List Int)).bind fun y863 => (if (wrap64 ((wrap64 (Int.tdiv (wrap64 (bt x9 (wrap64 (x11 + 1)))) 16)) + (wrap64 (16 * (wrap64 (bt x9 (wrap64 (x11 + 2)))))))) < 3329 then (if (y863.length : Int) < 256 then (if y863.length < 17592186044416 then (spec_Uniform.l0 k (y863 ++ [wrap64 ((wrap64 (Int.tdiv (wrap64 (bt x9 (wrap64 (x11 + 1)))) 16)) + (wrap64 (16 * (wrap64 (bt x9 (wrap64 (x11 + 2)))))))]) x9 (wrap64 (x10 + 1)) x859000 x859001) else (none)) else (spec_Uniform.l0 k y863 x9 (wrap64 (x10 + 1)) x859000 x859001)) else (spec_Uniform.l0 k y863 x9 (wrap64 (x10 + 1)) x859000 x859001))) else (none)) else (if (wrap64 ((wrap64 (Int.tdiv (wrap64 (bt x9 (wrap64 (x11 + 1)))) 16)) + (wrap64 (16 * (wrap64 (bt x9 (wrap64 (x11 + 2)))))))) < 3329 then (if (x7.length : Int) < 256 then (if x7.length < 17592186044416 then (spec_Uniform.l0 k (x7 ++ [wrap64 ((wrap64 (Int.tdiv (wrap64 (bt x9 (wrap64 (x11 + 1)))) 16)) + (wrap64 (16 * (wrap64 (bt x9 (wrap64 (x11 + 2)))))))]) x9 (wrap64 (x10 + 1)) x859000 x859001) else (none)) else (spec_Uniform.l0 k x7 x9 (wrap64 (x10 + 1)) x859000 x859001)) else (spec_Uniform.l0 k x7 x9 (wrap64 (x10 + 1)) x859000 x859001))) else (none)) else (none)) else (none)) else (none)) else (none)) else (none)
def spec_Uniform.l1 : Nat → List Int → Option (List Int)
 | 0, _ => none
 | k + 1, x7 => if (x7.length : Int) < 256 then (if x7.length < 17592186044416 then (spec_Uniform.l1 k (x7 ++ [0])) else (none)) else (some x7)
end
def spec_Uniform.f (k : Nat) (a0 : ByteArray) (a1 : Int) (a2 : Int) : Option (List Int) := (spec_l06Byte.f a1).bind fun t854 => (if a0.size + t854.size ≤ 9223372036854775807 then ((spec_l06Byte.f a2).bind fun t855 => (if (a0 ++ t854).size + t855.size ≤ 9223372036854775807 then ((spec_StreamNew.f k ((a0 ++ t854) ++ t855)).bind fun bt856 => (spec_Uniform.l0 k (([] : List Int)) (⟨#[]⟩ : ByteArray) 0 bt856.1 bt856.2)) else (none))) else (none))
theorem spec_Uniform.mono_l : ∀ k, (∀ y0 y1 y2 y3 y4, LeO (spec_Uniform.l0 k y0 y1 y2 y3 y4) (spec_Uniform.l0 (k + 1) y0 y1 y2 y3 y4)) ∧ (∀ y0 y1 y2 y3 y4 y5, LeO (spec_Uniform.j1 k y0 y1 y2 y3 y4 y5) (spec_Uniform.j1 (k + 1) y0 y1 y2 y3 y4 y5)) ∧ (∀ y0 y1 y2 y3 y4 y5, LeO (spec_Uniform.j2 k y0 y1 y2 y3 y4 y5) (spec_Uniform.j2 (k + 1) y0 y1 y2 y3 y4 y5)) ∧ (∀ y0, LeO (spec_Uniform.l1 k y0) (spec_Uniform.l1 (k + 1) y0))
 | 0 => ⟨fun _ _ _ _ _ r h => by simp [spec_Uniform.l0] at h, fun _ _ _ _ _ _ r h => by simp [spec_Uniform.j1] at h, fun _ _ _ _ _ _ r h => by simp [spec_Uniform.j2] at h, fun _ r h => by simp [spec_Uniform.l1] at h⟩
 | k + 1 => by
  obtain ⟨ih0, ih1, ih2, ih3⟩ := spec_Uniform.mono_l k
  refine ⟨?_, ?_, ?_, ?_⟩ <;> (intros; (first | unfold spec_Uniform.l0 | unfold spec_Uniform.j1 | unfold spec_Uniform.j2 | unfold spec_Uniform.l1); exact o6_ ih0 ih1 ih2 ih3 spec_StreamNew.mono spec_StreamTake.mono)
theorem spec_Uniform.mono : ∀ a0 a1 a2 k, LeO (spec_Uniform.f k a0 a1 a2) (spec_Uniform.f (k + 1) a0 a1 a2) := by
 intro a0 a1 a2 k
 obtain ⟨ih0, ih1, ih2, ih3⟩ := spec_Uniform.mono_l k
 unfold spec_Uniform.f
 exact o6_ ih0 ih1 ih2 ih3 spec_StreamNew.mono spec_StreamTake.mono
theorem spec_Uniform.calls (k : Nat) (a0 : ByteArray) (a1 : Int) (a2 : Int) (r : List Int) (w : World) (h : spec_Uniform.f k a0 a1 a2 = some r) :
  Calls Try.prog 13 #[.string a0, .int .i64 a1, .int .i64 a2] w fun e w' => ∃ v0_ : Value, e = .returned (v0_) ∧ Kd.R (Kd.int .i64) 3 w' w.heap.size (fun _ => True) v0_ r ∧ Below w.heap.size w w' := by
 have hu53 := Try.underlying53
 have HB := Aside0.mk (Below.refl w.heap.size w)
 delta spec_Uniform.f at h
 have H := h
 clear h
 obtain ⟨y851, hy851⟩ : ∃ y_ : List Int, y_ = (([] : List Int)) := ⟨_, rfl⟩
 first | replace H := yb_ hy851 H | rw [← hy851] at H
 have Ny851 := Aside0.mk hy851
 clear hy851
 obtain ⟨t854, A4, H⟩ := bN_ H
 obtain ⟨c5, H⟩ := iN_ H
 have c5b0 := eq_true c5
 have c5b1 := decide_eq_true c5
 try have c5b2 : (9223372036854775807 < a0.size + t854.size) = False := eq_false (Nat.not_lt.2 c5)
 obtain ⟨t855, A6, H⟩ := bN_ H
 obtain ⟨c7, H⟩ := iN_ H
 have c7b0 := eq_true c7
 have c7b1 := decide_eq_true c7
 try have c7b2 : (9223372036854775807 < (a0 ++ t854).size + t855.size) = False := eq_false (Nat.not_lt.2 c7)
 try (have c7b9 : (9223372036854775807 < (a0 ++ t854).size + t855.size) = False := c7b2; simp only [ByteArray.size_append] at c7b9)
 obtain ⟨⟨t856, t857⟩, A8, H⟩ := bN_ H
 have H' := Aside0.mk H
 clear H
 go_enter Try.func13, Try.ntmps13
 go_wp2_with (first | ((with_reducible refine gate_dst (N := 16) rfl ?_); (try (refine gate_guard (by rfl) ?_; dsimp only)); refine Kd.R_lit (Kd.int .i64) _ 3 ?hg (N := 16) ?hd (xs := ([] : List Int)) (inner := []) (ok := fun _ => True) (okp := fun _ => True) ?hr ?hp (fun _ hk => hk) trivial (Below.refl _ _) (Nat.le_refl _) (by simp) ?_; (case hd => rfl); (case hg => rfl); (case hr => first | (go_simp; done) | (go_simp; rfl)); (case hp => exact (Reps.none _ _)); intro v852 w9 ho10 hb hg_ hnew_; clear hg_ hnew_; (first | rw [← Ny851.out] at ho10 | (simp only [Int.reduceToNat] at ho10; rw [← Ny851.out] at ho10)); have n_ := b_ (Kd.R_lower ho10 (below_size (hB_))) <| c_ (below_step (hB_) hb); clear HB; obtain ⟨HO853, HB⟩ := n_; clear hb ho10) | (go_at_call 30; (with_reducible refine (spec_l06Byte.calls a1 t854 _ A4.out).mono ?_); rintro e w11 ⟨rfl, hb⟩; have n_ := b_ (Kd.R_below (rR_ HO853.out) hb) <| c_ (below_step (hB_) hb); clear HO853 HB; obtain ⟨HO853, HB⟩ := n_; (try clear hb)) | (go_at_call 30; (with_reducible refine (spec_l06Byte.calls a2 t855 _ A6.out).mono ?_); rintro e w12 ⟨rfl, hb⟩; have n_ := b_ (Kd.R_below (rR_ HO853.out) hb) <| c_ (below_step (hB_) hb); clear HO853 HB; obtain ⟨HO853, HB⟩ := n_; (try clear hb)) | (go_at_call 34; (with_reducible refine (spec_StreamNew.calls k ((a0 ++ t854) ++ t855) t856 t857 _ A8.out).mono ?_); rintro e w13 ⟨rfl, hb⟩; have n_ := b_ (Kd.R_below (rR_ HO853.out) hb) <| c_ (below_step (hB_) hb); clear HO853 HB; obtain ⟨HO853, HB⟩ := n_; (try clear hb)) | ((with_reducible refine gate_dst (N := 8) rfl ?_); (try (refine gate_guard (by rfl) ?_; dsimp only)); refine box_event ?hg (N := 8) ?hd (cs := #[.string (⟨#[]⟩ : ByteArray), .int .i64 0]) (t := 53) ?hr ?_; (case hd => rfl); (case hg => rfl); (case hr => first | (go_simp; done) | (go_simp; rfl)); intro gb858 hg w14 hbox hb; have n_ := b_ (Kd.R_below (rR_ HO853.out) hb) <| b_ (below_step (hB_) hb) <| b_ (hbox) <| b_ (by rw [hg]; exact (below_size (hB_)) : w.heap.size ≤ gb858) <| c_ (by rw [hg]; exact (below_size (hB_)) : w.heap.size ≤ gb858); clear HO853 HB; obtain ⟨HO853, HB, BK858, GW858, GE858⟩ := n_; clear hb hbox hg; have hcz15_0 : w14.cell? ⟨gb858, 0, none⟩ = some (.string (⟨#[]⟩ : ByteArray)) := (blk_cell BK858.out 0).trans rfl; have hcz15_1 : w14.cell? ⟨gb858, 1, none⟩ = some (.int .i64 0) := (blk_cell BK858.out 1).trans rfl; have hfz15_0 := blk_frozen BK858.out 0; have hfz15_1 := blk_frozen BK858.out 1))
 repeat (go_quiet (first | ((with_reducible refine gate_dst (N := 16) rfl ?_); (try (refine gate_guard (by rfl) ?_; dsimp only)); refine Kd.R_lit (Kd.int .i64) _ 3 ?hg (N := 16) ?hd (xs := ([] : List Int)) (inner := []) (ok := fun _ => True) (okp := fun _ => True) ?hr ?hp (fun _ hk => hk) trivial (Below.refl _ _) (Nat.le_refl _) (by simp) ?_; (case hd => rfl); (case hg => rfl); (case hr => first | (go_simp; done) | (go_simp; rfl)); (case hp => exact (Reps.none _ _)); intro v852 w9 ho10 hb hg_ hnew_; clear hg_ hnew_; (first | rw [← Ny851.out] at ho10 | (simp only [Int.reduceToNat] at ho10; rw [← Ny851.out] at ho10)); have n_ := b_ (Kd.R_lower ho10 (below_size (hB_))) <| c_ (below_step (hB_) hb); clear HB; obtain ⟨HO853, HB⟩ := n_; clear hb ho10) | (go_at_call 30; (with_reducible refine (spec_l06Byte.calls a1 t854 _ A4.out).mono ?_); rintro e w11 ⟨rfl, hb⟩; have n_ := b_ (Kd.R_below (rR_ HO853.out) hb) <| c_ (below_step (hB_) hb); clear HO853 HB; obtain ⟨HO853, HB⟩ := n_; (try clear hb)) | (go_at_call 30; (with_reducible refine (spec_l06Byte.calls a2 t855 _ A6.out).mono ?_); rintro e w12 ⟨rfl, hb⟩; have n_ := b_ (Kd.R_below (rR_ HO853.out) hb) <| c_ (below_step (hB_) hb); clear HO853 HB; obtain ⟨HO853, HB⟩ := n_; (try clear hb)) | (go_at_call 34; (with_reducible refine (spec_StreamNew.calls k ((a0 ++ t854) ++ t855) t856 t857 _ A8.out).mono ?_); rintro e w13 ⟨rfl, hb⟩; have n_ := b_ (Kd.R_below (rR_ HO853.out) hb) <| c_ (below_step (hB_) hb); clear HO853 HB; obtain ⟨HO853, HB⟩ := n_; (try clear hb)) | ((with_reducible refine gate_dst (N := 8) rfl ?_); (try (refine gate_guard (by rfl) ?_; dsimp only)); refine box_event ?hg (N := 8) ?hd (cs := #[.string (⟨#[]⟩ : ByteArray), .int .i64 0]) (t := 53) ?hr ?_; (case hd => rfl); (case hg => rfl); (case hr => first | (go_simp; done) | (go_simp; rfl)); intro gb858 hg w14 hbox hb; have n_ := b_ (Kd.R_below (rR_ HO853.out) hb) <| b_ (below_step (hB_) hb) <| b_ (hbox) <| b_ (by rw [hg]; exact (below_size (hB_)) : w.heap.size ≤ gb858) <| c_ (by rw [hg]; exact (below_size (hB_)) : w.heap.size ≤ gb858); clear HO853 HB; obtain ⟨HO853, HB, BK858, GW858, GE858⟩ := n_; clear hb hbox hg; have hcz15_0 : w14.cell? ⟨gb858, 0, none⟩ = some (.string (⟨#[]⟩ : ByteArray)) := (blk_cell BK858.out 0).trans rfl; have hcz15_1 : w14.cell? ⟨gb858, 1, none⟩ = some (.int .i64 0) := (blk_cell BK858.out 1).trans rfl; have hfz15_0 := blk_frozen BK858.out 0; have hfz15_1 := blk_frozen BK858.out 1)); try go_wp2_with (first | ((with_reducible refine gate_dst (N := 16) rfl ?_); (try (refine gate_guard (by rfl) ?_; dsimp only)); refine Kd.R_lit (Kd.int .i64) _ 3 ?hg (N := 16) ?hd (xs := ([] : List Int)) (inner := []) (ok := fun _ => True) (okp := fun _ => True) ?hr ?hp (fun _ hk => hk) trivial (Below.refl _ _) (Nat.le_refl _) (by simp) ?_; (case hd => rfl); (case hg => rfl); (case hr => first | (go_simp; done) | (go_simp; rfl)); (case hp => exact (Reps.none _ _)); intro v852 w9 ho10 hb hg_ hnew_; clear hg_ hnew_; (first | rw [← Ny851.out] at ho10 | (simp only [Int.reduceToNat] at ho10; rw [← Ny851.out] at ho10)); have n_ := b_ (Kd.R_lower ho10 (below_size (hB_))) <| c_ (below_step (hB_) hb); clear HB; obtain ⟨HO853, HB⟩ := n_; clear hb ho10) | (go_at_call 30; (with_reducible refine (spec_l06Byte.calls a1 t854 _ A4.out).mono ?_); rintro e w11 ⟨rfl, hb⟩; have n_ := b_ (Kd.R_below (rR_ HO853.out) hb) <| c_ (below_step (hB_) hb); clear HO853 HB; obtain ⟨HO853, HB⟩ := n_; (try clear hb)) | (go_at_call 30; (with_reducible refine (spec_l06Byte.calls a2 t855 _ A6.out).mono ?_); rintro e w12 ⟨rfl, hb⟩; have n_ := b_ (Kd.R_below (rR_ HO853.out) hb) <| c_ (below_step (hB_) hb); clear HO853 HB; obtain ⟨HO853, HB⟩ := n_; (try clear hb)) | (go_at_call 34; (with_reducible refine (spec_StreamNew.calls k ((a0 ++ t854) ++ t855) t856 t857 _ A8.out).mono ?_); rintro e w13 ⟨rfl, hb⟩; have n_ := b_ (Kd.R_below (rR_ HO853.out) hb) <| c_ (below_step (hB_) hb); clear HO853 HB; obtain ⟨HO853, HB⟩ := n_; (try clear hb)) | ((with_reducible refine gate_dst (N := 8) rfl ?_); (try (refine gate_guard (by rfl) ?_; dsimp only)); refine box_event ?hg (N := 8) ?hd (cs := #[.string (⟨#[]⟩ : ByteArray), .int .i64 0]) (t := 53) ?hr ?_; (case hd => rfl); (case hg => rfl); (case hr => first | (go_simp; done) | (go_simp; rfl)); intro gb858 hg w14 hbox hb; have n_ := b_ (Kd.R_below (rR_ HO853.out) hb) <| b_ (below_step (hB_) hb) <| b_ (hbox) <| b_ (by rw [hg]; exact (below_size (hB_)) : w.heap.size ≤ gb858) <| c_ (by rw [hg]; exact (below_size (hB_)) : w.heap.size ≤ gb858); clear HO853 HB; obtain ⟨HO853, HB, BK858, GW858, GE858⟩ := n_; clear hb hbox hg; have hcz15_0 : w14.cell? ⟨gb858, 0, none⟩ = some (.string (⟨#[]⟩ : ByteArray)) := (blk_cell BK858.out 0).trans rfl; have hcz15_1 : w14.cell? ⟨gb858, 1, none⟩ = some (.int .i64 0) := (blk_cell BK858.out 1).trans rfl; have hfz15_0 := blk_frozen BK858.out 0; have hfz15_1 := blk_frozen BK858.out 1)))
 go_loopg [7, 9, 10] k (fun kq v7 v9 v10 w' => ∃ (x7_1 : List Int) (x9_1 : ByteArray) (x10_1 : Int) (x859000_1 : ByteArray) (x859001_1 : Int), v9 = .string x9_1 ∧ v10 = .int .i64 x10_1 ∧ Aside0 (spec_Uniform.l0 kq x7_1 x9_1 x10_1 x859000_1 x859001_1 = some r) ∧ Aside0 (kq ≤ k) ∧ Aside0 (Kd.R (Kd.int .i64) 3 w' w.heap.size (fun _ => True) v7 x7_1) ∧ Aside0 (w'.heap[gb858]? = some (.cells #[.string x859000_1, .int .i64 x859001_1] 53 (0, 0))) ∧ Aside0 (Below w.heap.size w w'))
 case atStart => exact ⟨(y851), ((⟨#[]⟩ : ByteArray)), (0), (t856), (t857), f0_, f0_, H', ⟨Nat.le_refl _⟩, ⟨by refine kR_ ?_; exact Kd.R_mono (Kd.R_far (Kd.R_far (Kd.R_types HO853.out BK858.out (by decide)) (fun _ hk => hk.2) _) (fun _ hk => hk.2) _) (fun _ hk => trivial)⟩, ⟨by refine kK_ ?_; refine blk_put (cs := #[.string t856, .int .i64 0]) ?_ 1 _ rfl; refine kK_ ?_; refine blk_put (cs := #[.string (⟨#[]⟩ : ByteArray), .int .i64 0]) ?_ 0 _ rfl; refine kK_ ?_; exact BK858.out⟩, ⟨hS_ GE858.out⟩⟩
 case round =>
  clear H'
  obtain ⟨x7_1, x9_1, x10_1, x859000_1, x859001_1, rfl, rfl, HA, HK1, HO_7, BK858, HB⟩ := hrel
  cases gk with
  | zero => exact absurd HA.out (by simp [spec_Uniform.l0])
  | succ k1 =>
   have H := HA.out
   clear HA
   simp only [spec_Uniform.l0] at H
   have HC16 := Aside0.mk H
   clear H
   go_upto_region 5 with (fail)
   repeat (go_quiet (fail); go_upto_region 5 with (fail))
   go_cut [31] (fun v31 wc => ∃ (kq : Nat) (x31_15 : Bool), v31 = .bool x31_15 ∧ Aside0 (spec_Uniform.j1 kq x7_1 x9_1 x10_1 x31_15 x859000_1 x859001_1 = some r) ∧ Aside0 (kq ≤ k1) ∧ Aside0 (Kd.R (Kd.int .i64) 3 wc w.heap.size (fun _ => True) u7 x7_1) ∧ Aside0 (wc.heap[gb858]? = some (.cells #[.string x859000_1, .int .i64 x859001_1] 53 (0, 0))) ∧ Aside0 (Below w.heap.size w wc))
   case first =>
    have H := HC16.out
    clear HC16
    by_cases c17 : x10_1 < 4000
    ·rw [if_pos c17] at H
     have c17b0 := decide_eq_true c17
     clear c17
     (first | rw [c17b0] | (simp only [i64_w, i32_w]; rw [c17b0]) | skip)
     have H' := Aside0.mk H
     clear H
     obtain ⟨Ao18, co18, eo18⟩ := Kd.R_slice HO_7.out
     subst eo18
     go_wp2
     repeat (go_quiet (fail); try go_wp2)
     go_meet
     case rel => exact ⟨_, (decide ((x7_1.length : Int) < 256)), f0_, H', ⟨by have := HK1.out; first | omega | exact Nat.le_refl _⟩, ⟨rR_ HO_7.out⟩, ⟨by refine kK_ ?_; exact BK858.out⟩, ⟨hS_ GE858.out⟩⟩
    rw [if_neg c17] at H
    have c17b0 := decide_eq_false c17
    clear c17
    (first | rw [c17b0] | (simp only [i64_w, i32_w]; rw [c17b0]) | skip)
    have H' := Aside0.mk H
    clear H
    go_wp2
    repeat (go_quiet (fail); try go_wp2)
    go_meet
    case rel => exact ⟨_, (false), f0_, H', ⟨by have := HK1.out; first | omega | exact Nat.le_refl _⟩, ⟨rR_ HO_7.out⟩, ⟨by refine kK_ ?_; exact BK858.out⟩, ⟨hS_ GE858.out⟩⟩
   case rest =>
    clear HC16
    obtain ⟨kq, x31_15, rfl, HA, HJ15, HO_7, BK858, HB⟩ := hcut
    cases kq with
    | zero => exact absurd HA.out (by simp [spec_Uniform.j1])
    | succ kj15 =>
     have H := HA.out
     clear HA
     simp only [spec_Uniform.j1] at H
     by_cases c19 : x31_15 = true
     ·subst c19
      replace H := iT_ H
      have HC20 := Aside0.mk H
      clear H
      go_upto_if 38 with (fail)
      repeat (go_quiet (fail); go_upto_if 38 with (fail))
      go_cut [9] (fun v9 wc => ∃ (kq : Nat) (x9_19 : ByteArray) (x859000_19 : ByteArray) (x859001_19 : Int), v9 = .string x9_19 ∧ Aside0 (spec_Uniform.j2 kq x7_1 x9_19 x10_1 (wrap64 ((Int.tmod x10_1 56) * 3)) x859000_19 x859001_19 = some r) ∧ Aside0 (kq ≤ kj15) ∧ Aside0 (Kd.R (Kd.int .i64) 3 wc w.heap.size (fun _ => True) u7 x7_1) ∧ Aside0 (wc.heap[gb858]? = some (.cells #[.string x859000_19, .int .i64 x859001_19] 53 (0, 0))) ∧ Aside0 (Below w.heap.size w wc))
      case first =>
       have H := HC20.out
       clear HC20
       by_cases c21 : (wrap64 ((Int.tmod x10_1 56) * 3)) = 0
       ·rw [if_pos c21] at H
        have c21b0 : ((wrap64 ((Int.tmod x10_1 56) * 3)) == 0) = true := beq_iff_eq.mpr c21
        have c21b1 : ((wrap64 ((Int.tmod x10_1 56) * 3)) != 0) = false := bne_eq_false_iff_eq.mpr c21
        clear c21
        (first | rw [c21b0] | (simp only [i64_w, i32_w]; rw [c21b0]) | skip)
        obtain ⟨⟨t859, t860, t861⟩, A22, H⟩ := bN_ H
        have H' := Aside0.mk H
        clear H
        have hcz23_0 : wc.cell? ⟨gb858, 0, none⟩ = some (.string x859000_1) := (blk_cell BK858.out 0).trans rfl
        have hcz23_1 : wc.cell? ⟨gb858, 1, none⟩ = some (.int .i64 x859001_1) := (blk_cell BK858.out 1).trans rfl
        have hfz23_0 := blk_frozen BK858.out 0
        have hfz23_1 := blk_frozen BK858.out 1
        go_wp2_with (first | (go_at_call 35; (with_reducible refine (spec_StreamTake.calls kj15 x859000_1 x859001_1 168 t859 t860 t861 _ A22.out).mono ?_); rintro e w24 ⟨rfl, hb⟩; have n_ := b_ (Kd.R_below (rR_ HO_7.out) hb) <| b_ (blk_below (g := gb858) (o := .cells #[.string x859000_1, .int .i64 x859001_1] 53 (0, 0)) (rK_ BK858.out) hb) <| c_ (below_step (hS_ GE858.out) hb); clear HO_7 BK858 HB; obtain ⟨HO_7, BK858, HB⟩ := n_; (try clear hb)) | ((with_reducible refine gate_dst (N := 12) rfl ?_); (try (refine gate_guard (by rfl) ?_; dsimp only)); refine box_event ?hg (N := 12) ?hd (cs := #[.string (⟨#[]⟩ : ByteArray), .int .i64 0]) (t := 53) ?hr ?_; (case hd => rfl); (case hg => rfl); (case hr => first | (go_simp; done) | (go_simp; rfl)); intro gb862 hg w25 hbox hb; have n_ := b_ (Kd.R_below (rR_ HO_7.out) hb) <| b_ (blk_below (g := gb858) (o := .cells #[.string x859000_1, .int .i64 x859001_1] 53 (0, 0)) (rK_ BK858.out) hb) <| b_ (below_step (hS_ GE858.out) hb) <| b_ (hbox) <| b_ (by rw [hg]; exact (below_size (hS_ GE858.out)) : w.heap.size ≤ gb862) <| b_ (by rw [hg]; exact (below_size (hS_ GE858.out)) : w.heap.size ≤ gb862) <| b_ (by rw [hg]; exact Nat.ne_of_lt (blk_lt (g := gb858) (o := .cells #[.string x859000_1, .int .i64 x859001_1] 53 (0, 0)) (rK_ BK858.out)) : gb858 ≠ gb862) <| c_ (by rw [hg]; exact Nat.ne_of_gt (blk_lt (g := gb858) (o := .cells #[.string x859000_1, .int .i64 x859001_1] 53 (0, 0)) (rK_ BK858.out)) : gb862 ≠ gb858); clear HO_7 BK858 HB; obtain ⟨HO_7, BK858, HB, BK862, GW862, GE862, NB858_862, NB862_858⟩ := n_; clear hb hbox hg; have hnb26 := NB862_858.out; have hnc26 := NB858_862.out; have hcz27_0 : w25.cell? ⟨gb862, 0, none⟩ = some (.string (⟨#[]⟩ : ByteArray)) := (blk_cell BK862.out 0).trans rfl; have hcz27_1 : w25.cell? ⟨gb862, 1, none⟩ = some (.int .i64 0) := (blk_cell BK862.out 1).trans rfl; have hfz27_0 := blk_frozen BK862.out 0; have hfz27_1 := blk_frozen BK862.out 1; have hcz28_0 : w25.cell? ⟨gb858, 0, none⟩ = some (.string x859000_1) := (blk_cell BK858.out 0).trans rfl; have hcz28_1 : w25.cell? ⟨gb858, 1, none⟩ = some (.int .i64 x859001_1) := (blk_cell BK858.out 1).trans rfl; have hfz28_0 := blk_frozen BK858.out 0; have hfz28_1 := blk_frozen BK858.out 1))
        repeat (go_quiet (first | (go_at_call 35; (with_reducible refine (spec_StreamTake.calls kj15 x859000_1 x859001_1 168 t859 t860 t861 _ A22.out).mono ?_); rintro e w24 ⟨rfl, hb⟩; have n_ := b_ (Kd.R_below (rR_ HO_7.out) hb) <| b_ (blk_below (g := gb858) (o := .cells #[.string x859000_1, .int .i64 x859001_1] 53 (0, 0)) (rK_ BK858.out) hb) <| c_ (below_step (hS_ GE858.out) hb); clear HO_7 BK858 HB; obtain ⟨HO_7, BK858, HB⟩ := n_; (try clear hb)) | ((with_reducible refine gate_dst (N := 12) rfl ?_); (try (refine gate_guard (by rfl) ?_; dsimp only)); refine box_event ?hg (N := 12) ?hd (cs := #[.string (⟨#[]⟩ : ByteArray), .int .i64 0]) (t := 53) ?hr ?_; (case hd => rfl); (case hg => rfl); (case hr => first | (go_simp; done) | (go_simp; rfl)); intro gb862 hg w25 hbox hb; have n_ := b_ (Kd.R_below (rR_ HO_7.out) hb) <| b_ (blk_below (g := gb858) (o := .cells #[.string x859000_1, .int .i64 x859001_1] 53 (0, 0)) (rK_ BK858.out) hb) <| b_ (below_step (hS_ GE858.out) hb) <| b_ (hbox) <| b_ (by rw [hg]; exact (below_size (hS_ GE858.out)) : w.heap.size ≤ gb862) <| b_ (by rw [hg]; exact (below_size (hS_ GE858.out)) : w.heap.size ≤ gb862) <| b_ (by rw [hg]; exact Nat.ne_of_lt (blk_lt (g := gb858) (o := .cells #[.string x859000_1, .int .i64 x859001_1] 53 (0, 0)) (rK_ BK858.out)) : gb858 ≠ gb862) <| c_ (by rw [hg]; exact Nat.ne_of_gt (blk_lt (g := gb858) (o := .cells #[.string x859000_1, .int .i64 x859001_1] 53 (0, 0)) (rK_ BK858.out)) : gb862 ≠ gb858); clear HO_7 BK858 HB; obtain ⟨HO_7, BK858, HB, BK862, GW862, GE862, NB858_862, NB862_858⟩ := n_; clear hb hbox hg; have hnb26 := NB862_858.out; have hnc26 := NB858_862.out; have hcz27_0 : w25.cell? ⟨gb862, 0, none⟩ = some (.string (⟨#[]⟩ : ByteArray)) := (blk_cell BK862.out 0).trans rfl; have hcz27_1 : w25.cell? ⟨gb862, 1, none⟩ = some (.int .i64 0) := (blk_cell BK862.out 1).trans rfl; have hfz27_0 := blk_frozen BK862.out 0; have hfz27_1 := blk_frozen BK862.out 1; have hcz28_0 : w25.cell? ⟨gb858, 0, none⟩ = some (.string x859000_1) := (blk_cell BK858.out 0).trans rfl; have hcz28_1 : w25.cell? ⟨gb858, 1, none⟩ = some (.int .i64 x859001_1) := (blk_cell BK858.out 1).trans rfl; have hfz28_0 := blk_frozen BK858.out 0; have hfz28_1 := blk_frozen BK858.out 1)); try go_wp2_with (first | (go_at_call 35; (with_reducible refine (spec_StreamTake.calls kj15 x859000_1 x859001_1 168 t859 t860 t861 _ A22.out).mono ?_); rintro e w24 ⟨rfl, hb⟩; have n_ := b_ (Kd.R_below (rR_ HO_7.out) hb) <| b_ (blk_below (g := gb858) (o := .cells #[.string x859000_1, .int .i64 x859001_1] 53 (0, 0)) (rK_ BK858.out) hb) <| c_ (below_step (hS_ GE858.out) hb); clear HO_7 BK858 HB; obtain ⟨HO_7, BK858, HB⟩ := n_; (try clear hb)) | ((with_reducible refine gate_dst (N := 12) rfl ?_); (try (refine gate_guard (by rfl) ?_; dsimp only)); refine box_event ?hg (N := 12) ?hd (cs := #[.string (⟨#[]⟩ : ByteArray), .int .i64 0]) (t := 53) ?hr ?_; (case hd => rfl); (case hg => rfl); (case hr => first | (go_simp; done) | (go_simp; rfl)); intro gb862 hg w25 hbox hb; have n_ := b_ (Kd.R_below (rR_ HO_7.out) hb) <| b_ (blk_below (g := gb858) (o := .cells #[.string x859000_1, .int .i64 x859001_1] 53 (0, 0)) (rK_ BK858.out) hb) <| b_ (below_step (hS_ GE858.out) hb) <| b_ (hbox) <| b_ (by rw [hg]; exact (below_size (hS_ GE858.out)) : w.heap.size ≤ gb862) <| b_ (by rw [hg]; exact (below_size (hS_ GE858.out)) : w.heap.size ≤ gb862) <| b_ (by rw [hg]; exact Nat.ne_of_lt (blk_lt (g := gb858) (o := .cells #[.string x859000_1, .int .i64 x859001_1] 53 (0, 0)) (rK_ BK858.out)) : gb858 ≠ gb862) <| c_ (by rw [hg]; exact Nat.ne_of_gt (blk_lt (g := gb858) (o := .cells #[.string x859000_1, .int .i64 x859001_1] 53 (0, 0)) (rK_ BK858.out)) : gb862 ≠ gb858); clear HO_7 BK858 HB; obtain ⟨HO_7, BK858, HB, BK862, GW862, GE862, NB858_862, NB862_858⟩ := n_; clear hb hbox hg; have hnb26 := NB862_858.out; have hnc26 := NB858_862.out; have hcz27_0 : w25.cell? ⟨gb862, 0, none⟩ = some (.string (⟨#[]⟩ : ByteArray)) := (blk_cell BK862.out 0).trans rfl; have hcz27_1 : w25.cell? ⟨gb862, 1, none⟩ = some (.int .i64 0) := (blk_cell BK862.out 1).trans rfl; have hfz27_0 := blk_frozen BK862.out 0; have hfz27_1 := blk_frozen BK862.out 1; have hcz28_0 : w25.cell? ⟨gb858, 0, none⟩ = some (.string x859000_1) := (blk_cell BK858.out 0).trans rfl; have hcz28_1 : w25.cell? ⟨gb858, 1, none⟩ = some (.int .i64 x859001_1) := (blk_cell BK858.out 1).trans rfl; have hfz28_0 := blk_frozen BK858.out 0; have hfz28_1 := blk_frozen BK858.out 1)))
        go_meet
        case rel => exact ⟨_, (t861), (t859), (t860), f0_, H', ⟨by have := HK1.out; have := HJ15.out; first | omega | exact Nat.le_refl _⟩, ⟨by refine kR_ ?_; exact Kd.R_mono (Kd.R_far (Kd.R_far (Kd.R_far (Kd.R_far (Kd.R_types (Kd.R_types HO_7.out BK862.out (by decide)) BK858.out (by decide)) (fun _ hk => hk.1.2) (.string t859)) (fun _ hk => hk.1.2) (.int .i64 t860)) (fun _ hk => hk.2) _) (fun _ hk => hk.2) _) (fun _ hk => trivial)⟩, ⟨by refine kK_ ?_; refine blk_put (cs := #[.string t859, .int .i64 x859001_1]) ?_ 1 _ rfl; refine kK_ ?_; refine blk_put (cs := #[.string x859000_1, .int .i64 x859001_1]) ?_ 0 _ rfl; refine kK_ ?_; refine blk_far ?_ NB858_862.out _; refine kK_ ?_; refine blk_far ?_ NB858_862.out _; refine kK_ ?_; exact BK858.out⟩, ⟨(u4_ GE858.out GE862.out)⟩⟩
       rw [if_neg c21] at H
       have c21b0 : ((wrap64 ((Int.tmod x10_1 56) * 3)) == 0) = false := beq_eq_false_iff_ne.mpr c21
       have c21b1 : ((wrap64 ((Int.tmod x10_1 56) * 3)) != 0) = true := bne_iff_ne.mpr c21
       (first | rw [c21b0] | (simp only [i64_w, i32_w]; rw [c21b0]) | skip)
       have H' := Aside0.mk H
       clear H
       go_wp2
       repeat (go_quiet (fail); try go_wp2)
       go_meet
       case rel => exact ⟨_, (x9_1), (x859000_1), (x859001_1), f0_, H', ⟨by have := HK1.out; have := HJ15.out; first | omega | exact Nat.le_refl _⟩, ⟨rR_ HO_7.out⟩, ⟨by refine kK_ ?_; exact BK858.out⟩, ⟨hS_ GE858.out⟩⟩
      case rest =>
       clear HC20
       obtain ⟨kq, x9_19, x859000_19, x859001_19, rfl, HA, HJ19, HO_7, BK858, HB⟩ := hcut
       cases kq with
       | zero => exact absurd HA.out (by simp [spec_Uniform.j2])
       | succ kj19 =>
        have H := HA.out
        clear HA
        simp only [spec_Uniform.j2] at H
        obtain ⟨ji29, hji29⟩ : ∃ j_ : Int, (wrap64 ((Int.tmod x10_1 56) * 3)) = j_ := ⟨_, rfl⟩
        first | rw [hji29] at H | simp only [hji29] at H
        have hji29w : (IntKind.i64.wrap ((Int.tmod x10_1 56) * 3)) = ji29 := (i64_w _).trans hji29
        obtain ⟨c30b0, H⟩ := iD_ H
        obtain ⟨c31b0, H⟩ := iD_ H
        obtain ⟨ji33, hji33⟩ : ∃ j_ : Int, (wrap64 ((ji29) + 1)) = j_ := ⟨_, rfl⟩
        first | rw [hji33] at H | simp only [hji33] at H
        have hji33w : (IntKind.i64.wrap ((ji29) + 1)) = ji33 := (i64_w _).trans hji33
        obtain ⟨c34b0, H⟩ := iD_ H
        obtain ⟨c35b0, H⟩ := iD_ H
        obtain ⟨ji38, hji38⟩ : ∃ j_ : Int, (wrap64 ((ji29) + 2)) = j_ := ⟨_, rfl⟩
        first | rw [hji38] at H | simp only [hji38] at H
        have hji38w : (IntKind.i64.wrap ((ji29) + 2)) = ji38 := (i64_w _).trans hji38
        obtain ⟨c39b0, H⟩ := iD_ H
        obtain ⟨c40b0, H⟩ := iD_ H
        by_cases c42 : (wrap64 ((wrap64 (bt x9_19 (ji29))) + (wrap64 (256 * (Int.tmod (wrap64 (bt x9_19 (ji33))) 16))))) < 3329
        ·rw [if_pos c42] at H
         have c42b0 := decide_eq_true c42
         clear c42
         obtain ⟨c43, H⟩ := iN_ H
         have LMc43 := Aside0.mk c43
         clear c43
         obtain ⟨y863, hy863⟩ : ∃ y_ : List Int, y_ = (x7_1 ++ [wrap64 ((wrap64 (bt x9_19 (ji29))) + (wrap64 (256 * (Int.tmod (wrap64 (bt x9_19 (ji33))) 16))))]) := ⟨_, rfl⟩
         first | replace H := yb_ hy863 H | rw [← hy863] at H
         have Ny863 := Aside0.mk hy863
         clear hy863
         by_cases c44 : (wrap64 ((wrap64 (Int.tdiv (wrap64 (bt x9_19 (ji33))) 16)) + (wrap64 (16 * (wrap64 (bt x9_19 (ji38))))))) < 3329
         rotate_left
         ·rw [if_neg c44] at H
          have c44b0 := decide_eq_false c44
          clear c44
          have H' := Aside0.mk H
          clear H
          have p32 := eq_true (oD_ : 0 ≤ ((ji29) : Int))
          have q32 := eq_true (oD_ : (ji29) < (x9_19.size : Int))
          have hx32 := bt_at x9_19 (ji29)
          have p36 := eq_true (oD_ : 0 ≤ ((ji33) : Int))
          have q36 := eq_true (oD_ : (ji33) < (x9_19.size : Int))
          have hx36 := bt_at x9_19 (ji33)
          have p37 := eq_true (oD_ : 0 ≤ ((ji33) : Int))
          have q37 := eq_true (oD_ : (ji33) < (x9_19.size : Int))
          have hx37 := bt_at x9_19 (ji33)
          have p41 := eq_true (oD_ : 0 ≤ ((ji38) : Int))
          have q41 := eq_true (oD_ : (ji38) < (x9_19.size : Int))
          have hx41 := bt_at x9_19 (ji38)
          go_wp2_with (first | ((with_reducible refine gate_builtin (b := .append) (xs := #[.tmp 73, .tmp 75]) rfl ?_); (try (refine gate_guard (by rfl) ?_; dsimp only)); at_builtin; refine Kd.R_append (Kd.int .i64) (w0 := w) w.heap.size rfl (.tmp 73) (.tmp 75) 22 3 (.int .i64 0) 8 rfl Try.underlying22 info3 rfl (by decide) (by omega) u7 x7_1 (wrap64 ((wrap64 (bt x9_19 (ji29))) + (wrap64 (256 * (Int.tmod (wrap64 (bt x9_19 (ji33))) 16))))) [.int .i64 (wrap64 ((wrap64 (bt x9_19 (ji29))) + (wrap64 (256 * (Int.tmod (wrap64 (bt x9_19 (ji33))) 16)))))] (fun _ => True) (fun _ => False) rfl rfl ?aP (fun _ hk => hk.elim) ?aF ?aO ?aB ?aS ?aL ?_; (case aP => exact rfl); (case aB => exact (hS_ GE858.out)); (case aF => exact (fun _ _ => trivial)); (case aO => exact (rR_ HO_7.out)); (case aS => exact (below_size (hS_ GE858.out))); (case aL => have := LMc43.out; omega); intro v864 w52 ho hb hg hat; rw [← Ny863.out] at ho; have n_ := b_ (blk_grown (g := gb858) (o := .cells #[.string x859000_19, .int .i64 x859001_19] 53 (0, 0)) (rK_ BK858.out) hg (Kd.R_ne HO_7.out BK858.out (by decide))) <| b_ (hb) <| c_ (ho); clear HO_7 BK858 HB; obtain ⟨BK858, HB, HO865⟩ := n_; clear ho hb hg hat))
          repeat (go_quiet (first | ((with_reducible refine gate_builtin (b := .append) (xs := #[.tmp 73, .tmp 75]) rfl ?_); (try (refine gate_guard (by rfl) ?_; dsimp only)); at_builtin; refine Kd.R_append (Kd.int .i64) (w0 := w) w.heap.size rfl (.tmp 73) (.tmp 75) 22 3 (.int .i64 0) 8 rfl Try.underlying22 info3 rfl (by decide) (by omega) u7 x7_1 (wrap64 ((wrap64 (bt x9_19 (ji29))) + (wrap64 (256 * (Int.tmod (wrap64 (bt x9_19 (ji33))) 16))))) [.int .i64 (wrap64 ((wrap64 (bt x9_19 (ji29))) + (wrap64 (256 * (Int.tmod (wrap64 (bt x9_19 (ji33))) 16)))))] (fun _ => True) (fun _ => False) rfl rfl ?aP (fun _ hk => hk.elim) ?aF ?aO ?aB ?aS ?aL ?_; (case aP => exact rfl); (case aB => exact (hS_ GE858.out)); (case aF => exact (fun _ _ => trivial)); (case aO => exact (rR_ HO_7.out)); (case aS => exact (below_size (hS_ GE858.out))); (case aL => have := LMc43.out; omega); intro v864 w52 ho hb hg hat; rw [← Ny863.out] at ho; have n_ := b_ (blk_grown (g := gb858) (o := .cells #[.string x859000_19, .int .i64 x859001_19] 53 (0, 0)) (rK_ BK858.out) hg (Kd.R_ne HO_7.out BK858.out (by decide))) <| b_ (hb) <| c_ (ho); clear HO_7 BK858 HB; obtain ⟨BK858, HB, HO865⟩ := n_; clear ho hb hg hat)); try go_wp2_with (first | ((with_reducible refine gate_builtin (b := .append) (xs := #[.tmp 73, .tmp 75]) rfl ?_); (try (refine gate_guard (by rfl) ?_; dsimp only)); at_builtin; refine Kd.R_append (Kd.int .i64) (w0 := w) w.heap.size rfl (.tmp 73) (.tmp 75) 22 3 (.int .i64 0) 8 rfl Try.underlying22 info3 rfl (by decide) (by omega) u7 x7_1 (wrap64 ((wrap64 (bt x9_19 (ji29))) + (wrap64 (256 * (Int.tmod (wrap64 (bt x9_19 (ji33))) 16))))) [.int .i64 (wrap64 ((wrap64 (bt x9_19 (ji29))) + (wrap64 (256 * (Int.tmod (wrap64 (bt x9_19 (ji33))) 16)))))] (fun _ => True) (fun _ => False) rfl rfl ?aP (fun _ hk => hk.elim) ?aF ?aO ?aB ?aS ?aL ?_; (case aP => exact rfl); (case aB => exact (hS_ GE858.out)); (case aF => exact (fun _ _ => trivial)); (case aO => exact (rR_ HO_7.out)); (case aS => exact (below_size (hS_ GE858.out))); (case aL => have := LMc43.out; omega); intro v864 w52 ho hb hg hat; rw [← Ny863.out] at ho; have n_ := b_ (blk_grown (g := gb858) (o := .cells #[.string x859000_19, .int .i64 x859001_19] 53 (0, 0)) (rK_ BK858.out) hg (Kd.R_ne HO_7.out BK858.out (by decide))) <| b_ (hb) <| c_ (ho); clear HO_7 BK858 HB; obtain ⟨BK858, HB, HO865⟩ := n_; clear ho hb hg hat)))
          go_roundg kj19
          case measure => have := HK1.out; have := HJ15.out; have := HJ19.out; omega
          case rel => exact ⟨(y863), (x9_19), (wrap64 (x10_1 + 1)), (x859000_19), (x859001_19), f0_, f0_, H', ⟨by have := HK1.out; have := HJ15.out; have := HJ19.out; omega⟩, ⟨rR_ HO865.out⟩, ⟨by refine kK_ ?_; exact BK858.out⟩, ⟨hS_ GE858.out⟩⟩
         rw [if_pos c44] at H
         have c44b0 := decide_eq_true c44
         clear c44
         by_cases c45 : (y863.length : Int) < 256
         ·rw [if_pos c45] at H
          have c45b0 := decide_eq_true c45
          have c45b1 : decide (y863.length < 256) = true := decide_eq_true (by omega)
          clear c45
          obtain ⟨c46, H⟩ := iN_ H
          have LMc46 := Aside0.mk c46
          clear c46
          obtain ⟨y866, hy866⟩ : ∃ y_ : List Int, y_ = (y863 ++ [wrap64 ((wrap64 (Int.tdiv (wrap64 (bt x9_19 (ji33))) 16)) + (wrap64 (16 * (wrap64 (bt x9_19 (ji38))))))]) := ⟨_, rfl⟩
          first | replace H := yb_ hy866 H | rw [← hy866] at H
          have Ny866 := Aside0.mk hy866
          clear hy866
          have H' := Aside0.mk H
          clear H
          have p32 := eq_true (oD_ : 0 ≤ ((ji29) : Int))
          have q32 := eq_true (oD_ : (ji29) < (x9_19.size : Int))
          have hx32 := bt_at x9_19 (ji29)
          have p36 := eq_true (oD_ : 0 ≤ ((ji33) : Int))
          have q36 := eq_true (oD_ : (ji33) < (x9_19.size : Int))
          have hx36 := bt_at x9_19 (ji33)
          have p37 := eq_true (oD_ : 0 ≤ ((ji33) : Int))
          have q37 := eq_true (oD_ : (ji33) < (x9_19.size : Int))
          have hx37 := bt_at x9_19 (ji33)
          have p41 := eq_true (oD_ : 0 ≤ ((ji38) : Int))
          have q41 := eq_true (oD_ : (ji38) < (x9_19.size : Int))
          have hx41 := bt_at x9_19 (ji38)
          go_wp2_with (first | ((with_reducible refine gate_builtin (b := .append) (xs := #[.tmp 73, .tmp 75]) rfl ?_); (try (refine gate_guard (by rfl) ?_; dsimp only)); at_builtin; refine Kd.R_append (Kd.int .i64) (w0 := w) w.heap.size rfl (.tmp 73) (.tmp 75) 22 3 (.int .i64 0) 8 rfl Try.underlying22 info3 rfl (by decide) (by omega) u7 x7_1 (wrap64 ((wrap64 (bt x9_19 (ji29))) + (wrap64 (256 * (Int.tmod (wrap64 (bt x9_19 (ji33))) 16))))) [.int .i64 (wrap64 ((wrap64 (bt x9_19 (ji29))) + (wrap64 (256 * (Int.tmod (wrap64 (bt x9_19 (ji33))) 16)))))] (fun _ => True) (fun _ => False) rfl rfl ?aP (fun _ hk => hk.elim) ?aF ?aO ?aB ?aS ?aL ?_; (case aP => exact rfl); (case aB => exact (hS_ GE858.out)); (case aF => exact (fun _ _ => trivial)); (case aO => exact (rR_ HO_7.out)); (case aS => exact (below_size (hS_ GE858.out))); (case aL => have := LMc43.out; omega); intro v864 w47 ho hb hg hat; rw [← Ny863.out] at ho; have n_ := b_ (blk_grown (g := gb858) (o := .cells #[.string x859000_19, .int .i64 x859001_19] 53 (0, 0)) (rK_ BK858.out) hg (Kd.R_ne HO_7.out BK858.out (by decide))) <| b_ (hb) <| c_ (ho); clear HO_7 BK858 HB; obtain ⟨BK858, HB, HO865⟩ := n_; clear ho hb hg hat; obtain ⟨Ao48, co48, eo48⟩ := Kd.R_slice HO865.out; subst eo48) | ((with_reducible refine gate_builtin (b := .append) (xs := #[.tmp 84, .tmp 86]) rfl ?_); (try (refine gate_guard (by rfl) ?_; dsimp only)); at_builtin; refine Kd.R_append (Kd.int .i64) (w0 := w) w.heap.size rfl (.tmp 84) (.tmp 86) 22 3 (.int .i64 0) 8 rfl Try.underlying22 info3 rfl (by decide) (by omega) (.slice Ao48 y863.length co48) y863 (wrap64 ((wrap64 (Int.tdiv (wrap64 (bt x9_19 (ji33))) 16)) + (wrap64 (16 * (wrap64 (bt x9_19 (ji38))))))) [.int .i64 (wrap64 ((wrap64 (Int.tdiv (wrap64 (bt x9_19 (ji33))) 16)) + (wrap64 (16 * (wrap64 (bt x9_19 (ji38)))))))] (fun _ => True) (fun _ => False) rfl rfl ?aP (fun _ hk => hk.elim) ?aF ?aO ?aB ?aS ?aL ?_; (case aP => exact rfl); (case aB => exact (hS_ GE858.out)); (case aF => exact (fun _ _ => trivial)); (case aO => exact (rR_ HO865.out)); (case aS => exact (below_size (hS_ GE858.out))); (case aL => have := LMc46.out; omega); intro v867 w49 ho hb hg hat; rw [← Ny866.out] at ho; have n_ := b_ (blk_grown (g := gb858) (o := .cells #[.string x859000_19, .int .i64 x859001_19] 53 (0, 0)) (rK_ BK858.out) hg (Kd.R_ne HO865.out BK858.out (by decide))) <| b_ (hb) <| c_ (ho); clear HO865 BK858 HB; obtain ⟨BK858, HB, HO868⟩ := n_; clear ho hb hg hat))
          repeat (go_quiet (first | ((with_reducible refine gate_builtin (b := .append) (xs := #[.tmp 73, .tmp 75]) rfl ?_); (try (refine gate_guard (by rfl) ?_; dsimp only)); at_builtin; refine Kd.R_append (Kd.int .i64) (w0 := w) w.heap.size rfl (.tmp 73) (.tmp 75) 22 3 (.int .i64 0) 8 rfl Try.underlying22 info3 rfl (by decide) (by omega) u7 x7_1 (wrap64 ((wrap64 (bt x9_19 (ji29))) + (wrap64 (256 * (Int.tmod (wrap64 (bt x9_19 (ji33))) 16))))) [.int .i64 (wrap64 ((wrap64 (bt x9_19 (ji29))) + (wrap64 (256 * (Int.tmod (wrap64 (bt x9_19 (ji33))) 16)))))] (fun _ => True) (fun _ => False) rfl rfl ?aP (fun _ hk => hk.elim) ?aF ?aO ?aB ?aS ?aL ?_; (case aP => exact rfl); (case aB => exact (hS_ GE858.out)); (case aF => exact (fun _ _ => trivial)); (case aO => exact (rR_ HO_7.out)); (case aS => exact (below_size (hS_ GE858.out))); (case aL => have := LMc43.out; omega); intro v864 w47 ho hb hg hat; rw [← Ny863.out] at ho; have n_ := b_ (blk_grown (g := gb858) (o := .cells #[.string x859000_19, .int .i64 x859001_19] 53 (0, 0)) (rK_ BK858.out) hg (Kd.R_ne HO_7.out BK858.out (by decide))) <| b_ (hb) <| c_ (ho); clear HO_7 BK858 HB; obtain ⟨BK858, HB, HO865⟩ := n_; clear ho hb hg hat; obtain ⟨Ao48, co48, eo48⟩ := Kd.R_slice HO865.out; subst eo48) | ((with_reducible refine gate_builtin (b := .append) (xs := #[.tmp 84, .tmp 86]) rfl ?_); (try (refine gate_guard (by rfl) ?_; dsimp only)); at_builtin; refine Kd.R_append (Kd.int .i64) (w0 := w) w.heap.size rfl (.tmp 84) (.tmp 86) 22 3 (.int .i64 0) 8 rfl Try.underlying22 info3 rfl (by decide) (by omega) (.slice Ao48 y863.length co48) y863 (wrap64 ((wrap64 (Int.tdiv (wrap64 (bt x9_19 (ji33))) 16)) + (wrap64 (16 * (wrap64 (bt x9_19 (ji38))))))) [.int .i64 (wrap64 ((wrap64 (Int.tdiv (wrap64 (bt x9_19 (ji33))) 16)) + (wrap64 (16 * (wrap64 (bt x9_19 (ji38)))))))] (fun _ => True) (fun _ => False) rfl rfl ?aP (fun _ hk => hk.elim) ?aF ?aO ?aB ?aS ?aL ?_; (case aP => exact rfl); (case aB => exact (hS_ GE858.out)); (case aF => exact (fun _ _ => trivial)); (case aO => exact (rR_ HO865.out)); (case aS => exact (below_size (hS_ GE858.out))); (case aL => have := LMc46.out; omega); intro v867 w49 ho hb hg hat; rw [← Ny866.out] at ho; have n_ := b_ (blk_grown (g := gb858) (o := .cells #[.string x859000_19, .int .i64 x859001_19] 53 (0, 0)) (rK_ BK858.out) hg (Kd.R_ne HO865.out BK858.out (by decide))) <| b_ (hb) <| c_ (ho); clear HO865 BK858 HB; obtain ⟨BK858, HB, HO868⟩ := n_; clear ho hb hg hat)); try go_wp2_with (first | ((with_reducible refine gate_builtin (b := .append) (xs := #[.tmp 73, .tmp 75]) rfl ?_); (try (refine gate_guard (by rfl) ?_; dsimp only)); at_builtin; refine Kd.R_append (Kd.int .i64) (w0 := w) w.heap.size rfl (.tmp 73) (.tmp 75) 22 3 (.int .i64 0) 8 rfl Try.underlying22 info3 rfl (by decide) (by omega) u7 x7_1 (wrap64 ((wrap64 (bt x9_19 (ji29))) + (wrap64 (256 * (Int.tmod (wrap64 (bt x9_19 (ji33))) 16))))) [.int .i64 (wrap64 ((wrap64 (bt x9_19 (ji29))) + (wrap64 (256 * (Int.tmod (wrap64 (bt x9_19 (ji33))) 16)))))] (fun _ => True) (fun _ => False) rfl rfl ?aP (fun _ hk => hk.elim) ?aF ?aO ?aB ?aS ?aL ?_; (case aP => exact rfl); (case aB => exact (hS_ GE858.out)); (case aF => exact (fun _ _ => trivial)); (case aO => exact (rR_ HO_7.out)); (case aS => exact (below_size (hS_ GE858.out))); (case aL => have := LMc43.out; omega); intro v864 w47 ho hb hg hat; rw [← Ny863.out] at ho; have n_ := b_ (blk_grown (g := gb858) (o := .cells #[.string x859000_19, .int .i64 x859001_19] 53 (0, 0)) (rK_ BK858.out) hg (Kd.R_ne HO_7.out BK858.out (by decide))) <| b_ (hb) <| c_ (ho); clear HO_7 BK858 HB; obtain ⟨BK858, HB, HO865⟩ := n_; clear ho hb hg hat; obtain ⟨Ao48, co48, eo48⟩ := Kd.R_slice HO865.out; subst eo48) | ((with_reducible refine gate_builtin (b := .append) (xs := #[.tmp 84, .tmp 86]) rfl ?_); (try (refine gate_guard (by rfl) ?_; dsimp only)); at_builtin; refine Kd.R_append (Kd.int .i64) (w0 := w) w.heap.size rfl (.tmp 84) (.tmp 86) 22 3 (.int .i64 0) 8 rfl Try.underlying22 info3 rfl (by decide) (by omega) (.slice Ao48 y863.length co48) y863 (wrap64 ((wrap64 (Int.tdiv (wrap64 (bt x9_19 (ji33))) 16)) + (wrap64 (16 * (wrap64 (bt x9_19 (ji38))))))) [.int .i64 (wrap64 ((wrap64 (Int.tdiv (wrap64 (bt x9_19 (ji33))) 16)) + (wrap64 (16 * (wrap64 (bt x9_19 (ji38)))))))] (fun _ => True) (fun _ => False) rfl rfl ?aP (fun _ hk => hk.elim) ?aF ?aO ?aB ?aS ?aL ?_; (case aP => exact rfl); (case aB => exact (hS_ GE858.out)); (case aF => exact (fun _ _ => trivial)); (case aO => exact (rR_ HO865.out)); (case aS => exact (below_size (hS_ GE858.out))); (case aL => have := LMc46.out; omega); intro v867 w49 ho hb hg hat; rw [← Ny866.out] at ho; have n_ := b_ (blk_grown (g := gb858) (o := .cells #[.string x859000_19, .int .i64 x859001_19] 53 (0, 0)) (rK_ BK858.out) hg (Kd.R_ne HO865.out BK858.out (by decide))) <| b_ (hb) <| c_ (ho); clear HO865 BK858 HB; obtain ⟨BK858, HB, HO868⟩ := n_; clear ho hb hg hat)))
          go_roundg kj19
          case measure => have := HK1.out; have := HJ15.out; have := HJ19.out; omega
          case rel => exact ⟨(y866), (x9_19), (wrap64 (x10_1 + 1)), (x859000_19), (x859001_19), f0_, f0_, H', ⟨by have := HK1.out; have := HJ15.out; have := HJ19.out; omega⟩, ⟨rR_ HO868.out⟩, ⟨by refine kK_ ?_; exact BK858.out⟩, ⟨hS_ GE858.out⟩⟩
         rw [if_neg c45] at H
         have c45b0 := decide_eq_false c45
         have c45b1 : decide (y863.length < 256) = false := decide_eq_false (by omega)
         clear c45
         have H' := Aside0.mk H
         clear H
         have p32 := eq_true (oD_ : 0 ≤ ((ji29) : Int))
         have q32 := eq_true (oD_ : (ji29) < (x9_19.size : Int))
         have hx32 := bt_at x9_19 (ji29)
         have p36 := eq_true (oD_ : 0 ≤ ((ji33) : Int))
         have q36 := eq_true (oD_ : (ji33) < (x9_19.size : Int))
         have hx36 := bt_at x9_19 (ji33)
         have p37 := eq_true (oD_ : 0 ≤ ((ji33) : Int))
         have q37 := eq_true (oD_ : (ji33) < (x9_19.size : Int))
         have hx37 := bt_at x9_19 (ji33)
         have p41 := eq_true (oD_ : 0 ≤ ((ji38) : Int))
         have q41 := eq_true (oD_ : (ji38) < (x9_19.size : Int))
         have hx41 := bt_at x9_19 (ji38)
         go_wp2_with (first | ((with_reducible refine gate_builtin (b := .append) (xs := #[.tmp 73, .tmp 75]) rfl ?_); (try (refine gate_guard (by rfl) ?_; dsimp only)); at_builtin; refine Kd.R_append (Kd.int .i64) (w0 := w) w.heap.size rfl (.tmp 73) (.tmp 75) 22 3 (.int .i64 0) 8 rfl Try.underlying22 info3 rfl (by decide) (by omega) u7 x7_1 (wrap64 ((wrap64 (bt x9_19 (ji29))) + (wrap64 (256 * (Int.tmod (wrap64 (bt x9_19 (ji33))) 16))))) [.int .i64 (wrap64 ((wrap64 (bt x9_19 (ji29))) + (wrap64 (256 * (Int.tmod (wrap64 (bt x9_19 (ji33))) 16)))))] (fun _ => True) (fun _ => False) rfl rfl ?aP (fun _ hk => hk.elim) ?aF ?aO ?aB ?aS ?aL ?_; (case aP => exact rfl); (case aB => exact (hS_ GE858.out)); (case aF => exact (fun _ _ => trivial)); (case aO => exact (rR_ HO_7.out)); (case aS => exact (below_size (hS_ GE858.out))); (case aL => have := LMc43.out; omega); intro v864 w50 ho hb hg hat; rw [← Ny863.out] at ho; have n_ := b_ (blk_grown (g := gb858) (o := .cells #[.string x859000_19, .int .i64 x859001_19] 53 (0, 0)) (rK_ BK858.out) hg (Kd.R_ne HO_7.out BK858.out (by decide))) <| b_ (hb) <| c_ (ho); clear HO_7 BK858 HB; obtain ⟨BK858, HB, HO865⟩ := n_; clear ho hb hg hat; obtain ⟨Ao51, co51, eo51⟩ := Kd.R_slice HO865.out; subst eo51))
         repeat (go_quiet (first | ((with_reducible refine gate_builtin (b := .append) (xs := #[.tmp 73, .tmp 75]) rfl ?_); (try (refine gate_guard (by rfl) ?_; dsimp only)); at_builtin; refine Kd.R_append (Kd.int .i64) (w0 := w) w.heap.size rfl (.tmp 73) (.tmp 75) 22 3 (.int .i64 0) 8 rfl Try.underlying22 info3 rfl (by decide) (by omega) u7 x7_1 (wrap64 ((wrap64 (bt x9_19 (ji29))) + (wrap64 (256 * (Int.tmod (wrap64 (bt x9_19 (ji33))) 16))))) [.int .i64 (wrap64 ((wrap64 (bt x9_19 (ji29))) + (wrap64 (256 * (Int.tmod (wrap64 (bt x9_19 (ji33))) 16)))))] (fun _ => True) (fun _ => False) rfl rfl ?aP (fun _ hk => hk.elim) ?aF ?aO ?aB ?aS ?aL ?_; (case aP => exact rfl); (case aB => exact (hS_ GE858.out)); (case aF => exact (fun _ _ => trivial)); (case aO => exact (rR_ HO_7.out)); (case aS => exact (below_size (hS_ GE858.out))); (case aL => have := LMc43.out; omega); intro v864 w50 ho hb hg hat; rw [← Ny863.out] at ho; have n_ := b_ (blk_grown (g := gb858) (o := .cells #[.string x859000_19, .int .i64 x859001_19] 53 (0, 0)) (rK_ BK858.out) hg (Kd.R_ne HO_7.out BK858.out (by decide))) <| b_ (hb) <| c_ (ho); clear HO_7 BK858 HB; obtain ⟨BK858, HB, HO865⟩ := n_; clear ho hb hg hat; obtain ⟨Ao51, co51, eo51⟩ := Kd.R_slice HO865.out; subst eo51)); try go_wp2_with (first | ((with_reducible refine gate_builtin (b := .append) (xs := #[.tmp 73, .tmp 75]) rfl ?_); (try (refine gate_guard (by rfl) ?_; dsimp only)); at_builtin; refine Kd.R_append (Kd.int .i64) (w0 := w) w.heap.size rfl (.tmp 73) (.tmp 75) 22 3 (.int .i64 0) 8 rfl Try.underlying22 info3 rfl (by decide) (by omega) u7 x7_1 (wrap64 ((wrap64 (bt x9_19 (ji29))) + (wrap64 (256 * (Int.tmod (wrap64 (bt x9_19 (ji33))) 16))))) [.int .i64 (wrap64 ((wrap64 (bt x9_19 (ji29))) + (wrap64 (256 * (Int.tmod (wrap64 (bt x9_19 (ji33))) 16)))))] (fun _ => True) (fun _ => False) rfl rfl ?aP (fun _ hk => hk.elim) ?aF ?aO ?aB ?aS ?aL ?_; (case aP => exact rfl); (case aB => exact (hS_ GE858.out)); (case aF => exact (fun _ _ => trivial)); (case aO => exact (rR_ HO_7.out)); (case aS => exact (below_size (hS_ GE858.out))); (case aL => have := LMc43.out; omega); intro v864 w50 ho hb hg hat; rw [← Ny863.out] at ho; have n_ := b_ (blk_grown (g := gb858) (o := .cells #[.string x859000_19, .int .i64 x859001_19] 53 (0, 0)) (rK_ BK858.out) hg (Kd.R_ne HO_7.out BK858.out (by decide))) <| b_ (hb) <| c_ (ho); clear HO_7 BK858 HB; obtain ⟨BK858, HB, HO865⟩ := n_; clear ho hb hg hat; obtain ⟨Ao51, co51, eo51⟩ := Kd.R_slice HO865.out; subst eo51)))
         go_roundg kj19
         case measure => have := HK1.out; have := HJ15.out; have := HJ19.out; omega
         case rel => exact ⟨(y863), (x9_19), (wrap64 (x10_1 + 1)), (x859000_19), (x859001_19), f0_, f0_, H', ⟨by have := HK1.out; have := HJ15.out; have := HJ19.out; omega⟩, ⟨rR_ HO865.out⟩, ⟨by refine kK_ ?_; exact BK858.out⟩, ⟨hS_ GE858.out⟩⟩
        rw [if_neg c42] at H
        have c42b0 := decide_eq_false c42
        clear c42
        by_cases c53 : (wrap64 ((wrap64 (Int.tdiv (wrap64 (bt x9_19 (ji33))) 16)) + (wrap64 (16 * (wrap64 (bt x9_19 (ji38))))))) < 3329
        rotate_left
        ·rw [if_neg c53] at H
         have c53b0 := decide_eq_false c53
         clear c53
         have H' := Aside0.mk H
         clear H
         have p32 := eq_true (oD_ : 0 ≤ ((ji29) : Int))
         have q32 := eq_true (oD_ : (ji29) < (x9_19.size : Int))
         have hx32 := bt_at x9_19 (ji29)
         have p36 := eq_true (oD_ : 0 ≤ ((ji33) : Int))
         have q36 := eq_true (oD_ : (ji33) < (x9_19.size : Int))
         have hx36 := bt_at x9_19 (ji33)
         have p37 := eq_true (oD_ : 0 ≤ ((ji33) : Int))
         have q37 := eq_true (oD_ : (ji33) < (x9_19.size : Int))
         have hx37 := bt_at x9_19 (ji33)
         have p41 := eq_true (oD_ : 0 ≤ ((ji38) : Int))
         have q41 := eq_true (oD_ : (ji38) < (x9_19.size : Int))
         have hx41 := bt_at x9_19 (ji38)
         go_wp2
         repeat (go_quiet (fail); try go_wp2)
         go_roundg kj19
         case measure => have := HK1.out; have := HJ15.out; have := HJ19.out; omega
         case rel => exact ⟨(x7_1), (x9_19), (wrap64 (x10_1 + 1)), (x859000_19), (x859001_19), f0_, f0_, H', ⟨by have := HK1.out; have := HJ15.out; have := HJ19.out; omega⟩, ⟨rR_ HO_7.out⟩, ⟨by refine kK_ ?_; exact BK858.out⟩, ⟨hS_ GE858.out⟩⟩
        rw [if_pos c53] at H
        have c53b0 := decide_eq_true c53
        clear c53
        by_cases c54 : (x7_1.length : Int) < 256
        ·rw [if_pos c54] at H
         have c54b0 := decide_eq_true c54
         have c54b1 : decide (x7_1.length < 256) = true := decide_eq_true (by omega)
         clear c54
         obtain ⟨c55, H⟩ := iN_ H
         have LMc55 := Aside0.mk c55
         clear c55
         obtain ⟨y869, hy869⟩ : ∃ y_ : List Int, y_ = (x7_1 ++ [wrap64 ((wrap64 (Int.tdiv (wrap64 (bt x9_19 (ji33))) 16)) + (wrap64 (16 * (wrap64 (bt x9_19 (ji38))))))]) := ⟨_, rfl⟩
         first | replace H := yb_ hy869 H | rw [← hy869] at H
         have Ny869 := Aside0.mk hy869
         clear hy869
         have H' := Aside0.mk H
         clear H
         have p32 := eq_true (oD_ : 0 ≤ ((ji29) : Int))
         have q32 := eq_true (oD_ : (ji29) < (x9_19.size : Int))
         have hx32 := bt_at x9_19 (ji29)
         have p36 := eq_true (oD_ : 0 ≤ ((ji33) : Int))
         have q36 := eq_true (oD_ : (ji33) < (x9_19.size : Int))
         have hx36 := bt_at x9_19 (ji33)
         have p37 := eq_true (oD_ : 0 ≤ ((ji33) : Int))
         have q37 := eq_true (oD_ : (ji33) < (x9_19.size : Int))
         have hx37 := bt_at x9_19 (ji33)
         have p41 := eq_true (oD_ : 0 ≤ ((ji38) : Int))
         have q41 := eq_true (oD_ : (ji38) < (x9_19.size : Int))
         have hx41 := bt_at x9_19 (ji38)
         obtain ⟨Ao56, co56, eo56⟩ := Kd.R_slice HO_7.out
         subst eo56
         go_wp2_with (first | ((with_reducible refine gate_builtin (b := .append) (xs := #[.tmp 84, .tmp 86]) rfl ?_); (try (refine gate_guard (by rfl) ?_; dsimp only)); at_builtin; refine Kd.R_append (Kd.int .i64) (w0 := w) w.heap.size rfl (.tmp 84) (.tmp 86) 22 3 (.int .i64 0) 8 rfl Try.underlying22 info3 rfl (by decide) (by omega) (.slice Ao56 x7_1.length co56) x7_1 (wrap64 ((wrap64 (Int.tdiv (wrap64 (bt x9_19 (ji33))) 16)) + (wrap64 (16 * (wrap64 (bt x9_19 (ji38))))))) [.int .i64 (wrap64 ((wrap64 (Int.tdiv (wrap64 (bt x9_19 (ji33))) 16)) + (wrap64 (16 * (wrap64 (bt x9_19 (ji38)))))))] (fun _ => True) (fun _ => False) rfl rfl ?aP (fun _ hk => hk.elim) ?aF ?aO ?aB ?aS ?aL ?_; (case aP => exact rfl); (case aB => exact (hS_ GE858.out)); (case aF => exact (fun _ _ => trivial)); (case aO => exact (rR_ HO_7.out)); (case aS => exact (below_size (hS_ GE858.out))); (case aL => have := LMc55.out; omega); intro v870 w57 ho hb hg hat; rw [← Ny869.out] at ho; have n_ := b_ (blk_grown (g := gb858) (o := .cells #[.string x859000_19, .int .i64 x859001_19] 53 (0, 0)) (rK_ BK858.out) hg (Kd.R_ne HO_7.out BK858.out (by decide))) <| b_ (hb) <| c_ (ho); clear HO_7 BK858 HB; obtain ⟨BK858, HB, HO871⟩ := n_; clear ho hb hg hat))
         repeat (go_quiet (first | ((with_reducible refine gate_builtin (b := .append) (xs := #[.tmp 84, .tmp 86]) rfl ?_); (try (refine gate_guard (by rfl) ?_; dsimp only)); at_builtin; refine Kd.R_append (Kd.int .i64) (w0 := w) w.heap.size rfl (.tmp 84) (.tmp 86) 22 3 (.int .i64 0) 8 rfl Try.underlying22 info3 rfl (by decide) (by omega) (.slice Ao56 x7_1.length co56) x7_1 (wrap64 ((wrap64 (Int.tdiv (wrap64 (bt x9_19 (ji33))) 16)) + (wrap64 (16 * (wrap64 (bt x9_19 (ji38))))))) [.int .i64 (wrap64 ((wrap64 (Int.tdiv (wrap64 (bt x9_19 (ji33))) 16)) + (wrap64 (16 * (wrap64 (bt x9_19 (ji38)))))))] (fun _ => True) (fun _ => False) rfl rfl ?aP (fun _ hk => hk.elim) ?aF ?aO ?aB ?aS ?aL ?_; (case aP => exact rfl); (case aB => exact (hS_ GE858.out)); (case aF => exact (fun _ _ => trivial)); (case aO => exact (rR_ HO_7.out)); (case aS => exact (below_size (hS_ GE858.out))); (case aL => have := LMc55.out; omega); intro v870 w57 ho hb hg hat; rw [← Ny869.out] at ho; have n_ := b_ (blk_grown (g := gb858) (o := .cells #[.string x859000_19, .int .i64 x859001_19] 53 (0, 0)) (rK_ BK858.out) hg (Kd.R_ne HO_7.out BK858.out (by decide))) <| b_ (hb) <| c_ (ho); clear HO_7 BK858 HB; obtain ⟨BK858, HB, HO871⟩ := n_; clear ho hb hg hat)); try go_wp2_with (first | ((with_reducible refine gate_builtin (b := .append) (xs := #[.tmp 84, .tmp 86]) rfl ?_); (try (refine gate_guard (by rfl) ?_; dsimp only)); at_builtin; refine Kd.R_append (Kd.int .i64) (w0 := w) w.heap.size rfl (.tmp 84) (.tmp 86) 22 3 (.int .i64 0) 8 rfl Try.underlying22 info3 rfl (by decide) (by omega) (.slice Ao56 x7_1.length co56) x7_1 (wrap64 ((wrap64 (Int.tdiv (wrap64 (bt x9_19 (ji33))) 16)) + (wrap64 (16 * (wrap64 (bt x9_19 (ji38))))))) [.int .i64 (wrap64 ((wrap64 (Int.tdiv (wrap64 (bt x9_19 (ji33))) 16)) + (wrap64 (16 * (wrap64 (bt x9_19 (ji38)))))))] (fun _ => True) (fun _ => False) rfl rfl ?aP (fun _ hk => hk.elim) ?aF ?aO ?aB ?aS ?aL ?_; (case aP => exact rfl); (case aB => exact (hS_ GE858.out)); (case aF => exact (fun _ _ => trivial)); (case aO => exact (rR_ HO_7.out)); (case aS => exact (below_size (hS_ GE858.out))); (case aL => have := LMc55.out; omega); intro v870 w57 ho hb hg hat; rw [← Ny869.out] at ho; have n_ := b_ (blk_grown (g := gb858) (o := .cells #[.string x859000_19, .int .i64 x859001_19] 53 (0, 0)) (rK_ BK858.out) hg (Kd.R_ne HO_7.out BK858.out (by decide))) <| b_ (hb) <| c_ (ho); clear HO_7 BK858 HB; obtain ⟨BK858, HB, HO871⟩ := n_; clear ho hb hg hat)))
         go_roundg kj19
         case measure => have := HK1.out; have := HJ15.out; have := HJ19.out; omega
         case rel => exact ⟨(y869), (x9_19), (wrap64 (x10_1 + 1)), (x859000_19), (x859001_19), f0_, f0_, H', ⟨by have := HK1.out; have := HJ15.out; have := HJ19.out; omega⟩, ⟨rR_ HO871.out⟩, ⟨by refine kK_ ?_; exact BK858.out⟩, ⟨hS_ GE858.out⟩⟩
        rw [if_neg c54] at H
        have c54b0 := decide_eq_false c54
        have c54b1 : decide (x7_1.length < 256) = false := decide_eq_false (by omega)
        clear c54
        have H' := Aside0.mk H
        clear H
        have p32 := eq_true (oD_ : 0 ≤ ((ji29) : Int))
        have q32 := eq_true (oD_ : (ji29) < (x9_19.size : Int))
        have hx32 := bt_at x9_19 (ji29)
        have p36 := eq_true (oD_ : 0 ≤ ((ji33) : Int))
        have q36 := eq_true (oD_ : (ji33) < (x9_19.size : Int))
        have hx36 := bt_at x9_19 (ji33)
        have p37 := eq_true (oD_ : 0 ≤ ((ji33) : Int))
        have q37 := eq_true (oD_ : (ji33) < (x9_19.size : Int))
        have hx37 := bt_at x9_19 (ji33)
        have p41 := eq_true (oD_ : 0 ≤ ((ji38) : Int))
        have q41 := eq_true (oD_ : (ji38) < (x9_19.size : Int))
        have hx41 := bt_at x9_19 (ji38)
        obtain ⟨Ao58, co58, eo58⟩ := Kd.R_slice HO_7.out
        subst eo58
        go_wp2
        repeat (go_quiet (fail); try go_wp2)
        go_roundg kj19
        case measure => have := HK1.out; have := HJ15.out; have := HJ19.out; omega
        case rel => exact ⟨(x7_1), (x9_19), (wrap64 (x10_1 + 1)), (x859000_19), (x859001_19), f0_, f0_, H', ⟨by have := HK1.out; have := HJ15.out; have := HJ19.out; omega⟩, ⟨rR_ HO_7.out⟩, ⟨by refine kK_ ?_; exact BK858.out⟩, ⟨hS_ GE858.out⟩⟩
     ·replace c19 := Bool.eq_false_iff.mpr c19
      subst c19
      replace H := iF_ H
      have H' := Aside0.mk H
      clear H
      go_wp2
      repeat (go_quiet (fail); try go_wp2)
      go_loopg [7] kj15 (fun kq v7 w' => ∃ (x7_3 : List Int), Aside0 (spec_Uniform.l1 kq x7_3 = some r) ∧ Aside0 (kq ≤ kj15) ∧ Aside0 (Kd.R (Kd.int .i64) 3 w' w.heap.size (fun _ => True) v7 x7_3) ∧ Aside0 (w'.heap[gb858]? = some (.cells #[.string x859000_1, .int .i64 x859001_1] 53 (0, 0))) ∧ Aside0 (Below w.heap.size w w'))
      case atStart => exact ⟨(x7_1), H', ⟨Nat.le_refl _⟩, ⟨rR_ HO_7.out⟩, ⟨by refine kK_ ?_; exact BK858.out⟩, ⟨hS_ GE858.out⟩⟩
      case round =>
       clear H'
       obtain ⟨x7_3, HA, HK3, HO_7, BK858, HB⟩ := hrel
       cases gk with
       | zero => exact absurd HA.out (by simp [spec_Uniform.l1])
       | succ k3 =>
        have H := HA.out
        clear HA
        simp only [spec_Uniform.l1] at H
        by_cases c59 : (x7_3.length : Int) < 256
        ·rw [if_pos c59] at H
         have c59b0 := decide_eq_true c59
         have c59b1 : decide (x7_3.length < 256) = true := decide_eq_true (by omega)
         clear c59
         obtain ⟨c60, H⟩ := iN_ H
         have LMc60 := Aside0.mk c60
         clear c60
         obtain ⟨y872, hy872⟩ : ∃ y_ : List Int, y_ = (x7_3 ++ [0]) := ⟨_, rfl⟩
         first | replace H := yb_ hy872 H | rw [← hy872] at H
         have Ny872 := Aside0.mk hy872
         clear hy872
         have H' := Aside0.mk H
         clear H
         obtain ⟨Ao61, co61, eo61⟩ := Kd.R_slice HO_7.out
         subst eo61
         go_wp2_with (first | ((with_reducible refine gate_builtin (b := .append) (xs := #[.tmp 91, .tmp 92]) rfl ?_); (try (refine gate_guard (by rfl) ?_; dsimp only)); at_builtin; refine Kd.R_append (Kd.int .i64) (w0 := w) w.heap.size rfl (.tmp 91) (.tmp 92) 22 3 (.int .i64 0) 8 rfl Try.underlying22 info3 rfl (by decide) (by omega) (.slice Ao61 x7_3.length co61) x7_3 0 [.int .i64 0] (fun _ => True) (fun _ => False) rfl rfl ?aP (fun _ hk => hk.elim) ?aF ?aO ?aB ?aS ?aL ?_; (case aP => exact rfl); (case aB => exact (hS_ GE858.out)); (case aF => exact (fun _ _ => trivial)); (case aO => exact (rR_ HO_7.out)); (case aS => exact (below_size (hS_ GE858.out))); (case aL => have := LMc60.out; omega); intro v873 w62 ho hb hg hat; rw [← Ny872.out] at ho; have n_ := b_ (blk_grown (g := gb858) (o := .cells #[.string x859000_1, .int .i64 x859001_1] 53 (0, 0)) (rK_ BK858.out) hg (Kd.R_ne HO_7.out BK858.out (by decide))) <| b_ (hb) <| c_ (ho); clear HO_7 BK858 HB; obtain ⟨BK858, HB, HO874⟩ := n_; clear ho hb hg hat))
         repeat (go_quiet (first | ((with_reducible refine gate_builtin (b := .append) (xs := #[.tmp 91, .tmp 92]) rfl ?_); (try (refine gate_guard (by rfl) ?_; dsimp only)); at_builtin; refine Kd.R_append (Kd.int .i64) (w0 := w) w.heap.size rfl (.tmp 91) (.tmp 92) 22 3 (.int .i64 0) 8 rfl Try.underlying22 info3 rfl (by decide) (by omega) (.slice Ao61 x7_3.length co61) x7_3 0 [.int .i64 0] (fun _ => True) (fun _ => False) rfl rfl ?aP (fun _ hk => hk.elim) ?aF ?aO ?aB ?aS ?aL ?_; (case aP => exact rfl); (case aB => exact (hS_ GE858.out)); (case aF => exact (fun _ _ => trivial)); (case aO => exact (rR_ HO_7.out)); (case aS => exact (below_size (hS_ GE858.out))); (case aL => have := LMc60.out; omega); intro v873 w62 ho hb hg hat; rw [← Ny872.out] at ho; have n_ := b_ (blk_grown (g := gb858) (o := .cells #[.string x859000_1, .int .i64 x859001_1] 53 (0, 0)) (rK_ BK858.out) hg (Kd.R_ne HO_7.out BK858.out (by decide))) <| b_ (hb) <| c_ (ho); clear HO_7 BK858 HB; obtain ⟨BK858, HB, HO874⟩ := n_; clear ho hb hg hat)); try go_wp2_with (first | ((with_reducible refine gate_builtin (b := .append) (xs := #[.tmp 91, .tmp 92]) rfl ?_); (try (refine gate_guard (by rfl) ?_; dsimp only)); at_builtin; refine Kd.R_append (Kd.int .i64) (w0 := w) w.heap.size rfl (.tmp 91) (.tmp 92) 22 3 (.int .i64 0) 8 rfl Try.underlying22 info3 rfl (by decide) (by omega) (.slice Ao61 x7_3.length co61) x7_3 0 [.int .i64 0] (fun _ => True) (fun _ => False) rfl rfl ?aP (fun _ hk => hk.elim) ?aF ?aO ?aB ?aS ?aL ?_; (case aP => exact rfl); (case aB => exact (hS_ GE858.out)); (case aF => exact (fun _ _ => trivial)); (case aO => exact (rR_ HO_7.out)); (case aS => exact (below_size (hS_ GE858.out))); (case aL => have := LMc60.out; omega); intro v873 w62 ho hb hg hat; rw [← Ny872.out] at ho; have n_ := b_ (blk_grown (g := gb858) (o := .cells #[.string x859000_1, .int .i64 x859001_1] 53 (0, 0)) (rK_ BK858.out) hg (Kd.R_ne HO_7.out BK858.out (by decide))) <| b_ (hb) <| c_ (ho); clear HO_7 BK858 HB; obtain ⟨BK858, HB, HO874⟩ := n_; clear ho hb hg hat)))
         go_roundg k3
         case measure => have := HK1.out; have := HJ15.out; have := HK3.out; omega
         case rel => exact ⟨(y872), H', ⟨by have := HK1.out; have := HJ15.out; have := HK3.out; omega⟩, ⟨rR_ HO874.out⟩, ⟨by refine kK_ ?_; exact BK858.out⟩, ⟨hS_ GE858.out⟩⟩
        rw [if_neg c59] at H
        have c59b0 := decide_eq_false c59
        have c59b1 : decide (x7_3.length < 256) = false := decide_eq_false (by omega)
        clear c59
        obtain rfl := Option.some.inj H
        obtain ⟨Ao63, co63, eo63⟩ := Kd.R_slice HO_7.out
        subst eo63
        go_wp2
        repeat (go_quiet (fail); try go_wp2)
        go_ret
        exact ⟨_, f1_, rR_ HO_7.out, hS_ GE858.out⟩

/-! ### spec_l13Matrix: function 52 -/
mutual
def spec_l13Matrix.l0 : Nat → ByteArray → List (List Int) → Int → Option ((List (List Int)))
 | 0, _, _, _ => none
 | k + 1, x0, x3, x4 => if x4 < 2 then (spec_l13Matrix.l1 k x0 x3 x4 0) else (some x3)
def spec_l13Matrix.l1 : Nat → ByteArray → List (List Int) → Int → Int → Option ((List (List Int)))
 | 0, _, _, _, _ => none
 | k + 1, x0, x3, x4, x5 => if x5 < 2 then ((spec_Uniform.f k x0 x5 x4).bind fun t878 => (if x3.length < 5864062014805 then (spec_l13Matrix.l1 k x0 (x3 ++ [t878]) x4 (wrap64 (x5 + 1))) else (none))) else (spec_l13Matrix.l0 k x0 x3 (wrap64 (x4 + 1)))
end
def spec_l13Matrix.f (k : Nat) (a0 : ByteArray) : Option ((List (List Int))) := spec_l13Matrix.l0 k a0 (([] : List (List Int))) 0
theorem spec_l13Matrix.mono_l : ∀ k, (∀ y0 y1 y2, LeO (spec_l13Matrix.l0 k y0 y1 y2) (spec_l13Matrix.l0 (k + 1) y0 y1 y2)) ∧ (∀ y0 y1 y2 y3, LeO (spec_l13Matrix.l1 k y0 y1 y2 y3) (spec_l13Matrix.l1 (k + 1) y0 y1 y2 y3))
 | 0 => ⟨fun _ _ _ r h => by simp [spec_l13Matrix.l0] at h, fun _ _ _ _ r h => by simp [spec_l13Matrix.l1] at h⟩
 | k + 1 => by
  obtain ⟨ih0, ih1⟩ := spec_l13Matrix.mono_l k
  refine ⟨?_, ?_⟩ <;> (intros; (first | unfold spec_l13Matrix.l0 | unfold spec_l13Matrix.l1); exact o3_ ih0 ih1 spec_Uniform.mono)
theorem spec_l13Matrix.mono : ∀ a0 k, LeO (spec_l13Matrix.f k a0) (spec_l13Matrix.f (k + 1) a0) := by
 intro a0 k
 obtain ⟨ih0, ih1⟩ := spec_l13Matrix.mono_l k
 unfold spec_l13Matrix.f
 exact o3_ ih0 ih1 spec_Uniform.mono
theorem spec_l13Matrix.calls (k : Nat) (a0 : ByteArray) (r : List (List Int)) (w : World) (h : spec_l13Matrix.f k a0 = some r) :
  Calls Try.prog 52 #[.string a0] w fun e w' => ∃ v0_ : Value, e = .returned (v0_) ∧ Kd.S (Kd.slice 3 (Kd.int .i64)) 22 w' w.heap.size (fun _ => True) v0_ r ∧ Below w.heap.size w w' := by
 have HB := Aside0.mk (Below.refl w.heap.size w)
 delta spec_l13Matrix.f at h
 have H := h
 clear h
 obtain ⟨y875, hy875⟩ : ∃ y_ : List (List Int), y_ = (([] : List (List Int))) := ⟨_, rfl⟩
 first | replace H := yb_ hy875 H | rw [← hy875] at H
 have Ny875 := Aside0.mk hy875
 clear hy875
 have H' := Aside0.mk H
 clear H
 go_enter Try.func52, Try.ntmps52
 go_wp2_with (first | ((with_reducible refine gate_dst (N := 6) rfl ?_); refine Kd.S_lit (Kd.slice 3 (Kd.int .i64)) _ 22 ?hg (N := 6) ?hd (xs := ([] : List (List Int))) (inner := []) (ok := fun _ => True) (okp := fun _ => True) ?hr ?hp (fun _ hk => hk) trivial (Below.refl _ _) (Nat.le_refl _) (by simp) ?_; (case hd => rfl); (case hg => rfl); (case hr => first | (go_simp; done) | (go_simp; rfl)); (case hp => exact (Reps.none _ _)); intro v876 w2 ho3 hb hg_ hnew_; clear hg_ hnew_; (first | rw [← Ny875.out] at ho3 | (simp only [Int.reduceToNat] at ho3; rw [← Ny875.out] at ho3)); have n_ := b_ (Kd.S_lower ho3 (below_size (hB_))) <| c_ (below_step (hB_) hb); clear HB; obtain ⟨HO877, HB⟩ := n_; clear hb ho3))
 go_loopg [3, 4] k (fun kq v3 v4 w' => ∃ (x3_1 : List (List Int)) (x4_1 : Int), v4 = .int .i64 x4_1 ∧ Aside0 (spec_l13Matrix.l0 kq a0 x3_1 x4_1 = some r) ∧ Aside0 (kq ≤ k) ∧ Aside0 (Kd.S (Kd.slice 3 (Kd.int .i64)) 22 w' w.heap.size (fun _ => True) v3 x3_1) ∧ Aside0 (Below w.heap.size w w'))
 case atStart => exact ⟨(y875), (0), f0_, H', ⟨Nat.le_refl _⟩, ⟨rS_ HO877.out⟩, ⟨hB_⟩⟩
 case round =>
  clear H'
  obtain ⟨x3_1, x4_1, rfl, HA, HK1, HO_3, HB⟩ := hrel
  cases gk with
  | zero => exact absurd HA.out (by simp [spec_l13Matrix.l0])
  | succ k1 =>
   have H := HA.out
   clear HA
   simp only [spec_l13Matrix.l0] at H
   by_cases c4 : x4_1 < 2
   rotate_left
   ·rw [if_neg c4] at H
    have c4b0 := decide_eq_false c4
    clear c4
    obtain rfl := Option.some.inj H
    go_wp2
    go_ret
    exact ⟨_, f1_, by refine kS_ ?_; exact HO_3.out, hB_⟩
   rw [if_pos c4] at H
   have c4b0 := decide_eq_true c4
   clear c4
   have H' := Aside0.mk H
   clear H
   go_wp2
   go_loopg [3, 5] k1 (fun kq v3 v5 w' => ∃ (x3_2 : List (List Int)) (x5_2 : Int), v5 = .int .i64 x5_2 ∧ Aside0 (spec_l13Matrix.l1 kq a0 x3_2 x4_1 x5_2 = some r) ∧ Aside0 (kq ≤ k1) ∧ Aside0 (Kd.S (Kd.slice 3 (Kd.int .i64)) 22 w' w.heap.size (fun _ => True) v3 x3_2) ∧ Aside0 (Below w.heap.size w w'))
   case atStart => exact ⟨(x3_1), (0), f0_, H', ⟨Nat.le_refl _⟩, ⟨rS_ HO_3.out⟩, ⟨hB_⟩⟩
   case round =>
    clear H'
    obtain ⟨x3_2, x5_2, rfl, HA, HK2, HO_3, HB⟩ := hrel
    cases gk with
    | zero => exact absurd HA.out (by simp [spec_l13Matrix.l1])
    | succ k2 =>
     have H := HA.out
     clear HA
     simp only [spec_l13Matrix.l1] at H
     by_cases c5 : x5_2 < 2
     ·rw [if_pos c5] at H
      have c5b0 := decide_eq_true c5
      clear c5
      obtain ⟨t878, A6, H⟩ := bN_ H
      obtain ⟨c7, H⟩ := iN_ H
      have LMc7 := Aside0.mk c7
      clear c7
      obtain ⟨y881, hy881⟩ : ∃ y_ : List (List Int), y_ = (x3_2 ++ [t878]) := ⟨_, rfl⟩
      first | replace H := yb_ hy881 H | rw [← hy881] at H
      have Ny881 := Aside0.mk hy881
      clear hy881
      have H' := Aside0.mk H
      clear H
      go_wp2_with (first | ((with_reducible refine gate_callee (f := 13) rfl ?_); refine goesL_ (some 19) rfl rfl Try.func13 (by kernel_rfl) rfl #[.string a0, .int .i64 x5_2, .int .i64 x4_1] rfl aM_ ?_; (with_reducible refine (spec_Uniform.calls k2 a0 x5_2 x4_1 t878 _ A6.out).mono ?_); rintro e w8 ⟨v879, rfl, ho0, hb⟩; refine ⟨_, rfl, ?_⟩; have n_ := b_ (Kd.S_elder' (rS_ HO_3.out) (Kd.R_base ho0) hb) <| b_ (Kd.R_lower ho0 (below_size (hB_))) <| c_ (below_step (hB_) hb); clear HO_3 HB; obtain ⟨HO_3, HO880, HB⟩ := n_; obtain ⟨Ao10, co10, eo10⟩ := Kd.R_slice HO880.out; subst eo10) | ((with_reducible refine gate_builtin (b := .append) (xs := #[.tmp 15, .tmp 20]) rfl ?_); at_builtin; refine Kd.S_append (Kd.slice 3 (Kd.int .i64)) (w0 := w) w.heap.size rfl (.tmp 15) (.tmp 20) 70 22 (.slice none 0 0) 24 rfl Try.underlying70 info22 rfl (by decide) (by omega) u3 x3_2 t878 [.slice Ao10 t878.length co10] (fun _ => True) (fun k_ => some k_ = (.slice Ao10 t878.length co10 : Value).ownBlock) rfl rfl ?aP (fun k_ hk_ => ((Kd.R_mono (ok' := fun k_ => ((fun _ => True)) k_ ∧ some k_ ≠ (u3 : Value).ownBlock) (Kd.R_apart' (HO880.out) (Kd.S_typed HO_3.out) (by decide)) (fun k_ hk => ⟨trivial, hk.2⟩))).1 k_ hk_.symm) ?aF ?aO ?aB ?aS ?aL ?_; (case aP => exact Kd.M_row (Kd.R_mono (Kd.R_tight rfl (Kd.R_mono (ok' := fun k_ => ((fun _ => True)) k_ ∧ some k_ ≠ (u3 : Value).ownBlock) (Kd.R_apart' (HO880.out) (Kd.S_typed HO_3.out) (by decide)) (fun k_ hk => ⟨trivial, hk.2⟩))) (fun _ h_ => h_))); (case aB => exact (hB_)); (case aF => exact (fun _ _ => trivial)); (case aO => exact (by refine kS_ ?_; exact Kd.S_mono HO_3.out (fun k_ hk => ⟨trivial, fun e_ => hk.2 e_⟩))); (case aS => exact (below_size (hB_))); (case aL => have := LMc7.out; omega); intro v882 w9 ho hb hg hat; rw [← Ny881.out] at ho; have n_ := b_ (hb) <| c_ (ho); clear HO_3 HO880 HB; obtain ⟨HB, HO883⟩ := n_; clear ho hb hg hat))
      go_roundg k2
      case measure => have := HK1.out; have := HK2.out; omega
      case rel => exact ⟨(y881), (wrap64 (x5_2 + 1)), f0_, H', ⟨by have := HK1.out; have := HK2.out; omega⟩, ⟨rS_ HO883.out⟩, ⟨hB_⟩⟩
     rw [if_neg c5] at H
     have c5b0 := decide_eq_false c5
     clear c5
     have H' := Aside0.mk H
     clear H
     go_wp2
     go_roundg k2
     case measure => have := HK1.out; have := HK2.out; omega
     case rel => exact ⟨(x3_2), (wrap64 (x4_1 + 1)), f0_, H', ⟨by have := HK1.out; have := HK2.out; omega⟩, ⟨rS_ HO_3.out⟩, ⟨hB_⟩⟩

/-! ### spec_Encrypt: function 27 -/
mutual
def spec_Encrypt.j0 : Nat → ByteArray → ByteArray → ByteArray → Bool → Option (ByteArray × Bool)
 | 0, _, _, _, _ => none
 | k + 1, x0, x1, x2, x31 => if x31 = true then (some ((⟨#[]⟩ : ByteArray), false)) else ((spec_l13Polys.f k x0).bind fun bt1005 => (if 768 ≤ (x0.size : Int) then ((spec_l13Matrix.f k (x0.extract 768 x0.size)).bind fun t1009 => (spec_Encrypt.l0 k x1 x2 bt1005.1 t1009 (([] : List (List Int))) 0)) else (none)))
def spec_Encrypt.l0 : Nat → ByteArray → ByteArray → List (List Int) → List (List Int) → List (List Int) → Int → Option (ByteArray × Bool)
 | 0, _, _, _, _, _, _ => none
 | k + 1, x1, x2, x8, x10, x11, x12 => if x12 < 2 then ((spec_Small.f k x2 x12).bind fun t1015 => ((spec_Ntt.f k t1015).bind fun t1018 => (if x11.length < 5864062014805 then (spec_Encrypt.l0 k x1 x2 x8 x10 (x11 ++ [t1018]) (wrap64 (x12 + 1))) else (none)))) else (spec_Encrypt.l1 k x1 x2 x8 x10 x11 (⟨#[]⟩ : ByteArray) 0)
def spec_Encrypt.l1 : Nat → ByteArray → ByteArray → List (List Int) → List (List Int) → List (List Int) → ByteArray → Int → Option (ByteArray × Bool)
 | 0, _, _, _, _, _, _, _ => none
 | k + 1, x1, x2, x8, x10, x11, x13, x14 => if x14 < 2 then (spec_Encrypt.l2 k x1 x2 x8 x10 x11 x13 x14 (([] : List (List Int))) 0) else ((spec_l13Sum.f k x8 x11).bind fun t1044 => ((spec_InvNtt.f k t1044).bind fun t1047 => ((spec_Small.f k x2 4).bind fun t1050 => ((spec_PolyAdd.f k t1047 t1050).bind fun t1053 => ((spec_l13Bits.f k x1).bind fun t1056 => ((spec_PolyAdd.f k t1053 t1056).bind fun t1059 => ((spec_l13Squeezed.f k t1059 4).bind fun t1062 => (if x13.size + t1062.size ≤ 9223372036854775807 then (some (x13 ++ t1062, true)) else (none)))))))))
def spec_Encrypt.l2 : Nat → ByteArray → ByteArray → List (List Int) → List (List Int) → List (List Int) → ByteArray → Int → List (List Int) → Int → Option (ByteArray × Bool)
 | 0, _, _, _, _, _, _, _, _, _ => none
 | k + 1, x1, x2, x8, x10, x11, x13, x14, x15, x16 => if x16 < 2 then (if 0 ≤ (wrap64 ((wrap64 (x16 * 2)) + x14)) then (if (wrap64 ((wrap64 (x16 * 2)) + x14)) < (x10.length : Int) then (if x15.length < 5864062014805 then (spec_Encrypt.l2 k x1 x2 x8 x10 x11 x13 x14 (x15 ++ [rd_L5 x10 (wrap64 ((wrap64 (x16 * 2)) + x14))]) (wrap64 (x16 + 1))) else (none)) else (none)) else (none)) else ((spec_l13Sum.f k x15 x11).bind fun t1031 => ((spec_InvNtt.f k t1031).bind fun t1034 => ((spec_Small.f k x2 (wrap64 (2 + x14))).bind fun t1037 => ((spec_PolyAdd.f k t1034 t1037).bind fun t1040 => ((spec_l13Squeezed.f k t1040 10).bind fun t1043 => (if x13.size + t1043.size ≤ 9223372036854775807 then (spec_Encrypt.l1 k x1 x2 x8 x10 x11 (x13 ++ t1043) (wrap64 (x14 + 1))) else (none)))))))
end
def spec_Encrypt.f (k : Nat) (a0 : ByteArray) (a1 : ByteArray) (a2 : ByteArray) : Option (ByteArray × Bool) := (spec_PublicOk.f k a0).bind fun t1004 => (if t1004 = true then (if (a1.size : Int) = 32 then (spec_Encrypt.j0 k a0 a1 a2 ((a2.size : Int) != 32)) else (spec_Encrypt.j0 k a0 a1 a2 true)) else (spec_Encrypt.j0 k a0 a1 a2 true))
theorem spec_Encrypt.mono_l : ∀ k, (∀ y0 y1 y2 y3, LeO (spec_Encrypt.j0 k y0 y1 y2 y3) (spec_Encrypt.j0 (k + 1) y0 y1 y2 y3)) ∧ (∀ y0 y1 y2 y3 y4 y5, LeO (spec_Encrypt.l0 k y0 y1 y2 y3 y4 y5) (spec_Encrypt.l0 (k + 1) y0 y1 y2 y3 y4 y5)) ∧ (∀ y0 y1 y2 y3 y4 y5 y6, LeO (spec_Encrypt.l1 k y0 y1 y2 y3 y4 y5 y6) (spec_Encrypt.l1 (k + 1) y0 y1 y2 y3 y4 y5 y6)) ∧ (∀ y0 y1 y2 y3 y4 y5 y6 y7 y8, LeO (spec_Encrypt.l2 k y0 y1 y2 y3 y4 y5 y6 y7 y8) (spec_Encrypt.l2 (k + 1) y0 y1 y2 y3 y4 y5 y6 y7 y8))
 | 0 => ⟨fun _ _ _ _ r h => by simp [spec_Encrypt.j0] at h, fun _ _ _ _ _ _ r h => by simp [spec_Encrypt.l0] at h, fun _ _ _ _ _ _ _ r h => by simp [spec_Encrypt.l1] at h, fun _ _ _ _ _ _ _ _ _ r h => by simp [spec_Encrypt.l2] at h⟩
 | k + 1 => by
  obtain ⟨ih0, ih1, ih2, ih3⟩ := spec_Encrypt.mono_l k
  refine ⟨?_, ?_, ?_, ?_⟩ <;> (intros; (first | unfold spec_Encrypt.j0 | unfold spec_Encrypt.l0 | unfold spec_Encrypt.l1 | unfold spec_Encrypt.l2); exact o14_ ih0 ih1 ih2 ih3 spec_InvNtt.mono spec_Ntt.mono spec_PolyAdd.mono spec_PublicOk.mono spec_Small.mono spec_l13Bits.mono spec_l13Matrix.mono spec_l13Polys.mono spec_l13Squeezed.mono spec_l13Sum.mono)
theorem spec_Encrypt.mono : ∀ a0 a1 a2 k, LeO (spec_Encrypt.f k a0 a1 a2) (spec_Encrypt.f (k + 1) a0 a1 a2) := by
 intro a0 a1 a2 k
 obtain ⟨ih0, ih1, ih2, ih3⟩ := spec_Encrypt.mono_l k
 unfold spec_Encrypt.f
 exact o14_ ih0 ih1 ih2 ih3 spec_InvNtt.mono spec_Ntt.mono spec_PolyAdd.mono spec_PublicOk.mono spec_Small.mono spec_l13Bits.mono spec_l13Matrix.mono spec_l13Polys.mono spec_l13Squeezed.mono spec_l13Sum.mono
theorem spec_Encrypt.calls (k : Nat) (a0 : ByteArray) (a1 : ByteArray) (a2 : ByteArray) (r1 : ByteArray) (r2 : Bool) (w : World) (h : spec_Encrypt.f k a0 a1 a2 = some (r1, r2)) :
  Calls Try.prog 27 #[.string a0, .string a1, .string a2] w fun e w' => e = .returned (.tuple #[.string r1, .bool r2]) ∧ Below w.heap.size w w' := by
 have HB := Aside0.mk (Below.refl w.heap.size w)
 delta spec_Encrypt.f at h
 have H := h
 clear h
 have HC4 := Aside0.mk H
 clear H
 go_enter Try.func27, Try.ntmps27
 go_upto_region 1 with (fail)
 go_cut [31] (fun v31 wc => ∃ (kq : Nat) (x31_3 : Bool), v31 = .bool x31_3 ∧ Aside0 (spec_Encrypt.j0 kq a0 a1 a2 x31_3 = some (r1, r2)) ∧ Aside0 (kq ≤ k) ∧ Aside0 (Below w.heap.size w wc))
 case first =>
  have H := HC4.out
  clear HC4
  obtain ⟨t1004, A5, H⟩ := bN_ H
  by_cases c6 : t1004 = true
  ·subst c6
   replace H := iT_ H
   by_cases c7 : (a1.size : Int) = 32
   ·rw [if_pos c7] at H
    have c7b0 : ((a1.size : Int) == 32) = true := beq_iff_eq.mpr c7
    have c7b1 : ((a1.size : Int) != 32) = false := bne_eq_false_iff_eq.mpr c7
    clear c7
    (first | rw [c7b0] | (simp only [i64_w, i32_w]; rw [c7b0]) | skip)
    have H' := Aside0.mk H
    clear H
    go_wp2_with (first | ((with_reducible refine gate_callee (f := 50) rfl ?_); refine goesL_ (some 20) rfl rfl Try.func50 (by kernel_rfl) rfl #[.string a0] rfl aM_ ?_; (with_reducible refine (spec_PublicOk.calls k a0 true _ A5.out).mono ?_); rintro e w8 ⟨rfl, hb⟩; refine ⟨_, rfl, ?_⟩; replace HB := Aside0.mk (below_step (hB_) hb); (try clear hb)))
    go_meet
    case rel => exact ⟨_, (((a2.size : Int) != 32)), f0_, H', ⟨by first | omega | exact Nat.le_refl _⟩, ⟨hB_⟩⟩
   rw [if_neg c7] at H
   have c7b0 : ((a1.size : Int) == 32) = false := beq_eq_false_iff_ne.mpr c7
   have c7b1 : ((a1.size : Int) != 32) = true := bne_iff_ne.mpr c7
   (first | rw [c7b0] | (simp only [i64_w, i32_w]; rw [c7b0]) | skip)
   have H' := Aside0.mk H
   clear H
   go_wp2_with (first | ((with_reducible refine gate_callee (f := 50) rfl ?_); refine goesL_ (some 20) rfl rfl Try.func50 (by kernel_rfl) rfl #[.string a0] rfl aM_ ?_; (with_reducible refine (spec_PublicOk.calls k a0 true _ A5.out).mono ?_); rintro e w9 ⟨rfl, hb⟩; refine ⟨_, rfl, ?_⟩; replace HB := Aside0.mk (below_step (hB_) hb); (try clear hb)))
   go_meet
   case rel => exact ⟨_, (true), f0_, H', ⟨by first | omega | exact Nat.le_refl _⟩, ⟨hB_⟩⟩
  ·replace c6 := Bool.eq_false_iff.mpr c6
   subst c6
   replace H := iF_ H
   have H' := Aside0.mk H
   clear H
   go_wp2_with (first | ((with_reducible refine gate_callee (f := 50) rfl ?_); refine goesL_ (some 20) rfl rfl Try.func50 (by kernel_rfl) rfl #[.string a0] rfl aM_ ?_; (with_reducible refine (spec_PublicOk.calls k a0 false _ A5.out).mono ?_); rintro e w10 ⟨rfl, hb⟩; refine ⟨_, rfl, ?_⟩; replace HB := Aside0.mk (below_step (hB_) hb); (try clear hb)))
   go_meet
   case rel => exact ⟨_, (true), f0_, H', ⟨by first | omega | exact Nat.le_refl _⟩, ⟨hB_⟩⟩
 case rest =>
  clear HC4
  obtain ⟨kq, x31_3, rfl, HA, HJ3, HB⟩ := hcut
  cases kq with
  | zero => exact absurd HA.out (by simp [spec_Encrypt.j0])
  | succ kj3 =>
   have H := HA.out
   clear HA
   simp only [spec_Encrypt.j0] at H
   by_cases c11 : x31_3 = true
   ·subst c11
    replace H := iT_ H
    simp only [Option.some.injEq, Prod.mk.injEq] at H
    obtain ⟨rfl, rfl⟩ := H
    go_wp2
    go_ret2
    exact ⟨f1_, hB_⟩
   ·replace c11 := Bool.eq_false_iff.mpr c11
    subst c11
    replace H := iF_ H
    obtain ⟨⟨t1005, t1006⟩, A12, H⟩ := bN_ H
    obtain ⟨c13, H⟩ := iN_ H
    have c13b0 := eq_true c13
    have c13b1 := decide_eq_true c13
    clear c13
    obtain ⟨t1009, A14, H⟩ := bN_ H
    obtain ⟨y1012, hy1012⟩ : ∃ y_ : List (List Int), y_ = (([] : List (List Int))) := ⟨_, rfl⟩
    first | replace H := yb_ hy1012 H | rw [← hy1012] at H
    have Ny1012 := Aside0.mk hy1012
    clear hy1012
    have H' := Aside0.mk H
    clear H
    go_wp2_with (first | ((with_reducible refine gate_callee (f := 51) rfl ?_); refine goesL_ (some 34) rfl rfl Try.func51 (by kernel_rfl) rfl #[.string a0] rfl aM_ ?_; (with_reducible refine (spec_l13Polys.calls kj3 a0 t1005 t1006 _ A12.out).mono ?_); rintro e w15 ⟨v1007, rfl, ho0, hb⟩; refine ⟨_, rfl, ?_⟩; have n_ := b_ (Kd.N_lower (Kd.N_mono (ok' := fun k_ => True) (Kd.S_N (Kd.S_bound ho0)) (fun k_ hk_ => trivial)) (below_size (hB_))) <| c_ (below_step (hB_) hb); clear HB; obtain ⟨HO1008, HB⟩ := n_; (try clear ho0)) | ((with_reducible refine gate_callee (f := 52) rfl ?_); refine goesL_ (some 39) rfl rfl Try.func52 (by kernel_rfl) rfl #[.string (a0.extract 768 a0.size)] rfl aM_ ?_; (with_reducible refine (spec_l13Matrix.calls kj3 (a0.extract 768 a0.size) t1009 _ A14.out).mono ?_); rintro e w16 ⟨v1010, rfl, ho0, hb⟩; refine ⟨_, rfl, ?_⟩; have n_ := b_ (Kd.N_elder' (rN_ HO1008.out) (Kd.S_base ho0) hb) <| b_ (Kd.N_lower (Kd.N_mono (ok' := fun k_ => some k_ ≠ (v1007 : Value).ownBlock) (Kd.S_N (Kd.S_bound ho0)) (fun k_ hk_ => (Kd.fresh' (Kd.N_lt (rN_ HO1008.out)) k_ hk_.2.1))) (below_size (hB_))) <| c_ (below_step (hB_) hb); clear HO1008 HB; obtain ⟨HO1008, HO1011, HB⟩ := n_; (try clear ho0)) | ((with_reducible refine gate_dst (N := 40) rfl ?_); (try (refine gate_guard (by rfl) ?_; dsimp only)); refine Kd.N_lit (Kd.slice 3 (Kd.int .i64)) _ 22 ?hg (N' := 40) ?hd (xs := ([] : List (List Int))) (inner := []) (ok := (fun k_ => some k_ ≠ (v1007 : Value).ownBlock ∧ some k_ ≠ (v1010 : Value).ownBlock)) (okp := (fun k_ => some k_ ≠ (v1007 : Value).ownBlock ∧ some k_ ≠ (v1010 : Value).ownBlock)) ?hr ?hp (fun _ hk => hk) ((show ∀ k_, w16.heap.size ≤ k_ → (fun k_ => some k_ ≠ (v1007 : Value).ownBlock ∧ some k_ ≠ (v1010 : Value).ownBlock) k_ from fun k_ hk => ⟨Kd.fresh' (Kd.N_lt (rN_ HO1008.out)) k_ hk, Kd.fresh' (Kd.N_lt (rN_ HO1011.out)) k_ hk⟩) _ (Nat.le_refl _)) (Below.refl _ _) (Nat.le_refl _) (by simp) ?_; (case hd => rfl); (case hg => rfl); (case hr => first | (go_simp; done) | (go_simp; rfl)); (case hp => exact (Reps.none _ _)); intro v1013 w17 ho18 hb hg_ hnew_; clear hg_ hnew_; (first | rw [← Ny1012.out] at ho18 | (simp only [Int.reduceToNat] at ho18; rw [← Ny1012.out] at ho18)); have n_ := b_ (Kd.N_elder' (rN_ HO1008.out) (Kd.N_base ho18) hb) <| b_ (Kd.N_elder' (rN_ HO1011.out) (Kd.N_base ho18) hb) <| b_ (Kd.N_lower ho18 (below_size (hB_))) <| c_ (below_step (hB_) hb); clear HO1008 HO1011 HB; obtain ⟨HO1008, HO1011, HO1014, HB⟩ := n_; clear hb ho18))
    go_loopg [11, 12] kj3 (fun kq v11 v12 w' => ∃ (x11_2 : List (List Int)) (x12_2 : Int), v12 = .int .i64 x12_2 ∧ Aside0 (spec_Encrypt.l0 kq a1 a2 t1005 t1009 x11_2 x12_2 = some (r1, r2)) ∧ Aside0 (kq ≤ kj3) ∧ Aside0 (Kd.N (Kd.slice 3 (Kd.int .i64)) 22 w' w.heap.size (fun k_ => some k_ ≠ (v1010 : Value).ownBlock ∧ some k_ ≠ (v11 : Value).ownBlock) v1007 t1005) ∧ Aside0 (Kd.N (Kd.slice 3 (Kd.int .i64)) 22 w' w.heap.size (fun k_ => some k_ ≠ (v1007 : Value).ownBlock ∧ some k_ ≠ (v11 : Value).ownBlock) v1010 t1009) ∧ Aside0 (Kd.N (Kd.slice 3 (Kd.int .i64)) 22 w' w.heap.size (fun k_ => some k_ ≠ (v1007 : Value).ownBlock ∧ some k_ ≠ (v1010 : Value).ownBlock) v11 x11_2) ∧ Aside0 (Below w.heap.size w w'))
    case atStart => exact ⟨(y1012), (0), f0_, H', ⟨Nat.le_refl _⟩, ⟨by refine kN_ ?_; exact Kd.N_mono HO1008.out (fun _ hk => ⟨hk.1.2, hk.2⟩)⟩, ⟨rN_ HO1011.out⟩, ⟨rN_ HO1014.out⟩, ⟨hB_⟩⟩
    case round =>
     clear H'
     obtain ⟨x11_2, x12_2, rfl, HA, HK2, HO_8, HO_10, HO_11, HB⟩ := hrel
     cases gk with
     | zero => exact absurd HA.out (by simp [spec_Encrypt.l0])
     | succ k2 =>
      have H := HA.out
      clear HA
      simp only [spec_Encrypt.l0] at H
      by_cases c19 : x12_2 < 2
      ·rw [if_pos c19] at H
       have c19b0 := decide_eq_true c19
       clear c19
       obtain ⟨t1015, A20, H⟩ := bN_ H
       obtain ⟨t1018, A21, H⟩ := bN_ H
       obtain ⟨c22, H⟩ := iN_ H
       have LMc22 := Aside0.mk c22
       clear c22
       obtain ⟨y1021, hy1021⟩ : ∃ y_ : List (List Int), y_ = (x11_2 ++ [t1018]) := ⟨_, rfl⟩
       first | replace H := yb_ hy1021 H | rw [← hy1021] at H
       have Ny1021 := Aside0.mk hy1021
       clear hy1021
       have H' := Aside0.mk H
       clear H
       go_wp2_with (first | ((with_reducible refine gate_callee (f := 8) rfl ?_); refine goesL_ (some 48) rfl rfl Try.func8 (by kernel_rfl) rfl #[.string a2, .int .i64 x12_2] rfl aM_ ?_; (with_reducible refine (spec_Small.calls k2 a2 x12_2 t1015 _ A20.out).mono ?_); rintro e w23 ⟨v1016, rfl, ho0, hb⟩; refine ⟨_, rfl, ?_⟩; have n_ := b_ (Kd.N_elder' (rN_ HO_8.out) (Kd.R_base ho0) hb) <| b_ (Kd.N_elder' (rN_ HO_10.out) (Kd.R_base ho0) hb) <| b_ (Kd.N_elder' (rN_ HO_11.out) (Kd.R_base ho0) hb) <| b_ (Kd.R_lower ho0 (below_size (hB_))) <| c_ (below_step (hB_) hb); clear HO_8 HO_10 HO_11 HB; obtain ⟨HO_8, HO_10, HO_11, HO1017, HB⟩ := n_; obtain ⟨Ao24, co24, eo24⟩ := Kd.R_slice HO1017.out; subst eo24) | ((with_reducible refine gate_callee (f := 53) rfl ?_); refine goesL_ (some 49) rfl rfl Try.func53 (by kernel_rfl) rfl #[.slice Ao24 t1015.length co24] rfl aM_ ?_; (with_reducible refine (spec_Ntt.calls k2 _ _ t1015 t1018 _ ?side1 ?side2 A21.out).mono ?_); (case side1 => exact cR_ (Kd.R_reads' HO1017.out).2.2); (case side2 => exact (Kd.R_reads' HO1017.out).2.1); rintro e w25 ⟨v1019, rfl, ho0, hb⟩; refine ⟨_, rfl, ?_⟩; have n_ := b_ (Kd.N_elder' (rN_ HO_8.out) (Kd.R_base ho0) hb) <| b_ (Kd.N_elder' (rN_ HO_10.out) (Kd.R_base ho0) hb) <| b_ (Kd.N_elder' (rN_ HO_11.out) (Kd.R_base ho0) hb) <| b_ (Kd.R_elder' (rR_ HO1017.out) (Kd.R_base ho0) hb) <| b_ (Kd.R_lower (Kd.R_new' ho0 (Kd.R_lt (rR_ HO1017.out))) (below_size (hB_))) <| c_ (below_step (hB_) hb); clear HO_8 HO_10 HO_11 HO1017 HB; obtain ⟨HO_8, HO_10, HO_11, HO1017, HO1020, HB⟩ := n_; obtain ⟨Ao27, co27, eo27⟩ := Kd.R_slice HO1020.out; subst eo27) | ((with_reducible refine gate_builtin (b := .append) (xs := #[.tmp 45, .tmp 50]) rfl ?_); (try (refine gate_guard (by rfl) ?_; dsimp only)); at_builtin; refine Kd.N_append (Kd.slice 3 (Kd.int .i64)) (w0 := w) w.heap.size rfl (.tmp 45) (.tmp 50) 70 22 (.slice none 0 0) 24 rfl Try.underlying70 info22 rfl (by decide) (by omega) u11 x11_2 t1018 [.slice Ao27 t1018.length co27] (fun k_ => some k_ ≠ (v1007 : Value).ownBlock ∧ some k_ ≠ (v1010 : Value).ownBlock ∧ some k_ ≠ (.slice Ao24 t1015.length co24 : Value).ownBlock) (fun k_ => ((fun k_ => some k_ ≠ (v1007 : Value).ownBlock ∧ some k_ ≠ (v1010 : Value).ownBlock ∧ some k_ ≠ (.slice Ao24 t1015.length co24 : Value).ownBlock)) k_ ∧ some k_ ≠ (u11 : Value).ownBlock) rfl rfl ?aP (fun _ hk => hk) ?aF ?aO ?aB ?aS ?aL ?_; (case aP => exact (Kd.FK_slice_mk (Kd.R_reads' (Kd.R_mono (ok' := (fun k_ => ((fun k_ => some k_ ≠ (v1007 : Value).ownBlock ∧ some k_ ≠ (v1010 : Value).ownBlock ∧ some k_ ≠ (.slice Ao24 t1015.length co24 : Value).ownBlock)) k_ ∧ some k_ ≠ (u11 : Value).ownBlock)) (Kd.R_apart' (Kd.R_apart' (Kd.R_apart' (HO1020.out) (Kd.N_typed HO_8.out) (by decide)) (Kd.N_typed HO_10.out) (by decide)) (Kd.N_typed HO_11.out) (by decide)) (fun k_ hk => ⟨⟨hk.1.1.2, ⟨hk.1.2, hk.1.1.1.2⟩⟩, hk.2⟩))).2.1 (Kd.R_F (Kd.R_mono (ok' := (fun k_ => ((fun k_ => some k_ ≠ (v1007 : Value).ownBlock ∧ some k_ ≠ (v1010 : Value).ownBlock ∧ some k_ ≠ (.slice Ao24 t1015.length co24 : Value).ownBlock)) k_ ∧ some k_ ≠ (u11 : Value).ownBlock)) (Kd.R_apart' (Kd.R_apart' (Kd.R_apart' (HO1020.out) (Kd.N_typed HO_8.out) (by decide)) (Kd.N_typed HO_10.out) (by decide)) (Kd.N_typed HO_11.out) (by decide)) (fun k_ hk => ⟨⟨hk.1.1.2, ⟨hk.1.2, hk.1.1.1.2⟩⟩, hk.2⟩))))); (case aB => exact (hB_)); (case aF => exact (fun k_ hk => ⟨Kd.fresh' (Kd.N_lt (rN_ HO_8.out)) k_ hk, Kd.fresh' (Kd.N_lt (rN_ HO_10.out)) k_ hk, Kd.fresh' (Kd.R_lt (rR_ HO1017.out)) k_ hk⟩)); (case aO => exact (by refine kN_ ?_; exact Kd.N_mono HO_11.out (fun _ hk => ⟨hk.1.1.1, ⟨hk.1.1.2, hk.1.2⟩⟩))); (case aS => exact (below_size (hB_))); (case aL => have := LMc22.out; omega); intro v1022 w26 ho hb hg hat; rw [← Ny1021.out] at ho; have n_ := b_ (Kd.N_afterv (ok := (fun k_ => some k_ ≠ (v1010 : Value).ownBlock ∧ some k_ ≠ (.slice Ao24 t1015.length co24 : Value).ownBlock ∧ some k_ ≠ (.slice Ao27 t1018.length co27 : Value).ownBlock)) (by refine kN_ ?_; exact Kd.N_mono HO_8.out (fun _ hk => ⟨⟨hk.1.1.1, ⟨hk.1.2, hk.2⟩⟩, hk.1.1.2⟩)) hg hat) <| b_ (Kd.N_afterv (ok := (fun k_ => some k_ ≠ (v1007 : Value).ownBlock ∧ some k_ ≠ (.slice Ao24 t1015.length co24 : Value).ownBlock ∧ some k_ ≠ (.slice Ao27 t1018.length co27 : Value).ownBlock)) (by refine kN_ ?_; exact Kd.N_mono HO_10.out (fun _ hk => ⟨⟨hk.1.1.1, ⟨hk.1.2, hk.2⟩⟩, hk.1.1.2⟩)) hg hat) <| b_ (Kd.R_over' (rR_ HO1017.out) (Kd.N_typed (rN_ HO_11.out)) (by decide) hg) <| b_ (hb) <| c_ (ho); clear HO_11 HO1020 HO_8 HO_10 HO1017 HB; obtain ⟨HO_8, HO_10, HO1017, HB, HO1023⟩ := n_; clear ho hb hg hat))
       go_roundg k2
       case measure => have := HJ3.out; have := HK2.out; omega
       case rel => exact ⟨(y1021), (wrap64 (x12_2 + 1)), f0_, H', ⟨by have := HJ3.out; have := HK2.out; omega⟩, ⟨by refine kN_ ?_; exact Kd.N_mono HO_8.out (fun _ hk => ⟨hk.1.1, hk.2⟩)⟩, ⟨by refine kN_ ?_; exact Kd.N_mono HO_10.out (fun _ hk => ⟨hk.1.1, hk.2⟩)⟩, ⟨by refine kN_ ?_; exact Kd.N_mono HO1023.out (fun _ hk => ⟨hk.1, hk.2.1⟩)⟩, ⟨hB_⟩⟩
      rw [if_neg c19] at H
      have c19b0 := decide_eq_false c19
      clear c19
      have H' := Aside0.mk H
      clear H
      go_wp2
      go_loopg [13, 14] k2 (fun kq v13 v14 w' => ∃ (x13_3 : ByteArray) (x14_3 : Int), v13 = .string x13_3 ∧ v14 = .int .i64 x14_3 ∧ Aside0 (spec_Encrypt.l1 kq a1 a2 t1005 t1009 x11_2 x13_3 x14_3 = some (r1, r2)) ∧ Aside0 (kq ≤ k2) ∧ Aside0 (Kd.N (Kd.slice 3 (Kd.int .i64)) 22 w' w.heap.size (fun k_ => some k_ ≠ (v1010 : Value).ownBlock ∧ some k_ ≠ (u11 : Value).ownBlock) v1007 t1005) ∧ Aside0 (Kd.N (Kd.slice 3 (Kd.int .i64)) 22 w' w.heap.size (fun k_ => some k_ ≠ (v1007 : Value).ownBlock ∧ some k_ ≠ (u11 : Value).ownBlock) v1010 t1009) ∧ Aside0 (Kd.N (Kd.slice 3 (Kd.int .i64)) 22 w' w.heap.size (fun k_ => some k_ ≠ (v1007 : Value).ownBlock ∧ some k_ ≠ (v1010 : Value).ownBlock) u11 x11_2) ∧ Aside0 (Below w.heap.size w w'))
      case atStart => exact ⟨((⟨#[]⟩ : ByteArray)), (0), f0_, f0_, H', ⟨Nat.le_refl _⟩, ⟨rN_ HO_8.out⟩, ⟨rN_ HO_10.out⟩, ⟨rN_ HO_11.out⟩, ⟨hB_⟩⟩
      case round =>
       clear H'
       obtain ⟨x13_3, x14_3, rfl, rfl, HA, HK3, HO_8, HO_10, HO_11, HB⟩ := hrel
       cases gk with
       | zero => exact absurd HA.out (by simp [spec_Encrypt.l1])
       | succ k3 =>
        have H := HA.out
        clear HA
        simp only [spec_Encrypt.l1] at H
        by_cases c28 : x14_3 < 2
        rotate_left
        ·rw [if_neg c28] at H
         have c28b0 := decide_eq_false c28
         clear c28
         obtain ⟨t1044, A55, H⟩ := bN_ H
         obtain ⟨t1047, A56, H⟩ := bN_ H
         obtain ⟨t1050, A57, H⟩ := bN_ H
         obtain ⟨t1053, A58, H⟩ := bN_ H
         obtain ⟨t1056, A59, H⟩ := bN_ H
         obtain ⟨t1059, A60, H⟩ := bN_ H
         obtain ⟨t1062, A61, H⟩ := bN_ H
         obtain ⟨c62, H⟩ := iN_ H
         have c62b0 := eq_true c62
         have c62b1 := decide_eq_true c62
         try have c62b2 : (9223372036854775807 < x13_3.size + t1062.size) = False := eq_false (Nat.not_lt.2 c62)
         simp only [Option.some.injEq, Prod.mk.injEq] at H
         obtain ⟨rfl, rfl⟩ := H
         obtain ⟨Ao63, co63, eo63⟩ := Kd.N_slice HO_8.out
         subst eo63
         obtain ⟨Ao64, co64, eo64⟩ := Kd.N_slice HO_11.out
         subst eo64
         go_wp2_with (first | ((with_reducible refine gate_callee (f := 56) rfl ?_); refine goesL_ (some 86) rfl rfl Try.func56 (by kernel_rfl) rfl #[.slice Ao63 t1005.length co63, .slice Ao64 x11_2.length co64] rfl aM_ ?_; (with_reducible refine (spec_l13Sum.calls k3 _ _ t1005 _ _ x11_2 t1044 _ ?side1 ?side2 ?side3 ?side4 A55.out).mono ?_); (case side1 => exact cR_ (Kd.N_reads' HO_8.out).2.2); (case side2 => exact (Kd.N_reads' HO_8.out).2.1); (case side3 => exact cR_ (Kd.N_reads' HO_11.out).2.2); (case side4 => exact (Kd.N_reads' HO_11.out).2.1); rintro e w65 ⟨v1045, rfl, ho0, hb⟩; refine ⟨_, rfl, ?_⟩; have n_ := b_ (Kd.N_elder' (rN_ HO_8.out) (Kd.R_base ho0) hb) <| b_ (Kd.N_elder' (rN_ HO_10.out) (Kd.R_base ho0) hb) <| b_ (Kd.N_elder' (rN_ HO_11.out) (Kd.R_base ho0) hb) <| b_ (Kd.R_lower ho0 (below_size (hB_))) <| c_ (below_step (hB_) hb); clear HO_8 HO_10 HO_11 HB; obtain ⟨HO_8, HO_10, HO_11, HO1046, HB⟩ := n_; obtain ⟨Ao66, co66, eo66⟩ := Kd.R_slice HO1046.out; subst eo66) | ((with_reducible refine gate_callee (f := 55) rfl ?_); refine goesL_ (some 87) rfl rfl Try.func55 (by kernel_rfl) rfl #[.slice Ao66 t1044.length co66] rfl aM_ ?_; (with_reducible refine (spec_InvNtt.calls k3 _ _ t1044 t1047 _ ?side1 ?side2 A56.out).mono ?_); (case side1 => exact cR_ (Kd.R_reads' HO1046.out).2.2); (case side2 => exact (Kd.R_reads' HO1046.out).2.1); rintro e w67 ⟨v1048, rfl, ho0, hb⟩; refine ⟨_, rfl, ?_⟩; have n_ := b_ (Kd.N_elder' (rN_ HO_8.out) (Kd.R_base ho0) hb) <| b_ (Kd.N_elder' (rN_ HO_10.out) (Kd.R_base ho0) hb) <| b_ (Kd.N_elder' (rN_ HO_11.out) (Kd.R_base ho0) hb) <| b_ (Kd.R_elder' (rR_ HO1046.out) (Kd.R_base ho0) hb) <| b_ (Kd.R_lower (Kd.R_new' ho0 (Kd.R_lt (rR_ HO1046.out))) (below_size (hB_))) <| c_ (below_step (hB_) hb); clear HO_8 HO_10 HO_11 HO1046 HB; obtain ⟨HO_8, HO_10, HO_11, HO1046, HO1049, HB⟩ := n_; (try clear ho0)) | ((with_reducible refine gate_callee (f := 8) rfl ?_); refine goesL_ (some 89) rfl rfl Try.func8 (by kernel_rfl) rfl #[.string a2, .int .i64 4] rfl aM_ ?_; (with_reducible refine (spec_Small.calls k3 a2 4 t1050 _ A57.out).mono ?_); rintro e w68 ⟨v1051, rfl, ho0, hb⟩; refine ⟨_, rfl, ?_⟩; have n_ := b_ (Kd.N_elder' (rN_ HO_8.out) (Kd.R_base ho0) hb) <| b_ (Kd.N_elder' (rN_ HO_10.out) (Kd.R_base ho0) hb) <| b_ (Kd.N_elder' (rN_ HO_11.out) (Kd.R_base ho0) hb) <| b_ (Kd.R_elder' (rR_ HO1046.out) (Kd.R_base ho0) hb) <| b_ (Kd.R_elder' (rR_ HO1049.out) (Kd.R_base ho0) hb) <| b_ (Kd.R_lower (Kd.R_new' (Kd.R_new' ho0 (Kd.R_lt (rR_ HO1046.out))) (Kd.R_lt (rR_ HO1049.out))) (below_size (hB_))) <| c_ (below_step (hB_) hb); clear HO_8 HO_10 HO_11 HO1046 HO1049 HB; obtain ⟨HO_8, HO_10, HO_11, HO1046, HO1049, HO1052, HB⟩ := n_; obtain ⟨Ao69, co69, eo69⟩ := Kd.R_slice HO1049.out; subst eo69; obtain ⟨Ao70, co70, eo70⟩ := Kd.R_slice HO1052.out; subst eo70) | ((with_reducible refine gate_callee (f := 54) rfl ?_); refine goesL_ (some 90) rfl rfl Try.func54 (by kernel_rfl) rfl #[.slice Ao69 t1047.length co69, .slice Ao70 t1050.length co70] rfl aM_ ?_; (with_reducible refine (spec_PolyAdd.calls k3 _ _ t1047 _ _ t1050 t1053 _ ?side1 ?side2 ?side3 ?side4 A58.out).mono ?_); (case side1 => exact cR_ (Kd.R_reads' HO1049.out).2.2); (case side2 => exact (Kd.R_reads' HO1049.out).2.1); (case side3 => exact cR_ (Kd.R_reads' HO1052.out).2.2); (case side4 => exact (Kd.R_reads' HO1052.out).2.1); rintro e w71 ⟨v1054, rfl, ho0, hb⟩; refine ⟨_, rfl, ?_⟩; have n_ := b_ (Kd.N_elder' (rN_ HO_8.out) (Kd.R_base ho0) hb) <| b_ (Kd.N_elder' (rN_ HO_10.out) (Kd.R_base ho0) hb) <| b_ (Kd.N_elder' (rN_ HO_11.out) (Kd.R_base ho0) hb) <| b_ (Kd.R_elder' (rR_ HO1046.out) (Kd.R_base ho0) hb) <| b_ (Kd.R_elder' (rR_ HO1049.out) (Kd.R_base ho0) hb) <| b_ (Kd.R_elder' (rR_ HO1052.out) (Kd.R_base ho0) hb) <| b_ (Kd.R_lower (Kd.R_new' (Kd.R_new' (Kd.R_new' ho0 (Kd.R_lt (rR_ HO1046.out))) (Kd.R_lt (rR_ HO1049.out))) (Kd.R_lt (rR_ HO1052.out))) (below_size (hB_))) <| c_ (below_step (hB_) hb); clear HO_8 HO_10 HO_11 HO1046 HO1049 HO1052 HB; obtain ⟨HO_8, HO_10, HO_11, HO1046, HO1049, HO1052, HO1055, HB⟩ := n_; (try clear ho0)) | ((with_reducible refine gate_callee (f := 58) rfl ?_); refine goesL_ (some 93) rfl rfl Try.func58 (by kernel_rfl) rfl #[.string a1] rfl aM_ ?_; (with_reducible refine (spec_l13Bits.calls k3 a1 t1056 _ A59.out).mono ?_); rintro e w72 ⟨v1057, rfl, ho0, hb⟩; refine ⟨_, rfl, ?_⟩; have n_ := b_ (Kd.N_elder' (rN_ HO_8.out) (Kd.R_base ho0) hb) <| b_ (Kd.N_elder' (rN_ HO_10.out) (Kd.R_base ho0) hb) <| b_ (Kd.N_elder' (rN_ HO_11.out) (Kd.R_base ho0) hb) <| b_ (Kd.R_elder' (rR_ HO1046.out) (Kd.R_base ho0) hb) <| b_ (Kd.R_elder' (rR_ HO1049.out) (Kd.R_base ho0) hb) <| b_ (Kd.R_elder' (rR_ HO1052.out) (Kd.R_base ho0) hb) <| b_ (Kd.R_elder' (rR_ HO1055.out) (Kd.R_base ho0) hb) <| b_ (Kd.R_lower (Kd.R_new' (Kd.R_new' (Kd.R_new' (Kd.R_new' ho0 (Kd.R_lt (rR_ HO1046.out))) (Kd.R_lt (rR_ HO1049.out))) (Kd.R_lt (rR_ HO1052.out))) (Kd.R_lt (rR_ HO1055.out))) (below_size (hB_))) <| c_ (below_step (hB_) hb); clear HO_8 HO_10 HO_11 HO1046 HO1049 HO1052 HO1055 HB; obtain ⟨HO_8, HO_10, HO_11, HO1046, HO1049, HO1052, HO1055, HO1058, HB⟩ := n_; obtain ⟨Ao73, co73, eo73⟩ := Kd.R_slice HO1055.out; subst eo73; obtain ⟨Ao74, co74, eo74⟩ := Kd.R_slice HO1058.out; subst eo74) | ((with_reducible refine gate_callee (f := 54) rfl ?_); refine goesL_ (some 94) rfl rfl Try.func54 (by kernel_rfl) rfl #[.slice Ao73 t1053.length co73, .slice Ao74 t1056.length co74] rfl aM_ ?_; (with_reducible refine (spec_PolyAdd.calls k3 _ _ t1053 _ _ t1056 t1059 _ ?side1 ?side2 ?side3 ?side4 A60.out).mono ?_); (case side1 => exact cR_ (Kd.R_reads' HO1055.out).2.2); (case side2 => exact (Kd.R_reads' HO1055.out).2.1); (case side3 => exact cR_ (Kd.R_reads' HO1058.out).2.2); (case side4 => exact (Kd.R_reads' HO1058.out).2.1); rintro e w75 ⟨v1060, rfl, ho0, hb⟩; refine ⟨_, rfl, ?_⟩; have n_ := b_ (Kd.N_elder' (rN_ HO_8.out) (Kd.R_base ho0) hb) <| b_ (Kd.N_elder' (rN_ HO_10.out) (Kd.R_base ho0) hb) <| b_ (Kd.N_elder' (rN_ HO_11.out) (Kd.R_base ho0) hb) <| b_ (Kd.R_elder' (rR_ HO1046.out) (Kd.R_base ho0) hb) <| b_ (Kd.R_elder' (rR_ HO1049.out) (Kd.R_base ho0) hb) <| b_ (Kd.R_elder' (rR_ HO1052.out) (Kd.R_base ho0) hb) <| b_ (Kd.R_elder' (rR_ HO1055.out) (Kd.R_base ho0) hb) <| b_ (Kd.R_elder' (rR_ HO1058.out) (Kd.R_base ho0) hb) <| b_ (Kd.R_lower (Kd.R_new' (Kd.R_new' (Kd.R_new' (Kd.R_new' (Kd.R_new' ho0 (Kd.R_lt (rR_ HO1046.out))) (Kd.R_lt (rR_ HO1049.out))) (Kd.R_lt (rR_ HO1052.out))) (Kd.R_lt (rR_ HO1055.out))) (Kd.R_lt (rR_ HO1058.out))) (below_size (hB_))) <| c_ (below_step (hB_) hb); clear HO_8 HO_10 HO_11 HO1046 HO1049 HO1052 HO1055 HO1058 HB; obtain ⟨HO_8, HO_10, HO_11, HO1046, HO1049, HO1052, HO1055, HO1058, HO1061, HB⟩ := n_; obtain ⟨Ao76, co76, eo76⟩ := Kd.R_slice HO1061.out; subst eo76) | ((with_reducible refine gate_callee (f := 57) rfl ?_); refine goesL_ (some 97) rfl rfl Try.func57 (by kernel_rfl) rfl #[.slice Ao76 t1059.length co76, .int .i64 4] rfl aM_ ?_; (with_reducible refine (spec_l13Squeezed.calls k3 _ _ t1059 4 t1062 _ ?side1 ?side2 A61.out).mono ?_); (case side1 => exact cR_ (Kd.R_reads' HO1061.out).2.2); (case side2 => exact (Kd.R_reads' HO1061.out).2.1); rintro e w77 ⟨rfl, hb⟩; refine ⟨_, rfl, ?_⟩; have n_ := b_ (Kd.N_below (rN_ HO_8.out) hb) <| b_ (Kd.N_below (rN_ HO_10.out) hb) <| b_ (Kd.N_below (rN_ HO_11.out) hb) <| b_ (Kd.R_below (rR_ HO1046.out) hb) <| b_ (Kd.R_below (rR_ HO1049.out) hb) <| b_ (Kd.R_below (rR_ HO1052.out) hb) <| b_ (Kd.R_below (rR_ HO1055.out) hb) <| b_ (Kd.R_below (rR_ HO1058.out) hb) <| b_ (Kd.R_below (rR_ HO1061.out) hb) <| c_ (below_step (hB_) hb); clear HO_8 HO_10 HO_11 HO1046 HO1049 HO1052 HO1055 HO1058 HO1061 HB; obtain ⟨HO_8, HO_10, HO_11, HO1046, HO1049, HO1052, HO1055, HO1058, HO1061, HB⟩ := n_; (try clear hb)))
         go_ret2
         exact ⟨f1_, hB_⟩
        rw [if_pos c28] at H
        have c28b0 := decide_eq_true c28
        clear c28
        obtain ⟨y1024, hy1024⟩ : ∃ y_ : List (List Int), y_ = (([] : List (List Int))) := ⟨_, rfl⟩
        first | replace H := yb_ hy1024 H | rw [← hy1024] at H
        have Ny1024 := Aside0.mk hy1024
        clear hy1024
        have H' := Aside0.mk H
        clear H
        go_wp2_with (first | ((with_reducible refine gate_dst (N := 56) rfl ?_); (try (refine gate_guard (by rfl) ?_; dsimp only)); refine Kd.N_lit (Kd.slice 3 (Kd.int .i64)) _ 22 ?hg (N' := 56) ?hd (xs := ([] : List (List Int))) (inner := []) (ok := (fun k_ => some k_ ≠ (v1007 : Value).ownBlock ∧ some k_ ≠ (v1010 : Value).ownBlock ∧ some k_ ≠ (u11 : Value).ownBlock)) (okp := (fun k_ => some k_ ≠ (v1007 : Value).ownBlock ∧ some k_ ≠ (v1010 : Value).ownBlock ∧ some k_ ≠ (u11 : Value).ownBlock)) ?hr ?hp (fun _ hk => hk) ((show ∀ k_, wr.heap.size ≤ k_ → (fun k_ => some k_ ≠ (v1007 : Value).ownBlock ∧ some k_ ≠ (v1010 : Value).ownBlock ∧ some k_ ≠ (u11 : Value).ownBlock) k_ from fun k_ hk => ⟨Kd.fresh' (Kd.N_lt (rN_ HO_8.out)) k_ hk, Kd.fresh' (Kd.N_lt (rN_ HO_10.out)) k_ hk, Kd.fresh' (Kd.N_lt (rN_ HO_11.out)) k_ hk⟩) _ (Nat.le_refl _)) (Below.refl _ _) (Nat.le_refl _) (by simp) ?_; (case hd => rfl); (case hg => rfl); (case hr => first | (go_simp; done) | (go_simp; rfl)); (case hp => exact (Reps.none _ _)); intro v1025 w29 ho30 hb hg_ hnew_; clear hg_ hnew_; (first | rw [← Ny1024.out] at ho30 | (simp only [Int.reduceToNat] at ho30; rw [← Ny1024.out] at ho30)); have n_ := b_ (Kd.N_elder' (rN_ HO_8.out) (Kd.N_base ho30) hb) <| b_ (Kd.N_elder' (rN_ HO_10.out) (Kd.N_base ho30) hb) <| b_ (Kd.N_elder' (rN_ HO_11.out) (Kd.N_base ho30) hb) <| b_ (Kd.N_lower ho30 (below_size (hB_))) <| c_ (below_step (hB_) hb); clear HO_8 HO_10 HO_11 HB; obtain ⟨HO_8, HO_10, HO_11, HO1026, HB⟩ := n_; clear hb ho30))
        go_loopg [15, 16] k3 (fun kq v15 v16 w' => ∃ (x15_4 : List (List Int)) (x16_4 : Int), v16 = .int .i64 x16_4 ∧ Aside0 (spec_Encrypt.l2 kq a1 a2 t1005 t1009 x11_2 x13_3 x14_3 x15_4 x16_4 = some (r1, r2)) ∧ Aside0 (kq ≤ k3) ∧ Aside0 (Kd.N (Kd.slice 3 (Kd.int .i64)) 22 w' w.heap.size (fun k_ => some k_ ≠ (v1010 : Value).ownBlock ∧ some k_ ≠ (u11 : Value).ownBlock ∧ some k_ ≠ (v15 : Value).ownBlock) v1007 t1005) ∧ Aside0 (Kd.N (Kd.slice 3 (Kd.int .i64)) 22 w' w.heap.size (fun k_ => some k_ ≠ (v1007 : Value).ownBlock ∧ some k_ ≠ (u11 : Value).ownBlock ∧ some k_ ≠ (v15 : Value).ownBlock) v1010 t1009) ∧ Aside0 (Kd.N (Kd.slice 3 (Kd.int .i64)) 22 w' w.heap.size (fun k_ => some k_ ≠ (v1007 : Value).ownBlock ∧ some k_ ≠ (v1010 : Value).ownBlock ∧ some k_ ≠ (v15 : Value).ownBlock) u11 x11_2) ∧ Aside0 (Kd.N (Kd.slice 3 (Kd.int .i64)) 22 w' w.heap.size (fun k_ => some k_ ≠ (v1007 : Value).ownBlock ∧ some k_ ≠ (v1010 : Value).ownBlock ∧ some k_ ≠ (u11 : Value).ownBlock) v15 x15_4) ∧ Aside0 (Below w.heap.size w w'))
        case atStart => exact ⟨(y1024), (0), f0_, H', ⟨Nat.le_refl _⟩, ⟨by refine kN_ ?_; exact Kd.N_mono HO_8.out (fun _ hk => ⟨hk.1.1, ⟨hk.1.2, hk.2⟩⟩)⟩, ⟨by refine kN_ ?_; exact Kd.N_mono HO_10.out (fun _ hk => ⟨hk.1.1, ⟨hk.1.2, hk.2⟩⟩)⟩, ⟨by refine kN_ ?_; exact Kd.N_mono HO_11.out (fun _ hk => ⟨hk.1.1, ⟨hk.1.2, hk.2⟩⟩)⟩, ⟨rN_ HO1026.out⟩, ⟨hB_⟩⟩
        case round =>
         clear H'
         obtain ⟨x15_4, x16_4, rfl, HA, HK4, HO_8, HO_10, HO_11, HO_15, HB⟩ := hrel
         cases gk with
         | zero => exact absurd HA.out (by simp [spec_Encrypt.l2])
         | succ k4 =>
          have H := HA.out
          clear HA
          simp only [spec_Encrypt.l2] at H
          by_cases c31 : x16_4 < 2
          ·rw [if_pos c31] at H
           have c31b0 := decide_eq_true c31
           clear c31
           obtain ⟨ji32, hji32⟩ : ∃ j_ : Int, (wrap64 ((wrap64 (x16_4 * 2)) + x14_3)) = j_ := ⟨_, rfl⟩
           first | rw [hji32] at H | simp only [hji32] at H
           have hji32w : (IntKind.i64.wrap ((wrap64 (x16_4 * 2)) + x14_3)) = ji32 := (i64_w _).trans hji32
           obtain ⟨c33b0, H⟩ := iD_ H
           obtain ⟨c34b0, H⟩ := iD_ H
           obtain ⟨c35, H⟩ := iN_ H
           have LMc35 := Aside0.mk c35
           clear c35
           obtain ⟨y1028, hy1028⟩ : ∃ y_ : List (List Int), y_ = (x15_4 ++ [rd_L5 t1009 (ji32)]) := ⟨_, rfl⟩
           first | replace H := yb_ hy1028 H | rw [← hy1028] at H
           have Ny1028 := Aside0.mk hy1028
           clear hy1028
           have H' := Aside0.mk H
           clear H
           obtain ⟨Ao36, co36, eo36⟩ := Kd.N_slice HO_10.out
           subst eo36
           have p1027 : 0 ≤ ((ji32) : Int) := oD_
           have q1027 : (ji32) < (t1009.length : Int) := oD_
           obtain ⟨ad1027, A1027_0, c1027_0, e1027, hx1027_0, hl1027_0, hi1027_0⟩ := at_L5 (Kd.N_reads' HO_10.out).2.2 (ji32) p1027 q1027
           cases e1027
           obtain ⟨ce1027, hce1027, hMe1027, hcc1027⟩ := Kd.N_get HO_10.out [] (ji32) p1027 (by first | exact q1027 | exact oD_ | (have e_ := (Kd.N_reads' HO_10.out).1; omega))
           obtain ⟨ua1027_0, uc1027_0, rfl, ul1027_0, ge1027_0⟩ := Kd.FK_slice_open hMe1027
           have hv1027_0 := hcc1027 0 _ rfl
           rw [Nat.add_zero, show ((Kd.slice 3 (Kd.int .i64))).sz = 1 from rfl, Nat.mul_one] at hv1027_0
           replace hv1027_0 := Option.some.inj (hv1027_0.symm.trans hx1027_0)
           injection hv1027_0 with hva_ hvn_ hvc_
           rw [hva_] at ge1027_0
           rw [hvc_] at ul1027_0
           have HL1027_0 := Aside0.mk (show Kd.V (Kd.int .i64) 3 _ w.heap.size _ _ (rd_L5 t1009 (ji32)) from Kd.V_mk ul1027_0 ge1027_0)
           clear hva_ hvn_ hvc_ ge1027_0 ul1027_0
           clear hcc1027 hce1027
           have HR1027_0 := Aside0.mk hi1027_0
           have HC1027_0 := Aside0.mk hl1027_0
           clear hi1027_0 hl1027_0
           replace p1027 := eq_true p1027
           replace q1027 := eq_true q1027
           go_wp2_with (first | ((with_reducible refine gate_builtin (b := .append) (xs := #[.tmp 61, .tmp 69]) rfl ?_); (try (refine gate_guard (by rfl) ?_; dsimp only)); at_builtin; refine Kd.N_append (Kd.slice 3 (Kd.int .i64)) (w0 := w) w.heap.size rfl (.tmp 61) (.tmp 69) 70 22 (.slice none 0 0) 24 rfl Try.underlying70 info22 rfl (by decide) (by omega) u15 x15_4 (rd_L5 t1009 (ji32)) [.slice A1027_0 (rd_L5 t1009 (ji32)).length c1027_0] (fun k_ => some k_ ≠ (v1007 : Value).ownBlock ∧ some k_ ≠ (.slice (some ad1027) t1009.length co36 : Value).ownBlock ∧ some k_ ≠ (u11 : Value).ownBlock) (fun k_ => ((fun k_ => some k_ ≠ (v1007 : Value).ownBlock ∧ some k_ ≠ (.slice (some ad1027) t1009.length co36 : Value).ownBlock ∧ some k_ ≠ (u11 : Value).ownBlock)) k_ ∧ some k_ ≠ (u15 : Value).ownBlock) rfl rfl ?aP (fun _ hk => hk) ?aF ?aO ?aB ?aS ?aL ?_; (case aP => exact (Kd.FK_slice_mk (Kd.V_reads' (Kd.V_mono (ok' := (fun k_ => ((fun k_ => some k_ ≠ (v1007 : Value).ownBlock ∧ some k_ ≠ (.slice (some ad1027) t1009.length co36 : Value).ownBlock ∧ some k_ ≠ (u11 : Value).ownBlock)) k_ ∧ some k_ ≠ (u15 : Value).ownBlock)) (HL1027_0.out) (fun k_ hk => ⟨⟨hk.1.1, ⟨hk.2, hk.1.2.1⟩⟩, hk.1.2.2⟩))).2.1 (Kd.V_F (Kd.V_mono (ok' := (fun k_ => ((fun k_ => some k_ ≠ (v1007 : Value).ownBlock ∧ some k_ ≠ (.slice (some ad1027) t1009.length co36 : Value).ownBlock ∧ some k_ ≠ (u11 : Value).ownBlock)) k_ ∧ some k_ ≠ (u15 : Value).ownBlock)) (HL1027_0.out) (fun k_ hk => ⟨⟨hk.1.1, ⟨hk.2, hk.1.2.1⟩⟩, hk.1.2.2⟩))))); (case aB => exact (hB_)); (case aF => exact (fun k_ hk => ⟨Kd.fresh' (Kd.N_lt (rN_ HO_8.out)) k_ hk, Kd.fresh' (Kd.N_lt (rN_ HO_10.out)) k_ hk, Kd.fresh' (Kd.N_lt (rN_ HO_11.out)) k_ hk⟩)); (case aO => exact (rN_ HO_15.out)); (case aS => exact (below_size (hB_))); (case aL => have := LMc35.out; omega); intro v1029 w37 ho hb hg hat; rw [← Ny1028.out] at ho; have n_ := b_ (Kd.N_afterv (ok := (fun k_ => some k_ ≠ (.slice (some ad1027) t1009.length co36 : Value).ownBlock ∧ some k_ ≠ (u11 : Value).ownBlock)) (by refine kN_ ?_; exact Kd.N_mono HO_8.out (fun _ hk => ⟨⟨hk.1, hk.2.1⟩, hk.2.2⟩)) hg hat) <| b_ (Kd.N_afterv (ok := (fun k_ => some k_ ≠ (v1007 : Value).ownBlock ∧ some k_ ≠ (u11 : Value).ownBlock)) (by refine kN_ ?_; exact Kd.N_mono HO_10.out (fun _ hk => ⟨⟨hk.1, hk.2.1⟩, hk.2.2⟩)) hg hat) <| b_ (Kd.N_afterv (ok := (fun k_ => some k_ ≠ (v1007 : Value).ownBlock ∧ some k_ ≠ (.slice (some ad1027) t1009.length co36 : Value).ownBlock)) (by refine kN_ ?_; exact Kd.N_mono HO_11.out (fun _ hk => ⟨⟨hk.1, hk.2.1⟩, hk.2.2⟩)) hg hat) <| b_ (Kd.V_afterv (ok := (fun k_ => some k_ ≠ (v1007 : Value).ownBlock ∧ some k_ ≠ (.slice (some ad1027) t1009.length co36 : Value).ownBlock ∧ some k_ ≠ (u11 : Value).ownBlock)) (by refine kV_ ?_; exact Kd.V_mono HL1027_0.out (fun _ hk => ⟨⟨hk.1.1, ⟨hk.2, hk.1.2.1⟩⟩, hk.1.2.2⟩)) hg hat) <| b_ (hb) <| c_ (ho); clear HO_15 HO_8 HO_10 HO_11 HL1027_0 HB; obtain ⟨HO_8, HO_10, HO_11, HL1027_0, HB, HO1030⟩ := n_; clear ho hb hg hat))
           go_roundg k4
           case measure => have := HJ3.out; have := HK2.out; have := HK3.out; have := HK4.out; omega
           case rel => exact ⟨(y1028), (wrap64 (x16_4 + 1)), f0_, H', ⟨by have := HJ3.out; have := HK2.out; have := HK3.out; have := HK4.out; omega⟩, ⟨by refine kN_ ?_; exact Kd.N_mono HO_8.out (fun _ hk => ⟨hk.1.1, ⟨hk.1.2, hk.2⟩⟩)⟩, ⟨by refine kN_ ?_; exact Kd.N_mono HO_10.out (fun _ hk => ⟨hk.1.1, ⟨hk.1.2, hk.2⟩⟩)⟩, ⟨by refine kN_ ?_; exact Kd.N_mono HO_11.out (fun _ hk => ⟨hk.1.1, ⟨hk.1.2, hk.2⟩⟩)⟩, ⟨rN_ HO1030.out⟩, ⟨hB_⟩⟩
          rw [if_neg c31] at H
          have c31b0 := decide_eq_false c31
          clear c31
          obtain ⟨t1031, A38, H⟩ := bN_ H
          obtain ⟨t1034, A39, H⟩ := bN_ H
          obtain ⟨t1037, A40, H⟩ := bN_ H
          obtain ⟨t1040, A41, H⟩ := bN_ H
          obtain ⟨t1043, A42, H⟩ := bN_ H
          obtain ⟨c43, H⟩ := iN_ H
          have c43b0 := eq_true c43
          have c43b1 := decide_eq_true c43
          try have c43b2 : (9223372036854775807 < x13_3.size + t1043.size) = False := eq_false (Nat.not_lt.2 c43)
          have H' := Aside0.mk H
          clear H
          obtain ⟨Ao44, co44, eo44⟩ := Kd.N_slice HO_15.out
          subst eo44
          obtain ⟨Ao45, co45, eo45⟩ := Kd.N_slice HO_11.out
          subst eo45
          go_wp2_with (first | ((with_reducible refine gate_callee (f := 56) rfl ?_); refine goesL_ (some 73) rfl rfl Try.func56 (by kernel_rfl) rfl #[.slice Ao44 x15_4.length co44, .slice Ao45 x11_2.length co45] rfl aM_ ?_; (with_reducible refine (spec_l13Sum.calls k4 _ _ x15_4 _ _ x11_2 t1031 _ ?side1 ?side2 ?side3 ?side4 A38.out).mono ?_); (case side1 => exact cR_ (Kd.N_reads' HO_15.out).2.2); (case side2 => exact (Kd.N_reads' HO_15.out).2.1); (case side3 => exact cR_ (Kd.N_reads' HO_11.out).2.2); (case side4 => exact (Kd.N_reads' HO_11.out).2.1); rintro e w46 ⟨v1032, rfl, ho0, hb⟩; refine ⟨_, rfl, ?_⟩; have n_ := b_ (Kd.N_elder' (rN_ HO_8.out) (Kd.R_base ho0) hb) <| b_ (Kd.N_elder' (rN_ HO_10.out) (Kd.R_base ho0) hb) <| b_ (Kd.N_elder' (rN_ HO_11.out) (Kd.R_base ho0) hb) <| b_ (Kd.N_elder' (rN_ HO_15.out) (Kd.R_base ho0) hb) <| b_ (Kd.R_lower ho0 (below_size (hB_))) <| c_ (below_step (hB_) hb); clear HO_8 HO_10 HO_11 HO_15 HB; obtain ⟨HO_8, HO_10, HO_11, HO_15, HO1033, HB⟩ := n_; obtain ⟨Ao47, co47, eo47⟩ := Kd.R_slice HO1033.out; subst eo47) | ((with_reducible refine gate_callee (f := 55) rfl ?_); refine goesL_ (some 74) rfl rfl Try.func55 (by kernel_rfl) rfl #[.slice Ao47 t1031.length co47] rfl aM_ ?_; (with_reducible refine (spec_InvNtt.calls k4 _ _ t1031 t1034 _ ?side1 ?side2 A39.out).mono ?_); (case side1 => exact cR_ (Kd.R_reads' HO1033.out).2.2); (case side2 => exact (Kd.R_reads' HO1033.out).2.1); rintro e w48 ⟨v1035, rfl, ho0, hb⟩; refine ⟨_, rfl, ?_⟩; have n_ := b_ (Kd.N_elder' (rN_ HO_8.out) (Kd.R_base ho0) hb) <| b_ (Kd.N_elder' (rN_ HO_10.out) (Kd.R_base ho0) hb) <| b_ (Kd.N_elder' (rN_ HO_11.out) (Kd.R_base ho0) hb) <| b_ (Kd.N_elder' (rN_ HO_15.out) (Kd.R_base ho0) hb) <| b_ (Kd.R_elder' (rR_ HO1033.out) (Kd.R_base ho0) hb) <| b_ (Kd.R_lower (Kd.R_new' ho0 (Kd.R_lt (rR_ HO1033.out))) (below_size (hB_))) <| c_ (below_step (hB_) hb); clear HO_8 HO_10 HO_11 HO_15 HO1033 HB; obtain ⟨HO_8, HO_10, HO_11, HO_15, HO1033, HO1036, HB⟩ := n_; (try clear ho0)) | ((with_reducible refine gate_callee (f := 8) rfl ?_); refine goesL_ (some 78) rfl rfl Try.func8 (by kernel_rfl) rfl #[.string a2, .int .i64 (wrap64 (2 + x14_3))] rfl aM_ ?_; (with_reducible refine (spec_Small.calls k4 a2 (wrap64 (2 + x14_3)) t1037 _ A40.out).mono ?_); rintro e w49 ⟨v1038, rfl, ho0, hb⟩; refine ⟨_, rfl, ?_⟩; have n_ := b_ (Kd.N_elder' (rN_ HO_8.out) (Kd.R_base ho0) hb) <| b_ (Kd.N_elder' (rN_ HO_10.out) (Kd.R_base ho0) hb) <| b_ (Kd.N_elder' (rN_ HO_11.out) (Kd.R_base ho0) hb) <| b_ (Kd.N_elder' (rN_ HO_15.out) (Kd.R_base ho0) hb) <| b_ (Kd.R_elder' (rR_ HO1033.out) (Kd.R_base ho0) hb) <| b_ (Kd.R_elder' (rR_ HO1036.out) (Kd.R_base ho0) hb) <| b_ (Kd.R_lower (Kd.R_new' (Kd.R_new' ho0 (Kd.R_lt (rR_ HO1033.out))) (Kd.R_lt (rR_ HO1036.out))) (below_size (hB_))) <| c_ (below_step (hB_) hb); clear HO_8 HO_10 HO_11 HO_15 HO1033 HO1036 HB; obtain ⟨HO_8, HO_10, HO_11, HO_15, HO1033, HO1036, HO1039, HB⟩ := n_; obtain ⟨Ao50, co50, eo50⟩ := Kd.R_slice HO1036.out; subst eo50; obtain ⟨Ao51, co51, eo51⟩ := Kd.R_slice HO1039.out; subst eo51) | ((with_reducible refine gate_callee (f := 54) rfl ?_); refine goesL_ (some 79) rfl rfl Try.func54 (by kernel_rfl) rfl #[.slice Ao50 t1034.length co50, .slice Ao51 t1037.length co51] rfl aM_ ?_; (with_reducible refine (spec_PolyAdd.calls k4 _ _ t1034 _ _ t1037 t1040 _ ?side1 ?side2 ?side3 ?side4 A41.out).mono ?_); (case side1 => exact cR_ (Kd.R_reads' HO1036.out).2.2); (case side2 => exact (Kd.R_reads' HO1036.out).2.1); (case side3 => exact cR_ (Kd.R_reads' HO1039.out).2.2); (case side4 => exact (Kd.R_reads' HO1039.out).2.1); rintro e w52 ⟨v1041, rfl, ho0, hb⟩; refine ⟨_, rfl, ?_⟩; have n_ := b_ (Kd.N_elder' (rN_ HO_8.out) (Kd.R_base ho0) hb) <| b_ (Kd.N_elder' (rN_ HO_10.out) (Kd.R_base ho0) hb) <| b_ (Kd.N_elder' (rN_ HO_11.out) (Kd.R_base ho0) hb) <| b_ (Kd.N_elder' (rN_ HO_15.out) (Kd.R_base ho0) hb) <| b_ (Kd.R_elder' (rR_ HO1033.out) (Kd.R_base ho0) hb) <| b_ (Kd.R_elder' (rR_ HO1036.out) (Kd.R_base ho0) hb) <| b_ (Kd.R_elder' (rR_ HO1039.out) (Kd.R_base ho0) hb) <| b_ (Kd.R_lower (Kd.R_new' (Kd.R_new' (Kd.R_new' ho0 (Kd.R_lt (rR_ HO1033.out))) (Kd.R_lt (rR_ HO1036.out))) (Kd.R_lt (rR_ HO1039.out))) (below_size (hB_))) <| c_ (below_step (hB_) hb); clear HO_8 HO_10 HO_11 HO_15 HO1033 HO1036 HO1039 HB; obtain ⟨HO_8, HO_10, HO_11, HO_15, HO1033, HO1036, HO1039, HO1042, HB⟩ := n_; obtain ⟨Ao53, co53, eo53⟩ := Kd.R_slice HO1042.out; subst eo53) | ((with_reducible refine gate_callee (f := 57) rfl ?_); refine goesL_ (some 82) rfl rfl Try.func57 (by kernel_rfl) rfl #[.slice Ao53 t1040.length co53, .int .i64 10] rfl aM_ ?_; (with_reducible refine (spec_l13Squeezed.calls k4 _ _ t1040 10 t1043 _ ?side1 ?side2 A42.out).mono ?_); (case side1 => exact cR_ (Kd.R_reads' HO1042.out).2.2); (case side2 => exact (Kd.R_reads' HO1042.out).2.1); rintro e w54 ⟨rfl, hb⟩; refine ⟨_, rfl, ?_⟩; have n_ := b_ (Kd.N_below (rN_ HO_8.out) hb) <| b_ (Kd.N_below (rN_ HO_10.out) hb) <| b_ (Kd.N_below (rN_ HO_11.out) hb) <| b_ (Kd.N_below (rN_ HO_15.out) hb) <| b_ (Kd.R_below (rR_ HO1033.out) hb) <| b_ (Kd.R_below (rR_ HO1036.out) hb) <| b_ (Kd.R_below (rR_ HO1039.out) hb) <| b_ (Kd.R_below (rR_ HO1042.out) hb) <| c_ (below_step (hB_) hb); clear HO_8 HO_10 HO_11 HO_15 HO1033 HO1036 HO1039 HO1042 HB; obtain ⟨HO_8, HO_10, HO_11, HO_15, HO1033, HO1036, HO1039, HO1042, HB⟩ := n_; (try clear hb)))
          go_roundg k4
          case measure => have := HJ3.out; have := HK2.out; have := HK3.out; have := HK4.out; omega
          case rel => exact ⟨(x13_3 ++ t1043), (wrap64 (x14_3 + 1)), f0_, f0_, H', ⟨by have := HJ3.out; have := HK2.out; have := HK3.out; have := HK4.out; omega⟩, ⟨by refine kN_ ?_; exact Kd.N_mono HO_8.out (fun _ hk => ⟨hk.1.1.1.1.1, hk.1.1.1.1.2.1⟩)⟩, ⟨by refine kN_ ?_; exact Kd.N_mono HO_10.out (fun _ hk => ⟨hk.1.1.1.1.1, hk.1.1.1.1.2.1⟩)⟩, ⟨by refine kN_ ?_; exact Kd.N_mono HO_11.out (fun _ hk => ⟨hk.1.1.1.1.1, hk.1.1.1.1.2.1⟩)⟩, ⟨hB_⟩⟩

/-! ### laws_FnExactEncrypt: function 7 -/
def laws_FnExactEncrypt.f (k : Nat) (a0 : ByteArray) (a1 : ByteArray) (a2 : ByteArray) : Option (Bool) := if (a0.size : Int) > 1048576 then (some true) else (if (a1.size : Int) > 1048576 then (some true) else (if (a2.size : Int) > 1048576 then (some true) else ((spec_Encrypt.f k a0 a1 a2).bind fun bt1298 => ((impl_Encrypt.f k a0 a1 a2).bind fun bt1300 => (if bt1300.1.toList = bt1298.1.toList then (if (bt1300.2 != bt1298.2) = true then (none) else (some true)) else (none))))))
theorem laws_FnExactEncrypt.mono : ∀ a0 a1 a2 k, LeO (laws_FnExactEncrypt.f k a0 a1 a2) (laws_FnExactEncrypt.f (k + 1) a0 a1 a2) := by
 intro a0 a1 a2 k
 unfold laws_FnExactEncrypt.f
 exact o2_ impl_Encrypt.mono spec_Encrypt.mono
theorem laws_FnExactEncrypt.calls (k : Nat) (a0 : ByteArray) (a1 : ByteArray) (a2 : ByteArray) (r : Bool) (w : World) (h : laws_FnExactEncrypt.f k a0 a1 a2 = some r) :
  Calls Try.prog 7 #[.string a0, .string a1, .string a2] w fun e w' => e = .returned (.bool r) ∧ Below w.heap.size w w' := by
 have HB := Aside0.mk (Below.refl w.heap.size w)
 delta laws_FnExactEncrypt.f at h
 have H := h
 clear h
 by_cases c4 : (a0.size : Int) > 1048576
 ·rw [if_pos c4] at H
  have c4b0 := decide_eq_true c4
  have c4b1 : decide (1048576 < a0.size) = true := decide_eq_true (by omega)
  clear c4
  obtain rfl := Option.some.inj H
  go_enter Try.func7, Try.ntmps7
  go_wp2
  go_ret
  exact ⟨f1_, hB_⟩
 rw [if_neg c4] at H
 have c4b0 := decide_eq_false c4
 have c4b1 : decide (1048576 < a0.size) = false := decide_eq_false (by omega)
 clear c4
 by_cases c5 : (a1.size : Int) > 1048576
 ·rw [if_pos c5] at H
  have c5b0 := decide_eq_true c5
  have c5b1 : decide (1048576 < a1.size) = true := decide_eq_true (by omega)
  clear c5
  obtain rfl := Option.some.inj H
  go_enter Try.func7, Try.ntmps7
  go_wp2
  go_ret
  exact ⟨f1_, hB_⟩
 rw [if_neg c5] at H
 have c5b0 := decide_eq_false c5
 have c5b1 : decide (1048576 < a1.size) = false := decide_eq_false (by omega)
 clear c5
 by_cases c6 : (a2.size : Int) > 1048576
 ·rw [if_pos c6] at H
  have c6b0 := decide_eq_true c6
  have c6b1 : decide (1048576 < a2.size) = true := decide_eq_true (by omega)
  clear c6
  obtain rfl := Option.some.inj H
  go_enter Try.func7, Try.ntmps7
  go_wp2
  go_ret
  exact ⟨f1_, hB_⟩
 rw [if_neg c6] at H
 have c6b0 := decide_eq_false c6
 have c6b1 : decide (1048576 < a2.size) = false := decide_eq_false (by omega)
 clear c6
 obtain ⟨⟨t1298, t1299⟩, A7, H⟩ := bN_ H
 obtain ⟨⟨t1300, t1301⟩, A8, H⟩ := bN_ H
 obtain ⟨c9, H⟩ := iN_ H
 have c9b0 : (t1300.toList == t1298.toList) = true := beq_iff_eq.mpr c9
 have c9b1 : (t1300.toList != t1298.toList) = false := bne_eq_false_iff_eq.mpr c9
 clear c9
 by_cases c10 : (t1301 != t1299) = true
 ·rw [if_pos c10] at H
  exact absurd H (by simp)
 rw [if_neg c10] at H
 have c10b0 : (t1301 != t1299) = false := by simpa using c10
 (try (have c10b1 : decide (t1301 = t1299) = true := by simpa using c10))
 (try (have c10b2 : (t1301 == t1299) = true := by simpa using c10))
 clear c10
 obtain rfl := Option.some.inj H
 go_enter Try.func7, Try.ntmps7
 go_wp2_with (first | ((with_reducible refine gate_callee (f := 27) rfl ?_); refine goesL_ (some 24) rfl rfl Try.func27 (by kernel_rfl) rfl #[.string a0, .string a1, .string a2] rfl aM_ ?_; (with_reducible refine (spec_Encrypt.calls k a0 a1 a2 t1298 t1299 _ A7.out).mono ?_); rintro e w11 ⟨rfl, hb⟩; refine ⟨_, rfl, ?_⟩; replace HB := Aside0.mk (below_step (hB_) hb); (try clear hb)) | ((with_reducible refine gate_callee (f := 28) rfl ?_); refine goesL_ (some 31) rfl rfl Try.func28 (by kernel_rfl) rfl #[.string a0, .string a1, .string a2] rfl aM_ ?_; (with_reducible refine (impl_Encrypt.calls k a0 a1 a2 t1300 t1301 _ A8.out).mono ?_); rintro e w12 ⟨rfl, hb⟩; refine ⟨_, rfl, ?_⟩; replace HB := Aside0.mk (below_step (hB_) hb); (try clear hb)))
 go_ret
 exact ⟨f1_, hB_⟩

/-- THE ONE PURE STATEMENT of laws_FnExactEncrypt: yours. -/
def laws_FnExactEncrypt.Pure : Prop := ∀ (a0 : ByteArray) (a1 : ByteArray) (a2 : ByteArray), a0.size ≤ 140737488351232 → a1.size ≤ 140737488351232 → a2.size ≤ 140737488351232 → ∃ k, laws_FnExactEncrypt.f k a0 a1 a2 = some true
theorem laws_FnExactEncrypt.walk (P : laws_FnExactEncrypt.Pure) (a0 : ByteArray) (a1 : ByteArray) (a2 : ByteArray) (w : World) (w0 : a0.size ≤ 140737488351232) (w1 : a1.size ≤ 140737488351232) (w2 : a2.size ≤ 140737488351232) :
  Calls Try.prog 7 #[.string a0, .string a1, .string a2] w fun e w' => e = .returned (.bool true) ∧ Below w.heap.size w w' := by
 obtain ⟨k, h⟩ := P a0 a1 a2 w0 w1 w2
 refine (laws_FnExactEncrypt.calls k a0 a1 a2 true w h).mono ?_
 rintro e w' ⟨rfl, hd⟩
 exact ⟨rfl, hd⟩

end Go.Proofs.Ytnckhligcdieaaa.P
