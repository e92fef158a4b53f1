-- printed texts of this session, regrouped
import Derived.Test.YtnckhligcdieaaaMW6
import Derived.Test.YtnckhligcdieaaaPx0
import Derived.Test.YtnckhligcdieaaaPx2
import Derived.Test.YtnckhligcdieaaaPx3
import Derived.Test.YtnckhligcdieaaaPx18
import Derived.Test.YtnckhligcdieaaaPx19
namespace Go.Proofs.Ytnckhligcdieaaa.P
open Go.RowKit Go.Proofs.YtnckhligcdieaaaW.PrintWords Go.Proofs.YtnckhligcdieaaaW.PrintLast Go.Proofs.YtnckhligcdieaaaW.PrintMore
attribute [local go_sem] max2_int min2_int max_two min_two max_three min_three max_four min_four   -- for this text's walks alone
set_option linter.unusedVariables false
set_option linter.unusedSimpArgs false

/-! ### impl_ShakeOf: function 31 -/
def impl_ShakeOf.f (k : Nat) (a0 : ByteArray) (a1 : Int) : Option (ByteArray × Bool) := (impl_in.f a1 0 4000).bind fun t204 => (if t204 = true then ((impl_StreamNew.f k a0).bind fun bt205 => ((impl_StreamTake.f k bt205.1 bt205.2 a1).bind fun bt207 => (some (bt207.2.2, true)))) else (some ((⟨#[]⟩ : ByteArray), false)))
theorem impl_ShakeOf.mono : ∀ a0 a1 k, LeO (impl_ShakeOf.f k a0 a1) (impl_ShakeOf.f (k + 1) a0 a1) := by
 intro a0 a1 k
 unfold impl_ShakeOf.f
 repeat' first
   | (with_reducible exact impl_StreamNew.mono _ _)
   | (with_reducible exact impl_StreamTake.mono _ _ _ _)
   | (with_reducible exact LeO.refl _)
   | (with_reducible exact LeO.none _)
   | (with_reducible refine LeO.ite ?_ ?_)
   | (with_reducible refine LeO.bind ?_ (fun _ => ?_))
   | exact impl_StreamNew.mono _ _
   | exact impl_StreamTake.mono _ _ _ _
   | exact LeO.none _
   | refine LeO.ite ?_ ?_
   | refine LeO.bind ?_ (fun _ => ?_)
set_option maxHeartbeats 8000000 in
set_option maxRecDepth 100000 in
theorem impl_ShakeOf.calls (k : Nat) (a0 : ByteArray) (a1 : Int) (r1 : ByteArray) (r2 : Bool) (w : World) (h : impl_ShakeOf.f k a0 a1 = some (r1, r2)) :
  Calls Try.prog 31 #[.string a0, .int .i64 a1] w fun e w' => e = .returned (.tuple #[.string r1, .bool r2]) ∧ Below w.heap.size w w' := by
 have hu53 := Try.underlying53
 have HB := Aside0.mk (Below.refl w.heap.size w)
 have H : ((impl_in.f a1 0 4000).bind fun t204 => (if t204 = true then ((impl_StreamNew.f k a0).bind fun bt205 => ((impl_StreamTake.f k bt205.1 bt205.2 a1).bind fun bt207 => (some (bt207.2.2, true)))) else (some ((⟨#[]⟩ : ByteArray), false)))) = some (r1, r2) := h
 clear h
 replace H := Option.bind_eq_some_iff.mp H
 obtain ⟨t204, A30, H⟩ := H
 replace H : (if t204 = true then ((impl_StreamNew.f k a0).bind fun bt205 => ((impl_StreamTake.f k bt205.1 bt205.2 a1).bind fun bt207 => (some (bt207.2.2, true)))) else (some ((⟨#[]⟩ : ByteArray), false))) = some (r1, r2) := H
 have A3 := Aside0.mk A30
 clear A30
 by_cases c4 : t204 = true
 ·subst c4
  have H1 : ((impl_StreamNew.f k a0).bind fun bt205 => ((impl_StreamTake.f k bt205.1 bt205.2 a1).bind fun bt207 => (some (bt207.2.2, true)))) = some (r1, r2) := by rw [if_pos rfl] at H; exact H
  clear H
  have H := H1
  clear H1
  replace H := Option.bind_eq_some_iff.mp H
  obtain ⟨⟨t205, t206⟩, A50, H⟩ := H
  replace H : ((impl_StreamTake.f k t205 t206 a1).bind fun bt207 => (some (bt207.2.2, true))) = some (r1, r2) := H
  have A5 := Aside0.mk A50
  clear A50
  replace H := Option.bind_eq_some_iff.mp H
  obtain ⟨⟨t207, t208, t209⟩, A60, H⟩ := H
  replace H : (some (t209, true)) = some (r1, r2) := H
  have A6 := Aside0.mk A60
  clear A60
  simp only [Option.some.injEq, Prod.mk.injEq] at H
  obtain ⟨rfl, rfl⟩ := H
  go_enter Try.func31, Try.ntmps31
  go_wp2_with (first | ((with_reducible refine gate_callee (f := 41) rfl ?_); refine goesL_ (some 9) rfl rfl Try.func41 (by kernel_rfl) rfl #[.int .i64 a1, .int .i64 0, .int .i64 4000] rfl aM_ ?_; (with_reducible refine (impl_in.calls a1 0 4000 true _ A3.out).mono ?_); rintro e w' ⟨rfl, ⟨nd, rfl⟩⟩; refine ⟨_, rfl, ?_⟩) | ((with_reducible refine gate_callee (f := 36) rfl ?_); refine goesL_ (some 13) rfl rfl Try.func36 (by kernel_rfl) rfl #[.string a0] rfl aM_ ?_; (with_reducible refine (impl_StreamNew.calls k a0 t205 t206 _ A5.out).mono ?_); rintro e w7 ⟨rfl, hb⟩; refine ⟨_, rfl, ?_⟩; have n0_ := Aside0.mk (below_step (hB_) hb); clear HB; have HB := n0_; clear n0_; (try clear hb); (try clear hb2); (try clear hk); (try clear hi)) | ((with_reducible refine gate_callee (f := 37) rfl ?_); refine goesL_ (some 15) rfl rfl Try.func37 (by kernel_rfl) rfl #[.agg #[.string t205, .int .i64 t206], .int .i64 a1] rfl aM_ ?_; (with_reducible refine (impl_StreamTake.calls k t205 t206 a1 t207 t208 t209 _ A6.out).mono ?_); rintro e w8 ⟨rfl, hb⟩; refine ⟨_, rfl, ?_⟩; have n0_ := Aside0.mk (below_step (hB_) hb); clear HB; have HB := n0_; clear n0_; (try clear hb); (try clear hb2); (try clear hk); (try clear hi)) | ((with_reducible refine gate_dst (N := 6) rfl ?_); refine box_event ?hg (N := 6) ?hd (cs := #[.string (⟨#[]⟩ : ByteArray), .int .i64 0]) (t := 53) ?hr ?_; (case hd => rfl); (case hg => rfl); (case hr => first | (go_simp; done) | (go_simp; rfl)); intro gb210 hg w9 hbox hb; have n0_ := Aside0.mk (below_step (hB_) hb); have n1_ := Aside0.mk (hbox); have n2_ := Aside0.mk ((by rw [hg]; exact (below_size (hB_)) : w.heap.size ≤ gb210)); have n3_ := Aside0.mk ((by rw [hg]; exact (below_size (hB_)) : w.heap.size ≤ gb210)); clear HB; have HB := n0_; have BK210 := n1_; have GW210 := n2_; have GE210 := n3_; clear n0_ n1_ n2_ n3_; clear hb hbox hg; have hcz10_0 : w9.cell? ⟨gb210, 0, none⟩ = some (.string (⟨#[]⟩ : ByteArray)) := (blk_cell BK210.out 0).trans rfl; have hcz10_1 : w9.cell? ⟨gb210, 1, none⟩ = some (.int .i64 0) := (blk_cell BK210.out 1).trans rfl; have hfz10_0 := blk_frozen BK210.out 0; have hfz10_1 := blk_frozen BK210.out 1))
  go_ret2
  exact ⟨by first | rfl | (simp [errW_none, errW_some] <;> rfl) | (simp [*, errW_none, errW_some] <;> rfl), hS_ GE210.out⟩
 ·replace c4 := Bool.eq_false_iff.mpr c4
  subst c4
  have H1 : (some ((⟨#[]⟩ : ByteArray), false)) = some (r1, r2) := by rw [if_neg (show ¬ (false = true) by decide)] at H; exact H
  clear H
  have H := H1
  clear H1
  simp only [Option.some.injEq, Prod.mk.injEq] at H
  obtain ⟨rfl, rfl⟩ := H
  go_enter Try.func31, Try.ntmps31
  go_wp2_with (first | ((with_reducible refine gate_callee (f := 41) rfl ?_); refine goesL_ (some 9) rfl rfl Try.func41 (by kernel_rfl) rfl #[.int .i64 a1, .int .i64 0, .int .i64 4000] rfl aM_ ?_; (with_reducible refine (impl_in.calls a1 0 4000 false _ A3.out).mono ?_); rintro e w' ⟨rfl, ⟨nd, rfl⟩⟩; refine ⟨_, rfl, ?_⟩))
  go_ret2
  exact ⟨by first | rfl | (simp [errW_none, errW_some] <;> rfl) | (simp [*, errW_none, errW_some] <;> rfl), hB_⟩

/-! ### impl_Small: function 9 -/
def impl_Small.l0 : Nat → ByteArray → List Int → Int → Int → Option (List Int)
 | 0, _, _, _, _ => none
 | k + 1, x5, x7, x20, x21 => if x21 < x20 then (if 0 ≤ (wrap64 (Int.tdiv x21 2)) then (if (wrap64 (Int.tdiv x21 2)) < (x5.size : Int) then (if 0 ≤ (wrap64 (4 * (Int.tmod x21 2))) then ((impl_modQ.f (wrap64 ((wrap64 ((wrap64 ((Go.bits .and .i64 (wrap64 (shr .u8 (bt x5 (wrap64 (Int.tdiv x21 2))) (wrap64 (4 * (Int.tmod x21 2))))) 1) + (Go.bits .and .i64 ((wrap64 (shr .u8 (bt x5 (wrap64 (Int.tdiv x21 2))) (wrap64 (4 * (Int.tmod x21 2))))) / 2) 1))) - (Go.bits .and .i64 ((wrap64 (shr .u8 (bt x5 (wrap64 (Int.tdiv x21 2))) (wrap64 (4 * (Int.tmod x21 2))))) / 4) 1))) - (Go.bits .and .i64 ((wrap64 (shr .u8 (bt x5 (wrap64 (Int.tdiv x21 2))) (wrap64 (4 * (Int.tmod x21 2))))) / 8) 1)))).bind fun t220 => (if 0 ≤ x21 then (if x21 < (x7.length : Int) then (impl_Small.l0 k x5 (x7.set (x21 : Int).toNat t220) x20 (wrap64 (x21 + 1))) else (none)) else (none))) else (none)) else (none)) else (none)) else (some x7)
def impl_Small.f (k : Nat) (a0 : ByteArray) (a1 : Int) : Option (List Int) := (impl_oneByte.f a1).bind fun t214 => (if a0.size + t214.size ≤ 9223372036854775807 then ((impl_ShakeOf.f k (a0 ++ t214) 128).bind fun bt215 => (if 256 ≤ 35184372088832 then ((some (List.replicate 256 0 : List Int)).bind fun y217 => (impl_Small.l0 k bt215.1 y217 (y217.length : Int) 0)) else (none))) else (none))
theorem impl_Small.mono_l : ∀ k, (∀ y0 y1 y2 y3, LeO (impl_Small.l0 k y0 y1 y2 y3) (impl_Small.l0 (k + 1) y0 y1 y2 y3))
 | 0 => fun _ _ _ _ r h => by simp [impl_Small.l0] at h
 | k + 1 => by
  have ih0 := impl_Small.mono_l k
  ·intro y0 y1 y2 y3
   unfold impl_Small.l0
   repeat' first
   | (with_reducible exact ih0 _ _ _ _)
   | (with_reducible exact impl_ShakeOf.mono _ _ _)
   | (with_reducible exact LeO.refl _)
   | (with_reducible exact LeO.none _)
   | (with_reducible refine LeO.ite ?_ ?_)
   | (with_reducible refine LeO.bind ?_ (fun _ => ?_))
   | exact ih0 _ _ _ _
   | exact impl_ShakeOf.mono _ _ _
   | exact LeO.none _
   | refine LeO.ite ?_ ?_
   | refine LeO.bind ?_ (fun _ => ?_)
theorem impl_Small.mono : ∀ a0 a1 k, LeO (impl_Small.f k a0 a1) (impl_Small.f (k + 1) a0 a1) := by
 intro a0 a1 k
 have ih0 := impl_Small.mono_l k
 unfold impl_Small.f
 repeat' first
   | (with_reducible exact ih0 _ _ _ _)
   | (with_reducible exact impl_ShakeOf.mono _ _ _)
   | (with_reducible exact LeO.refl _)
   | (with_reducible exact LeO.none _)
   | (with_reducible refine LeO.ite ?_ ?_)
   | (with_reducible refine LeO.bind ?_ (fun _ => ?_))
   | exact ih0 _ _ _ _
   | exact impl_ShakeOf.mono _ _ _
   | exact LeO.none _
   | refine LeO.ite ?_ ?_
   | refine LeO.bind ?_ (fun _ => ?_)
set_option maxHeartbeats 8000000 in
set_option maxRecDepth 100000 in
theorem impl_Small.calls (k : Nat) (a0 : ByteArray) (a1 : Int) (r : List Int) (w : World) (h : impl_Small.f k a0 a1 = some r) :
  Calls Try.prog 9 #[.string a0, .int .i64 a1] w fun e w' => ∃ v0_ : Value, e = .returned (v0_) ∧ Kd.R (Kd.int .i64) 3 w' w.heap.size (fun _ => True) v0_ r ∧ Below w.heap.size w w' := by
 have HB := Aside0.mk (Below.refl w.heap.size w)
 have H : ((impl_oneByte.f a1).bind fun t214 => (if a0.size + t214.size ≤ 9223372036854775807 then ((impl_ShakeOf.f k (a0 ++ t214) 128).bind fun bt215 => (if 256 ≤ 35184372088832 then ((some (List.replicate 256 0 : List Int)).bind fun y217 => (impl_Small.l0 k bt215.1 y217 (y217.length : Int) 0)) else (none))) else (none))) = some r := h
 clear h
 replace H := Option.bind_eq_some_iff.mp H
 obtain ⟨t214, A30, H⟩ := H
 replace H : (if a0.size + t214.size ≤ 9223372036854775807 then ((impl_ShakeOf.f k (a0 ++ t214) 128).bind fun bt215 => (if 256 ≤ 35184372088832 then ((some (List.replicate 256 0 : List Int)).bind fun y217 => (impl_Small.l0 k bt215.1 y217 (y217.length : Int) 0)) else (none))) else (none)) = some r := H
 have A3 := Aside0.mk A30
 clear A30
 by_cases c4 : a0.size + t214.size ≤ 9223372036854775807
 ·rw [if_pos c4] at H
  have c4b0 := eq_true c4
  have c4b1 : decide (a0.size + t214.size ≤ 9223372036854775807) = true := decide_eq_true c4
  try have c4b2 : (9223372036854775807 < a0.size + t214.size) = False := eq_false (Nat.not_lt.2 c4)
  replace H := Option.bind_eq_some_iff.mp H
  obtain ⟨⟨t215, t216⟩, A50, H⟩ := H
  replace H : (if 256 ≤ 35184372088832 then ((some (List.replicate 256 0 : List Int)).bind fun y217 => (impl_Small.l0 k t215 y217 (y217.length : Int) 0)) else (none)) = some r := H
  have A5 := Aside0.mk A50
  clear A50
  by_cases c6 : 256 ≤ 35184372088832
  ·rw [if_pos c6] at H
   have c6b0 := eq_true c6
   have c6b1 : decide (256 ≤ 35184372088832) = true := decide_eq_true c6
   clear c6
   obtain ⟨y217, hy217⟩ : ∃ y_ : List Int, y_ = (List.replicate 256 0) := ⟨_, rfl⟩
   replace H : (impl_Small.l0 k t215 y217 (y217.length : Int) 0) = some r := by first | (rw [hy217]; with_reducible exact H) | (have H2_ := (Option.bind_some _ _).symm.trans H; rw [hy217]; with_reducible exact H2_) | (have H2_ := (Option.bind_some _ _).symm.trans H; with_reducible exact H2_) | with_reducible exact H | (rw [hy217]; exact H) | exact H
   have Ny217 := Aside0.mk hy217
   clear hy217
   have H' := Aside0.mk H
   clear H
   go_enter Try.func9, Try.ntmps9
   go_wp2_with (first | ((with_reducible refine gate_callee (f := 32) rfl ?_); refine goesL_ (some 13) rfl rfl Try.func32 (by kernel_rfl) rfl #[.int .i64 a1] rfl aM_ ?_; (with_reducible refine (impl_oneByte.calls a1 t214 _ A3.out).mono ?_); rintro e w7 ⟨rfl, hb⟩; refine ⟨_, rfl, ?_⟩; have n0_ := Aside0.mk (below_step (hB_) hb); clear HB; have HB := n0_; clear n0_; (try clear hb); (try clear hb2); (try clear hk); (try clear hi)) | ((with_reducible refine gate_callee (f := 31) rfl ?_); refine goesL_ (some 15) rfl rfl Try.func31 (by kernel_rfl) rfl #[.string (a0 ++ t214), .int .i64 128] rfl aM_ ?_; (with_reducible refine (impl_ShakeOf.calls k (a0 ++ t214) 128 t215 t216 _ A5.out).mono ?_); rintro e w8 ⟨rfl, hb⟩; refine ⟨_, rfl, ?_⟩; have n0_ := Aside0.mk (below_step (hB_) hb); clear HB; have HB := n0_; clear n0_; (try clear hb); (try clear hb2); (try clear hk); (try clear hi)) | ((with_reducible refine gate_dst (N := 18) rfl ?_); refine Kd.R_make (Kd.int .i64) _ 3 rfl (N := 18) rfl 22 _ _ rfl 256 rfl rfl Try.underlying22 (.int .i64 0) 8 info3 rfl (by decide) (by omega) 0 (ok := fun _ => True) (okp := fun _ => True) rfl (fun _ hk => hk) trivial (by omega) (by omega) (Below.refl _ _) (Nat.le_refl _) ?_; intro v218 w9 ho10 hb hg_ hnew_; clear hg_ hnew_; (first | rw [← Ny217.out] at ho10 | (simp only [Int.reduceToNat] at ho10; rw [← Ny217.out] at ho10)); have n0_ := Aside0.mk (Kd.R_lower ho10 (below_size (hB_))); have n1_ := Aside0.mk (below_step (hB_) hb); clear HB; have HO219 := n0_; have HB := n1_; clear n0_ n1_; clear hb ho10; obtain ⟨Ao11, co11, eo11⟩ := Kd.R_slice HO219.out; subst eo11))
   go_loopg [21] k (fun kq v21 w' => ∃ (x7_1 : List Int) (x21_1 : Int), v21 = .int .i64 x21_1 ∧ Aside0 (impl_Small.l0 kq t215 x7_1 (y217.length : Int) x21_1 = some r) ∧ Aside0 (kq ≤ k) ∧ Aside0 (Kd.R (Kd.int .i64) 3 w' w.heap.size (fun _ => True) (.slice Ao11 y217.length co11) x7_1) ∧ Aside0 (Below w.heap.size w w'))
   case atStart => exact ⟨(y217), (0), (by first | rfl | (simp; done) | (simp [*]; done)), H', ⟨Nat.le_refl _⟩, ⟨rR_ HO219.out⟩, ⟨hB_⟩⟩
   case round =>
    clear H'
    try clear p2
    try clear c3
    try clear c4
    try clear c4b0
    try clear c4b1
    try clear c4b2
    try clear c6
    try clear c6b0
    try clear c6b1
    try clear c9
    obtain ⟨x7_1, x21_1, rfl, HA, HK1, HO_7, HB⟩ := hrel
    have hl7_1 := (Kd.R_reads' HO_7.out).1
    rw [hl7_1] at HO_7
    (try simp only [hl7_1])
    cases gk with
    | zero => exact absurd HA.out (by simp [impl_Small.l0])
    | succ k1 =>
     have H := HA.out
     clear HA
     simp only [impl_Small.l0] at H
     by_cases c12 : x21_1 < (y217.length : Int)
     ·rw [if_pos c12] at H
      have c12b0 : decide (x21_1 < (y217.length : Int)) = true := decide_eq_true c12
      (try simp only [hl7_1] at c12b0)
      clear c12
      obtain ⟨ji13, hji13⟩ : ∃ j_ : Int, (wrap64 (Int.tdiv x21_1 2)) = j_ := ⟨_, rfl⟩
      replace H : (if 0 ≤ (ji13) then (if (ji13) < (t215.size : Int) then (if 0 ≤ (wrap64 (4 * (Int.tmod x21_1 2))) then ((impl_modQ.f (wrap64 ((wrap64 ((wrap64 ((Go.bits .and .i64 (wrap64 (shr .u8 (bt t215 (ji13)) (wrap64 (4 * (Int.tmod x21_1 2))))) 1) + (Go.bits .and .i64 ((wrap64 (shr .u8 (bt t215 (ji13)) (wrap64 (4 * (Int.tmod x21_1 2))))) / 2) 1))) - (Go.bits .and .i64 ((wrap64 (shr .u8 (bt t215 (ji13)) (wrap64 (4 * (Int.tmod x21_1 2))))) / 4) 1))) - (Go.bits .and .i64 ((wrap64 (shr .u8 (bt t215 (ji13)) (wrap64 (4 * (Int.tmod x21_1 2))))) / 8) 1)))).bind fun t220 => (if 0 ≤ x21_1 then (if x21_1 < (x7_1.length : Int) then (impl_Small.l0 k1 t215 (x7_1.set (x21_1 : Int).toNat t220) (y217.length : Int) (wrap64 (x21_1 + 1))) else (none)) else (none))) else (none)) else (none)) else (none)) = some r := by first | (rw [hji13] at H; exact H) | (simp only [hji13] at H ⊢; exact H)
      have hji13w : (IntKind.i64.wrap (Int.tdiv x21_1 2)) = ji13 := (i64_w _).trans hji13
      by_cases c14 : 0 ≤ (ji13)
      ·rw [if_pos c14] at H
       have c14b0 : decide (0 ≤ (ji13)) = true := decide_eq_true c14
       clear c14
       by_cases c15 : (ji13) < (t215.size : Int)
       ·rw [if_pos c15] at H
        have c15b0 : decide ((ji13) < (t215.size : Int)) = true := decide_eq_true c15
        clear c15
        obtain ⟨ji17, hji17⟩ : ∃ j_ : Int, (wrap64 (4 * (Int.tmod x21_1 2))) = j_ := ⟨_, rfl⟩
        replace H : (if 0 ≤ (ji17) then ((impl_modQ.f (wrap64 ((wrap64 ((wrap64 ((Go.bits .and .i64 (wrap64 (shr .u8 (bt t215 (ji13)) (ji17))) 1) + (Go.bits .and .i64 ((wrap64 (shr .u8 (bt t215 (ji13)) (ji17))) / 2) 1))) - (Go.bits .and .i64 ((wrap64 (shr .u8 (bt t215 (ji13)) (ji17))) / 4) 1))) - (Go.bits .and .i64 ((wrap64 (shr .u8 (bt t215 (ji13)) (ji17))) / 8) 1)))).bind fun t220 => (if 0 ≤ x21_1 then (if x21_1 < (x7_1.length : Int) then (impl_Small.l0 k1 t215 (x7_1.set (x21_1 : Int).toNat t220) (y217.length : Int) (wrap64 (x21_1 + 1))) else (none)) else (none))) else (none)) = some r := by first | (rw [hji17] at H; exact H) | (simp only [hji17] at H ⊢; exact H)
        have hji17w : (IntKind.i64.wrap (4 * (Int.tmod x21_1 2))) = ji17 := (i64_w _).trans hji17
        by_cases c18 : 0 ≤ (ji17)
        ·rw [if_pos c18] at H
         have c18b0 := eq_true c18
         have c18b1 : decide (0 ≤ (ji17)) = true := decide_eq_true c18
         clear c18
         obtain ⟨ji19, hji19⟩ : ∃ j_ : Int, (shr .u8 (bt t215 (ji13)) (ji17)) = j_ := ⟨_, rfl⟩
         replace H : ((impl_modQ.f (wrap64 ((wrap64 ((wrap64 ((Go.bits .and .i64 (wrap64 (ji19)) 1) + (Go.bits .and .i64 ((wrap64 (ji19)) / 2) 1))) - (Go.bits .and .i64 ((wrap64 (ji19)) / 4) 1))) - (Go.bits .and .i64 ((wrap64 (ji19)) / 8) 1)))).bind fun t220 => (if 0 ≤ x21_1 then (if x21_1 < (x7_1.length : Int) then (impl_Small.l0 k1 t215 (x7_1.set (x21_1 : Int).toNat t220) (y217.length : Int) (wrap64 (x21_1 + 1))) else (none)) else (none))) = some r := by first | (rw [hji19] at H; exact H) | (simp only [hji19] at H ⊢; exact H)
         have hji19_ : ((bt t215 (ji13)) / 2 ^ min (ji17).toNat 8) = ji19 := hji19
         have hji19z : (ji17) ≤ 8 → ((bt t215 (ji13)) / 2 ^ (ji17).toNat) = ji19 := shr_small hji19
         replace H := Option.bind_eq_some_iff.mp H
         obtain ⟨t220, A200, H⟩ := H
         replace H : (if 0 ≤ x21_1 then (if x21_1 < (x7_1.length : Int) then (impl_Small.l0 k1 t215 (x7_1.set (x21_1 : Int).toNat t220) (y217.length : Int) (wrap64 (x21_1 + 1))) else (none)) else (none)) = some r := H
         have A20 := Aside0.mk A200
         clear A200
         by_cases c21 : 0 ≤ x21_1
         ·rw [if_pos c21] at H
          have c21b0 : decide (0 ≤ x21_1) = true := decide_eq_true c21
          clear c21
          by_cases c22 : x21_1 < (x7_1.length : Int)
          ·rw [if_pos c22] at H
           have c22b0 : decide (x21_1 < (x7_1.length : Int)) = true := decide_eq_true c22
           (try simp only [hl7_1] at c22b0)
           clear c22
           obtain ⟨y221, hy221⟩ : ∃ y_ : List Int, y_ = (x7_1.set (x21_1 : Int).toNat t220) := ⟨_, rfl⟩
           replace H : (impl_Small.l0 k1 t215 y221 (y217.length : Int) (wrap64 (x21_1 + 1))) = some r := by first | (rw [hy221]; with_reducible exact H) | (have H2_ := (Option.bind_some _ _).symm.trans H; rw [hy221]; with_reducible exact H2_) | (have H2_ := (Option.bind_some _ _).symm.trans H; with_reducible exact H2_) | with_reducible exact H | (rw [hy221]; exact H) | exact H
           have Ny221 := Aside0.mk hy221
           clear hy221
           have H' := Aside0.mk H
           clear H
           have p16 : 0 ≤ ((ji13) : Int) := of_decide_eq_true (by first | (with_reducible assumption) | assumption)
           have q16 : (ji13) < (t215.size : Int) := of_decide_eq_true (by first | (with_reducible assumption) | assumption)
           have hx16 := bt_at t215 (ji13)
           replace p16 := eq_true p16
           replace q16 := eq_true q16
           go_wp2_with (first | ((with_reducible refine gate_callee (f := 33) rfl ?_); refine goesL_ (some 49) rfl rfl Try.func33 (by kernel_rfl) rfl #[.int .i64 (wrap64 ((wrap64 ((wrap64 ((Go.bits .and .i64 (wrap64 (ji19)) 1) + (Go.bits .and .i64 ((wrap64 (ji19)) / 2) 1))) - (Go.bits .and .i64 ((wrap64 (ji19)) / 4) 1))) - (Go.bits .and .i64 ((wrap64 (ji19)) / 8) 1)))] rfl (by (try simp only [List.map_toArray, List.map_cons, List.map_nil]); first | done | (simp only [hji19]; rfl) | rfl | (simp only [List.length_drop, List.length_take]; rfl)) ?_; (with_reducible refine (impl_modQ.calls (wrap64 ((wrap64 ((wrap64 ((Go.bits .and .i64 (wrap64 (ji19)) 1) + (Go.bits .and .i64 ((wrap64 (ji19)) / 2) 1))) - (Go.bits .and .i64 ((wrap64 (ji19)) / 4) 1))) - (Go.bits .and .i64 ((wrap64 (ji19)) / 8) 1))) t220 _ A20.out).mono ?_); rintro e w' ⟨rfl, ⟨nd, rfl⟩⟩; refine ⟨_, rfl, ?_⟩; (try (rw [drewN_self wr]; generalize hq_ : World.drewN wr _ = wr; have n0_ : Aside0 (Kd.R (Kd.int .i64) 3 wr w.heap.size (fun _ => True) (.slice Ao11 x7_1.length co11) x7_1) := ⟨by rw [← hq_]; exact (rR_ HO_7.out)⟩; have n1_ : Aside0 (Below w.heap.size w wr) := ⟨by rw [← hq_]; exact (hB_)⟩; clear HO_7 HB hq_; have HO_7 := n0_; have HB := n1_; clear n0_ n1_)); have p23 : 0 ≤ (x21_1 : Int) := of_decide_eq_true (by first | (with_reducible assumption) | assumption); have q23 : (x21_1 : Int) < ((x7_1.length : Int) : Int) := of_decide_eq_true (by first | (with_reducible assumption) | assumption); obtain ⟨go23, co23, eo23, gb23, gl23, cl23, HG23⟩ := Kd.R_form HO_7.out (by omega); (first | cases eo23 | (injection eo23 with ea_ en_ ec_; (first | subst ea_ | (injection ea_ with ea_; subst ea_)); subst ec_; clear en_)); have GB23 := Aside0.mk gb23; have GG23 := Aside0.mk HG23; clear gb23 gl23 HG23; obtain ⟨hx23_0, hf23_0⟩ := Kd.R_celln 0 HO_7.out (x21_1 : Int) p23 q23; replace p23 := eq_true p23; replace q23 := eq_true q23; obtain ⟨hy24_, hz24_⟩ := Kd.R_celln 0 HO_7.out (x21_1 : Int) (of_decide_eq_true (by first | (with_reducible assumption) | assumption)) (of_decide_eq_true (by first | (with_reducible assumption) | assumption)); have HP24 := Kd.R_putg HO_7.out (x21_1 : Int) t220) | ((with_reducible refine gate_store (t := 3) (p := 50) rfl ?_); refine store_event (t := 3) (p := 50) (v := ?vo_w25) (w1 := (wr.setCell ⟨go23, (x21_1 : Int).toNat, none⟩ (.int .i64 t220))) ?hg ?ho ?hn ?hr ?_; (case ho => rfl); (case hg => rfl); (case hn => rfl); (case hr => first | (go_simp; done) | (go_simp; rfl)); intro w25 hw; have hg : wr.grownBy w25 (some go23) := (by rw [hw]; exact HP24.2); have hp_ : Kd.R (Kd.int .i64) 3 w25 w.heap.size (fun _ => True) (.slice (some ⟨go23, 0, none⟩) x7_1.length co11) y221 := (by rw [hw, Ny221.out]; exact HP24.1); clear HP24; have n0_ := Aside0.mk (hp_); have n1_ := Aside0.mk ((by rw [hw]; exact below_set (HB.out) GB23.out : Below w.heap.size w w25)); clear HO_7; clear HB; have HO_7 := n0_; have HB := n1_; clear n0_ n1_; clear hg hw hp_))
           (try simp only [← hl7_1])
           go_roundg k1
           case measure => have := HK1.out; omega
           case rel => exact ⟨(y221), (wrap64 (x21_1 + 1)), (by first | rfl | (simp; done) | (simp [*]; done)), H', ⟨by have := HK1.out; omega⟩, ⟨by (try simp only [hl7_1]); (with_reducible repeat (first | apply Kd.R_alloc | apply Kd.R_drewN | apply Kd.R_drew)); exact HO_7.out⟩, ⟨hB_⟩⟩
          ·rw [if_neg c22] at H
           exact absurd H (by simp)
         ·rw [if_neg c21] at H
          exact absurd H (by simp)
        ·rw [if_neg c18] at H
         exact absurd H (by simp)
       ·rw [if_neg c15] at H
        exact absurd H (by simp)
      ·rw [if_neg c14] at H
       exact absurd H (by simp)
     ·rw [if_neg c12] at H
      have c12b0 : decide (x21_1 < (y217.length : Int)) = false := decide_eq_false c12
      (try simp only [hl7_1] at c12b0)
      clear c12
      obtain rfl := Option.some.inj H
      go_wp2
      go_ret
      exact ⟨_, by first | rfl | (simp [errW_none, errW_some] <;> rfl) | (simp [*, errW_none, errW_some] <;> rfl), rR_ HO_7.out, hB_⟩
  ·rw [if_neg c6] at H
   exact absurd H (by simp)
 ·rw [if_neg c4] at H
  exact absurd H (by simp)

end Go.Proofs.Ytnckhligcdieaaa.P
