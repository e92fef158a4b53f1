-- printed texts of this session, regrouped
import Derived.Test.YtnckhligcdieaaaMWC
import Derived.Test.YtnckhligcdieaaaMWB
import Derived.Test.YtnckhligcdieaaaMWA
import Derived.Test.YtnckhligcdieaaaMW7
import Derived.Test.YtnckhligcdieaaaMW8
import Derived.Test.YtnckhligcdieaaaMW6
import Derived.Test.YtnckhligcdieaaaHB4
import Derived.Test.YtnckhligcdieaaaPx0
import Derived.Test.YtnckhligcdieaaaPx5
import Derived.Test.YtnckhligcdieaaaPx8
import Derived.Test.YtnckhligcdieaaaPx9
import Derived.Test.YtnckhligcdieaaaPx18
namespace Go.Proofs.Ytnckhligcdieaaa.P
open Go.RowKit Go.Proofs.YtnckhligcdieaaaW.PrintWords Go.Proofs.YtnckhligcdieaaaW.PrintLast Go.Proofs.YtnckhligcdieaaaW.PrintMore
attribute [local go_sem] max2_int min2_int max_two min_two max_three min_three max_four min_four   -- for this text's walks alone
set_option linter.unusedVariables false
set_option linter.unusedSimpArgs false
set_option maxHeartbeats 8000000
set_option maxRecDepth 100000

/-! ### impl_StreamNew: function 36 -/
def impl_StreamNew.f (k : Nat) (a0 : ByteArray) : Option (ByteArray × Int) := (impl_absorbed.f k a0 168 31).bind fun t1065 => (some (t1065, 0))
theorem impl_StreamNew.mono : ∀ a0 k, LeO (impl_StreamNew.f k a0) (impl_StreamNew.f (k + 1) a0) := by
 intro a0 k
 unfold impl_StreamNew.f
 exact o1_ impl_absorbed.mono
theorem impl_StreamNew.calls (k : Nat) (a0 : ByteArray) (r1 : ByteArray) (r2 : Int) (w : World) (h : impl_StreamNew.f k a0 = some (r1, r2)) :
  Calls Try.prog 36 #[.string a0] w fun e w' => e = .returned (.agg #[.string r1, .int .i64 r2]) ∧ Below w.heap.size w w' := by
 have hu53 := Try.underlying53
 have HB := Aside0.mk (Below.refl w.heap.size w)
 delta impl_StreamNew.f at h
 have H := h
 clear h
 obtain ⟨t1065, A2, H⟩ := bN_ H
 simp only [Option.some.injEq, Prod.mk.injEq] at H
 obtain ⟨rfl, rfl⟩ := H
 go_enter Try.func36, Try.ntmps36
 go_wp2_with (first | ((with_reducible refine gate_dst (N := 2) rfl ?_); refine box_event ?hg (N := 2) ?hd (cs := #[.string (⟨#[]⟩ : ByteArray), .int .i64 0]) (t := 53) ?hr ?_; (case hd => rfl); (case hg => rfl); (case hr => first | (go_simp; done) | (go_simp; rfl)); intro gb1064 hg w3 hbox hb; have n_ := b_ (below_step (hB_) hb) <| b_ (hbox) <| b_ (by rw [hg]; exact (below_size (hB_)) : w.heap.size ≤ gb1064) <| c_ (by rw [hg]; exact (below_size (hB_)) : w.heap.size ≤ gb1064); clear HB; obtain ⟨HB, BK1064, GW1064, GE1064⟩ := n_; clear hb hbox hg) | ((with_reducible refine gate_callee (f := 73) rfl ?_); refine goesL_ (some 4) rfl rfl Try.func73 (by kernel_rfl) rfl #[.string a0, .int .i64 168, .int .u8 31] rfl aM_ ?_; (with_reducible refine (impl_absorbed.calls k a0 168 31 t1065 _ A2.out).mono ?_); rintro e w4 ⟨rfl, hb⟩; refine ⟨_, rfl, ?_⟩; have n_ := b_ (blk_below (g := gb1064) (o := .cells #[.string (⟨#[]⟩ : ByteArray), .int .i64 0] 53 (0, 0)) (rK_ BK1064.out) hb) <| c_ (below_step (hS_ GE1064.out) hb); clear BK1064 HB; obtain ⟨BK1064, HB⟩ := n_; have hcz5_0 : w4.cell? ⟨gb1064, 0, none⟩ = some (.string (⟨#[]⟩ : ByteArray)) := (blk_cell BK1064.out 0).trans rfl; have hcz5_1 : w4.cell? ⟨gb1064, 1, none⟩ = some (.int .i64 0) := (blk_cell BK1064.out 1).trans rfl; have hfz5_0 := blk_frozen BK1064.out 0; have hfz5_1 := blk_frozen BK1064.out 1))
 refine bodyPost_ret (results_cell_row rfl _ _ gb1064 53 #[.string t1065, .int .i64 0] (0, 0) _ rfl (by refine kK_ ?_; refine blk_put (cs := #[.string t1065, .int .i64 0]) ?_ 1 _ rfl; refine kK_ ?_; refine blk_put (cs := #[.string (⟨#[]⟩ : ByteArray), .int .i64 0]) ?_ 0 _ rfl; exact rK_ BK1064.out) Try.underlying53 rfl (by kernel_rfl)) rfl ?_
 exact ⟨f1_, hS_ GE1064.out⟩

/-! ### impl_ShakeOf: function 31 -/
def impl_ShakeOf.f (k : Nat) (a0 : ByteArray) (a1 : Int) : Option (ByteArray × Bool) := (impl_in.f a1 0 4000).bind fun t1071 => (if t1071 = true then ((impl_StreamNew.f k a0).bind fun bt1072 => ((impl_StreamTake.f k bt1072.1 bt1072.2 a1).bind fun bt1074 => (some (bt1074.2.2, true)))) else (some ((⟨#[]⟩ : ByteArray), false)))
theorem impl_ShakeOf.mono : ∀ a0 a1 k, LeO (impl_ShakeOf.f k a0 a1) (impl_ShakeOf.f (k + 1) a0 a1) := by
 intro a0 a1 k
 unfold impl_ShakeOf.f
 exact o2_ impl_StreamNew.mono impl_StreamTake.mono
theorem impl_ShakeOf.calls (k : Nat) (a0 : ByteArray) (a1 : Int) (r1 : ByteArray) (r2 : Bool) (w : World) (h : impl_ShakeOf.f k a0 a1 = some (r1, r2)) :
  Calls Try.prog 31 #[.string a0, .int .i64 a1] w fun e w' => e = .returned (.tuple #[.string r1, .bool r2]) ∧ Below w.heap.size w w' := by
 have hu53 := Try.underlying53
 have HB := Aside0.mk (Below.refl w.heap.size w)
 delta impl_ShakeOf.f at h
 have H := h
 clear h
 obtain ⟨t1071, A3, H⟩ := bN_ H
 by_cases c4 : t1071 = true
 ·subst c4
  replace H := iT_ H
  obtain ⟨⟨t1072, t1073⟩, A5, H⟩ := bN_ H
  obtain ⟨⟨t1074, t1075, t1076⟩, A6, H⟩ := bN_ H
  simp only [Option.some.injEq, Prod.mk.injEq] at H
  obtain ⟨rfl, rfl⟩ := H
  go_enter Try.func31, Try.ntmps31
  go_wp2_with (first | ((with_reducible refine gate_callee (f := 41) rfl ?_); refine goesL_ (some 9) rfl rfl Try.func41 (by kernel_rfl) rfl #[.int .i64 a1, .int .i64 0, .int .i64 4000] rfl aM_ ?_; (with_reducible refine (impl_in.calls a1 0 4000 true _ A3.out).mono ?_); rintro e w' ⟨rfl, ⟨nd, rfl⟩⟩; refine ⟨_, rfl, ?_⟩) | ((with_reducible refine gate_callee (f := 36) rfl ?_); refine goesL_ (some 13) rfl rfl Try.func36 (by kernel_rfl) rfl #[.string a0] rfl aM_ ?_; (with_reducible refine (impl_StreamNew.calls k a0 t1072 t1073 _ A5.out).mono ?_); rintro e w7 ⟨rfl, hb⟩; refine ⟨_, rfl, ?_⟩; replace HB := Aside0.mk (below_step (hB_) hb); (try clear hb)) | ((with_reducible refine gate_callee (f := 37) rfl ?_); refine goesL_ (some 15) rfl rfl Try.func37 (by kernel_rfl) rfl #[.agg #[.string t1072, .int .i64 t1073], .int .i64 a1] rfl aM_ ?_; (with_reducible refine (impl_StreamTake.calls k t1072 t1073 a1 t1074 t1075 t1076 _ A6.out).mono ?_); rintro e w8 ⟨rfl, hb⟩; refine ⟨_, rfl, ?_⟩; replace HB := Aside0.mk (below_step (hB_) hb); (try clear hb)) | ((with_reducible refine gate_dst (N := 6) rfl ?_); refine box_event ?hg (N := 6) ?hd (cs := #[.string (⟨#[]⟩ : ByteArray), .int .i64 0]) (t := 53) ?hr ?_; (case hd => rfl); (case hg => rfl); (case hr => first | (go_simp; done) | (go_simp; rfl)); intro gb1077 hg w9 hbox hb; have n_ := b_ (below_step (hB_) hb) <| b_ (hbox) <| b_ (by rw [hg]; exact (below_size (hB_)) : w.heap.size ≤ gb1077) <| c_ (by rw [hg]; exact (below_size (hB_)) : w.heap.size ≤ gb1077); clear HB; obtain ⟨HB, BK1077, GW1077, GE1077⟩ := n_; clear hb hbox hg; have hcz10_0 : w9.cell? ⟨gb1077, 0, none⟩ = some (.string (⟨#[]⟩ : ByteArray)) := (blk_cell BK1077.out 0).trans rfl; have hcz10_1 : w9.cell? ⟨gb1077, 1, none⟩ = some (.int .i64 0) := (blk_cell BK1077.out 1).trans rfl; have hfz10_0 := blk_frozen BK1077.out 0; have hfz10_1 := blk_frozen BK1077.out 1))
  go_ret2
  exact ⟨f1_, hS_ GE1077.out⟩
 ·replace c4 := Bool.eq_false_iff.mpr c4
  subst c4
  replace H := iF_ H
  simp only [Option.some.injEq, Prod.mk.injEq] at H
  obtain ⟨rfl, rfl⟩ := H
  go_enter Try.func31, Try.ntmps31
  go_wp2_with (first | ((with_reducible refine gate_callee (f := 41) rfl ?_); refine goesL_ (some 9) rfl rfl Try.func41 (by kernel_rfl) rfl #[.int .i64 a1, .int .i64 0, .int .i64 4000] rfl aM_ ?_; (with_reducible refine (impl_in.calls a1 0 4000 false _ A3.out).mono ?_); rintro e w' ⟨rfl, ⟨nd, rfl⟩⟩; refine ⟨_, rfl, ?_⟩))
  go_ret2
  exact ⟨f1_, hB_⟩

/-! ### impl_Small: function 9 -/
def impl_Small.l0 : Nat → ByteArray → List Int → Int → Int → Option (List Int)
 | 0, _, _, _, _ => none
 | k + 1, x5, x7, x20, x21 => if x21 < x20 then (if 0 ≤ (wrap64 (Int.tdiv x21 2)) then (if (wrap64 (Int.tdiv x21 2)) < (x5.size : Int) then (if 0 ≤ (wrap64 (4 * (Int.tmod x21 2))) then ((impl_modQ.f (wrap64 ((wrap64 ((wrap64 ((Go.bits .and .i64 (wrap64 (shr .u8 (bt x5 (wrap64 (Int.tdiv x21 2))) (wrap64 (4 * (Int.tmod x21 2))))) 1) + (Go.bits .and .i64 ((wrap64 (shr .u8 (bt x5 (wrap64 (Int.tdiv x21 2))) (wrap64 (4 * (Int.tmod x21 2))))) / 2) 1))) - (Go.bits .and .i64 ((wrap64 (shr .u8 (bt x5 (wrap64 (Int.tdiv x21 2))) (wrap64 (4 * (Int.tmod x21 2))))) / 4) 1))) - (Go.bits .and .i64 ((wrap64 (shr .u8 (bt x5 (wrap64 (Int.tdiv x21 2))) (wrap64 (4 * (Int.tmod x21 2))))) / 8) 1)))).bind fun t1084 => (if 0 ≤ x21 then (if x21 < (x7.length : Int) then (impl_Small.l0 k x5 (x7.set (x21 : Int).toNat t1084) x20 (wrap64 (x21 + 1))) else (none)) else (none))) else (none)) else (none)) else (none)) else (some x7)
def impl_Small.f (k : Nat) (a0 : ByteArray) (a1 : Int) : Option (List Int) := (impl_oneByte.f a1).bind fun t1078 => (if a0.size + t1078.size ≤ 9223372036854775807 then ((impl_ShakeOf.f k (a0 ++ t1078) 128).bind fun bt1079 => (if 256 ≤ 35184372088832 then ((some (List.replicate 256 0 : List Int)).bind fun y1081 => (impl_Small.l0 k bt1079.1 y1081 (y1081.length : Int) 0)) else (none))) else (none))
theorem impl_Small.mono_l : ∀ k, (∀ y0 y1 y2 y3, LeO (impl_Small.l0 k y0 y1 y2 y3) (impl_Small.l0 (k + 1) y0 y1 y2 y3))
 | 0 => fun _ _ _ _ r h => by simp [impl_Small.l0] at h
 | k + 1 => by
  have ih0 := impl_Small.mono_l k
  intros; unfold impl_Small.l0; exact o2_ ih0 impl_ShakeOf.mono
theorem impl_Small.mono : ∀ a0 a1 k, LeO (impl_Small.f k a0 a1) (impl_Small.f (k + 1) a0 a1) := by
 intro a0 a1 k
 have ih0 := impl_Small.mono_l k
 unfold impl_Small.f
 exact o2_ ih0 impl_ShakeOf.mono
theorem impl_Small.calls (k : Nat) (a0 : ByteArray) (a1 : Int) (r : List Int) (w : World) (h : impl_Small.f k a0 a1 = some r) :
  Calls Try.prog 9 #[.string a0, .int .i64 a1] w fun e w' => ∃ v0_ : Value, e = .returned (v0_) ∧ Kd.R (Kd.int .i64) 3 w' w.heap.size (fun _ => True) v0_ r ∧ Below w.heap.size w w' := by
 have HB := Aside0.mk (Below.refl w.heap.size w)
 delta impl_Small.f at h
 have H := h
 clear h
 obtain ⟨t1078, A3, H⟩ := bN_ H
 obtain ⟨c4, H⟩ := iN_ H
 have c4b0 := eq_true c4
 have c4b1 := decide_eq_true c4
 try have c4b2 : (9223372036854775807 < a0.size + t1078.size) = False := eq_false (Nat.not_lt.2 c4)
 obtain ⟨⟨t1079, t1080⟩, A5, H⟩ := bN_ H
 obtain ⟨c6, H⟩ := iN_ H
 have c6b0 := eq_true c6
 have c6b1 := decide_eq_true c6
 clear c6
 obtain ⟨y1081, hy1081⟩ : ∃ y_ : List Int, y_ = (List.replicate 256 0) := ⟨_, rfl⟩
 first | replace H := yb_ hy1081 H | rw [← hy1081] at H
 have Ny1081 := Aside0.mk hy1081
 clear hy1081
 have H' := Aside0.mk H
 clear H
 go_enter Try.func9, Try.ntmps9
 go_wp2_with (first | ((with_reducible refine gate_callee (f := 32) rfl ?_); refine goesL_ (some 13) rfl rfl Try.func32 (by kernel_rfl) rfl #[.int .i64 a1] rfl aM_ ?_; (with_reducible refine (impl_oneByte.calls a1 t1078 _ A3.out).mono ?_); rintro e w7 ⟨rfl, hb⟩; refine ⟨_, rfl, ?_⟩; replace HB := Aside0.mk (below_step (hB_) hb); (try clear hb)) | ((with_reducible refine gate_callee (f := 31) rfl ?_); refine goesL_ (some 15) rfl rfl Try.func31 (by kernel_rfl) rfl #[.string (a0 ++ t1078), .int .i64 128] rfl aM_ ?_; (with_reducible refine (impl_ShakeOf.calls k (a0 ++ t1078) 128 t1079 t1080 _ A5.out).mono ?_); rintro e w8 ⟨rfl, hb⟩; refine ⟨_, rfl, ?_⟩; replace HB := Aside0.mk (below_step (hB_) hb); (try clear hb)) | ((with_reducible refine gate_dst (N := 18) rfl ?_); refine Kd.R_make (Kd.int .i64) _ 3 rfl (N := 18) rfl 22 _ _ rfl 256 rfl rfl Try.underlying22 (.int .i64 0) 8 info3 rfl (by decide) (by omega) 0 (ok := fun _ => True) (okp := fun _ => True) rfl (fun _ hk => hk) trivial (by omega) (by omega) (Below.refl _ _) (Nat.le_refl _) ?_; intro v1082 w9 ho10 hb hg_ hnew_; clear hg_ hnew_; (first | rw [← Ny1081.out] at ho10 | (simp only [Int.reduceToNat] at ho10; rw [← Ny1081.out] at ho10)); have n_ := b_ (Kd.R_lower ho10 (below_size (hB_))) <| c_ (below_step (hB_) hb); clear HB; obtain ⟨HO1083, HB⟩ := n_; clear hb ho10; obtain ⟨Ao11, co11, eo11⟩ := Kd.R_slice HO1083.out; subst eo11))
 go_loopg [21] k (fun kq v21 w' => ∃ (x7_1 : List Int) (x21_1 : Int), v21 = .int .i64 x21_1 ∧ Aside0 (impl_Small.l0 kq t1079 x7_1 (y1081.length : Int) x21_1 = some r) ∧ Aside0 (kq ≤ k) ∧ Aside0 (Kd.R (Kd.int .i64) 3 w' w.heap.size (fun _ => True) (.slice Ao11 y1081.length co11) x7_1) ∧ Aside0 (Below w.heap.size w w'))
 case atStart => exact ⟨(y1081), (0), f0_, H', ⟨Nat.le_refl _⟩, ⟨rR_ HO1083.out⟩, ⟨hB_⟩⟩
 case round =>
  clear H'
  obtain ⟨x7_1, x21_1, rfl, HA, HK1, HO_7, HB⟩ := hrel
  have hl7_1 := (Kd.R_reads' HO_7.out).1
  rw [hl7_1] at HO_7
  (try simp only [hl7_1])
  cases gk with
  | zero => exact absurd HA.out (by simp [impl_Small.l0])
  | succ k1 =>
   have H := HA.out
   clear HA
   simp only [impl_Small.l0] at H
   by_cases c12 : x21_1 < (y1081.length : Int)
   rotate_left
   ·rw [if_neg c12] at H
    have c12b0 := decide_eq_false c12
    (try simp only [hl7_1] at c12b0)
    clear c12
    obtain rfl := Option.some.inj H
    go_wp2
    go_ret
    exact ⟨_, f1_, rR_ HO_7.out, hB_⟩
   rw [if_pos c12] at H
   have c12b0 := decide_eq_true c12
   (try simp only [hl7_1] at c12b0)
   clear c12
   obtain ⟨ji13, hji13⟩ : ∃ j_ : Int, (wrap64 (Int.tdiv x21_1 2)) = j_ := ⟨_, rfl⟩
   first | rw [hji13] at H | simp only [hji13] at H
   have hji13w : (IntKind.i64.wrap (Int.tdiv x21_1 2)) = ji13 := (i64_w _).trans hji13
   obtain ⟨c14b0, H⟩ := iD_ H
   obtain ⟨c15b0, H⟩ := iD_ H
   obtain ⟨ji17, hji17⟩ : ∃ j_ : Int, (wrap64 (4 * (Int.tmod x21_1 2))) = j_ := ⟨_, rfl⟩
   first | rw [hji17] at H | simp only [hji17] at H
   have hji17w : (IntKind.i64.wrap (4 * (Int.tmod x21_1 2))) = ji17 := (i64_w _).trans hji17
   obtain ⟨c18, H⟩ := iN_ H
   have c18b0 := eq_true c18
   have c18b1 := decide_eq_true c18
   clear c18
   obtain ⟨ji19, hji19⟩ : ∃ j_ : Int, (shr .u8 (bt t1079 (ji13)) (ji17)) = j_ := ⟨_, rfl⟩
   first | rw [hji19] at H | simp only [hji19] at H
   have hji19_ : ((bt t1079 (ji13)) / 2 ^ min (ji17).toNat 8) = ji19 := hji19
   have hji19z : (ji17) ≤ 8 → ((bt t1079 (ji13)) / 2 ^ (ji17).toNat) = ji19 := shr_small hji19
   obtain ⟨t1084, A20, H⟩ := bN_ H
   obtain ⟨c21b0, H⟩ := iD_ H
   obtain ⟨c22, H⟩ := iN_ H
   have c22b0 := decide_eq_true c22
   (try simp only [hl7_1] at c22b0)
   clear c22
   obtain ⟨y1085, hy1085⟩ : ∃ y_ : List Int, y_ = (x7_1.set (x21_1 : Int).toNat t1084) := ⟨_, rfl⟩
   first | replace H := yb_ hy1085 H | rw [← hy1085] at H
   have Ny1085 := Aside0.mk hy1085
   clear hy1085
   have H' := Aside0.mk H
   clear H
   have p16 := eq_true (oD_ : 0 ≤ ((ji13) : Int))
   have q16 := eq_true (oD_ : (ji13) < (t1079.size : Int))
   have hx16 := bt_at t1079 (ji13)
   go_wp2_with (first | ((with_reducible refine gate_callee (f := 33) rfl ?_); refine goesL_ (some 49) rfl rfl Try.func33 (by kernel_rfl) rfl #[.int .i64 (wrap64 ((wrap64 ((wrap64 ((Go.bits .and .i64 (wrap64 (ji19)) 1) + (Go.bits .and .i64 ((wrap64 (ji19)) / 2) 1))) - (Go.bits .and .i64 ((wrap64 (ji19)) / 4) 1))) - (Go.bits .and .i64 ((wrap64 (ji19)) / 8) 1)))] rfl (by (try simp only [List.map_toArray, List.map_cons, List.map_nil]); first | done | (simp only [hji19]; rfl) | rfl | (simp only [List.length_drop, List.length_take]; rfl)) ?_; (with_reducible refine (impl_modQ.calls (wrap64 ((wrap64 ((wrap64 ((Go.bits .and .i64 (wrap64 (ji19)) 1) + (Go.bits .and .i64 ((wrap64 (ji19)) / 2) 1))) - (Go.bits .and .i64 ((wrap64 (ji19)) / 4) 1))) - (Go.bits .and .i64 ((wrap64 (ji19)) / 8) 1))) t1084 _ A20.out).mono ?_); rintro e w' ⟨rfl, ⟨nd, rfl⟩⟩; refine ⟨_, rfl, ?_⟩; (try (rw [drewN_self wr]; generalize hq_ : World.drewN wr _ = wr; have n_ := b_ (show Kd.R (Kd.int .i64) 3 wr w.heap.size (fun _ => True) (.slice Ao11 x7_1.length co11) x7_1 from by rw [← hq_]; exact (rR_ HO_7.out)) <| c_ (show Below w.heap.size w wr from by rw [← hq_]; exact (hB_)); clear HO_7 HB hq_; obtain ⟨HO_7, HB⟩ := n_)); have p23 : 0 ≤ (x21_1 : Int) := oD_; have q23 : (x21_1 : Int) < ((x7_1.length : Int) : Int) := oD_; obtain ⟨go23, co23, eo23, gb23, gl23, cl23, HG23⟩ := Kd.R_form HO_7.out (by omega); (first | cases eo23 | (injection eo23 with ea_ en_ ec_; (first | subst ea_ | (injection ea_ with ea_; subst ea_)); subst ec_; clear en_)); have GB23 := Aside0.mk gb23; have GG23 := Aside0.mk HG23; clear gb23 gl23 HG23; obtain ⟨hx23_0, hf23_0⟩ := Kd.R_celln 0 HO_7.out (x21_1 : Int) p23 q23; replace p23 := eq_true p23; replace q23 := eq_true q23; obtain ⟨hy24_, hz24_⟩ := Kd.R_celln 0 HO_7.out (x21_1 : Int) oD_ oD_; have HP24 := Kd.R_putg HO_7.out (x21_1 : Int) t1084) | ((with_reducible refine gate_store (t := 3) (p := 50) rfl ?_); refine store_event (t := 3) (p := 50) (v := ?vo_w25) (w1 := (wr.setCell ⟨go23, (x21_1 : Int).toNat, none⟩ (.int .i64 t1084))) ?hg ?ho ?hn ?hr ?_; (case ho => rfl); (case hg => rfl); (case hn => rfl); (case hr => first | (go_simp; done) | (go_simp; rfl)); intro w25 hw; have hg : wr.grownBy w25 (some go23) := (by rw [hw]; exact HP24.2); have hp_ : Kd.R (Kd.int .i64) 3 w25 w.heap.size (fun _ => True) (.slice (some ⟨go23, 0, none⟩) x7_1.length co11) y1085 := (by rw [hw, Ny1085.out]; exact HP24.1); clear HP24; have n_ := b_ (hp_) <| c_ (by rw [hw]; exact below_set (HB.out) GB23.out : Below w.heap.size w w25); clear HO_7 HB; obtain ⟨HO_7, HB⟩ := n_; clear hg hw hp_))
   (try simp only [← hl7_1])
   go_roundg k1
   case measure => have := HK1.out; omega
   case rel => exact ⟨(y1085), (wrap64 (x21_1 + 1)), f0_, H', ⟨by have := HK1.out; omega⟩, ⟨by (try simp only [hl7_1]); refine kR_ ?_; exact HO_7.out⟩, ⟨hB_⟩⟩

/-! ### impl_smalls: function 62 -/
def impl_smalls.l0 : Nat → ByteArray → Int → List (List Int) → Int → Option ((List (List Int)))
 | 0, _, _, _, _ => none
 | k + 1, x0, x1, x5, x7 => if x7 < 2 then ((impl_Small.f k x0 (wrap64 (x1 + x7))).bind fun t1141 => (if x5.length < 5864062014805 then (impl_smalls.l0 k x0 x1 (x5 ++ [t1141]) (wrap64 (x7 + 1))) else (none))) else (some x5)
def impl_smalls.f (k : Nat) (a0 : ByteArray) (a1 : Int) : Option ((List (List Int))) := impl_smalls.l0 k a0 a1 ([] : List (List Int)) 0
theorem impl_smalls.mono_l : ∀ k, (∀ y0 y1 y2 y3, LeO (impl_smalls.l0 k y0 y1 y2 y3) (impl_smalls.l0 (k + 1) y0 y1 y2 y3))
 | 0 => fun _ _ _ _ r h => by simp [impl_smalls.l0] at h
 | k + 1 => by
  have ih0 := impl_smalls.mono_l k
  intros; unfold impl_smalls.l0; exact o2_ ih0 impl_Small.mono
theorem impl_smalls.mono : ∀ a0 a1 k, LeO (impl_smalls.f k a0 a1) (impl_smalls.f (k + 1) a0 a1) := by
 intro a0 a1 k
 have ih0 := impl_smalls.mono_l k
 unfold impl_smalls.f
 exact o2_ ih0 impl_Small.mono
theorem impl_smalls.calls (k : Nat) (a0 : ByteArray) (a1 : Int) (r : List (List Int)) (w : World) (h : impl_smalls.f k a0 a1 = some r) :
  Calls Try.prog 62 #[.string a0, .int .i64 a1] w fun e w' => ∃ v0_ : Value, e = .returned (v0_) ∧ Kd.S (Kd.slice 3 (Kd.int .i64)) 22 w' w.heap.size (fun _ => True) v0_ r ∧ Below w.heap.size w w' := by
 have HB := Aside0.mk (Below.refl w.heap.size w)
 delta impl_smalls.f at h
 have H := h
 clear h
 have H' := Aside0.mk H
 clear H
 go_enter Try.func62, Try.ntmps62
 go_wp2
 go_loopg [5, 7] k (fun kq v5 v7 w' => ∃ (x5_1 : List (List Int)) (x7_1 : Int), v7 = .int .i64 x7_1 ∧ Aside0 (impl_smalls.l0 kq a0 a1 x5_1 x7_1 = some r) ∧ Aside0 (kq ≤ k) ∧ Aside0 (Kd.S (Kd.slice 3 (Kd.int .i64)) 22 w' w.heap.size (fun _ => True) v5 x5_1) ∧ Aside0 (Below w.heap.size w w'))
 case atStart => exact ⟨(([] : List (List Int))), (0), f0_, H', ⟨Nat.le_refl _⟩, ⟨by first | exact Kd.S_nil _ _ _ _ _ | exact Kd.N_nil _ _ _ _ _ | exact Kd.V_nil _ _ _ _ _ | exact Kd.Q_nil _ _ _ _ _ | exact Kd.R_nil _ _ _ _ _⟩, ⟨hB_⟩⟩
 case round =>
  clear H'
  obtain ⟨x5_1, x7_1, rfl, HA, HK1, HO_5, HB⟩ := hrel
  cases gk with
  | zero => exact absurd HA.out (by simp [impl_smalls.l0])
  | succ k1 =>
   have H := HA.out
   clear HA
   simp only [impl_smalls.l0] at H
   by_cases c3 : x7_1 < 2
   ·rw [if_pos c3] at H
    have c3b0 := decide_eq_true c3
    clear c3
    obtain ⟨t1141, A4, H⟩ := bN_ H
    obtain ⟨c5, H⟩ := iN_ H
    have LMc5 := Aside0.mk c5
    clear c5
    obtain ⟨y1144, hy1144⟩ : ∃ y_ : List (List Int), y_ = (x5_1 ++ [t1141]) := ⟨_, rfl⟩
    first | replace H := yb_ hy1144 H | rw [← hy1144] at H
    have Ny1144 := Aside0.mk hy1144
    clear hy1144
    have H' := Aside0.mk H
    clear H
    go_wp2_with (first | ((with_reducible refine gate_callee (f := 9) rfl ?_); refine goesL_ (some 15) rfl rfl Try.func9 (by kernel_rfl) rfl #[.string a0, .int .i64 (wrap64 (a1 + x7_1))] rfl aM_ ?_; (with_reducible refine (impl_Small.calls k1 a0 (wrap64 (a1 + x7_1)) t1141 _ A4.out).mono ?_); rintro e w6 ⟨v1142, rfl, ho0, hb⟩; refine ⟨_, rfl, ?_⟩; have n_ := b_ (Kd.S_elder' (rS_ HO_5.out) (Kd.R_base ho0) hb) <| b_ (Kd.R_lower ho0 (below_size (hB_))) <| c_ (below_step (hB_) hb); clear HO_5 HB; obtain ⟨HO_5, HO1143, HB⟩ := n_; obtain ⟨Ao8, co8, eo8⟩ := Kd.R_slice HO1143.out; subst eo8) | ((with_reducible refine gate_builtin (b := .append) (xs := #[.tmp 10, .tmp 16]) rfl ?_); at_builtin; refine Kd.S_append (Kd.slice 3 (Kd.int .i64)) (w0 := w) w.heap.size rfl (.tmp 10) (.tmp 16) 70 22 (.slice none 0 0) 24 rfl Try.underlying70 info22 rfl (by decide) (by omega) u5 x5_1 t1141 [.slice Ao8 t1141.length co8] (fun _ => True) (fun k_ => some k_ = (.slice Ao8 t1141.length co8 : Value).ownBlock) rfl rfl ?aP (fun k_ hk_ => ((Kd.R_mono (ok' := fun k_ => ((fun _ => True)) k_ ∧ some k_ ≠ (u5 : Value).ownBlock) (Kd.R_apart' (HO1143.out) (Kd.S_typed HO_5.out) (by decide)) (fun k_ hk => ⟨trivial, hk.2⟩))).1 k_ hk_.symm) ?aF ?aO ?aB ?aS ?aL ?_; (case aP => exact Kd.M_row (Kd.R_mono (Kd.R_tight rfl (Kd.R_mono (ok' := fun k_ => ((fun _ => True)) k_ ∧ some k_ ≠ (u5 : Value).ownBlock) (Kd.R_apart' (HO1143.out) (Kd.S_typed HO_5.out) (by decide)) (fun k_ hk => ⟨trivial, hk.2⟩))) (fun _ h_ => h_))); (case aB => exact (hB_)); (case aF => exact (fun _ _ => trivial)); (case aO => exact (by refine kS_ ?_; exact Kd.S_mono HO_5.out (fun k_ hk => ⟨trivial, fun e_ => hk.2 e_⟩))); (case aS => exact (below_size (hB_))); (case aL => have := LMc5.out; omega); intro v1145 w7 ho hb hg hat; rw [← Ny1144.out] at ho; have n_ := b_ (hb) <| c_ (ho); clear HO_5 HO1143 HB; obtain ⟨HB, HO1146⟩ := n_; clear ho hb hg hat))
    go_roundg k1
    case measure => have := HK1.out; omega
    case rel => exact ⟨(y1144), (wrap64 (x7_1 + 1)), f0_, H', ⟨by have := HK1.out; omega⟩, ⟨rS_ HO1146.out⟩, ⟨hB_⟩⟩
   rw [if_neg c3] at H
   have c3b0 := decide_eq_false c3
   clear c3
   obtain rfl := Option.some.inj H
   go_wp2
   go_ret
   exact ⟨_, f1_, by refine kS_ ?_; exact HO_5.out, hB_⟩

/-! ### impl_Uniform: function 14 -/
mutual
def impl_Uniform.l0 : Nat → List Int → Int → Int → ByteArray → Int → Option (List Int)
 | 0, _, _, _, _, _ => none
 | k + 1, x8, x9, x10, x1207000, x1207001 => if x10 < 4000 then (impl_Uniform.j1 k x8 x9 x10 (decide (x9 < 256)) x1207000 x1207001) else (impl_Uniform.j1 k x8 x9 x10 false x1207000 x1207001)
def impl_Uniform.j1 : Nat → List Int → Int → Int → Bool → ByteArray → Int → Option (List Int)
 | 0, _, _, _, _, _, _ => none
 | k + 1, x8, x9, x10, x32, x1207000, x1207001 => if x32 = true then ((impl_StreamTake.f k x1207000 x1207001 3).bind fun bt1210 => (if 0 < (bt1210.2.2.size : Int) then (if 1 < (bt1210.2.2.size : Int) then (if 2 < (bt1210.2.2.size : Int) then ((some (([wrap64 ((wrap64 (bt bt1210.2.2 0)) + (wrap64 ((Int.tmod (wrap64 (bt bt1210.2.2 1)) 16) * 256))), wrap64 ((wrap64 (Int.tdiv (wrap64 (bt bt1210.2.2 1)) 16)) + (wrap64 (16 * (wrap64 (bt bt1210.2.2 2)))))] : List Int) : List Int)).bind fun y1214 => (impl_Uniform.l1 k x8 x9 x10 y1214 (y1214.length : Int) 0 bt1210.1 bt1210.2.1)) else (none)) else (none)) else (none))) else (some x8)
def impl_Uniform.l1 : Nat → List Int → Int → Int → List Int → Int → Int → ByteArray → Int → Option (List Int)
 | 0, _, _, _, _, _, _, _, _ => none
 | k + 1, x8, x9, x10, x60, x61, x62, x1207000, x1207001 => if x62 < x61 then (if 0 ≤ x62 then (if x62 < (x60.length : Int) then (if (rd x60 x62) < 3329 then (if x9 < 256 then (if 0 ≤ x9 then (if x9 < (x8.length : Int) then (impl_Uniform.l1 k (x8.set (x9 : Int).toNat (rd x60 x62)) (wrap64 (x9 + 1)) x10 x60 x61 (wrap64 (x62 + 1)) x1207000 x1207001) else (none)) else (none)) else (impl_Uniform.l1 k x8 x9 x10 x60 x61 (wrap64 (x62 + 1)) x1207000 x1207001)) else (impl_Uniform.l1 k x8 x9 x10 x60 x61 (wrap64 (x62 + 1)) x1207000 x1207001)) else (none)) else (none)) else (impl_Uniform.l0 k x8 x9 (wrap64 (x10 + 1)) x1207000 x1207001)
end
def impl_Uniform.f (k : Nat) (a0 : ByteArray) (a1 : Int) (a2 : Int) : Option (List Int) := (impl_oneByte.f a1).bind fun t1202 => (if a0.size + t1202.size ≤ 9223372036854775807 then ((impl_oneByte.f a2).bind fun t1203 => (if (a0 ++ t1202).size + t1203.size ≤ 9223372036854775807 then ((impl_StreamNew.f k ((a0 ++ t1202) ++ t1203)).bind fun bt1204 => (if 256 ≤ 35184372088832 then (impl_Uniform.l0 k (List.replicate 256 0) 0 0 bt1204.1 bt1204.2) else (none))) else (none))) else (none))
theorem impl_Uniform.mono_l : ∀ k, (∀ y0 y1 y2 y3 y4, LeO (impl_Uniform.l0 k y0 y1 y2 y3 y4) (impl_Uniform.l0 (k + 1) y0 y1 y2 y3 y4)) ∧ (∀ y0 y1 y2 y3 y4 y5, LeO (impl_Uniform.j1 k y0 y1 y2 y3 y4 y5) (impl_Uniform.j1 (k + 1) y0 y1 y2 y3 y4 y5)) ∧ (∀ y0 y1 y2 y3 y4 y5 y6 y7, LeO (impl_Uniform.l1 k y0 y1 y2 y3 y4 y5 y6 y7) (impl_Uniform.l1 (k + 1) y0 y1 y2 y3 y4 y5 y6 y7))
 | 0 => ⟨fun _ _ _ _ _ r h => by simp [impl_Uniform.l0] at h, fun _ _ _ _ _ _ r h => by simp [impl_Uniform.j1] at h, fun _ _ _ _ _ _ _ _ r h => by simp [impl_Uniform.l1] at h⟩
 | k + 1 => by
  obtain ⟨ih0, ih1, ih2⟩ := impl_Uniform.mono_l k
  refine ⟨?_, ?_, ?_⟩ <;> (intros; (first | unfold impl_Uniform.l0 | unfold impl_Uniform.j1 | unfold impl_Uniform.l1); exact o5_ ih0 ih1 ih2 impl_StreamNew.mono impl_StreamTake.mono)
theorem impl_Uniform.mono : ∀ a0 a1 a2 k, LeO (impl_Uniform.f k a0 a1 a2) (impl_Uniform.f (k + 1) a0 a1 a2) := by
 intro a0 a1 a2 k
 obtain ⟨ih0, ih1, ih2⟩ := impl_Uniform.mono_l k
 unfold impl_Uniform.f
 exact o5_ ih0 ih1 ih2 impl_StreamNew.mono impl_StreamTake.mono
theorem impl_Uniform.calls (k : Nat) (a0 : ByteArray) (a1 : Int) (a2 : Int) (r : List Int) (w : World) (h : impl_Uniform.f k a0 a1 a2 = some r) :
  Calls Try.prog 14 #[.string a0, .int .i64 a1, .int .i64 a2] w fun e w' => ∃ v0_ : Value, e = .returned (v0_) ∧ Kd.R (Kd.int .i64) 3 w' w.heap.size (fun _ => True) v0_ r ∧ Below w.heap.size w w' := by
 have hu53 := Try.underlying53
 have HB := Aside0.mk (Below.refl w.heap.size w)
 delta impl_Uniform.f at h
 have H := h
 clear h
 obtain ⟨t1202, A4, H⟩ := bN_ H
 obtain ⟨c5, H⟩ := iN_ H
 have c5b0 := eq_true c5
 have c5b1 := decide_eq_true c5
 try have c5b2 : (9223372036854775807 < a0.size + t1202.size) = False := eq_false (Nat.not_lt.2 c5)
 obtain ⟨t1203, A6, H⟩ := bN_ H
 obtain ⟨c7, H⟩ := iN_ H
 have c7b0 := eq_true c7
 have c7b1 := decide_eq_true c7
 try have c7b2 : (9223372036854775807 < (a0 ++ t1202).size + t1203.size) = False := eq_false (Nat.not_lt.2 c7)
 try (have c7b9 : (9223372036854775807 < (a0 ++ t1202).size + t1203.size) = False := c7b2; simp only [ByteArray.size_append] at c7b9)
 obtain ⟨⟨t1204, t1205⟩, A8, H⟩ := bN_ H
 try dsimp only at H
 obtain ⟨c9, H⟩ := iN_ H
 have c9b0 := eq_true c9
 have c9b1 := decide_eq_true c9
 clear c9
 obtain ⟨y1207, hy1207⟩ : ∃ y_ : List Int, y_ = (List.replicate 256 0) := ⟨_, rfl⟩
 first | replace H := yb_ hy1207 H | rw [← hy1207] at H
 have Ny1207 := Aside0.mk hy1207
 clear hy1207
 have H' := Aside0.mk H
 clear H
 go_enter Try.func14, Try.ntmps14
 go_wp2_with (first | (go_at_call 32; (with_reducible refine (impl_oneByte.calls a1 t1202 _ A4.out).mono ?_); rintro e w10 ⟨rfl, hb⟩; replace HB := Aside0.mk (below_step (hB_) hb); (try clear hb)) | (go_at_call 32; (with_reducible refine (impl_oneByte.calls a2 t1203 _ A6.out).mono ?_); rintro e w11 ⟨rfl, hb⟩; replace HB := Aside0.mk (below_step (hB_) hb); (try clear hb)) | (go_at_call 36; (with_reducible refine (impl_StreamNew.calls k ((a0 ++ t1202) ++ t1203) t1204 t1205 _ A8.out).mono ?_); rintro e w12 ⟨rfl, hb⟩; replace HB := Aside0.mk (below_step (hB_) hb); (try clear hb)) | ((with_reducible refine gate_dst (N := 7) rfl ?_); refine box_event ?hg (N := 7) ?hd (cs := #[.string (⟨#[]⟩ : ByteArray), .int .i64 0]) (t := 53) ?hr ?_; (case hd => rfl); (case hg => rfl); (case hr => first | (go_simp; done) | (go_simp; rfl)); intro gb1206 hg w13 hbox hb; have n_ := b_ (below_step (hB_) hb) <| b_ (hbox) <| b_ (by rw [hg]; exact (below_size (hB_)) : w.heap.size ≤ gb1206) <| c_ (by rw [hg]; exact (below_size (hB_)) : w.heap.size ≤ gb1206); clear HB; obtain ⟨HB, BK1206, GW1206, GE1206⟩ := n_; clear hb hbox hg; have hcz14_0 : w13.cell? ⟨gb1206, 0, none⟩ = some (.string (⟨#[]⟩ : ByteArray)) := (blk_cell BK1206.out 0).trans rfl; have hcz14_1 : w13.cell? ⟨gb1206, 1, none⟩ = some (.int .i64 0) := (blk_cell BK1206.out 1).trans rfl; have hfz14_0 := blk_frozen BK1206.out 0; have hfz14_1 := blk_frozen BK1206.out 1) | ((with_reducible refine gate_dst (N := 26) rfl ?_); refine Kd.R_make (Kd.int .i64) _ 3 rfl (N := 26) rfl 22 _ _ rfl 256 rfl rfl Try.underlying22 (.int .i64 0) 8 info3 rfl (by decide) (by omega) 0 (ok := fun _ => True) (okp := fun _ => True) rfl (fun _ hk => hk) trivial (by omega) (by omega) (Below.refl _ _) (Nat.le_refl _) ?_; intro v1208 w15 ho16 hb hg_ hnew_; clear hg_ hnew_; (first | rw [← Ny1207.out] at ho16 | (simp only [Int.reduceToNat] at ho16; rw [← Ny1207.out] at ho16)); have n_ := b_ (Kd.R_lower ho16 (below_size (hS_ GE1206.out))) <| b_ (blk_below (g := gb1206) (o := .cells #[.string t1204, .int .i64 t1205] 53 (0, 0)) (by refine kK_ ?_; refine blk_put (cs := #[.string t1204, .int .i64 0]) ?_ 1 _ rfl; refine kK_ ?_; refine blk_put (cs := #[.string (⟨#[]⟩ : ByteArray), .int .i64 0]) ?_ 0 _ rfl; exact rK_ BK1206.out) hb) <| c_ (below_step (hS_ GE1206.out) hb); clear BK1206 HB; obtain ⟨HO1209, BK1206, HB⟩ := n_; clear hb ho16))
 repeat (go_quiet (first | (go_at_call 32; (with_reducible refine (impl_oneByte.calls a1 t1202 _ A4.out).mono ?_); rintro e w10 ⟨rfl, hb⟩; replace HB := Aside0.mk (below_step (hB_) hb); (try clear hb)) | (go_at_call 32; (with_reducible refine (impl_oneByte.calls a2 t1203 _ A6.out).mono ?_); rintro e w11 ⟨rfl, hb⟩; replace HB := Aside0.mk (below_step (hB_) hb); (try clear hb)) | (go_at_call 36; (with_reducible refine (impl_StreamNew.calls k ((a0 ++ t1202) ++ t1203) t1204 t1205 _ A8.out).mono ?_); rintro e w12 ⟨rfl, hb⟩; replace HB := Aside0.mk (below_step (hB_) hb); (try clear hb)) | ((with_reducible refine gate_dst (N := 7) rfl ?_); refine box_event ?hg (N := 7) ?hd (cs := #[.string (⟨#[]⟩ : ByteArray), .int .i64 0]) (t := 53) ?hr ?_; (case hd => rfl); (case hg => rfl); (case hr => first | (go_simp; done) | (go_simp; rfl)); intro gb1206 hg w13 hbox hb; have n_ := b_ (below_step (hB_) hb) <| b_ (hbox) <| b_ (by rw [hg]; exact (below_size (hB_)) : w.heap.size ≤ gb1206) <| c_ (by rw [hg]; exact (below_size (hB_)) : w.heap.size ≤ gb1206); clear HB; obtain ⟨HB, BK1206, GW1206, GE1206⟩ := n_; clear hb hbox hg; have hcz14_0 : w13.cell? ⟨gb1206, 0, none⟩ = some (.string (⟨#[]⟩ : ByteArray)) := (blk_cell BK1206.out 0).trans rfl; have hcz14_1 : w13.cell? ⟨gb1206, 1, none⟩ = some (.int .i64 0) := (blk_cell BK1206.out 1).trans rfl; have hfz14_0 := blk_frozen BK1206.out 0; have hfz14_1 := blk_frozen BK1206.out 1) | ((with_reducible refine gate_dst (N := 26) rfl ?_); refine Kd.R_make (Kd.int .i64) _ 3 rfl (N := 26) rfl 22 _ _ rfl 256 rfl rfl Try.underlying22 (.int .i64 0) 8 info3 rfl (by decide) (by omega) 0 (ok := fun _ => True) (okp := fun _ => True) rfl (fun _ hk => hk) trivial (by omega) (by omega) (Below.refl _ _) (Nat.le_refl _) ?_; intro v1208 w15 ho16 hb hg_ hnew_; clear hg_ hnew_; (first | rw [← Ny1207.out] at ho16 | (simp only [Int.reduceToNat] at ho16; rw [← Ny1207.out] at ho16)); have n_ := b_ (Kd.R_lower ho16 (below_size (hS_ GE1206.out))) <| b_ (blk_below (g := gb1206) (o := .cells #[.string t1204, .int .i64 t1205] 53 (0, 0)) (by refine kK_ ?_; refine blk_put (cs := #[.string t1204, .int .i64 0]) ?_ 1 _ rfl; refine kK_ ?_; refine blk_put (cs := #[.string (⟨#[]⟩ : ByteArray), .int .i64 0]) ?_ 0 _ rfl; exact rK_ BK1206.out) hb) <| c_ (below_step (hS_ GE1206.out) hb); clear BK1206 HB; obtain ⟨HO1209, BK1206, HB⟩ := n_; clear hb ho16)); try go_wp2_with (first | (go_at_call 32; (with_reducible refine (impl_oneByte.calls a1 t1202 _ A4.out).mono ?_); rintro e w10 ⟨rfl, hb⟩; replace HB := Aside0.mk (below_step (hB_) hb); (try clear hb)) | (go_at_call 32; (with_reducible refine (impl_oneByte.calls a2 t1203 _ A6.out).mono ?_); rintro e w11 ⟨rfl, hb⟩; replace HB := Aside0.mk (below_step (hB_) hb); (try clear hb)) | (go_at_call 36; (with_reducible refine (impl_StreamNew.calls k ((a0 ++ t1202) ++ t1203) t1204 t1205 _ A8.out).mono ?_); rintro e w12 ⟨rfl, hb⟩; replace HB := Aside0.mk (below_step (hB_) hb); (try clear hb)) | ((with_reducible refine gate_dst (N := 7) rfl ?_); refine box_event ?hg (N := 7) ?hd (cs := #[.string (⟨#[]⟩ : ByteArray), .int .i64 0]) (t := 53) ?hr ?_; (case hd => rfl); (case hg => rfl); (case hr => first | (go_simp; done) | (go_simp; rfl)); intro gb1206 hg w13 hbox hb; have n_ := b_ (below_step (hB_) hb) <| b_ (hbox) <| b_ (by rw [hg]; exact (below_size (hB_)) : w.heap.size ≤ gb1206) <| c_ (by rw [hg]; exact (below_size (hB_)) : w.heap.size ≤ gb1206); clear HB; obtain ⟨HB, BK1206, GW1206, GE1206⟩ := n_; clear hb hbox hg; have hcz14_0 : w13.cell? ⟨gb1206, 0, none⟩ = some (.string (⟨#[]⟩ : ByteArray)) := (blk_cell BK1206.out 0).trans rfl; have hcz14_1 : w13.cell? ⟨gb1206, 1, none⟩ = some (.int .i64 0) := (blk_cell BK1206.out 1).trans rfl; have hfz14_0 := blk_frozen BK1206.out 0; have hfz14_1 := blk_frozen BK1206.out 1) | ((with_reducible refine gate_dst (N := 26) rfl ?_); refine Kd.R_make (Kd.int .i64) _ 3 rfl (N := 26) rfl 22 _ _ rfl 256 rfl rfl Try.underlying22 (.int .i64 0) 8 info3 rfl (by decide) (by omega) 0 (ok := fun _ => True) (okp := fun _ => True) rfl (fun _ hk => hk) trivial (by omega) (by omega) (Below.refl _ _) (Nat.le_refl _) ?_; intro v1208 w15 ho16 hb hg_ hnew_; clear hg_ hnew_; (first | rw [← Ny1207.out] at ho16 | (simp only [Int.reduceToNat] at ho16; rw [← Ny1207.out] at ho16)); have n_ := b_ (Kd.R_lower ho16 (below_size (hS_ GE1206.out))) <| b_ (blk_below (g := gb1206) (o := .cells #[.string t1204, .int .i64 t1205] 53 (0, 0)) (by refine kK_ ?_; refine blk_put (cs := #[.string t1204, .int .i64 0]) ?_ 1 _ rfl; refine kK_ ?_; refine blk_put (cs := #[.string (⟨#[]⟩ : ByteArray), .int .i64 0]) ?_ 0 _ rfl; exact rK_ BK1206.out) hb) <| c_ (below_step (hS_ GE1206.out) hb); clear BK1206 HB; obtain ⟨HO1209, BK1206, HB⟩ := n_; clear hb ho16)))
 go_loopg [9, 10] k (fun kq v9 v10 w' => ∃ (x8_1 : List Int) (x9_1 : Int) (x10_1 : Int) (x1207000_1 : ByteArray) (x1207001_1 : Int), v9 = .int .i64 x9_1 ∧ v10 = .int .i64 x10_1 ∧ Aside0 (impl_Uniform.l0 kq x8_1 x9_1 x10_1 x1207000_1 x1207001_1 = some r) ∧ Aside0 (kq ≤ k) ∧ Aside0 (Kd.R (Kd.int .i64) 3 w' w.heap.size (fun _ => True) v1208 x8_1) ∧ Aside0 (w'.heap[gb1206]? = some (.cells #[.string x1207000_1, .int .i64 x1207001_1] 53 (0, 0))) ∧ Aside0 (Below w.heap.size w w'))
 case atStart => exact ⟨(y1207), (0), (0), (t1204), (t1205), f0_, f0_, H', ⟨Nat.le_refl _⟩, ⟨rR_ HO1209.out⟩, ⟨by refine kK_ ?_; exact BK1206.out⟩, ⟨hS_ GE1206.out⟩⟩
 case round =>
  clear H'
  obtain ⟨x8_1, x9_1, x10_1, x1207000_1, x1207001_1, rfl, rfl, HA, HK1, HO_8, BK1206, HB⟩ := hrel
  cases gk with
  | zero => exact absurd HA.out (by simp [impl_Uniform.l0])
  | succ k1 =>
   have H := HA.out
   clear HA
   simp only [impl_Uniform.l0] at H
   have HC17 := Aside0.mk H
   clear H
   go_upto_region 5 with (fail)
   repeat (go_quiet (fail); go_upto_region 5 with (fail))
   go_cut [32] (fun v32 wc => ∃ (kq : Nat) (x32_16 : Bool), v32 = .bool x32_16 ∧ Aside0 (impl_Uniform.j1 kq x8_1 x9_1 x10_1 x32_16 x1207000_1 x1207001_1 = some r) ∧ Aside0 (kq ≤ k1) ∧ Aside0 (Kd.R (Kd.int .i64) 3 wc w.heap.size (fun _ => True) v1208 x8_1) ∧ Aside0 (wc.heap[gb1206]? = some (.cells #[.string x1207000_1, .int .i64 x1207001_1] 53 (0, 0))) ∧ Aside0 (Below w.heap.size w wc))
   case first =>
    have H := HC17.out
    clear HC17
    by_cases c18 : x10_1 < 4000
    ·rw [if_pos c18] at H
     have c18b0 := decide_eq_true c18
     clear c18
     (first | rw [c18b0] | (simp only [i64_w, i32_w]; rw [c18b0]) | skip)
     have H' := Aside0.mk H
     clear H
     go_wp2
     repeat (go_quiet (fail); try go_wp2)
     go_meet
     case rel => exact ⟨_, (decide (x9_1 < 256)), f0_, H', ⟨by have := HK1.out; first | omega | exact Nat.le_refl _⟩, ⟨rR_ HO_8.out⟩, ⟨by refine kK_ ?_; exact BK1206.out⟩, ⟨hS_ GE1206.out⟩⟩
    rw [if_neg c18] at H
    have c18b0 := decide_eq_false c18
    clear c18
    (first | rw [c18b0] | (simp only [i64_w, i32_w]; rw [c18b0]) | skip)
    have H' := Aside0.mk H
    clear H
    go_wp2
    repeat (go_quiet (fail); try go_wp2)
    go_meet
    case rel => exact ⟨_, (false), f0_, H', ⟨by have := HK1.out; first | omega | exact Nat.le_refl _⟩, ⟨rR_ HO_8.out⟩, ⟨by refine kK_ ?_; exact BK1206.out⟩, ⟨hS_ GE1206.out⟩⟩
   case rest =>
    clear HC17
    obtain ⟨kq, x32_16, rfl, HA, HJ16, HO_8, BK1206, HB⟩ := hcut
    cases kq with
    | zero => exact absurd HA.out (by simp [impl_Uniform.j1])
    | succ kj16 =>
     have H := HA.out
     clear HA
     simp only [impl_Uniform.j1] at H
     by_cases c19 : x32_16 = true
     ·subst c19
      replace H := iT_ H
      obtain ⟨⟨t1210, t1211, t1212⟩, A20, H⟩ := bN_ H
      try dsimp only at H
      obtain ⟨c21, H⟩ := iN_ H
      have c21b0 := decide_eq_true c21
      have c21b1 : decide (0 < t1212.size) = true := decide_eq_true (by omega)
      clear c21
      obtain ⟨c23, H⟩ := iN_ H
      have c23b0 := decide_eq_true c23
      have c23b1 : decide (1 < t1212.size) = true := decide_eq_true (by omega)
      clear c23
      obtain ⟨c25, H⟩ := iN_ H
      have c25b0 := decide_eq_true c25
      have c25b1 : decide (2 < t1212.size) = true := decide_eq_true (by omega)
      clear c25
      obtain ⟨y1214, hy1214⟩ : ∃ y_ : List Int, y_ = (([wrap64 ((wrap64 (bt t1212 0)) + (wrap64 ((Int.tmod (wrap64 (bt t1212 1)) 16) * 256))), wrap64 ((wrap64 (Int.tdiv (wrap64 (bt t1212 1)) 16)) + (wrap64 (16 * (wrap64 (bt t1212 2)))))] : List Int)) := ⟨_, rfl⟩
      first | replace H := yb_ hy1214 H | rw [← hy1214] at H
      have Ny1214 := Aside0.mk hy1214
      clear hy1214
      have H' := Aside0.mk H
      clear H
      have hcz27_0 : wc.cell? ⟨gb1206, 0, none⟩ = some (.string x1207000_1) := (blk_cell BK1206.out 0).trans rfl
      have hcz27_1 : wc.cell? ⟨gb1206, 1, none⟩ = some (.int .i64 x1207001_1) := (blk_cell BK1206.out 1).trans rfl
      have hfz27_0 := blk_frozen BK1206.out 0
      have hfz27_1 := blk_frozen BK1206.out 1
      go_wp2_with (first | (go_at_call 37; (with_reducible refine (impl_StreamTake.calls kj16 x1207000_1 x1207001_1 3 t1210 t1211 t1212 _ A20.out).mono ?_); rintro e w28 ⟨rfl, hb⟩; have n_ := b_ (Kd.R_below (rR_ HO_8.out) hb) <| b_ (blk_below (g := gb1206) (o := .cells #[.string x1207000_1, .int .i64 x1207001_1] 53 (0, 0)) (rK_ BK1206.out) hb) <| c_ (below_step (hS_ GE1206.out) hb); clear HO_8 BK1206 HB; obtain ⟨HO_8, BK1206, HB⟩ := n_; (try clear hb)) | ((with_reducible refine gate_dst (N := 11) rfl ?_); refine box_event ?hg (N := 11) ?hd (cs := #[.string (⟨#[]⟩ : ByteArray), .int .i64 0]) (t := 53) ?hr ?_; (case hd => rfl); (case hg => rfl); (case hr => first | (go_simp; done) | (go_simp; rfl)); intro gb1213 hg w29 hbox hb; have n_ := b_ (Kd.R_below (rR_ HO_8.out) hb) <| b_ (blk_below (g := gb1206) (o := .cells #[.string x1207000_1, .int .i64 x1207001_1] 53 (0, 0)) (rK_ BK1206.out) hb) <| b_ (below_step (hS_ GE1206.out) hb) <| b_ (hbox) <| b_ (by rw [hg]; exact (below_size (hS_ GE1206.out)) : w.heap.size ≤ gb1213) <| b_ (by rw [hg]; exact (below_size (hS_ GE1206.out)) : w.heap.size ≤ gb1213) <| b_ (by rw [hg]; exact Nat.ne_of_lt (blk_lt (g := gb1206) (o := .cells #[.string x1207000_1, .int .i64 x1207001_1] 53 (0, 0)) (rK_ BK1206.out)) : gb1206 ≠ gb1213) <| c_ (by rw [hg]; exact Nat.ne_of_gt (blk_lt (g := gb1206) (o := .cells #[.string x1207000_1, .int .i64 x1207001_1] 53 (0, 0)) (rK_ BK1206.out)) : gb1213 ≠ gb1206); clear HO_8 BK1206 HB; obtain ⟨HO_8, BK1206, HB, BK1213, GW1213, GE1213, NB1206_1213, NB1213_1206⟩ := n_; clear hb hbox hg; have hnb30 := NB1213_1206.out; have hnc30 := NB1206_1213.out; have hcz31_0 : w29.cell? ⟨gb1213, 0, none⟩ = some (.string (⟨#[]⟩ : ByteArray)) := (blk_cell BK1213.out 0).trans rfl; have hcz31_1 : w29.cell? ⟨gb1213, 1, none⟩ = some (.int .i64 0) := (blk_cell BK1213.out 1).trans rfl; have hfz31_0 := blk_frozen BK1213.out 0; have hfz31_1 := blk_frozen BK1213.out 1; have hcz32_0 : w29.cell? ⟨gb1206, 0, none⟩ = some (.string x1207000_1) := (blk_cell BK1206.out 0).trans rfl; have hcz32_1 : w29.cell? ⟨gb1206, 1, none⟩ = some (.int .i64 x1207001_1) := (blk_cell BK1206.out 1).trans rfl; have hfz32_0 := blk_frozen BK1206.out 0; have hfz32_1 := blk_frozen BK1206.out 1; have p22 : 0 ≤ (0 : Int) := (by omega); have q22 : 0 < t1212.size := (by have : (0 : Int) < (t1212.size : Int) := oD_; omega); have hx22 : ∀ h : 0 < t1212.size, ((t1212[0]'h).toNat : Int) = bt t1212 0 := bt_at t1212 0; clear p22; have qi22 : (0 < (t1212.size : Int)) = True := eq_true oD_; replace q22 := eq_true q22; have p24 : 0 ≤ (1 : Int) := (by omega); have q24 : 1 < t1212.size := (by have : (1 : Int) < (t1212.size : Int) := oD_; omega); have hx24 : ∀ h : 1 < t1212.size, ((t1212[1]'h).toNat : Int) = bt t1212 1 := bt_at t1212 1; clear p24; have qi24 : (1 < (t1212.size : Int)) = True := eq_true oD_; replace q24 := eq_true q24; have p26 : 0 ≤ (2 : Int) := (by omega); have q26 : 2 < t1212.size := (by have : (2 : Int) < (t1212.size : Int) := oD_; omega); have hx26 : ∀ h : 2 < t1212.size, ((t1212[2]'h).toNat : Int) = bt t1212 2 := bt_at t1212 2; clear p26; have qi26 : (2 < (t1212.size : Int)) = True := eq_true oD_; replace q26 := eq_true q26) | ((with_reducible refine gate_dst (N := 60) rfl ?_); refine Kd.R_lit (Kd.int .i64) _ 3 ?hg (N := 60) ?hd (xs := ([wrap64 ((wrap64 (bt t1212 0)) + (wrap64 ((Int.tmod (wrap64 (bt t1212 1)) 16) * 256))), wrap64 ((wrap64 (Int.tdiv (wrap64 (bt t1212 1)) 16)) + (wrap64 (16 * (wrap64 (bt t1212 2)))))] : List Int)) (inner := [.int .i64 (wrap64 ((wrap64 (bt t1212 0)) + (wrap64 ((Int.tmod (wrap64 (bt t1212 1)) 16) * 256)))), .int .i64 (wrap64 ((wrap64 (Int.tdiv (wrap64 (bt t1212 1)) 16)) + (wrap64 (16 * (wrap64 (bt t1212 2))))))]) (ok := fun _ => True) (okp := fun _ => True) ?hr ?hp (fun _ hk => hk) trivial (Below.refl _ _) (Nat.le_refl _) (by simp) ?_; (case hd => rfl); (case hg => rfl); (case hr => first | (go_simp; done) | (go_simp; rfl)); (case hp => exact (Reps.one (show Kd.M (Kd.int .i64) _ _ _ (wrap64 ((wrap64 (bt t1212 0)) + (wrap64 ((Int.tmod (wrap64 (bt t1212 1)) 16) * 256)))) [.int .i64 (wrap64 ((wrap64 (bt t1212 0)) + (wrap64 ((Int.tmod (wrap64 (bt t1212 1)) 16) * 256))))] from rfl) (Reps.one (show Kd.M (Kd.int .i64) _ _ _ (wrap64 ((wrap64 (Int.tdiv (wrap64 (bt t1212 1)) 16)) + (wrap64 (16 * (wrap64 (bt t1212 2)))))) [.int .i64 (wrap64 ((wrap64 (Int.tdiv (wrap64 (bt t1212 1)) 16)) + (wrap64 (16 * (wrap64 (bt t1212 2))))))] from rfl) (Reps.none _ _)))); intro v1215 w33 ho34 hb hg_ hnew_; clear hg_ hnew_; (first | rw [← Ny1214.out] at ho34 | (simp only [Int.reduceToNat] at ho34; rw [← Ny1214.out] at ho34)); have n_ := b_ (Kd.R_elder' (by refine kR_ ?_; exact (Kd.R_mono (Kd.R_mono (Kd.R_far (Kd.R_far (Kd.R_far (Kd.R_far (Kd.R_types (Kd.R_types HO_8.out BK1213.out (by decide)) BK1206.out (by decide)) (fun _ hk => hk.1.2) (.string t1210)) (fun _ hk => hk.1.2) (.int .i64 t1211)) (fun _ hk => hk.2) _) (fun _ hk => hk.2) _) (fun _ h_ => h_.1)) (fun _ h_ => h_.1))) (Kd.R_base ho34) hb) <| b_ (Kd.R_lower (Kd.R_new' ho34 (Kd.R_lt (by refine kR_ ?_; exact (Kd.R_mono (Kd.R_mono (Kd.R_far (Kd.R_far (Kd.R_far (Kd.R_far (Kd.R_types (Kd.R_types HO_8.out BK1213.out (by decide)) BK1206.out (by decide)) (fun _ hk => hk.1.2) (.string t1210)) (fun _ hk => hk.1.2) (.int .i64 t1211)) (fun _ hk => hk.2) _) (fun _ hk => hk.2) _) (fun _ h_ => h_.1)) (fun _ h_ => h_.1))))) (below_size ((u4_ GE1206.out GE1213.out)))) <| b_ (blk_below (g := gb1206) (o := .cells #[.string t1210, .int .i64 t1211] 53 (0, 0)) (by refine kK_ ?_; refine blk_put (cs := #[.string t1210, .int .i64 x1207001_1]) ?_ 1 _ rfl; refine kK_ ?_; refine blk_put (cs := #[.string x1207000_1, .int .i64 x1207001_1]) ?_ 0 _ rfl; refine kK_ ?_; refine blk_far ?_ NB1206_1213.out _; refine kK_ ?_; refine blk_far ?_ NB1206_1213.out _; exact rK_ BK1206.out) hb) <| b_ (blk_below (g := gb1213) (o := .cells #[.string t1210, .int .i64 t1211] 53 (0, 0)) (by refine kK_ ?_; refine blk_far ?_ NB1213_1206.out _; refine kK_ ?_; refine blk_far ?_ NB1213_1206.out _; refine kK_ ?_; refine blk_put (cs := #[.string t1210, .int .i64 0]) ?_ 1 _ rfl; refine kK_ ?_; refine blk_put (cs := #[.string (⟨#[]⟩ : ByteArray), .int .i64 0]) ?_ 0 _ rfl; exact rK_ BK1213.out) hb) <| c_ (below_step ((u4_ GE1206.out GE1213.out)) hb); clear HO_8 BK1206 BK1213 HB; obtain ⟨HO_8, HO1216, BK1206, BK1213, HB⟩ := n_; clear hb ho34; obtain ⟨Ao35, co35, eo35⟩ := Kd.R_slice HO1216.out; subst eo35))
      repeat (go_quiet (first | (go_at_call 37; (with_reducible refine (impl_StreamTake.calls kj16 x1207000_1 x1207001_1 3 t1210 t1211 t1212 _ A20.out).mono ?_); rintro e w28 ⟨rfl, hb⟩; have n_ := b_ (Kd.R_below (rR_ HO_8.out) hb) <| b_ (blk_below (g := gb1206) (o := .cells #[.string x1207000_1, .int .i64 x1207001_1] 53 (0, 0)) (rK_ BK1206.out) hb) <| c_ (below_step (hS_ GE1206.out) hb); clear HO_8 BK1206 HB; obtain ⟨HO_8, BK1206, HB⟩ := n_; (try clear hb)) | ((with_reducible refine gate_dst (N := 11) rfl ?_); refine box_event ?hg (N := 11) ?hd (cs := #[.string (⟨#[]⟩ : ByteArray), .int .i64 0]) (t := 53) ?hr ?_; (case hd => rfl); (case hg => rfl); (case hr => first | (go_simp; done) | (go_simp; rfl)); intro gb1213 hg w29 hbox hb; have n_ := b_ (Kd.R_below (rR_ HO_8.out) hb) <| b_ (blk_below (g := gb1206) (o := .cells #[.string x1207000_1, .int .i64 x1207001_1] 53 (0, 0)) (rK_ BK1206.out) hb) <| b_ (below_step (hS_ GE1206.out) hb) <| b_ (hbox) <| b_ (by rw [hg]; exact (below_size (hS_ GE1206.out)) : w.heap.size ≤ gb1213) <| b_ (by rw [hg]; exact (below_size (hS_ GE1206.out)) : w.heap.size ≤ gb1213) <| b_ (by rw [hg]; exact Nat.ne_of_lt (blk_lt (g := gb1206) (o := .cells #[.string x1207000_1, .int .i64 x1207001_1] 53 (0, 0)) (rK_ BK1206.out)) : gb1206 ≠ gb1213) <| c_ (by rw [hg]; exact Nat.ne_of_gt (blk_lt (g := gb1206) (o := .cells #[.string x1207000_1, .int .i64 x1207001_1] 53 (0, 0)) (rK_ BK1206.out)) : gb1213 ≠ gb1206); clear HO_8 BK1206 HB; obtain ⟨HO_8, BK1206, HB, BK1213, GW1213, GE1213, NB1206_1213, NB1213_1206⟩ := n_; clear hb hbox hg; have hnb30 := NB1213_1206.out; have hnc30 := NB1206_1213.out; have hcz31_0 : w29.cell? ⟨gb1213, 0, none⟩ = some (.string (⟨#[]⟩ : ByteArray)) := (blk_cell BK1213.out 0).trans rfl; have hcz31_1 : w29.cell? ⟨gb1213, 1, none⟩ = some (.int .i64 0) := (blk_cell BK1213.out 1).trans rfl; have hfz31_0 := blk_frozen BK1213.out 0; have hfz31_1 := blk_frozen BK1213.out 1; have hcz32_0 : w29.cell? ⟨gb1206, 0, none⟩ = some (.string x1207000_1) := (blk_cell BK1206.out 0).trans rfl; have hcz32_1 : w29.cell? ⟨gb1206, 1, none⟩ = some (.int .i64 x1207001_1) := (blk_cell BK1206.out 1).trans rfl; have hfz32_0 := blk_frozen BK1206.out 0; have hfz32_1 := blk_frozen BK1206.out 1; have p22 : 0 ≤ (0 : Int) := (by omega); have q22 : 0 < t1212.size := (by have : (0 : Int) < (t1212.size : Int) := oD_; omega); have hx22 : ∀ h : 0 < t1212.size, ((t1212[0]'h).toNat : Int) = bt t1212 0 := bt_at t1212 0; clear p22; have qi22 : (0 < (t1212.size : Int)) = True := eq_true oD_; replace q22 := eq_true q22; have p24 : 0 ≤ (1 : Int) := (by omega); have q24 : 1 < t1212.size := (by have : (1 : Int) < (t1212.size : Int) := oD_; omega); have hx24 : ∀ h : 1 < t1212.size, ((t1212[1]'h).toNat : Int) = bt t1212 1 := bt_at t1212 1; clear p24; have qi24 : (1 < (t1212.size : Int)) = True := eq_true oD_; replace q24 := eq_true q24; have p26 : 0 ≤ (2 : Int) := (by omega); have q26 : 2 < t1212.size := (by have : (2 : Int) < (t1212.size : Int) := oD_; omega); have hx26 : ∀ h : 2 < t1212.size, ((t1212[2]'h).toNat : Int) = bt t1212 2 := bt_at t1212 2; clear p26; have qi26 : (2 < (t1212.size : Int)) = True := eq_true oD_; replace q26 := eq_true q26) | ((with_reducible refine gate_dst (N := 60) rfl ?_); refine Kd.R_lit (Kd.int .i64) _ 3 ?hg (N := 60) ?hd (xs := ([wrap64 ((wrap64 (bt t1212 0)) + (wrap64 ((Int.tmod (wrap64 (bt t1212 1)) 16) * 256))), wrap64 ((wrap64 (Int.tdiv (wrap64 (bt t1212 1)) 16)) + (wrap64 (16 * (wrap64 (bt t1212 2)))))] : List Int)) (inner := [.int .i64 (wrap64 ((wrap64 (bt t1212 0)) + (wrap64 ((Int.tmod (wrap64 (bt t1212 1)) 16) * 256)))), .int .i64 (wrap64 ((wrap64 (Int.tdiv (wrap64 (bt t1212 1)) 16)) + (wrap64 (16 * (wrap64 (bt t1212 2))))))]) (ok := fun _ => True) (okp := fun _ => True) ?hr ?hp (fun _ hk => hk) trivial (Below.refl _ _) (Nat.le_refl _) (by simp) ?_; (case hd => rfl); (case hg => rfl); (case hr => first | (go_simp; done) | (go_simp; rfl)); (case hp => exact (Reps.one (show Kd.M (Kd.int .i64) _ _ _ (wrap64 ((wrap64 (bt t1212 0)) + (wrap64 ((Int.tmod (wrap64 (bt t1212 1)) 16) * 256)))) [.int .i64 (wrap64 ((wrap64 (bt t1212 0)) + (wrap64 ((Int.tmod (wrap64 (bt t1212 1)) 16) * 256))))] from rfl) (Reps.one (show Kd.M (Kd.int .i64) _ _ _ (wrap64 ((wrap64 (Int.tdiv (wrap64 (bt t1212 1)) 16)) + (wrap64 (16 * (wrap64 (bt t1212 2)))))) [.int .i64 (wrap64 ((wrap64 (Int.tdiv (wrap64 (bt t1212 1)) 16)) + (wrap64 (16 * (wrap64 (bt t1212 2))))))] from rfl) (Reps.none _ _)))); intro v1215 w33 ho34 hb hg_ hnew_; clear hg_ hnew_; (first | rw [← Ny1214.out] at ho34 | (simp only [Int.reduceToNat] at ho34; rw [← Ny1214.out] at ho34)); have n_ := b_ (Kd.R_elder' (by refine kR_ ?_; exact (Kd.R_mono (Kd.R_mono (Kd.R_far (Kd.R_far (Kd.R_far (Kd.R_far (Kd.R_types (Kd.R_types HO_8.out BK1213.out (by decide)) BK1206.out (by decide)) (fun _ hk => hk.1.2) (.string t1210)) (fun _ hk => hk.1.2) (.int .i64 t1211)) (fun _ hk => hk.2) _) (fun _ hk => hk.2) _) (fun _ h_ => h_.1)) (fun _ h_ => h_.1))) (Kd.R_base ho34) hb) <| b_ (Kd.R_lower (Kd.R_new' ho34 (Kd.R_lt (by refine kR_ ?_; exact (Kd.R_mono (Kd.R_mono (Kd.R_far (Kd.R_far (Kd.R_far (Kd.R_far (Kd.R_types (Kd.R_types HO_8.out BK1213.out (by decide)) BK1206.out (by decide)) (fun _ hk => hk.1.2) (.string t1210)) (fun _ hk => hk.1.2) (.int .i64 t1211)) (fun _ hk => hk.2) _) (fun _ hk => hk.2) _) (fun _ h_ => h_.1)) (fun _ h_ => h_.1))))) (below_size ((u4_ GE1206.out GE1213.out)))) <| b_ (blk_below (g := gb1206) (o := .cells #[.string t1210, .int .i64 t1211] 53 (0, 0)) (by refine kK_ ?_; refine blk_put (cs := #[.string t1210, .int .i64 x1207001_1]) ?_ 1 _ rfl; refine kK_ ?_; refine blk_put (cs := #[.string x1207000_1, .int .i64 x1207001_1]) ?_ 0 _ rfl; refine kK_ ?_; refine blk_far ?_ NB1206_1213.out _; refine kK_ ?_; refine blk_far ?_ NB1206_1213.out _; exact rK_ BK1206.out) hb) <| b_ (blk_below (g := gb1213) (o := .cells #[.string t1210, .int .i64 t1211] 53 (0, 0)) (by refine kK_ ?_; refine blk_far ?_ NB1213_1206.out _; refine kK_ ?_; refine blk_far ?_ NB1213_1206.out _; refine kK_ ?_; refine blk_put (cs := #[.string t1210, .int .i64 0]) ?_ 1 _ rfl; refine kK_ ?_; refine blk_put (cs := #[.string (⟨#[]⟩ : ByteArray), .int .i64 0]) ?_ 0 _ rfl; exact rK_ BK1213.out) hb) <| c_ (below_step ((u4_ GE1206.out GE1213.out)) hb); clear HO_8 BK1206 BK1213 HB; obtain ⟨HO_8, HO1216, BK1206, BK1213, HB⟩ := n_; clear hb ho34; obtain ⟨Ao35, co35, eo35⟩ := Kd.R_slice HO1216.out; subst eo35)); try go_wp2_with (first | (go_at_call 37; (with_reducible refine (impl_StreamTake.calls kj16 x1207000_1 x1207001_1 3 t1210 t1211 t1212 _ A20.out).mono ?_); rintro e w28 ⟨rfl, hb⟩; have n_ := b_ (Kd.R_below (rR_ HO_8.out) hb) <| b_ (blk_below (g := gb1206) (o := .cells #[.string x1207000_1, .int .i64 x1207001_1] 53 (0, 0)) (rK_ BK1206.out) hb) <| c_ (below_step (hS_ GE1206.out) hb); clear HO_8 BK1206 HB; obtain ⟨HO_8, BK1206, HB⟩ := n_; (try clear hb)) | ((with_reducible refine gate_dst (N := 11) rfl ?_); refine box_event ?hg (N := 11) ?hd (cs := #[.string (⟨#[]⟩ : ByteArray), .int .i64 0]) (t := 53) ?hr ?_; (case hd => rfl); (case hg => rfl); (case hr => first | (go_simp; done) | (go_simp; rfl)); intro gb1213 hg w29 hbox hb; have n_ := b_ (Kd.R_below (rR_ HO_8.out) hb) <| b_ (blk_below (g := gb1206) (o := .cells #[.string x1207000_1, .int .i64 x1207001_1] 53 (0, 0)) (rK_ BK1206.out) hb) <| b_ (below_step (hS_ GE1206.out) hb) <| b_ (hbox) <| b_ (by rw [hg]; exact (below_size (hS_ GE1206.out)) : w.heap.size ≤ gb1213) <| b_ (by rw [hg]; exact (below_size (hS_ GE1206.out)) : w.heap.size ≤ gb1213) <| b_ (by rw [hg]; exact Nat.ne_of_lt (blk_lt (g := gb1206) (o := .cells #[.string x1207000_1, .int .i64 x1207001_1] 53 (0, 0)) (rK_ BK1206.out)) : gb1206 ≠ gb1213) <| c_ (by rw [hg]; exact Nat.ne_of_gt (blk_lt (g := gb1206) (o := .cells #[.string x1207000_1, .int .i64 x1207001_1] 53 (0, 0)) (rK_ BK1206.out)) : gb1213 ≠ gb1206); clear HO_8 BK1206 HB; obtain ⟨HO_8, BK1206, HB, BK1213, GW1213, GE1213, NB1206_1213, NB1213_1206⟩ := n_; clear hb hbox hg; have hnb30 := NB1213_1206.out; have hnc30 := NB1206_1213.out; have hcz31_0 : w29.cell? ⟨gb1213, 0, none⟩ = some (.string (⟨#[]⟩ : ByteArray)) := (blk_cell BK1213.out 0).trans rfl; have hcz31_1 : w29.cell? ⟨gb1213, 1, none⟩ = some (.int .i64 0) := (blk_cell BK1213.out 1).trans rfl; have hfz31_0 := blk_frozen BK1213.out 0; have hfz31_1 := blk_frozen BK1213.out 1; have hcz32_0 : w29.cell? ⟨gb1206, 0, none⟩ = some (.string x1207000_1) := (blk_cell BK1206.out 0).trans rfl; have hcz32_1 : w29.cell? ⟨gb1206, 1, none⟩ = some (.int .i64 x1207001_1) := (blk_cell BK1206.out 1).trans rfl; have hfz32_0 := blk_frozen BK1206.out 0; have hfz32_1 := blk_frozen BK1206.out 1; have p22 : 0 ≤ (0 : Int) := (by omega); have q22 : 0 < t1212.size := (by have : (0 : Int) < (t1212.size : Int) := oD_; omega); have hx22 : ∀ h : 0 < t1212.size, ((t1212[0]'h).toNat : Int) = bt t1212 0 := bt_at t1212 0; clear p22; have qi22 : (0 < (t1212.size : Int)) = True := eq_true oD_; replace q22 := eq_true q22; have p24 : 0 ≤ (1 : Int) := (by omega); have q24 : 1 < t1212.size := (by have : (1 : Int) < (t1212.size : Int) := oD_; omega); have hx24 : ∀ h : 1 < t1212.size, ((t1212[1]'h).toNat : Int) = bt t1212 1 := bt_at t1212 1; clear p24; have qi24 : (1 < (t1212.size : Int)) = True := eq_true oD_; replace q24 := eq_true q24; have p26 : 0 ≤ (2 : Int) := (by omega); have q26 : 2 < t1212.size := (by have : (2 : Int) < (t1212.size : Int) := oD_; omega); have hx26 : ∀ h : 2 < t1212.size, ((t1212[2]'h).toNat : Int) = bt t1212 2 := bt_at t1212 2; clear p26; have qi26 : (2 < (t1212.size : Int)) = True := eq_true oD_; replace q26 := eq_true q26) | ((with_reducible refine gate_dst (N := 60) rfl ?_); refine Kd.R_lit (Kd.int .i64) _ 3 ?hg (N := 60) ?hd (xs := ([wrap64 ((wrap64 (bt t1212 0)) + (wrap64 ((Int.tmod (wrap64 (bt t1212 1)) 16) * 256))), wrap64 ((wrap64 (Int.tdiv (wrap64 (bt t1212 1)) 16)) + (wrap64 (16 * (wrap64 (bt t1212 2)))))] : List Int)) (inner := [.int .i64 (wrap64 ((wrap64 (bt t1212 0)) + (wrap64 ((Int.tmod (wrap64 (bt t1212 1)) 16) * 256)))), .int .i64 (wrap64 ((wrap64 (Int.tdiv (wrap64 (bt t1212 1)) 16)) + (wrap64 (16 * (wrap64 (bt t1212 2))))))]) (ok := fun _ => True) (okp := fun _ => True) ?hr ?hp (fun _ hk => hk) trivial (Below.refl _ _) (Nat.le_refl _) (by simp) ?_; (case hd => rfl); (case hg => rfl); (case hr => first | (go_simp; done) | (go_simp; rfl)); (case hp => exact (Reps.one (show Kd.M (Kd.int .i64) _ _ _ (wrap64 ((wrap64 (bt t1212 0)) + (wrap64 ((Int.tmod (wrap64 (bt t1212 1)) 16) * 256)))) [.int .i64 (wrap64 ((wrap64 (bt t1212 0)) + (wrap64 ((Int.tmod (wrap64 (bt t1212 1)) 16) * 256))))] from rfl) (Reps.one (show Kd.M (Kd.int .i64) _ _ _ (wrap64 ((wrap64 (Int.tdiv (wrap64 (bt t1212 1)) 16)) + (wrap64 (16 * (wrap64 (bt t1212 2)))))) [.int .i64 (wrap64 ((wrap64 (Int.tdiv (wrap64 (bt t1212 1)) 16)) + (wrap64 (16 * (wrap64 (bt t1212 2))))))] from rfl) (Reps.none _ _)))); intro v1215 w33 ho34 hb hg_ hnew_; clear hg_ hnew_; (first | rw [← Ny1214.out] at ho34 | (simp only [Int.reduceToNat] at ho34; rw [← Ny1214.out] at ho34)); have n_ := b_ (Kd.R_elder' (by refine kR_ ?_; exact (Kd.R_mono (Kd.R_mono (Kd.R_far (Kd.R_far (Kd.R_far (Kd.R_far (Kd.R_types (Kd.R_types HO_8.out BK1213.out (by decide)) BK1206.out (by decide)) (fun _ hk => hk.1.2) (.string t1210)) (fun _ hk => hk.1.2) (.int .i64 t1211)) (fun _ hk => hk.2) _) (fun _ hk => hk.2) _) (fun _ h_ => h_.1)) (fun _ h_ => h_.1))) (Kd.R_base ho34) hb) <| b_ (Kd.R_lower (Kd.R_new' ho34 (Kd.R_lt (by refine kR_ ?_; exact (Kd.R_mono (Kd.R_mono (Kd.R_far (Kd.R_far (Kd.R_far (Kd.R_far (Kd.R_types (Kd.R_types HO_8.out BK1213.out (by decide)) BK1206.out (by decide)) (fun _ hk => hk.1.2) (.string t1210)) (fun _ hk => hk.1.2) (.int .i64 t1211)) (fun _ hk => hk.2) _) (fun _ hk => hk.2) _) (fun _ h_ => h_.1)) (fun _ h_ => h_.1))))) (below_size ((u4_ GE1206.out GE1213.out)))) <| b_ (blk_below (g := gb1206) (o := .cells #[.string t1210, .int .i64 t1211] 53 (0, 0)) (by refine kK_ ?_; refine blk_put (cs := #[.string t1210, .int .i64 x1207001_1]) ?_ 1 _ rfl; refine kK_ ?_; refine blk_put (cs := #[.string x1207000_1, .int .i64 x1207001_1]) ?_ 0 _ rfl; refine kK_ ?_; refine blk_far ?_ NB1206_1213.out _; refine kK_ ?_; refine blk_far ?_ NB1206_1213.out _; exact rK_ BK1206.out) hb) <| b_ (blk_below (g := gb1213) (o := .cells #[.string t1210, .int .i64 t1211] 53 (0, 0)) (by refine kK_ ?_; refine blk_far ?_ NB1213_1206.out _; refine kK_ ?_; refine blk_far ?_ NB1213_1206.out _; refine kK_ ?_; refine blk_put (cs := #[.string t1210, .int .i64 0]) ?_ 1 _ rfl; refine kK_ ?_; refine blk_put (cs := #[.string (⟨#[]⟩ : ByteArray), .int .i64 0]) ?_ 0 _ rfl; exact rK_ BK1213.out) hb) <| c_ (below_step ((u4_ GE1206.out GE1213.out)) hb); clear HO_8 BK1206 BK1213 HB; obtain ⟨HO_8, HO1216, BK1206, BK1213, HB⟩ := n_; clear hb ho34; obtain ⟨Ao35, co35, eo35⟩ := Kd.R_slice HO1216.out; subst eo35)))
      go_loopg [9, 62] kj16 (fun kq v9 v62 w' => ∃ (x8_3 : List Int) (x9_3 : Int) (x62_3 : Int), v9 = .int .i64 x9_3 ∧ v62 = .int .i64 x62_3 ∧ Aside0 (impl_Uniform.l1 kq x8_3 x9_3 x10_1 y1214 (y1214.length : Int) x62_3 t1210 t1211 = some r) ∧ Aside0 (kq ≤ kj16) ∧ Aside0 (Kd.R (Kd.int .i64) 3 w' w.heap.size (fun k_ => some k_ ≠ ((.slice Ao35 y1214.length co35) : Value).ownBlock) v1208 x8_3) ∧ Aside0 (Kd.R (Kd.int .i64) 3 w' w.heap.size (fun k_ => some k_ ≠ (v1208 : Value).ownBlock) (.slice Ao35 y1214.length co35) y1214) ∧ Aside0 (w'.heap[gb1206]? = some (.cells #[.string t1210, .int .i64 t1211] 53 (0, 0))) ∧ Aside0 (w'.heap[gb1213]? = some (.cells #[.string t1210, .int .i64 t1211] 53 (0, 0))) ∧ Aside0 (Below w.heap.size w w'))
      case atStart => exact ⟨(x8_1), (x9_1), (0), f0_, f0_, H', ⟨Nat.le_refl _⟩, ⟨by refine kR_ ?_; exact Kd.R_mono HO_8.out (fun _ hk => hk.2)⟩, ⟨by refine kR_ ?_; exact Kd.R_mono HO1216.out (fun _ hk => hk.2)⟩, ⟨by refine kK_ ?_; exact BK1206.out⟩, ⟨by refine kK_ ?_; exact BK1213.out⟩, ⟨(u4_ GE1206.out GE1213.out)⟩⟩
      case round =>
       clear H'
       obtain ⟨x8_3, x9_3, x62_3, rfl, rfl, HA, HK3, HO_8, HO_60, BK1206, BK1213, HB⟩ := hrel
       cases gk with
       | zero => exact absurd HA.out (by simp [impl_Uniform.l1])
       | succ k3 =>
        have H := HA.out
        clear HA
        simp only [impl_Uniform.l1] at H
        by_cases c36 : x62_3 < (y1214.length : Int)
        rotate_left
        ·rw [if_neg c36] at H
         have c36b0 := decide_eq_false c36
         clear c36
         have H' := Aside0.mk H
         clear H
         go_wp2
         repeat (go_quiet (fail); try go_wp2)
         go_roundg k3
         case measure => have := HK1.out; have := HJ16.out; have := HK3.out; omega
         case rel => exact ⟨(x8_3), (x9_3), (wrap64 (x10_1 + 1)), (t1210), (t1211), f0_, f0_, H', ⟨by have := HK1.out; have := HJ16.out; have := HK3.out; omega⟩, ⟨by refine kR_ ?_; exact Kd.R_mono HO_8.out (fun _ hk => trivial)⟩, ⟨by refine kK_ ?_; exact BK1206.out⟩, ⟨(u4_ GE1206.out GE1213.out)⟩⟩
        rw [if_pos c36] at H
        have c36b0 := decide_eq_true c36
        clear c36
        obtain ⟨c37b0, H⟩ := iD_ H
        obtain ⟨c38b0, H⟩ := iD_ H
        by_cases c39 : (rd y1214 x62_3) < 3329
        rotate_left
        ·rw [if_neg c39] at H
         have c39b0 := decide_eq_false c39
         clear c39
         have H' := Aside0.mk H
         clear H
         have p1217 : 0 ≤ (x62_3 : Int) := oD_
         have q1217 : x62_3 < (y1214.length : Int) := oD_
         obtain ⟨ad1217, e1217, hx1217_0⟩ := Kd.at_int (Kd.R_reads' HO_60.out).2.2 x62_3 p1217 q1217
         cases e1217
         replace p1217 := eq_true p1217
         replace q1217 := eq_true q1217
         go_wp2
         repeat (go_quiet (fail); try go_wp2)
         go_roundg k3
         case measure => have := HK1.out; have := HJ16.out; have := HK3.out; omega
         case rel => exact ⟨(x8_3), (x9_3), (wrap64 (x62_3 + 1)), f0_, f0_, H', ⟨by have := HK1.out; have := HJ16.out; have := HK3.out; omega⟩, ⟨rR_ HO_8.out⟩, ⟨rR_ HO_60.out⟩, ⟨by refine kK_ ?_; exact BK1206.out⟩, ⟨by refine kK_ ?_; exact BK1213.out⟩, ⟨(u4_ GE1206.out GE1213.out)⟩⟩
        rw [if_pos c39] at H
        have c39b0 := decide_eq_true c39
        clear c39
        by_cases c40 : x9_3 < 256
        rotate_left
        ·rw [if_neg c40] at H
         have c40b0 := decide_eq_false c40
         clear c40
         have H' := Aside0.mk H
         clear H
         have p1217 : 0 ≤ (x62_3 : Int) := oD_
         have q1217 : x62_3 < (y1214.length : Int) := oD_
         obtain ⟨ad1217, e1217, hx1217_0⟩ := Kd.at_int (Kd.R_reads' HO_60.out).2.2 x62_3 p1217 q1217
         cases e1217
         replace p1217 := eq_true p1217
         replace q1217 := eq_true q1217
         go_wp2
         repeat (go_quiet (fail); try go_wp2)
         go_roundg k3
         case measure => have := HK1.out; have := HJ16.out; have := HK3.out; omega
         case rel => exact ⟨(x8_3), (x9_3), (wrap64 (x62_3 + 1)), f0_, f0_, H', ⟨by have := HK1.out; have := HJ16.out; have := HK3.out; omega⟩, ⟨rR_ HO_8.out⟩, ⟨rR_ HO_60.out⟩, ⟨by refine kK_ ?_; exact BK1206.out⟩, ⟨by refine kK_ ?_; exact BK1213.out⟩, ⟨(u4_ GE1206.out GE1213.out)⟩⟩
        rw [if_pos c40] at H
        have c40b0 := decide_eq_true c40
        clear c40
        obtain ⟨c41b0, H⟩ := iD_ H
        obtain ⟨c42b0, H⟩ := iD_ H
        obtain ⟨y1218, hy1218⟩ : ∃ y_ : List Int, y_ = (x8_3.set (x9_3 : Int).toNat (rd y1214 x62_3)) := ⟨_, rfl⟩
        first | replace H := yb_ hy1218 H | rw [← hy1218] at H
        have Ny1218 := Aside0.mk hy1218
        clear hy1218
        have H' := Aside0.mk H
        clear H
        have p1217 : 0 ≤ (x62_3 : Int) := oD_
        have q1217 : x62_3 < (y1214.length : Int) := oD_
        obtain ⟨ad1217, e1217, hx1217_0⟩ := Kd.at_int (Kd.R_reads' HO_60.out).2.2 x62_3 p1217 q1217
        cases e1217
        replace p1217 := eq_true p1217
        replace q1217 := eq_true q1217
        have p43 : 0 ≤ (x9_3 : Int) := oD_
        have q43 : (x9_3 : Int) < ((x8_3.length : Int) : Int) := oD_
        obtain ⟨go43, co43, eo43, gb43, gl43, cl43, HG43⟩ := Kd.R_form HO_8.out (by omega)
        (first | cases eo43 | (injection eo43 with ea_ en_ ec_; (first | subst ea_ | (injection ea_ with ea_; subst ea_)); subst ec_; clear en_))
        have GB43 := Aside0.mk gb43
        have GG43 := Aside0.mk HG43
        clear gb43 gl43 HG43
        obtain ⟨hx43_0, hf43_0⟩ := Kd.R_celln 0 HO_8.out (x9_3 : Int) p43 q43
        replace p43 := eq_true p43
        replace q43 := eq_true q43
        have HP44 := Kd.R_putg HO_8.out (x9_3 : Int) (rd y1214 x62_3)
        go_wp2_with (first | ((with_reducible refine gate_store (t := 3) (p := 75) rfl ?_); (try (rw [drewN_self wr]; generalize hq_ : World.drewN wr _ = wr; have n_ := b_ (Kd.R_at hq_ HO_8.out) <| b_ (Kd.R_at hq_ HO_60.out) <| b_ (blk_at hq_ BK1206.out) <| b_ (blk_at hq_ BK1213.out) <| c_ (below_at hq_ HB.out); clear hq_ HO_8 HO_60 BK1206 BK1213 HB; obtain ⟨HO_8, HO_60, BK1206, BK1213, HB⟩ := n_; (try (have HP44 := Kd.R_putg HO_8.out (x9_3 : Int) (rd y1214 x62_3))))); refine store_event (t := 3) (p := 75) (v := ?vo_w45) (w1 := (wr.setCell ⟨go43, (x9_3 : Int).toNat, none⟩ (.int .i64 (rd y1214 x62_3)))) ?hg ?ho ?hn ?hr ?_; (case ho => rfl); (case hg => rfl); (case hn => rfl); (case hr => first | (go_simp; done) | (go_simp; rfl)); intro w45 hw; have hg : wr.grownBy w45 (some go43) := (by rw [hw]; exact HP44.2); have hp_ : Kd.R (Kd.int .i64) 3 w45 w.heap.size (fun k_ => some k_ ≠ (.slice (some ad1217) y1214.length co35 : Value).ownBlock) (.slice (some ⟨go43, 0, none⟩) x8_3.length co43) y1218 := (by rw [hw, Ny1218.out]; exact HP44.1); clear HP44; have n0_ := Aside0.mk (hp_); have n1_ := Aside0.mk (Kd.R_after (v := (.slice (some ⟨go43, 0, none⟩) x8_3.length co43)) (v1 := (.slice (some ⟨go43, 0, none⟩) x8_3.length co43)) (ok := (fun _ => True)) (by refine kR_ ?_; exact Kd.R_mono HO_60.out (fun _ hk => ⟨trivial, hk⟩)) hg (.inl rfl)); have n2_ := Aside0.mk (blk_grown (g := gb1206) (o := .cells #[.string t1210, .int .i64 t1211] 53 (0, 0)) (rK_ BK1206.out) hg (Kd.R_ne HO_8.out BK1206.out (by decide))); have n3_ := Aside0.mk (blk_grown (g := gb1213) (o := .cells #[.string t1210, .int .i64 t1211] 53 (0, 0)) (rK_ BK1213.out) hg (Kd.R_ne HO_8.out BK1213.out (by decide))); have n4_ := Aside0.mk ((by rw [hw]; exact below_set (HB.out) GB43.out : Below w.heap.size w w45)); replace HO_8 := n0_; replace HO_60 := n1_; replace BK1206 := n2_; replace BK1213 := n3_; replace HB := n4_; clear n0_ n1_ n2_ n3_ n4_; clear hg hw hp_))
        repeat (go_quiet (first | ((with_reducible refine gate_store (t := 3) (p := 75) rfl ?_); (try (rw [drewN_self wr]; generalize hq_ : World.drewN wr _ = wr; have n_ := b_ (Kd.R_at hq_ HO_8.out) <| b_ (Kd.R_at hq_ HO_60.out) <| b_ (blk_at hq_ BK1206.out) <| b_ (blk_at hq_ BK1213.out) <| c_ (below_at hq_ HB.out); clear hq_ HO_8 HO_60 BK1206 BK1213 HB; obtain ⟨HO_8, HO_60, BK1206, BK1213, HB⟩ := n_; (try (have HP44 := Kd.R_putg HO_8.out (x9_3 : Int) (rd y1214 x62_3))))); refine store_event (t := 3) (p := 75) (v := ?vo_w45) (w1 := (wr.setCell ⟨go43, (x9_3 : Int).toNat, none⟩ (.int .i64 (rd y1214 x62_3)))) ?hg ?ho ?hn ?hr ?_; (case ho => rfl); (case hg => rfl); (case hn => rfl); (case hr => first | (go_simp; done) | (go_simp; rfl)); intro w45 hw; have hg : wr.grownBy w45 (some go43) := (by rw [hw]; exact HP44.2); have hp_ : Kd.R (Kd.int .i64) 3 w45 w.heap.size (fun k_ => some k_ ≠ (.slice (some ad1217) y1214.length co35 : Value).ownBlock) (.slice (some ⟨go43, 0, none⟩) x8_3.length co43) y1218 := (by rw [hw, Ny1218.out]; exact HP44.1); clear HP44; have n0_ := Aside0.mk (hp_); have n1_ := Aside0.mk (Kd.R_after (v := (.slice (some ⟨go43, 0, none⟩) x8_3.length co43)) (v1 := (.slice (some ⟨go43, 0, none⟩) x8_3.length co43)) (ok := (fun _ => True)) (by refine kR_ ?_; exact Kd.R_mono HO_60.out (fun _ hk => ⟨trivial, hk⟩)) hg (.inl rfl)); have n2_ := Aside0.mk (blk_grown (g := gb1206) (o := .cells #[.string t1210, .int .i64 t1211] 53 (0, 0)) (rK_ BK1206.out) hg (Kd.R_ne HO_8.out BK1206.out (by decide))); have n3_ := Aside0.mk (blk_grown (g := gb1213) (o := .cells #[.string t1210, .int .i64 t1211] 53 (0, 0)) (rK_ BK1213.out) hg (Kd.R_ne HO_8.out BK1213.out (by decide))); have n4_ := Aside0.mk ((by rw [hw]; exact below_set (HB.out) GB43.out : Below w.heap.size w w45)); replace HO_8 := n0_; replace HO_60 := n1_; replace BK1206 := n2_; replace BK1213 := n3_; replace HB := n4_; clear n0_ n1_ n2_ n3_ n4_; clear hg hw hp_)); try go_wp2_with (first | ((with_reducible refine gate_store (t := 3) (p := 75) rfl ?_); (try (rw [drewN_self wr]; generalize hq_ : World.drewN wr _ = wr; have n_ := b_ (Kd.R_at hq_ HO_8.out) <| b_ (Kd.R_at hq_ HO_60.out) <| b_ (blk_at hq_ BK1206.out) <| b_ (blk_at hq_ BK1213.out) <| c_ (below_at hq_ HB.out); clear hq_ HO_8 HO_60 BK1206 BK1213 HB; obtain ⟨HO_8, HO_60, BK1206, BK1213, HB⟩ := n_; (try (have HP44 := Kd.R_putg HO_8.out (x9_3 : Int) (rd y1214 x62_3))))); refine store_event (t := 3) (p := 75) (v := ?vo_w45) (w1 := (wr.setCell ⟨go43, (x9_3 : Int).toNat, none⟩ (.int .i64 (rd y1214 x62_3)))) ?hg ?ho ?hn ?hr ?_; (case ho => rfl); (case hg => rfl); (case hn => rfl); (case hr => first | (go_simp; done) | (go_simp; rfl)); intro w45 hw; have hg : wr.grownBy w45 (some go43) := (by rw [hw]; exact HP44.2); have hp_ : Kd.R (Kd.int .i64) 3 w45 w.heap.size (fun k_ => some k_ ≠ (.slice (some ad1217) y1214.length co35 : Value).ownBlock) (.slice (some ⟨go43, 0, none⟩) x8_3.length co43) y1218 := (by rw [hw, Ny1218.out]; exact HP44.1); clear HP44; have n0_ := Aside0.mk (hp_); have n1_ := Aside0.mk (Kd.R_after (v := (.slice (some ⟨go43, 0, none⟩) x8_3.length co43)) (v1 := (.slice (some ⟨go43, 0, none⟩) x8_3.length co43)) (ok := (fun _ => True)) (by refine kR_ ?_; exact Kd.R_mono HO_60.out (fun _ hk => ⟨trivial, hk⟩)) hg (.inl rfl)); have n2_ := Aside0.mk (blk_grown (g := gb1206) (o := .cells #[.string t1210, .int .i64 t1211] 53 (0, 0)) (rK_ BK1206.out) hg (Kd.R_ne HO_8.out BK1206.out (by decide))); have n3_ := Aside0.mk (blk_grown (g := gb1213) (o := .cells #[.string t1210, .int .i64 t1211] 53 (0, 0)) (rK_ BK1213.out) hg (Kd.R_ne HO_8.out BK1213.out (by decide))); have n4_ := Aside0.mk ((by rw [hw]; exact below_set (HB.out) GB43.out : Below w.heap.size w w45)); replace HO_8 := n0_; replace HO_60 := n1_; replace BK1206 := n2_; replace BK1213 := n3_; replace HB := n4_; clear n0_ n1_ n2_ n3_ n4_; clear hg hw hp_)))
        go_roundg k3
        case measure => have := HK1.out; have := HJ16.out; have := HK3.out; omega
        case rel => exact ⟨(y1218), (wrap64 (x9_3 + 1)), (wrap64 (x62_3 + 1)), f0_, f0_, H', ⟨by have := HK1.out; have := HJ16.out; have := HK3.out; omega⟩, ⟨rR_ HO_8.out⟩, ⟨by refine kR_ ?_; exact Kd.R_mono HO_60.out (fun _ hk => hk.2)⟩, ⟨by refine kK_ ?_; exact BK1206.out⟩, ⟨by refine kK_ ?_; exact BK1213.out⟩, ⟨(u4_ GE1206.out GE1213.out)⟩⟩
     ·replace c19 := Bool.eq_false_iff.mpr c19
      subst c19
      replace H := iF_ H
      obtain rfl := Option.some.inj H
      go_wp2
      repeat (go_quiet (fail); try go_wp2)
      go_ret
      exact ⟨_, f1_, rR_ HO_8.out, hS_ GE1206.out⟩

/-! ### impl_row: function 66 -/
def impl_row.l0 : Nat → ByteArray → Int → Bool → List (List Int) → Int → Option ((List (List Int)))
 | 0, _, _, _, _, _ => none
 | k + 1, x0, x1, x2, x7, x9 => if x9 < 2 then (if x2 = true then ((impl_Uniform.f k x0 x1 x9).bind fun t1219 => (if x7.length < 5864062014805 then (impl_row.l0 k x0 x1 x2 (x7 ++ [t1219]) (wrap64 (x9 + 1))) else (none))) else ((impl_Uniform.f k x0 x9 x1).bind fun t1225 => (if x7.length < 5864062014805 then (impl_row.l0 k x0 x1 x2 (x7 ++ [t1225]) (wrap64 (x9 + 1))) else (none)))) else (some x7)
def impl_row.f (k : Nat) (a0 : ByteArray) (a1 : Int) (a2 : Bool) : Option ((List (List Int))) := impl_row.l0 k a0 a1 a2 ([] : List (List Int)) 0
theorem impl_row.mono_l : ∀ k, (∀ y0 y1 y2 y3 y4, LeO (impl_row.l0 k y0 y1 y2 y3 y4) (impl_row.l0 (k + 1) y0 y1 y2 y3 y4))
 | 0 => fun _ _ _ _ _ r h => by simp [impl_row.l0] at h
 | k + 1 => by
  have ih0 := impl_row.mono_l k
  intros; unfold impl_row.l0; exact o2_ ih0 impl_Uniform.mono
theorem impl_row.mono : ∀ a0 a1 a2 k, LeO (impl_row.f k a0 a1 a2) (impl_row.f (k + 1) a0 a1 a2) := by
 intro a0 a1 a2 k
 have ih0 := impl_row.mono_l k
 unfold impl_row.f
 exact o2_ ih0 impl_Uniform.mono
theorem impl_row.calls (k : Nat) (a0 : ByteArray) (a1 : Int) (a2 : Bool) (r : List (List Int)) (w : World) (h : impl_row.f k a0 a1 a2 = some r) :
  Calls Try.prog 66 #[.string a0, .int .i64 a1, .bool a2] w fun e w' => ∃ v0_ : Value, e = .returned (v0_) ∧ Kd.S (Kd.slice 3 (Kd.int .i64)) 22 w' w.heap.size (fun _ => True) v0_ r ∧ Below w.heap.size w w' := by
 have HB := Aside0.mk (Below.refl w.heap.size w)
 delta impl_row.f at h
 have H := h
 clear h
 have H' := Aside0.mk H
 clear H
 go_enter Try.func66, Try.ntmps66
 go_wp2
 go_loopg [7, 9] k (fun kq v7 v9 w' => ∃ (x7_1 : List (List Int)) (x9_1 : Int), v9 = .int .i64 x9_1 ∧ Aside0 (impl_row.l0 kq a0 a1 a2 x7_1 x9_1 = some r) ∧ Aside0 (kq ≤ k) ∧ Aside0 (Kd.S (Kd.slice 3 (Kd.int .i64)) 22 w' w.heap.size (fun _ => True) v7 x7_1) ∧ Aside0 (Below w.heap.size w w'))
 case atStart => exact ⟨(([] : List (List Int))), (0), f0_, H', ⟨Nat.le_refl _⟩, ⟨by first | exact Kd.S_nil _ _ _ _ _ | exact Kd.N_nil _ _ _ _ _ | exact Kd.V_nil _ _ _ _ _ | exact Kd.Q_nil _ _ _ _ _ | exact Kd.R_nil _ _ _ _ _⟩, ⟨hB_⟩⟩
 case round =>
  clear H'
  obtain ⟨x7_1, x9_1, rfl, HA, HK1, HO_7, HB⟩ := hrel
  cases gk with
  | zero => exact absurd HA.out (by simp [impl_row.l0])
  | succ k1 =>
   have H := HA.out
   clear HA
   simp only [impl_row.l0] at H
   by_cases c4 : x9_1 < 2
   rotate_left
   ·rw [if_neg c4] at H
    have c4b0 := decide_eq_false c4
    clear c4
    obtain rfl := Option.some.inj H
    go_wp2
    go_ret
    exact ⟨_, f1_, by refine kS_ ?_; exact HO_7.out, hB_⟩
   rw [if_pos c4] at H
   have c4b0 := decide_eq_true c4
   clear c4
   by_cases c5 : a2 = true
   ·subst c5
    replace H := iT_ H
    obtain ⟨t1219, A6, H⟩ := bN_ H
    obtain ⟨c7, H⟩ := iN_ H
    have LMc7 := Aside0.mk c7
    clear c7
    obtain ⟨y1222, hy1222⟩ : ∃ y_ : List (List Int), y_ = (x7_1 ++ [t1219]) := ⟨_, rfl⟩
    first | replace H := yb_ hy1222 H | rw [← hy1222] at H
    have Ny1222 := Aside0.mk hy1222
    clear hy1222
    have H' := Aside0.mk H
    clear H
    go_wp2_with (first | ((with_reducible refine gate_callee (f := 14) rfl ?_); refine goesL_ (some 17) rfl rfl Try.func14 (by kernel_rfl) rfl #[.string a0, .int .i64 a1, .int .i64 x9_1] rfl aM_ ?_; (with_reducible refine (impl_Uniform.calls k1 a0 a1 x9_1 t1219 _ A6.out).mono ?_); rintro e w8 ⟨v1220, rfl, ho0, hb⟩; refine ⟨_, rfl, ?_⟩; have n_ := b_ (Kd.S_elder' (rS_ HO_7.out) (Kd.R_base ho0) hb) <| b_ (Kd.R_lower ho0 (below_size (hB_))) <| c_ (below_step (hB_) hb); clear HO_7 HB; obtain ⟨HO_7, HO1221, HB⟩ := n_; obtain ⟨Ao10, co10, eo10⟩ := Kd.R_slice HO1221.out; subst eo10) | ((with_reducible refine gate_builtin (b := .append) (xs := #[.tmp 13, .tmp 18]) rfl ?_); at_builtin; refine Kd.S_append (Kd.slice 3 (Kd.int .i64)) (w0 := w) w.heap.size rfl (.tmp 13) (.tmp 18) 70 22 (.slice none 0 0) 24 rfl Try.underlying70 info22 rfl (by decide) (by omega) u7 x7_1 t1219 [.slice Ao10 t1219.length co10] (fun _ => True) (fun k_ => some k_ = (.slice Ao10 t1219.length co10 : Value).ownBlock) rfl rfl ?aP (fun k_ hk_ => ((Kd.R_mono (ok' := fun k_ => ((fun _ => True)) k_ ∧ some k_ ≠ (u7 : Value).ownBlock) (Kd.R_apart' (HO1221.out) (Kd.S_typed HO_7.out) (by decide)) (fun k_ hk => ⟨trivial, hk.2⟩))).1 k_ hk_.symm) ?aF ?aO ?aB ?aS ?aL ?_; (case aP => exact Kd.M_row (Kd.R_mono (Kd.R_tight rfl (Kd.R_mono (ok' := fun k_ => ((fun _ => True)) k_ ∧ some k_ ≠ (u7 : Value).ownBlock) (Kd.R_apart' (HO1221.out) (Kd.S_typed HO_7.out) (by decide)) (fun k_ hk => ⟨trivial, hk.2⟩))) (fun _ h_ => h_))); (case aB => exact (hB_)); (case aF => exact (fun _ _ => trivial)); (case aO => exact (by refine kS_ ?_; exact Kd.S_mono HO_7.out (fun k_ hk => ⟨trivial, fun e_ => hk.2 e_⟩))); (case aS => exact (below_size (hB_))); (case aL => have := LMc7.out; omega); intro v1223 w9 ho hb hg hat; rw [← Ny1222.out] at ho; have n_ := b_ (hb) <| c_ (ho); clear HO_7 HO1221 HB; obtain ⟨HB, HO1224⟩ := n_; clear ho hb hg hat))
    go_roundg k1
    case measure => have := HK1.out; omega
    case rel => exact ⟨(y1222), (wrap64 (x9_1 + 1)), f0_, H', ⟨by have := HK1.out; omega⟩, ⟨rS_ HO1224.out⟩, ⟨hB_⟩⟩
   ·replace c5 := Bool.eq_false_iff.mpr c5
    subst c5
    replace H := iF_ H
    obtain ⟨t1225, A11, H⟩ := bN_ H
    obtain ⟨c12, H⟩ := iN_ H
    have LMc12 := Aside0.mk c12
    clear c12
    obtain ⟨y1228, hy1228⟩ : ∃ y_ : List (List Int), y_ = (x7_1 ++ [t1225]) := ⟨_, rfl⟩
    first | replace H := yb_ hy1228 H | rw [← hy1228] at H
    have Ny1228 := Aside0.mk hy1228
    clear hy1228
    have H' := Aside0.mk H
    clear H
    go_wp2_with (first | ((with_reducible refine gate_callee (f := 14) rfl ?_); refine goesL_ (some 24) rfl rfl Try.func14 (by kernel_rfl) rfl #[.string a0, .int .i64 x9_1, .int .i64 a1] rfl aM_ ?_; (with_reducible refine (impl_Uniform.calls k1 a0 x9_1 a1 t1225 _ A11.out).mono ?_); rintro e w13 ⟨v1226, rfl, ho0, hb⟩; refine ⟨_, rfl, ?_⟩; have n_ := b_ (Kd.S_elder' (rS_ HO_7.out) (Kd.R_base ho0) hb) <| b_ (Kd.R_lower ho0 (below_size (hB_))) <| c_ (below_step (hB_) hb); clear HO_7 HB; obtain ⟨HO_7, HO1227, HB⟩ := n_; obtain ⟨Ao15, co15, eo15⟩ := Kd.R_slice HO1227.out; subst eo15) | ((with_reducible refine gate_builtin (b := .append) (xs := #[.tmp 20, .tmp 25]) rfl ?_); at_builtin; refine Kd.S_append (Kd.slice 3 (Kd.int .i64)) (w0 := w) w.heap.size rfl (.tmp 20) (.tmp 25) 70 22 (.slice none 0 0) 24 rfl Try.underlying70 info22 rfl (by decide) (by omega) u7 x7_1 t1225 [.slice Ao15 t1225.length co15] (fun _ => True) (fun k_ => some k_ = (.slice Ao15 t1225.length co15 : Value).ownBlock) rfl rfl ?aP (fun k_ hk_ => ((Kd.R_mono (ok' := fun k_ => ((fun _ => True)) k_ ∧ some k_ ≠ (u7 : Value).ownBlock) (Kd.R_apart' (HO1227.out) (Kd.S_typed HO_7.out) (by decide)) (fun k_ hk => ⟨trivial, hk.2⟩))).1 k_ hk_.symm) ?aF ?aO ?aB ?aS ?aL ?_; (case aP => exact Kd.M_row (Kd.R_mono (Kd.R_tight rfl (Kd.R_mono (ok' := fun k_ => ((fun _ => True)) k_ ∧ some k_ ≠ (u7 : Value).ownBlock) (Kd.R_apart' (HO1227.out) (Kd.S_typed HO_7.out) (by decide)) (fun k_ hk => ⟨trivial, hk.2⟩))) (fun _ h_ => h_))); (case aB => exact (hB_)); (case aF => exact (fun _ _ => trivial)); (case aO => exact (by refine kS_ ?_; exact Kd.S_mono HO_7.out (fun k_ hk => ⟨trivial, fun e_ => hk.2 e_⟩))); (case aS => exact (below_size (hB_))); (case aL => have := LMc12.out; omega); intro v1229 w14 ho hb hg hat; rw [← Ny1228.out] at ho; have n_ := b_ (hb) <| c_ (ho); clear HO_7 HO1227 HB; obtain ⟨HB, HO1230⟩ := n_; clear ho hb hg hat))
    go_roundg k1
    case measure => have := HK1.out; omega
    case rel => exact ⟨(y1228), (wrap64 (x9_1 + 1)), f0_, H', ⟨by have := HK1.out; omega⟩, ⟨rS_ HO1230.out⟩, ⟨hB_⟩⟩

/-! ### impl_Encrypt: function 28 -/
mutual
def impl_Encrypt.j0 : Nat → ByteArray → ByteArray → ByteArray → Bool → Option (ByteArray × Bool)
 | 0, _, _, _, _ => none
 | k + 1, x0, x1, x2, x29 => if x29 = true then (some ((⟨#[]⟩ : ByteArray), false)) else ((impl_polysOf.f k x0).bind fun bt1246 => (if 768 ≤ (x0.size : Int) then ((impl_smalls.f k x2 0).bind fun t1250 => ((impl_ntts.f k t1250).bind fun t1253 => ((impl_smalls.f k x2 2).bind fun t1256 => (impl_Encrypt.l0 k x1 x2 bt1246.1 (x0.extract 768 x0.size) t1253 t1256 (⟨#[]⟩ : ByteArray) 0)))) else (none)))
def impl_Encrypt.l0 : Nat → ByteArray → ByteArray → List (List Int) → ByteArray → List (List Int) → List (List Int) → ByteArray → Int → Option (ByteArray × Bool)
 | 0, _, _, _, _, _, _, _, _ => none
 | k + 1, x1, x2, x8, x10, x11, x12, x13, x42 => if x42 < 2 then ((impl_row.f k x10 x42 true).bind fun t1259 => ((impl_dot.f k t1259 x11).bind fun t1262 => ((impl_InvNtt.f k t1262).bind fun t1265 => (if 0 ≤ x42 then (if x42 < (x12.length : Int) then ((impl_PolyAdd.f k t1265 (rd_L5 x12 x42)).bind fun t1269 => ((impl_squeezed.f k t1269 10).bind fun t1272 => ((impl_packed.f k t1272 10).bind fun t1275 => (if x13.size + t1275.size ≤ 9223372036854775807 then (impl_Encrypt.l0 k x1 x2 x8 x10 x11 x12 (x13 ++ t1275) (wrap64 (x42 + 1))) else (none))))) else (none)) else (none))))) else ((impl_dot.f k x8 x11).bind fun t1276 => ((impl_InvNtt.f k t1276).bind fun t1279 => ((impl_Small.f k x2 4).bind fun t1282 => ((impl_PolyAdd.f k t1279 t1282).bind fun t1285 => ((impl_bitsOf.f k x1).bind fun t1288 => ((impl_PolyAdd.f k t1285 t1288).bind fun t1291 => ((impl_squeezed.f k t1291 4).bind fun t1294 => ((impl_packed.f k t1294 4).bind fun t1297 => (if x13.size + t1297.size ≤ 9223372036854775807 then (some (x13 ++ t1297, true)) else (none))))))))))
end
def impl_Encrypt.f (k : Nat) (a0 : ByteArray) (a1 : ByteArray) (a2 : ByteArray) : Option (ByteArray × Bool) := (impl_PublicOk.f k a0).bind fun t1245 => (if t1245 = true then (if (a1.size : Int) = 32 then (impl_Encrypt.j0 k a0 a1 a2 ((a2.size : Int) != 32)) else (impl_Encrypt.j0 k a0 a1 a2 true)) else (impl_Encrypt.j0 k a0 a1 a2 true))
theorem impl_Encrypt.mono_l : ∀ k, (∀ y0 y1 y2 y3, LeO (impl_Encrypt.j0 k y0 y1 y2 y3) (impl_Encrypt.j0 (k + 1) y0 y1 y2 y3)) ∧ (∀ y0 y1 y2 y3 y4 y5 y6 y7, LeO (impl_Encrypt.l0 k y0 y1 y2 y3 y4 y5 y6 y7) (impl_Encrypt.l0 (k + 1) y0 y1 y2 y3 y4 y5 y6 y7))
 | 0 => ⟨fun _ _ _ _ r h => by simp [impl_Encrypt.j0] at h, fun _ _ _ _ _ _ _ _ r h => by simp [impl_Encrypt.l0] at h⟩
 | k + 1 => by
  obtain ⟨ih0, ih1⟩ := impl_Encrypt.mono_l k
  refine ⟨?_, ?_⟩ <;> (intros; (first | unfold impl_Encrypt.j0 | unfold impl_Encrypt.l0); exact o14_ ih0 ih1 impl_InvNtt.mono impl_PolyAdd.mono impl_PublicOk.mono impl_Small.mono impl_bitsOf.mono impl_dot.mono impl_ntts.mono impl_packed.mono impl_polysOf.mono impl_row.mono impl_smalls.mono impl_squeezed.mono)
theorem impl_Encrypt.mono : ∀ a0 a1 a2 k, LeO (impl_Encrypt.f k a0 a1 a2) (impl_Encrypt.f (k + 1) a0 a1 a2) := by
 intro a0 a1 a2 k
 obtain ⟨ih0, ih1⟩ := impl_Encrypt.mono_l k
 unfold impl_Encrypt.f
 exact o14_ ih0 ih1 impl_InvNtt.mono impl_PolyAdd.mono impl_PublicOk.mono impl_Small.mono impl_bitsOf.mono impl_dot.mono impl_ntts.mono impl_packed.mono impl_polysOf.mono impl_row.mono impl_smalls.mono impl_squeezed.mono
def impl_Encrypt.T10 : Bool × List (List Nat × List Nat) := (true, [([], []), ([], []), ([0, 1], [0, 1]), ([], []), ([2, 3, 2], [2, 3]), ([4, 4], [4]), ([], []), ([], []), ([6, 7], [6, 7]), ([8], [8]), ([5, 9, 5], [5, 9]), ([10, 10, 0, 1, 2, 3, 4, 5, 6, 7, 8, 9, 10], [10])])
def impl_Encrypt.B10 : List Nat := [0, 0, 3, 0, 15, 31, 0, 0, 192, 448, 1023, 2047]
theorem impl_Encrypt.tab10 : rtab .any (opsOf Try.f28 10) = impl_Encrypt.T10 := by kernel_rfl
theorem impl_Encrypt.bits10 : waitsOk impl_Encrypt.T10.2 impl_Encrypt.B10 = true := by kernel_rfl
theorem impl_Encrypt.calls (k : Nat) (a0 : ByteArray) (a1 : ByteArray) (a2 : ByteArray) (r1 : ByteArray) (r2 : Bool) (w : World) (h : impl_Encrypt.f k a0 a1 a2 = some (r1, r2)) :
  Calls Try.prog 28 #[.string a0, .string a1, .string a2] w fun e w' => e = .returned (.tuple #[.string r1, .bool r2]) ∧ Below w.heap.size w w' := by
 have HB := Aside0.mk (Below.refl w.heap.size w)
 delta impl_Encrypt.f at h
 have H := h
 clear h
 have HC4 := Aside0.mk H
 clear H
 go_enter Try.func28, Try.ntmps28
 go_upto_region 1 with (fail)
 go_cut [29] (fun v29 wc => ∃ (kq : Nat) (x29_3 : Bool), v29 = .bool x29_3 ∧ Aside0 (impl_Encrypt.j0 kq a0 a1 a2 x29_3 = some (r1, r2)) ∧ Aside0 (kq ≤ k) ∧ Aside0 (Below w.heap.size w wc))
 case first =>
  have H := HC4.out
  clear HC4
  obtain ⟨t1245, A5, H⟩ := bN_ H
  by_cases c6 : t1245 = true
  ·subst c6
   replace H := iT_ H
   by_cases c7 : (a1.size : Int) = 32
   ·rw [if_pos c7] at H
    have c7b0 : ((a1.size : Int) == 32) = true := beq_iff_eq.mpr c7
    have c7b1 : ((a1.size : Int) != 32) = false := bne_eq_false_iff_eq.mpr c7
    clear c7
    (first | rw [c7b0] | (simp only [i64_w, i32_w]; rw [c7b0]) | skip)
    have H' := Aside0.mk H
    clear H
    go_wp2_with (first | ((with_reducible refine gate_callee (f := 59) rfl ?_); refine goesL_ (some 18) rfl rfl Try.func59 (by kernel_rfl) rfl #[.string a0] rfl aM_ ?_; (with_reducible refine (impl_PublicOk.calls k a0 true _ A5.out).mono ?_); rintro e w8 ⟨rfl, hb⟩; refine ⟨_, rfl, ?_⟩; replace HB := Aside0.mk (below_step (hB_) hb); (try clear hb)))
    go_meet
    case rel => exact ⟨_, (((a2.size : Int) != 32)), f0_, H', ⟨by first | omega | exact Nat.le_refl _⟩, ⟨hB_⟩⟩
   rw [if_neg c7] at H
   have c7b0 : ((a1.size : Int) == 32) = false := beq_eq_false_iff_ne.mpr c7
   have c7b1 : ((a1.size : Int) != 32) = true := bne_iff_ne.mpr c7
   (first | rw [c7b0] | (simp only [i64_w, i32_w]; rw [c7b0]) | skip)
   have H' := Aside0.mk H
   clear H
   go_wp2_with (first | ((with_reducible refine gate_callee (f := 59) rfl ?_); refine goesL_ (some 18) rfl rfl Try.func59 (by kernel_rfl) rfl #[.string a0] rfl aM_ ?_; (with_reducible refine (impl_PublicOk.calls k a0 true _ A5.out).mono ?_); rintro e w9 ⟨rfl, hb⟩; refine ⟨_, rfl, ?_⟩; replace HB := Aside0.mk (below_step (hB_) hb); (try clear hb)))
   go_meet
   case rel => exact ⟨_, (true), f0_, H', ⟨by first | omega | exact Nat.le_refl _⟩, ⟨hB_⟩⟩
  ·replace c6 := Bool.eq_false_iff.mpr c6
   subst c6
   replace H := iF_ H
   have H' := Aside0.mk H
   clear H
   go_wp2_with (first | ((with_reducible refine gate_callee (f := 59) rfl ?_); refine goesL_ (some 18) rfl rfl Try.func59 (by kernel_rfl) rfl #[.string a0] rfl aM_ ?_; (with_reducible refine (impl_PublicOk.calls k a0 false _ A5.out).mono ?_); rintro e w10 ⟨rfl, hb⟩; refine ⟨_, rfl, ?_⟩; replace HB := Aside0.mk (below_step (hB_) hb); (try clear hb)))
   go_meet
   case rel => exact ⟨_, (true), f0_, H', ⟨by first | omega | exact Nat.le_refl _⟩, ⟨hB_⟩⟩
 case rest =>
  clear HC4
  obtain ⟨kq, x29_3, rfl, HA, HJ3, HB⟩ := hcut
  cases kq with
  | zero => exact absurd HA.out (by simp [impl_Encrypt.j0])
  | succ kj3 =>
   have H := HA.out
   clear HA
   simp only [impl_Encrypt.j0] at H
   by_cases c11 : x29_3 = true
   ·subst c11
    replace H := iT_ H
    simp only [Option.some.injEq, Prod.mk.injEq] at H
    obtain ⟨rfl, rfl⟩ := H
    go_wp2
    go_ret2
    exact ⟨f1_, hB_⟩
   ·replace c11 := Bool.eq_false_iff.mpr c11
    subst c11
    replace H := iF_ H
    obtain ⟨⟨t1246, t1247⟩, A12, H⟩ := bN_ H
    obtain ⟨c13, H⟩ := iN_ H
    have c13b0 := eq_true c13
    have c13b1 := decide_eq_true c13
    clear c13
    obtain ⟨t1250, A14, H⟩ := bN_ H
    obtain ⟨t1253, A15, H⟩ := bN_ H
    obtain ⟨t1256, A16, H⟩ := bN_ H
    have H' := Aside0.mk H
    clear H
    go_wp2_with (first | ((with_reducible refine gate_callee (f := 60) rfl ?_); refine goesL_ (some 32) rfl rfl Try.func60 (by kernel_rfl) rfl #[.string a0] rfl aM_ ?_; (with_reducible refine (impl_polysOf.calls kj3 a0 t1246 t1247 _ A12.out).mono ?_); rintro e w17 ⟨v1248, rfl, ho0, hb⟩; refine ⟨_, rfl, ?_⟩; have n_ := b_ (Kd.S_lower ho0 (below_size (hB_))) <| c_ (below_step (hB_) hb); clear HB; obtain ⟨HO1249, HB⟩ := n_; (try clear ho0)) | ((with_reducible refine gate_callee (f := 62) rfl ?_); refine goesL_ (some 38) rfl rfl Try.func62 (by kernel_rfl) rfl #[.string a2, .int .i64 0] rfl aM_ ?_; (with_reducible refine (impl_smalls.calls kj3 a2 0 t1250 _ A14.out).mono ?_); rintro e w18 ⟨v1251, rfl, ho0, hb⟩; refine ⟨_, rfl, ?_⟩; have n_ := b_ (Kd.S_elder' (rS_ HO1249.out) (Kd.S_base ho0) hb) <| b_ (Kd.S_lower (Kd.S_new' ho0 (Kd.S_lt (rS_ HO1249.out))) (below_size (hB_))) <| c_ (below_step (hB_) hb); clear HO1249 HB; obtain ⟨HO1249, HO1252, HB⟩ := n_; obtain ⟨Ao19, co19, eo19⟩ := Kd.S_slice HO1252.out; subst eo19) | ((with_reducible refine gate_callee (f := 61) rfl ?_); refine goesL_ (some 39) rfl rfl Try.func61 (by kernel_rfl) rfl #[.slice Ao19 t1250.length co19] rfl aM_ ?_; (with_reducible refine (impl_ntts.calls kj3 _ _ t1250 t1253 _ ?side1 ?side2 A15.out).mono ?_); (case side1 => exact cR_ (Kd.S_reads' HO1252.out).2.2); (case side2 => exact (Kd.S_reads' HO1252.out).2.1); rintro e w20 ⟨v1254, rfl, ho0, hb⟩; refine ⟨_, rfl, ?_⟩; have n_ := b_ (Kd.S_elder' (rS_ HO1249.out) (Kd.S_base ho0) hb) <| b_ (Kd.S_elder' (rS_ HO1252.out) (Kd.S_base ho0) hb) <| b_ (Kd.S_lower (Kd.S_new' (Kd.S_new' ho0 (Kd.S_lt (rS_ HO1249.out))) (Kd.S_lt (rS_ HO1252.out))) (below_size (hB_))) <| c_ (below_step (hB_) hb); clear HO1249 HO1252 HB; obtain ⟨HO1249, HO1252, HO1255, HB⟩ := n_; (try clear ho0)) | ((with_reducible refine gate_callee (f := 62) rfl ?_); refine goesL_ (some 41) rfl rfl Try.func62 (by kernel_rfl) rfl #[.string a2, .int .i64 2] rfl aM_ ?_; (with_reducible refine (impl_smalls.calls kj3 a2 2 t1256 _ A16.out).mono ?_); rintro e w21 ⟨v1257, rfl, ho0, hb⟩; refine ⟨_, rfl, ?_⟩; have n_ := b_ (Kd.S_elder' (rS_ HO1249.out) (Kd.S_base ho0) hb) <| b_ (Kd.S_elder' (rS_ HO1252.out) (Kd.S_base ho0) hb) <| b_ (Kd.S_elder' (rS_ HO1255.out) (Kd.S_base ho0) hb) <| b_ (Kd.S_lower (Kd.S_new' (Kd.S_new' (Kd.S_new' ho0 (Kd.S_lt (rS_ HO1249.out))) (Kd.S_lt (rS_ HO1252.out))) (Kd.S_lt (rS_ HO1255.out))) (below_size (hB_))) <| c_ (below_step (hB_) hb); clear HO1249 HO1252 HO1255 HB; obtain ⟨HO1249, HO1252, HO1255, HO1258, HB⟩ := n_; (try clear ho0)))
    go_loopg [13, 42] kj3 (fun kq v13 v42 w' => ∃ (x13_2 : ByteArray) (x42_2 : Int), v13 = .string x13_2 ∧ v42 = .int .i64 x42_2 ∧ Aside0 (impl_Encrypt.l0 kq a1 a2 t1246 (a0.extract 768 a0.size) t1253 t1256 x13_2 x42_2 = some (r1, r2)) ∧ Aside0 (kq ≤ kj3) ∧ Aside0 (Kd.S (Kd.slice 3 (Kd.int .i64)) 22 w' w.heap.size (fun k_ => some k_ ≠ (v1254 : Value).ownBlock ∧ some k_ ≠ (v1257 : Value).ownBlock) v1248 t1246) ∧ Aside0 (Kd.S (Kd.slice 3 (Kd.int .i64)) 22 w' w.heap.size (fun k_ => some k_ ≠ (v1248 : Value).ownBlock ∧ some k_ ≠ (v1257 : Value).ownBlock) v1254 t1253) ∧ Aside0 (Kd.S (Kd.slice 3 (Kd.int .i64)) 22 w' w.heap.size (fun k_ => some k_ ≠ (v1248 : Value).ownBlock ∧ some k_ ≠ (v1254 : Value).ownBlock) v1257 t1256) ∧ Aside0 (Below w.heap.size w w'))
    case atStart => exact ⟨((⟨#[]⟩ : ByteArray)), (0), f0_, f0_, H', ⟨Nat.le_refl _⟩, ⟨by refine kS_ ?_; exact Kd.S_mono HO1249.out (fun _ hk => ⟨hk.1.2, hk.2⟩)⟩, ⟨by refine kS_ ?_; exact Kd.S_mono HO1255.out (fun _ hk => ⟨hk.1.1.2, hk.2⟩)⟩, ⟨by refine kS_ ?_; exact Kd.S_mono HO1258.out (fun _ hk => ⟨hk.1.1.2, hk.2⟩)⟩, ⟨hB_⟩⟩
    case round =>
     clear H'
     obtain ⟨x13_2, x42_2, rfl, rfl, HA, HK2, HO_8, HO_11, HO_12, HB⟩ := hrel
     cases gk with
     | zero => exact absurd HA.out (by simp [impl_Encrypt.l0])
     | succ k2 =>
      have H := HA.out
      clear HA
      simp only [impl_Encrypt.l0] at H
      by_cases c22 : x42_2 < 2
      rotate_left
      ·rw [if_neg c22] at H
       have c22b0 := decide_eq_false c22
       clear c22
       obtain ⟨t1276, A46, H⟩ := bN_ H
       obtain ⟨t1279, A47, H⟩ := bN_ H
       obtain ⟨t1282, A48, H⟩ := bN_ H
       obtain ⟨t1285, A49, H⟩ := bN_ H
       obtain ⟨t1288, A50, H⟩ := bN_ H
       obtain ⟨t1291, A51, H⟩ := bN_ H
       obtain ⟨t1294, A52, H⟩ := bN_ H
       obtain ⟨t1297, A53, H⟩ := bN_ H
       obtain ⟨c54, H⟩ := iN_ H
       have c54b0 := eq_true c54
       have c54b1 := decide_eq_true c54
       try have c54b2 : (9223372036854775807 < x13_2.size + t1297.size) = False := eq_false (Nat.not_lt.2 c54)
       simp only [Option.some.injEq, Prod.mk.injEq] at H
       obtain ⟨rfl, rfl⟩ := H
       obtain ⟨Ao55, co55, eo55⟩ := Kd.S_slice HO_8.out
       subst eo55
       obtain ⟨Ao56, co56, eo56⟩ := Kd.S_slice HO_11.out
       subst eo56
       go_wp2_with (first | ((with_reducible refine gate_callee (f := 65) rfl ?_); refine goesL_ (some 64) rfl rfl Try.func65 (by kernel_rfl) rfl #[.slice Ao55 t1246.length co55, .slice Ao56 t1253.length co56] rfl aM_ ?_; (with_reducible refine (impl_dot.calls k2 _ _ t1246 _ _ t1253 t1276 _ ?side1 ?side2 ?side3 ?side4 A46.out).mono ?_); (case side1 => exact cR_ (Kd.S_reads' HO_8.out).2.2); (case side2 => exact (Kd.S_reads' HO_8.out).2.1); (case side3 => exact cR_ (Kd.S_reads' HO_11.out).2.2); (case side4 => exact (Kd.S_reads' HO_11.out).2.1); rintro e w57 ⟨v1277, rfl, ho0, hb⟩; refine ⟨_, rfl, ?_⟩; have n_ := b_ (Kd.S_elder' (rS_ HO_8.out) (Kd.R_base ho0) hb) <| b_ (Kd.S_elder' (rS_ HO_11.out) (Kd.R_base ho0) hb) <| b_ (Kd.S_elder' (rS_ HO_12.out) (Kd.R_base ho0) hb) <| b_ (Kd.R_lower ho0 (below_size (hB_))) <| c_ (below_step (hB_) hb); clear HO_8 HO_11 HO_12 HB; obtain ⟨HO_8, HO_11, HO_12, HO1278, HB⟩ := n_; obtain ⟨Ao58, co58, eo58⟩ := Kd.R_slice HO1278.out; subst eo58) | ((with_reducible refine gate_callee (f := 64) rfl ?_); refine goesL_ (some 65) rfl rfl Try.func64 (by kernel_rfl) rfl #[.slice Ao58 t1276.length co58] rfl aM_ ?_; (with_reducible refine (impl_InvNtt.calls k2 _ _ t1276 t1279 _ ?side1 ?side2 A47.out).mono ?_); (case side1 => exact cR_ (Kd.R_reads' HO1278.out).2.2); (case side2 => exact (Kd.R_reads' HO1278.out).2.1); rintro e w59 ⟨v1280, rfl, ho0, hb⟩; refine ⟨_, rfl, ?_⟩; have n_ := b_ (Kd.S_elder' (rS_ HO_8.out) (Kd.R_base ho0) hb) <| b_ (Kd.S_elder' (rS_ HO_11.out) (Kd.R_base ho0) hb) <| b_ (Kd.S_elder' (rS_ HO_12.out) (Kd.R_base ho0) hb) <| b_ (Kd.R_elder' (rR_ HO1278.out) (Kd.R_base ho0) hb) <| b_ (Kd.R_lower (Kd.R_new' ho0 (Kd.R_lt (rR_ HO1278.out))) (below_size (hB_))) <| c_ (below_step (hB_) hb); clear HO_8 HO_11 HO_12 HO1278 HB; obtain ⟨HO_8, HO_11, HO_12, HO1278, HO1281, HB⟩ := n_; (try clear ho0)) | ((with_reducible refine gate_callee (f := 9) rfl ?_); refine goesL_ (some 67) rfl rfl Try.func9 (by kernel_rfl) rfl #[.string a2, .int .i64 4] rfl aM_ ?_; (with_reducible refine (impl_Small.calls k2 a2 4 t1282 _ A48.out).mono ?_); rintro e w60 ⟨v1283, rfl, ho0, hb⟩; refine ⟨_, rfl, ?_⟩; have n_ := b_ (Kd.S_elder' (rS_ HO_8.out) (Kd.R_base ho0) hb) <| b_ (Kd.S_elder' (rS_ HO_11.out) (Kd.R_base ho0) hb) <| b_ (Kd.S_elder' (rS_ HO_12.out) (Kd.R_base ho0) hb) <| b_ (Kd.R_elder' (rR_ HO1278.out) (Kd.R_base ho0) hb) <| b_ (Kd.R_elder' (rR_ HO1281.out) (Kd.R_base ho0) hb) <| b_ (Kd.R_lower (Kd.R_new' (Kd.R_new' ho0 (Kd.R_lt (rR_ HO1278.out))) (Kd.R_lt (rR_ HO1281.out))) (below_size (hB_))) <| c_ (below_step (hB_) hb); clear HO_8 HO_11 HO_12 HO1278 HO1281 HB; obtain ⟨HO_8, HO_11, HO_12, HO1278, HO1281, HO1284, HB⟩ := n_; obtain ⟨Ao61, co61, eo61⟩ := Kd.R_slice HO1281.out; subst eo61; obtain ⟨Ao62, co62, eo62⟩ := Kd.R_slice HO1284.out; subst eo62) | ((with_reducible refine gate_callee (f := 63) rfl ?_); refine goesL_ (some 68) rfl rfl Try.func63 (by kernel_rfl) rfl #[.slice Ao61 t1279.length co61, .slice Ao62 t1282.length co62] rfl aM_ ?_; (with_reducible refine (impl_PolyAdd.calls k2 _ _ t1279 _ _ t1282 t1285 _ ?side1 ?side2 ?side3 ?side4 A49.out).mono ?_); (case side1 => exact cR_ (Kd.R_reads' HO1281.out).2.2); (case side2 => exact (Kd.R_reads' HO1281.out).2.1); (case side3 => exact cR_ (Kd.R_reads' HO1284.out).2.2); (case side4 => exact (Kd.R_reads' HO1284.out).2.1); rintro e w63 ⟨v1286, rfl, ho0, hb⟩; refine ⟨_, rfl, ?_⟩; have n_ := b_ (Kd.S_elder' (rS_ HO_8.out) (Kd.R_base ho0) hb) <| b_ (Kd.S_elder' (rS_ HO_11.out) (Kd.R_base ho0) hb) <| b_ (Kd.S_elder' (rS_ HO_12.out) (Kd.R_base ho0) hb) <| b_ (Kd.R_elder' (rR_ HO1278.out) (Kd.R_base ho0) hb) <| b_ (Kd.R_elder' (rR_ HO1281.out) (Kd.R_base ho0) hb) <| b_ (Kd.R_elder' (rR_ HO1284.out) (Kd.R_base ho0) hb) <| b_ (Kd.R_lower (Kd.R_new' (Kd.R_new' (Kd.R_new' ho0 (Kd.R_lt (rR_ HO1278.out))) (Kd.R_lt (rR_ HO1281.out))) (Kd.R_lt (rR_ HO1284.out))) (below_size (hB_))) <| c_ (below_step (hB_) hb); clear HO_8 HO_11 HO_12 HO1278 HO1281 HO1284 HB; obtain ⟨HO_8, HO_11, HO_12, HO1278, HO1281, HO1284, HO1287, HB⟩ := n_; (try clear ho0)) | ((with_reducible refine gate_callee (f := 69) rfl ?_); refine goesL_ (some 70) rfl rfl Try.func69 (by kernel_rfl) rfl #[.string a1] rfl aM_ ?_; (with_reducible refine (impl_bitsOf.calls k2 a1 t1288 _ A50.out).mono ?_); rintro e w64 ⟨v1289, rfl, ho0, hb⟩; refine ⟨_, rfl, ?_⟩; have n_ := b_ (Kd.S_elder' (rS_ HO_8.out) (Kd.R_base ho0) hb) <| b_ (Kd.S_elder' (rS_ HO_11.out) (Kd.R_base ho0) hb) <| b_ (Kd.S_elder' (rS_ HO_12.out) (Kd.R_base ho0) hb) <| b_ (Kd.R_elder' (rR_ HO1278.out) (Kd.R_base ho0) hb) <| b_ (Kd.R_elder' (rR_ HO1281.out) (Kd.R_base ho0) hb) <| b_ (Kd.R_elder' (rR_ HO1284.out) (Kd.R_base ho0) hb) <| b_ (Kd.R_elder' (rR_ HO1287.out) (Kd.R_base ho0) hb) <| b_ (Kd.R_lower (Kd.R_new' (Kd.R_new' (Kd.R_new' (Kd.R_new' ho0 (Kd.R_lt (rR_ HO1278.out))) (Kd.R_lt (rR_ HO1281.out))) (Kd.R_lt (rR_ HO1284.out))) (Kd.R_lt (rR_ HO1287.out))) (below_size (hB_))) <| c_ (below_step (hB_) hb); clear HO_8 HO_11 HO_12 HO1278 HO1281 HO1284 HO1287 HB; obtain ⟨HO_8, HO_11, HO_12, HO1278, HO1281, HO1284, HO1287, HO1290, HB⟩ := n_; obtain ⟨Ao65, co65, eo65⟩ := Kd.R_slice HO1287.out; subst eo65; obtain ⟨Ao66, co66, eo66⟩ := Kd.R_slice HO1290.out; subst eo66) | ((with_reducible refine gate_callee (f := 63) rfl ?_); refine goesL_ (some 71) rfl rfl Try.func63 (by kernel_rfl) rfl #[.slice Ao65 t1285.length co65, .slice Ao66 t1288.length co66] rfl aM_ ?_; (with_reducible refine (impl_PolyAdd.calls k2 _ _ t1285 _ _ t1288 t1291 _ ?side1 ?side2 ?side3 ?side4 A51.out).mono ?_); (case side1 => exact cR_ (Kd.R_reads' HO1287.out).2.2); (case side2 => exact (Kd.R_reads' HO1287.out).2.1); (case side3 => exact cR_ (Kd.R_reads' HO1290.out).2.2); (case side4 => exact (Kd.R_reads' HO1290.out).2.1); rintro e w67 ⟨v1292, rfl, ho0, hb⟩; refine ⟨_, rfl, ?_⟩; have n_ := b_ (Kd.S_elder' (rS_ HO_8.out) (Kd.R_base ho0) hb) <| b_ (Kd.S_elder' (rS_ HO_11.out) (Kd.R_base ho0) hb) <| b_ (Kd.S_elder' (rS_ HO_12.out) (Kd.R_base ho0) hb) <| b_ (Kd.R_elder' (rR_ HO1278.out) (Kd.R_base ho0) hb) <| b_ (Kd.R_elder' (rR_ HO1281.out) (Kd.R_base ho0) hb) <| b_ (Kd.R_elder' (rR_ HO1284.out) (Kd.R_base ho0) hb) <| b_ (Kd.R_elder' (rR_ HO1287.out) (Kd.R_base ho0) hb) <| b_ (Kd.R_elder' (rR_ HO1290.out) (Kd.R_base ho0) hb) <| b_ (Kd.R_lower (Kd.R_new' (Kd.R_new' (Kd.R_new' (Kd.R_new' (Kd.R_new' ho0 (Kd.R_lt (rR_ HO1278.out))) (Kd.R_lt (rR_ HO1281.out))) (Kd.R_lt (rR_ HO1284.out))) (Kd.R_lt (rR_ HO1287.out))) (Kd.R_lt (rR_ HO1290.out))) (below_size (hB_))) <| c_ (below_step (hB_) hb); clear HO_8 HO_11 HO_12 HO1278 HO1281 HO1284 HO1287 HO1290 HB; obtain ⟨HO_8, HO_11, HO_12, HO1278, HO1281, HO1284, HO1287, HO1290, HO1293, HB⟩ := n_; obtain ⟨Ao68, co68, eo68⟩ := Kd.R_slice HO1293.out; subst eo68) | ((with_reducible refine gate_callee (f := 68) rfl ?_); refine goesL_ (some 74) rfl rfl Try.func68 (by kernel_rfl) rfl #[.slice Ao68 t1291.length co68, .int .i64 4] rfl aM_ ?_; (with_reducible refine (impl_squeezed.calls k2 _ _ t1291 4 t1294 _ ?side1 ?side2 A52.out).mono ?_); (case side1 => exact cR_ (Kd.R_reads' HO1293.out).2.2); (case side2 => exact (Kd.R_reads' HO1293.out).2.1); rintro e w69 ⟨v1295, rfl, ho0, hb⟩; refine ⟨_, rfl, ?_⟩; have n_ := b_ (Kd.S_elder' (rS_ HO_8.out) (Kd.R_base ho0) hb) <| b_ (Kd.S_elder' (rS_ HO_11.out) (Kd.R_base ho0) hb) <| b_ (Kd.S_elder' (rS_ HO_12.out) (Kd.R_base ho0) hb) <| b_ (Kd.R_elder' (rR_ HO1278.out) (Kd.R_base ho0) hb) <| b_ (Kd.R_elder' (rR_ HO1281.out) (Kd.R_base ho0) hb) <| b_ (Kd.R_elder' (rR_ HO1284.out) (Kd.R_base ho0) hb) <| b_ (Kd.R_elder' (rR_ HO1287.out) (Kd.R_base ho0) hb) <| b_ (Kd.R_elder' (rR_ HO1290.out) (Kd.R_base ho0) hb) <| b_ (Kd.R_elder' (rR_ HO1293.out) (Kd.R_base ho0) hb) <| b_ (Kd.R_lower (Kd.R_new' (Kd.R_new' (Kd.R_new' (Kd.R_new' (Kd.R_new' (Kd.R_new' ho0 (Kd.R_lt (rR_ HO1278.out))) (Kd.R_lt (rR_ HO1281.out))) (Kd.R_lt (rR_ HO1284.out))) (Kd.R_lt (rR_ HO1287.out))) (Kd.R_lt (rR_ HO1290.out))) (Kd.R_lt (rR_ HO1293.out))) (below_size (hB_))) <| c_ (below_step (hB_) hb); clear HO_8 HO_11 HO_12 HO1278 HO1281 HO1284 HO1287 HO1290 HO1293 HB; obtain ⟨HO_8, HO_11, HO_12, HO1278, HO1281, HO1284, HO1287, HO1290, HO1293, HO1296, HB⟩ := n_; obtain ⟨Ao70, co70, eo70⟩ := Kd.R_slice HO1296.out; subst eo70) | ((with_reducible refine gate_callee (f := 67) rfl ?_); refine goesL_ (some 75) rfl rfl Try.func67 (by kernel_rfl) rfl #[.slice Ao70 t1294.length co70, .int .i64 4] rfl aM_ ?_; (with_reducible refine (impl_packed.calls k2 _ _ t1294 4 t1297 _ ?side1 ?side2 A53.out).mono ?_); (case side1 => exact cR_ (Kd.R_reads' HO1296.out).2.2); (case side2 => exact (Kd.R_reads' HO1296.out).2.1); rintro e w71 ⟨rfl, hb⟩; refine ⟨_, rfl, ?_⟩; have n_ := b_ (Kd.S_below (rS_ HO_8.out) hb) <| b_ (Kd.S_below (rS_ HO_11.out) hb) <| b_ (Kd.S_below (rS_ HO_12.out) hb) <| b_ (Kd.R_below (rR_ HO1278.out) hb) <| b_ (Kd.R_below (rR_ HO1281.out) hb) <| b_ (Kd.R_below (rR_ HO1284.out) hb) <| b_ (Kd.R_below (rR_ HO1287.out) hb) <| b_ (Kd.R_below (rR_ HO1290.out) hb) <| b_ (Kd.R_below (rR_ HO1293.out) hb) <| b_ (Kd.R_below (rR_ HO1296.out) hb) <| c_ (below_step (hB_) hb); clear HO_8 HO_11 HO_12 HO1278 HO1281 HO1284 HO1287 HO1290 HO1293 HO1296 HB; obtain ⟨HO_8, HO_11, HO_12, HO1278, HO1281, HO1284, HO1287, HO1290, HO1293, HO1296, HB⟩ := n_; (try clear hb)))
       go_ret2
       exact ⟨f1_, hB_⟩
      rw [if_pos c22] at H
      have c22b0 := decide_eq_true c22
      clear c22
      obtain ⟨t1259, A23, H⟩ := bN_ H
      obtain ⟨t1262, A24, H⟩ := bN_ H
      obtain ⟨t1265, A25, H⟩ := bN_ H
      obtain ⟨c26b0, H⟩ := iD_ H
      obtain ⟨c27b0, H⟩ := iD_ H
      obtain ⟨t1269, A28, H⟩ := bN_ H
      obtain ⟨t1272, A29, H⟩ := bN_ H
      obtain ⟨t1275, A30, H⟩ := bN_ H
      obtain ⟨c31, H⟩ := iN_ H
      have c31b0 := eq_true c31
      have c31b1 := decide_eq_true c31
      try have c31b2 : (9223372036854775807 < x13_2.size + t1275.size) = False := eq_false (Nat.not_lt.2 c31)
      have H' := Aside0.mk H
      clear H
      try go_wp2
      have n_ := b_ (Kd.S_drew HO_8.out) <| b_ (Kd.S_drew HO_11.out) <| b_ (Kd.S_drew HO_12.out) <| c_ (below_drew1 HB.out)
      clear HO_8 HO_11 HO_12 HB
      obtain ⟨HO_8, HO_11, HO_12, HB⟩ := n_
      obtain ⟨Ao33, co33, eo33⟩ := Kd.S_slice HO_12.out
      (first | subst eo33 | (injection eo33 with f1_ f2_ f3_; have f4_ := f1_.symm; have f5_ := f3_.symm; clear f1_ f2_ f3_; subst f4_; subst f5_))
      have p1268 : 0 ≤ (x42_2 : Int) := oD_
      have q1268 : x42_2 < (t1256.length : Int) := oD_
      obtain ⟨ad1268, A1268_0, c1268_0, e1268, hx1268_0, hl1268_0, hi1268_0⟩ := at_L5 (Kd.S_reads' HO_12.out).2.2 x42_2 p1268 q1268
      cases e1268
      obtain ⟨ce1268, hce1268, hMe1268, hcc1268⟩ := Kd.S_get HO_12.out [] x42_2 p1268 (by first | exact q1268 | exact oD_ | (have e_ := (Kd.S_reads' HO_12.out).1; omega))
      obtain ⟨ve1268_0, rfl, ge1268_0⟩ := hMe1268
      have hv1268_0 := hcc1268 0 _ rfl
      rw [Nat.add_zero, show ((Kd.slice 3 (Kd.int .i64))).sz = 1 from rfl, Nat.mul_one] at hv1268_0
      replace hv1268_0 := Option.some.inj (hv1268_0.symm.trans hx1268_0)
      rw [hv1268_0] at ge1268_0
      have HL1268_0 := Aside0.mk (show Kd.R (Kd.int .i64) 3 _ _ _ _ (rd_L5 t1256 x42_2) from ge1268_0)
      clear hv1268_0 ge1268_0
      clear hcc1268 hce1268
      have HR1268_0 := Aside0.mk hi1268_0
      have HC1268_0 := Aside0.mk hl1268_0
      clear hi1268_0 hl1268_0
      replace p1268 := eq_true p1268
      replace q1268 := eq_true q1268
      refine start_ (n := 12) (S := fun w' => w'.cell? (ad1268.add (x42_2).toNat) = some (.slice A1268_0 (rd_L5 t1256 x42_2).length c1268_0)) (ds := []) (bb_ 12 0) (by kernel_rfl) rfl rfl (hx1268_0) (fun hHeld => ?_); refine with_tabW impl_Encrypt.tab10 impl_Encrypt.bits10 (fun HT_ HW_ => ?_)
      generalize wr.drew = w32 at HO_8 HO_11 HO_12 HB HL1268_0 HR1268_0 hx1268_0 hHeld ⊢
      refine pS_ 0 45 (bb_ 12 1) HT_.out ?_
      refine pS_ 1 46 (bb_ 12 3) HT_.out ?_
      refine pS_ 3 48 (bb_ 12 11) HT_.out ?_
      refine pS_ 6 51 (bb_ 12 75) HT_.out ?_
      refine pS_ 7 52 (bb_ 12 203) HT_.out ?_
      refine pS_ 8 53 (bb_ 12 459) HT_.out ?_
      refine tS_ 9 54 (bb_ 12 971) (take_ofW HT_.out HW_.out (by kernel_rfl)) hHeld ?_
      refine one_ (i := 2) (N := some 47) (bb_ 12 975) rfl rfl (one_of HT_.out (by kernel_rfl)) (by decide) (fun K hK => ?_)
      refine goes_ Try.func66 (by kernel_rfl) rfl #[.string (a0.extract 768 a0.size), .int .i64 x42_2, .bool true] (by rfl) rfl rfl aM_ ?_
      with_reducible refine (impl_row.calls k2 (a0.extract 768 a0.size) x42_2 true t1259 _ A23.out).mono ?_
      rintro e w34 ⟨v1260, rfl, ho0, hb⟩
      have HS0_ := (hb.cell (World.block_lt_of_cell? _ _ (hHeld))).trans (hHeld)
      refine ⟨_, rfl, ?_⟩
      have n_ := b_ (Kd.S_elder' (rS_ HO_8.out) (Kd.S_base ho0) hb) <| b_ (Kd.S_elder' (rS_ HO_11.out) (Kd.S_base ho0) hb) <| b_ (Kd.S_elder' (rS_ HO_12.out) (Kd.S_base ho0) hb) <| b_ (Kd.R_below (rR_ HL1268_0.out) hb) <| b_ (Kd.S_lower (Kd.S_new' (Kd.S_new' (Kd.S_new' (Kd.S_new' ho0 (Kd.S_lt (rS_ HO_8.out))) (Kd.S_lt (rS_ HO_11.out))) (Kd.S_lt (rS_ HO_12.out))) (Kd.R_lt (rR_ HL1268_0.out))) (below_size (hB_))) <| b_ (Kd.C_below (by repeat (first | (with_reducible exact HR1268_0.out) | (with_reducible refine Kd.C_alloc ?_ _) | (with_reducible refine Kd.C_drewN ?_ _) | (with_reducible refine Kd.C_drew ?_) | exact HR1268_0.out)) hb) <| c_ (below_step (hB_) hb)
      clear HO_8 HO_11 HO_12 HL1268_0 HR1268_0 HB
      obtain ⟨HO_8, HO_11, HO_12, HL1268_0, HO1261, HR1268_0, HB⟩ := n_
      obtain ⟨Ao35, co35, eo35⟩ := Kd.S_slice HO1261.out
      (first | subst eo35 | (injection eo35 with f1_ f2_ f3_; have f4_ := f1_.symm; have f5_ := f3_.symm; clear f1_ f2_ f3_; subst f4_; subst f5_))
      obtain ⟨Ao36, co36, eo36⟩ := Kd.S_slice HO_11.out
      (first | subst eo36 | (injection eo36 with f1_ f2_ f3_; have f4_ := f1_.symm; have f5_ := f3_.symm; clear f1_ f2_ f3_; subst f4_; subst f5_))
      refine hK.out _ _ (HS0_) (fun hHeld => ?_)
      clear hK K
      refine norm_ (a' := ?_) ?_ ?_
      rotate_left
      ·show Act.put _ (some 47) _ = _
       simp only [Act.put, List.setIfInBounds_toArray, List.set_cons_zero, List.set_cons_succ, i64_w, i32_w]
       rfl
      refine one_ (i := 4) (N := some 49) (bb_ 12 991) rfl rfl (one_of HT_.out (by kernel_rfl)) (by decide) (fun K hK => ?_)
      refine goes_ Try.func65 (by kernel_rfl) rfl #[.slice Ao35 t1259.length co35, .slice Ao36 t1253.length co36] (by rfl) rfl rfl aM_ ?_
      with_reducible refine (impl_dot.calls k2 _ _ t1259 _ _ t1253 t1262 _ ?side1 ?side2 ?side3 ?side4 A24.out).mono ?_
      (case side1 => exact cR_ (Kd.S_reads' HO1261.out).2.2)
      (case side2 => exact (Kd.S_reads' HO1261.out).2.1)
      (case side3 => exact cR_ (Kd.S_reads' HO_11.out).2.2)
      (case side4 => exact (Kd.S_reads' HO_11.out).2.1)
      rintro e w37 ⟨v1263, rfl, ho0, hb⟩
      have HS0_ := (hb.cell (World.block_lt_of_cell? _ _ (hHeld))).trans (hHeld)
      refine ⟨_, rfl, ?_⟩
      have n_ := b_ (Kd.S_elder' (rS_ HO_8.out) (Kd.R_base ho0) hb) <| b_ (Kd.S_elder' (rS_ HO_11.out) (Kd.R_base ho0) hb) <| b_ (Kd.S_elder' (rS_ HO_12.out) (Kd.R_base ho0) hb) <| b_ (Kd.R_elder' (rR_ HL1268_0.out) (Kd.R_base ho0) hb) <| b_ (Kd.S_elder' (rS_ HO1261.out) (Kd.R_base ho0) hb) <| b_ (Kd.R_lower (Kd.R_new' ho0 (Kd.R_lt (rR_ HL1268_0.out))) (below_size (hB_))) <| b_ (Kd.C_below (by repeat (first | (with_reducible exact HR1268_0.out) | (with_reducible refine Kd.C_alloc ?_ _) | (with_reducible refine Kd.C_drewN ?_ _) | (with_reducible refine Kd.C_drew ?_) | exact HR1268_0.out)) hb) <| c_ (below_step (hB_) hb)
      clear HO_8 HO_11 HO_12 HL1268_0 HO1261 HR1268_0 HB
      obtain ⟨HO_8, HO_11, HO_12, HL1268_0, HO1261, HO1264, HR1268_0, HB⟩ := n_
      obtain ⟨Ao38, co38, eo38⟩ := Kd.R_slice HO1264.out
      (first | subst eo38 | (injection eo38 with f1_ f2_ f3_; have f4_ := f1_.symm; have f5_ := f3_.symm; clear f1_ f2_ f3_; subst f4_; subst f5_))
      refine hK.out _ _ (HS0_) (fun hHeld => ?_)
      clear hK K
      refine norm_ (a' := ?_) ?_ ?_
      rotate_left
      ·show Act.put _ (some 49) _ = _
       simp only [Act.put, List.setIfInBounds_toArray, List.set_cons_zero, List.set_cons_succ, i64_w, i32_w]
       rfl
      refine one_ (i := 5) (N := some 50) (bb_ 12 1023) rfl rfl (one_of HT_.out (by kernel_rfl)) (by decide) (fun K hK => ?_)
      refine goes_ Try.func64 (by kernel_rfl) rfl #[.slice Ao38 t1262.length co38] (by rfl) rfl rfl aM_ ?_
      with_reducible refine (impl_InvNtt.calls k2 _ _ t1262 t1265 _ ?side1 ?side2 A25.out).mono ?_
      (case side1 => exact cR_ (Kd.R_reads' HO1264.out).2.2)
      (case side2 => exact (Kd.R_reads' HO1264.out).2.1)
      rintro e w39 ⟨v1266, rfl, ho0, hb⟩
      have HS0_ := (hb.cell (World.block_lt_of_cell? _ _ (hHeld))).trans (hHeld)
      refine ⟨_, rfl, ?_⟩
      have n_ := b_ (Kd.S_elder' (rS_ HO_8.out) (Kd.R_base ho0) hb) <| b_ (Kd.S_elder' (rS_ HO_11.out) (Kd.R_base ho0) hb) <| b_ (Kd.S_elder' (rS_ HO_12.out) (Kd.R_base ho0) hb) <| b_ (Kd.R_elder' (rR_ HL1268_0.out) (Kd.R_base ho0) hb) <| b_ (Kd.S_elder' (rS_ HO1261.out) (Kd.R_base ho0) hb) <| b_ (Kd.R_elder' (rR_ HO1264.out) (Kd.R_base ho0) hb) <| b_ (Kd.R_lower (Kd.R_new' (Kd.R_new' ho0 (Kd.R_lt (rR_ HL1268_0.out))) (Kd.R_lt (rR_ HO1264.out))) (below_size (hB_))) <| b_ (Kd.C_below (by repeat (first | (with_reducible exact HR1268_0.out) | (with_reducible refine Kd.C_alloc ?_ _) | (with_reducible refine Kd.C_drewN ?_ _) | (with_reducible refine Kd.C_drew ?_) | exact HR1268_0.out)) hb) <| c_ (below_step (hB_) hb)
      clear HO_8 HO_11 HO_12 HL1268_0 HO1261 HO1264 HR1268_0 HB
      obtain ⟨HO_8, HO_11, HO_12, HL1268_0, HO1261, HO1264, HO1267, HR1268_0, HB⟩ := n_
      obtain ⟨Ao40, co40, eo40⟩ := Kd.R_slice HO1267.out
      (first | subst eo40 | (injection eo40 with f1_ f2_ f3_; have f4_ := f1_.symm; have f5_ := f3_.symm; clear f1_ f2_ f3_; subst f4_; subst f5_))
      refine hK.out _ _ (HS0_) (fun hHeld => ?_)
      clear hK K
      refine norm_ (a' := ?_) ?_ ?_
      rotate_left
      ·show Act.put _ (some 50) _ = _
       simp only [Act.put, List.setIfInBounds_toArray, List.set_cons_zero, List.set_cons_succ, i64_w, i32_w]
       rfl
      refine one_ (i := 10) (N := some 55) (bb_ 12 2047) rfl rfl (one_of HT_.out (by kernel_rfl)) (by decide) (fun K hK => ?_)
      refine goes_ Try.func63 (by kernel_rfl) rfl #[.slice Ao40 t1265.length co40, .slice A1268_0 (rd_L5 t1256 x42_2).length c1268_0] (by rfl) rfl rfl aM_ ?_
      with_reducible refine (impl_PolyAdd.calls k2 _ _ t1265 _ _ (rd_L5 t1256 x42_2) t1269 _ ?side1 ?side2 ?side3 ?side4 A28.out).mono ?_
      (case side1 => exact cR_ (Kd.R_reads' HO1267.out).2.2)
      (case side2 => exact (Kd.R_reads' HO1267.out).2.1)
      (case side3 => repeat (first | exact (by repeat (first | (with_reducible exact HR1268_0.out) | (with_reducible refine Kd.C_alloc ?_ _) | (with_reducible refine Kd.C_drewN ?_ _) | (with_reducible refine Kd.C_drew ?_) | exact HR1268_0.out)) | (with_reducible refine Kd.C_alloc ?_ _) | (with_reducible refine Kd.C_drewN ?_ _) | (with_reducible refine Kd.C_drew ?_)))
      (case side4 => exact HC1268_0.out)
      rintro e w41 ⟨v1270, rfl, ho0, hb⟩
      have HS0_ := (hb.cell (World.block_lt_of_cell? _ _ (hHeld))).trans (hHeld)
      refine ⟨_, rfl, ?_⟩
      have n_ := b_ (Kd.S_elder' (rS_ HO_8.out) (Kd.R_base ho0) hb) <| b_ (Kd.S_elder' (rS_ HO_11.out) (Kd.R_base ho0) hb) <| b_ (Kd.S_elder' (rS_ HO_12.out) (Kd.R_base ho0) hb) <| b_ (Kd.R_elder' (rR_ HL1268_0.out) (Kd.R_base ho0) hb) <| b_ (Kd.S_elder' (rS_ HO1261.out) (Kd.R_base ho0) hb) <| b_ (Kd.R_elder' (rR_ HO1264.out) (Kd.R_base ho0) hb) <| b_ (Kd.R_elder' (rR_ HO1267.out) (Kd.R_base ho0) hb) <| b_ (Kd.R_lower (Kd.R_new' (Kd.R_new' (Kd.R_new' ho0 (Kd.R_lt (rR_ HL1268_0.out))) (Kd.R_lt (rR_ HO1264.out))) (Kd.R_lt (rR_ HO1267.out))) (below_size (hB_))) <| b_ (Kd.C_below (by repeat (first | (with_reducible exact HR1268_0.out) | (with_reducible refine Kd.C_alloc ?_ _) | (with_reducible refine Kd.C_drewN ?_ _) | (with_reducible refine Kd.C_drew ?_) | exact HR1268_0.out)) hb) <| c_ (below_step (hB_) hb)
      clear HO_8 HO_11 HO_12 HL1268_0 HO1261 HO1264 HO1267 HR1268_0 HB
      obtain ⟨HO_8, HO_11, HO_12, HL1268_0, HO1261, HO1264, HO1267, HO1271, HR1268_0, HB⟩ := n_
      refine hK.out _ _ (HS0_) (fun hHeld => ?_)
      clear hK K
      refine norm_ (a' := ?_) ?_ ?_
      rotate_left
      ·show Act.put _ (some 55) _ = _
       simp only [Act.put, List.setIfInBounds_toArray, List.set_cons_zero, List.set_cons_succ, i64_w, i32_w]
       rfl
      refine pS_ 11 15 (bb_ 12 4095) HT_.out ?_
      refine done_ (done_of HT_.out (by kernel_rfl)) ?_
      obtain ⟨Ao42, co42, eo42⟩ := Kd.R_slice HO1271.out
      subst eo42
      try go_wp2_with (first | ((with_reducible refine gate_callee (f := 68) rfl ?_); refine goesL_ (some 58) rfl rfl Try.func68 (by kernel_rfl) rfl #[.slice Ao42 t1269.length co42, .int .i64 10] rfl aM_ ?_; (with_reducible refine (impl_squeezed.calls k2 _ _ t1269 10 t1272 _ ?side1 ?side2 A29.out).mono ?_); (case side1 => exact cR_ (Kd.R_reads' HO1271.out).2.2); (case side2 => exact (Kd.R_reads' HO1271.out).2.1); rintro e w43 ⟨v1273, rfl, ho0, hb⟩; refine ⟨_, rfl, ?_⟩; have n_ := b_ (Kd.S_elder' (rS_ HO_8.out) (Kd.R_base ho0) hb) <| b_ (Kd.S_elder' (rS_ HO_11.out) (Kd.R_base ho0) hb) <| b_ (Kd.S_elder' (rS_ HO_12.out) (Kd.R_base ho0) hb) <| b_ (Kd.R_elder' (rR_ HL1268_0.out) (Kd.R_base ho0) hb) <| b_ (Kd.S_elder' (rS_ HO1261.out) (Kd.R_base ho0) hb) <| b_ (Kd.R_elder' (rR_ HO1264.out) (Kd.R_base ho0) hb) <| b_ (Kd.R_elder' (rR_ HO1267.out) (Kd.R_base ho0) hb) <| b_ (Kd.R_elder' (rR_ HO1271.out) (Kd.R_base ho0) hb) <| b_ (Kd.R_lower (Kd.R_new' (Kd.R_new' (Kd.R_new' (Kd.R_new' ho0 (Kd.R_lt (rR_ HL1268_0.out))) (Kd.R_lt (rR_ HO1264.out))) (Kd.R_lt (rR_ HO1267.out))) (Kd.R_lt (rR_ HO1271.out))) (below_size (hB_))) <| b_ (Kd.C_below (by repeat (first | (with_reducible exact HR1268_0.out) | (with_reducible refine Kd.C_alloc ?_ _) | (with_reducible refine Kd.C_drewN ?_ _) | (with_reducible refine Kd.C_drew ?_) | exact HR1268_0.out)) hb) <| c_ (below_step (hB_) hb); clear HO_8 HO_11 HO_12 HL1268_0 HO1261 HO1264 HO1267 HO1271 HR1268_0 HB; obtain ⟨HO_8, HO_11, HO_12, HL1268_0, HO1261, HO1264, HO1267, HO1271, HO1274, HR1268_0, HB⟩ := n_; obtain ⟨Ao44, co44, eo44⟩ := Kd.R_slice HO1274.out; subst eo44) | ((with_reducible refine gate_callee (f := 67) rfl ?_); refine goesL_ (some 59) rfl rfl Try.func67 (by kernel_rfl) rfl #[.slice Ao44 t1272.length co44, .int .i64 10] rfl aM_ ?_; (with_reducible refine (impl_packed.calls k2 _ _ t1272 10 t1275 _ ?side1 ?side2 A30.out).mono ?_); (case side1 => exact cR_ (Kd.R_reads' HO1274.out).2.2); (case side2 => exact (Kd.R_reads' HO1274.out).2.1); rintro e w45 ⟨rfl, hb⟩; refine ⟨_, rfl, ?_⟩; have n_ := b_ (Kd.S_below (rS_ HO_8.out) hb) <| b_ (Kd.S_below (rS_ HO_11.out) hb) <| b_ (Kd.S_below (rS_ HO_12.out) hb) <| b_ (Kd.R_below (rR_ HL1268_0.out) hb) <| b_ (Kd.S_below (rS_ HO1261.out) hb) <| b_ (Kd.R_below (rR_ HO1264.out) hb) <| b_ (Kd.R_below (rR_ HO1267.out) hb) <| b_ (Kd.R_below (rR_ HO1271.out) hb) <| b_ (Kd.R_below (rR_ HO1274.out) hb) <| b_ (Kd.C_below (by repeat (first | (with_reducible exact HR1268_0.out) | (with_reducible refine Kd.C_alloc ?_ _) | (with_reducible refine Kd.C_drewN ?_ _) | (with_reducible refine Kd.C_drew ?_) | exact HR1268_0.out)) hb) <| c_ (below_step (hB_) hb); clear HO_8 HO_11 HO_12 HL1268_0 HO1261 HO1264 HO1267 HO1271 HO1274 HR1268_0 HB; obtain ⟨HO_8, HO_11, HO_12, HL1268_0, HO1261, HO1264, HO1267, HO1271, HO1274, HR1268_0, HB⟩ := n_; (try clear hb)))
      go_roundg k2
      case measure => have := HJ3.out; have := HK2.out; omega
      case rel => exact ⟨(x13_2 ++ t1275), (wrap64 (x42_2 + 1)), f0_, f0_, H', ⟨by have := HJ3.out; have := HK2.out; omega⟩, ⟨by refine kS_ ?_; exact Kd.S_mono HO_8.out (fun _ hk => ⟨hk.1.1.1.1.1.1, hk.1.1.1.1.1.2⟩)⟩, ⟨by refine kS_ ?_; exact Kd.S_mono HO_11.out (fun _ hk => ⟨hk.1.1.1.1.1.1, hk.1.1.1.1.1.2⟩)⟩, ⟨by refine kS_ ?_; exact Kd.S_mono HO_12.out (fun _ hk => ⟨hk.1.1.1.1.1.1, hk.1.1.1.1.1.2⟩)⟩, ⟨hB_⟩⟩

end Go.Proofs.Ytnckhligcdieaaa.P
