-- printed texts of this session, regrouped
import Derived.Test.YthdjmbbkenbeiaaDoorMWC
import Derived.Test.YthdjmbbkenbeiaaDoorMWA
import Derived.Test.YthdjmbbkenbeiaaDoorMW7
import Derived.Test.YthdjmbbkenbeiaaDoorMW8
import Derived.Test.YthdjmbbkenbeiaaDoorMW6
import Derived.Test.YthdjmbbkenbeiaaDoorHB4
import Derived.Test.YthdjmbbkenbeiaaDoorPx0
import Derived.Test.YthdjmbbkenbeiaaDoorPx3
import Derived.Test.YthdjmbbkenbeiaaDoorPx4
import Derived.Test.YthdjmbbkenbeiaaDoorPx10
namespace Go.Proofs.YthdjmbbkenbeiaaDoor.P
open Go.RowKit Go.Proofs.YthdjmbbkenbeiaaDoorW.PrintWords Go.Proofs.YthdjmbbkenbeiaaDoorW.PrintLast Go.Proofs.YthdjmbbkenbeiaaDoorW.PrintMore
attribute [local go_sem] max2_int min2_int max_two min_two max_three min_three max_four min_four   -- for this text's walks alone
set_option linter.unusedVariables false
set_option linter.unusedSimpArgs false
set_option maxHeartbeats 8000000
set_option maxRecDepth 100000

/-! ### impl_StreamNew: function 65 -/
def impl_StreamNew.f (k : Nat) (a0 : ByteArray) : Option (ByteArray × Int) := (impl_absorbed.f k a0 168 31).bind fun t487 => (some (t487, 0))
theorem impl_StreamNew.mono : ∀ a0 k, LeO (impl_StreamNew.f k a0) (impl_StreamNew.f (k + 1) a0) := by
 intro a0 k
 unfold impl_StreamNew.f
 exact o1_ impl_absorbed.mono
theorem impl_StreamNew.calls (k : Nat) (a0 : ByteArray) (r1 : ByteArray) (r2 : Int) (w : World) (h : impl_StreamNew.f k a0 = some (r1, r2)) :
  Calls Tryd.prog 65 #[.string a0] w fun e w' => e = .returned (.agg #[.string r1, .int .i64 r2]) ∧ Below w.heap.size w w' := by
 have hu69 := Tryd.underlying69
 have HB := Aside0.mk (Below.refl w.heap.size w)
 delta impl_StreamNew.f at h
 have H := h
 clear h
 obtain ⟨t487, A2, H⟩ := bN_ H
 simp only [Option.some.injEq, Prod.mk.injEq] at H
 obtain ⟨rfl, rfl⟩ := H
 go_enter Tryd.func65, Tryd.ntmps65
 go_wp2_with (first | ((with_reducible refine gate_dst (N := 2) rfl ?_); refine box_event ?hg (N := 2) ?hd (cs := #[.string (⟨#[]⟩ : ByteArray), .int .i64 0]) (t := 69) ?hr ?_; (case hd => rfl); (case hg => rfl); (case hr => first | (go_simp; done) | (go_simp; rfl)); intro gb486 hg w3 hbox hb; have n_ := b_ (below_step (hB_) hb) <| b_ (hbox) <| b_ (by rw [hg]; exact (below_size (hB_)) : w.heap.size ≤ gb486) <| c_ (by rw [hg]; exact (below_size (hB_)) : w.heap.size ≤ gb486); clear HB; obtain ⟨HB, BK486, GW486, GE486⟩ := n_; clear hb hbox hg) | ((with_reducible refine gate_callee (f := 73) rfl ?_); refine goesL_ (some 4) rfl rfl Tryd.func73 (by kernel_rfl) rfl #[.string a0, .int .i64 168, .int .u8 31] rfl aM_ ?_; (with_reducible refine (impl_absorbed.calls k a0 168 31 t487 _ A2.out).mono ?_); rintro e w4 ⟨rfl, hb⟩; refine ⟨_, rfl, ?_⟩; have n_ := b_ (blk_below (g := gb486) (o := .cells #[.string (⟨#[]⟩ : ByteArray), .int .i64 0] 69 (0, 0)) (rK_ BK486.out) hb) <| c_ (below_step (hS_ GE486.out) hb); clear BK486 HB; obtain ⟨BK486, HB⟩ := n_; have hcz5_0 : w4.cell? ⟨gb486, 0, none⟩ = some (.string (⟨#[]⟩ : ByteArray)) := (blk_cell BK486.out 0).trans rfl; have hcz5_1 : w4.cell? ⟨gb486, 1, none⟩ = some (.int .i64 0) := (blk_cell BK486.out 1).trans rfl; have hfz5_0 := blk_frozen BK486.out 0; have hfz5_1 := blk_frozen BK486.out 1))
 refine bodyPost_ret (results_cell_row rfl _ _ gb486 69 #[.string t487, .int .i64 0] (0, 0) _ rfl (by refine kK_ ?_; refine blk_put (cs := #[.string t487, .int .i64 0]) ?_ 1 _ rfl; refine kK_ ?_; refine blk_put (cs := #[.string (⟨#[]⟩ : ByteArray), .int .i64 0]) ?_ 0 _ rfl; exact rK_ BK486.out) Tryd.underlying69 rfl (by kernel_rfl)) rfl ?_
 exact ⟨f1_, hS_ GE486.out⟩

/-! ### impl_ShakeOf: function 62 -/
def impl_ShakeOf.f (k : Nat) (a0 : ByteArray) (a1 : Int) : Option (ByteArray × Bool) := (impl_in.f a1 0 4000).bind fun t493 => (if t493 = true then ((impl_StreamNew.f k a0).bind fun bt494 => ((impl_StreamTake.f k bt494.1 bt494.2 a1).bind fun bt496 => (some (bt496.2.2, true)))) else (some ((⟨#[]⟩ : ByteArray), false)))
theorem impl_ShakeOf.mono : ∀ a0 a1 k, LeO (impl_ShakeOf.f k a0 a1) (impl_ShakeOf.f (k + 1) a0 a1) := by
 intro a0 a1 k
 unfold impl_ShakeOf.f
 exact o2_ impl_StreamNew.mono impl_StreamTake.mono
theorem impl_ShakeOf.calls (k : Nat) (a0 : ByteArray) (a1 : Int) (r1 : ByteArray) (r2 : Bool) (w : World) (h : impl_ShakeOf.f k a0 a1 = some (r1, r2)) :
  Calls Tryd.prog 62 #[.string a0, .int .i64 a1] w fun e w' => e = .returned (.tuple #[.string r1, .bool r2]) ∧ Below w.heap.size w w' := by
 have hu69 := Tryd.underlying69
 have HB := Aside0.mk (Below.refl w.heap.size w)
 delta impl_ShakeOf.f at h
 have H := h
 clear h
 obtain ⟨t493, A3, H⟩ := bN_ H
 by_cases c4 : t493 = true
 ·subst c4
  replace H := iT_ H
  obtain ⟨⟨t494, t495⟩, A5, H⟩ := bN_ H
  obtain ⟨⟨t496, t497, t498⟩, A6, H⟩ := bN_ H
  simp only [Option.some.injEq, Prod.mk.injEq] at H
  obtain ⟨rfl, rfl⟩ := H
  go_enter Tryd.func62, Tryd.ntmps62
  go_wp2_with (first | ((with_reducible refine gate_callee (f := 64) rfl ?_); refine goesL_ (some 9) rfl rfl Tryd.func64 (by kernel_rfl) rfl #[.int .i64 a1, .int .i64 0, .int .i64 4000] rfl aM_ ?_; (with_reducible refine (impl_in.calls a1 0 4000 true _ A3.out).mono ?_); rintro e w' ⟨rfl, ⟨nd, rfl⟩⟩; refine ⟨_, rfl, ?_⟩) | ((with_reducible refine gate_callee (f := 65) rfl ?_); refine goesL_ (some 13) rfl rfl Tryd.func65 (by kernel_rfl) rfl #[.string a0] rfl aM_ ?_; (with_reducible refine (impl_StreamNew.calls k a0 t494 t495 _ A5.out).mono ?_); rintro e w7 ⟨rfl, hb⟩; refine ⟨_, rfl, ?_⟩; replace HB := Aside0.mk (below_step (hB_) hb); (try clear hb)) | ((with_reducible refine gate_callee (f := 66) rfl ?_); refine goesL_ (some 15) rfl rfl Tryd.func66 (by kernel_rfl) rfl #[.agg #[.string t494, .int .i64 t495], .int .i64 a1] rfl aM_ ?_; (with_reducible refine (impl_StreamTake.calls k t494 t495 a1 t496 t497 t498 _ A6.out).mono ?_); rintro e w8 ⟨rfl, hb⟩; refine ⟨_, rfl, ?_⟩; replace HB := Aside0.mk (below_step (hB_) hb); (try clear hb)) | ((with_reducible refine gate_dst (N := 6) rfl ?_); refine box_event ?hg (N := 6) ?hd (cs := #[.string (⟨#[]⟩ : ByteArray), .int .i64 0]) (t := 69) ?hr ?_; (case hd => rfl); (case hg => rfl); (case hr => first | (go_simp; done) | (go_simp; rfl)); intro gb499 hg w9 hbox hb; have n_ := b_ (below_step (hB_) hb) <| b_ (hbox) <| b_ (by rw [hg]; exact (below_size (hB_)) : w.heap.size ≤ gb499) <| c_ (by rw [hg]; exact (below_size (hB_)) : w.heap.size ≤ gb499); clear HB; obtain ⟨HB, BK499, GW499, GE499⟩ := n_; clear hb hbox hg; have hcz10_0 : w9.cell? ⟨gb499, 0, none⟩ = some (.string (⟨#[]⟩ : ByteArray)) := (blk_cell BK499.out 0).trans rfl; have hcz10_1 : w9.cell? ⟨gb499, 1, none⟩ = some (.int .i64 0) := (blk_cell BK499.out 1).trans rfl; have hfz10_0 := blk_frozen BK499.out 0; have hfz10_1 := blk_frozen BK499.out 1))
  go_ret2
  exact ⟨f1_, hS_ GE499.out⟩
 ·replace c4 := Bool.eq_false_iff.mpr c4
  subst c4
  replace H := iF_ H
  simp only [Option.some.injEq, Prod.mk.injEq] at H
  obtain ⟨rfl, rfl⟩ := H
  go_enter Tryd.func62, Tryd.ntmps62
  go_wp2_with (first | ((with_reducible refine gate_callee (f := 64) rfl ?_); refine goesL_ (some 9) rfl rfl Tryd.func64 (by kernel_rfl) rfl #[.int .i64 a1, .int .i64 0, .int .i64 4000] rfl aM_ ?_; (with_reducible refine (impl_in.calls a1 0 4000 false _ A3.out).mono ?_); rintro e w' ⟨rfl, ⟨nd, rfl⟩⟩; refine ⟨_, rfl, ?_⟩))
  go_ret2
  exact ⟨f1_, hB_⟩

/-! ### impl_Small: function 37 -/
def impl_Small.l0 : Nat → ByteArray → List Int → Int → Int → Option (List Int)
 | 0, _, _, _, _ => none
 | k + 1, x5, x7, x20, x21 => if x21 < x20 then (if 0 ≤ (wrap64 (Int.tdiv x21 2)) then (if (wrap64 (Int.tdiv x21 2)) < (x5.size : Int) then (if 0 ≤ (wrap64 (4 * (Int.tmod x21 2))) then ((impl_modQ.f (wrap64 ((wrap64 ((wrap64 ((Go.bits .and .i64 (wrap64 (shr .u8 (bt x5 (wrap64 (Int.tdiv x21 2))) (wrap64 (4 * (Int.tmod x21 2))))) 1) + (Go.bits .and .i64 ((wrap64 (shr .u8 (bt x5 (wrap64 (Int.tdiv x21 2))) (wrap64 (4 * (Int.tmod x21 2))))) / 2) 1))) - (Go.bits .and .i64 ((wrap64 (shr .u8 (bt x5 (wrap64 (Int.tdiv x21 2))) (wrap64 (4 * (Int.tmod x21 2))))) / 4) 1))) - (Go.bits .and .i64 ((wrap64 (shr .u8 (bt x5 (wrap64 (Int.tdiv x21 2))) (wrap64 (4 * (Int.tmod x21 2))))) / 8) 1)))).bind fun t509 => (if 0 ≤ x21 then (if x21 < (x7.length : Int) then (impl_Small.l0 k x5 (x7.set (x21 : Int).toNat t509) x20 (wrap64 (x21 + 1))) else (none)) else (none))) else (none)) else (none)) else (none)) else (some x7)
def impl_Small.f (k : Nat) (a0 : ByteArray) (a1 : Int) : Option (List Int) := (impl_oneByte.f a1).bind fun t503 => (if a0.size + t503.size ≤ 9223372036854775807 then ((impl_ShakeOf.f k (a0 ++ t503) 128).bind fun bt504 => (if 256 ≤ 35184372088832 then ((some (List.replicate 256 0 : List Int)).bind fun y506 => (impl_Small.l0 k bt504.1 y506 (y506.length : Int) 0)) else (none))) else (none))
theorem impl_Small.mono_l : ∀ k, (∀ y0 y1 y2 y3, LeO (impl_Small.l0 k y0 y1 y2 y3) (impl_Small.l0 (k + 1) y0 y1 y2 y3))
 | 0 => fun _ _ _ _ r h => by simp [impl_Small.l0] at h
 | k + 1 => by
  have ih0 := impl_Small.mono_l k
  intros; unfold impl_Small.l0; exact o2_ ih0 impl_ShakeOf.mono
theorem impl_Small.mono : ∀ a0 a1 k, LeO (impl_Small.f k a0 a1) (impl_Small.f (k + 1) a0 a1) := by
 intro a0 a1 k
 have ih0 := impl_Small.mono_l k
 unfold impl_Small.f
 exact o2_ ih0 impl_ShakeOf.mono
theorem impl_Small.calls (k : Nat) (a0 : ByteArray) (a1 : Int) (r : List Int) (w : World) (h : impl_Small.f k a0 a1 = some r) :
  Calls Tryd.prog 37 #[.string a0, .int .i64 a1] w fun e w' => ∃ v0_ : Value, e = .returned (v0_) ∧ Kd.R (Kd.int .i64) 3 w' w.heap.size (fun _ => True) v0_ r ∧ Below w.heap.size w w' := by
 have HB := Aside0.mk (Below.refl w.heap.size w)
 delta impl_Small.f at h
 have H := h
 clear h
 obtain ⟨t503, A3, H⟩ := bN_ H
 obtain ⟨c4, H⟩ := iN_ H
 have c4b0 := eq_true c4
 have c4b1 := decide_eq_true c4
 try have c4b2 : (9223372036854775807 < a0.size + t503.size) = False := eq_false (Nat.not_lt.2 c4)
 obtain ⟨⟨t504, t505⟩, A5, H⟩ := bN_ H
 obtain ⟨c6, H⟩ := iN_ H
 have c6b0 := eq_true c6
 have c6b1 := decide_eq_true c6
 clear c6
 obtain ⟨y506, hy506⟩ : ∃ y_ : List Int, y_ = (List.replicate 256 0) := ⟨_, rfl⟩
 first | replace H := yb_ hy506 H | rw [← hy506] at H
 have Ny506 := Aside0.mk hy506
 clear hy506
 have H' := Aside0.mk H
 clear H
 go_enter Tryd.func37, Tryd.ntmps37
 go_wp2_with (first | ((with_reducible refine gate_callee (f := 63) rfl ?_); refine goesL_ (some 13) rfl rfl Tryd.func63 (by kernel_rfl) rfl #[.int .i64 a1] rfl aM_ ?_; (with_reducible refine (impl_oneByte.calls a1 t503 _ A3.out).mono ?_); rintro e w7 ⟨rfl, hb⟩; refine ⟨_, rfl, ?_⟩; replace HB := Aside0.mk (below_step (hB_) hb); (try clear hb)) | ((with_reducible refine gate_callee (f := 62) rfl ?_); refine goesL_ (some 15) rfl rfl Tryd.func62 (by kernel_rfl) rfl #[.string (a0 ++ t503), .int .i64 128] rfl aM_ ?_; (with_reducible refine (impl_ShakeOf.calls k (a0 ++ t503) 128 t504 t505 _ A5.out).mono ?_); rintro e w8 ⟨rfl, hb⟩; refine ⟨_, rfl, ?_⟩; replace HB := Aside0.mk (below_step (hB_) hb); (try clear hb)) | ((with_reducible refine gate_dst (N := 18) rfl ?_); refine Kd.R_make (Kd.int .i64) _ 3 rfl (N := 18) rfl 31 _ _ rfl 256 rfl rfl Tryd.underlying31 (.int .i64 0) 8 info3 rfl (by decide) (by omega) 0 (ok := fun _ => True) (okp := fun _ => True) rfl (fun _ hk => hk) trivial (by omega) (by omega) (Below.refl _ _) (Nat.le_refl _) ?_; intro v507 w9 ho10 hb hg_ hnew_; clear hg_ hnew_; (first | rw [← Ny506.out] at ho10 | (simp only [Int.reduceToNat] at ho10; rw [← Ny506.out] at ho10)); have n_ := b_ (Kd.R_lower ho10 (below_size (hB_))) <| c_ (below_step (hB_) hb); clear HB; obtain ⟨HO508, HB⟩ := n_; clear hb ho10; obtain ⟨Ao11, co11, eo11⟩ := Kd.R_slice HO508.out; subst eo11))
 go_loopg [21] k (fun kq v21 w' => ∃ (x7_1 : List Int) (x21_1 : Int), v21 = .int .i64 x21_1 ∧ Aside0 (impl_Small.l0 kq t504 x7_1 (y506.length : Int) x21_1 = some r) ∧ Aside0 (kq ≤ k) ∧ Aside0 (Kd.R (Kd.int .i64) 3 w' w.heap.size (fun _ => True) (.slice Ao11 y506.length co11) x7_1) ∧ Aside0 (Below w.heap.size w w'))
 case atStart => exact ⟨(y506), (0), f0_, H', ⟨Nat.le_refl _⟩, ⟨rR_ HO508.out⟩, ⟨hB_⟩⟩
 case round =>
  clear H'
  obtain ⟨x7_1, x21_1, rfl, HA, HK1, HO_7, HB⟩ := hrel
  have hl7_1 := (Kd.R_reads' HO_7.out).1
  rw [hl7_1] at HO_7
  (try simp only [hl7_1])
  cases gk with
  | zero => exact absurd HA.out (by simp [impl_Small.l0])
  | succ k1 =>
   have H := HA.out
   clear HA
   simp only [impl_Small.l0] at H
   by_cases c12 : x21_1 < (y506.length : Int)
   rotate_left
   ·rw [if_neg c12] at H
    have c12b0 := decide_eq_false c12
    (try simp only [hl7_1] at c12b0)
    clear c12
    obtain rfl := Option.some.inj H
    go_wp2
    go_ret
    exact ⟨_, f1_, rR_ HO_7.out, hB_⟩
   rw [if_pos c12] at H
   have c12b0 := decide_eq_true c12
   (try simp only [hl7_1] at c12b0)
   clear c12
   obtain ⟨ji13, hji13⟩ : ∃ j_ : Int, (wrap64 (Int.tdiv x21_1 2)) = j_ := ⟨_, rfl⟩
   first | rw [hji13] at H | simp only [hji13] at H
   have hji13w : (IntKind.i64.wrap (Int.tdiv x21_1 2)) = ji13 := (i64_w _).trans hji13
   obtain ⟨c14b0, H⟩ := iD_ H
   obtain ⟨c15b0, H⟩ := iD_ H
   obtain ⟨ji17, hji17⟩ : ∃ j_ : Int, (wrap64 (4 * (Int.tmod x21_1 2))) = j_ := ⟨_, rfl⟩
   first | rw [hji17] at H | simp only [hji17] at H
   have hji17w : (IntKind.i64.wrap (4 * (Int.tmod x21_1 2))) = ji17 := (i64_w _).trans hji17
   obtain ⟨c18, H⟩ := iN_ H
   have c18b0 := eq_true c18
   have c18b1 := decide_eq_true c18
   clear c18
   obtain ⟨ji19, hji19⟩ : ∃ j_ : Int, (shr .u8 (bt t504 (ji13)) (ji17)) = j_ := ⟨_, rfl⟩
   first | rw [hji19] at H | simp only [hji19] at H
   have hji19_ : ((bt t504 (ji13)) / 2 ^ min (ji17).toNat 8) = ji19 := hji19
   have hji19z : (ji17) ≤ 8 → ((bt t504 (ji13)) / 2 ^ (ji17).toNat) = ji19 := shr_small hji19
   obtain ⟨t509, A20, H⟩ := bN_ H
   obtain ⟨c21b0, H⟩ := iD_ H
   obtain ⟨c22, H⟩ := iN_ H
   have c22b0 := decide_eq_true c22
   (try simp only [hl7_1] at c22b0)
   clear c22
   obtain ⟨y510, hy510⟩ : ∃ y_ : List Int, y_ = (x7_1.set (x21_1 : Int).toNat t509) := ⟨_, rfl⟩
   first | replace H := yb_ hy510 H | rw [← hy510] at H
   have Ny510 := Aside0.mk hy510
   clear hy510
   have H' := Aside0.mk H
   clear H
   have p16 := eq_true (oD_ : 0 ≤ ((ji13) : Int))
   have q16 := eq_true (oD_ : (ji13) < (t504.size : Int))
   have hx16 := bt_at t504 (ji13)
   go_wp2_with (first | ((with_reducible refine gate_callee (f := 61) rfl ?_); refine goesL_ (some 49) rfl rfl Tryd.func61 (by kernel_rfl) rfl #[.int .i64 (wrap64 ((wrap64 ((wrap64 ((Go.bits .and .i64 (wrap64 (ji19)) 1) + (Go.bits .and .i64 ((wrap64 (ji19)) / 2) 1))) - (Go.bits .and .i64 ((wrap64 (ji19)) / 4) 1))) - (Go.bits .and .i64 ((wrap64 (ji19)) / 8) 1)))] rfl (by (try simp only [List.map_toArray, List.map_cons, List.map_nil]); first | done | (simp only [hji19]; rfl) | rfl | (simp only [List.length_drop, List.length_take]; rfl)) ?_; (with_reducible refine (impl_modQ.calls (wrap64 ((wrap64 ((wrap64 ((Go.bits .and .i64 (wrap64 (ji19)) 1) + (Go.bits .and .i64 ((wrap64 (ji19)) / 2) 1))) - (Go.bits .and .i64 ((wrap64 (ji19)) / 4) 1))) - (Go.bits .and .i64 ((wrap64 (ji19)) / 8) 1))) t509 _ A20.out).mono ?_); rintro e w' ⟨rfl, ⟨nd, rfl⟩⟩; refine ⟨_, rfl, ?_⟩; (try (rw [drewN_self wr]; generalize hq_ : World.drewN wr _ = wr; have n_ := b_ (show Kd.R (Kd.int .i64) 3 wr w.heap.size (fun _ => True) (.slice Ao11 x7_1.length co11) x7_1 from by rw [← hq_]; exact (rR_ HO_7.out)) <| c_ (show Below w.heap.size w wr from by rw [← hq_]; exact (hB_)); clear HO_7 HB hq_; obtain ⟨HO_7, HB⟩ := n_)); have p23 : 0 ≤ (x21_1 : Int) := oD_; have q23 : (x21_1 : Int) < ((x7_1.length : Int) : Int) := oD_; obtain ⟨go23, co23, eo23, gb23, gl23, cl23, HG23⟩ := Kd.R_form HO_7.out (by omega); (first | cases eo23 | (injection eo23 with ea_ en_ ec_; (first | subst ea_ | (injection ea_ with ea_; subst ea_)); subst ec_; clear en_)); have GB23 := Aside0.mk gb23; have GG23 := Aside0.mk HG23; clear gb23 gl23 HG23; obtain ⟨hx23_0, hf23_0⟩ := Kd.R_celln 0 HO_7.out (x21_1 : Int) p23 q23; replace p23 := eq_true p23; replace q23 := eq_true q23; obtain ⟨hy24_, hz24_⟩ := Kd.R_celln 0 HO_7.out (x21_1 : Int) oD_ oD_; have HP24 := Kd.R_putg HO_7.out (x21_1 : Int) t509) | ((with_reducible refine gate_store (t := 3) (p := 50) rfl ?_); refine store_event (t := 3) (p := 50) (v := ?vo_w25) (w1 := (wr.setCell ⟨go23, (x21_1 : Int).toNat, none⟩ (.int .i64 t509))) ?hg ?ho ?hn ?hr ?_; (case ho => rfl); (case hg => rfl); (case hn => rfl); (case hr => first | (go_simp; done) | (go_simp; rfl)); intro w25 hw; have hg : wr.grownBy w25 (some go23) := (by rw [hw]; exact HP24.2); have hp_ : Kd.R (Kd.int .i64) 3 w25 w.heap.size (fun _ => True) (.slice (some ⟨go23, 0, none⟩) x7_1.length co11) y510 := (by rw [hw, Ny510.out]; exact HP24.1); clear HP24; have n_ := b_ (hp_) <| c_ (by rw [hw]; exact below_set (HB.out) GB23.out : Below w.heap.size w w25); clear HO_7 HB; obtain ⟨HO_7, HB⟩ := n_; clear hg hw hp_))
   (try simp only [← hl7_1])
   go_roundg k1
   case measure => have := HK1.out; omega
   case rel => exact ⟨(y510), (wrap64 (x21_1 + 1)), f0_, H', ⟨by have := HK1.out; omega⟩, ⟨by (try simp only [hl7_1]); refine kR_ ?_; exact HO_7.out⟩, ⟨hB_⟩⟩

/-! ### impl_smalls: function 16 -/
def impl_smalls.l0 : Nat → ByteArray → Int → List (List Int) → Int → Option ((List (List Int)))
 | 0, _, _, _, _ => none
 | k + 1, x0, x1, x5, x7 => if x7 < 2 then ((impl_Small.f k x0 (wrap64 (x1 + x7))).bind fun t511 => (if x5.length < 5864062014805 then (impl_smalls.l0 k x0 x1 (x5 ++ [t511]) (wrap64 (x7 + 1))) else (none))) else (some x5)
def impl_smalls.f (k : Nat) (a0 : ByteArray) (a1 : Int) : Option ((List (List Int))) := impl_smalls.l0 k a0 a1 ([] : List (List Int)) 0
theorem impl_smalls.mono_l : ∀ k, (∀ y0 y1 y2 y3, LeO (impl_smalls.l0 k y0 y1 y2 y3) (impl_smalls.l0 (k + 1) y0 y1 y2 y3))
 | 0 => fun _ _ _ _ r h => by simp [impl_smalls.l0] at h
 | k + 1 => by
  have ih0 := impl_smalls.mono_l k
  intros; unfold impl_smalls.l0; exact o2_ ih0 impl_Small.mono
theorem impl_smalls.mono : ∀ a0 a1 k, LeO (impl_smalls.f k a0 a1) (impl_smalls.f (k + 1) a0 a1) := by
 intro a0 a1 k
 have ih0 := impl_smalls.mono_l k
 unfold impl_smalls.f
 exact o2_ ih0 impl_Small.mono
theorem impl_smalls.calls (k : Nat) (a0 : ByteArray) (a1 : Int) (r : List (List Int)) (w : World) (h : impl_smalls.f k a0 a1 = some r) :
  Calls Tryd.prog 16 #[.string a0, .int .i64 a1] w fun e w' => ∃ v0_ : Value, e = .returned (v0_) ∧ Kd.S (Kd.slice 3 (Kd.int .i64)) 31 w' w.heap.size (fun _ => True) v0_ r ∧ Below w.heap.size w w' := by
 have HB := Aside0.mk (Below.refl w.heap.size w)
 delta impl_smalls.f at h
 have H := h
 clear h
 have H' := Aside0.mk H
 clear H
 go_enter Tryd.func16, Tryd.ntmps16
 go_wp2
 go_loopg [5, 7] k (fun kq v5 v7 w' => ∃ (x5_1 : List (List Int)) (x7_1 : Int), v7 = .int .i64 x7_1 ∧ Aside0 (impl_smalls.l0 kq a0 a1 x5_1 x7_1 = some r) ∧ Aside0 (kq ≤ k) ∧ Aside0 (Kd.S (Kd.slice 3 (Kd.int .i64)) 31 w' w.heap.size (fun _ => True) v5 x5_1) ∧ Aside0 (Below w.heap.size w w'))
 case atStart => exact ⟨(([] : List (List Int))), (0), f0_, H', ⟨Nat.le_refl _⟩, ⟨by first | exact Kd.S_nil _ _ _ _ _ | exact Kd.N_nil _ _ _ _ _ | exact Kd.V_nil _ _ _ _ _ | exact Kd.Q_nil _ _ _ _ _ | exact Kd.R_nil _ _ _ _ _⟩, ⟨hB_⟩⟩
 case round =>
  clear H'
  obtain ⟨x5_1, x7_1, rfl, HA, HK1, HO_5, HB⟩ := hrel
  cases gk with
  | zero => exact absurd HA.out (by simp [impl_smalls.l0])
  | succ k1 =>
   have H := HA.out
   clear HA
   simp only [impl_smalls.l0] at H
   by_cases c3 : x7_1 < 2
   ·rw [if_pos c3] at H
    have c3b0 := decide_eq_true c3
    clear c3
    obtain ⟨t511, A4, H⟩ := bN_ H
    obtain ⟨c5, H⟩ := iN_ H
    have LMc5 := Aside0.mk c5
    clear c5
    obtain ⟨y514, hy514⟩ : ∃ y_ : List (List Int), y_ = (x5_1 ++ [t511]) := ⟨_, rfl⟩
    first | replace H := yb_ hy514 H | rw [← hy514] at H
    have Ny514 := Aside0.mk hy514
    clear hy514
    have H' := Aside0.mk H
    clear H
    go_wp2_with (first | ((with_reducible refine gate_callee (f := 37) rfl ?_); refine goesL_ (some 15) rfl rfl Tryd.func37 (by kernel_rfl) rfl #[.string a0, .int .i64 (wrap64 (a1 + x7_1))] rfl aM_ ?_; (with_reducible refine (impl_Small.calls k1 a0 (wrap64 (a1 + x7_1)) t511 _ A4.out).mono ?_); rintro e w6 ⟨v512, rfl, ho0, hb⟩; refine ⟨_, rfl, ?_⟩; have n_ := b_ (Kd.S_elder' (rS_ HO_5.out) (Kd.R_base ho0) hb) <| b_ (Kd.R_lower ho0 (below_size (hB_))) <| c_ (below_step (hB_) hb); clear HO_5 HB; obtain ⟨HO_5, HO513, HB⟩ := n_; obtain ⟨Ao8, co8, eo8⟩ := Kd.R_slice HO513.out; subst eo8) | ((with_reducible refine gate_builtin (b := .append) (xs := #[.tmp 10, .tmp 16]) rfl ?_); at_builtin; refine Kd.S_append (Kd.slice 3 (Kd.int .i64)) (w0 := w) w.heap.size rfl (.tmp 10) (.tmp 16) 29 31 (.slice none 0 0) 24 rfl Tryd.underlying29 info31 rfl (by decide) (by omega) u5 x5_1 t511 [.slice Ao8 t511.length co8] (fun _ => True) (fun k_ => some k_ = (.slice Ao8 t511.length co8 : Value).ownBlock) rfl rfl ?aP (fun k_ hk_ => ((Kd.R_mono (ok' := fun k_ => ((fun _ => True)) k_ ∧ some k_ ≠ (u5 : Value).ownBlock) (Kd.R_apart' (HO513.out) (Kd.S_typed HO_5.out) (by decide)) (fun k_ hk => ⟨trivial, hk.2⟩))).1 k_ hk_.symm) ?aF ?aO ?aB ?aS ?aL ?_; (case aP => exact Kd.M_row (Kd.R_mono (Kd.R_tight rfl (Kd.R_mono (ok' := fun k_ => ((fun _ => True)) k_ ∧ some k_ ≠ (u5 : Value).ownBlock) (Kd.R_apart' (HO513.out) (Kd.S_typed HO_5.out) (by decide)) (fun k_ hk => ⟨trivial, hk.2⟩))) (fun _ h_ => h_))); (case aB => exact (hB_)); (case aF => exact (fun _ _ => trivial)); (case aO => exact (by refine kS_ ?_; exact Kd.S_mono HO_5.out (fun k_ hk => ⟨trivial, fun e_ => hk.2 e_⟩))); (case aS => exact (below_size (hB_))); (case aL => have := LMc5.out; omega); intro v515 w7 ho hb hg hat; rw [← Ny514.out] at ho; have n_ := b_ (hb) <| c_ (ho); clear HO_5 HO513 HB; obtain ⟨HB, HO516⟩ := n_; clear ho hb hg hat))
    go_roundg k1
    case measure => have := HK1.out; omega
    case rel => exact ⟨(y514), (wrap64 (x7_1 + 1)), f0_, H', ⟨by have := HK1.out; omega⟩, ⟨rS_ HO516.out⟩, ⟨hB_⟩⟩
   rw [if_neg c3] at H
   have c3b0 := decide_eq_false c3
   clear c3
   obtain rfl := Option.some.inj H
   go_wp2
   go_ret
   exact ⟨_, f1_, by refine kS_ ?_; exact HO_5.out, hB_⟩

/-! ### impl_Uniform: function 43 -/
mutual
def impl_Uniform.l0 : Nat → List Int → Int → Int → ByteArray → Int → Option (List Int)
 | 0, _, _, _, _, _ => none
 | k + 1, x8, x9, x10, x569000, x569001 => if x10 < 4000 then (impl_Uniform.j1 k x8 x9 x10 (decide (x9 < 256)) x569000 x569001) else (impl_Uniform.j1 k x8 x9 x10 false x569000 x569001)
def impl_Uniform.j1 : Nat → List Int → Int → Int → Bool → ByteArray → Int → Option (List Int)
 | 0, _, _, _, _, _, _ => none
 | k + 1, x8, x9, x10, x32, x569000, x569001 => if x32 = true then ((impl_StreamTake.f k x569000 x569001 3).bind fun bt572 => (if 0 < (bt572.2.2.size : Int) then (if 1 < (bt572.2.2.size : Int) then (if 2 < (bt572.2.2.size : Int) then ((some (([wrap64 ((wrap64 (bt bt572.2.2 0)) + (wrap64 ((Int.tmod (wrap64 (bt bt572.2.2 1)) 16) * 256))), wrap64 ((wrap64 (Int.tdiv (wrap64 (bt bt572.2.2 1)) 16)) + (wrap64 (16 * (wrap64 (bt bt572.2.2 2)))))] : List Int) : List Int)).bind fun y576 => (impl_Uniform.l1 k x8 x9 x10 y576 (y576.length : Int) 0 bt572.1 bt572.2.1)) else (none)) else (none)) else (none))) else (some x8)
def impl_Uniform.l1 : Nat → List Int → Int → Int → List Int → Int → Int → ByteArray → Int → Option (List Int)
 | 0, _, _, _, _, _, _, _, _ => none
 | k + 1, x8, x9, x10, x60, x61, x62, x569000, x569001 => if x62 < x61 then (if 0 ≤ x62 then (if x62 < (x60.length : Int) then (if (rd x60 x62) < 3329 then (if x9 < 256 then (if 0 ≤ x9 then (if x9 < (x8.length : Int) then (impl_Uniform.l1 k (x8.set (x9 : Int).toNat (rd x60 x62)) (wrap64 (x9 + 1)) x10 x60 x61 (wrap64 (x62 + 1)) x569000 x569001) else (none)) else (none)) else (impl_Uniform.l1 k x8 x9 x10 x60 x61 (wrap64 (x62 + 1)) x569000 x569001)) else (impl_Uniform.l1 k x8 x9 x10 x60 x61 (wrap64 (x62 + 1)) x569000 x569001)) else (none)) else (none)) else (impl_Uniform.l0 k x8 x9 (wrap64 (x10 + 1)) x569000 x569001)
end
def impl_Uniform.f (k : Nat) (a0 : ByteArray) (a1 : Int) (a2 : Int) : Option (List Int) := (impl_oneByte.f a1).bind fun t564 => (if a0.size + t564.size ≤ 9223372036854775807 then ((impl_oneByte.f a2).bind fun t565 => (if (a0 ++ t564).size + t565.size ≤ 9223372036854775807 then ((impl_StreamNew.f k ((a0 ++ t564) ++ t565)).bind fun bt566 => (if 256 ≤ 35184372088832 then (impl_Uniform.l0 k (List.replicate 256 0) 0 0 bt566.1 bt566.2) else (none))) else (none))) else (none))
theorem impl_Uniform.mono_l : ∀ k, (∀ y0 y1 y2 y3 y4, LeO (impl_Uniform.l0 k y0 y1 y2 y3 y4) (impl_Uniform.l0 (k + 1) y0 y1 y2 y3 y4)) ∧ (∀ y0 y1 y2 y3 y4 y5, LeO (impl_Uniform.j1 k y0 y1 y2 y3 y4 y5) (impl_Uniform.j1 (k + 1) y0 y1 y2 y3 y4 y5)) ∧ (∀ y0 y1 y2 y3 y4 y5 y6 y7, LeO (impl_Uniform.l1 k y0 y1 y2 y3 y4 y5 y6 y7) (impl_Uniform.l1 (k + 1) y0 y1 y2 y3 y4 y5 y6 y7))
 | 0 => ⟨fun _ _ _ _ _ r h => by simp [impl_Uniform.l0] at h, fun _ _ _ _ _ _ r h => by simp [impl_Uniform.j1] at h, fun _ _ _ _ _ _ _ _ r h => by simp [impl_Uniform.l1] at h⟩
 | k + 1 => by
  obtain ⟨ih0, ih1, ih2⟩ := impl_Uniform.mono_l k
  refine ⟨?_, ?_, ?_⟩ <;> (intros; (first | unfold impl_Uniform.l0 | unfold impl_Uniform.j1 | unfold impl_Uniform.l1); exact o5_ ih0 ih1 ih2 impl_StreamNew.mono impl_StreamTake.mono)
theorem impl_Uniform.mono : ∀ a0 a1 a2 k, LeO (impl_Uniform.f k a0 a1 a2) (impl_Uniform.f (k + 1) a0 a1 a2) := by
 intro a0 a1 a2 k
 obtain ⟨ih0, ih1, ih2⟩ := impl_Uniform.mono_l k
 unfold impl_Uniform.f
 exact o5_ ih0 ih1 ih2 impl_StreamNew.mono impl_StreamTake.mono
theorem impl_Uniform.calls (k : Nat) (a0 : ByteArray) (a1 : Int) (a2 : Int) (r : List Int) (w : World) (h : impl_Uniform.f k a0 a1 a2 = some r) :
  Calls Tryd.prog 43 #[.string a0, .int .i64 a1, .int .i64 a2] w fun e w' => ∃ v0_ : Value, e = .returned (v0_) ∧ Kd.R (Kd.int .i64) 3 w' w.heap.size (fun _ => True) v0_ r ∧ Below w.heap.size w w' := by
 have hu69 := Tryd.underlying69
 have HB := Aside0.mk (Below.refl w.heap.size w)
 delta impl_Uniform.f at h
 have H := h
 clear h
 obtain ⟨t564, A4, H⟩ := bN_ H
 obtain ⟨c5, H⟩ := iN_ H
 have c5b0 := eq_true c5
 have c5b1 := decide_eq_true c5
 try have c5b2 : (9223372036854775807 < a0.size + t564.size) = False := eq_false (Nat.not_lt.2 c5)
 obtain ⟨t565, A6, H⟩ := bN_ H
 obtain ⟨c7, H⟩ := iN_ H
 have c7b0 := eq_true c7
 have c7b1 := decide_eq_true c7
 try have c7b2 : (9223372036854775807 < (a0 ++ t564).size + t565.size) = False := eq_false (Nat.not_lt.2 c7)
 try (have c7b9 : (9223372036854775807 < (a0 ++ t564).size + t565.size) = False := c7b2; simp only [ByteArray.size_append] at c7b9)
 obtain ⟨⟨t566, t567⟩, A8, H⟩ := bN_ H
 try dsimp only at H
 obtain ⟨c9, H⟩ := iN_ H
 have c9b0 := eq_true c9
 have c9b1 := decide_eq_true c9
 clear c9
 obtain ⟨y569, hy569⟩ : ∃ y_ : List Int, y_ = (List.replicate 256 0) := ⟨_, rfl⟩
 first | replace H := yb_ hy569 H | rw [← hy569] at H
 have Ny569 := Aside0.mk hy569
 clear hy569
 have H' := Aside0.mk H
 clear H
 go_enter Tryd.func43, Tryd.ntmps43
 go_wp2_with (first | (go_at_call 63; (with_reducible refine (impl_oneByte.calls a1 t564 _ A4.out).mono ?_); rintro e w10 ⟨rfl, hb⟩; replace HB := Aside0.mk (below_step (hB_) hb); (try clear hb)) | (go_at_call 63; (with_reducible refine (impl_oneByte.calls a2 t565 _ A6.out).mono ?_); rintro e w11 ⟨rfl, hb⟩; replace HB := Aside0.mk (below_step (hB_) hb); (try clear hb)) | (go_at_call 65; (with_reducible refine (impl_StreamNew.calls k ((a0 ++ t564) ++ t565) t566 t567 _ A8.out).mono ?_); rintro e w12 ⟨rfl, hb⟩; replace HB := Aside0.mk (below_step (hB_) hb); (try clear hb)) | ((with_reducible refine gate_dst (N := 7) rfl ?_); refine box_event ?hg (N := 7) ?hd (cs := #[.string (⟨#[]⟩ : ByteArray), .int .i64 0]) (t := 69) ?hr ?_; (case hd => rfl); (case hg => rfl); (case hr => first | (go_simp; done) | (go_simp; rfl)); intro gb568 hg w13 hbox hb; have n_ := b_ (below_step (hB_) hb) <| b_ (hbox) <| b_ (by rw [hg]; exact (below_size (hB_)) : w.heap.size ≤ gb568) <| c_ (by rw [hg]; exact (below_size (hB_)) : w.heap.size ≤ gb568); clear HB; obtain ⟨HB, BK568, GW568, GE568⟩ := n_; clear hb hbox hg; have hcz14_0 : w13.cell? ⟨gb568, 0, none⟩ = some (.string (⟨#[]⟩ : ByteArray)) := (blk_cell BK568.out 0).trans rfl; have hcz14_1 : w13.cell? ⟨gb568, 1, none⟩ = some (.int .i64 0) := (blk_cell BK568.out 1).trans rfl; have hfz14_0 := blk_frozen BK568.out 0; have hfz14_1 := blk_frozen BK568.out 1) | ((with_reducible refine gate_dst (N := 26) rfl ?_); refine Kd.R_make (Kd.int .i64) _ 3 rfl (N := 26) rfl 31 _ _ rfl 256 rfl rfl Tryd.underlying31 (.int .i64 0) 8 info3 rfl (by decide) (by omega) 0 (ok := fun _ => True) (okp := fun _ => True) rfl (fun _ hk => hk) trivial (by omega) (by omega) (Below.refl _ _) (Nat.le_refl _) ?_; intro v570 w15 ho16 hb hg_ hnew_; clear hg_ hnew_; (first | rw [← Ny569.out] at ho16 | (simp only [Int.reduceToNat] at ho16; rw [← Ny569.out] at ho16)); have n_ := b_ (Kd.R_lower ho16 (below_size (hS_ GE568.out))) <| b_ (blk_below (g := gb568) (o := .cells #[.string t566, .int .i64 t567] 69 (0, 0)) (by refine kK_ ?_; refine blk_put (cs := #[.string t566, .int .i64 0]) ?_ 1 _ rfl; refine kK_ ?_; refine blk_put (cs := #[.string (⟨#[]⟩ : ByteArray), .int .i64 0]) ?_ 0 _ rfl; exact rK_ BK568.out) hb) <| c_ (below_step (hS_ GE568.out) hb); clear BK568 HB; obtain ⟨HO571, BK568, HB⟩ := n_; clear hb ho16))
 repeat (go_quiet (first | (go_at_call 63; (with_reducible refine (impl_oneByte.calls a1 t564 _ A4.out).mono ?_); rintro e w10 ⟨rfl, hb⟩; replace HB := Aside0.mk (below_step (hB_) hb); (try clear hb)) | (go_at_call 63; (with_reducible refine (impl_oneByte.calls a2 t565 _ A6.out).mono ?_); rintro e w11 ⟨rfl, hb⟩; replace HB := Aside0.mk (below_step (hB_) hb); (try clear hb)) | (go_at_call 65; (with_reducible refine (impl_StreamNew.calls k ((a0 ++ t564) ++ t565) t566 t567 _ A8.out).mono ?_); rintro e w12 ⟨rfl, hb⟩; replace HB := Aside0.mk (below_step (hB_) hb); (try clear hb)) | ((with_reducible refine gate_dst (N := 7) rfl ?_); refine box_event ?hg (N := 7) ?hd (cs := #[.string (⟨#[]⟩ : ByteArray), .int .i64 0]) (t := 69) ?hr ?_; (case hd => rfl); (case hg => rfl); (case hr => first | (go_simp; done) | (go_simp; rfl)); intro gb568 hg w13 hbox hb; have n_ := b_ (below_step (hB_) hb) <| b_ (hbox) <| b_ (by rw [hg]; exact (below_size (hB_)) : w.heap.size ≤ gb568) <| c_ (by rw [hg]; exact (below_size (hB_)) : w.heap.size ≤ gb568); clear HB; obtain ⟨HB, BK568, GW568, GE568⟩ := n_; clear hb hbox hg; have hcz14_0 : w13.cell? ⟨gb568, 0, none⟩ = some (.string (⟨#[]⟩ : ByteArray)) := (blk_cell BK568.out 0).trans rfl; have hcz14_1 : w13.cell? ⟨gb568, 1, none⟩ = some (.int .i64 0) := (blk_cell BK568.out 1).trans rfl; have hfz14_0 := blk_frozen BK568.out 0; have hfz14_1 := blk_frozen BK568.out 1) | ((with_reducible refine gate_dst (N := 26) rfl ?_); refine Kd.R_make (Kd.int .i64) _ 3 rfl (N := 26) rfl 31 _ _ rfl 256 rfl rfl Tryd.underlying31 (.int .i64 0) 8 info3 rfl (by decide) (by omega) 0 (ok := fun _ => True) (okp := fun _ => True) rfl (fun _ hk => hk) trivial (by omega) (by omega) (Below.refl _ _) (Nat.le_refl _) ?_; intro v570 w15 ho16 hb hg_ hnew_; clear hg_ hnew_; (first | rw [← Ny569.out] at ho16 | (simp only [Int.reduceToNat] at ho16; rw [← Ny569.out] at ho16)); have n_ := b_ (Kd.R_lower ho16 (below_size (hS_ GE568.out))) <| b_ (blk_below (g := gb568) (o := .cells #[.string t566, .int .i64 t567] 69 (0, 0)) (by refine kK_ ?_; refine blk_put (cs := #[.string t566, .int .i64 0]) ?_ 1 _ rfl; refine kK_ ?_; refine blk_put (cs := #[.string (⟨#[]⟩ : ByteArray), .int .i64 0]) ?_ 0 _ rfl; exact rK_ BK568.out) hb) <| c_ (below_step (hS_ GE568.out) hb); clear BK568 HB; obtain ⟨HO571, BK568, HB⟩ := n_; clear hb ho16)); try go_wp2_with (first | (go_at_call 63; (with_reducible refine (impl_oneByte.calls a1 t564 _ A4.out).mono ?_); rintro e w10 ⟨rfl, hb⟩; replace HB := Aside0.mk (below_step (hB_) hb); (try clear hb)) | (go_at_call 63; (with_reducible refine (impl_oneByte.calls a2 t565 _ A6.out).mono ?_); rintro e w11 ⟨rfl, hb⟩; replace HB := Aside0.mk (below_step (hB_) hb); (try clear hb)) | (go_at_call 65; (with_reducible refine (impl_StreamNew.calls k ((a0 ++ t564) ++ t565) t566 t567 _ A8.out).mono ?_); rintro e w12 ⟨rfl, hb⟩; replace HB := Aside0.mk (below_step (hB_) hb); (try clear hb)) | ((with_reducible refine gate_dst (N := 7) rfl ?_); refine box_event ?hg (N := 7) ?hd (cs := #[.string (⟨#[]⟩ : ByteArray), .int .i64 0]) (t := 69) ?hr ?_; (case hd => rfl); (case hg => rfl); (case hr => first | (go_simp; done) | (go_simp; rfl)); intro gb568 hg w13 hbox hb; have n_ := b_ (below_step (hB_) hb) <| b_ (hbox) <| b_ (by rw [hg]; exact (below_size (hB_)) : w.heap.size ≤ gb568) <| c_ (by rw [hg]; exact (below_size (hB_)) : w.heap.size ≤ gb568); clear HB; obtain ⟨HB, BK568, GW568, GE568⟩ := n_; clear hb hbox hg; have hcz14_0 : w13.cell? ⟨gb568, 0, none⟩ = some (.string (⟨#[]⟩ : ByteArray)) := (blk_cell BK568.out 0).trans rfl; have hcz14_1 : w13.cell? ⟨gb568, 1, none⟩ = some (.int .i64 0) := (blk_cell BK568.out 1).trans rfl; have hfz14_0 := blk_frozen BK568.out 0; have hfz14_1 := blk_frozen BK568.out 1) | ((with_reducible refine gate_dst (N := 26) rfl ?_); refine Kd.R_make (Kd.int .i64) _ 3 rfl (N := 26) rfl 31 _ _ rfl 256 rfl rfl Tryd.underlying31 (.int .i64 0) 8 info3 rfl (by decide) (by omega) 0 (ok := fun _ => True) (okp := fun _ => True) rfl (fun _ hk => hk) trivial (by omega) (by omega) (Below.refl _ _) (Nat.le_refl _) ?_; intro v570 w15 ho16 hb hg_ hnew_; clear hg_ hnew_; (first | rw [← Ny569.out] at ho16 | (simp only [Int.reduceToNat] at ho16; rw [← Ny569.out] at ho16)); have n_ := b_ (Kd.R_lower ho16 (below_size (hS_ GE568.out))) <| b_ (blk_below (g := gb568) (o := .cells #[.string t566, .int .i64 t567] 69 (0, 0)) (by refine kK_ ?_; refine blk_put (cs := #[.string t566, .int .i64 0]) ?_ 1 _ rfl; refine kK_ ?_; refine blk_put (cs := #[.string (⟨#[]⟩ : ByteArray), .int .i64 0]) ?_ 0 _ rfl; exact rK_ BK568.out) hb) <| c_ (below_step (hS_ GE568.out) hb); clear BK568 HB; obtain ⟨HO571, BK568, HB⟩ := n_; clear hb ho16)))
 go_loopg [9, 10] k (fun kq v9 v10 w' => ∃ (x8_1 : List Int) (x9_1 : Int) (x10_1 : Int) (x569000_1 : ByteArray) (x569001_1 : Int), v9 = .int .i64 x9_1 ∧ v10 = .int .i64 x10_1 ∧ Aside0 (impl_Uniform.l0 kq x8_1 x9_1 x10_1 x569000_1 x569001_1 = some r) ∧ Aside0 (kq ≤ k) ∧ Aside0 (Kd.R (Kd.int .i64) 3 w' w.heap.size (fun _ => True) v570 x8_1) ∧ Aside0 (w'.heap[gb568]? = some (.cells #[.string x569000_1, .int .i64 x569001_1] 69 (0, 0))) ∧ Aside0 (Below w.heap.size w w'))
 case atStart => exact ⟨(y569), (0), (0), (t566), (t567), f0_, f0_, H', ⟨Nat.le_refl _⟩, ⟨rR_ HO571.out⟩, ⟨by refine kK_ ?_; exact BK568.out⟩, ⟨hS_ GE568.out⟩⟩
 case round =>
  clear H'
  obtain ⟨x8_1, x9_1, x10_1, x569000_1, x569001_1, rfl, rfl, HA, HK1, HO_8, BK568, HB⟩ := hrel
  cases gk with
  | zero => exact absurd HA.out (by simp [impl_Uniform.l0])
  | succ k1 =>
   have H := HA.out
   clear HA
   simp only [impl_Uniform.l0] at H
   have HC17 := Aside0.mk H
   clear H
   go_upto_region 5 with (fail)
   repeat (go_quiet (fail); go_upto_region 5 with (fail))
   go_cut [32] (fun v32 wc => ∃ (kq : Nat) (x32_16 : Bool), v32 = .bool x32_16 ∧ Aside0 (impl_Uniform.j1 kq x8_1 x9_1 x10_1 x32_16 x569000_1 x569001_1 = some r) ∧ Aside0 (kq ≤ k1) ∧ Aside0 (Kd.R (Kd.int .i64) 3 wc w.heap.size (fun _ => True) v570 x8_1) ∧ Aside0 (wc.heap[gb568]? = some (.cells #[.string x569000_1, .int .i64 x569001_1] 69 (0, 0))) ∧ Aside0 (Below w.heap.size w wc))
   case first =>
    have H := HC17.out
    clear HC17
    by_cases c18 : x10_1 < 4000
    ·rw [if_pos c18] at H
     have c18b0 := decide_eq_true c18
     clear c18
     (first | rw [c18b0] | (simp only [i64_w, i32_w]; rw [c18b0]) | skip)
     have H' := Aside0.mk H
     clear H
     go_wp2
     repeat (go_quiet (fail); try go_wp2)
     go_meet
     case rel => exact ⟨_, (decide (x9_1 < 256)), f0_, H', ⟨by have := HK1.out; first | omega | exact Nat.le_refl _⟩, ⟨rR_ HO_8.out⟩, ⟨by refine kK_ ?_; exact BK568.out⟩, ⟨hS_ GE568.out⟩⟩
    rw [if_neg c18] at H
    have c18b0 := decide_eq_false c18
    clear c18
    (first | rw [c18b0] | (simp only [i64_w, i32_w]; rw [c18b0]) | skip)
    have H' := Aside0.mk H
    clear H
    go_wp2
    repeat (go_quiet (fail); try go_wp2)
    go_meet
    case rel => exact ⟨_, (false), f0_, H', ⟨by have := HK1.out; first | omega | exact Nat.le_refl _⟩, ⟨rR_ HO_8.out⟩, ⟨by refine kK_ ?_; exact BK568.out⟩, ⟨hS_ GE568.out⟩⟩
   case rest =>
    clear HC17
    obtain ⟨kq, x32_16, rfl, HA, HJ16, HO_8, BK568, HB⟩ := hcut
    cases kq with
    | zero => exact absurd HA.out (by simp [impl_Uniform.j1])
    | succ kj16 =>
     have H := HA.out
     clear HA
     simp only [impl_Uniform.j1] at H
     by_cases c19 : x32_16 = true
     ·subst c19
      replace H := iT_ H
      obtain ⟨⟨t572, t573, t574⟩, A20, H⟩ := bN_ H
      try dsimp only at H
      obtain ⟨c21, H⟩ := iN_ H
      have c21b0 := decide_eq_true c21
      have c21b1 : decide (0 < t574.size) = true := decide_eq_true (by omega)
      clear c21
      obtain ⟨c23, H⟩ := iN_ H
      have c23b0 := decide_eq_true c23
      have c23b1 : decide (1 < t574.size) = true := decide_eq_true (by omega)
      clear c23
      obtain ⟨c25, H⟩ := iN_ H
      have c25b0 := decide_eq_true c25
      have c25b1 : decide (2 < t574.size) = true := decide_eq_true (by omega)
      clear c25
      obtain ⟨y576, hy576⟩ : ∃ y_ : List Int, y_ = (([wrap64 ((wrap64 (bt t574 0)) + (wrap64 ((Int.tmod (wrap64 (bt t574 1)) 16) * 256))), wrap64 ((wrap64 (Int.tdiv (wrap64 (bt t574 1)) 16)) + (wrap64 (16 * (wrap64 (bt t574 2)))))] : List Int)) := ⟨_, rfl⟩
      first | replace H := yb_ hy576 H | rw [← hy576] at H
      have Ny576 := Aside0.mk hy576
      clear hy576
      have H' := Aside0.mk H
      clear H
      have hcz27_0 : wc.cell? ⟨gb568, 0, none⟩ = some (.string x569000_1) := (blk_cell BK568.out 0).trans rfl
      have hcz27_1 : wc.cell? ⟨gb568, 1, none⟩ = some (.int .i64 x569001_1) := (blk_cell BK568.out 1).trans rfl
      have hfz27_0 := blk_frozen BK568.out 0
      have hfz27_1 := blk_frozen BK568.out 1
      go_wp2_with (first | (go_at_call 66; (with_reducible refine (impl_StreamTake.calls kj16 x569000_1 x569001_1 3 t572 t573 t574 _ A20.out).mono ?_); rintro e w28 ⟨rfl, hb⟩; have n_ := b_ (Kd.R_below (rR_ HO_8.out) hb) <| b_ (blk_below (g := gb568) (o := .cells #[.string x569000_1, .int .i64 x569001_1] 69 (0, 0)) (rK_ BK568.out) hb) <| c_ (below_step (hS_ GE568.out) hb); clear HO_8 BK568 HB; obtain ⟨HO_8, BK568, HB⟩ := n_; (try clear hb)) | ((with_reducible refine gate_dst (N := 11) rfl ?_); refine box_event ?hg (N := 11) ?hd (cs := #[.string (⟨#[]⟩ : ByteArray), .int .i64 0]) (t := 69) ?hr ?_; (case hd => rfl); (case hg => rfl); (case hr => first | (go_simp; done) | (go_simp; rfl)); intro gb575 hg w29 hbox hb; have n_ := b_ (Kd.R_below (rR_ HO_8.out) hb) <| b_ (blk_below (g := gb568) (o := .cells #[.string x569000_1, .int .i64 x569001_1] 69 (0, 0)) (rK_ BK568.out) hb) <| b_ (below_step (hS_ GE568.out) hb) <| b_ (hbox) <| b_ (by rw [hg]; exact (below_size (hS_ GE568.out)) : w.heap.size ≤ gb575) <| b_ (by rw [hg]; exact (below_size (hS_ GE568.out)) : w.heap.size ≤ gb575) <| b_ (by rw [hg]; exact Nat.ne_of_lt (blk_lt (g := gb568) (o := .cells #[.string x569000_1, .int .i64 x569001_1] 69 (0, 0)) (rK_ BK568.out)) : gb568 ≠ gb575) <| c_ (by rw [hg]; exact Nat.ne_of_gt (blk_lt (g := gb568) (o := .cells #[.string x569000_1, .int .i64 x569001_1] 69 (0, 0)) (rK_ BK568.out)) : gb575 ≠ gb568); clear HO_8 BK568 HB; obtain ⟨HO_8, BK568, HB, BK575, GW575, GE575, NB568_575, NB575_568⟩ := n_; clear hb hbox hg; have hnb30 := NB575_568.out; have hnc30 := NB568_575.out; have hcz31_0 : w29.cell? ⟨gb575, 0, none⟩ = some (.string (⟨#[]⟩ : ByteArray)) := (blk_cell BK575.out 0).trans rfl; have hcz31_1 : w29.cell? ⟨gb575, 1, none⟩ = some (.int .i64 0) := (blk_cell BK575.out 1).trans rfl; have hfz31_0 := blk_frozen BK575.out 0; have hfz31_1 := blk_frozen BK575.out 1; have hcz32_0 : w29.cell? ⟨gb568, 0, none⟩ = some (.string x569000_1) := (blk_cell BK568.out 0).trans rfl; have hcz32_1 : w29.cell? ⟨gb568, 1, none⟩ = some (.int .i64 x569001_1) := (blk_cell BK568.out 1).trans rfl; have hfz32_0 := blk_frozen BK568.out 0; have hfz32_1 := blk_frozen BK568.out 1; have p22 : 0 ≤ (0 : Int) := (by omega); have q22 : 0 < t574.size := (by have : (0 : Int) < (t574.size : Int) := oD_; omega); have hx22 : ∀ h : 0 < t574.size, ((t574[0]'h).toNat : Int) = bt t574 0 := bt_at t574 0; clear p22; have qi22 : (0 < (t574.size : Int)) = True := eq_true oD_; replace q22 := eq_true q22; have p24 : 0 ≤ (1 : Int) := (by omega); have q24 : 1 < t574.size := (by have : (1 : Int) < (t574.size : Int) := oD_; omega); have hx24 : ∀ h : 1 < t574.size, ((t574[1]'h).toNat : Int) = bt t574 1 := bt_at t574 1; clear p24; have qi24 : (1 < (t574.size : Int)) = True := eq_true oD_; replace q24 := eq_true q24; have p26 : 0 ≤ (2 : Int) := (by omega); have q26 : 2 < t574.size := (by have : (2 : Int) < (t574.size : Int) := oD_; omega); have hx26 : ∀ h : 2 < t574.size, ((t574[2]'h).toNat : Int) = bt t574 2 := bt_at t574 2; clear p26; have qi26 : (2 < (t574.size : Int)) = True := eq_true oD_; replace q26 := eq_true q26) | ((with_reducible refine gate_dst (N := 60) rfl ?_); refine Kd.R_lit (Kd.int .i64) _ 3 ?hg (N := 60) ?hd (xs := ([wrap64 ((wrap64 (bt t574 0)) + (wrap64 ((Int.tmod (wrap64 (bt t574 1)) 16) * 256))), wrap64 ((wrap64 (Int.tdiv (wrap64 (bt t574 1)) 16)) + (wrap64 (16 * (wrap64 (bt t574 2)))))] : List Int)) (inner := [.int .i64 (wrap64 ((wrap64 (bt t574 0)) + (wrap64 ((Int.tmod (wrap64 (bt t574 1)) 16) * 256)))), .int .i64 (wrap64 ((wrap64 (Int.tdiv (wrap64 (bt t574 1)) 16)) + (wrap64 (16 * (wrap64 (bt t574 2))))))]) (ok := fun _ => True) (okp := fun _ => True) ?hr ?hp (fun _ hk => hk) trivial (Below.refl _ _) (Nat.le_refl _) (by simp) ?_; (case hd => rfl); (case hg => rfl); (case hr => first | (go_simp; done) | (go_simp; rfl)); (case hp => exact (Reps.one (show Kd.M (Kd.int .i64) _ _ _ (wrap64 ((wrap64 (bt t574 0)) + (wrap64 ((Int.tmod (wrap64 (bt t574 1)) 16) * 256)))) [.int .i64 (wrap64 ((wrap64 (bt t574 0)) + (wrap64 ((Int.tmod (wrap64 (bt t574 1)) 16) * 256))))] from rfl) (Reps.one (show Kd.M (Kd.int .i64) _ _ _ (wrap64 ((wrap64 (Int.tdiv (wrap64 (bt t574 1)) 16)) + (wrap64 (16 * (wrap64 (bt t574 2)))))) [.int .i64 (wrap64 ((wrap64 (Int.tdiv (wrap64 (bt t574 1)) 16)) + (wrap64 (16 * (wrap64 (bt t574 2))))))] from rfl) (Reps.none _ _)))); intro v577 w33 ho34 hb hg_ hnew_; clear hg_ hnew_; (first | rw [← Ny576.out] at ho34 | (simp only [Int.reduceToNat] at ho34; rw [← Ny576.out] at ho34)); have n_ := b_ (Kd.R_elder' (by refine kR_ ?_; exact (Kd.R_mono (Kd.R_mono (Kd.R_far (Kd.R_far (Kd.R_far (Kd.R_far (Kd.R_types (Kd.R_types HO_8.out BK575.out (by decide)) BK568.out (by decide)) (fun _ hk => hk.1.2) (.string t572)) (fun _ hk => hk.1.2) (.int .i64 t573)) (fun _ hk => hk.2) _) (fun _ hk => hk.2) _) (fun _ h_ => h_.1)) (fun _ h_ => h_.1))) (Kd.R_base ho34) hb) <| b_ (Kd.R_lower (Kd.R_new' ho34 (Kd.R_lt (by refine kR_ ?_; exact (Kd.R_mono (Kd.R_mono (Kd.R_far (Kd.R_far (Kd.R_far (Kd.R_far (Kd.R_types (Kd.R_types HO_8.out BK575.out (by decide)) BK568.out (by decide)) (fun _ hk => hk.1.2) (.string t572)) (fun _ hk => hk.1.2) (.int .i64 t573)) (fun _ hk => hk.2) _) (fun _ hk => hk.2) _) (fun _ h_ => h_.1)) (fun _ h_ => h_.1))))) (below_size ((u0_ GE568.out GE575.out)))) <| b_ (blk_below (g := gb568) (o := .cells #[.string t572, .int .i64 t573] 69 (0, 0)) (by refine kK_ ?_; refine blk_put (cs := #[.string t572, .int .i64 x569001_1]) ?_ 1 _ rfl; refine kK_ ?_; refine blk_put (cs := #[.string x569000_1, .int .i64 x569001_1]) ?_ 0 _ rfl; refine kK_ ?_; refine blk_far ?_ NB568_575.out _; refine kK_ ?_; refine blk_far ?_ NB568_575.out _; exact rK_ BK568.out) hb) <| b_ (blk_below (g := gb575) (o := .cells #[.string t572, .int .i64 t573] 69 (0, 0)) (by refine kK_ ?_; refine blk_far ?_ NB575_568.out _; refine kK_ ?_; refine blk_far ?_ NB575_568.out _; refine kK_ ?_; refine blk_put (cs := #[.string t572, .int .i64 0]) ?_ 1 _ rfl; refine kK_ ?_; refine blk_put (cs := #[.string (⟨#[]⟩ : ByteArray), .int .i64 0]) ?_ 0 _ rfl; exact rK_ BK575.out) hb) <| c_ (below_step ((u0_ GE568.out GE575.out)) hb); clear HO_8 BK568 BK575 HB; obtain ⟨HO_8, HO578, BK568, BK575, HB⟩ := n_; clear hb ho34; obtain ⟨Ao35, co35, eo35⟩ := Kd.R_slice HO578.out; subst eo35))
      repeat (go_quiet (first | (go_at_call 66; (with_reducible refine (impl_StreamTake.calls kj16 x569000_1 x569001_1 3 t572 t573 t574 _ A20.out).mono ?_); rintro e w28 ⟨rfl, hb⟩; have n_ := b_ (Kd.R_below (rR_ HO_8.out) hb) <| b_ (blk_below (g := gb568) (o := .cells #[.string x569000_1, .int .i64 x569001_1] 69 (0, 0)) (rK_ BK568.out) hb) <| c_ (below_step (hS_ GE568.out) hb); clear HO_8 BK568 HB; obtain ⟨HO_8, BK568, HB⟩ := n_; (try clear hb)) | ((with_reducible refine gate_dst (N := 11) rfl ?_); refine box_event ?hg (N := 11) ?hd (cs := #[.string (⟨#[]⟩ : ByteArray), .int .i64 0]) (t := 69) ?hr ?_; (case hd => rfl); (case hg => rfl); (case hr => first | (go_simp; done) | (go_simp; rfl)); intro gb575 hg w29 hbox hb; have n_ := b_ (Kd.R_below (rR_ HO_8.out) hb) <| b_ (blk_below (g := gb568) (o := .cells #[.string x569000_1, .int .i64 x569001_1] 69 (0, 0)) (rK_ BK568.out) hb) <| b_ (below_step (hS_ GE568.out) hb) <| b_ (hbox) <| b_ (by rw [hg]; exact (below_size (hS_ GE568.out)) : w.heap.size ≤ gb575) <| b_ (by rw [hg]; exact (below_size (hS_ GE568.out)) : w.heap.size ≤ gb575) <| b_ (by rw [hg]; exact Nat.ne_of_lt (blk_lt (g := gb568) (o := .cells #[.string x569000_1, .int .i64 x569001_1] 69 (0, 0)) (rK_ BK568.out)) : gb568 ≠ gb575) <| c_ (by rw [hg]; exact Nat.ne_of_gt (blk_lt (g := gb568) (o := .cells #[.string x569000_1, .int .i64 x569001_1] 69 (0, 0)) (rK_ BK568.out)) : gb575 ≠ gb568); clear HO_8 BK568 HB; obtain ⟨HO_8, BK568, HB, BK575, GW575, GE575, NB568_575, NB575_568⟩ := n_; clear hb hbox hg; have hnb30 := NB575_568.out; have hnc30 := NB568_575.out; have hcz31_0 : w29.cell? ⟨gb575, 0, none⟩ = some (.string (⟨#[]⟩ : ByteArray)) := (blk_cell BK575.out 0).trans rfl; have hcz31_1 : w29.cell? ⟨gb575, 1, none⟩ = some (.int .i64 0) := (blk_cell BK575.out 1).trans rfl; have hfz31_0 := blk_frozen BK575.out 0; have hfz31_1 := blk_frozen BK575.out 1; have hcz32_0 : w29.cell? ⟨gb568, 0, none⟩ = some (.string x569000_1) := (blk_cell BK568.out 0).trans rfl; have hcz32_1 : w29.cell? ⟨gb568, 1, none⟩ = some (.int .i64 x569001_1) := (blk_cell BK568.out 1).trans rfl; have hfz32_0 := blk_frozen BK568.out 0; have hfz32_1 := blk_frozen BK568.out 1; have p22 : 0 ≤ (0 : Int) := (by omega); have q22 : 0 < t574.size := (by have : (0 : Int) < (t574.size : Int) := oD_; omega); have hx22 : ∀ h : 0 < t574.size, ((t574[0]'h).toNat : Int) = bt t574 0 := bt_at t574 0; clear p22; have qi22 : (0 < (t574.size : Int)) = True := eq_true oD_; replace q22 := eq_true q22; have p24 : 0 ≤ (1 : Int) := (by omega); have q24 : 1 < t574.size := (by have : (1 : Int) < (t574.size : Int) := oD_; omega); have hx24 : ∀ h : 1 < t574.size, ((t574[1]'h).toNat : Int) = bt t574 1 := bt_at t574 1; clear p24; have qi24 : (1 < (t574.size : Int)) = True := eq_true oD_; replace q24 := eq_true q24; have p26 : 0 ≤ (2 : Int) := (by omega); have q26 : 2 < t574.size := (by have : (2 : Int) < (t574.size : Int) := oD_; omega); have hx26 : ∀ h : 2 < t574.size, ((t574[2]'h).toNat : Int) = bt t574 2 := bt_at t574 2; clear p26; have qi26 : (2 < (t574.size : Int)) = True := eq_true oD_; replace q26 := eq_true q26) | ((with_reducible refine gate_dst (N := 60) rfl ?_); refine Kd.R_lit (Kd.int .i64) _ 3 ?hg (N := 60) ?hd (xs := ([wrap64 ((wrap64 (bt t574 0)) + (wrap64 ((Int.tmod (wrap64 (bt t574 1)) 16) * 256))), wrap64 ((wrap64 (Int.tdiv (wrap64 (bt t574 1)) 16)) + (wrap64 (16 * (wrap64 (bt t574 2)))))] : List Int)) (inner := [.int .i64 (wrap64 ((wrap64 (bt t574 0)) + (wrap64 ((Int.tmod (wrap64 (bt t574 1)) 16) * 256)))), .int .i64 (wrap64 ((wrap64 (Int.tdiv (wrap64 (bt t574 1)) 16)) + (wrap64 (16 * (wrap64 (bt t574 2))))))]) (ok := fun _ => True) (okp := fun _ => True) ?hr ?hp (fun _ hk => hk) trivial (Below.refl _ _) (Nat.le_refl _) (by simp) ?_; (case hd => rfl); (case hg => rfl); (case hr => first | (go_simp; done) | (go_simp; rfl)); (case hp => exact (Reps.one (show Kd.M (Kd.int .i64) _ _ _ (wrap64 ((wrap64 (bt t574 0)) + (wrap64 ((Int.tmod (wrap64 (bt t574 1)) 16) * 256)))) [.int .i64 (wrap64 ((wrap64 (bt t574 0)) + (wrap64 ((Int.tmod (wrap64 (bt t574 1)) 16) * 256))))] from rfl) (Reps.one (show Kd.M (Kd.int .i64) _ _ _ (wrap64 ((wrap64 (Int.tdiv (wrap64 (bt t574 1)) 16)) + (wrap64 (16 * (wrap64 (bt t574 2)))))) [.int .i64 (wrap64 ((wrap64 (Int.tdiv (wrap64 (bt t574 1)) 16)) + (wrap64 (16 * (wrap64 (bt t574 2))))))] from rfl) (Reps.none _ _)))); intro v577 w33 ho34 hb hg_ hnew_; clear hg_ hnew_; (first | rw [← Ny576.out] at ho34 | (simp only [Int.reduceToNat] at ho34; rw [← Ny576.out] at ho34)); have n_ := b_ (Kd.R_elder' (by refine kR_ ?_; exact (Kd.R_mono (Kd.R_mono (Kd.R_far (Kd.R_far (Kd.R_far (Kd.R_far (Kd.R_types (Kd.R_types HO_8.out BK575.out (by decide)) BK568.out (by decide)) (fun _ hk => hk.1.2) (.string t572)) (fun _ hk => hk.1.2) (.int .i64 t573)) (fun _ hk => hk.2) _) (fun _ hk => hk.2) _) (fun _ h_ => h_.1)) (fun _ h_ => h_.1))) (Kd.R_base ho34) hb) <| b_ (Kd.R_lower (Kd.R_new' ho34 (Kd.R_lt (by refine kR_ ?_; exact (Kd.R_mono (Kd.R_mono (Kd.R_far (Kd.R_far (Kd.R_far (Kd.R_far (Kd.R_types (Kd.R_types HO_8.out BK575.out (by decide)) BK568.out (by decide)) (fun _ hk => hk.1.2) (.string t572)) (fun _ hk => hk.1.2) (.int .i64 t573)) (fun _ hk => hk.2) _) (fun _ hk => hk.2) _) (fun _ h_ => h_.1)) (fun _ h_ => h_.1))))) (below_size ((u0_ GE568.out GE575.out)))) <| b_ (blk_below (g := gb568) (o := .cells #[.string t572, .int .i64 t573] 69 (0, 0)) (by refine kK_ ?_; refine blk_put (cs := #[.string t572, .int .i64 x569001_1]) ?_ 1 _ rfl; refine kK_ ?_; refine blk_put (cs := #[.string x569000_1, .int .i64 x569001_1]) ?_ 0 _ rfl; refine kK_ ?_; refine blk_far ?_ NB568_575.out _; refine kK_ ?_; refine blk_far ?_ NB568_575.out _; exact rK_ BK568.out) hb) <| b_ (blk_below (g := gb575) (o := .cells #[.string t572, .int .i64 t573] 69 (0, 0)) (by refine kK_ ?_; refine blk_far ?_ NB575_568.out _; refine kK_ ?_; refine blk_far ?_ NB575_568.out _; refine kK_ ?_; refine blk_put (cs := #[.string t572, .int .i64 0]) ?_ 1 _ rfl; refine kK_ ?_; refine blk_put (cs := #[.string (⟨#[]⟩ : ByteArray), .int .i64 0]) ?_ 0 _ rfl; exact rK_ BK575.out) hb) <| c_ (below_step ((u0_ GE568.out GE575.out)) hb); clear HO_8 BK568 BK575 HB; obtain ⟨HO_8, HO578, BK568, BK575, HB⟩ := n_; clear hb ho34; obtain ⟨Ao35, co35, eo35⟩ := Kd.R_slice HO578.out; subst eo35)); try go_wp2_with (first | (go_at_call 66; (with_reducible refine (impl_StreamTake.calls kj16 x569000_1 x569001_1 3 t572 t573 t574 _ A20.out).mono ?_); rintro e w28 ⟨rfl, hb⟩; have n_ := b_ (Kd.R_below (rR_ HO_8.out) hb) <| b_ (blk_below (g := gb568) (o := .cells #[.string x569000_1, .int .i64 x569001_1] 69 (0, 0)) (rK_ BK568.out) hb) <| c_ (below_step (hS_ GE568.out) hb); clear HO_8 BK568 HB; obtain ⟨HO_8, BK568, HB⟩ := n_; (try clear hb)) | ((with_reducible refine gate_dst (N := 11) rfl ?_); refine box_event ?hg (N := 11) ?hd (cs := #[.string (⟨#[]⟩ : ByteArray), .int .i64 0]) (t := 69) ?hr ?_; (case hd => rfl); (case hg => rfl); (case hr => first | (go_simp; done) | (go_simp; rfl)); intro gb575 hg w29 hbox hb; have n_ := b_ (Kd.R_below (rR_ HO_8.out) hb) <| b_ (blk_below (g := gb568) (o := .cells #[.string x569000_1, .int .i64 x569001_1] 69 (0, 0)) (rK_ BK568.out) hb) <| b_ (below_step (hS_ GE568.out) hb) <| b_ (hbox) <| b_ (by rw [hg]; exact (below_size (hS_ GE568.out)) : w.heap.size ≤ gb575) <| b_ (by rw [hg]; exact (below_size (hS_ GE568.out)) : w.heap.size ≤ gb575) <| b_ (by rw [hg]; exact Nat.ne_of_lt (blk_lt (g := gb568) (o := .cells #[.string x569000_1, .int .i64 x569001_1] 69 (0, 0)) (rK_ BK568.out)) : gb568 ≠ gb575) <| c_ (by rw [hg]; exact Nat.ne_of_gt (blk_lt (g := gb568) (o := .cells #[.string x569000_1, .int .i64 x569001_1] 69 (0, 0)) (rK_ BK568.out)) : gb575 ≠ gb568); clear HO_8 BK568 HB; obtain ⟨HO_8, BK568, HB, BK575, GW575, GE575, NB568_575, NB575_568⟩ := n_; clear hb hbox hg; have hnb30 := NB575_568.out; have hnc30 := NB568_575.out; have hcz31_0 : w29.cell? ⟨gb575, 0, none⟩ = some (.string (⟨#[]⟩ : ByteArray)) := (blk_cell BK575.out 0).trans rfl; have hcz31_1 : w29.cell? ⟨gb575, 1, none⟩ = some (.int .i64 0) := (blk_cell BK575.out 1).trans rfl; have hfz31_0 := blk_frozen BK575.out 0; have hfz31_1 := blk_frozen BK575.out 1; have hcz32_0 : w29.cell? ⟨gb568, 0, none⟩ = some (.string x569000_1) := (blk_cell BK568.out 0).trans rfl; have hcz32_1 : w29.cell? ⟨gb568, 1, none⟩ = some (.int .i64 x569001_1) := (blk_cell BK568.out 1).trans rfl; have hfz32_0 := blk_frozen BK568.out 0; have hfz32_1 := blk_frozen BK568.out 1; have p22 : 0 ≤ (0 : Int) := (by omega); have q22 : 0 < t574.size := (by have : (0 : Int) < (t574.size : Int) := oD_; omega); have hx22 : ∀ h : 0 < t574.size, ((t574[0]'h).toNat : Int) = bt t574 0 := bt_at t574 0; clear p22; have qi22 : (0 < (t574.size : Int)) = True := eq_true oD_; replace q22 := eq_true q22; have p24 : 0 ≤ (1 : Int) := (by omega); have q24 : 1 < t574.size := (by have : (1 : Int) < (t574.size : Int) := oD_; omega); have hx24 : ∀ h : 1 < t574.size, ((t574[1]'h).toNat : Int) = bt t574 1 := bt_at t574 1; clear p24; have qi24 : (1 < (t574.size : Int)) = True := eq_true oD_; replace q24 := eq_true q24; have p26 : 0 ≤ (2 : Int) := (by omega); have q26 : 2 < t574.size := (by have : (2 : Int) < (t574.size : Int) := oD_; omega); have hx26 : ∀ h : 2 < t574.size, ((t574[2]'h).toNat : Int) = bt t574 2 := bt_at t574 2; clear p26; have qi26 : (2 < (t574.size : Int)) = True := eq_true oD_; replace q26 := eq_true q26) | ((with_reducible refine gate_dst (N := 60) rfl ?_); refine Kd.R_lit (Kd.int .i64) _ 3 ?hg (N := 60) ?hd (xs := ([wrap64 ((wrap64 (bt t574 0)) + (wrap64 ((Int.tmod (wrap64 (bt t574 1)) 16) * 256))), wrap64 ((wrap64 (Int.tdiv (wrap64 (bt t574 1)) 16)) + (wrap64 (16 * (wrap64 (bt t574 2)))))] : List Int)) (inner := [.int .i64 (wrap64 ((wrap64 (bt t574 0)) + (wrap64 ((Int.tmod (wrap64 (bt t574 1)) 16) * 256)))), .int .i64 (wrap64 ((wrap64 (Int.tdiv (wrap64 (bt t574 1)) 16)) + (wrap64 (16 * (wrap64 (bt t574 2))))))]) (ok := fun _ => True) (okp := fun _ => True) ?hr ?hp (fun _ hk => hk) trivial (Below.refl _ _) (Nat.le_refl _) (by simp) ?_; (case hd => rfl); (case hg => rfl); (case hr => first | (go_simp; done) | (go_simp; rfl)); (case hp => exact (Reps.one (show Kd.M (Kd.int .i64) _ _ _ (wrap64 ((wrap64 (bt t574 0)) + (wrap64 ((Int.tmod (wrap64 (bt t574 1)) 16) * 256)))) [.int .i64 (wrap64 ((wrap64 (bt t574 0)) + (wrap64 ((Int.tmod (wrap64 (bt t574 1)) 16) * 256))))] from rfl) (Reps.one (show Kd.M (Kd.int .i64) _ _ _ (wrap64 ((wrap64 (Int.tdiv (wrap64 (bt t574 1)) 16)) + (wrap64 (16 * (wrap64 (bt t574 2)))))) [.int .i64 (wrap64 ((wrap64 (Int.tdiv (wrap64 (bt t574 1)) 16)) + (wrap64 (16 * (wrap64 (bt t574 2))))))] from rfl) (Reps.none _ _)))); intro v577 w33 ho34 hb hg_ hnew_; clear hg_ hnew_; (first | rw [← Ny576.out] at ho34 | (simp only [Int.reduceToNat] at ho34; rw [← Ny576.out] at ho34)); have n_ := b_ (Kd.R_elder' (by refine kR_ ?_; exact (Kd.R_mono (Kd.R_mono (Kd.R_far (Kd.R_far (Kd.R_far (Kd.R_far (Kd.R_types (Kd.R_types HO_8.out BK575.out (by decide)) BK568.out (by decide)) (fun _ hk => hk.1.2) (.string t572)) (fun _ hk => hk.1.2) (.int .i64 t573)) (fun _ hk => hk.2) _) (fun _ hk => hk.2) _) (fun _ h_ => h_.1)) (fun _ h_ => h_.1))) (Kd.R_base ho34) hb) <| b_ (Kd.R_lower (Kd.R_new' ho34 (Kd.R_lt (by refine kR_ ?_; exact (Kd.R_mono (Kd.R_mono (Kd.R_far (Kd.R_far (Kd.R_far (Kd.R_far (Kd.R_types (Kd.R_types HO_8.out BK575.out (by decide)) BK568.out (by decide)) (fun _ hk => hk.1.2) (.string t572)) (fun _ hk => hk.1.2) (.int .i64 t573)) (fun _ hk => hk.2) _) (fun _ hk => hk.2) _) (fun _ h_ => h_.1)) (fun _ h_ => h_.1))))) (below_size ((u0_ GE568.out GE575.out)))) <| b_ (blk_below (g := gb568) (o := .cells #[.string t572, .int .i64 t573] 69 (0, 0)) (by refine kK_ ?_; refine blk_put (cs := #[.string t572, .int .i64 x569001_1]) ?_ 1 _ rfl; refine kK_ ?_; refine blk_put (cs := #[.string x569000_1, .int .i64 x569001_1]) ?_ 0 _ rfl; refine kK_ ?_; refine blk_far ?_ NB568_575.out _; refine kK_ ?_; refine blk_far ?_ NB568_575.out _; exact rK_ BK568.out) hb) <| b_ (blk_below (g := gb575) (o := .cells #[.string t572, .int .i64 t573] 69 (0, 0)) (by refine kK_ ?_; refine blk_far ?_ NB575_568.out _; refine kK_ ?_; refine blk_far ?_ NB575_568.out _; refine kK_ ?_; refine blk_put (cs := #[.string t572, .int .i64 0]) ?_ 1 _ rfl; refine kK_ ?_; refine blk_put (cs := #[.string (⟨#[]⟩ : ByteArray), .int .i64 0]) ?_ 0 _ rfl; exact rK_ BK575.out) hb) <| c_ (below_step ((u0_ GE568.out GE575.out)) hb); clear HO_8 BK568 BK575 HB; obtain ⟨HO_8, HO578, BK568, BK575, HB⟩ := n_; clear hb ho34; obtain ⟨Ao35, co35, eo35⟩ := Kd.R_slice HO578.out; subst eo35)))
      go_loopg [9, 62] kj16 (fun kq v9 v62 w' => ∃ (x8_3 : List Int) (x9_3 : Int) (x62_3 : Int), v9 = .int .i64 x9_3 ∧ v62 = .int .i64 x62_3 ∧ Aside0 (impl_Uniform.l1 kq x8_3 x9_3 x10_1 y576 (y576.length : Int) x62_3 t572 t573 = some r) ∧ Aside0 (kq ≤ kj16) ∧ Aside0 (Kd.R (Kd.int .i64) 3 w' w.heap.size (fun k_ => some k_ ≠ ((.slice Ao35 y576.length co35) : Value).ownBlock) v570 x8_3) ∧ Aside0 (Kd.R (Kd.int .i64) 3 w' w.heap.size (fun k_ => some k_ ≠ (v570 : Value).ownBlock) (.slice Ao35 y576.length co35) y576) ∧ Aside0 (w'.heap[gb568]? = some (.cells #[.string t572, .int .i64 t573] 69 (0, 0))) ∧ Aside0 (w'.heap[gb575]? = some (.cells #[.string t572, .int .i64 t573] 69 (0, 0))) ∧ Aside0 (Below w.heap.size w w'))
      case atStart => exact ⟨(x8_1), (x9_1), (0), f0_, f0_, H', ⟨Nat.le_refl _⟩, ⟨by refine kR_ ?_; exact Kd.R_mono HO_8.out (fun _ hk => hk.2)⟩, ⟨by refine kR_ ?_; exact Kd.R_mono HO578.out (fun _ hk => hk.2)⟩, ⟨by refine kK_ ?_; exact BK568.out⟩, ⟨by refine kK_ ?_; exact BK575.out⟩, ⟨(u0_ GE568.out GE575.out)⟩⟩
      case round =>
       clear H'
       obtain ⟨x8_3, x9_3, x62_3, rfl, rfl, HA, HK3, HO_8, HO_60, BK568, BK575, HB⟩ := hrel
       cases gk with
       | zero => exact absurd HA.out (by simp [impl_Uniform.l1])
       | succ k3 =>
        have H := HA.out
        clear HA
        simp only [impl_Uniform.l1] at H
        by_cases c36 : x62_3 < (y576.length : Int)
        rotate_left
        ·rw [if_neg c36] at H
         have c36b0 := decide_eq_false c36
         clear c36
         have H' := Aside0.mk H
         clear H
         go_wp2
         repeat (go_quiet (fail); try go_wp2)
         go_roundg k3
         case measure => have := HK1.out; have := HJ16.out; have := HK3.out; omega
         case rel => exact ⟨(x8_3), (x9_3), (wrap64 (x10_1 + 1)), (t572), (t573), f0_, f0_, H', ⟨by have := HK1.out; have := HJ16.out; have := HK3.out; omega⟩, ⟨by refine kR_ ?_; exact Kd.R_mono HO_8.out (fun _ hk => trivial)⟩, ⟨by refine kK_ ?_; exact BK568.out⟩, ⟨(u0_ GE568.out GE575.out)⟩⟩
        rw [if_pos c36] at H
        have c36b0 := decide_eq_true c36
        clear c36
        obtain ⟨c37b0, H⟩ := iD_ H
        obtain ⟨c38b0, H⟩ := iD_ H
        by_cases c39 : (rd y576 x62_3) < 3329
        rotate_left
        ·rw [if_neg c39] at H
         have c39b0 := decide_eq_false c39
         clear c39
         have H' := Aside0.mk H
         clear H
         have p579 : 0 ≤ (x62_3 : Int) := oD_
         have q579 : x62_3 < (y576.length : Int) := oD_
         obtain ⟨ad579, e579, hx579_0⟩ := Kd.at_int (Kd.R_reads' HO_60.out).2.2 x62_3 p579 q579
         cases e579
         replace p579 := eq_true p579
         replace q579 := eq_true q579
         go_wp2
         repeat (go_quiet (fail); try go_wp2)
         go_roundg k3
         case measure => have := HK1.out; have := HJ16.out; have := HK3.out; omega
         case rel => exact ⟨(x8_3), (x9_3), (wrap64 (x62_3 + 1)), f0_, f0_, H', ⟨by have := HK1.out; have := HJ16.out; have := HK3.out; omega⟩, ⟨rR_ HO_8.out⟩, ⟨rR_ HO_60.out⟩, ⟨by refine kK_ ?_; exact BK568.out⟩, ⟨by refine kK_ ?_; exact BK575.out⟩, ⟨(u0_ GE568.out GE575.out)⟩⟩
        rw [if_pos c39] at H
        have c39b0 := decide_eq_true c39
        clear c39
        by_cases c40 : x9_3 < 256
        rotate_left
        ·rw [if_neg c40] at H
         have c40b0 := decide_eq_false c40
         clear c40
         have H' := Aside0.mk H
         clear H
         have p579 : 0 ≤ (x62_3 : Int) := oD_
         have q579 : x62_3 < (y576.length : Int) := oD_
         obtain ⟨ad579, e579, hx579_0⟩ := Kd.at_int (Kd.R_reads' HO_60.out).2.2 x62_3 p579 q579
         cases e579
         replace p579 := eq_true p579
         replace q579 := eq_true q579
         go_wp2
         repeat (go_quiet (fail); try go_wp2)
         go_roundg k3
         case measure => have := HK1.out; have := HJ16.out; have := HK3.out; omega
         case rel => exact ⟨(x8_3), (x9_3), (wrap64 (x62_3 + 1)), f0_, f0_, H', ⟨by have := HK1.out; have := HJ16.out; have := HK3.out; omega⟩, ⟨rR_ HO_8.out⟩, ⟨rR_ HO_60.out⟩, ⟨by refine kK_ ?_; exact BK568.out⟩, ⟨by refine kK_ ?_; exact BK575.out⟩, ⟨(u0_ GE568.out GE575.out)⟩⟩
        rw [if_pos c40] at H
        have c40b0 := decide_eq_true c40
        clear c40
        obtain ⟨c41b0, H⟩ := iD_ H
        obtain ⟨c42b0, H⟩ := iD_ H
        obtain ⟨y580, hy580⟩ : ∃ y_ : List Int, y_ = (x8_3.set (x9_3 : Int).toNat (rd y576 x62_3)) := ⟨_, rfl⟩
        first | replace H := yb_ hy580 H | rw [← hy580] at H
        have Ny580 := Aside0.mk hy580
        clear hy580
        have H' := Aside0.mk H
        clear H
        have p579 : 0 ≤ (x62_3 : Int) := oD_
        have q579 : x62_3 < (y576.length : Int) := oD_
        obtain ⟨ad579, e579, hx579_0⟩ := Kd.at_int (Kd.R_reads' HO_60.out).2.2 x62_3 p579 q579
        cases e579
        replace p579 := eq_true p579
        replace q579 := eq_true q579
        have p43 : 0 ≤ (x9_3 : Int) := oD_
        have q43 : (x9_3 : Int) < ((x8_3.length : Int) : Int) := oD_
        obtain ⟨go43, co43, eo43, gb43, gl43, cl43, HG43⟩ := Kd.R_form HO_8.out (by omega)
        (first | cases eo43 | (injection eo43 with ea_ en_ ec_; (first | subst ea_ | (injection ea_ with ea_; subst ea_)); subst ec_; clear en_))
        have GB43 := Aside0.mk gb43
        have GG43 := Aside0.mk HG43
        clear gb43 gl43 HG43
        obtain ⟨hx43_0, hf43_0⟩ := Kd.R_celln 0 HO_8.out (x9_3 : Int) p43 q43
        replace p43 := eq_true p43
        replace q43 := eq_true q43
        have HP44 := Kd.R_putg HO_8.out (x9_3 : Int) (rd y576 x62_3)
        go_wp2_with (first | ((with_reducible refine gate_store (t := 3) (p := 75) rfl ?_); (try (rw [drewN_self wr]; generalize hq_ : World.drewN wr _ = wr; have n_ := b_ (Kd.R_at hq_ HO_8.out) <| b_ (Kd.R_at hq_ HO_60.out) <| b_ (blk_at hq_ BK568.out) <| b_ (blk_at hq_ BK575.out) <| c_ (below_at hq_ HB.out); clear hq_ HO_8 HO_60 BK568 BK575 HB; obtain ⟨HO_8, HO_60, BK568, BK575, HB⟩ := n_; (try (have HP44 := Kd.R_putg HO_8.out (x9_3 : Int) (rd y576 x62_3))))); refine store_event (t := 3) (p := 75) (v := ?vo_w45) (w1 := (wr.setCell ⟨go43, (x9_3 : Int).toNat, none⟩ (.int .i64 (rd y576 x62_3)))) ?hg ?ho ?hn ?hr ?_; (case ho => rfl); (case hg => rfl); (case hn => rfl); (case hr => first | (go_simp; done) | (go_simp; rfl)); intro w45 hw; have hg : wr.grownBy w45 (some go43) := (by rw [hw]; exact HP44.2); have hp_ : Kd.R (Kd.int .i64) 3 w45 w.heap.size (fun k_ => some k_ ≠ (.slice (some ad579) y576.length co35 : Value).ownBlock) (.slice (some ⟨go43, 0, none⟩) x8_3.length co43) y580 := (by rw [hw, Ny580.out]; exact HP44.1); clear HP44; have n0_ := Aside0.mk (hp_); have n1_ := Aside0.mk (Kd.R_after (v := (.slice (some ⟨go43, 0, none⟩) x8_3.length co43)) (v1 := (.slice (some ⟨go43, 0, none⟩) x8_3.length co43)) (ok := (fun _ => True)) (by refine kR_ ?_; exact Kd.R_mono HO_60.out (fun _ hk => ⟨trivial, hk⟩)) hg (.inl rfl)); have n2_ := Aside0.mk (blk_grown (g := gb568) (o := .cells #[.string t572, .int .i64 t573] 69 (0, 0)) (rK_ BK568.out) hg (Kd.R_ne HO_8.out BK568.out (by decide))); have n3_ := Aside0.mk (blk_grown (g := gb575) (o := .cells #[.string t572, .int .i64 t573] 69 (0, 0)) (rK_ BK575.out) hg (Kd.R_ne HO_8.out BK575.out (by decide))); have n4_ := Aside0.mk ((by rw [hw]; exact below_set (HB.out) GB43.out : Below w.heap.size w w45)); replace HO_8 := n0_; replace HO_60 := n1_; replace BK568 := n2_; replace BK575 := n3_; replace HB := n4_; clear n0_ n1_ n2_ n3_ n4_; clear hg hw hp_))
        repeat (go_quiet (first | ((with_reducible refine gate_store (t := 3) (p := 75) rfl ?_); (try (rw [drewN_self wr]; generalize hq_ : World.drewN wr _ = wr; have n_ := b_ (Kd.R_at hq_ HO_8.out) <| b_ (Kd.R_at hq_ HO_60.out) <| b_ (blk_at hq_ BK568.out) <| b_ (blk_at hq_ BK575.out) <| c_ (below_at hq_ HB.out); clear hq_ HO_8 HO_60 BK568 BK575 HB; obtain ⟨HO_8, HO_60, BK568, BK575, HB⟩ := n_; (try (have HP44 := Kd.R_putg HO_8.out (x9_3 : Int) (rd y576 x62_3))))); refine store_event (t := 3) (p := 75) (v := ?vo_w45) (w1 := (wr.setCell ⟨go43, (x9_3 : Int).toNat, none⟩ (.int .i64 (rd y576 x62_3)))) ?hg ?ho ?hn ?hr ?_; (case ho => rfl); (case hg => rfl); (case hn => rfl); (case hr => first | (go_simp; done) | (go_simp; rfl)); intro w45 hw; have hg : wr.grownBy w45 (some go43) := (by rw [hw]; exact HP44.2); have hp_ : Kd.R (Kd.int .i64) 3 w45 w.heap.size (fun k_ => some k_ ≠ (.slice (some ad579) y576.length co35 : Value).ownBlock) (.slice (some ⟨go43, 0, none⟩) x8_3.length co43) y580 := (by rw [hw, Ny580.out]; exact HP44.1); clear HP44; have n0_ := Aside0.mk (hp_); have n1_ := Aside0.mk (Kd.R_after (v := (.slice (some ⟨go43, 0, none⟩) x8_3.length co43)) (v1 := (.slice (some ⟨go43, 0, none⟩) x8_3.length co43)) (ok := (fun _ => True)) (by refine kR_ ?_; exact Kd.R_mono HO_60.out (fun _ hk => ⟨trivial, hk⟩)) hg (.inl rfl)); have n2_ := Aside0.mk (blk_grown (g := gb568) (o := .cells #[.string t572, .int .i64 t573] 69 (0, 0)) (rK_ BK568.out) hg (Kd.R_ne HO_8.out BK568.out (by decide))); have n3_ := Aside0.mk (blk_grown (g := gb575) (o := .cells #[.string t572, .int .i64 t573] 69 (0, 0)) (rK_ BK575.out) hg (Kd.R_ne HO_8.out BK575.out (by decide))); have n4_ := Aside0.mk ((by rw [hw]; exact below_set (HB.out) GB43.out : Below w.heap.size w w45)); replace HO_8 := n0_; replace HO_60 := n1_; replace BK568 := n2_; replace BK575 := n3_; replace HB := n4_; clear n0_ n1_ n2_ n3_ n4_; clear hg hw hp_)); try go_wp2_with (first | ((with_reducible refine gate_store (t := 3) (p := 75) rfl ?_); (try (rw [drewN_self wr]; generalize hq_ : World.drewN wr _ = wr; have n_ := b_ (Kd.R_at hq_ HO_8.out) <| b_ (Kd.R_at hq_ HO_60.out) <| b_ (blk_at hq_ BK568.out) <| b_ (blk_at hq_ BK575.out) <| c_ (below_at hq_ HB.out); clear hq_ HO_8 HO_60 BK568 BK575 HB; obtain ⟨HO_8, HO_60, BK568, BK575, HB⟩ := n_; (try (have HP44 := Kd.R_putg HO_8.out (x9_3 : Int) (rd y576 x62_3))))); refine store_event (t := 3) (p := 75) (v := ?vo_w45) (w1 := (wr.setCell ⟨go43, (x9_3 : Int).toNat, none⟩ (.int .i64 (rd y576 x62_3)))) ?hg ?ho ?hn ?hr ?_; (case ho => rfl); (case hg => rfl); (case hn => rfl); (case hr => first | (go_simp; done) | (go_simp; rfl)); intro w45 hw; have hg : wr.grownBy w45 (some go43) := (by rw [hw]; exact HP44.2); have hp_ : Kd.R (Kd.int .i64) 3 w45 w.heap.size (fun k_ => some k_ ≠ (.slice (some ad579) y576.length co35 : Value).ownBlock) (.slice (some ⟨go43, 0, none⟩) x8_3.length co43) y580 := (by rw [hw, Ny580.out]; exact HP44.1); clear HP44; have n0_ := Aside0.mk (hp_); have n1_ := Aside0.mk (Kd.R_after (v := (.slice (some ⟨go43, 0, none⟩) x8_3.length co43)) (v1 := (.slice (some ⟨go43, 0, none⟩) x8_3.length co43)) (ok := (fun _ => True)) (by refine kR_ ?_; exact Kd.R_mono HO_60.out (fun _ hk => ⟨trivial, hk⟩)) hg (.inl rfl)); have n2_ := Aside0.mk (blk_grown (g := gb568) (o := .cells #[.string t572, .int .i64 t573] 69 (0, 0)) (rK_ BK568.out) hg (Kd.R_ne HO_8.out BK568.out (by decide))); have n3_ := Aside0.mk (blk_grown (g := gb575) (o := .cells #[.string t572, .int .i64 t573] 69 (0, 0)) (rK_ BK575.out) hg (Kd.R_ne HO_8.out BK575.out (by decide))); have n4_ := Aside0.mk ((by rw [hw]; exact below_set (HB.out) GB43.out : Below w.heap.size w w45)); replace HO_8 := n0_; replace HO_60 := n1_; replace BK568 := n2_; replace BK575 := n3_; replace HB := n4_; clear n0_ n1_ n2_ n3_ n4_; clear hg hw hp_)))
        go_roundg k3
        case measure => have := HK1.out; have := HJ16.out; have := HK3.out; omega
        case rel => exact ⟨(y580), (wrap64 (x9_3 + 1)), (wrap64 (x62_3 + 1)), f0_, f0_, H', ⟨by have := HK1.out; have := HJ16.out; have := HK3.out; omega⟩, ⟨rR_ HO_8.out⟩, ⟨by refine kR_ ?_; exact Kd.R_mono HO_60.out (fun _ hk => hk.2)⟩, ⟨by refine kK_ ?_; exact BK568.out⟩, ⟨by refine kK_ ?_; exact BK575.out⟩, ⟨(u0_ GE568.out GE575.out)⟩⟩
     ·replace c19 := Bool.eq_false_iff.mpr c19
      subst c19
      replace H := iF_ H
      obtain rfl := Option.some.inj H
      go_wp2
      repeat (go_quiet (fail); try go_wp2)
      go_ret
      exact ⟨_, f1_, rR_ HO_8.out, hS_ GE568.out⟩

/-! ### impl_row: function 20 -/
def impl_row.l0 : Nat → ByteArray → Int → Bool → List (List Int) → Int → Option ((List (List Int)))
 | 0, _, _, _, _, _ => none
 | k + 1, x0, x1, x2, x7, x9 => if x9 < 2 then (if x2 = true then ((impl_Uniform.f k x0 x1 x9).bind fun t581 => (if x7.length < 5864062014805 then (impl_row.l0 k x0 x1 x2 (x7 ++ [t581]) (wrap64 (x9 + 1))) else (none))) else ((impl_Uniform.f k x0 x9 x1).bind fun t587 => (if x7.length < 5864062014805 then (impl_row.l0 k x0 x1 x2 (x7 ++ [t587]) (wrap64 (x9 + 1))) else (none)))) else (some x7)
def impl_row.f (k : Nat) (a0 : ByteArray) (a1 : Int) (a2 : Bool) : Option ((List (List Int))) := impl_row.l0 k a0 a1 a2 ([] : List (List Int)) 0
theorem impl_row.mono_l : ∀ k, (∀ y0 y1 y2 y3 y4, LeO (impl_row.l0 k y0 y1 y2 y3 y4) (impl_row.l0 (k + 1) y0 y1 y2 y3 y4))
 | 0 => fun _ _ _ _ _ r h => by simp [impl_row.l0] at h
 | k + 1 => by
  have ih0 := impl_row.mono_l k
  intros; unfold impl_row.l0; exact o2_ ih0 impl_Uniform.mono
theorem impl_row.mono : ∀ a0 a1 a2 k, LeO (impl_row.f k a0 a1 a2) (impl_row.f (k + 1) a0 a1 a2) := by
 intro a0 a1 a2 k
 have ih0 := impl_row.mono_l k
 unfold impl_row.f
 exact o2_ ih0 impl_Uniform.mono
theorem impl_row.calls (k : Nat) (a0 : ByteArray) (a1 : Int) (a2 : Bool) (r : List (List Int)) (w : World) (h : impl_row.f k a0 a1 a2 = some r) :
  Calls Tryd.prog 20 #[.string a0, .int .i64 a1, .bool a2] w fun e w' => ∃ v0_ : Value, e = .returned (v0_) ∧ Kd.S (Kd.slice 3 (Kd.int .i64)) 31 w' w.heap.size (fun _ => True) v0_ r ∧ Below w.heap.size w w' := by
 have HB := Aside0.mk (Below.refl w.heap.size w)
 delta impl_row.f at h
 have H := h
 clear h
 have H' := Aside0.mk H
 clear H
 go_enter Tryd.func20, Tryd.ntmps20
 go_wp2
 go_loopg [7, 9] k (fun kq v7 v9 w' => ∃ (x7_1 : List (List Int)) (x9_1 : Int), v9 = .int .i64 x9_1 ∧ Aside0 (impl_row.l0 kq a0 a1 a2 x7_1 x9_1 = some r) ∧ Aside0 (kq ≤ k) ∧ Aside0 (Kd.S (Kd.slice 3 (Kd.int .i64)) 31 w' w.heap.size (fun _ => True) v7 x7_1) ∧ Aside0 (Below w.heap.size w w'))
 case atStart => exact ⟨(([] : List (List Int))), (0), f0_, H', ⟨Nat.le_refl _⟩, ⟨by first | exact Kd.S_nil _ _ _ _ _ | exact Kd.N_nil _ _ _ _ _ | exact Kd.V_nil _ _ _ _ _ | exact Kd.Q_nil _ _ _ _ _ | exact Kd.R_nil _ _ _ _ _⟩, ⟨hB_⟩⟩
 case round =>
  clear H'
  obtain ⟨x7_1, x9_1, rfl, HA, HK1, HO_7, HB⟩ := hrel
  cases gk with
  | zero => exact absurd HA.out (by simp [impl_row.l0])
  | succ k1 =>
   have H := HA.out
   clear HA
   simp only [impl_row.l0] at H
   by_cases c4 : x9_1 < 2
   rotate_left
   ·rw [if_neg c4] at H
    have c4b0 := decide_eq_false c4
    clear c4
    obtain rfl := Option.some.inj H
    go_wp2
    go_ret
    exact ⟨_, f1_, by refine kS_ ?_; exact HO_7.out, hB_⟩
   rw [if_pos c4] at H
   have c4b0 := decide_eq_true c4
   clear c4
   by_cases c5 : a2 = true
   ·subst c5
    replace H := iT_ H
    obtain ⟨t581, A6, H⟩ := bN_ H
    obtain ⟨c7, H⟩ := iN_ H
    have LMc7 := Aside0.mk c7
    clear c7
    obtain ⟨y584, hy584⟩ : ∃ y_ : List (List Int), y_ = (x7_1 ++ [t581]) := ⟨_, rfl⟩
    first | replace H := yb_ hy584 H | rw [← hy584] at H
    have Ny584 := Aside0.mk hy584
    clear hy584
    have H' := Aside0.mk H
    clear H
    go_wp2_with (first | ((with_reducible refine gate_callee (f := 43) rfl ?_); refine goesL_ (some 17) rfl rfl Tryd.func43 (by kernel_rfl) rfl #[.string a0, .int .i64 a1, .int .i64 x9_1] rfl aM_ ?_; (with_reducible refine (impl_Uniform.calls k1 a0 a1 x9_1 t581 _ A6.out).mono ?_); rintro e w8 ⟨v582, rfl, ho0, hb⟩; refine ⟨_, rfl, ?_⟩; have n_ := b_ (Kd.S_elder' (rS_ HO_7.out) (Kd.R_base ho0) hb) <| b_ (Kd.R_lower ho0 (below_size (hB_))) <| c_ (below_step (hB_) hb); clear HO_7 HB; obtain ⟨HO_7, HO583, HB⟩ := n_; obtain ⟨Ao10, co10, eo10⟩ := Kd.R_slice HO583.out; subst eo10) | ((with_reducible refine gate_builtin (b := .append) (xs := #[.tmp 13, .tmp 18]) rfl ?_); at_builtin; refine Kd.S_append (Kd.slice 3 (Kd.int .i64)) (w0 := w) w.heap.size rfl (.tmp 13) (.tmp 18) 29 31 (.slice none 0 0) 24 rfl Tryd.underlying29 info31 rfl (by decide) (by omega) u7 x7_1 t581 [.slice Ao10 t581.length co10] (fun _ => True) (fun k_ => some k_ = (.slice Ao10 t581.length co10 : Value).ownBlock) rfl rfl ?aP (fun k_ hk_ => ((Kd.R_mono (ok' := fun k_ => ((fun _ => True)) k_ ∧ some k_ ≠ (u7 : Value).ownBlock) (Kd.R_apart' (HO583.out) (Kd.S_typed HO_7.out) (by decide)) (fun k_ hk => ⟨trivial, hk.2⟩))).1 k_ hk_.symm) ?aF ?aO ?aB ?aS ?aL ?_; (case aP => exact Kd.M_row (Kd.R_mono (Kd.R_tight rfl (Kd.R_mono (ok' := fun k_ => ((fun _ => True)) k_ ∧ some k_ ≠ (u7 : Value).ownBlock) (Kd.R_apart' (HO583.out) (Kd.S_typed HO_7.out) (by decide)) (fun k_ hk => ⟨trivial, hk.2⟩))) (fun _ h_ => h_))); (case aB => exact (hB_)); (case aF => exact (fun _ _ => trivial)); (case aO => exact (by refine kS_ ?_; exact Kd.S_mono HO_7.out (fun k_ hk => ⟨trivial, fun e_ => hk.2 e_⟩))); (case aS => exact (below_size (hB_))); (case aL => have := LMc7.out; omega); intro v585 w9 ho hb hg hat; rw [← Ny584.out] at ho; have n_ := b_ (hb) <| c_ (ho); clear HO_7 HO583 HB; obtain ⟨HB, HO586⟩ := n_; clear ho hb hg hat))
    go_roundg k1
    case measure => have := HK1.out; omega
    case rel => exact ⟨(y584), (wrap64 (x9_1 + 1)), f0_, H', ⟨by have := HK1.out; omega⟩, ⟨rS_ HO586.out⟩, ⟨hB_⟩⟩
   ·replace c5 := Bool.eq_false_iff.mpr c5
    subst c5
    replace H := iF_ H
    obtain ⟨t587, A11, H⟩ := bN_ H
    obtain ⟨c12, H⟩ := iN_ H
    have LMc12 := Aside0.mk c12
    clear c12
    obtain ⟨y590, hy590⟩ : ∃ y_ : List (List Int), y_ = (x7_1 ++ [t587]) := ⟨_, rfl⟩
    first | replace H := yb_ hy590 H | rw [← hy590] at H
    have Ny590 := Aside0.mk hy590
    clear hy590
    have H' := Aside0.mk H
    clear H
    go_wp2_with (first | ((with_reducible refine gate_callee (f := 43) rfl ?_); refine goesL_ (some 24) rfl rfl Tryd.func43 (by kernel_rfl) rfl #[.string a0, .int .i64 x9_1, .int .i64 a1] rfl aM_ ?_; (with_reducible refine (impl_Uniform.calls k1 a0 x9_1 a1 t587 _ A11.out).mono ?_); rintro e w13 ⟨v588, rfl, ho0, hb⟩; refine ⟨_, rfl, ?_⟩; have n_ := b_ (Kd.S_elder' (rS_ HO_7.out) (Kd.R_base ho0) hb) <| b_ (Kd.R_lower ho0 (below_size (hB_))) <| c_ (below_step (hB_) hb); clear HO_7 HB; obtain ⟨HO_7, HO589, HB⟩ := n_; obtain ⟨Ao15, co15, eo15⟩ := Kd.R_slice HO589.out; subst eo15) | ((with_reducible refine gate_builtin (b := .append) (xs := #[.tmp 20, .tmp 25]) rfl ?_); at_builtin; refine Kd.S_append (Kd.slice 3 (Kd.int .i64)) (w0 := w) w.heap.size rfl (.tmp 20) (.tmp 25) 29 31 (.slice none 0 0) 24 rfl Tryd.underlying29 info31 rfl (by decide) (by omega) u7 x7_1 t587 [.slice Ao15 t587.length co15] (fun _ => True) (fun k_ => some k_ = (.slice Ao15 t587.length co15 : Value).ownBlock) rfl rfl ?aP (fun k_ hk_ => ((Kd.R_mono (ok' := fun k_ => ((fun _ => True)) k_ ∧ some k_ ≠ (u7 : Value).ownBlock) (Kd.R_apart' (HO589.out) (Kd.S_typed HO_7.out) (by decide)) (fun k_ hk => ⟨trivial, hk.2⟩))).1 k_ hk_.symm) ?aF ?aO ?aB ?aS ?aL ?_; (case aP => exact Kd.M_row (Kd.R_mono (Kd.R_tight rfl (Kd.R_mono (ok' := fun k_ => ((fun _ => True)) k_ ∧ some k_ ≠ (u7 : Value).ownBlock) (Kd.R_apart' (HO589.out) (Kd.S_typed HO_7.out) (by decide)) (fun k_ hk => ⟨trivial, hk.2⟩))) (fun _ h_ => h_))); (case aB => exact (hB_)); (case aF => exact (fun _ _ => trivial)); (case aO => exact (by refine kS_ ?_; exact Kd.S_mono HO_7.out (fun k_ hk => ⟨trivial, fun e_ => hk.2 e_⟩))); (case aS => exact (below_size (hB_))); (case aL => have := LMc12.out; omega); intro v591 w14 ho hb hg hat; rw [← Ny590.out] at ho; have n_ := b_ (hb) <| c_ (ho); clear HO_7 HO589 HB; obtain ⟨HB, HO592⟩ := n_; clear ho hb hg hat))
    go_roundg k1
    case measure => have := HK1.out; omega
    case rel => exact ⟨(y590), (wrap64 (x9_1 + 1)), f0_, H', ⟨by have := HK1.out; omega⟩, ⟨rS_ HO592.out⟩, ⟨hB_⟩⟩

end Go.Proofs.YthdjmbbkenbeiaaDoor.P
