-- printed texts of this session, regrouped
import Derived.Test.YthdjmbbkenbeiaaDoorMWC
import Derived.Test.YthdjmbbkenbeiaaDoorMWA
import Derived.Test.YthdjmbbkenbeiaaDoorMW7
import Derived.Test.YthdjmbbkenbeiaaDoorMW6
import Derived.Test.YthdjmbbkenbeiaaDoorPx0
import Derived.Test.YthdjmbbkenbeiaaDoorPx1
namespace Go.Proofs.YthdjmbbkenbeiaaDoor.P
open Go.RowKit Go.Proofs.YthdjmbbkenbeiaaDoorW.PrintWords Go.Proofs.YthdjmbbkenbeiaaDoorW.PrintLast Go.Proofs.YthdjmbbkenbeiaaDoorW.PrintMore
attribute [local go_sem] max2_int min2_int max_two min_two max_three min_three max_four min_four   -- for this text's walks alone
set_option linter.unusedVariables false
set_option linter.unusedSimpArgs false
set_option maxHeartbeats 8000000
set_option maxRecDepth 100000

/-! ### spec_HasherNew: function 23 -/
def spec_HasherNew.f (k : Nat)  : Option (ByteArray × ByteArray × Int) := (spec_l05First.f).bind fun t189 => ((spec_l05Bytes.f k t189).bind fun t192 => (some (t192, (⟨#[]⟩ : ByteArray), 0)))
theorem spec_HasherNew.mono : ∀ k, LeO (spec_HasherNew.f k ) (spec_HasherNew.f (k + 1) ) := by
 intro  k
 unfold spec_HasherNew.f
 exact o1_ spec_l05Bytes.mono
theorem spec_HasherNew.calls (k : Nat)  (r1 : ByteArray) (r2 : ByteArray) (r3 : Int) (w : World) (h : spec_HasherNew.f k  = some (r1, r2, r3)) :
  Calls Tryd.prog 23 #[] w fun e w' => e = .returned (.agg #[.string r1, .string r2, .int .i64 r3]) ∧ Below w.heap.size w w' := by
 have hu42 := Tryd.underlying42
 have HB := Aside0.mk (Below.refl w.heap.size w)
 delta spec_HasherNew.f at h
 have H := h
 clear h
 obtain ⟨t189, A1, H⟩ := bN_ H
 obtain ⟨t192, A2, H⟩ := bN_ H
 simp only [Option.some.injEq, Prod.mk.injEq] at H
 obtain ⟨rfl, rfl, rfl⟩ := H
 go_enter Tryd.func23, Tryd.ntmps23
 go_wp2_with (first | ((with_reducible refine gate_dst (N := 0) rfl ?_); refine box_event ?hg (N := 0) ?hd (cs := #[.string (⟨#[]⟩ : ByteArray), .string (⟨#[]⟩ : ByteArray), .int .i64 0]) (t := 42) ?hr ?_; (case hd => rfl); (case hg => rfl); (case hr => first | (go_simp; done) | (go_simp; rfl)); intro gb188 hg w3 hbox hb; have n_ := b_ (below_step (hB_) hb) <| b_ (hbox) <| b_ (by rw [hg]; exact (below_size (hB_)) : w.heap.size ≤ gb188) <| c_ (by rw [hg]; exact (below_size (hB_)) : w.heap.size ≤ gb188); clear HB; obtain ⟨HB, BK188, GW188, GE188⟩ := n_; clear hb hbox hg) | ((with_reducible refine gate_callee (f := 49) rfl ?_); refine goesL_ (some 1) rfl rfl Tryd.func49 (by kernel_rfl) rfl #[] rfl aM_ ?_; (with_reducible refine (spec_l05First.calls  t189 _ A1.out).mono ?_); rintro e w4 ⟨v190, rfl, ho0, hb⟩; refine ⟨_, rfl, ?_⟩; have n_ := b_ (Kd.R_lower ho0 (below_size (hS_ GE188.out))) <| b_ (blk_below (g := gb188) (o := .cells #[.string (⟨#[]⟩ : ByteArray), .string (⟨#[]⟩ : ByteArray), .int .i64 0] 42 (0, 0)) (rK_ BK188.out) hb) <| c_ (below_step (hS_ GE188.out) hb); clear BK188 HB; obtain ⟨HO191, BK188, HB⟩ := n_; obtain ⟨Ao5, co5, eo5⟩ := Kd.R_slice HO191.out; subst eo5) | ((with_reducible refine gate_callee (f := 48) rfl ?_); refine goesL_ (some 2) rfl rfl Tryd.func48 (by kernel_rfl) rfl #[.slice Ao5 t189.length co5] rfl aM_ ?_; (with_reducible refine (spec_l05Bytes.calls k _ _ t189 t192 _ ?side1 ?side2 A2.out).mono ?_); (case side1 => exact cR_ (Kd.R_reads' HO191.out).2.2); (case side2 => exact (Kd.R_reads' HO191.out).2.1); rintro e w6 ⟨rfl, hb⟩; refine ⟨_, rfl, ?_⟩; have n_ := b_ (Kd.R_below (rR_ HO191.out) hb) <| b_ (blk_below (g := gb188) (o := .cells #[.string (⟨#[]⟩ : ByteArray), .string (⟨#[]⟩ : ByteArray), .int .i64 0] 42 (0, 0)) (rK_ BK188.out) hb) <| c_ (below_step (hS_ GE188.out) hb); clear HO191 BK188 HB; obtain ⟨HO191, BK188, HB⟩ := n_; have hcz7_0 : w6.cell? ⟨gb188, 0, none⟩ = some (.string (⟨#[]⟩ : ByteArray)) := (blk_cell BK188.out 0).trans rfl; have hcz7_1 : w6.cell? ⟨gb188, 1, none⟩ = some (.string (⟨#[]⟩ : ByteArray)) := (blk_cell BK188.out 1).trans rfl; have hcz7_2 : w6.cell? ⟨gb188, 2, none⟩ = some (.int .i64 0) := (blk_cell BK188.out 2).trans rfl; have hfz7_0 := blk_frozen BK188.out 0; have hfz7_1 := blk_frozen BK188.out 1; have hfz7_2 := blk_frozen BK188.out 2))
 refine bodyPost_ret (results_cell_row rfl _ _ gb188 42 #[.string t192, .string (⟨#[]⟩ : ByteArray), .int .i64 0] (0, 0) _ rfl (by refine kK_ ?_; refine blk_put (cs := #[.string t192, .string (⟨#[]⟩ : ByteArray), .int .i64 0]) ?_ 2 _ rfl; refine kK_ ?_; refine blk_put (cs := #[.string t192, .string (⟨#[]⟩ : ByteArray), .int .i64 0]) ?_ 1 _ rfl; refine kK_ ?_; refine blk_put (cs := #[.string (⟨#[]⟩ : ByteArray), .string (⟨#[]⟩ : ByteArray), .int .i64 0]) ?_ 0 _ rfl; exact rK_ BK188.out) Tryd.underlying42 rfl (by kernel_rfl)) rfl ?_
 exact ⟨f1_, hS_ GE188.out⟩

/-! ### spec_l06Byte: function 29 -/
def spec_l06Byte.f (a0 : Int) : Option (ByteArray) := if (Int.tmod a0 256) < 0 then (some (strOfNums (([(wrap64 ((Int.tmod a0 256) + 256)) % 256] : List Int)))) else (some (strOfNums (([(Int.tmod a0 256) % 256] : List Int))))
theorem spec_l06Byte.calls (a0 : Int) (r : ByteArray) (w : World) (h : spec_l06Byte.f a0 = some r) :
  Calls Tryd.prog 29 #[.int .i64 a0] w fun e w' => e = .returned (.string r) ∧ Below w.heap.size w w' := by
 have HB := Aside0.mk (Below.refl w.heap.size w)
 delta spec_l06Byte.f at h
 have H := h
 clear h
 by_cases c2 : (Int.tmod a0 256) < 0
 ·rw [if_pos c2] at H
  have c2b0 := decide_eq_true c2
  clear c2
  obtain ⟨y200, hy200⟩ : ∃ y_ : List Int, y_ = (([(wrap64 ((Int.tmod a0 256) + 256)) % 256] : List Int)) := ⟨_, rfl⟩
  first | replace H := yb_ hy200 H | rw [← hy200] at H
  have Ny200 := Aside0.mk hy200
  clear hy200
  obtain rfl := Option.some.inj H
  go_enter Tryd.func29, Tryd.ntmps29
  go_wp2_with (first | ((with_reducible refine gate_dst (N := 11) rfl ?_); refine Kd.R_lit (Kd.int .u8) _ 5 ?hg (N := 11) ?hd (xs := ([(wrap64 ((Int.tmod a0 256) + 256)) % 256] : List Int)) (inner := [.int .u8 ((wrap64 ((Int.tmod a0 256) + 256)) % 256)]) (ok := fun _ => True) (okp := fun _ => True) ?hr ?hp (fun _ hk => hk) trivial (Below.refl _ _) (Nat.le_refl _) (by simp) ?_; (case hd => rfl); (case hg => rfl); (case hr => first | (go_simp; done) | (go_simp; rfl)); (case hp => exact (Reps.one (show Kd.M (Kd.int .u8) _ _ _ ((wrap64 ((Int.tmod a0 256) + 256)) % 256) [.int .u8 ((wrap64 ((Int.tmod a0 256) + 256)) % 256)] from rfl) (Reps.none _ _))); intro v201 w3 ho4 hb hg_ hnew_; clear hg_ hnew_; (first | rw [← Ny200.out] at ho4 | (simp only [Int.reduceToNat] at ho4; rw [← Ny200.out] at ho4)); have n_ := b_ (Kd.R_lower ho4 (below_size (hB_))) <| c_ (below_step (hB_) hb); clear HB; obtain ⟨HO202, HB⟩ := n_; clear hb ho4; have hcv5 := own_string (P := Tryd.prog) Tryd.underlying62 Tryd.underlying5 Tryd.underlying9 (Kd.own_of_R HO202.out)))
  go_ret
  exact ⟨f1_, hB_⟩
 rw [if_neg c2] at H
 have c2b0 := decide_eq_false c2
 clear c2
 obtain ⟨y203, hy203⟩ : ∃ y_ : List Int, y_ = (([(Int.tmod a0 256) % 256] : List Int)) := ⟨_, rfl⟩
 first | replace H := yb_ hy203 H | rw [← hy203] at H
 have Ny203 := Aside0.mk hy203
 clear hy203
 obtain rfl := Option.some.inj H
 go_enter Tryd.func29, Tryd.ntmps29
 go_wp2_with (first | ((with_reducible refine gate_dst (N := 11) rfl ?_); refine Kd.R_lit (Kd.int .u8) _ 5 ?hg (N := 11) ?hd (xs := ([(Int.tmod a0 256) % 256] : List Int)) (inner := [.int .u8 ((Int.tmod a0 256) % 256)]) (ok := fun _ => True) (okp := fun _ => True) ?hr ?hp (fun _ hk => hk) trivial (Below.refl _ _) (Nat.le_refl _) (by simp) ?_; (case hd => rfl); (case hg => rfl); (case hr => first | (go_simp; done) | (go_simp; rfl)); (case hp => exact (Reps.one (show Kd.M (Kd.int .u8) _ _ _ ((Int.tmod a0 256) % 256) [.int .u8 ((Int.tmod a0 256) % 256)] from rfl) (Reps.none _ _))); intro v204 w6 ho7 hb hg_ hnew_; clear hg_ hnew_; (first | rw [← Ny203.out] at ho7 | (simp only [Int.reduceToNat] at ho7; rw [← Ny203.out] at ho7)); have n_ := b_ (Kd.R_lower ho7 (below_size (hB_))) <| c_ (below_step (hB_) hb); clear HB; obtain ⟨HO205, HB⟩ := n_; clear hb ho7; have hcv8 := own_string (P := Tryd.prog) Tryd.underlying62 Tryd.underlying5 Tryd.underlying9 (Kd.own_of_R HO205.out)))
 go_ret
 exact ⟨f1_, hB_⟩

/-! ### spec_l07Lanes: function 76 -/
mutual
def spec_l07Lanes.l0 : Nat → ByteArray → List Int → Int → Option (List Int)
 | 0, _, _, _ => none
 | k + 1, x0, x3, x4 => if (wrap64 (x4 + 8)) ≤ (x0.size : Int) then (spec_l07Lanes.l1 k x0 x3 x4 0 7) else (some x3)
def spec_l07Lanes.l1 : Nat → ByteArray → List Int → Int → Int → Int → Option (List Int)
 | 0, _, _, _, _, _ => none
 | k + 1, x0, x3, x4, x5, x6 => if x6 ≥ 0 then (if 0 ≤ (wrap64 (x4 + x6)) then (if (wrap64 (x4 + x6)) < (x0.size : Int) then (spec_l07Lanes.l1 k x0 x3 x4 (IntKind.u64.wrap ((IntKind.u64.wrap (x5 * 256)) + (IntKind.u64.wrap (bt x0 (wrap64 (x4 + x6)))))) (wrap64 (x6 - 1))) else (none)) else (none)) else (if x3.length < 17592186044416 then (spec_l07Lanes.l0 k x0 (x3 ++ [x5]) (wrap64 (x4 + 8))) else (none))
end
def spec_l07Lanes.f (k : Nat) (a0 : ByteArray) : Option (List Int) := spec_l07Lanes.l0 k a0 (([] : List Int)) 0
theorem spec_l07Lanes.mono_l : ∀ k, (∀ y0 y1 y2, LeO (spec_l07Lanes.l0 k y0 y1 y2) (spec_l07Lanes.l0 (k + 1) y0 y1 y2)) ∧ (∀ y0 y1 y2 y3 y4, LeO (spec_l07Lanes.l1 k y0 y1 y2 y3 y4) (spec_l07Lanes.l1 (k + 1) y0 y1 y2 y3 y4))
 | 0 => ⟨fun _ _ _ r h => by simp [spec_l07Lanes.l0] at h, fun _ _ _ _ _ r h => by simp [spec_l07Lanes.l1] at h⟩
 | k + 1 => by
  obtain ⟨ih0, ih1⟩ := spec_l07Lanes.mono_l k
  refine ⟨?_, ?_⟩ <;> (intros; (first | unfold spec_l07Lanes.l0 | unfold spec_l07Lanes.l1); exact o2_ ih0 ih1)
theorem spec_l07Lanes.mono : ∀ a0 k, LeO (spec_l07Lanes.f k a0) (spec_l07Lanes.f (k + 1) a0) := by
 intro a0 k
 obtain ⟨ih0, ih1⟩ := spec_l07Lanes.mono_l k
 unfold spec_l07Lanes.f
 exact o2_ ih0 ih1
theorem spec_l07Lanes.calls (k : Nat) (a0 : ByteArray) (r : List Int) (w : World) (h : spec_l07Lanes.f k a0 = some r) :
  Calls Tryd.prog 76 #[.string a0] w fun e w' => ∃ v0_ : Value, e = .returned (v0_) ∧ Kd.R (Kd.int .u64) 86 w' w.heap.size (fun _ => True) v0_ r ∧ Below w.heap.size w w' := by
 have HB := Aside0.mk (Below.refl w.heap.size w)
 delta spec_l07Lanes.f at h
 have H := h
 clear h
 obtain ⟨y206, hy206⟩ : ∃ y_ : List Int, y_ = (([] : List Int)) := ⟨_, rfl⟩
 first | replace H := yb_ hy206 H | rw [← hy206] at H
 have Ny206 := Aside0.mk hy206
 clear hy206
 have H' := Aside0.mk H
 clear H
 go_enter Tryd.func76, Tryd.ntmps76
 go_wp2_with (first | ((with_reducible refine gate_dst (N := 7) rfl ?_); refine Kd.R_lit (Kd.int .u64) _ 86 ?hg (N := 7) ?hd (xs := ([] : List Int)) (inner := []) (ok := fun _ => True) (okp := fun _ => True) ?hr ?hp (fun _ hk => hk) trivial (Below.refl _ _) (Nat.le_refl _) (by simp) ?_; (case hd => rfl); (case hg => rfl); (case hr => first | (go_simp; done) | (go_simp; rfl)); (case hp => exact (Reps.none _ _)); intro v207 w2 ho3 hb hg_ hnew_; clear hg_ hnew_; (first | rw [← Ny206.out] at ho3 | (simp only [Int.reduceToNat] at ho3; rw [← Ny206.out] at ho3)); have n_ := b_ (Kd.R_lower ho3 (below_size (hB_))) <| c_ (below_step (hB_) hb); clear HB; obtain ⟨HO208, HB⟩ := n_; clear hb ho3))
 go_loopg [3, 4] k (fun kq v3 v4 w' => ∃ (x3_1 : List Int) (x4_1 : Int), v4 = .int .i64 x4_1 ∧ Aside0 (spec_l07Lanes.l0 kq a0 x3_1 x4_1 = some r) ∧ Aside0 (kq ≤ k) ∧ Aside0 (Kd.R (Kd.int .u64) 86 w' w.heap.size (fun _ => True) v3 x3_1) ∧ Aside0 (Below w.heap.size w w'))
 case atStart => exact ⟨(y206), (0), f0_, H', ⟨Nat.le_refl _⟩, ⟨rR_ HO208.out⟩, ⟨hB_⟩⟩
 case round =>
  clear H'
  obtain ⟨x3_1, x4_1, rfl, HA, HK1, HO_3, HB⟩ := hrel
  cases gk with
  | zero => exact absurd HA.out (by simp [spec_l07Lanes.l0])
  | succ k1 =>
   have H := HA.out
   clear HA
   simp only [spec_l07Lanes.l0] at H
   by_cases c4 : (wrap64 (x4_1 + 8)) ≤ (a0.size : Int)
   rotate_left
   ·rw [if_neg c4] at H
    have c4b0 := decide_eq_false c4
    clear c4
    obtain rfl := Option.some.inj H
    go_wp2
    go_ret
    exact ⟨_, f1_, rR_ HO_3.out, hB_⟩
   rw [if_pos c4] at H
   have c4b0 := decide_eq_true c4
   clear c4
   have H' := Aside0.mk H
   clear H
   go_wp2
   go_loopg [5, 6] k1 (fun kq v5 v6 w' => ∃ (x5_2 : Int) (x6_2 : Int), v5 = .int .u64 x5_2 ∧ v6 = .int .i64 x6_2 ∧ Aside0 (spec_l07Lanes.l1 kq a0 x3_1 x4_1 x5_2 x6_2 = some r) ∧ Aside0 (kq ≤ k1) ∧ Aside0 (Kd.R (Kd.int .u64) 86 w' w.heap.size (fun _ => True) u3 x3_1) ∧ Aside0 (Below w.heap.size w w'))
   case atStart => exact ⟨(0), (7), f0_, f0_, H', ⟨Nat.le_refl _⟩, ⟨rR_ HO_3.out⟩, ⟨hB_⟩⟩
   case round =>
    clear H'
    obtain ⟨x5_2, x6_2, rfl, rfl, HA, HK2, HO_3, HB⟩ := hrel
    cases gk with
    | zero => exact absurd HA.out (by simp [spec_l07Lanes.l1])
    | succ k2 =>
     have H := HA.out
     clear HA
     simp only [spec_l07Lanes.l1] at H
     by_cases c5 : x6_2 ≥ 0
     ·rw [if_pos c5] at H
      have c5b0 := decide_eq_true c5
      clear c5
      obtain ⟨ji6, hji6⟩ : ∃ j_ : Int, (wrap64 (x4_1 + x6_2)) = j_ := ⟨_, rfl⟩
      first | rw [hji6] at H | simp only [hji6] at H
      have hji6w : (IntKind.i64.wrap (x4_1 + x6_2)) = ji6 := (i64_w _).trans hji6
      obtain ⟨c7b0, H⟩ := iD_ H
      obtain ⟨c8b0, H⟩ := iD_ H
      have H' := Aside0.mk H
      clear H
      have p9 := eq_true (oD_ : 0 ≤ ((ji6) : Int))
      have q9 := eq_true (oD_ : (ji6) < (a0.size : Int))
      have hx9 := bt_at a0 (ji6)
      go_wp2
      go_roundg k2
      case measure => have := HK1.out; have := HK2.out; omega
      case rel => exact ⟨(IntKind.u64.wrap ((IntKind.u64.wrap (x5_2 * 256)) + (IntKind.u64.wrap (bt a0 (ji6))))), (wrap64 (x6_2 - 1)), (by first | rfl | (simp; done) | (simp only [← hji6] <;> (first | rfl | simp)) | (simp [*]; done)), f0_, H', ⟨by have := HK1.out; have := HK2.out; omega⟩, ⟨rR_ HO_3.out⟩, ⟨hB_⟩⟩
     rw [if_neg c5] at H
     have c5b0 := decide_eq_false c5
     clear c5
     obtain ⟨c10, H⟩ := iN_ H
     have LMc10 := Aside0.mk c10
     clear c10
     obtain ⟨y209, hy209⟩ : ∃ y_ : List Int, y_ = (x3_1 ++ [x5_2]) := ⟨_, rfl⟩
     first | replace H := yb_ hy209 H | rw [← hy209] at H
     have Ny209 := Aside0.mk hy209
     clear hy209
     have H' := Aside0.mk H
     clear H
     go_wp2_with (first | ((with_reducible refine gate_builtin (b := .append) (xs := #[.tmp 28, .tmp 30]) rfl ?_); at_builtin; refine Kd.R_append (Kd.int .u64) (w0 := w) w.heap.size rfl (.tmp 28) (.tmp 30) 84 86 (.int .u64 0) 8 rfl Tryd.underlying84 info86 rfl (by decide) (by omega) u3 x3_1 x5_2 [.int .u64 x5_2] (fun _ => True) (fun _ => False) rfl rfl ?aP (fun _ hk => hk.elim) ?aF ?aO ?aB ?aS ?aL ?_; (case aP => exact rfl); (case aB => exact (hB_)); (case aF => exact (fun _ _ => trivial)); (case aO => exact (rR_ HO_3.out)); (case aS => exact (below_size (hB_))); (case aL => have := LMc10.out; omega); intro v210 w11 ho hb hg hat; rw [← Ny209.out] at ho; have n_ := b_ (hb) <| c_ (ho); clear HO_3 HB; obtain ⟨HB, HO211⟩ := n_; clear ho hb hg hat))
     go_roundg k2
     case measure => have := HK1.out; have := HK2.out; omega
     case rel => exact ⟨(y209), (wrap64 (x4_1 + 8)), f0_, H', ⟨by have := HK1.out; have := HK2.out; omega⟩, ⟨rR_ HO211.out⟩, ⟨hB_⟩⟩

/-! ### spec_l07Turns: function 83 -/
def spec_l07Turns.l0 : Nat → List Int → Int → Int → Int → Option (List Int)
 | 0, _, _, _, _ => none
 | k + 1, x1, x2, x3, x4 => if x4 < 24 then (if 0 ≤ (wrap64 (x2 + (wrap64 (5 * x3)))) then (if (wrap64 (x2 + (wrap64 (5 * x3)))) < (x1.length : Int) then (spec_l07Turns.l0 k (x1.set ((wrap64 (x2 + (wrap64 (5 * x3)))) : Int).toNat (Int.tmod (wrap64 (Int.tdiv (wrap64 ((wrap64 (x4 + 1)) * (wrap64 (x4 + 2)))) 2)) 64)) x3 (Int.tmod (wrap64 ((wrap64 (2 * x2)) + (wrap64 (3 * x3)))) 5) (wrap64 (x4 + 1))) else (none)) else (none)) else (some x1)
def spec_l07Turns.f (k : Nat)  : Option (List Int) := if 25 ≤ 35184372088832 then (spec_l07Turns.l0 k (List.replicate 25 0) 1 0 0) else (none)
theorem spec_l07Turns.mono_l : ∀ k, (∀ y0 y1 y2 y3, LeO (spec_l07Turns.l0 k y0 y1 y2 y3) (spec_l07Turns.l0 (k + 1) y0 y1 y2 y3))
 | 0 => fun _ _ _ _ r h => by simp [spec_l07Turns.l0] at h
 | k + 1 => by
  have ih0 := spec_l07Turns.mono_l k
  intros; unfold spec_l07Turns.l0; exact o1_ ih0
theorem spec_l07Turns.mono : ∀ k, LeO (spec_l07Turns.f k ) (spec_l07Turns.f (k + 1) ) := by
 intro  k
 have ih0 := spec_l07Turns.mono_l k
 unfold spec_l07Turns.f
 exact o1_ ih0
theorem spec_l07Turns.calls (k : Nat)  (r : List Int) (w : World) (h : spec_l07Turns.f k  = some r) :
  Calls Tryd.prog 83 #[] w fun e w' => ∃ v0_ : Value, e = .returned (v0_) ∧ Kd.R (Kd.int .i64) 3 w' w.heap.size (fun _ => True) v0_ r ∧ Below w.heap.size w w' := by
 have HB := Aside0.mk (Below.refl w.heap.size w)
 delta spec_l07Turns.f at h
 have H := h
 clear h
 obtain ⟨c1, H⟩ := iN_ H
 have c1b0 := eq_true c1
 have c1b1 := decide_eq_true c1
 clear c1
 obtain ⟨y212, hy212⟩ : ∃ y_ : List Int, y_ = (List.replicate 25 0) := ⟨_, rfl⟩
 first | replace H := yb_ hy212 H | rw [← hy212] at H
 have Ny212 := Aside0.mk hy212
 clear hy212
 have H' := Aside0.mk H
 clear H
 go_enter Tryd.func83, Tryd.ntmps83
 go_wp2_with (first | ((with_reducible refine gate_dst (N := 6) rfl ?_); refine Kd.R_make (Kd.int .i64) _ 3 rfl (N := 6) rfl 31 _ _ rfl 25 rfl rfl Tryd.underlying31 (.int .i64 0) 8 info3 rfl (by decide) (by omega) 0 (ok := fun _ => True) (okp := fun _ => True) rfl (fun _ hk => hk) trivial (by omega) (by omega) (Below.refl _ _) (Nat.le_refl _) ?_; intro v213 w2 ho3 hb hg_ hnew_; clear hg_ hnew_; (first | rw [← Ny212.out] at ho3 | (simp only [Int.reduceToNat] at ho3; rw [← Ny212.out] at ho3)); have n_ := b_ (Kd.R_lower ho3 (below_size (hB_))) <| c_ (below_step (hB_) hb); clear HB; obtain ⟨HO214, HB⟩ := n_; clear hb ho3))
 go_loopg [2, 3, 4] k (fun kq v2 v3 v4 w' => ∃ (x1_1 : List Int) (x2_1 : Int) (x3_1 : Int) (x4_1 : Int), v2 = .int .i64 x2_1 ∧ v3 = .int .i64 x3_1 ∧ v4 = .int .i64 x4_1 ∧ Aside0 (spec_l07Turns.l0 kq x1_1 x2_1 x3_1 x4_1 = some r) ∧ Aside0 (kq ≤ k) ∧ Aside0 (Kd.R (Kd.int .i64) 3 w' w.heap.size (fun _ => True) v213 x1_1) ∧ Aside0 (Below w.heap.size w w'))
 case atStart => exact ⟨(y212), (1), (0), (0), f0_, f0_, f0_, H', ⟨Nat.le_refl _⟩, ⟨rR_ HO214.out⟩, ⟨hB_⟩⟩
 case round =>
  clear H'
  obtain ⟨x1_1, x2_1, x3_1, x4_1, rfl, rfl, rfl, HA, HK1, HO_1, HB⟩ := hrel
  cases gk with
  | zero => exact absurd HA.out (by simp [spec_l07Turns.l0])
  | succ k1 =>
   have H := HA.out
   clear HA
   simp only [spec_l07Turns.l0] at H
   by_cases c4 : x4_1 < 24
   rotate_left
   ·rw [if_neg c4] at H
    have c4b0 := decide_eq_false c4
    clear c4
    obtain rfl := Option.some.inj H
    go_wp2
    go_ret
    exact ⟨_, f1_, rR_ HO_1.out, hB_⟩
   rw [if_pos c4] at H
   have c4b0 := decide_eq_true c4
   clear c4
   obtain ⟨ji5, hji5⟩ : ∃ j_ : Int, (wrap64 (x2_1 + (wrap64 (5 * x3_1)))) = j_ := ⟨_, rfl⟩
   first | rw [hji5] at H | simp only [hji5] at H
   have hji5w : (IntKind.i64.wrap (x2_1 + (wrap64 (5 * x3_1)))) = ji5 := (i64_w _).trans hji5
   obtain ⟨c6b0, H⟩ := iD_ H
   obtain ⟨c7b0, H⟩ := iD_ H
   obtain ⟨y215, hy215⟩ : ∃ y_ : List Int, y_ = (x1_1.set ((ji5) : Int).toNat (Int.tmod (wrap64 (Int.tdiv (wrap64 ((wrap64 (x4_1 + 1)) * (wrap64 (x4_1 + 2)))) 2)) 64)) := ⟨_, rfl⟩
   first | replace H := yb_ hy215 H | rw [← hy215] at H
   have Ny215 := Aside0.mk hy215
   clear hy215
   have H' := Aside0.mk H
   clear H
   have p8 : 0 ≤ ((ji5) : Int) := oD_
   have q8 : ((ji5) : Int) < ((x1_1.length : Int) : Int) := oD_
   obtain ⟨go8, co8, eo8, gb8, gl8, cl8, HG8⟩ := Kd.R_form HO_1.out (by omega)
   (first | cases eo8 | (injection eo8 with ea_ en_ ec_; (first | subst ea_ | (injection ea_ with ea_; subst ea_)); subst ec_; clear en_))
   have GB8 := Aside0.mk gb8
   have GG8 := Aside0.mk HG8
   clear gb8 gl8 HG8
   obtain ⟨hx8_0, hf8_0⟩ := Kd.R_celln 0 HO_1.out ((ji5) : Int) p8 q8
   replace p8 := eq_true p8
   replace q8 := eq_true q8
   have HP9 := Kd.R_putg HO_1.out ((ji5) : Int) (Int.tmod (wrap64 (Int.tdiv (wrap64 ((wrap64 (x4_1 + 1)) * (wrap64 (x4_1 + 2)))) 2)) 64)
   go_wp2_with (first | ((with_reducible refine gate_store (t := 3) (p := 23) rfl ?_); refine store_event (t := 3) (p := 23) (v := ?vo_w10) (w1 := (wr.setCell ⟨go8, ((ji5) : Int).toNat, none⟩ (.int .i64 (Int.tmod (wrap64 (Int.tdiv (wrap64 ((wrap64 (x4_1 + 1)) * (wrap64 (x4_1 + 2)))) 2)) 64)))) ?hg ?ho ?hn ?hr ?_; (case ho => rfl); (case hg => rfl); (case hn => rfl); (case hr => first | (go_simp; done) | (go_simp; rfl)); intro w10 hw; have hg : wr.grownBy w10 (some go8) := (by rw [hw]; exact HP9.2); have hp_ : Kd.R (Kd.int .i64) 3 w10 w.heap.size (fun _ => True) (.slice (some ⟨go8, 0, none⟩) x1_1.length co8) y215 := (by rw [hw, Ny215.out]; exact HP9.1); clear HP9; have n_ := b_ (hp_) <| c_ (by rw [hw]; exact below_set (HB.out) GB8.out : Below w.heap.size w w10); clear HO_1 HB; obtain ⟨HO_1, HB⟩ := n_; clear hg hw hp_))
   go_roundg k1
   case measure => have := HK1.out; omega
   case rel => exact ⟨(y215), (x3_1), (Int.tmod (wrap64 ((wrap64 (2 * x2_1)) + (wrap64 (3 * x3_1)))) 5), (wrap64 (x4_1 + 1)), f0_, f0_, f0_, H', ⟨by have := HK1.out; omega⟩, ⟨rR_ HO_1.out⟩, ⟨hB_⟩⟩

/-! ### spec_l07Rounds: function 84 -/
mutual
def spec_l07Rounds.l0 : Nat → List Int → Int → Int → Option (List Int)
 | 0, _, _, _ => none
 | k + 1, x1, x2, x3 => if x3 < 24 then (spec_l07Rounds.l1 k x1 x2 x3 0 1 0) else (some x1)
def spec_l07Rounds.l1 : Nat → List Int → Int → Int → Int → Int → Int → Option (List Int)
 | 0, _, _, _, _, _, _ => none
 | k + 1, x1, x2, x3, x4, x5, x6 => if x6 < 7 then (if (Int.tmod x2 2) = 1 then (if (wrap64 (x2 * 2)) ≥ 256 then (spec_l07Rounds.l1 k x1 (Go.bits .xor .i64 (wrap64 ((wrap64 (x2 * 2)) - 256)) 113) x3 (IntKind.u64.wrap (x4 + x5)) (IntKind.u64.wrap ((IntKind.u64.wrap (x5 * x5)) * 2)) (wrap64 (x6 + 1))) else (spec_l07Rounds.l1 k x1 (wrap64 (x2 * 2)) x3 (IntKind.u64.wrap (x4 + x5)) (IntKind.u64.wrap ((IntKind.u64.wrap (x5 * x5)) * 2)) (wrap64 (x6 + 1)))) else (if (wrap64 (x2 * 2)) ≥ 256 then (spec_l07Rounds.l1 k x1 (Go.bits .xor .i64 (wrap64 ((wrap64 (x2 * 2)) - 256)) 113) x3 x4 (IntKind.u64.wrap ((IntKind.u64.wrap (x5 * x5)) * 2)) (wrap64 (x6 + 1))) else (spec_l07Rounds.l1 k x1 (wrap64 (x2 * 2)) x3 x4 (IntKind.u64.wrap ((IntKind.u64.wrap (x5 * x5)) * 2)) (wrap64 (x6 + 1))))) else (if x1.length < 17592186044416 then (spec_l07Rounds.l0 k (x1 ++ [x4]) x2 (wrap64 (x3 + 1))) else (none))
end
def spec_l07Rounds.f (k : Nat)  : Option (List Int) := spec_l07Rounds.l0 k (([] : List Int)) 1 0
theorem spec_l07Rounds.mono_l : ∀ k, (∀ y0 y1 y2, LeO (spec_l07Rounds.l0 k y0 y1 y2) (spec_l07Rounds.l0 (k + 1) y0 y1 y2)) ∧ (∀ y0 y1 y2 y3 y4 y5, LeO (spec_l07Rounds.l1 k y0 y1 y2 y3 y4 y5) (spec_l07Rounds.l1 (k + 1) y0 y1 y2 y3 y4 y5))
 | 0 => ⟨fun _ _ _ r h => by simp [spec_l07Rounds.l0] at h, fun _ _ _ _ _ _ r h => by simp [spec_l07Rounds.l1] at h⟩
 | k + 1 => by
  obtain ⟨ih0, ih1⟩ := spec_l07Rounds.mono_l k
  refine ⟨?_, ?_⟩ <;> (intros; (first | unfold spec_l07Rounds.l0 | unfold spec_l07Rounds.l1); exact o2_ ih0 ih1)
theorem spec_l07Rounds.mono : ∀ k, LeO (spec_l07Rounds.f k ) (spec_l07Rounds.f (k + 1) ) := by
 intro  k
 obtain ⟨ih0, ih1⟩ := spec_l07Rounds.mono_l k
 unfold spec_l07Rounds.f
 exact o2_ ih0 ih1
theorem spec_l07Rounds.calls (k : Nat)  (r : List Int) (w : World) (h : spec_l07Rounds.f k  = some r) :
  Calls Tryd.prog 84 #[] w fun e w' => ∃ v0_ : Value, e = .returned (v0_) ∧ Kd.R (Kd.int .u64) 86 w' w.heap.size (fun _ => True) v0_ r ∧ Below w.heap.size w w' := by
 have HB := Aside0.mk (Below.refl w.heap.size w)
 delta spec_l07Rounds.f at h
 have H := h
 clear h
 obtain ⟨y216, hy216⟩ : ∃ y_ : List Int, y_ = (([] : List Int)) := ⟨_, rfl⟩
 first | replace H := yb_ hy216 H | rw [← hy216] at H
 have Ny216 := Aside0.mk hy216
 clear hy216
 have H' := Aside0.mk H
 clear H
 go_enter Tryd.func84, Tryd.ntmps84
 go_wp2_with (first | ((with_reducible refine gate_dst (N := 7) rfl ?_); refine Kd.R_lit (Kd.int .u64) _ 86 ?hg (N := 7) ?hd (xs := ([] : List Int)) (inner := []) (ok := fun _ => True) (okp := fun _ => True) ?hr ?hp (fun _ hk => hk) trivial (Below.refl _ _) (Nat.le_refl _) (by simp) ?_; (case hd => rfl); (case hg => rfl); (case hr => first | (go_simp; done) | (go_simp; rfl)); (case hp => exact (Reps.none _ _)); intro v217 w1 ho2 hb hg_ hnew_; clear hg_ hnew_; (first | rw [← Ny216.out] at ho2 | (simp only [Int.reduceToNat] at ho2; rw [← Ny216.out] at ho2)); have n_ := b_ (Kd.R_lower ho2 (below_size (hB_))) <| c_ (below_step (hB_) hb); clear HB; obtain ⟨HO218, HB⟩ := n_; clear hb ho2))
 go_loopg [1, 2, 3] k (fun kq v1 v2 v3 w' => ∃ (x1_1 : List Int) (x2_1 : Int) (x3_1 : Int), v2 = .int .i64 x2_1 ∧ v3 = .int .i64 x3_1 ∧ Aside0 (spec_l07Rounds.l0 kq x1_1 x2_1 x3_1 = some r) ∧ Aside0 (kq ≤ k) ∧ Aside0 (Kd.R (Kd.int .u64) 86 w' w.heap.size (fun _ => True) v1 x1_1) ∧ Aside0 (Below w.heap.size w w'))
 case atStart => exact ⟨(y216), (1), (0), f0_, f0_, H', ⟨Nat.le_refl _⟩, ⟨rR_ HO218.out⟩, ⟨hB_⟩⟩
 case round =>
  clear H'
  obtain ⟨x1_1, x2_1, x3_1, rfl, rfl, HA, HK1, HO_1, HB⟩ := hrel
  cases gk with
  | zero => exact absurd HA.out (by simp [spec_l07Rounds.l0])
  | succ k1 =>
   have H := HA.out
   clear HA
   simp only [spec_l07Rounds.l0] at H
   by_cases c3 : x3_1 < 24
   rotate_left
   ·rw [if_neg c3] at H
    have c3b0 := decide_eq_false c3
    clear c3
    obtain rfl := Option.some.inj H
    go_wp2
    go_ret
    exact ⟨_, f1_, rR_ HO_1.out, hB_⟩
   rw [if_pos c3] at H
   have c3b0 := decide_eq_true c3
   clear c3
   have H' := Aside0.mk H
   clear H
   go_wp2
   go_loopg [2, 4, 5, 6] k1 (fun kq v2 v4 v5 v6 w' => ∃ (x2_2 : Int) (x4_2 : Int) (x5_2 : Int) (x6_2 : Int), v2 = .int .i64 x2_2 ∧ v4 = .int .u64 x4_2 ∧ v5 = .int .u64 x5_2 ∧ v6 = .int .i64 x6_2 ∧ Aside0 (spec_l07Rounds.l1 kq x1_1 x2_2 x3_1 x4_2 x5_2 x6_2 = some r) ∧ Aside0 (kq ≤ k1) ∧ Aside0 (Kd.R (Kd.int .u64) 86 w' w.heap.size (fun _ => True) u1 x1_1) ∧ Aside0 (Below w.heap.size w w'))
   case atStart => exact ⟨(x2_1), (0), (1), (0), f0_, f0_, f0_, f0_, H', ⟨Nat.le_refl _⟩, ⟨rR_ HO_1.out⟩, ⟨hB_⟩⟩
   case round =>
    clear H'
    obtain ⟨x2_2, x4_2, x5_2, x6_2, rfl, rfl, rfl, rfl, HA, HK2, HO_1, HB⟩ := hrel
    cases gk with
    | zero => exact absurd HA.out (by simp [spec_l07Rounds.l1])
    | succ k2 =>
     have H := HA.out
     clear HA
     simp only [spec_l07Rounds.l1] at H
     by_cases c4 : x6_2 < 7
     rotate_left
     ·rw [if_neg c4] at H
      have c4b0 := decide_eq_false c4
      clear c4
      obtain ⟨c8, H⟩ := iN_ H
      have LMc8 := Aside0.mk c8
      clear c8
      obtain ⟨y219, hy219⟩ : ∃ y_ : List Int, y_ = (x1_1 ++ [x4_2]) := ⟨_, rfl⟩
      first | replace H := yb_ hy219 H | rw [← hy219] at H
      have Ny219 := Aside0.mk hy219
      clear hy219
      have H' := Aside0.mk H
      clear H
      go_wp2_with (first | ((with_reducible refine gate_builtin (b := .append) (xs := #[.tmp 33, .tmp 35]) rfl ?_); at_builtin; refine Kd.R_append (Kd.int .u64) (w0 := w) w.heap.size rfl (.tmp 33) (.tmp 35) 84 86 (.int .u64 0) 8 rfl Tryd.underlying84 info86 rfl (by decide) (by omega) u1 x1_1 x4_2 [.int .u64 x4_2] (fun _ => True) (fun _ => False) rfl rfl ?aP (fun _ hk => hk.elim) ?aF ?aO ?aB ?aS ?aL ?_; (case aP => exact rfl); (case aB => exact (hB_)); (case aF => exact (fun _ _ => trivial)); (case aO => exact (rR_ HO_1.out)); (case aS => exact (below_size (hB_))); (case aL => have := LMc8.out; omega); intro v220 w9 ho hb hg hat; rw [← Ny219.out] at ho; have n_ := b_ (hb) <| c_ (ho); clear HO_1 HB; obtain ⟨HB, HO221⟩ := n_; clear ho hb hg hat))
      go_roundg k2
      case measure => have := HK1.out; have := HK2.out; omega
      case rel => exact ⟨(y219), (x2_2), (wrap64 (x3_1 + 1)), f0_, f0_, H', ⟨by have := HK1.out; have := HK2.out; omega⟩, ⟨rR_ HO221.out⟩, ⟨hB_⟩⟩
     rw [if_pos c4] at H
     have c4b0 := decide_eq_true c4
     clear c4
     by_cases c5 : (Int.tmod x2_2 2) = 1
     ·rw [if_pos c5] at H
      have c5b0 : ((Int.tmod x2_2 2) == 1) = true := beq_iff_eq.mpr c5
      have c5b1 : ((Int.tmod x2_2 2) != 1) = false := bne_eq_false_iff_eq.mpr c5
      clear c5
      by_cases c6 : (wrap64 (x2_2 * 2)) ≥ 256
      ·rw [if_pos c6] at H
       have c6b0 := decide_eq_true c6
       clear c6
       have H' := Aside0.mk H
       clear H
       go_wp2
       go_roundg k2
       case measure => have := HK1.out; have := HK2.out; omega
       case rel => exact ⟨(Go.bits .xor .i64 (wrap64 ((wrap64 (x2_2 * 2)) - 256)) 113), (IntKind.u64.wrap (x4_2 + x5_2)), (IntKind.u64.wrap ((IntKind.u64.wrap (x5_2 * x5_2)) * 2)), (wrap64 (x6_2 + 1)), f0_, f0_, f0_, f0_, H', ⟨by have := HK1.out; have := HK2.out; omega⟩, ⟨rR_ HO_1.out⟩, ⟨hB_⟩⟩
      rw [if_neg c6] at H
      have c6b0 := decide_eq_false c6
      clear c6
      have H' := Aside0.mk H
      clear H
      go_wp2
      go_roundg k2
      case measure => have := HK1.out; have := HK2.out; omega
      case rel => exact ⟨(wrap64 (x2_2 * 2)), (IntKind.u64.wrap (x4_2 + x5_2)), (IntKind.u64.wrap ((IntKind.u64.wrap (x5_2 * x5_2)) * 2)), (wrap64 (x6_2 + 1)), f0_, f0_, f0_, f0_, H', ⟨by have := HK1.out; have := HK2.out; omega⟩, ⟨rR_ HO_1.out⟩, ⟨hB_⟩⟩
     rw [if_neg c5] at H
     have c5b0 : ((Int.tmod x2_2 2) == 1) = false := beq_eq_false_iff_ne.mpr c5
     have c5b1 : ((Int.tmod x2_2 2) != 1) = true := bne_iff_ne.mpr c5
     by_cases c7 : (wrap64 (x2_2 * 2)) ≥ 256
     ·rw [if_pos c7] at H
      have c7b0 := decide_eq_true c7
      clear c7
      have H' := Aside0.mk H
      clear H
      go_wp2
      go_roundg k2
      case measure => have := HK1.out; have := HK2.out; omega
      case rel => exact ⟨(Go.bits .xor .i64 (wrap64 ((wrap64 (x2_2 * 2)) - 256)) 113), (x4_2), (IntKind.u64.wrap ((IntKind.u64.wrap (x5_2 * x5_2)) * 2)), (wrap64 (x6_2 + 1)), f0_, f0_, f0_, f0_, H', ⟨by have := HK1.out; have := HK2.out; omega⟩, ⟨rR_ HO_1.out⟩, ⟨hB_⟩⟩
     rw [if_neg c7] at H
     have c7b0 := decide_eq_false c7
     clear c7
     have H' := Aside0.mk H
     clear H
     go_wp2
     go_roundg k2
     case measure => have := HK1.out; have := HK2.out; omega
     case rel => exact ⟨(wrap64 (x2_2 * 2)), (x4_2), (IntKind.u64.wrap ((IntKind.u64.wrap (x5_2 * x5_2)) * 2)), (wrap64 (x6_2 + 1)), f0_, f0_, f0_, f0_, H', ⟨by have := HK1.out; have := HK2.out; omega⟩, ⟨rR_ HO_1.out⟩, ⟨hB_⟩⟩

/-! ### spec_l07Left: function 90 -/
def spec_l07Left.l0 : Nat → Int → Int → Int → Int → Option (Int)
 | 0, _, _, _, _ => none
 | k + 1, x0, x1, x5, x6 => if x6 < x1 then (spec_l07Left.l0 k x0 x1 (IntKind.u64.wrap (x5 * 2)) (wrap64 (x6 + 1))) else (if x1 = 0 then (some x0) else (if x5 = 0 then (none) else (if (IntKind.u64.wrap ((IntKind.u64.wrap (Int.tdiv (9223372036854775808 : Int) x5)) * 2)) = 0 then (none) else (some (IntKind.u64.wrap ((IntKind.u64.wrap (x0 * x5)) + (IntKind.u64.wrap (Int.tdiv x0 (IntKind.u64.wrap ((IntKind.u64.wrap (Int.tdiv (9223372036854775808 : Int) x5)) * 2))))))))))
def spec_l07Left.f (k : Nat) (a0 : Int) (a1 : Int) : Option (Int) := spec_l07Left.l0 k a0 a1 1 0
theorem spec_l07Left.mono_l : ∀ k, (∀ y0 y1 y2 y3, LeO (spec_l07Left.l0 k y0 y1 y2 y3) (spec_l07Left.l0 (k + 1) y0 y1 y2 y3))
 | 0 => fun _ _ _ _ r h => by simp [spec_l07Left.l0] at h
 | k + 1 => by
  have ih0 := spec_l07Left.mono_l k
  intros; unfold spec_l07Left.l0; exact o1_ ih0
theorem spec_l07Left.mono : ∀ a0 a1 k, LeO (spec_l07Left.f k a0 a1) (spec_l07Left.f (k + 1) a0 a1) := by
 intro a0 a1 k
 have ih0 := spec_l07Left.mono_l k
 unfold spec_l07Left.f
 exact o1_ ih0
theorem spec_l07Left.calls (k : Nat) (a0 : Int) (a1 : Int) (r : Int) (w : World) (h : spec_l07Left.f k a0 a1 = some r) :
  Calls Tryd.prog 90 #[.int .u64 a0, .int .i64 a1] w fun e w' => e = .returned (.int .u64 r) ∧ Drawn0 w w' := by
 delta spec_l07Left.f at h
 have H := h
 clear h
 have H' := Aside0.mk H
 clear H
 go_enter Tryd.func90, Tryd.ntmps90
 go_wp2
 go_loopg [5, 6] k (fun kq v5 v6 w' => ∃ (x5_1 : Int) (x6_1 : Int), v5 = .int .u64 x5_1 ∧ v6 = .int .i64 x6_1 ∧ Aside0 (spec_l07Left.l0 kq a0 a1 x5_1 x6_1 = some r) ∧ Aside0 (kq ≤ k) ∧ Drawn0 w w')
 case atStart => exact ⟨(1), (0), f0_, f0_, H', ⟨Nat.le_refl _⟩, d0_⟩
 case round =>
  clear H'
  obtain ⟨x5_1, x6_1, rfl, rfl, HA, HK1, ⟨m1, rfl⟩⟩ := hrel
  cases gk with
  | zero => exact absurd HA.out (by simp [spec_l07Left.l0])
  | succ k1 =>
   have H := HA.out
   clear HA
   simp only [spec_l07Left.l0] at H
   by_cases c3 : x6_1 < a1
   ·rw [if_pos c3] at H
    have c3b0 := decide_eq_true c3
    clear c3
    have H' := Aside0.mk H
    clear H
    go_wp2
    go_roundg k1
    case measure => have := HK1.out; omega
    case rel => exact ⟨(IntKind.u64.wrap (x5_1 * 2)), (wrap64 (x6_1 + 1)), f0_, f0_, H', ⟨by have := HK1.out; omega⟩, d0_⟩
   rw [if_neg c3] at H
   have c3b0 := decide_eq_false c3
   clear c3
   by_cases c4 : a1 = 0
   ·rw [if_pos c4] at H
    have c4b0 : (a1 == 0) = true := beq_iff_eq.mpr c4
    have c4b1 : (a1 != 0) = false := bne_eq_false_iff_eq.mpr c4
    clear c4
    obtain rfl := Option.some.inj H
    go_wp2
    go_ret
    exact ⟨f0_, d0_⟩
   rw [if_neg c4] at H
   have c4b0 : (a1 == 0) = false := beq_eq_false_iff_ne.mpr c4
   have c4b1 : (a1 != 0) = true := bne_iff_ne.mpr c4
   by_cases c5 : x5_1 = 0
   ·rw [if_pos c5] at H
    exact absurd H (by simp)
   rw [if_neg c5] at H
   have c5b0 : (x5_1 == 0) = false := beq_eq_false_iff_ne.mpr c5
   have c5b1 : (x5_1 != 0) = true := bne_iff_ne.mpr c5
   by_cases c6 : (IntKind.u64.wrap ((IntKind.u64.wrap (Int.tdiv (9223372036854775808 : Int) x5_1)) * 2)) = 0
   ·rw [if_pos c6] at H
    exact absurd H (by simp)
   rw [if_neg c6] at H
   have c6b0 : ((IntKind.u64.wrap ((IntKind.u64.wrap (Int.tdiv (9223372036854775808 : Int) x5_1)) * 2)) == 0) = false := beq_eq_false_iff_ne.mpr c6
   have c6b1 : ((IntKind.u64.wrap ((IntKind.u64.wrap (Int.tdiv (9223372036854775808 : Int) x5_1)) * 2)) != 0) = true := bne_iff_ne.mpr c6
   obtain rfl := Option.some.inj H
   go_wp2
   go_ret
   exact ⟨f0_, d0_⟩

/-! ### spec_l07Round: function 85 -/
mutual
def spec_l07Round.l0 : Nat → List Int → List Int → Int → List Int → Int → Option (List Int)
 | 0, _, _, _, _, _ => none
 | k + 1, x0, x1, x2, x7, x8 => if x8 < 5 then (if 0 ≤ x8 then (if x8 < (x0.length : Int) then (if 0 ≤ (wrap64 (x8 + 5)) then (if (wrap64 (x8 + 5)) < (x0.length : Int) then (if 0 ≤ (wrap64 (x8 + 10)) then (if (wrap64 (x8 + 10)) < (x0.length : Int) then (if 0 ≤ (wrap64 (x8 + 15)) then (if (wrap64 (x8 + 15)) < (x0.length : Int) then (if 0 ≤ (wrap64 (x8 + 20)) then (if (wrap64 (x8 + 20)) < (x0.length : Int) then (if x8 < (x7.length : Int) then (spec_l07Round.l0 k x0 x1 x2 (x7.set (x8 : Int).toNat (Go.bits .xor .u64 (Go.bits .xor .u64 (Go.bits .xor .u64 (Go.bits .xor .u64 (rd x0 x8) (rd x0 (wrap64 (x8 + 5)))) (rd x0 (wrap64 (x8 + 10)))) (rd x0 (wrap64 (x8 + 15)))) (rd x0 (wrap64 (x8 + 20))))) (wrap64 (x8 + 1))) else (none)) else (none)) else (none)) else (none)) else (none)) else (none)) else (none)) else (none)) else (none)) else (none)) else (none)) else (if 25 ≤ 35184372088832 then (spec_l07Round.l1 k x0 x1 x2 x7 (List.replicate 25 0) 0) else (none))
def spec_l07Round.l1 : Nat → List Int → List Int → Int → List Int → List Int → Int → Option (List Int)
 | 0, _, _, _, _, _, _ => none
 | k + 1, x0, x1, x2, x7, x9, x10 => if x10 < 5 then (if 0 ≤ (Int.tmod (wrap64 (x10 + 4)) 5) then (if (Int.tmod (wrap64 (x10 + 4)) 5) < (x7.length : Int) then (if 0 ≤ (Int.tmod (wrap64 (x10 + 1)) 5) then (if (Int.tmod (wrap64 (x10 + 1)) 5) < (x7.length : Int) then ((spec_l07Left.f k (rd x7 (Int.tmod (wrap64 (x10 + 1)) 5)) 1).bind fun t236 => (spec_l07Round.l2 k x0 x1 x2 x7 x9 x10 (Go.bits .xor .u64 (rd x7 (Int.tmod (wrap64 (x10 + 4)) 5)) t236) 0)) else (none)) else (none)) else (none)) else (none)) else (if 25 ≤ 35184372088832 then (spec_l07Round.l3 k x2 x9 (List.replicate 25 0) 0) else (none))
def spec_l07Round.l2 : Nat → List Int → List Int → Int → List Int → List Int → Int → Int → Int → Option (List Int)
 | 0, _, _, _, _, _, _, _, _ => none
 | k + 1, x0, x1, x2, x7, x9, x10, x11, x12 => if x12 < 5 then (if 0 ≤ (wrap64 (x10 + (wrap64 (5 * x12)))) then (if (wrap64 (x10 + (wrap64 (5 * x12)))) < (x0.length : Int) then (if (wrap64 (x10 + (wrap64 (5 * x12)))) < (x1.length : Int) then ((spec_l07Left.f k (Go.bits .xor .u64 (rd x0 (wrap64 (x10 + (wrap64 (5 * x12))))) x11) (rd x1 (wrap64 (x10 + (wrap64 (5 * x12)))))).bind fun t239 => (if 0 ≤ (wrap64 (x12 + (wrap64 (5 * (Int.tmod (wrap64 ((wrap64 (2 * x10)) + (wrap64 (3 * x12)))) 5))))) then (if (wrap64 (x12 + (wrap64 (5 * (Int.tmod (wrap64 ((wrap64 (2 * x10)) + (wrap64 (3 * x12)))) 5))))) < (x9.length : Int) then (spec_l07Round.l2 k x0 x1 x2 x7 (x9.set ((wrap64 (x12 + (wrap64 (5 * (Int.tmod (wrap64 ((wrap64 (2 * x10)) + (wrap64 (3 * x12)))) 5))))) : Int).toNat t239) x10 x11 (wrap64 (x12 + 1))) else (none)) else (none))) else (none)) else (none)) else (none)) else (spec_l07Round.l1 k x0 x1 x2 x7 x9 (wrap64 (x10 + 1)))
def spec_l07Round.l3 : Nat → Int → List Int → List Int → Int → Option (List Int)
 | 0, _, _, _, _ => none
 | k + 1, x2, x9, x13, x14 => if x14 < 5 then (spec_l07Round.l4 k x2 x9 x13 x14 0) else (if 0 < (x13.length : Int) then (some (x13.set (0 : Int).toNat (Go.bits .xor .u64 (rd x13 0) x2))) else (none))
def spec_l07Round.l4 : Nat → Int → List Int → List Int → Int → Int → Option (List Int)
 | 0, _, _, _, _, _ => none
 | k + 1, x2, x9, x13, x14, x15 => if x15 < 5 then (if 0 ≤ (wrap64 (x14 + (wrap64 (5 * x15)))) then (if (wrap64 (x14 + (wrap64 (5 * x15)))) < (x9.length : Int) then (if 0 ≤ (wrap64 ((Int.tmod (wrap64 (x14 + 1)) 5) + (wrap64 (5 * x15)))) then (if (wrap64 ((Int.tmod (wrap64 (x14 + 1)) 5) + (wrap64 (5 * x15)))) < (x9.length : Int) then (if 0 ≤ (wrap64 ((Int.tmod (wrap64 (x14 + 2)) 5) + (wrap64 (5 * x15)))) then (if (wrap64 ((Int.tmod (wrap64 (x14 + 2)) 5) + (wrap64 (5 * x15)))) < (x9.length : Int) then (if (wrap64 (x14 + (wrap64 (5 * x15)))) < (x13.length : Int) then (spec_l07Round.l4 k x2 x9 (x13.set ((wrap64 (x14 + (wrap64 (5 * x15)))) : Int).toNat (Go.bits .xor .u64 (rd x9 (wrap64 (x14 + (wrap64 (5 * x15))))) (Go.bits .and .u64 (IntKind.u64.wrap (18446744073709551615 - (rd x9 (wrap64 ((Int.tmod (wrap64 (x14 + 1)) 5) + (wrap64 (5 * x15))))))) (rd x9 (wrap64 ((Int.tmod (wrap64 (x14 + 2)) 5) + (wrap64 (5 * x15)))))))) x14 (wrap64 (x15 + 1))) else (none)) else (none)) else (none)) else (none)) else (none)) else (none)) else (none)) else (spec_l07Round.l3 k x2 x9 x13 (wrap64 (x14 + 1)))
end
def spec_l07Round.f (k : Nat) (l0 : List Int) (l1 : List Int) (a2 : Int) : Option (List Int) := if 5 ≤ 35184372088832 then (spec_l07Round.l0 k l0 l1 a2 (List.replicate 5 0) 0) else (none)
theorem spec_l07Round.mono_l : ∀ k, (∀ y0 y1 y2 y3 y4, LeO (spec_l07Round.l0 k y0 y1 y2 y3 y4) (spec_l07Round.l0 (k + 1) y0 y1 y2 y3 y4)) ∧ (∀ y0 y1 y2 y3 y4 y5, LeO (spec_l07Round.l1 k y0 y1 y2 y3 y4 y5) (spec_l07Round.l1 (k + 1) y0 y1 y2 y3 y4 y5)) ∧ (∀ y0 y1 y2 y3 y4 y5 y6 y7, LeO (spec_l07Round.l2 k y0 y1 y2 y3 y4 y5 y6 y7) (spec_l07Round.l2 (k + 1) y0 y1 y2 y3 y4 y5 y6 y7)) ∧ (∀ y0 y1 y2 y3, LeO (spec_l07Round.l3 k y0 y1 y2 y3) (spec_l07Round.l3 (k + 1) y0 y1 y2 y3)) ∧ (∀ y0 y1 y2 y3 y4, LeO (spec_l07Round.l4 k y0 y1 y2 y3 y4) (spec_l07Round.l4 (k + 1) y0 y1 y2 y3 y4))
 | 0 => ⟨fun _ _ _ _ _ r h => by simp [spec_l07Round.l0] at h, fun _ _ _ _ _ _ r h => by simp [spec_l07Round.l1] at h, fun _ _ _ _ _ _ _ _ r h => by simp [spec_l07Round.l2] at h, fun _ _ _ _ r h => by simp [spec_l07Round.l3] at h, fun _ _ _ _ _ r h => by simp [spec_l07Round.l4] at h⟩
 | k + 1 => by
  obtain ⟨ih0, ih1, ih2, ih3, ih4⟩ := spec_l07Round.mono_l k
  refine ⟨?_, ?_, ?_, ?_, ?_⟩ <;> (intros; (first | unfold spec_l07Round.l0 | unfold spec_l07Round.l1 | unfold spec_l07Round.l2 | unfold spec_l07Round.l3 | unfold spec_l07Round.l4); exact o6_ ih0 ih1 ih2 ih3 ih4 spec_l07Left.mono)
theorem spec_l07Round.mono : ∀ a0 a1 a2 k, LeO (spec_l07Round.f k a0 a1 a2) (spec_l07Round.f (k + 1) a0 a1 a2) := by
 intro a0 a1 a2 k
 obtain ⟨ih0, ih1, ih2, ih3, ih4⟩ := spec_l07Round.mono_l k
 unfold spec_l07Round.f
 exact o6_ ih0 ih1 ih2 ih3 ih4 spec_l07Left.mono
def spec_l07Round.T5 : Bool × List (List Nat × List Nat) := (true, [([], []), ([], []), ([], []), ([], []), ([2, 3], [2, 3]), ([4], [4]), ([], []), ([], []), ([7], [7]), ([6, 8], [6, 8]), ([9], [9]), ([5, 10], [5, 10]), ([], []), ([], []), ([13], [13]), ([12, 14], [12, 14]), ([15], [15]), ([11, 16], [11, 16]), ([], []), ([], []), ([19], [19]), ([18, 20], [18, 20]), ([21], [21]), ([17, 22], [17, 22]), ([], []), ([], []), ([25], [25]), ([24, 26], [24, 26]), ([27], [27]), ([23, 28], [23, 28]), ([0, 1, 0, 1, 2, 3, 4, 5, 6, 7, 8, 9, 10, 11, 12, 13, 14, 15, 16, 17, 18, 19, 20, 21, 22, 23, 24, 25, 26, 27, 28, 29], [0, 1]), ([30, 29, 0, 1, 2, 3, 4, 5, 6, 7, 8, 9, 10, 11, 12, 13, 14, 15, 16, 17, 18, 19, 20, 21, 22, 23, 24, 25, 26, 27, 28, 29], [29, 30])])
def spec_l07Round.B5 : List Nat := [0, 0, 0, 0, 12, 28, 0, 0, 128, 448, 960, 2044, 0, 0, 8192, 28672, 61440, 131068, 0, 0, 524288, 1835008, 3932160, 8388604, 0, 0, 33554432, 117440512, 251658240, 536870908, 1073741823, 2147483647]
theorem spec_l07Round.tab5 : rtab .any (opsOf Tryd.f85 5) = spec_l07Round.T5 := by kernel_rfl
theorem spec_l07Round.bits5 : waitsOk spec_l07Round.T5.2 spec_l07Round.B5 = true := by kernel_rfl
def spec_l07Round.T10 : Bool × List (List Nat × List Nat) := (true, [([], []), ([], []), ([1], [1]), ([2], [2]), ([0, 3], [0, 3]), ([4], [4]), ([], []), ([], []), ([7], [7]), ([8], [8]), ([6, 9], [6, 9]), ([10], [10]), ([11], [11]), ([5, 12], [5, 12]), ([13, 12, 0, 1, 2, 3, 4, 5, 6, 7, 8, 9, 10, 11, 12, 13], [13])])
def spec_l07Round.B10 : List Nat := [0, 0, 2, 6, 15, 31, 0, 0, 128, 384, 960, 1984, 4032, 8191, 16383]
theorem spec_l07Round.tab10 : rtab .any (opsOf Tryd.f85 10) = spec_l07Round.T10 := by kernel_rfl
theorem spec_l07Round.bits10 : waitsOk spec_l07Round.T10.2 spec_l07Round.B10 = true := by kernel_rfl
def spec_l07Round.T14 : Bool × List (List Nat × List Nat) := (true, [([], []), ([], []), ([], []), ([2], [2]), ([], []), ([4], [4]), ([3, 5], [3, 5]), ([6], [6]), ([7], [7]), ([1, 8], [1, 8]), ([], []), ([], []), ([], []), ([12], [12]), ([11, 13], [11, 13]), ([10, 14], [10, 14]), ([15], [15]), ([], []), ([16, 17], [16, 17]), ([], []), ([], []), ([], []), ([21], [21]), ([20, 22], [20, 22]), ([19, 23], [19, 23]), ([24], [24]), ([18, 25], [18, 25]), ([0, 9, 0, 1, 2, 3, 4, 5, 6, 7, 8, 9, 10, 11, 12, 13, 14, 15, 16, 17, 18, 19, 20, 21, 22, 23, 24, 25, 26], [0, 9]), ([27, 26, 26, 0, 1, 2, 3, 4, 5, 6, 7, 8, 9, 10, 11, 12, 13, 14, 15, 16, 17, 18, 19, 20, 21, 22, 23, 24, 25, 26], [26, 27])])
def spec_l07Round.B14 : List Nat := [0, 0, 0, 4, 0, 16, 60, 124, 252, 510, 0, 0, 0, 4096, 14336, 31744, 64512, 0, 261120, 0, 0, 0, 2097152, 7340032, 16252928, 33030144, 67107840, 134217727, 268435455]
theorem spec_l07Round.tab14 : rtab .any (opsOf Tryd.f85 14) = spec_l07Round.T14 := by kernel_rfl
theorem spec_l07Round.bits14 : waitsOk spec_l07Round.T14.2 spec_l07Round.B14 = true := by kernel_rfl
def spec_l07Round.T22 : Bool × List (List Nat × List Nat) := (true, [([], []), ([], []), ([], []), ([2], [2]), ([1, 3], [1, 3]), ([], []), ([], []), ([], []), ([7], [7]), ([6, 8], [6, 8]), ([5, 9], [5, 9]), ([10], [10]), ([], []), ([], []), ([13], [13]), ([14], [14]), ([], []), ([16], [16]), ([15, 17], [15, 17]), ([12, 18], [12, 18]), ([19], [19]), ([20], [20]), ([], []), ([], []), ([23], [23]), ([24], [24]), ([], []), ([26], [26]), ([25, 27], [25, 27]), ([22, 28], [22, 28]), ([29], [29]), ([21, 30], [21, 30]), ([11, 31], [11, 31]), ([0, 4, 0, 1, 2, 3, 4, 5, 6, 7, 8, 9, 10, 11, 12, 13, 14, 15, 16, 17, 18, 19, 20, 21, 22, 23, 24, 25, 26, 27, 28, 29, 30, 31, 32], [0, 4]), ([33, 32, 0, 1, 2, 3, 4, 5, 6, 7, 8, 9, 10, 11, 12, 13, 14, 15, 16, 17, 18, 19, 20, 21, 22, 23, 24, 25, 26, 27, 28, 29, 30, 31, 32], [32, 33])])
def spec_l07Round.B22 : List Nat := [0, 0, 0, 4, 14, 0, 0, 0, 128, 448, 992, 2016, 0, 0, 8192, 24576, 0, 65536, 253952, 520192, 1044480, 2093056, 0, 0, 8388608, 25165824, 0, 67108864, 260046848, 532676608, 1069547520, 2147479552, 4294967264, 8589934591, 17179869183]
theorem spec_l07Round.tab22 : rtab .any (opsOf Tryd.f85 22) = spec_l07Round.T22 := by kernel_rfl
theorem spec_l07Round.bits22 : waitsOk spec_l07Round.T22.2 spec_l07Round.B22 = true := by kernel_rfl
theorem spec_l07Round.calls (k : Nat) (A0 : Option Addr) (c0 : Nat) (l0 : List Int) (A1 : Option Addr) (c1 : Nat) (l1 : List Int) (a2 : Int) (r : List Int) (w : World) (hr0 : Kd.C (Kd.int .u64) w A0 l0.length l0) (hc0 : l0.length ≤ c0) (hr1 : Kd.C (Kd.int .i64) w A1 l1.length l1) (hc1 : l1.length ≤ c1) (h : spec_l07Round.f k l0 l1 a2 = some r) :
  Calls Tryd.prog 85 #[.slice A0 l0.length c0, .slice A1 l1.length c1, .int .u64 a2] w fun e w' => ∃ v0_ : Value, e = .returned (v0_) ∧ Kd.R (Kd.int .u64) 86 w' w.heap.size (fun _ => True) v0_ r ∧ Below w.heap.size w w' := by
 have HR0 := Aside0.mk hr0
 have HC0 := Aside0.mk hc0
 clear hr0 hc0
 have HR1 := Aside0.mk hr1
 have HC1 := Aside0.mk hc1
 clear hr1 hc1
 have HB := Aside0.mk (Below.refl w.heap.size w)
 delta spec_l07Round.f at h
 have H := h
 clear h
 obtain ⟨c4, H⟩ := iN_ H
 have c4b0 := eq_true c4
 have c4b1 := decide_eq_true c4
 clear c4
 obtain ⟨y222, hy222⟩ : ∃ y_ : List Int, y_ = (List.replicate 5 0) := ⟨_, rfl⟩
 first | replace H := yb_ hy222 H | rw [← hy222] at H
 have Ny222 := Aside0.mk hy222
 clear hy222
 have H' := Aside0.mk H
 clear H
 go_enter Tryd.func85, Tryd.ntmps85
 go_wp2_with (first | ((with_reducible refine gate_dst (N := 16) rfl ?_); refine Kd.R_make (Kd.int .u64) _ 86 rfl (N := 16) rfl 84 _ _ rfl 5 rfl rfl Tryd.underlying84 (.int .u64 0) 8 info86 rfl (by decide) (by omega) 0 (ok := fun _ => True) (okp := fun _ => True) rfl (fun _ hk => hk) trivial (by omega) (by omega) (Below.refl _ _) (Nat.le_refl _) ?_; intro v223 w5 ho6 hb hg_ hnew_; clear hg_ hnew_; (first | rw [← Ny222.out] at ho6 | (simp only [Int.reduceToNat] at ho6; rw [← Ny222.out] at ho6)); have n_ := b_ (Kd.R_lower ho6 (below_size (hB_))) <| c_ (below_step (hB_) hb); clear HB; obtain ⟨HO224, HB⟩ := n_; clear hb ho6))
 go_loopg [8] k (fun kq v8 w' => ∃ (x7_1 : List Int) (x8_1 : Int), v8 = .int .i64 x8_1 ∧ Aside0 (spec_l07Round.l0 kq l0 l1 a2 x7_1 x8_1 = some r) ∧ Aside0 (kq ≤ k) ∧ Aside0 (Kd.R (Kd.int .u64) 86 w' w.heap.size (fun _ => True) v223 x7_1) ∧ Aside0 (Below w.heap.size w w'))
 case atStart => exact ⟨(y222), (0), f0_, H', ⟨Nat.le_refl _⟩, ⟨rR_ HO224.out⟩, ⟨hB_⟩⟩
 case round =>
  clear H'
  obtain ⟨x7_1, x8_1, rfl, HA, HK1, HO_7, HB⟩ := hrel
  cases gk with
  | zero => exact absurd HA.out (by simp [spec_l07Round.l0])
  | succ k1 =>
   have H := HA.out
   clear HA
   simp only [spec_l07Round.l0] at H
   by_cases c7 : x8_1 < 5
   ·rw [if_pos c7] at H
    have c7b0 := decide_eq_true c7
    clear c7
    obtain ⟨c8b0, H⟩ := iD_ H
    obtain ⟨c9b0, H⟩ := iD_ H
    obtain ⟨ji10, hji10⟩ : ∃ j_ : Int, (wrap64 (x8_1 + 5)) = j_ := ⟨_, rfl⟩
    first | rw [hji10] at H | simp only [hji10] at H
    have hji10w : (IntKind.i64.wrap (x8_1 + 5)) = ji10 := (i64_w _).trans hji10
    obtain ⟨c11b0, H⟩ := iD_ H
    obtain ⟨c12b0, H⟩ := iD_ H
    obtain ⟨ji13, hji13⟩ : ∃ j_ : Int, (wrap64 (x8_1 + 10)) = j_ := ⟨_, rfl⟩
    first | rw [hji13] at H | simp only [hji13] at H
    have hji13w : (IntKind.i64.wrap (x8_1 + 10)) = ji13 := (i64_w _).trans hji13
    obtain ⟨c14b0, H⟩ := iD_ H
    obtain ⟨c15b0, H⟩ := iD_ H
    obtain ⟨ji16, hji16⟩ : ∃ j_ : Int, (wrap64 (x8_1 + 15)) = j_ := ⟨_, rfl⟩
    first | rw [hji16] at H | simp only [hji16] at H
    have hji16w : (IntKind.i64.wrap (x8_1 + 15)) = ji16 := (i64_w _).trans hji16
    obtain ⟨c17b0, H⟩ := iD_ H
    obtain ⟨c18b0, H⟩ := iD_ H
    obtain ⟨ji19, hji19⟩ : ∃ j_ : Int, (wrap64 (x8_1 + 20)) = j_ := ⟨_, rfl⟩
    first | rw [hji19] at H | simp only [hji19] at H
    have hji19w : (IntKind.i64.wrap (x8_1 + 20)) = ji19 := (i64_w _).trans hji19
    obtain ⟨c20b0, H⟩ := iD_ H
    obtain ⟨c21b0, H⟩ := iD_ H
    obtain ⟨c22b0, H⟩ := iD_ H
    obtain ⟨y230, hy230⟩ : ∃ y_ : List Int, y_ = (x7_1.set (x8_1 : Int).toNat (Go.bits .xor .u64 (Go.bits .xor .u64 (Go.bits .xor .u64 (Go.bits .xor .u64 (rd l0 x8_1) (rd l0 (ji10))) (rd l0 (ji13))) (rd l0 (ji16))) (rd l0 (ji19)))) := ⟨_, rfl⟩
    first | replace H := yb_ hy230 H | rw [← hy230] at H
    have Ny230 := Aside0.mk hy230
    clear hy230
    have H' := Aside0.mk H
    clear H
    try go_wp2
    have n_ := b_ (Kd.R_drew HO_7.out) <| c_ (below_drew1 HB.out)
    clear HO_7 HB
    obtain ⟨HO_7, HB⟩ := n_
    have p225 : 0 ≤ (x8_1 : Int) := oD_
    have q225 : x8_1 < (l0.length : Int) := oD_
    obtain ⟨ad225, e225, hx225_0⟩ := Kd.at_int HR0.out x8_1 p225 q225
    have hw225_0 := hx225_0
    cases e225
    replace hx225_0 := (HB.out.cell (World.block_lt_of_cell? w _ hx225_0)).trans hx225_0
    replace p225 := eq_true p225
    replace q225 := eq_true q225
    have p226 : 0 ≤ ((ji10) : Int) := oD_
    have q226 : (ji10) < (l0.length : Int) := oD_
    obtain ⟨ad226, e226, hx226_0⟩ := Kd.at_int HR0.out (ji10) p226 q226
    have hw226_0 := hx226_0
    obtain rfl : ad225 = ad226 := (by injection e226)
    replace hx226_0 := (HB.out.cell (World.block_lt_of_cell? w _ hx226_0)).trans hx226_0
    replace p226 := eq_true p226
    replace q226 := eq_true q226
    have p227 : 0 ≤ ((ji13) : Int) := oD_
    have q227 : (ji13) < (l0.length : Int) := oD_
    obtain ⟨ad227, e227, hx227_0⟩ := Kd.at_int HR0.out (ji13) p227 q227
    have hw227_0 := hx227_0
    obtain rfl : ad225 = ad227 := (by injection e227)
    replace hx227_0 := (HB.out.cell (World.block_lt_of_cell? w _ hx227_0)).trans hx227_0
    replace p227 := eq_true p227
    replace q227 := eq_true q227
    have p228 : 0 ≤ ((ji16) : Int) := oD_
    have q228 : (ji16) < (l0.length : Int) := oD_
    obtain ⟨ad228, e228, hx228_0⟩ := Kd.at_int HR0.out (ji16) p228 q228
    have hw228_0 := hx228_0
    obtain rfl : ad225 = ad228 := (by injection e228)
    replace hx228_0 := (HB.out.cell (World.block_lt_of_cell? w _ hx228_0)).trans hx228_0
    replace p228 := eq_true p228
    replace q228 := eq_true q228
    have p229 : 0 ≤ ((ji19) : Int) := oD_
    have q229 : (ji19) < (l0.length : Int) := oD_
    obtain ⟨ad229, e229, hx229_0⟩ := Kd.at_int HR0.out (ji19) p229 q229
    have hw229_0 := hx229_0
    obtain rfl : ad225 = ad229 := (by injection e229)
    replace hx229_0 := (HB.out.cell (World.block_lt_of_cell? w _ hx229_0)).trans hx229_0
    replace p229 := eq_true p229
    replace q229 := eq_true q229
    have p23 : 0 ≤ (x8_1 : Int) := oD_
    have q23 : (x8_1 : Int) < ((x7_1.length : Int) : Int) := oD_
    obtain ⟨go23, co23, eo23, gb23, gl23, cl23, HG23⟩ := Kd.R_form HO_7.out (by omega)
    (first | cases eo23 | (injection eo23 with ea_ en_ ec_; (first | subst ea_ | (injection ea_ with ea_; subst ea_)); subst ec_; clear en_))
    have GB23 := Aside0.mk gb23
    have GG23 := Aside0.mk HG23
    clear gb23 gl23 HG23
    obtain ⟨hx23_0, hf23_0⟩ := Kd.R_celln 0 HO_7.out (x8_1 : Int) p23 q23
    replace p23 := eq_true p23
    replace q23 := eq_true q23
    have HP25 := Kd.R_putn HO_7.out (x8_1 : Int) (Go.bits .xor .u64 (Go.bits .xor .u64 (Go.bits .xor .u64 (Go.bits .xor .u64 (rd l0 x8_1) (rd l0 (ji10))) (rd l0 (ji13))) (rd l0 (ji16))) (rd l0 (ji19)))
    rw [← Ny230.out] at HP25
    have HQ25 := Aside0.mk HP25
    clear HP25
    refine start_ (n := 32) (S := fun w' => w'.cell? (ad225.add (x8_1).toNat) = some (.int .u64 (rd l0 x8_1)) ∧ w'.cell? (ad225.add ((ji10)).toNat) = some (.int .u64 (rd l0 (ji10))) ∧ w'.cell? (ad225.add ((ji13)).toNat) = some (.int .u64 (rd l0 (ji13))) ∧ w'.cell? (ad225.add ((ji16)).toNat) = some (.int .u64 (rd l0 (ji16))) ∧ w'.cell? (ad225.add ((ji19)).toNat) = some (.int .u64 (rd l0 (ji19)))) (ds := [31]) (bb_ 32 0) (by kernel_rfl) rfl rfl ⟨((HB.out.cell (World.block_lt_of_cell? w _ hw225_0)).trans hw225_0), ((HB.out.cell (World.block_lt_of_cell? w _ hw226_0)).trans hw226_0), ((HB.out.cell (World.block_lt_of_cell? w _ hw227_0)).trans hw227_0), ((HB.out.cell (World.block_lt_of_cell? w _ hw228_0)).trans hw228_0), ((HB.out.cell (World.block_lt_of_cell? w _ hw229_0)).trans hw229_0)⟩ (fun hHeld => ?_); refine with_tabW spec_l07Round.tab5 spec_l07Round.bits5 (fun HT_ HW_ => ?_)
    generalize wr.drew = w24 at HO_7 HB GG23 HQ25 hf23_0 hx225_0 hx226_0 hx227_0 hx228_0 hx229_0 hx23_0 hHeld ⊢
    refine pS_ 0 21 (bb_ 32 1) HT_.out ?_
    refine pS_ 1 22 (bb_ 32 3) HT_.out ?_
    refine pS_ 2 23 (bb_ 32 7) HT_.out ?_
    refine pS_ 3 24 (bb_ 32 15) HT_.out ?_
    refine pS_ 4 25 (bb_ 32 31) HT_.out ?_
    refine pS_ 6 27 (bb_ 32 95) HT_.out ?_
    refine pS_ 7 28 (bb_ 32 223) HT_.out ?_
    refine pS_ 8 29 (bb_ 32 479) HT_.out ?_
    refine pS_ 9 30 (bb_ 32 991) HT_.out ?_
    refine pS_ 12 33 (bb_ 32 5087) HT_.out ?_
    refine pS_ 13 34 (bb_ 32 13279) HT_.out ?_
    refine pS_ 14 35 (bb_ 32 29663) HT_.out ?_
    refine pS_ 15 36 (bb_ 32 62431) HT_.out ?_
    refine pS_ 18 39 (bb_ 32 324575) HT_.out ?_
    refine pS_ 19 40 (bb_ 32 848863) HT_.out ?_
    refine pS_ 20 41 (bb_ 32 1897439) HT_.out ?_
    refine pS_ 21 42 (bb_ 32 3994591) HT_.out ?_
    refine pS_ 24 45 (bb_ 32 20771807) HT_.out ?_
    refine pS_ 25 46 (bb_ 32 54326239) HT_.out ?_
    refine pS_ 26 47 (bb_ 32 121435103) HT_.out ?_
    refine pS_ 27 48 (bb_ 32 255652831) HT_.out ?_
    refine tS_ 5 26 (bb_ 32 255652863) (take_ofW HT_.out HW_.out (by kernel_rfl)) hHeld ?_
    refine tS_ 10 31 (bb_ 32 255653887) (take_ofW HT_.out HW_.out (by kernel_rfl)) hHeld ?_
    refine pS_ 11 32 (bb_ 32 255655935) HT_.out ?_
    refine tS_ 16 37 (bb_ 32 255721471) (take_ofW HT_.out HW_.out (by kernel_rfl)) hHeld ?_
    refine pS_ 17 38 (bb_ 32 255852543) HT_.out ?_
    refine tS_ 22 43 (bb_ 32 260046847) (take_ofW HT_.out HW_.out (by kernel_rfl)) hHeld ?_
    refine pS_ 23 44 (bb_ 32 268435455) HT_.out ?_
    refine tS_ 28 49 (bb_ 32 536870911) (take_ofW HT_.out HW_.out (by kernel_rfl)) hHeld ?_
    refine pS_ 29 50 (bb_ 32 1073741823) HT_.out ?_
    refine pS_ 30 51 (bb_ 32 2147483647) HT_.out ?_
    refine last_ (i := 31) (N := none) (bb_ 32 4294967295) rfl rfl (one_of HT_.out (by kernel_rfl)) (by decide) (fun K hK => ?_)
    refine skip_ (w1 := ?_) (by rfl) rfl ?_ ?_
    rotate_left
    ·go_simp
     rfl
    refine hK.out _ _ ?_
    clear hK K
    refine done_ (done_of HT_.out (by kernel_rfl)) ?_
    try go_wp2
    go_roundg k1
    case measure => have := HK1.out; omega
    case rel => exact ⟨(y230), (wrap64 (x8_1 + 1)), f0_, H', ⟨by have := HK1.out; omega⟩, ⟨rR_ HQ25.out⟩, ⟨hS_ GB23.out⟩⟩
   rw [if_neg c7] at H
   have c7b0 := decide_eq_false c7
   clear c7
   obtain ⟨c26, H⟩ := iN_ H
   have c26b0 := eq_true c26
   have c26b1 := decide_eq_true c26
   clear c26
   obtain ⟨y231, hy231⟩ : ∃ y_ : List Int, y_ = (List.replicate 25 0) := ⟨_, rfl⟩
   first | replace H := yb_ hy231 H | rw [← hy231] at H
   have Ny231 := Aside0.mk hy231
   clear hy231
   have H' := Aside0.mk H
   clear H
   go_wp2_with (first | ((with_reducible refine gate_dst (N := 52) rfl ?_); refine Kd.R_make (Kd.int .u64) _ 86 rfl (N := 52) rfl 84 _ _ rfl 25 rfl rfl Tryd.underlying84 (.int .u64 0) 8 info86 rfl (by decide) (by omega) 0 (ok := fun _ => True) (okp := fun _ => True) rfl (fun _ hk => hk) trivial (by omega) (by omega) (Below.refl _ _) (Nat.le_refl _) ?_; intro v232 w27 ho28 hb hg_ hnew_; clear hg_ hnew_; (first | rw [← Ny231.out] at ho28 | (simp only [Int.reduceToNat] at ho28; rw [← Ny231.out] at ho28)); have n_ := b_ (Kd.R_elder' (rR_ HO_7.out) (Kd.R_base ho28) hb) <| b_ (Kd.R_lower (Kd.R_new' ho28 (Kd.R_lt (rR_ HO_7.out))) (below_size (hB_))) <| c_ (below_step (hB_) hb); clear HO_7 HB; obtain ⟨HO_7, HO233, HB⟩ := n_; clear hb ho28))
   go_loopg [10] k1 (fun kq v10 w' => ∃ (x9_2 : List Int) (x10_2 : Int), v10 = .int .i64 x10_2 ∧ Aside0 (spec_l07Round.l1 kq l0 l1 a2 x7_1 x9_2 x10_2 = some r) ∧ Aside0 (kq ≤ k1) ∧ Aside0 (Kd.R (Kd.int .u64) 86 w' w.heap.size (fun k_ => some k_ ≠ (v232 : Value).ownBlock) v223 x7_1) ∧ Aside0 (Kd.R (Kd.int .u64) 86 w' w.heap.size (fun k_ => some k_ ≠ (v223 : Value).ownBlock) v232 x9_2) ∧ Aside0 (Below w.heap.size w w'))
   case atStart => exact ⟨(y231), (0), f0_, H', ⟨Nat.le_refl _⟩, ⟨by refine kR_ ?_; exact Kd.R_mono HO_7.out (fun _ hk => hk.2)⟩, ⟨by refine kR_ ?_; exact Kd.R_mono HO233.out (fun _ hk => hk.2)⟩, ⟨hB_⟩⟩
   case round =>
    clear H'
    obtain ⟨x9_2, x10_2, rfl, HA, HK2, HO_7, HO_9, HB⟩ := hrel
    cases gk with
    | zero => exact absurd HA.out (by simp [spec_l07Round.l1])
    | succ k2 =>
     have H := HA.out
     clear HA
     simp only [spec_l07Round.l1] at H
     by_cases c29 : x10_2 < 5
     ·rw [if_pos c29] at H
      have c29b0 := decide_eq_true c29
      clear c29
      obtain ⟨ji30, hji30⟩ : ∃ j_ : Int, (Int.tmod (wrap64 (x10_2 + 4)) 5) = j_ := ⟨_, rfl⟩
      first | rw [hji30] at H | simp only [hji30] at H
      obtain ⟨c31b0, H⟩ := iD_ H
      obtain ⟨c32b0, H⟩ := iD_ H
      obtain ⟨ji33, hji33⟩ : ∃ j_ : Int, (Int.tmod (wrap64 (x10_2 + 1)) 5) = j_ := ⟨_, rfl⟩
      first | rw [hji33] at H | simp only [hji33] at H
      obtain ⟨c34b0, H⟩ := iD_ H
      obtain ⟨c35b0, H⟩ := iD_ H
      obtain ⟨t236, A36, H⟩ := bN_ H
      have H' := Aside0.mk H
      clear H
      try go_wp2
      have n_ := b_ (Kd.R_drew HO_7.out) <| b_ (Kd.R_drew HO_9.out) <| c_ (below_drew1 HB.out)
      clear HO_7 HO_9 HB
      obtain ⟨HO_7, HO_9, HB⟩ := n_
      obtain ⟨Ao38, co38, eo38⟩ := Kd.R_slice HO_7.out
      (first | subst eo38 | (injection eo38 with f1_ f2_ f3_; have f4_ := f1_.symm; have f5_ := f3_.symm; clear f1_ f2_ f3_; subst f4_; subst f5_))
      have p234 : 0 ≤ ((ji30) : Int) := oD_
      have q234 : (ji30) < (x7_1.length : Int) := oD_
      obtain ⟨ad234, e234, hx234_0⟩ := Kd.at_int (Kd.R_reads' HO_7.out).2.2 (ji30) p234 q234
      cases e234
      replace p234 := eq_true p234
      replace q234 := eq_true q234
      have p235 : 0 ≤ ((ji33) : Int) := oD_
      have q235 : (ji33) < (x7_1.length : Int) := oD_
      obtain ⟨ad235, e235, hx235_0⟩ := Kd.at_int (Kd.R_reads' HO_7.out).2.2 (ji33) p235 q235
      obtain rfl : ad234 = ad235 := (by injection e235)
      replace p235 := eq_true p235
      replace q235 := eq_true q235
      refine start_ (n := 15) (S := fun w' => w'.cell? (ad234.add ((ji30)).toNat) = some (.int .u64 (rd x7_1 (ji30))) ∧ w'.cell? (ad234.add ((ji33)).toNat) = some (.int .u64 (rd x7_1 (ji33)))) (ds := []) (bb_ 15 0) (by kernel_rfl) rfl rfl ⟨hx234_0, hx235_0⟩ (fun hHeld => ?_); refine with_tabW spec_l07Round.tab10 spec_l07Round.bits10 (fun HT_ HW_ => ?_)
      generalize wr.drew = w37 at HO_7 HO_9 HB hx234_0 hx235_0 hHeld ⊢
      refine pS_ 0 57 (bb_ 15 1) HT_.out ?_
      refine pS_ 1 58 (bb_ 15 3) HT_.out ?_
      refine pS_ 2 59 (bb_ 15 7) HT_.out ?_
      refine pS_ 3 60 (bb_ 15 15) HT_.out ?_
      refine pS_ 4 61 (bb_ 15 31) HT_.out ?_
      refine pS_ 6 63 (bb_ 15 95) HT_.out ?_
      refine pS_ 7 64 (bb_ 15 223) HT_.out ?_
      refine pS_ 8 65 (bb_ 15 479) HT_.out ?_
      refine pS_ 9 66 (bb_ 15 991) HT_.out ?_
      refine pS_ 10 67 (bb_ 15 2015) HT_.out ?_
      refine tS_ 5 62 (bb_ 15 2047) (take_ofW HT_.out HW_.out (by kernel_rfl)) hHeld ?_
      refine tS_ 11 68 (bb_ 15 4095) (take_ofW HT_.out HW_.out (by kernel_rfl)) hHeld ?_
      refine one_ (i := 12) (N := some 69) (bb_ 15 8191) rfl rfl (one_of HT_.out (by kernel_rfl)) (by decide) (fun K hK => ?_)
      refine goes_ Tryd.func90 (by kernel_rfl) rfl #[.int .u64 (rd x7_1 (ji33)), .int .i64 1] (by rfl) rfl rfl (by (try simp only [List.map_toArray, List.map_cons, List.map_nil]); first | done | (simp only [hji33]; rfl) | rfl | (simp only [List.length_drop, List.length_take]; rfl)) ?_
      with_reducible refine (spec_l07Left.calls k2 (rd x7_1 (ji33)) 1 t236 _ A36.out).mono ?_
      rintro e w' ⟨rfl, ⟨nd, rfl⟩⟩
      refine ⟨_, rfl, ?_⟩
      refine hK.out _ _ ⟨hHeld.1, hHeld.2⟩ (fun hHeld => ?_)
      clear hK K
      refine norm_ (a' := ?_) ?_ ?_
      rotate_left
      ·show Act.put _ (some 69) _ = _
       simp only [Act.put, List.setIfInBounds_toArray, List.set_cons_zero, List.set_cons_succ, i64_w, i32_w]
       rfl
      refine pS_ 13 70 (bb_ 15 16383) HT_.out ?_
      refine pS_ 14 11 (bb_ 15 32767) HT_.out ?_
      refine done_ (done_of HT_.out (by kernel_rfl)) ?_
      try go_wp2
      go_loopg [12] k2 (fun kq v12 w' => ∃ (x9_3 : List Int) (x12_3 : Int), v12 = .int .i64 x12_3 ∧ Aside0 (spec_l07Round.l2 kq l0 l1 a2 x7_1 x9_3 x10_2 (Go.bits .xor .u64 (rd x7_1 (ji30)) t236) x12_3 = some r) ∧ Aside0 (kq ≤ k2) ∧ Aside0 (Kd.R (Kd.int .u64) 86 w' w.heap.size (fun k_ => some k_ ≠ (v232 : Value).ownBlock) (.slice (some ad234) x7_1.length co38) x7_1) ∧ Aside0 (Kd.R (Kd.int .u64) 86 w' w.heap.size (fun k_ => some k_ ≠ ((.slice (some ad234) x7_1.length co38) : Value).ownBlock) v232 x9_3) ∧ Aside0 (Below w.heap.size w w'))
      case atStart => exact ⟨(x9_2), (0), f0_, H', ⟨Nat.le_refl _⟩, ⟨rR_ HO_7.out⟩, ⟨rR_ HO_9.out⟩, ⟨hB_⟩⟩
      case round =>
       clear H'
       obtain ⟨x9_3, x12_3, rfl, HA, HK3, HO_7, HO_9, HB⟩ := hrel
       cases gk with
       | zero => exact absurd HA.out (by simp [spec_l07Round.l2])
       | succ k3 =>
        have H := HA.out
        clear HA
        simp only [spec_l07Round.l2] at H
        by_cases c39 : x12_3 < 5
        rotate_left
        ·rw [if_neg c39] at H
         have c39b0 := decide_eq_false c39
         clear c39
         have H' := Aside0.mk H
         clear H
         go_wp2
         go_roundg k3
         case measure => have := HK1.out; have := HK2.out; have := HK3.out; omega
         case rel => exact ⟨(x9_3), (wrap64 (x10_2 + 1)), f0_, H', ⟨by have := HK1.out; have := HK2.out; have := HK3.out; omega⟩, ⟨rR_ HO_7.out⟩, ⟨rR_ HO_9.out⟩, ⟨hB_⟩⟩
        rw [if_pos c39] at H
        have c39b0 := decide_eq_true c39
        clear c39
        obtain ⟨ji40, hji40⟩ : ∃ j_ : Int, (wrap64 (x10_2 + (wrap64 (5 * x12_3)))) = j_ := ⟨_, rfl⟩
        first | rw [hji40] at H | simp only [hji40] at H
        have hji40w : (IntKind.i64.wrap (x10_2 + (wrap64 (5 * x12_3)))) = ji40 := (i64_w _).trans hji40
        obtain ⟨c41b0, H⟩ := iD_ H
        obtain ⟨c42b0, H⟩ := iD_ H
        obtain ⟨c43b0, H⟩ := iD_ H
        obtain ⟨t239, A44, H⟩ := bN_ H
        obtain ⟨ji45, hji45⟩ : ∃ j_ : Int, (wrap64 (x12_3 + (wrap64 (5 * (Int.tmod (wrap64 ((wrap64 (2 * x10_2)) + (wrap64 (3 * x12_3)))) 5))))) = j_ := ⟨_, rfl⟩
        first | rw [hji45] at H | simp only [hji45] at H
        (try rw [hji45] at A44)
        have hji45w : (IntKind.i64.wrap (x12_3 + (wrap64 (5 * (Int.tmod (wrap64 ((wrap64 (2 * x10_2)) + (wrap64 (3 * x12_3)))) 5))))) = ji45 := (i64_w _).trans hji45
        obtain ⟨c46b0, H⟩ := iD_ H
        obtain ⟨c47b0, H⟩ := iD_ H
        obtain ⟨y240, hy240⟩ : ∃ y_ : List Int, y_ = (x9_3.set ((ji45) : Int).toNat t239) := ⟨_, rfl⟩
        first | replace H := yb_ hy240 H | rw [← hy240] at H
        have Ny240 := Aside0.mk hy240
        clear hy240
        have H' := Aside0.mk H
        clear H
        try go_wp2
        have n_ := b_ (Kd.R_drew HO_7.out) <| b_ (Kd.R_drew HO_9.out) <| c_ (below_drew1 HB.out)
        clear HO_7 HO_9 HB
        obtain ⟨HO_7, HO_9, HB⟩ := n_
        have p237 : 0 ≤ ((ji40) : Int) := oD_
        have q237 : (ji40) < (l0.length : Int) := oD_
        obtain ⟨ad237, e237, hx237_0⟩ := Kd.at_int HR0.out (ji40) p237 q237
        have hw237_0 := hx237_0
        cases e237
        replace hx237_0 := (HB.out.cell (World.block_lt_of_cell? w _ hx237_0)).trans hx237_0
        replace p237 := eq_true p237
        replace q237 := eq_true q237
        have p238 : 0 ≤ ((ji40) : Int) := oD_
        have q238 : (ji40) < (l1.length : Int) := oD_
        obtain ⟨ad238, e238, hx238_0⟩ := Kd.at_int HR1.out (ji40) p238 q238
        have hw238_0 := hx238_0
        cases e238
        replace hx238_0 := (HB.out.cell (World.block_lt_of_cell? w _ hx238_0)).trans hx238_0
        replace p238 := eq_true p238
        replace q238 := eq_true q238
        refine start_ (n := 29) (S := fun w' => w'.cell? (ad237.add ((ji40)).toNat) = some (.int .u64 (rd l0 (ji40))) ∧ w'.cell? (ad238.add ((ji40)).toNat) = some (.int .i64 (rd l1 (ji40)))) (ds := [28]) (bb_ 29 0) (by kernel_rfl) rfl rfl ⟨((HB.out.cell (World.block_lt_of_cell? w _ hw237_0)).trans hw237_0), ((HB.out.cell (World.block_lt_of_cell? w _ hw238_0)).trans hw238_0)⟩ (fun hHeld => ?_); refine with_tabW spec_l07Round.tab14 spec_l07Round.bits14 (fun HT_ HW_ => ?_)
        generalize wr.drew = w49 at HO_7 HO_9 HB hx237_0 hx238_0 hHeld ⊢
        refine pS_ 0 75 (bb_ 29 1) HT_.out ?_
        refine pS_ 1 76 (bb_ 29 3) HT_.out ?_
        refine pS_ 2 77 (bb_ 29 7) HT_.out ?_
        refine pS_ 3 78 (bb_ 29 15) HT_.out ?_
        refine pS_ 4 79 (bb_ 29 31) HT_.out ?_
        refine pS_ 5 80 (bb_ 29 63) HT_.out ?_
        refine pS_ 6 81 (bb_ 29 127) HT_.out ?_
        refine pS_ 7 82 (bb_ 29 255) HT_.out ?_
        refine pS_ 8 83 (bb_ 29 511) HT_.out ?_
        refine pS_ 9 84 (bb_ 29 1023) HT_.out ?_
        refine pS_ 10 85 (bb_ 29 2047) HT_.out ?_
        refine pS_ 11 86 (bb_ 29 4095) HT_.out ?_
        refine pS_ 12 87 (bb_ 29 8191) HT_.out ?_
        refine pS_ 13 88 (bb_ 29 16383) HT_.out ?_
        refine pS_ 14 89 (bb_ 29 32767) HT_.out ?_
        refine pS_ 15 90 (bb_ 29 65535) HT_.out ?_
        refine pS_ 17 92 (bb_ 29 196607) HT_.out ?_
        refine pS_ 19 94 (bb_ 29 720895) HT_.out ?_
        refine pS_ 20 95 (bb_ 29 1769471) HT_.out ?_
        refine pS_ 21 96 (bb_ 29 3866623) HT_.out ?_
        refine pS_ 22 97 (bb_ 29 8060927) HT_.out ?_
        refine pS_ 23 98 (bb_ 29 16449535) HT_.out ?_
        refine pS_ 24 99 (bb_ 29 33226751) HT_.out ?_
        refine tS_ 16 91 (bb_ 29 33292287) (take_ofW HT_.out HW_.out (by kernel_rfl)) hHeld ?_
        refine pS_ 18 93 (bb_ 29 33554431) HT_.out ?_
        refine tS_ 25 100 (bb_ 29 67108863) (take_ofW HT_.out HW_.out (by kernel_rfl)) hHeld ?_
        refine one_ (i := 26) (N := some 101) (bb_ 29 134217727) rfl rfl (one_of HT_.out (by kernel_rfl)) (by decide) (fun K hK => ?_)
        refine goes_ Tryd.func90 (by kernel_rfl) rfl #[.int .u64 (Go.bits .xor .u64 (rd l0 (ji40)) (Go.bits .xor .u64 (rd x7_1 (ji30)) t236)), .int .i64 (rd l1 (ji40))] (by rfl) rfl rfl (by (try simp only [List.map_toArray, List.map_cons, List.map_nil]); first | done | (simp only [hji30, hji40]; rfl) | rfl | (simp only [List.length_drop, List.length_take]; rfl)) ?_
        with_reducible refine (spec_l07Left.calls k3 (Go.bits .xor .u64 (rd l0 (ji40)) (Go.bits .xor .u64 (rd x7_1 (ji30)) t236)) (rd l1 (ji40)) t239 _ A44.out).mono ?_
        rintro e w' ⟨rfl, ⟨nd, rfl⟩⟩
        refine ⟨_, rfl, ?_⟩
        have p48 : 0 ≤ ((ji45) : Int) := oD_
        have q48 : ((ji45) : Int) < ((x9_3.length : Int) : Int) := oD_
        obtain ⟨go48, co48, eo48, gb48, gl48, cl48, HG48⟩ := Kd.R_form HO_9.out (by omega)
        (first | cases eo48 | (injection eo48 with ea_ en_ ec_; (first | subst ea_ | (injection ea_ with ea_; subst ea_)); subst ec_; clear en_))
        have GB48 := Aside0.mk gb48
        have GG48 := Aside0.mk HG48
        clear gb48 gl48 HG48
        obtain ⟨hx48_0, hf48_0⟩ := Kd.R_celln 0 HO_9.out ((ji45) : Int) p48 q48
        replace p48 := eq_true p48
        replace q48 := eq_true q48
        have HP50 := Kd.R_putn HO_9.out ((ji45) : Int) t239
        rw [← Ny240.out] at HP50
        have HQ50 := Aside0.mk HP50
        clear HP50
        refine hK.out _ _ ⟨((HB.out.cell (World.block_lt_of_cell? w _ hw237_0)).trans hw237_0), ((HB.out.cell (World.block_lt_of_cell? w _ hw238_0)).trans hw238_0)⟩ (fun hHeld => ?_)
        clear hK K
        refine norm_ (a' := ?_) ?_ ?_
        rotate_left
        ·show Act.put _ (some 101) _ = _
         simp only [Act.put, List.setIfInBounds_toArray, List.set_cons_zero, List.set_cons_succ, i64_w, i32_w]
         rfl
        refine pS_ 27 102 (bb_ 29 268435455) HT_.out ?_
        refine last_ (i := 28) (N := none) (bb_ 29 536870911) rfl rfl (one_of HT_.out (by kernel_rfl)) (by decide) (fun K hK => ?_)
        refine skip_ (w1 := ?_) (by rfl) rfl ?_ ?_
        rotate_left
        ·go_simp
         rfl
        refine hK.out _ _ ?_
        clear hK K
        refine done_ (done_of HT_.out (by kernel_rfl)) ?_
        try go_wp2
        go_roundg k3
        case measure => have := HK1.out; have := HK2.out; have := HK3.out; omega
        case rel => exact ⟨(y240), (wrap64 (x12_3 + 1)), f0_, H', ⟨by have := HK1.out; have := HK2.out; have := HK3.out; omega⟩, ⟨by refine kR_ ?_; exact Kd.R_mono (Kd.R_far (p := ⟨go48, ((ji45) : Int).toNat, none⟩) (Kd.R_mono HO_7.out (fun k_ hk => (⟨hk, fun e_ => hk (by rw [e_]; rfl)⟩ : _ ∧ k_ ≠ go48))) (fun _ hk => hk.2) _) (fun _ hk => hk.1)⟩, ⟨rR_ HQ50.out⟩, ⟨hS_ GB48.out⟩⟩
     rw [if_neg c29] at H
     have c29b0 := decide_eq_false c29
     clear c29
     obtain ⟨c51, H⟩ := iN_ H
     have c51b0 := eq_true c51
     have c51b1 := decide_eq_true c51
     clear c51
     obtain ⟨y241, hy241⟩ : ∃ y_ : List Int, y_ = (List.replicate 25 0) := ⟨_, rfl⟩
     first | replace H := yb_ hy241 H | rw [← hy241] at H
     have Ny241 := Aside0.mk hy241
     clear hy241
     have H' := Aside0.mk H
     clear H
     go_wp2_with (first | ((with_reducible refine gate_dst (N := 103) rfl ?_); refine Kd.R_make (Kd.int .u64) _ 86 rfl (N := 103) rfl 84 _ _ rfl 25 rfl rfl Tryd.underlying84 (.int .u64 0) 8 info86 rfl (by decide) (by omega) 0 (ok := fun _ => True) (okp := fun _ => True) rfl (fun _ hk => hk) trivial (by omega) (by omega) (Below.refl _ _) (Nat.le_refl _) ?_; intro v242 w52 ho53 hb hg_ hnew_; clear hg_ hnew_; (first | rw [← Ny241.out] at ho53 | (simp only [Int.reduceToNat] at ho53; rw [← Ny241.out] at ho53)); have n_ := b_ (Kd.R_elder' (rR_ HO_7.out) (Kd.R_base ho53) hb) <| b_ (Kd.R_elder' (rR_ HO_9.out) (Kd.R_base ho53) hb) <| b_ (Kd.R_lower (Kd.R_new' (Kd.R_new' ho53 (Kd.R_lt (rR_ HO_7.out))) (Kd.R_lt (rR_ HO_9.out))) (below_size (hB_))) <| c_ (below_step (hB_) hb); clear HO_7 HO_9 HB; obtain ⟨HO_7, HO_9, HO243, HB⟩ := n_; clear hb ho53))
     go_loopg [14] k2 (fun kq v14 w' => ∃ (x13_3 : List Int) (x14_3 : Int), v14 = .int .i64 x14_3 ∧ Aside0 (spec_l07Round.l3 kq a2 x9_2 x13_3 x14_3 = some r) ∧ Aside0 (kq ≤ k2) ∧ Aside0 (Kd.R (Kd.int .u64) 86 w' w.heap.size (fun k_ => some k_ ≠ (v242 : Value).ownBlock) v232 x9_2) ∧ Aside0 (Kd.R (Kd.int .u64) 86 w' w.heap.size (fun k_ => some k_ ≠ (v232 : Value).ownBlock) v242 x13_3) ∧ Aside0 (Below w.heap.size w w'))
     case atStart => exact ⟨(y241), (0), f0_, H', ⟨Nat.le_refl _⟩, ⟨by refine kR_ ?_; exact Kd.R_mono HO_9.out (fun _ hk => hk.2)⟩, ⟨by refine kR_ ?_; exact Kd.R_mono HO243.out (fun _ hk => hk.2)⟩, ⟨hB_⟩⟩
     case round =>
      clear H'
      obtain ⟨x13_3, x14_3, rfl, HA, HK3, HO_9, HO_13, HB⟩ := hrel
      cases gk with
      | zero => exact absurd HA.out (by simp [spec_l07Round.l3])
      | succ k3 =>
       have H := HA.out
       clear HA
       simp only [spec_l07Round.l3] at H
       by_cases c54 : x14_3 < 5
       rotate_left
       ·rw [if_neg c54] at H
        have c54b0 := decide_eq_false c54
        clear c54
        obtain ⟨c70, H⟩ := iN_ H
        have c70b0 := decide_eq_true c70
        have c70b1 : decide (0 < x13_3.length) = true := decide_eq_true (by omega)
        clear c70
        obtain ⟨y245, hy245⟩ : ∃ y_ : List Int, y_ = (x13_3.set (0 : Int).toNat (Go.bits .xor .u64 (rd x13_3 0) a2)) := ⟨_, rfl⟩
        first | replace H := yb_ hy245 H | rw [← hy245] at H
        have Ny245 := Aside0.mk hy245
        clear hy245
        obtain rfl := Option.some.inj H
        obtain ⟨Ao72, co72, eo72⟩ := Kd.R_slice HO_13.out
        subst eo72
        have p244 : 0 ≤ (0 : Int) := (by omega)
        have q244 : 0 < (x13_3.length : Int) := oD_
        obtain ⟨ad244, e244, hx244_0⟩ := Kd.at_int (Kd.R_reads' HO_13.out).2.2 0 p244 q244
        cases e244
        have qi244 : (0 < x13_3.length) = True := eq_true (by omega)
        (try rw [show ((0 : Int)).toNat = 0 from rfl] at hx244_0)
        (try rw [Addr.add_zero'] at hx244_0)
        replace p244 := eq_true p244
        replace q244 := eq_true q244
        have p71 : 0 ≤ (0 : Int) := (by omega)
        have q71 : (0 : Int) < ((x13_3.length : Int) : Int) := oD_
        have qi71 : (0 < x13_3.length) = True := eq_true (by omega)
        obtain ⟨go71, co71, eo71, gb71, gl71, cl71, HG71⟩ := Kd.R_form HO_13.out (by omega)
        (first | cases eo71 | (injection eo71 with ea_ en_ ec_; (first | subst ea_ | (injection ea_ with ea_; subst ea_)); subst ec_; clear en_))
        have GB71 := Aside0.mk gb71
        have GG71 := Aside0.mk HG71
        clear gb71 gl71 HG71
        (first | simp only [add_plain] at hx244_0 | skip)
        obtain ⟨hx71_0, hf71_0⟩ := Kd.R_celln 0 HO_13.out (0 : Int) p71 q71
        (try rw [show ((0 : Int)).toNat = 0 from rfl] at hx71_0)
        (try simp only [Nat.reduceMul, Nat.zero_mul, Nat.zero_add, Nat.reduceAdd] at hx71_0)
        (try rw [show ((0 : Int)).toNat = 0 from rfl] at hf71_0)
        (try simp only [Nat.reduceMul, Nat.zero_mul, Nat.zero_add, Nat.reduceAdd] at hf71_0)
        replace p71 := eq_true p71
        replace q71 := eq_true q71
        have HP73 := Kd.R_putg HO_13.out (0 : Int) (Go.bits .xor .u64 (rd x13_3 0) a2)
        go_wp2_with (first | ((with_reducible refine gate_store (t := 86) (p := 152) rfl ?_); refine store_event (t := 86) (p := 152) (v := ?vo_w74) (w1 := (wr.setCell ⟨go71, (0 : Int).toNat, none⟩ (.int .u64 (Go.bits .xor .u64 (rd x13_3 0) a2)))) ?hg ?ho ?hn ?hr ?_; (case ho => rfl); (case hg => rfl); (case hn => rfl); (case hr => first | (go_simp; done) | (go_simp; rfl)); intro w74 hw; have hg : wr.grownBy w74 (some go71) := (by rw [hw]; exact HP73.2); have hp_ : Kd.R (Kd.int .u64) 86 w74 w.heap.size (fun k_ => some k_ ≠ (v232 : Value).ownBlock) (.slice (some ⟨go71, 0, none⟩) x13_3.length co72) y245 := (by rw [hw, Ny245.out]; exact HP73.1); clear HP73; have n_ := b_ (Kd.R_after (v := (.slice (some ⟨go71, 0, none⟩) x13_3.length co72)) (v1 := (.slice (some ⟨go71, 0, none⟩) x13_3.length co72)) (ok := (fun _ => True)) (by refine kR_ ?_; exact Kd.R_mono HO_9.out (fun _ hk => ⟨trivial, hk⟩)) hg (.inl rfl)) <| b_ (hp_) <| c_ (by rw [hw]; exact below_set (HB.out) GB71.out : Below w.heap.size w w74); clear HO_9 HO_13 HB; obtain ⟨HO_9, HO_13, HB⟩ := n_; clear hg hw hp_))
        go_ret
        exact ⟨_, f1_, by refine kR_ ?_; exact Kd.R_mono HO_13.out (fun _ hk => trivial), hB_⟩
       rw [if_pos c54] at H
       have c54b0 := decide_eq_true c54
       clear c54
       have H' := Aside0.mk H
       clear H
       go_wp2
       go_loopg [15] k3 (fun kq v15 w' => ∃ (x13_4 : List Int) (x15_4 : Int), v15 = .int .i64 x15_4 ∧ Aside0 (spec_l07Round.l4 kq a2 x9_2 x13_4 x14_3 x15_4 = some r) ∧ Aside0 (kq ≤ k3) ∧ Aside0 (Kd.R (Kd.int .u64) 86 w' w.heap.size (fun k_ => some k_ ≠ (v242 : Value).ownBlock) v232 x9_2) ∧ Aside0 (Kd.R (Kd.int .u64) 86 w' w.heap.size (fun k_ => some k_ ≠ (v232 : Value).ownBlock) v242 x13_4) ∧ Aside0 (Below w.heap.size w w'))
       case atStart => exact ⟨(x13_3), (0), f0_, H', ⟨Nat.le_refl _⟩, ⟨rR_ HO_9.out⟩, ⟨rR_ HO_13.out⟩, ⟨hB_⟩⟩
       case round =>
        clear H'
        obtain ⟨x13_4, x15_4, rfl, HA, HK4, HO_9, HO_13, HB⟩ := hrel
        cases gk with
        | zero => exact absurd HA.out (by simp [spec_l07Round.l4])
        | succ k4 =>
         have H := HA.out
         clear HA
         simp only [spec_l07Round.l4] at H
         by_cases c55 : x15_4 < 5
         rotate_left
         ·rw [if_neg c55] at H
          have c55b0 := decide_eq_false c55
          clear c55
          have H' := Aside0.mk H
          clear H
          go_wp2
          go_roundg k4
          case measure => have := HK1.out; have := HK2.out; have := HK3.out; have := HK4.out; omega
          case rel => exact ⟨(x13_4), (wrap64 (x14_3 + 1)), f0_, H', ⟨by have := HK1.out; have := HK2.out; have := HK3.out; have := HK4.out; omega⟩, ⟨rR_ HO_9.out⟩, ⟨rR_ HO_13.out⟩, ⟨hB_⟩⟩
         rw [if_pos c55] at H
         have c55b0 := decide_eq_true c55
         clear c55
         obtain ⟨ji56, hji56⟩ : ∃ j_ : Int, (wrap64 (x14_3 + (wrap64 (5 * x15_4)))) = j_ := ⟨_, rfl⟩
         first | rw [hji56] at H | simp only [hji56] at H
         have hji56w : (IntKind.i64.wrap (x14_3 + (wrap64 (5 * x15_4)))) = ji56 := (i64_w _).trans hji56
         obtain ⟨c57b0, H⟩ := iD_ H
         obtain ⟨c58b0, H⟩ := iD_ H
         obtain ⟨ji59, hji59⟩ : ∃ j_ : Int, (wrap64 ((Int.tmod (wrap64 (x14_3 + 1)) 5) + (wrap64 (5 * x15_4)))) = j_ := ⟨_, rfl⟩
         first | rw [hji59] at H | simp only [hji59] at H
         have hji59w : (IntKind.i64.wrap ((Int.tmod (wrap64 (x14_3 + 1)) 5) + (wrap64 (5 * x15_4)))) = ji59 := (i64_w _).trans hji59
         obtain ⟨c60b0, H⟩ := iD_ H
         obtain ⟨c61b0, H⟩ := iD_ H
         obtain ⟨ji62, hji62⟩ : ∃ j_ : Int, (wrap64 ((Int.tmod (wrap64 (x14_3 + 2)) 5) + (wrap64 (5 * x15_4)))) = j_ := ⟨_, rfl⟩
         first | rw [hji62] at H | simp only [hji62] at H
         have hji62w : (IntKind.i64.wrap ((Int.tmod (wrap64 (x14_3 + 2)) 5) + (wrap64 (5 * x15_4)))) = ji62 := (i64_w _).trans hji62
         obtain ⟨c63b0, H⟩ := iD_ H
         obtain ⟨c64b0, H⟩ := iD_ H
         obtain ⟨c65b0, H⟩ := iD_ H
         obtain ⟨y249, hy249⟩ : ∃ y_ : List Int, y_ = (x13_4.set ((ji56) : Int).toNat (Go.bits .xor .u64 (rd x9_2 (ji56)) (Go.bits .and .u64 (IntKind.u64.wrap (18446744073709551615 - (rd x9_2 (ji59)))) (rd x9_2 (ji62))))) := ⟨_, rfl⟩
         first | replace H := yb_ hy249 H | rw [← hy249] at H
         have Ny249 := Aside0.mk hy249
         clear hy249
         have H' := Aside0.mk H
         clear H
         try go_wp2
         have n_ := b_ (Kd.R_drew HO_9.out) <| b_ (Kd.R_drew HO_13.out) <| c_ (below_drew1 HB.out)
         clear HO_9 HO_13 HB
         obtain ⟨HO_9, HO_13, HB⟩ := n_
         obtain ⟨Ao68, co68, eo68⟩ := Kd.R_slice HO_9.out
         (first | subst eo68 | (injection eo68 with f1_ f2_ f3_; have f4_ := f1_.symm; have f5_ := f3_.symm; clear f1_ f2_ f3_; subst f4_; subst f5_))
         have p246 : 0 ≤ ((ji56) : Int) := oD_
         have q246 : (ji56) < (x9_2.length : Int) := oD_
         obtain ⟨ad246, e246, hx246_0⟩ := Kd.at_int (Kd.R_reads' HO_9.out).2.2 (ji56) p246 q246
         cases e246
         replace p246 := eq_true p246
         replace q246 := eq_true q246
         have p247 : 0 ≤ ((ji59) : Int) := oD_
         have q247 : (ji59) < (x9_2.length : Int) := oD_
         obtain ⟨ad247, e247, hx247_0⟩ := Kd.at_int (Kd.R_reads' HO_9.out).2.2 (ji59) p247 q247
         obtain rfl : ad246 = ad247 := (by injection e247)
         replace p247 := eq_true p247
         replace q247 := eq_true q247
         have p248 : 0 ≤ ((ji62) : Int) := oD_
         have q248 : (ji62) < (x9_2.length : Int) := oD_
         obtain ⟨ad248, e248, hx248_0⟩ := Kd.at_int (Kd.R_reads' HO_9.out).2.2 (ji62) p248 q248
         obtain rfl : ad246 = ad248 := (by injection e248)
         replace p248 := eq_true p248
         replace q248 := eq_true q248
         have p66 : 0 ≤ ((ji56) : Int) := oD_
         have q66 : ((ji56) : Int) < ((x13_4.length : Int) : Int) := oD_
         obtain ⟨go66, co66, eo66, gb66, gl66, cl66, HG66⟩ := Kd.R_form HO_13.out (by omega)
         (first | cases eo66 | (injection eo66 with ea_ en_ ec_; (first | subst ea_ | (injection ea_ with ea_; subst ea_)); subst ec_; clear en_))
         have GB66 := Aside0.mk gb66
         have GG66 := Aside0.mk HG66
         clear gb66 gl66 HG66
         obtain ⟨hx66_0, hf66_0⟩ := Kd.R_celln 0 HO_13.out ((ji56) : Int) p66 q66
         replace p66 := eq_true p66
         replace q66 := eq_true q66
         have HP69 := Kd.R_putn HO_13.out ((ji56) : Int) (Go.bits .xor .u64 (rd x9_2 (ji56)) (Go.bits .and .u64 (IntKind.u64.wrap (18446744073709551615 - (rd x9_2 (ji59)))) (rd x9_2 (ji62))))
         rw [← Ny249.out] at HP69
         have HQ69 := Aside0.mk HP69
         clear HP69
         refine start_ (n := 35) (S := fun w' => w'.cell? (ad246.add ((ji56)).toNat) = some (.int .u64 (rd x9_2 (ji56))) ∧ w'.cell? (ad246.add ((ji59)).toNat) = some (.int .u64 (rd x9_2 (ji59))) ∧ w'.cell? (ad246.add ((ji62)).toNat) = some (.int .u64 (rd x9_2 (ji62)))) (ds := [34]) (bb_ 35 0) (by kernel_rfl) rfl rfl ⟨hx246_0, hx247_0, hx248_0⟩ (fun hHeld => ?_); refine with_tabW spec_l07Round.tab22 spec_l07Round.bits22 (fun HT_ HW_ => ?_)
         generalize wr.drew = w67 at HO_9 HO_13 HB GG66 HQ69 hf66_0 hx246_0 hx247_0 hx248_0 hx66_0 hHeld ⊢
         refine pS_ 0 112 (bb_ 35 1) HT_.out ?_
         refine pS_ 1 113 (bb_ 35 3) HT_.out ?_
         refine pS_ 2 114 (bb_ 35 7) HT_.out ?_
         refine pS_ 3 115 (bb_ 35 15) HT_.out ?_
         refine pS_ 4 116 (bb_ 35 31) HT_.out ?_
         refine pS_ 5 117 (bb_ 35 63) HT_.out ?_
         refine pS_ 6 118 (bb_ 35 127) HT_.out ?_
         refine pS_ 7 119 (bb_ 35 255) HT_.out ?_
         refine pS_ 8 120 (bb_ 35 511) HT_.out ?_
         refine pS_ 9 121 (bb_ 35 1023) HT_.out ?_
         refine pS_ 10 122 (bb_ 35 2047) HT_.out ?_
         refine pS_ 12 124 (bb_ 35 6143) HT_.out ?_
         refine pS_ 13 125 (bb_ 35 14335) HT_.out ?_
         refine pS_ 14 126 (bb_ 35 30719) HT_.out ?_
         refine pS_ 15 127 (bb_ 35 63487) HT_.out ?_
         refine pS_ 16 128 (bb_ 35 129023) HT_.out ?_
         refine pS_ 17 129 (bb_ 35 260095) HT_.out ?_
         refine pS_ 18 130 (bb_ 35 522239) HT_.out ?_
         refine pS_ 19 131 (bb_ 35 1046527) HT_.out ?_
         refine pS_ 22 134 (bb_ 35 5240831) HT_.out ?_
         refine pS_ 23 135 (bb_ 35 13629439) HT_.out ?_
         refine pS_ 24 136 (bb_ 35 30406655) HT_.out ?_
         refine pS_ 25 137 (bb_ 35 63961087) HT_.out ?_
         refine pS_ 26 138 (bb_ 35 131069951) HT_.out ?_
         refine pS_ 27 139 (bb_ 35 265287679) HT_.out ?_
         refine pS_ 28 140 (bb_ 35 533723135) HT_.out ?_
         refine pS_ 29 141 (bb_ 35 1070594047) HT_.out ?_
         refine tS_ 11 123 (bb_ 35 1070596095) (take_ofW HT_.out HW_.out (by kernel_rfl)) hHeld ?_
         refine tS_ 20 132 (bb_ 35 1071644671) (take_ofW HT_.out HW_.out (by kernel_rfl)) hHeld ?_
         refine pS_ 21 133 (bb_ 35 1073741823) HT_.out ?_
         refine tS_ 30 142 (bb_ 35 2147483647) (take_ofW HT_.out HW_.out (by kernel_rfl)) hHeld ?_
         refine pS_ 31 143 (bb_ 35 4294967295) HT_.out ?_
         refine pS_ 32 144 (bb_ 35 8589934591) HT_.out ?_
         refine pS_ 33 145 (bb_ 35 17179869183) HT_.out ?_
         refine last_ (i := 34) (N := none) (bb_ 35 34359738367) rfl rfl (one_of HT_.out (by kernel_rfl)) (by decide) (fun K hK => ?_)
         refine skip_ (w1 := ?_) (by rfl) rfl ?_ ?_
         rotate_left
         ·go_simp
          rfl
         refine hK.out _ _ ?_
         clear hK K
         refine done_ (done_of HT_.out (by kernel_rfl)) ?_
         try go_wp2
         go_roundg k4
         case measure => have := HK1.out; have := HK2.out; have := HK3.out; have := HK4.out; omega
         case rel => exact ⟨(y249), (wrap64 (x15_4 + 1)), f0_, H', ⟨by have := HK1.out; have := HK2.out; have := HK3.out; have := HK4.out; omega⟩, ⟨by refine kR_ ?_; exact Kd.R_mono (Kd.R_far (p := ⟨go66, ((ji56) : Int).toNat, none⟩) (Kd.R_mono HO_9.out (fun k_ hk => (⟨hk, fun e_ => hk (by rw [e_]; rfl)⟩ : _ ∧ k_ ≠ go66))) (fun _ hk => hk.2) (.int .u64 (Go.bits .xor .u64 (rd x9_2 (ji56)) (Go.bits .and .u64 (IntKind.u64.wrap (18446744073709551615 - (rd x9_2 (ji59)))) (rd x9_2 (ji62)))))) (fun _ hk => hk.1)⟩, ⟨rR_ HQ69.out⟩, ⟨hS_ GB66.out⟩⟩

/-! ### spec_l07Permute: function 77 -/
def spec_l07Permute.l0 : Nat → List Int → List Int → List Int → Int → Option (List Int)
 | 0, _, _, _, _ => none
 | k + 1, x0, x3, x4, x5 => if x5 < 24 then (if 0 ≤ x5 then (if x5 < (x4.length : Int) then ((spec_l07Round.f k x0 x3 (rd x4 x5)).bind fun t257 => (spec_l07Permute.l0 k t257 x3 x4 (wrap64 (x5 + 1)))) else (none)) else (none)) else (some x0)
def spec_l07Permute.f (k : Nat) (l0 : List Int) : Option (List Int) := (spec_l07Turns.f k).bind fun t250 => ((spec_l07Rounds.f k).bind fun t253 => (spec_l07Permute.l0 k l0 t250 t253 0))
theorem spec_l07Permute.mono_l : ∀ k, (∀ y0 y1 y2 y3, LeO (spec_l07Permute.l0 k y0 y1 y2 y3) (spec_l07Permute.l0 (k + 1) y0 y1 y2 y3))
 | 0 => fun _ _ _ _ r h => by simp [spec_l07Permute.l0] at h
 | k + 1 => by
  have ih0 := spec_l07Permute.mono_l k
  intros; unfold spec_l07Permute.l0; exact o4_ ih0 spec_l07Round.mono spec_l07Rounds.mono spec_l07Turns.mono
theorem spec_l07Permute.mono : ∀ a0 k, LeO (spec_l07Permute.f k a0) (spec_l07Permute.f (k + 1) a0) := by
 intro a0 k
 have ih0 := spec_l07Permute.mono_l k
 unfold spec_l07Permute.f
 exact o4_ ih0 spec_l07Round.mono spec_l07Rounds.mono spec_l07Turns.mono
theorem spec_l07Permute.calls (k : Nat) (P0_ : Nat → Prop) (A0 : Option Addr) (c0 : Nat) (l0 : List Int) (r : List Int) (w : World) (hs0 : Kd.V (Kd.int .u64) 86 w w.heap.size (fun k_ => P0_ k_) (.slice A0 l0.length c0) l0) (h : spec_l07Permute.f k l0 = some r) :
  Calls Tryd.prog 77 #[.slice A0 l0.length c0] w fun e w' => ∃ v0_ : Value, e = .returned (v0_) ∧ Kd.V (Kd.int .u64) 86 w' w.heap.size (fun k_ => (P0_ k_ ∨ w.heap.size ≤ k_)) v0_ r ∧ Below w.heap.size w w' := by
 have HO0 := Aside0.mk (show Kd.V (Kd.int .u64) 86 w w.heap.size (fun k_ => (P0_ k_ ∨ w.heap.size ≤ k_)) (.slice A0 l0.length c0) l0 from Kd.V_mono hs0 (fun k_ hk => .inl hk))
 have HB := Aside0.mk (Below.refl w.heap.size w)
 delta spec_l07Permute.f at h
 have H := h
 clear h
 obtain ⟨t250, A2, H⟩ := bN_ H
 obtain ⟨t253, A3, H⟩ := bN_ H
 have H' := Aside0.mk H
 clear H
 go_enter Tryd.func77, Tryd.ntmps77
 go_wp2_with (first | ((with_reducible refine gate_callee (f := 83) rfl ?_); refine goesL_ (some 6) rfl rfl Tryd.func83 (by kernel_rfl) rfl #[] rfl aM_ ?_; (with_reducible refine (spec_l07Turns.calls k  t250 _ A2.out).mono ?_); rintro e w4 ⟨v251, rfl, ho0, hb⟩; refine ⟨_, rfl, ?_⟩; have n_ := b_ (Kd.V_elder' (rV_ HO0.out) (Kd.R_base ho0) hb) <| b_ (Kd.R_lower (Kd.R_newM (M := fun k_ => (w.heap.size ≤ k_)) ho0 (below_size (hB_)) (fun k_ h_ => h_)) (below_size (hB_))) <| c_ (below_step (hB_) hb); clear HO0 HB; obtain ⟨HO0, HO252, HB⟩ := n_; (try clear ho0)) | ((with_reducible refine gate_callee (f := 84) rfl ?_); refine goesL_ (some 7) rfl rfl Tryd.func84 (by kernel_rfl) rfl #[] rfl aM_ ?_; (with_reducible refine (spec_l07Rounds.calls k  t253 _ A3.out).mono ?_); rintro e w5 ⟨v254, rfl, ho0, hb⟩; refine ⟨_, rfl, ?_⟩; have n_ := b_ (Kd.V_elder' (rV_ HO0.out) (Kd.R_base ho0) hb) <| b_ (Kd.R_below (rR_ HO252.out) hb) <| b_ (Kd.R_lower (Kd.R_newM (M := fun k_ => (w.heap.size ≤ k_)) ho0 (below_size (hB_)) (fun k_ h_ => h_)) (below_size (hB_))) <| c_ (below_step (hB_) hb); clear HO0 HO252 HB; obtain ⟨HO0, HO252, HO255, HB⟩ := n_; (try clear ho0)))
 go_loopg [0, 5] k (fun kq v0 v5 w' => ∃ (x0_1 : List Int) (x5_1 : Int), v5 = .int .i64 x5_1 ∧ Aside0 (spec_l07Permute.l0 kq x0_1 t250 t253 x5_1 = some r) ∧ Aside0 (kq ≤ k) ∧ Aside0 (Kd.V (Kd.int .u64) 86 w' w.heap.size (fun k_ => (P0_ k_ ∨ w.heap.size ≤ k_) ∧ some k_ ≠ (v251 : Value).ownBlock ∧ some k_ ≠ (v254 : Value).ownBlock) v0 x0_1) ∧ Aside0 (Kd.R (Kd.int .i64) 3 w' w.heap.size (fun k_ => (w.heap.size ≤ k_)) v251 t250) ∧ Aside0 (Kd.R (Kd.int .u64) 86 w' w.heap.size (fun k_ => (w.heap.size ≤ k_)) v254 t253) ∧ Aside0 (Below w.heap.size w w'))
 case atStart => exact ⟨(l0), (0), f0_, H', ⟨Nat.le_refl _⟩, ⟨by refine kV_ ?_; exact Kd.V_mono HO0.out (fun _ hk => ⟨hk.1.1, ⟨hk.1.2, hk.2⟩⟩)⟩, ⟨by refine kR_ ?_; exact Kd.R_mono HO252.out (fun _ hk => hk.1)⟩, ⟨by refine kR_ ?_; exact Kd.R_mono HO255.out (fun _ hk => hk.1)⟩, ⟨hB_⟩⟩
 case round =>
  clear H'
  obtain ⟨x0_1, x5_1, rfl, HA, HK1, HO_0, HO_3, HO_4, HB⟩ := hrel
  cases gk with
  | zero => exact absurd HA.out (by simp [spec_l07Permute.l0])
  | succ k1 =>
   have H := HA.out
   clear HA
   simp only [spec_l07Permute.l0] at H
   by_cases c6 : x5_1 < 24
   rotate_left
   ·rw [if_neg c6] at H
    have c6b0 := decide_eq_false c6
    clear c6
    obtain rfl := Option.some.inj H
    go_wp2
    go_ret
    exact ⟨_, f1_, by refine kV_ ?_; exact Kd.V_mono HO_0.out (fun _ hk => hk.1), hB_⟩
   rw [if_pos c6] at H
   have c6b0 := decide_eq_true c6
   clear c6
   obtain ⟨c7b0, H⟩ := iD_ H
   obtain ⟨c8b0, H⟩ := iD_ H
   obtain ⟨t257, A9, H⟩ := bN_ H
   have H' := Aside0.mk H
   clear H
   obtain ⟨Ao10, co10, eo10⟩ := Kd.R_slice HO_4.out
   subst eo10
   have p256 : 0 ≤ (x5_1 : Int) := oD_
   have q256 : x5_1 < (t253.length : Int) := oD_
   obtain ⟨ad256, e256, hx256_0⟩ := Kd.at_int (Kd.R_reads' HO_4.out).2.2 x5_1 p256 q256
   cases e256
   replace p256 := eq_true p256
   replace q256 := eq_true q256
   obtain ⟨Ao11, co11, eo11⟩ := Kd.V_slice HO_0.out
   subst eo11
   obtain ⟨Ao12, co12, eo12⟩ := Kd.R_slice HO_3.out
   subst eo12
   go_wp2_with (first | ((with_reducible refine gate_callee (f := 85) rfl ?_); refine goesL_ (some 18) rfl rfl Tryd.func85 (by kernel_rfl) rfl #[.slice Ao11 x0_1.length co11, .slice Ao12 t250.length co12, .int .u64 (rd t253 x5_1)] rfl aM_ ?_; (with_reducible refine (spec_l07Round.calls k1 _ _ x0_1 _ _ t250 (rd t253 x5_1) t257 _ ?side1 ?side2 ?side3 ?side4 A9.out).mono ?_); (case side1 => exact cR_ (Kd.V_reads' HO_0.out).2.2); (case side2 => exact (Kd.V_reads' HO_0.out).2.1); (case side3 => exact cR_ (Kd.R_reads' HO_3.out).2.2); (case side4 => exact (Kd.R_reads' HO_3.out).2.1); rintro e w13 ⟨v258, rfl, ho0, hb⟩; refine ⟨_, rfl, ?_⟩; have n_ := b_ (Kd.V_elder' (rV_ HO_0.out) (Kd.R_base ho0) hb) <| b_ (Kd.R_below (rR_ HO_3.out) hb) <| b_ (Kd.R_elder' (rR_ HO_4.out) (Kd.R_base ho0) hb) <| b_ (Kd.R_lower (Kd.R_new' (Kd.R_newM (M := fun k_ => (w.heap.size ≤ k_)) ho0 (below_size (hB_)) (fun k_ h_ => h_)) (Kd.R_lt (rR_ HO_4.out))) (below_size (hB_))) <| c_ (below_step (hB_) hb); clear HO_0 HO_3 HO_4 HB; obtain ⟨HO_0, HO_3, HO_4, HO259, HB⟩ := n_; (try clear ho0)))
   go_roundg k1
   case measure => have := HK1.out; omega
   case rel => exact ⟨(t257), (wrap64 (x5_1 + 1)), f0_, H', ⟨by have := HK1.out; omega⟩, ⟨Kd.V_mono (Kd.R_V (Kd.R_apart' HO259.out (Kd.R_typed HO_3.out) (by decide))) (fun k_ hk => ⟨.inr hk.1.1.1, hk.2, hk.1.2⟩)⟩, ⟨rR_ HO_3.out⟩, ⟨by refine kR_ ?_; exact Kd.R_mono HO_4.out (fun _ hk => hk.1)⟩, ⟨hB_⟩⟩

/-! ### spec_l07Bytes: function 78 -/
mutual
def spec_l07Bytes.l0 : Nat → List Int → List Int → Int → Option (ByteArray)
 | 0, _, _, _ => none
 | k + 1, x0, x3, x4 => if x4 < (x0.length : Int) then (if 0 ≤ x4 then (spec_l07Bytes.l1 k x0 x3 x4 (rd x0 x4) 0) else (none)) else (some (strOfNums x3))
def spec_l07Bytes.l1 : Nat → List Int → List Int → Int → Int → Int → Option (ByteArray)
 | 0, _, _, _, _, _ => none
 | k + 1, x0, x3, x4, x5, x6 => if x6 < 8 then (if x3.length < 140737488355328 then (spec_l07Bytes.l1 k x0 (x3 ++ [(Int.tmod x5 256) % 256]) x4 (IntKind.u64.wrap (Int.tdiv x5 256)) (wrap64 (x6 + 1))) else (none)) else (spec_l07Bytes.l0 k x0 x3 (wrap64 (x4 + 1)))
end
def spec_l07Bytes.f (k : Nat) (l0 : List Int) : Option (ByteArray) := spec_l07Bytes.l0 k l0 (([] : List Int)) 0
theorem spec_l07Bytes.mono_l : ∀ k, (∀ y0 y1 y2, LeO (spec_l07Bytes.l0 k y0 y1 y2) (spec_l07Bytes.l0 (k + 1) y0 y1 y2)) ∧ (∀ y0 y1 y2 y3 y4, LeO (spec_l07Bytes.l1 k y0 y1 y2 y3 y4) (spec_l07Bytes.l1 (k + 1) y0 y1 y2 y3 y4))
 | 0 => ⟨fun _ _ _ r h => by simp [spec_l07Bytes.l0] at h, fun _ _ _ _ _ r h => by simp [spec_l07Bytes.l1] at h⟩
 | k + 1 => by
  obtain ⟨ih0, ih1⟩ := spec_l07Bytes.mono_l k
  refine ⟨?_, ?_⟩ <;> (intros; (first | unfold spec_l07Bytes.l0 | unfold spec_l07Bytes.l1); exact o2_ ih0 ih1)
theorem spec_l07Bytes.mono : ∀ a0 k, LeO (spec_l07Bytes.f k a0) (spec_l07Bytes.f (k + 1) a0) := by
 intro a0 k
 obtain ⟨ih0, ih1⟩ := spec_l07Bytes.mono_l k
 unfold spec_l07Bytes.f
 exact o2_ ih0 ih1
theorem spec_l07Bytes.calls (k : Nat) (A0 : Option Addr) (c0 : Nat) (l0 : List Int) (r : ByteArray) (w : World) (hr0 : Kd.C (Kd.int .u64) w A0 l0.length l0) (hc0 : l0.length ≤ c0) (h : spec_l07Bytes.f k l0 = some r) :
  Calls Tryd.prog 78 #[.slice A0 l0.length c0] w fun e w' => e = .returned (.string r) ∧ Below w.heap.size w w' := by
 have HR0 := Aside0.mk hr0
 have HC0 := Aside0.mk hc0
 clear hr0 hc0
 have HB := Aside0.mk (Below.refl w.heap.size w)
 delta spec_l07Bytes.f at h
 have H := h
 clear h
 obtain ⟨y260, hy260⟩ : ∃ y_ : List Int, y_ = (([] : List Int)) := ⟨_, rfl⟩
 first | replace H := yb_ hy260 H | rw [← hy260] at H
 have Ny260 := Aside0.mk hy260
 clear hy260
 have H' := Aside0.mk H
 clear H
 go_enter Tryd.func78, Tryd.ntmps78
 go_wp2_with (first | ((with_reducible refine gate_dst (N := 7) rfl ?_); refine Kd.R_lit (Kd.int .u8) _ 5 ?hg (N := 7) ?hd (xs := ([] : List Int)) (inner := []) (ok := fun _ => True) (okp := fun _ => True) ?hr ?hp (fun _ hk => hk) trivial (Below.refl _ _) (Nat.le_refl _) (by simp) ?_; (case hd => rfl); (case hg => rfl); (case hr => first | (go_simp; done) | (go_simp; rfl)); (case hp => exact (Reps.none _ _)); intro v261 w2 ho3 hb hg_ hnew_; clear hg_ hnew_; (first | rw [← Ny260.out] at ho3 | (simp only [Int.reduceToNat] at ho3; rw [← Ny260.out] at ho3)); have n_ := b_ (Kd.R_lower ho3 (below_size (hB_))) <| c_ (below_step (hB_) hb); clear HB; obtain ⟨HO262, HB⟩ := n_; clear hb ho3))
 go_loopg [3, 4] k (fun kq v3 v4 w' => ∃ (x3_1 : List Int) (x4_1 : Int), v4 = .int .i64 x4_1 ∧ Aside0 (spec_l07Bytes.l0 kq l0 x3_1 x4_1 = some r) ∧ Aside0 (kq ≤ k) ∧ Aside0 (Kd.R (Kd.int .u8) 5 w' w.heap.size (fun _ => True) v3 x3_1) ∧ Aside0 (Below w.heap.size w w'))
 case atStart => exact ⟨(y260), (0), f0_, H', ⟨Nat.le_refl _⟩, ⟨rR_ HO262.out⟩, ⟨hB_⟩⟩
 case round =>
  clear H'
  obtain ⟨x3_1, x4_1, rfl, HA, HK1, HO_3, HB⟩ := hrel
  cases gk with
  | zero => exact absurd HA.out (by simp [spec_l07Bytes.l0])
  | succ k1 =>
   have H := HA.out
   clear HA
   simp only [spec_l07Bytes.l0] at H
   by_cases c4 : x4_1 < (l0.length : Int)
   rotate_left
   ·rw [if_neg c4] at H
    have c4b0 := decide_eq_false c4
    clear c4
    obtain rfl := Option.some.inj H
    have hcv9 := own_string (P := Tryd.prog) Tryd.underlying62 Tryd.underlying5 Tryd.underlying9 (Kd.own_of_R HO_3.out)
    go_wp2
    go_ret
    exact ⟨f1_, hB_⟩
   rw [if_pos c4] at H
   have c4b0 := decide_eq_true c4
   clear c4
   obtain ⟨c5b0, H⟩ := iD_ H
   have H' := Aside0.mk H
   clear H
   have p263 : 0 ≤ (x4_1 : Int) := oD_
   have q263 : x4_1 < (l0.length : Int) := oD_
   obtain ⟨ad263, e263, hx263_0⟩ := Kd.at_int HR0.out x4_1 p263 q263
   cases e263
   replace hx263_0 := (HB.out.cell (World.block_lt_of_cell? w _ hx263_0)).trans hx263_0
   replace p263 := eq_true p263
   replace q263 := eq_true q263
   go_wp2
   go_loopg [3, 5, 6] k1 (fun kq v3 v5 v6 w' => ∃ (x3_2 : List Int) (x5_2 : Int) (x6_2 : Int), v5 = .int .u64 x5_2 ∧ v6 = .int .i64 x6_2 ∧ Aside0 (spec_l07Bytes.l1 kq l0 x3_2 x4_1 x5_2 x6_2 = some r) ∧ Aside0 (kq ≤ k1) ∧ Aside0 (Kd.R (Kd.int .u8) 5 w' w.heap.size (fun _ => True) v3 x3_2) ∧ Aside0 (Below w.heap.size w w'))
   case atStart => exact ⟨(x3_1), (rd l0 x4_1), (0), f0_, f0_, H', ⟨Nat.le_refl _⟩, ⟨rR_ HO_3.out⟩, ⟨hB_⟩⟩
   case round =>
    clear H'
    obtain ⟨x3_2, x5_2, x6_2, rfl, rfl, HA, HK2, HO_3, HB⟩ := hrel
    cases gk with
    | zero => exact absurd HA.out (by simp [spec_l07Bytes.l1])
    | succ k2 =>
     have H := HA.out
     clear HA
     simp only [spec_l07Bytes.l1] at H
     by_cases c6 : x6_2 < 8
     ·rw [if_pos c6] at H
      have c6b0 := decide_eq_true c6
      clear c6
      obtain ⟨c7, H⟩ := iN_ H
      have LMc7 := Aside0.mk c7
      clear c7
      obtain ⟨y264, hy264⟩ : ∃ y_ : List Int, y_ = (x3_2 ++ [(Int.tmod x5_2 256) % 256]) := ⟨_, rfl⟩
      first | replace H := yb_ hy264 H | rw [← hy264] at H
      have Ny264 := Aside0.mk hy264
      clear hy264
      have H' := Aside0.mk H
      clear H
      go_wp2_with (first | ((with_reducible refine gate_builtin (b := .append) (xs := #[.tmp 22, .tmp 26]) rfl ?_); at_builtin; refine Kd.R_append (Kd.int .u8) (w0 := w) w.heap.size rfl (.tmp 22) (.tmp 26) 62 5 (.int .u8 0) 1 rfl Tryd.underlying62 info5 rfl (by decide) (by omega) u3 x3_2 ((Int.tmod x5_2 256) % 256) [.int .u8 ((Int.tmod x5_2 256) % 256)] (fun _ => True) (fun _ => False) rfl rfl ?aP (fun _ hk => hk.elim) ?aF ?aO ?aB ?aS ?aL ?_; (case aP => exact rfl); (case aB => exact (hB_)); (case aF => exact (fun _ _ => trivial)); (case aO => exact (rR_ HO_3.out)); (case aS => exact (below_size (hB_))); (case aL => have := LMc7.out; omega); intro v265 w8 ho hb hg hat; rw [← Ny264.out] at ho; have n_ := b_ (hb) <| c_ (ho); clear HO_3 HB; obtain ⟨HB, HO266⟩ := n_; clear ho hb hg hat))
      go_roundg k2
      case measure => have := HK1.out; have := HK2.out; omega
      case rel => exact ⟨(y264), (IntKind.u64.wrap (Int.tdiv x5_2 256)), (wrap64 (x6_2 + 1)), f0_, f0_, H', ⟨by have := HK1.out; have := HK2.out; omega⟩, ⟨rR_ HO266.out⟩, ⟨hB_⟩⟩
     rw [if_neg c6] at H
     have c6b0 := decide_eq_false c6
     clear c6
     have H' := Aside0.mk H
     clear H
     go_wp2
     go_roundg k2
     case measure => have := HK1.out; have := HK2.out; omega
     case rel => exact ⟨(x3_2), (wrap64 (x4_1 + 1)), f0_, H', ⟨by have := HK1.out; have := HK2.out; omega⟩, ⟨rR_ HO_3.out⟩, ⟨hB_⟩⟩

-- GIVEN: function 69 (spec_l07Absorb)

/-! ### spec_Permute: function 70 -/
def spec_Permute.f (k : Nat) (a0 : ByteArray) : Option (ByteArray) := if (a0.size : Int) = 200 then ((spec_l07Lanes.f k a0).bind fun t269 => ((spec_l07Permute.f k t269).bind fun t272 => ((spec_l07Bytes.f k t272).bind fun t275 => (some t275)))) else (some a0)
theorem spec_Permute.mono : ∀ a0 k, LeO (spec_Permute.f k a0) (spec_Permute.f (k + 1) a0) := by
 intro a0 k
 unfold spec_Permute.f
 exact o3_ spec_l07Bytes.mono spec_l07Lanes.mono spec_l07Permute.mono
theorem spec_Permute.calls (k : Nat) (a0 : ByteArray) (r : ByteArray) (w : World) (h : spec_Permute.f k a0 = some r) :
  Calls Tryd.prog 70 #[.string a0] w fun e w' => e = .returned (.string r) ∧ Below w.heap.size w w' := by
 have HB := Aside0.mk (Below.refl w.heap.size w)
 delta spec_Permute.f at h
 have H := h
 clear h
 by_cases c2 : (a0.size : Int) = 200
 ·rw [if_pos c2] at H
  have c2b0 : ((a0.size : Int) == 200) = true := beq_iff_eq.mpr c2
  have c2b1 : ((a0.size : Int) != 200) = false := bne_eq_false_iff_eq.mpr c2
  clear c2
  obtain ⟨t269, A3, H⟩ := bN_ H
  obtain ⟨t272, A4, H⟩ := bN_ H
  obtain ⟨t275, A5, H⟩ := bN_ H
  obtain rfl := Option.some.inj H
  go_enter Tryd.func70, Tryd.ntmps70
  go_wp2_with (first | ((with_reducible refine gate_callee (f := 76) rfl ?_); refine goesL_ (some 8) rfl rfl Tryd.func76 (by kernel_rfl) rfl #[.string a0] rfl aM_ ?_; (with_reducible refine (spec_l07Lanes.calls k a0 t269 _ A3.out).mono ?_); rintro e w6 ⟨v270, rfl, ho0, hb⟩; refine ⟨_, rfl, ?_⟩; have n_ := b_ (Kd.R_lower ho0 (below_size (hB_))) <| c_ (below_step (hB_) hb); clear HB; obtain ⟨HO271, HB⟩ := n_; obtain ⟨Ao7, co7, eo7⟩ := Kd.R_slice HO271.out; subst eo7) | ((with_reducible refine gate_callee (f := 77) rfl ?_); refine goesL_ (some 9) rfl rfl Tryd.func77 (by kernel_rfl) rfl #[.slice Ao7 t269.length co7] rfl aM_ ?_; (with_reducible refine (spec_l07Permute.calls k (fun k_ => some k_ = (.slice Ao7 t269.length co7 : Value).ownBlock) _ _ t269 t272 _ ?side1 A4.out).mono ?_); (case side1 => exact Kd.R_V (Kd.R_tight rfl (HO271.out))); rintro e w8 ⟨v273, rfl, ho0, hb⟩; refine ⟨_, rfl, ?_⟩; have n_ := b_ (Kd.R_below (rR_ HO271.out) hb) <| b_ (Kd.V_lower (Kd.V_mono (ok' := fun k_ => True) ho0 (fun k_ hk_ => trivial)) (below_size (hB_))) <| c_ (below_step (hB_) hb); clear HO271 HB; obtain ⟨HO271, HO274, HB⟩ := n_; obtain ⟨Ao9, co9, eo9⟩ := Kd.V_slice HO274.out; subst eo9) | ((with_reducible refine gate_callee (f := 78) rfl ?_); refine goesL_ (some 10) rfl rfl Tryd.func78 (by kernel_rfl) rfl #[.slice Ao9 t272.length co9] rfl aM_ ?_; (with_reducible refine (spec_l07Bytes.calls k _ _ t272 t275 _ ?side1 ?side2 A5.out).mono ?_); (case side1 => exact cR_ (Kd.V_reads' HO274.out).2.2); (case side2 => exact (Kd.V_reads' HO274.out).2.1); rintro e w10 ⟨rfl, hb⟩; refine ⟨_, rfl, ?_⟩; have n_ := b_ (Kd.R_below (rR_ HO271.out) hb) <| b_ (Kd.V_below (rV_ HO274.out) hb) <| c_ (below_step (hB_) hb); clear HO271 HO274 HB; obtain ⟨HO271, HO274, HB⟩ := n_; (try clear hb)))
  go_ret
  exact ⟨f1_, hB_⟩
 rw [if_neg c2] at H
 have c2b0 : ((a0.size : Int) == 200) = false := beq_eq_false_iff_ne.mpr c2
 have c2b1 : ((a0.size : Int) != 200) = true := bne_iff_ne.mpr c2
 obtain rfl := Option.some.inj H
 go_enter Tryd.func70, Tryd.ntmps70
 go_wp2
 go_ret
 exact ⟨f1_, hB_⟩

-- GIVEN: function 51 (spec_StreamTake)

/-! ### spec_PolyOk: function 25 -/
def spec_PolyOk.l0 : Nat → List Int → Int → Option (Bool)
 | 0, _, _ => none
 | k + 1, x0, x3 => if x3 < (x0.length : Int) then (if 0 ≤ x3 then ((spec_l01In.f (rd x0 x3) 0 3328).bind fun t310 => (if t310 = true then (spec_PolyOk.l0 k x0 (wrap64 (x3 + 1))) else (some false))) else (none)) else (some true)
def spec_PolyOk.f (k : Nat) (l0 : List Int) : Option (Bool) := if (l0.length : Int) = 256 then (spec_PolyOk.l0 k l0 0) else (some false)
theorem spec_PolyOk.mono_l : ∀ k, (∀ y0 y1, LeO (spec_PolyOk.l0 k y0 y1) (spec_PolyOk.l0 (k + 1) y0 y1))
 | 0 => fun _ _ r h => by simp [spec_PolyOk.l0] at h
 | k + 1 => by
  have ih0 := spec_PolyOk.mono_l k
  intros; unfold spec_PolyOk.l0; exact o1_ ih0
theorem spec_PolyOk.mono : ∀ a0 k, LeO (spec_PolyOk.f k a0) (spec_PolyOk.f (k + 1) a0) := by
 intro a0 k
 have ih0 := spec_PolyOk.mono_l k
 unfold spec_PolyOk.f
 exact o1_ ih0
theorem spec_PolyOk.calls (k : Nat) (A0 : Option Addr) (c0 : Nat) (l0 : List Int) (r : Bool) (w : World) (hr0 : Kd.C (Kd.int .i64) w A0 l0.length l0) (hc0 : l0.length ≤ c0) (h : spec_PolyOk.f k l0 = some r) :
  Calls Tryd.prog 25 #[.slice A0 l0.length c0] w fun e w' => e = .returned (.bool r) ∧ Drawn0 w w' := by
 have HR0 := Aside0.mk hr0
 have HC0 := Aside0.mk hc0
 clear hr0 hc0
 delta spec_PolyOk.f at h
 have H := h
 clear h
 by_cases c2 : (l0.length : Int) = 256
 rotate_left
 ·rw [if_neg c2] at H
  have c2b0 : ((l0.length : Int) == 256) = false := beq_eq_false_iff_ne.mpr c2
  have c2b1 : ((l0.length : Int) != 256) = true := bne_iff_ne.mpr c2
  obtain rfl := Option.some.inj H
  go_enter Tryd.func25, Tryd.ntmps25
  go_wp2
  go_ret
  exact ⟨f0_, d0_⟩
 rw [if_pos c2] at H
 have c2b0 : ((l0.length : Int) == 256) = true := beq_iff_eq.mpr c2
 have c2b1 : ((l0.length : Int) != 256) = false := bne_eq_false_iff_eq.mpr c2
 clear c2
 have H' := Aside0.mk H
 clear H
 go_enter Tryd.func25, Tryd.ntmps25
 go_wp2
 go_loopg [3] k (fun kq v3 w' => ∃ (x3_1 : Int), v3 = .int .i64 x3_1 ∧ Aside0 (spec_PolyOk.l0 kq l0 x3_1 = some r) ∧ Aside0 (kq ≤ k) ∧ Drawn0 w w')
 case atStart => exact ⟨(0), f0_, H', ⟨Nat.le_refl _⟩, d0_⟩
 case round =>
  clear H'
  obtain ⟨x3_1, rfl, HA, HK1, ⟨m1, rfl⟩⟩ := hrel
  cases gk with
  | zero => exact absurd HA.out (by simp [spec_PolyOk.l0])
  | succ k1 =>
   have H := HA.out
   clear HA
   simp only [spec_PolyOk.l0] at H
   by_cases c3 : x3_1 < (l0.length : Int)
   rotate_left
   ·rw [if_neg c3] at H
    have c3b0 := decide_eq_false c3
    clear c3
    obtain rfl := Option.some.inj H
    go_wp2
    go_ret
    exact ⟨f0_, d0_⟩
   rw [if_pos c3] at H
   have c3b0 := decide_eq_true c3
   clear c3
   obtain ⟨c4b0, H⟩ := iD_ H
   obtain ⟨t310, A5, H⟩ := bN_ H
   by_cases c6 : t310 = true
   ·subst c6
    replace H := iT_ H
    have H' := Aside0.mk H
    clear H
    have p309 : 0 ≤ (x3_1 : Int) := oD_
    have q309 : x3_1 < (l0.length : Int) := oD_
    obtain ⟨ad309, e309, hx309_0⟩ := Kd.at_int HR0.out x3_1 p309 q309
    cases e309
    replace p309 := eq_true p309
    replace q309 := eq_true q309
    go_wp2_with (first | ((with_reducible refine gate_callee (f := 52) rfl ?_); refine goesL_ (some 17) rfl rfl Tryd.func52 (by kernel_rfl) rfl #[.int .i64 (rd l0 x3_1), .int .i64 0, .int .i64 3328] rfl aM_ ?_; (with_reducible refine (spec_l01In.calls (rd l0 x3_1) 0 3328 true _ A5.out).mono ?_); rintro e w' ⟨rfl, ⟨nd, rfl⟩⟩; refine ⟨_, rfl, ?_⟩))
    go_roundg k1
    case measure => have := HK1.out; omega
    case rel => exact ⟨(wrap64 (x3_1 + 1)), f0_, H', ⟨by have := HK1.out; omega⟩, d0_⟩
   ·replace c6 := Bool.eq_false_iff.mpr c6
    subst c6
    replace H := iF_ H
    obtain rfl := Option.some.inj H
    have p309 : 0 ≤ (x3_1 : Int) := oD_
    have q309 : x3_1 < (l0.length : Int) := oD_
    obtain ⟨ad309, e309, hx309_0⟩ := Kd.at_int HR0.out x3_1 p309 q309
    cases e309
    replace p309 := eq_true p309
    replace q309 := eq_true q309
    go_wp2_with (first | ((with_reducible refine gate_callee (f := 52) rfl ?_); refine goesL_ (some 17) rfl rfl Tryd.func52 (by kernel_rfl) rfl #[.int .i64 (rd l0 x3_1), .int .i64 0, .int .i64 3328] rfl aM_ ?_; (with_reducible refine (spec_l01In.calls (rd l0 x3_1) 0 3328 false _ A5.out).mono ?_); rintro e w' ⟨rfl, ⟨nd, rfl⟩⟩; refine ⟨_, rfl, ?_⟩))
    go_ret
    exact ⟨f0_, d0_⟩

/-! ### spec_PowQ: function 26 -/
mutual
def spec_PowQ.j0 : Nat → Int → Int → Option (Int)
 | 0, _, _ => none
 | k + 1, x0, x1 => spec_PowQ.l0 k x0 x1 1
def spec_PowQ.l0 : Nat → Int → Int → Int → Option (Int)
 | 0, _, _, _ => none
 | k + 1, x0, x1, x5 => if x1 > 0 then (if (Int.tmod x1 2) = 1 then (spec_PowQ.l0 k (Int.tmod (wrap64 (x0 * x0)) 3329) (wrap64 (Int.tdiv x1 2)) (Int.tmod (wrap64 (x5 * x0)) 3329)) else (spec_PowQ.l0 k (Int.tmod (wrap64 (x0 * x0)) 3329) (wrap64 (Int.tdiv x1 2)) x5)) else (some x5)
end
def spec_PowQ.f (k : Nat) (a0 : Int) (a1 : Int) : Option (Int) := (spec_l01In.f a1 0 1000000000).bind fun t311 => (if t311 = true then (if (Int.tmod a0 3329) < 0 then (spec_PowQ.j0 k (wrap64 ((Int.tmod a0 3329) + 3329)) a1) else (spec_PowQ.j0 k (Int.tmod a0 3329) a1)) else (some 0))
theorem spec_PowQ.mono_l : ∀ k, (∀ y0 y1, LeO (spec_PowQ.j0 k y0 y1) (spec_PowQ.j0 (k + 1) y0 y1)) ∧ (∀ y0 y1 y2, LeO (spec_PowQ.l0 k y0 y1 y2) (spec_PowQ.l0 (k + 1) y0 y1 y2))
 | 0 => ⟨fun _ _ r h => by simp [spec_PowQ.j0] at h, fun _ _ _ r h => by simp [spec_PowQ.l0] at h⟩
 | k + 1 => by
  obtain ⟨ih0, ih1⟩ := spec_PowQ.mono_l k
  refine ⟨?_, ?_⟩ <;> (intros; (first | unfold spec_PowQ.j0 | unfold spec_PowQ.l0); exact o2_ ih0 ih1)
theorem spec_PowQ.mono : ∀ a0 a1 k, LeO (spec_PowQ.f k a0 a1) (spec_PowQ.f (k + 1) a0 a1) := by
 intro a0 a1 k
 obtain ⟨ih0, ih1⟩ := spec_PowQ.mono_l k
 unfold spec_PowQ.f
 exact o2_ ih0 ih1
theorem spec_PowQ.calls (k : Nat) (a0 : Int) (a1 : Int) (r : Int) (w : World) (h : spec_PowQ.f k a0 a1 = some r) :
  Calls Tryd.prog 26 #[.int .i64 a0, .int .i64 a1] w fun e w' => e = .returned (.int .i64 r) ∧ Drawn0 w w' := by
 delta spec_PowQ.f at h
 have H := h
 clear h
 obtain ⟨t311, A3, H⟩ := bN_ H
 by_cases c4 : t311 = true
 ·subst c4
  replace H := iT_ H
  have HC5 := Aside0.mk H
  clear H
  go_enter Tryd.func26, Tryd.ntmps26
  go_upto_if 12 with (first | ((with_reducible refine gate_callee (f := 52) rfl ?_); refine goesL_ (some 7) rfl rfl Tryd.func52 (by kernel_rfl) rfl #[.int .i64 a1, .int .i64 0, .int .i64 1000000000] rfl aM_ ?_; (with_reducible refine (spec_l01In.calls a1 0 1000000000 true _ A3.out).mono ?_); rintro e w' ⟨rfl, ⟨nd, rfl⟩⟩; refine ⟨_, rfl, ?_⟩))
  (try simp only [Act.put, List.setIfInBounds_toArray, List.set_cons_zero, List.set_cons_succ])
  go_cut [0] (fun v0 wc => ∃ (kq : Nat) (x0_4 : Int), v0 = .int .i64 x0_4 ∧ Aside0 (spec_PowQ.j0 kq x0_4 a1 = some r) ∧ Aside0 (kq ≤ k) ∧ Drawn0 w wc)
  case first =>
   have H := HC5.out
   clear HC5
   by_cases c6 : (Int.tmod a0 3329) < 0
   ·rw [if_pos c6] at H
    have c6b0 := decide_eq_true c6
    clear c6
    (first | rw [c6b0] | (simp only [i64_w, i32_w]; rw [c6b0]) | skip)
    have H' := Aside0.mk H
    clear H
    go_wp2
    go_meet
    case rel => exact ⟨_, (wrap64 ((Int.tmod a0 3329) + 3329)), f0_, H', ⟨by first | omega | exact Nat.le_refl _⟩, d0_⟩
   rw [if_neg c6] at H
   have c6b0 := decide_eq_false c6
   clear c6
   (first | rw [c6b0] | (simp only [i64_w, i32_w]; rw [c6b0]) | skip)
   have H' := Aside0.mk H
   clear H
   go_wp2
   go_meet
   case rel => exact ⟨_, (Int.tmod a0 3329), f0_, H', ⟨by first | omega | exact Nat.le_refl _⟩, d0_⟩
  case rest =>
   clear HC5
   obtain ⟨kq, x0_4, rfl, HA, HJ4, ⟨mc4, rfl⟩⟩ := hcut
   cases kq with
   | zero => exact absurd HA.out (by simp [spec_PowQ.j0])
   | succ kj4 =>
    have H := HA.out
    clear HA
    simp only [spec_PowQ.j0] at H
    have H' := Aside0.mk H
    clear H
    go_wp2
    go_loopg [0, 1, 5] kj4 (fun kq v0 v1 v5 w' => ∃ (x0_2 : Int) (x1_2 : Int) (x5_2 : Int), v0 = .int .i64 x0_2 ∧ v1 = .int .i64 x1_2 ∧ v5 = .int .i64 x5_2 ∧ Aside0 (spec_PowQ.l0 kq x0_2 x1_2 x5_2 = some r) ∧ Aside0 (kq ≤ kj4) ∧ Drawn0 w w')
    case atStart => exact ⟨(x0_4), (a1), (1), f0_, f0_, f0_, H', ⟨Nat.le_refl _⟩, d0_⟩
    case round =>
     clear H'
     obtain ⟨x0_2, x1_2, x5_2, rfl, rfl, rfl, HA, HK2, ⟨m2, rfl⟩⟩ := hrel
     cases gk with
     | zero => exact absurd HA.out (by simp [spec_PowQ.l0])
     | succ k2 =>
      have H := HA.out
      clear HA
      simp only [spec_PowQ.l0] at H
      by_cases c7 : x1_2 > 0
      ·rw [if_pos c7] at H
       have c7b0 := decide_eq_true c7
       clear c7
       by_cases c8 : (Int.tmod x1_2 2) = 1
       ·rw [if_pos c8] at H
        have c8b0 : ((Int.tmod x1_2 2) == 1) = true := beq_iff_eq.mpr c8
        have c8b1 : ((Int.tmod x1_2 2) != 1) = false := bne_eq_false_iff_eq.mpr c8
        clear c8
        have H' := Aside0.mk H
        clear H
        go_wp2
        go_roundg k2
        case measure => have := HJ4.out; have := HK2.out; omega
        case rel => exact ⟨(Int.tmod (wrap64 (x0_2 * x0_2)) 3329), (wrap64 (Int.tdiv x1_2 2)), (Int.tmod (wrap64 (x5_2 * x0_2)) 3329), f0_, f0_, f0_, H', ⟨by have := HJ4.out; have := HK2.out; omega⟩, d0_⟩
       rw [if_neg c8] at H
       have c8b0 : ((Int.tmod x1_2 2) == 1) = false := beq_eq_false_iff_ne.mpr c8
       have c8b1 : ((Int.tmod x1_2 2) != 1) = true := bne_iff_ne.mpr c8
       have H' := Aside0.mk H
       clear H
       go_wp2
       go_roundg k2
       case measure => have := HJ4.out; have := HK2.out; omega
       case rel => exact ⟨(Int.tmod (wrap64 (x0_2 * x0_2)) 3329), (wrap64 (Int.tdiv x1_2 2)), (x5_2), f0_, f0_, f0_, H', ⟨by have := HJ4.out; have := HK2.out; omega⟩, d0_⟩
      rw [if_neg c7] at H
      have c7b0 := decide_eq_false c7
      clear c7
      obtain rfl := Option.some.inj H
      go_wp2
      go_ret
      exact ⟨f0_, d0_⟩
 ·replace c4 := Bool.eq_false_iff.mpr c4
  subst c4
  replace H := iF_ H
  obtain rfl := Option.some.inj H
  go_enter Tryd.func26, Tryd.ntmps26
  go_wp2_with (first | ((with_reducible refine gate_callee (f := 52) rfl ?_); refine goesL_ (some 7) rfl rfl Tryd.func52 (by kernel_rfl) rfl #[.int .i64 a1, .int .i64 0, .int .i64 1000000000] rfl aM_ ?_; (with_reducible refine (spec_l01In.calls a1 0 1000000000 false _ A3.out).mono ?_); rintro e w' ⟨rfl, ⟨nd, rfl⟩⟩; refine ⟨_, rfl, ?_⟩))
  go_ret
  exact ⟨f0_, d0_⟩

end Go.Proofs.YthdjmbbkenbeiaaDoor.P
