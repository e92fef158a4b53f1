-- printed texts of this session, regrouped
import Derived.Test.YtnckhligcdieaaaMWA
import Derived.Test.YtnckhligcdieaaaMW7
import Derived.Test.YtnckhligcdieaaaMW8
import Derived.Test.YtnckhligcdieaaaMW9
import Derived.Test.YtnckhligcdieaaaMW6
import Derived.Test.YtnckhligcdieaaaPx0
import Derived.Test.YtnckhligcdieaaaPx1
import Derived.Test.YtnckhligcdieaaaPx10
namespace Go.Proofs.Ytnckhligcdieaaa.P
open Go.RowKit Go.Proofs.YtnckhligcdieaaaW.PrintWords Go.Proofs.YtnckhligcdieaaaW.PrintLast Go.Proofs.YtnckhligcdieaaaW.PrintMore
attribute [local go_sem] max2_int min2_int max_two min_two max_three min_three max_four min_four   -- for this text's walks alone
set_option linter.unusedVariables false
set_option linter.unusedSimpArgs false

/-! ### spec_l16Sig: function 82 -/
def spec_l16Sig.f (k : Nat) (s0_0 : List Int) (s0_1 : Int) (s0_2 : Int) : Option (ByteArray × ByteArray × Int × List ByteArray × List ByteArray × Int × Int) := (spec_l16Seed.f s0_0 s0_1 s0_2).bind fun bt378 => ((spec_l01Below.f s0_0 bt378.2.1 bt378.2.2 4).bind fun bt381 => ((spec_l01Text.f k s0_0 bt381.2.1 bt381.2.2 bt381.1).bind fun bt384 => ((spec_l01Below.f s0_0 bt384.2.1 bt384.2.2 4).bind fun bt387 => ((spec_SignAt.f k bt378.1 bt387.1 bt384.1).bind fun bt390 => ((spec_l01Below.f s0_0 bt387.2.1 bt387.2.2 12).bind fun bt399 => (if bt399.1 = 0 then ((spec_l01PickInt.f s0_0 bt399.2.1 bt399.2.2 (([(-1), 0, 4] : List Int))).bind fun bt405 => (some (bt378.1, bt384.1, bt405.1, bt390.2.1, bt390.2.2.1, bt405.2.1, bt405.2.2))) else (if bt399.1 = 1 then ((spec_l01Below.f s0_0 bt399.2.1 bt399.2.2 10).bind fun bt408 => ((spec_l01PickInt.f s0_0 bt408.2.1 bt408.2.2 (([3, 4, 4] : List Int))).bind fun bt414 => ((spec_l01Text.f k s0_0 bt414.2.1 bt414.2.2 bt414.1).bind fun bt417 => (if 0 ≤ bt408.1 then (if bt408.1 < (bt390.2.1.length : Int) then (some (bt378.1, bt384.1, bt390.1, (bt390.2.1.set (bt408.1 : Int).toNat bt417.1), bt390.2.2.1, bt417.2.1, bt417.2.2)) else (none)) else (none))))) else (if bt399.1 = 2 then ((spec_l01PickInt.f s0_0 bt399.2.1 bt399.2.2 (([4, 4, 5] : List Int))).bind fun bt424 => ((spec_l01Text.f k s0_0 bt424.2.1 bt424.2.2 bt424.1).bind fun bt427 => (if 0 < (bt390.2.2.1.length : Int) then (some (bt378.1, bt384.1, bt390.1, bt390.2.1, (bt390.2.2.1.set (0 : Int).toNat bt427.1), bt427.2.1, bt427.2.2)) else (none)))) else (if bt399.1 = 3 then (if 1 ≤ (bt390.2.2.1.length : Int) then (some (bt378.1, bt384.1, bt390.1, bt390.2.1, (bt390.2.2.1.drop (1 : Int).toNat), bt399.2.1, bt399.2.2)) else (none)) else (some (bt378.1, bt384.1, bt390.1, bt390.2.1, bt390.2.2.1, bt399.2.1, bt399.2.2)))))))))))
theorem spec_l16Sig.mono : ∀ a0 a1 a2 k, LeO (spec_l16Sig.f k a0 a1 a2) (spec_l16Sig.f (k + 1) a0 a1 a2) := by
 intro a0 a1 a2 k
 unfold spec_l16Sig.f
 exact o2_ spec_SignAt.mono spec_l01Text.mono
def spec_l16Sig.T8 : Bool × List (List Nat × List Nat) := (true, [([], []), ([0], [0]), ([], []), ([2], [2]), ([], []), ([], []), ([], []), ([5, 6, 3], [5, 6]), ([4, 7, 7], [4, 7]), ([1, 3, 0, 1, 2, 3, 4, 5, 6, 7, 8], [1, 3]), ([9, 8, 8, 0, 1, 2, 3, 4, 5, 6, 7, 8], [8, 9])])
def spec_l16Sig.B8 : List Nat := [0, 1, 0, 4, 0, 0, 0, 108, 252, 511, 1023]
theorem spec_l16Sig.tab8 : rtab .any (opsOf Try.f82 8) = spec_l16Sig.T8 := by kernel_rfl
theorem spec_l16Sig.bits8 : waitsOk spec_l16Sig.T8.2 spec_l16Sig.B8 = true := by kernel_rfl
def spec_l16Sig.T10 : Bool × List (List Nat × List Nat) := (true, [([], []), ([0], [0]), ([], []), ([], []), ([], []), ([3, 4], [3, 4]), ([2, 5, 5], [2, 5]), ([1, 0, 1, 2, 3, 4, 5, 6], [1]), ([7, 6, 6, 0, 1, 2, 3, 4, 5, 6], [6, 7])])
def spec_l16Sig.B10 : List Nat := [0, 1, 0, 0, 0, 24, 60, 127, 255]
theorem spec_l16Sig.tab10 : rtab .any (opsOf Try.f82 10) = spec_l16Sig.T10 := by kernel_rfl
theorem spec_l16Sig.bits10 : waitsOk spec_l16Sig.T10.2 spec_l16Sig.B10 = true := by kernel_rfl
set_option maxHeartbeats 8000000 in
set_option maxRecDepth 100000 in
theorem spec_l16Sig.calls (k : Nat) (g : Nat) (s0_0 : List Int) (s0_1 : Int) (s0_2 : Int) (r1 : ByteArray) (r2 : ByteArray) (r3 : Int) (r4 : List ByteArray) (r5 : List ByteArray) (r6 : Int) (r7 : Int) (w0 w : World) (hI : IsS86 w0 w g s0_0 s0_1 s0_2) (hB : Below w0.heap.size w0 w) (h : spec_l16Sig.f k s0_0 s0_1 s0_2 = some (r1, r2, r3, r4, r5, r6, r7)) :
  Calls Try.prog 82 #[.pointer (some ⟨g, 0, none⟩)] w fun e w' => ∃ v3_ v4_ : Value, e = .returned (.tuple #[.string r1, .string r2, .agg #[.int .i64 r3, v3_, v4_]]) ∧ Kd.R Kd.string 9 w' w.heap.size (fun k_ => some k_ ≠ (v4_ : Value).ownBlock) v3_ r4 ∧ Kd.Q Kd.string 9 w' w.heap.size (fun k_ => some k_ ≠ (v3_ : Value).ownBlock) v4_ r5 ∧ IsS86 w0 w' g s0_0 r6 r7 ∧ Below w0.heap.size w0 w' ∧ KeepBut w w' g none := by
 have hu37 := Try.underlying37
 have HI0 := Aside0.mk hI
 have HK := Aside0.mk (KeepBut.refl w g none)
 have HL := Aside0.mk hB.size
 clear hI
 have HW0 := Aside0.mk hB.size
 have HB := Aside0.mk hB
 clear hB
 delta spec_l16Sig.f at h
 have H := h
 clear h
 obtain ⟨⟨t378, t379, t380⟩, A2, H⟩ := bN_ H
 try dsimp only at H
 obtain ⟨⟨t381, t382, t383⟩, A3, H⟩ := bN_ H
 try dsimp only at H
 obtain ⟨⟨t384, t385, t386⟩, A4, H⟩ := bN_ H
 try dsimp only at H
 obtain ⟨⟨t387, t388, t389⟩, A5, H⟩ := bN_ H
 try dsimp only at H
 obtain ⟨⟨t390, t391, t394, t397⟩, A6, H⟩ := bN_ H
 try dsimp only at H
 obtain ⟨⟨t399, t400, t401⟩, A7, H⟩ := bN_ H
 try dsimp only at H
 by_cases c8 : t399 = 0
 ·rw [if_pos c8] at H
  have c8b0 : (t399 == 0) = true := beq_iff_eq.mpr c8
  have c8b1 : (t399 != 0) = false := bne_eq_false_iff_eq.mpr c8
  clear c8
  obtain ⟨y402, hy402⟩ : ∃ y_ : List Int, y_ = (([(-1), 0, 4] : List Int)) := ⟨_, rfl⟩
  first | replace H := yb_ hy402 H | rw [← hy402] at H
  have Ny402 := Aside0.mk hy402
  clear hy402
  obtain ⟨⟨t405, t406, t407⟩, A9, H⟩ := bN_ H
  try dsimp only at H
  simp only [Option.some.injEq, Prod.mk.injEq] at H
  obtain ⟨rfl, rfl, rfl, rfl, rfl, rfl, rfl⟩ := H
  go_enter Try.func82, Try.ntmps82
  try go_wp2_with (first | ((with_reducible refine gate_dst (N := 4) rfl ?_); refine box_event ?hg (N := 4) ?hd (cs := #[.int .i64 0, .slice none 0 0, .slice none 0 0]) (t := 37) ?hr ?_; (case hd => rfl); (case hg => rfl); (case hr => first | (go_simp; done) | (go_simp; rfl)); intro gb377 hg w10 hbox hb; have n_ := b_ (IsS86.below ((u5_)) hb) <| b_ (KeepBut.trans ((u3_)) (KeepBut.of_below hb g none) (.inl rfl)) <| b_ (below_step ((u2_ (IsS86.ge HI0.out))) hb) <| b_ (hbox) <| b_ (by rw [hg]; exact (keep_size (w := w) (g := g) (row := none) ((u3_))) : w.heap.size ≤ gb377) <| b_ (Nat.le_trans HW0.out (by rw [hg]; exact (keep_size (w := w) (g := g) (row := none) ((u3_))) : w.heap.size ≤ gb377) : w0.heap.size ≤ gb377) <| b_ (by rw [hg]; exact Nat.ne_of_lt (IsS86.lt (show IsS86 w0 _ g s0_0 s0_1 s0_2 from (u5_))) : g ≠ gb377) <| c_ (by rw [hg]; exact Nat.ne_of_gt (IsS86.lt (show IsS86 w0 _ g s0_0 s0_1 s0_2 from (u5_))) : gb377 ≠ g); clear HI0 HK HB; obtain ⟨HI0, HK, HB, BK377, GW377, GE377, NB0_377, NB377_0⟩ := n_; clear hb hbox hg) | ((with_reducible refine gate_callee (f := 80) rfl ?_); refine goesL_ (some 10) rfl rfl Try.func80 (by kernel_rfl) rfl #[.pointer (some ⟨g, 0, none⟩)] rfl aM_ ?_; (with_reducible refine (spec_l16Seed.calls g s0_0 s0_1 s0_2 t378 t379 t380 w0 _ ?side1 ?side2 A2.out).mono ?_); (case side1 => exact u6_ NB0_377.out); (case side2 => exact u4_ (IsS86.ge HI0.out) GE377.out); rintro e w11 ⟨rfl, hi, hb, hk⟩; refine ⟨_, rfl, ?_⟩; have n_ := b_ (KeepBut.blk hk (g' := gb377) (o := .cells #[.int .i64 0, .slice none 0 0, .slice none 0 0] 37 (0, 0)) (rK_ BK377.out) NB377_0.out (by simp)) <| b_ (KeepBut.trans ((u7_ GW377.out)) hk (.inl rfl)) <| b_ (hb) <| c_ (hi); clear BK377 HK HB HI0; obtain ⟨BK377, HK, HB, HI0⟩ := n_; (try clear hi)) | ((with_reducible refine gate_callee (f := 77) rfl ?_); refine goesL_ (some 13) rfl rfl Try.func77 (by kernel_rfl) rfl #[.pointer (some ⟨g, 0, none⟩), .int .i64 4] rfl aM_ ?_; (with_reducible refine (spec_l01Below.calls g s0_0 t379 t380 4 t381 t382 t383 w0 _ ?side1 ?side2 A3.out).mono ?_); (case side1 => exact u6_ NB0_377.out); (case side2 => exact u4_ (IsS86.ge HI0.out) GE377.out); rintro e w12 ⟨rfl, hi, hb, hk⟩; refine ⟨_, rfl, ?_⟩; have n_ := b_ (KeepBut.blk hk (g' := gb377) (o := .cells #[.int .i64 0, .slice none 0 0, .slice none 0 0] 37 (0, 0)) (rK_ BK377.out) NB377_0.out (by simp)) <| b_ (KeepBut.trans ((u7_ GW377.out)) hk (.inl rfl)) <| b_ (hb) <| c_ (hi); clear BK377 HK HB HI0; obtain ⟨BK377, HK, HB, HI0⟩ := n_; (try clear hi)) | ((with_reducible refine gate_callee (f := 76) rfl ?_); refine goesL_ (some 14) rfl rfl Try.func76 (by kernel_rfl) rfl #[.pointer (some ⟨g, 0, none⟩), .int .i64 t381] rfl aM_ ?_; (with_reducible refine (spec_l01Text.calls k g s0_0 t382 t383 t381 t384 t385 t386 w0 _ ?side1 ?side2 A4.out).mono ?_); (case side1 => exact u6_ NB0_377.out); (case side2 => exact u4_ (IsS86.ge HI0.out) GE377.out); rintro e w13 ⟨rfl, hi, hb, hk⟩; refine ⟨_, rfl, ?_⟩; have n_ := b_ (KeepBut.blk hk (g' := gb377) (o := .cells #[.int .i64 0, .slice none 0 0, .slice none 0 0] 37 (0, 0)) (rK_ BK377.out) NB377_0.out (by simp)) <| b_ (KeepBut.trans ((u7_ GW377.out)) hk (.inl rfl)) <| b_ (hb) <| c_ (hi); clear BK377 HK HB HI0; obtain ⟨BK377, HK, HB, HI0⟩ := n_; (try clear hi)) | ((with_reducible refine gate_callee (f := 77) rfl ?_); refine goesL_ (some 18) rfl rfl Try.func77 (by kernel_rfl) rfl #[.pointer (some ⟨g, 0, none⟩), .int .i64 4] rfl aM_ ?_; (with_reducible refine (spec_l01Below.calls g s0_0 t385 t386 4 t387 t388 t389 w0 _ ?side1 ?side2 A5.out).mono ?_); (case side1 => exact u6_ NB0_377.out); (case side2 => exact u4_ (IsS86.ge HI0.out) GE377.out); rintro e w14 ⟨rfl, hi, hb, hk⟩; refine ⟨_, rfl, ?_⟩; have n_ := b_ (KeepBut.blk hk (g' := gb377) (o := .cells #[.int .i64 0, .slice none 0 0, .slice none 0 0] 37 (0, 0)) (rK_ BK377.out) NB377_0.out (by simp)) <| b_ (KeepBut.trans ((u7_ GW377.out)) hk (.inl rfl)) <| b_ (hb) <| c_ (hi); clear BK377 HK HB HI0; obtain ⟨BK377, HK, HB, HI0⟩ := n_; (try clear hi)) | ((with_reducible refine gate_callee (f := 113) rfl ?_); refine goesL_ (some 20) rfl rfl Try.func113 (by kernel_rfl) rfl #[.string t378, .int .i64 t387, .string t384] rfl aM_ ?_; (with_reducible refine (spec_SignAt.calls k t378 t387 t384 t390 t391 t394 t397 _ A6.out).mono ?_); rintro e w15 ⟨v392, v395, rfl, ho0, ho1, hb⟩; refine ⟨_, rfl, ?_⟩; have n_ := b_ (Kd.R_lower ho0 (keep_size (w := w) (g := g) (row := none) ((u7_ GW377.out)))) <| b_ (Kd.R_lower ho1 (keep_size (w := w) (g := g) (row := none) ((u7_ GW377.out)))) <| b_ (IsS86.below ((u6_ NB0_377.out)) hb) <| b_ (blk_below (g := gb377) (o := .cells #[.int .i64 0, .slice none 0 0, .slice none 0 0] 37 (0, 0)) (rK_ BK377.out) hb) <| b_ (KeepBut.trans ((u7_ GW377.out)) (KeepBut.of_below hb g none) (.inl rfl)) <| c_ (below_step ((u4_ (IsS86.ge HI0.out) GE377.out)) hb); clear HI0 BK377 HK HB; obtain ⟨HO393, HO396, HI0, BK377, HK, HB⟩ := n_; (try clear ho1)) | ((with_reducible refine gate_dst (N := 7) rfl ?_); refine box_event ?hg (N := 7) ?hd (cs := #[.int .i64 0, .slice none 0 0, .slice none 0 0]) (t := 37) ?hr ?_; (case hd => rfl); (case hg => rfl); (case hr => first | (go_simp; done) | (go_simp; rfl)); intro gb398 hg w16 hbox hb; have n_ := b_ (Kd.R_below (rR_ HO393.out) hb) <| b_ (Kd.R_below (rR_ HO396.out) hb) <| b_ (IsS86.below ((u6_ NB0_377.out)) hb) <| b_ (blk_below (g := gb377) (o := .cells #[.int .i64 0, .slice none 0 0, .slice none 0 0] 37 (0, 0)) (rK_ BK377.out) hb) <| b_ (KeepBut.trans ((u7_ GW377.out)) (KeepBut.of_below hb g none) (.inl rfl)) <| b_ (below_step ((u4_ (IsS86.ge HI0.out) GE377.out)) hb) <| b_ (hbox) <| b_ (by rw [hg]; exact (keep_size (w := w) (g := g) (row := none) ((u7_ GW377.out))) : w.heap.size ≤ gb398) <| b_ (Nat.le_trans HW0.out (by rw [hg]; exact (keep_size (w := w) (g := g) (row := none) ((u7_ GW377.out))) : w.heap.size ≤ gb398) : w0.heap.size ≤ gb398) <| b_ (by rw [hg]; exact Nat.ne_of_lt (blk_lt (g := gb377) (o := .cells #[.int .i64 0, .slice none 0 0, .slice none 0 0] 37 (0, 0)) (rK_ BK377.out)) : gb377 ≠ gb398) <| b_ (by rw [hg]; exact Nat.ne_of_gt (blk_lt (g := gb377) (o := .cells #[.int .i64 0, .slice none 0 0, .slice none 0 0] 37 (0, 0)) (rK_ BK377.out)) : gb398 ≠ gb377) <| b_ (by rw [hg]; exact Nat.ne_of_lt (IsS86.lt (show IsS86 w0 _ g s0_0 t388 t389 from (u6_ NB0_377.out))) : g ≠ gb398) <| c_ (by rw [hg]; exact Nat.ne_of_gt (IsS86.lt (show IsS86 w0 _ g s0_0 t388 t389 from (u6_ NB0_377.out))) : gb398 ≠ g); clear HO393 HO396 HI0 BK377 HK HB; obtain ⟨HO393, HO396, HI0, BK377, HK, HB, BK398, GW398, GE398, NB377_398, NB398_377, NB0_398, NB398_0⟩ := n_; clear hb hbox hg; have hnb17 := NB398_377.out; have hnc17 := NB377_398.out; have hnb18 := NB398_0.out; have hnc18 := NB0_398.out; have hcz19_0 : w16.cell? ⟨gb398, 0, none⟩ = some (.int .i64 0) := (blk_cell BK398.out 0).trans rfl; have hcz19_1 : w16.cell? ⟨gb398, 1, none⟩ = some (.slice none 0 0) := (blk_cell BK398.out 1).trans rfl; have hcz19_2 : w16.cell? ⟨gb398, 2, none⟩ = some (.slice none 0 0) := (blk_cell BK398.out 2).trans rfl; have hfz19_0 := blk_frozen BK398.out 0; have hfz19_1 := blk_frozen BK398.out 1; have hfz19_2 := blk_frozen BK398.out 2; obtain ⟨Ao20, co20, eo20⟩ := Kd.R_slice HO393.out; subst eo20; obtain ⟨Ao21, co21, eo21⟩ := Kd.R_slice HO396.out; subst eo21) | ((with_reducible refine gate_callee (f := 77) rfl ?_); refine goesL_ (some 24) rfl rfl Try.func77 (by kernel_rfl) rfl #[.pointer (some ⟨g, 0, none⟩), .int .i64 12] rfl aM_ ?_; (with_reducible refine (spec_l01Below.calls g s0_0 t388 t389 12 t399 t400 t401 w0 _ ?side1 ?side2 A7.out).mono ?_); (case side1 => exact u8_ NB0_377.out NB0_398.out); (case side2 => exact u9_ (IsS86.ge HI0.out) GE377.out GE398.out); rintro e w22 ⟨rfl, hi, hb, hk⟩; refine ⟨_, rfl, ?_⟩; have n_ := b_ (KeepBut.blk hk (g' := gb377) (o := .cells #[.int .i64 0, .slice none 0 0, .slice none 0 0] 37 (0, 0)) (by refine kK_ ?_; refine blk_far ?_ NB377_398.out _; refine kK_ ?_; refine blk_far ?_ NB377_398.out _; refine kK_ ?_; refine blk_far ?_ NB377_398.out _; exact rK_ BK377.out) NB377_0.out (by simp)) <| b_ (Kd.R_mono (Kd.R_keep (IsS86.apart (show IsS86 w0 _ g s0_0 t388 t389 from (u8_ NB0_377.out NB0_398.out)) (by refine kR_ ?_; exact (Kd.R_mono (Kd.R_far (Kd.R_far (Kd.R_far (Kd.R_types HO393.out BK398.out (by decide)) (fun _ hk => hk.2) _) (fun _ hk => hk.2) _) (fun _ hk => hk.2) _) (fun _ h_ => h_.1))) (by decide)) hk (fun _ h => h.2)) (fun _ h => h.1)) <| b_ (Kd.R_mono (Kd.R_keep (IsS86.apart (show IsS86 w0 _ g s0_0 t388 t389 from (u8_ NB0_377.out NB0_398.out)) (by refine kR_ ?_; exact (Kd.R_mono (Kd.R_far (Kd.R_far (Kd.R_far (Kd.R_types HO396.out BK398.out (by decide)) (fun _ hk => hk.2) _) (fun _ hk => hk.2) _) (fun _ hk => hk.2) _) (fun _ h_ => h_.1))) (by decide)) hk (fun _ h => h.2)) (fun _ h => h.1)) <| b_ (KeepBut.blk hk (g' := gb398) (o := .cells #[.int .i64 t390, .slice Ao20 t391.length co20, .slice Ao21 t394.length co21] 37 (0, 0)) (by refine kK_ ?_; refine blk_put (cs := #[.int .i64 t390, .slice Ao20 t391.length co20, .slice none 0 0]) ?_ 2 _ rfl; refine kK_ ?_; refine blk_put (cs := #[.int .i64 t390, .slice none 0 0, .slice none 0 0]) ?_ 1 _ rfl; refine kK_ ?_; refine blk_put (cs := #[.int .i64 0, .slice none 0 0, .slice none 0 0]) ?_ 0 _ rfl; exact rK_ BK398.out) NB398_0.out (by simp)) <| b_ (KeepBut.trans ((u10_ GW377.out GW398.out)) hk (.inl rfl)) <| b_ (hb) <| c_ (hi); clear BK377 HO393 HO396 BK398 HK HB HI0; obtain ⟨BK377, HO393, HO396, BK398, HK, HB, HI0⟩ := n_; (try clear hi)) | ((with_reducible refine gate_dst (N := 28) rfl ?_); refine Kd.R_lit (Kd.int .i64) _ 3 ?hg (N := 28) ?hd (xs := ([(-1), 0, 4] : List Int)) (inner := [.int .i64 (-1), .int .i64 0, .int .i64 4]) (ok := fun _ => True) (okp := fun _ => True) ?hr ?hp (fun _ hk => hk) trivial (Below.refl _ _) (Nat.le_refl _) (by simp) ?_; (case hd => rfl); (case hg => rfl); (case hr => first | (go_simp; done) | (go_simp; rfl)); (case hp => exact (Reps.one (show Kd.M (Kd.int .i64) _ _ _ (-1) [.int .i64 (-1)] from rfl) (Reps.one (show Kd.M (Kd.int .i64) _ _ _ 0 [.int .i64 0] from rfl) (Reps.one (show Kd.M (Kd.int .i64) _ _ _ 4 [.int .i64 4] from rfl) (Reps.none _ _))))); intro v403 w23 ho24 hb hg_ hnew_; clear hg_ hnew_; (first | rw [← Ny402.out] at ho24 | (simp only [Int.reduceToNat] at ho24; rw [← Ny402.out] at ho24)); have n_ := b_ (Kd.R_below (rR_ HO393.out) hb) <| b_ (Kd.R_below (rR_ HO396.out) hb) <| b_ (Kd.R_lower ho24 (keep_size (w := w) (g := g) (row := none) ((u10_ GW377.out GW398.out)))) <| b_ (IsS86.below ((u8_ NB0_377.out NB0_398.out)) hb) <| b_ (blk_below (g := gb377) (o := .cells #[.int .i64 0, .slice none 0 0, .slice none 0 0] 37 (0, 0)) (rK_ BK377.out) hb) <| b_ (blk_below (g := gb398) (o := .cells #[.int .i64 t390, .slice Ao20 t391.length co20, .slice Ao21 t394.length co21] 37 (0, 0)) (rK_ BK398.out) hb) <| b_ (KeepBut.trans ((u10_ GW377.out GW398.out)) (KeepBut.of_below hb g none) (.inl rfl)) <| c_ (below_step ((u9_ (IsS86.ge HI0.out) GE377.out GE398.out)) hb); clear HO393 HO396 HI0 BK377 BK398 HK HB; obtain ⟨HO393, HO396, HO404, HI0, BK377, BK398, HK, HB⟩ := n_; clear hb ho24; obtain ⟨Ao25, co25, eo25⟩ := Kd.R_slice HO404.out; subst eo25) | ((with_reducible refine gate_callee (f := 75) rfl ?_); refine goesL_ (some 29) rfl rfl Try.func75 (by kernel_rfl) rfl #[.pointer (some ⟨g, 0, none⟩), .slice Ao25 y402.length co25] rfl aM_ ?_; (with_reducible refine (spec_l01PickInt.calls g s0_0 t400 t401 _ _ y402 t405 t406 t407 w0 _ ?side1 ?side2 ?side3 ?side4 ?side5 A9.out).mono ?_); (case side1 => exact u8_ NB0_377.out NB0_398.out); (case side2 => exact u9_ (IsS86.ge HI0.out) GE377.out GE398.out); (case side3 => exact cR_ (Kd.R_reads' HO404.out).2.2); (case side4 => exact (Kd.R_reads' HO404.out).2.1); (case side5 => exact far_slice (IsS86.own_ne HI0.out HO404.out (by decide))); rintro e w26 ⟨rfl, hi, hb, hk⟩; refine ⟨_, rfl, ?_⟩; have n_ := b_ (KeepBut.blk hk (g' := gb377) (o := .cells #[.int .i64 0, .slice none 0 0, .slice none 0 0] 37 (0, 0)) (rK_ BK377.out) NB377_0.out (by simp)) <| b_ (Kd.R_mono (Kd.R_keep (IsS86.apart (show IsS86 w0 _ g s0_0 t400 t401 from (u8_ NB0_377.out NB0_398.out)) (rR_ HO393.out) (by decide)) hk (fun _ h => h.2)) (fun _ h => h.1)) <| b_ (Kd.R_mono (Kd.R_keep (IsS86.apart (show IsS86 w0 _ g s0_0 t400 t401 from (u8_ NB0_377.out NB0_398.out)) (rR_ HO396.out) (by decide)) hk (fun _ h => h.2)) (fun _ h => h.1)) <| b_ (KeepBut.blk hk (g' := gb398) (o := .cells #[.int .i64 t390, .slice Ao20 t391.length co20, .slice Ao21 t394.length co21] 37 (0, 0)) (rK_ BK398.out) NB398_0.out (by simp)) <| b_ (Kd.R_mono (Kd.R_keep (IsS86.apart (show IsS86 w0 _ g s0_0 t400 t401 from (u8_ NB0_377.out NB0_398.out)) (rR_ HO404.out) (by decide)) hk (fun _ h => h.2)) (fun _ h => h.1)) <| b_ (KeepBut.trans ((u10_ GW377.out GW398.out)) hk (.inl rfl)) <| b_ (hb) <| c_ (hi); clear BK377 HO393 HO396 BK398 HO404 HK HB HI0; obtain ⟨BK377, HO393, HO396, BK398, HO404, HK, HB, HI0⟩ := n_; have hcz27_0 : w26.cell? ⟨gb398, 0, none⟩ = some (.int .i64 t390) := (blk_cell BK398.out 0).trans rfl; have hcz27_1 : w26.cell? ⟨gb398, 1, none⟩ = some (.slice Ao20 t391.length co20) := (blk_cell BK398.out 1).trans rfl; have hcz27_2 : w26.cell? ⟨gb398, 2, none⟩ = some (.slice Ao21 t394.length co21) := (blk_cell BK398.out 2).trans rfl; have hfz27_0 := blk_frozen BK398.out 0; have hfz27_1 := blk_frozen BK398.out 1; have hfz27_2 := blk_frozen BK398.out 2))
  have n_ := b_ (show Kd.R Kd.string 9 (w26.setCell ⟨gb398, 0, none⟩ (.int .i64 t405)) w.heap.size (fun k_ => some k_ ≠ (.slice Ao21 t394.length co21 : Value).ownBlock) (.slice Ao20 t391.length co20) t391 from by refine kR_ ?_; exact Kd.R_mono (Kd.R_far (Kd.R_types HO393.out BK398.out (by decide)) (fun _ hk => hk.2) _) (fun _ hk => hk.1)) <| b_ (show Kd.R Kd.string 9 (w26.setCell ⟨gb398, 0, none⟩ (.int .i64 t405)) w.heap.size (fun k_ => some k_ ≠ (.slice Ao20 t391.length co20 : Value).ownBlock) (.slice Ao21 t394.length co21) t394 from by refine kR_ ?_; exact Kd.R_mono (Kd.R_far (Kd.R_types HO396.out BK398.out (by decide)) (fun _ hk => hk.2) _) (fun _ hk => hk.1)) <| b_ (show Kd.R (Kd.int .i64) 3 (w26.setCell ⟨gb398, 0, none⟩ (.int .i64 t405)) w.heap.size (fun _ => True) (.slice Ao25 y402.length co25) y402 from by refine kR_ ?_; exact Kd.R_mono (Kd.R_far (Kd.R_types HO404.out BK398.out (by decide)) (fun _ hk => hk.2) _) (fun _ hk => trivial)) <| b_ (show (w26.setCell ⟨gb398, 0, none⟩ (.int .i64 t405)).heap[gb377]? = some (.cells #[.int .i64 0, .slice none 0 0, .slice none 0 0] 37 (0, 0)) from by refine kK_ ?_; refine blk_far ?_ NB377_398.out _; refine kK_ ?_; exact BK377.out) <| b_ (show (w26.setCell ⟨gb398, 0, none⟩ (.int .i64 t405)).heap[gb398]? = some (.cells #[.int .i64 t405, .slice Ao20 t391.length co20, .slice Ao21 t394.length co21] 37 (0, 0)) from by refine kK_ ?_; refine blk_put (cs := #[.int .i64 t390, .slice Ao20 t391.length co20, .slice Ao21 t394.length co21]) ?_ 0 _ rfl; refine kK_ ?_; exact BK398.out) <| b_ (show IsS86 w0 (w26.setCell ⟨gb398, 0, none⟩ (.int .i64 t405)) g s0_0 t406 t407 from (u8_ NB0_377.out NB0_398.out)) <| b_ (show KeepBut w (w26.setCell ⟨gb398, 0, none⟩ (.int .i64 t405)) g none from (u10_ GW377.out GW398.out)) <| c_ (show Below w0.heap.size w0 (w26.setCell ⟨gb398, 0, none⟩ (.int .i64 t405)) from (u9_ (IsS86.ge HI0.out) GE377.out GE398.out))
  clear HO393 HO396 HO404 BK377 BK398 HI0 HK HB
  generalize (w26.setCell ⟨gb398, 0, none⟩ (.int .i64 t405)) = w28 at n_ ⊢
  obtain ⟨HO393, HO396, HO404, BK377, BK398, HI0, HK, HB⟩ := n_
  have n_ := b_ (Kd.R_drew HO393.out) <| b_ (Kd.R_drew HO396.out) <| b_ (Kd.R_drew HO404.out) <| b_ (blk_drew BK377.out) <| b_ (blk_drew BK398.out) <| b_ (IsS86.drew HI0.out) <| b_ (keep_drew HK.out) <| c_ (below_drew1 HB.out)
  clear HO393 HO396 HO404 BK377 BK398 HI0 HK HB
  obtain ⟨HO393, HO396, HO404, BK377, BK398, HI0, HK, HB⟩ := n_
  refine start_ (n := 6) (S := fun w' => w'.cell? ⟨gb398, 0, none⟩ = some (.int .i64 t405) ∧ w'.cell? ⟨gb398, 1, none⟩ = some (.slice Ao20 t391.length co20) ∧ w'.cell? ⟨gb398, 2, none⟩ = some (.slice Ao21 t394.length co21)) (ds := []) (bb_ 6 0) (by kernel_rfl) rfl rfl ⟨(blk_cell BK398.out 0).trans rfl, (blk_cell BK398.out 1).trans rfl, (blk_cell BK398.out 2).trans rfl⟩ (fun hHeld => ?_)
  generalize w28.drew = w29 at HO393 HO396 HO404 BK377 BK398 HI0 HK HB hHeld ⊢
  refine pB_ 0 59 (bb_ 6 1) ?_
  refine pB_ 1 60 (bb_ 6 3) ?_
  refine pB_ 3 2 (bb_ 6 11) ?_
  refine pB_ 4 3 (bb_ 6 27) ?_
  refine tS_ 2 61 (bb_ 6 31) (by kernel_rfl) hHeld ?_
  refine one_ (i := 5) (N := none) (bb_ 6 63) rfl rfl (by kernel_rfl) (by decide) (fun K hK => ?_)
  have hs30 : w29.cell? ⟨gb377, 0, none⟩ = some (.int .i64 0) := (blk_cell BK377.out 0).trans rfl
  have hfs30 := blk_frozen BK377.out 0
  have hns30_1 := NB398_377.out
  have hms30_1 := NB377_398.out
  have hs31 : w29.cell? ⟨gb377, 1, none⟩ = some (.slice none 0 0) := (blk_cell BK377.out 1).trans rfl
  have hfs31 := blk_frozen BK377.out 1
  have hns31_1 := NB398_377.out
  have hms31_1 := NB377_398.out
  have hs32 : w29.cell? ⟨gb377, 2, none⟩ = some (.slice none 0 0) := (blk_cell BK377.out 2).trans rfl
  have hfs32 := blk_frozen BK377.out 2
  have hns32_1 := NB398_377.out
  have hms32_1 := NB377_398.out
  refine skip_ (w1 := ?_) (by rfl) rfl ?_ ?_
  rotate_left
  ·go_simp
   rfl
  refine hK.out _ _ ⟨((cell_far (p := ⟨gb377, _, none⟩) NB398_377.out _).trans (((cell_far (p := ⟨gb377, _, none⟩) NB398_377.out _).trans (((cell_far (p := ⟨gb377, _, none⟩) NB398_377.out _).trans (hHeld.1)))))), ((cell_far (p := ⟨gb377, _, none⟩) NB398_377.out _).trans (((cell_far (p := ⟨gb377, _, none⟩) NB398_377.out _).trans (((cell_far (p := ⟨gb377, _, none⟩) NB398_377.out _).trans (hHeld.2.1)))))), ((cell_far (p := ⟨gb377, _, none⟩) NB398_377.out _).trans (((cell_far (p := ⟨gb377, _, none⟩) NB398_377.out _).trans (((cell_far (p := ⟨gb377, _, none⟩) NB398_377.out _).trans (hHeld.2.2))))))⟩ (fun hHeld => ?_)
  clear hK K
  refine done_ (by kernel_rfl) ?_
  try go_wp2
  refine bodyPost_ret (results_list (rs := [.tmp 2, .tmp 3, .cell 4 37]) rfl (by simp) (.tmp (.tmp (.cell gb377 37 #[.int .i64 t405, .slice Ao20 t391.length co20, .slice Ao21 t394.length co21] (0, 0) _ rfl (by refine kK_ ?_; refine blk_put (cs := #[.int .i64 t405, .slice Ao20 t391.length co20, .slice none 0 0]) ?_ 2 _ rfl; refine kK_ ?_; refine blk_put (cs := #[.int .i64 t405, .slice none 0 0, .slice none 0 0]) ?_ 1 _ rfl; refine kK_ ?_; refine blk_put (cs := #[.int .i64 0, .slice none 0 0, .slice none 0 0]) ?_ 0 _ rfl; exact rK_ BK377.out) Try.underlying37 rfl (by kernel_rfl) .nil)))) rfl ?_
  exact ⟨_, _, by first | rfl | (simp [errW_none, errW_some] <;> rfl) | (simp [*, errW_none, errW_some] <;> rfl), by refine kR_ ?_; exact Kd.R_mono (Kd.R_far (Kd.R_far (Kd.R_far (Kd.R_types HO393.out BK377.out (by decide)) (fun _ hk => hk.2) _) (fun _ hk => hk.2) _) (fun _ hk => hk.2) _) (fun _ hk => hk.1), Kd.Q_of_R (by refine kR_ ?_; exact Kd.R_mono (Kd.R_far (Kd.R_far (Kd.R_far (Kd.R_types HO396.out BK377.out (by decide)) (fun _ hk => hk.2) _) (fun _ hk => hk.2) _) (fun _ hk => hk.2) _) (fun _ hk => hk.1)), (u8_ NB0_377.out NB0_398.out), (u9_ (IsS86.ge HI0.out) GE377.out GE398.out), (u10_ GW377.out GW398.out)⟩
 rw [if_neg c8] at H
 have c8b0 : (t399 == 0) = false := beq_eq_false_iff_ne.mpr c8
 have c8b1 : (t399 != 0) = true := bne_iff_ne.mpr c8
 by_cases c33 : t399 = 1
 ·rw [if_pos c33] at H
  have c33b0 : (t399 == 1) = true := beq_iff_eq.mpr c33
  have c33b1 : (t399 != 1) = false := bne_eq_false_iff_eq.mpr c33
  clear c33
  obtain ⟨⟨t408, t409, t410⟩, A34, H⟩ := bN_ H
  try dsimp only at H
  obtain ⟨y411, hy411⟩ : ∃ y_ : List Int, y_ = (([3, 4, 4] : List Int)) := ⟨_, rfl⟩
  first | replace H := yb_ hy411 H | rw [← hy411] at H
  have Ny411 := Aside0.mk hy411
  clear hy411
  obtain ⟨⟨t414, t415, t416⟩, A35, H⟩ := bN_ H
  try dsimp only at H
  obtain ⟨⟨t417, t418, t419⟩, A36, H⟩ := bN_ H
  try dsimp only at H
  obtain ⟨c37b0, H⟩ := iD_ H
  obtain ⟨c38b0, H⟩ := iD_ H
  obtain ⟨y420, hy420⟩ : ∃ y_ : List ByteArray, y_ = (t391.set (t408 : Int).toNat t417) := ⟨_, rfl⟩
  first | replace H := yb_ hy420 H | rw [← hy420] at H
  have Ny420 := Aside0.mk hy420
  clear hy420
  simp only [Option.some.injEq, Prod.mk.injEq] at H
  obtain ⟨rfl, rfl, rfl, rfl, rfl, rfl, rfl⟩ := H
  go_enter Try.func82, Try.ntmps82
  try go_wp2_with (first | ((with_reducible refine gate_dst (N := 4) rfl ?_); refine box_event ?hg (N := 4) ?hd (cs := #[.int .i64 0, .slice none 0 0, .slice none 0 0]) (t := 37) ?hr ?_; (case hd => rfl); (case hg => rfl); (case hr => first | (go_simp; done) | (go_simp; rfl)); intro gb377 hg w40 hbox hb; have n_ := b_ (IsS86.below ((u5_)) hb) <| b_ (KeepBut.trans ((u3_)) (KeepBut.of_below hb g none) (.inl rfl)) <| b_ (below_step ((u2_ (IsS86.ge HI0.out))) hb) <| b_ (hbox) <| b_ (by rw [hg]; exact (keep_size (w := w) (g := g) (row := none) ((u3_))) : w.heap.size ≤ gb377) <| b_ (Nat.le_trans HW0.out (by rw [hg]; exact (keep_size (w := w) (g := g) (row := none) ((u3_))) : w.heap.size ≤ gb377) : w0.heap.size ≤ gb377) <| b_ (by rw [hg]; exact Nat.ne_of_lt (IsS86.lt (show IsS86 w0 _ g s0_0 s0_1 s0_2 from (u5_))) : g ≠ gb377) <| c_ (by rw [hg]; exact Nat.ne_of_gt (IsS86.lt (show IsS86 w0 _ g s0_0 s0_1 s0_2 from (u5_))) : gb377 ≠ g); clear HI0 HK HB; obtain ⟨HI0, HK, HB, BK377, GW377, GE377, NB0_377, NB377_0⟩ := n_; clear hb hbox hg) | ((with_reducible refine gate_callee (f := 80) rfl ?_); refine goesL_ (some 10) rfl rfl Try.func80 (by kernel_rfl) rfl #[.pointer (some ⟨g, 0, none⟩)] rfl aM_ ?_; (with_reducible refine (spec_l16Seed.calls g s0_0 s0_1 s0_2 t378 t379 t380 w0 _ ?side1 ?side2 A2.out).mono ?_); (case side1 => exact u6_ NB0_377.out); (case side2 => exact u4_ (IsS86.ge HI0.out) GE377.out); rintro e w41 ⟨rfl, hi, hb, hk⟩; refine ⟨_, rfl, ?_⟩; have n_ := b_ (KeepBut.blk hk (g' := gb377) (o := .cells #[.int .i64 0, .slice none 0 0, .slice none 0 0] 37 (0, 0)) (rK_ BK377.out) NB377_0.out (by simp)) <| b_ (KeepBut.trans ((u7_ GW377.out)) hk (.inl rfl)) <| b_ (hb) <| c_ (hi); clear BK377 HK HB HI0; obtain ⟨BK377, HK, HB, HI0⟩ := n_; (try clear hi)) | ((with_reducible refine gate_callee (f := 77) rfl ?_); refine goesL_ (some 13) rfl rfl Try.func77 (by kernel_rfl) rfl #[.pointer (some ⟨g, 0, none⟩), .int .i64 4] rfl aM_ ?_; (with_reducible refine (spec_l01Below.calls g s0_0 t379 t380 4 t381 t382 t383 w0 _ ?side1 ?side2 A3.out).mono ?_); (case side1 => exact u6_ NB0_377.out); (case side2 => exact u4_ (IsS86.ge HI0.out) GE377.out); rintro e w42 ⟨rfl, hi, hb, hk⟩; refine ⟨_, rfl, ?_⟩; have n_ := b_ (KeepBut.blk hk (g' := gb377) (o := .cells #[.int .i64 0, .slice none 0 0, .slice none 0 0] 37 (0, 0)) (rK_ BK377.out) NB377_0.out (by simp)) <| b_ (KeepBut.trans ((u7_ GW377.out)) hk (.inl rfl)) <| b_ (hb) <| c_ (hi); clear BK377 HK HB HI0; obtain ⟨BK377, HK, HB, HI0⟩ := n_; (try clear hi)) | ((with_reducible refine gate_callee (f := 76) rfl ?_); refine goesL_ (some 14) rfl rfl Try.func76 (by kernel_rfl) rfl #[.pointer (some ⟨g, 0, none⟩), .int .i64 t381] rfl aM_ ?_; (with_reducible refine (spec_l01Text.calls k g s0_0 t382 t383 t381 t384 t385 t386 w0 _ ?side1 ?side2 A4.out).mono ?_); (case side1 => exact u6_ NB0_377.out); (case side2 => exact u4_ (IsS86.ge HI0.out) GE377.out); rintro e w43 ⟨rfl, hi, hb, hk⟩; refine ⟨_, rfl, ?_⟩; have n_ := b_ (KeepBut.blk hk (g' := gb377) (o := .cells #[.int .i64 0, .slice none 0 0, .slice none 0 0] 37 (0, 0)) (rK_ BK377.out) NB377_0.out (by simp)) <| b_ (KeepBut.trans ((u7_ GW377.out)) hk (.inl rfl)) <| b_ (hb) <| c_ (hi); clear BK377 HK HB HI0; obtain ⟨BK377, HK, HB, HI0⟩ := n_; (try clear hi)) | ((with_reducible refine gate_callee (f := 77) rfl ?_); refine goesL_ (some 18) rfl rfl Try.func77 (by kernel_rfl) rfl #[.pointer (some ⟨g, 0, none⟩), .int .i64 4] rfl aM_ ?_; (with_reducible refine (spec_l01Below.calls g s0_0 t385 t386 4 t387 t388 t389 w0 _ ?side1 ?side2 A5.out).mono ?_); (case side1 => exact u6_ NB0_377.out); (case side2 => exact u4_ (IsS86.ge HI0.out) GE377.out); rintro e w44 ⟨rfl, hi, hb, hk⟩; refine ⟨_, rfl, ?_⟩; have n_ := b_ (KeepBut.blk hk (g' := gb377) (o := .cells #[.int .i64 0, .slice none 0 0, .slice none 0 0] 37 (0, 0)) (rK_ BK377.out) NB377_0.out (by simp)) <| b_ (KeepBut.trans ((u7_ GW377.out)) hk (.inl rfl)) <| b_ (hb) <| c_ (hi); clear BK377 HK HB HI0; obtain ⟨BK377, HK, HB, HI0⟩ := n_; (try clear hi)) | ((with_reducible refine gate_callee (f := 113) rfl ?_); refine goesL_ (some 20) rfl rfl Try.func113 (by kernel_rfl) rfl #[.string t378, .int .i64 t387, .string t384] rfl aM_ ?_; (with_reducible refine (spec_SignAt.calls k t378 t387 t384 t390 t391 t394 t397 _ A6.out).mono ?_); rintro e w45 ⟨v392, v395, rfl, ho0, ho1, hb⟩; refine ⟨_, rfl, ?_⟩; have n_ := b_ (Kd.R_lower ho0 (keep_size (w := w) (g := g) (row := none) ((u7_ GW377.out)))) <| b_ (Kd.R_lower ho1 (keep_size (w := w) (g := g) (row := none) ((u7_ GW377.out)))) <| b_ (IsS86.below ((u6_ NB0_377.out)) hb) <| b_ (blk_below (g := gb377) (o := .cells #[.int .i64 0, .slice none 0 0, .slice none 0 0] 37 (0, 0)) (rK_ BK377.out) hb) <| b_ (KeepBut.trans ((u7_ GW377.out)) (KeepBut.of_below hb g none) (.inl rfl)) <| c_ (below_step ((u4_ (IsS86.ge HI0.out) GE377.out)) hb); clear HI0 BK377 HK HB; obtain ⟨HO393, HO396, HI0, BK377, HK, HB⟩ := n_; (try clear ho1)) | ((with_reducible refine gate_dst (N := 7) rfl ?_); refine box_event ?hg (N := 7) ?hd (cs := #[.int .i64 0, .slice none 0 0, .slice none 0 0]) (t := 37) ?hr ?_; (case hd => rfl); (case hg => rfl); (case hr => first | (go_simp; done) | (go_simp; rfl)); intro gb398 hg w46 hbox hb; have n_ := b_ (Kd.R_below (rR_ HO393.out) hb) <| b_ (Kd.R_below (rR_ HO396.out) hb) <| b_ (IsS86.below ((u6_ NB0_377.out)) hb) <| b_ (blk_below (g := gb377) (o := .cells #[.int .i64 0, .slice none 0 0, .slice none 0 0] 37 (0, 0)) (rK_ BK377.out) hb) <| b_ (KeepBut.trans ((u7_ GW377.out)) (KeepBut.of_below hb g none) (.inl rfl)) <| b_ (below_step ((u4_ (IsS86.ge HI0.out) GE377.out)) hb) <| b_ (hbox) <| b_ (by rw [hg]; exact (keep_size (w := w) (g := g) (row := none) ((u7_ GW377.out))) : w.heap.size ≤ gb398) <| b_ (Nat.le_trans HW0.out (by rw [hg]; exact (keep_size (w := w) (g := g) (row := none) ((u7_ GW377.out))) : w.heap.size ≤ gb398) : w0.heap.size ≤ gb398) <| b_ (by rw [hg]; exact Nat.ne_of_lt (blk_lt (g := gb377) (o := .cells #[.int .i64 0, .slice none 0 0, .slice none 0 0] 37 (0, 0)) (rK_ BK377.out)) : gb377 ≠ gb398) <| b_ (by rw [hg]; exact Nat.ne_of_gt (blk_lt (g := gb377) (o := .cells #[.int .i64 0, .slice none 0 0, .slice none 0 0] 37 (0, 0)) (rK_ BK377.out)) : gb398 ≠ gb377) <| b_ (by rw [hg]; exact Nat.ne_of_lt (IsS86.lt (show IsS86 w0 _ g s0_0 t388 t389 from (u6_ NB0_377.out))) : g ≠ gb398) <| c_ (by rw [hg]; exact Nat.ne_of_gt (IsS86.lt (show IsS86 w0 _ g s0_0 t388 t389 from (u6_ NB0_377.out))) : gb398 ≠ g); clear HO393 HO396 HI0 BK377 HK HB; obtain ⟨HO393, HO396, HI0, BK377, HK, HB, BK398, GW398, GE398, NB377_398, NB398_377, NB0_398, NB398_0⟩ := n_; clear hb hbox hg; have hnb47 := NB398_377.out; have hnc47 := NB377_398.out; have hnb48 := NB398_0.out; have hnc48 := NB0_398.out; have hcz49_0 : w46.cell? ⟨gb398, 0, none⟩ = some (.int .i64 0) := (blk_cell BK398.out 0).trans rfl; have hcz49_1 : w46.cell? ⟨gb398, 1, none⟩ = some (.slice none 0 0) := (blk_cell BK398.out 1).trans rfl; have hcz49_2 : w46.cell? ⟨gb398, 2, none⟩ = some (.slice none 0 0) := (blk_cell BK398.out 2).trans rfl; have hfz49_0 := blk_frozen BK398.out 0; have hfz49_1 := blk_frozen BK398.out 1; have hfz49_2 := blk_frozen BK398.out 2; obtain ⟨Ao50, co50, eo50⟩ := Kd.R_slice HO393.out; subst eo50; obtain ⟨Ao51, co51, eo51⟩ := Kd.R_slice HO396.out; subst eo51) | ((with_reducible refine gate_callee (f := 77) rfl ?_); refine goesL_ (some 24) rfl rfl Try.func77 (by kernel_rfl) rfl #[.pointer (some ⟨g, 0, none⟩), .int .i64 12] rfl aM_ ?_; (with_reducible refine (spec_l01Below.calls g s0_0 t388 t389 12 t399 t400 t401 w0 _ ?side1 ?side2 A7.out).mono ?_); (case side1 => exact u8_ NB0_377.out NB0_398.out); (case side2 => exact u9_ (IsS86.ge HI0.out) GE377.out GE398.out); rintro e w52 ⟨rfl, hi, hb, hk⟩; refine ⟨_, rfl, ?_⟩; have n_ := b_ (KeepBut.blk hk (g' := gb377) (o := .cells #[.int .i64 0, .slice none 0 0, .slice none 0 0] 37 (0, 0)) (by refine kK_ ?_; refine blk_far ?_ NB377_398.out _; refine kK_ ?_; refine blk_far ?_ NB377_398.out _; refine kK_ ?_; refine blk_far ?_ NB377_398.out _; exact rK_ BK377.out) NB377_0.out (by simp)) <| b_ (Kd.R_mono (Kd.R_keep (IsS86.apart (show IsS86 w0 _ g s0_0 t388 t389 from (u8_ NB0_377.out NB0_398.out)) (by refine kR_ ?_; exact (Kd.R_mono (Kd.R_far (Kd.R_far (Kd.R_far (Kd.R_types HO393.out BK398.out (by decide)) (fun _ hk => hk.2) _) (fun _ hk => hk.2) _) (fun _ hk => hk.2) _) (fun _ h_ => h_.1))) (by decide)) hk (fun _ h => h.2)) (fun _ h => h.1)) <| b_ (Kd.R_mono (Kd.R_keep (IsS86.apart (show IsS86 w0 _ g s0_0 t388 t389 from (u8_ NB0_377.out NB0_398.out)) (by refine kR_ ?_; exact (Kd.R_mono (Kd.R_far (Kd.R_far (Kd.R_far (Kd.R_types HO396.out BK398.out (by decide)) (fun _ hk => hk.2) _) (fun _ hk => hk.2) _) (fun _ hk => hk.2) _) (fun _ h_ => h_.1))) (by decide)) hk (fun _ h => h.2)) (fun _ h => h.1)) <| b_ (KeepBut.blk hk (g' := gb398) (o := .cells #[.int .i64 t390, .slice Ao50 t391.length co50, .slice Ao51 t394.length co51] 37 (0, 0)) (by refine kK_ ?_; refine blk_put (cs := #[.int .i64 t390, .slice Ao50 t391.length co50, .slice none 0 0]) ?_ 2 _ rfl; refine kK_ ?_; refine blk_put (cs := #[.int .i64 t390, .slice none 0 0, .slice none 0 0]) ?_ 1 _ rfl; refine kK_ ?_; refine blk_put (cs := #[.int .i64 0, .slice none 0 0, .slice none 0 0]) ?_ 0 _ rfl; exact rK_ BK398.out) NB398_0.out (by simp)) <| b_ (KeepBut.trans ((u10_ GW377.out GW398.out)) hk (.inl rfl)) <| b_ (hb) <| c_ (hi); clear BK377 HO393 HO396 BK398 HK HB HI0; obtain ⟨BK377, HO393, HO396, BK398, HK, HB, HI0⟩ := n_; (try clear hi)))
  have n_ := b_ (Kd.R_drew HO393.out) <| b_ (Kd.R_drew HO396.out) <| b_ (blk_drew BK377.out) <| b_ (blk_drew BK398.out) <| b_ (IsS86.drew HI0.out) <| b_ (keep_drew HK.out) <| c_ (below_drew1 HB.out)
  clear HO393 HO396 BK377 BK398 HI0 HK HB
  obtain ⟨HO393, HO396, BK377, BK398, HI0, HK, HB⟩ := n_
  refine start_ (n := 11) (S := fun w' => w'.cell? ⟨gb398, 0, none⟩ = some (.int .i64 t390) ∧ w'.cell? ⟨gb398, 1, none⟩ = some (.slice Ao50 t391.length co50) ∧ w'.cell? ⟨gb398, 2, none⟩ = some (.slice Ao51 t394.length co51)) (ds := [10]) (bb_ 11 0) (by kernel_rfl) rfl rfl ⟨(blk_cell BK398.out 0).trans rfl, (blk_cell BK398.out 1).trans rfl, (blk_cell BK398.out 2).trans rfl⟩ (fun hHeld => ?_); refine with_tabW spec_l16Sig.tab8 spec_l16Sig.bits8 (fun HT_ HW_ => ?_)
  generalize w52.drew = w53 at HO393 HO396 BK377 BK398 HI0 HK HB hHeld ⊢
  refine pS_ 0 33 (bb_ 11 1) HT_.out ?_
  refine pS_ 2 35 (bb_ 11 5) HT_.out ?_
  refine pS_ 4 37 (bb_ 11 21) HT_.out ?_
  refine pS_ 5 38 (bb_ 11 53) HT_.out ?_
  refine tS_ 1 34 (bb_ 11 55) (take_ofW HT_.out HW_.out (by kernel_rfl)) hHeld ?_
  refine join_ (σ := Value) 4 (bb_ 11 127) (fun s_ => [(36, .int .i64 t408), (39, s_)]) (fun s_ w' => (w'.cell? ⟨gb398, 0, none⟩ = some (.int .i64 t390) ∧ w'.cell? ⟨gb398, 1, none⟩ = some (.slice Ao50 t391.length co50) ∧ w'.cell? ⟨gb398, 2, none⟩ = some (.slice Ao51 t394.length co51)) ∧ (Kd.R Kd.string 9 w' w.heap.size (fun k_ => some k_ ≠ (.slice Ao51 t394.length co51 : Value).ownBlock) (.slice Ao50 t391.length co50) t391) ∧ (Kd.R Kd.string 9 w' w.heap.size (fun k_ => some k_ ≠ (.slice Ao50 t391.length co50 : Value).ownBlock) (.slice Ao51 t394.length co51) t394) ∧ (Kd.R (Kd.int .i64) 3 w' w.heap.size (fun _ => True) s_ y411) ∧ (w'.heap[gb377]? = some (.cells #[.int .i64 0, .slice none 0 0, .slice none 0 0] 37 (0, 0))) ∧ (w'.heap[gb398]? = some (.cells #[.int .i64 t390, .slice Ao50 t391.length co50, .slice Ao51 t394.length co51] 37 (0, 0))) ∧ (IsS86 w0 w' g s0_0 t409 t410) ∧ (KeepBut w w' g none) ∧ (Below w0.heap.size w0 w')) ?_ ?_
  rotate_left
  ·intro hCont
   refine two_ (i := 3) (j := 6) (Ni := some 36) (Nj := some 39) (bb_ 11 63) (bb_ 11 119) rfl rfl rfl rfl (two_of HT_.out (by kernel_rfl)) (by decide) (by decide) (fun K hK => ?_) (fun K hK => ?_)
   ·skip
    refine goes_ Try.func77 (by kernel_rfl) rfl #[.pointer (some ⟨g, 0, none⟩), .int .i64 10] (by rfl) rfl rfl aM_ ?_
    with_reducible refine (spec_l01Below.calls g s0_0 t400 t401 10 t408 t409 t410 w0 _ ?side1 ?side2 A34.out).mono ?_
    (case side1 => exact u8_ NB0_377.out NB0_398.out)
    (case side2 => exact u9_ (IsS86.ge HI0.out) GE377.out GE398.out)
    rintro e w54 ⟨rfl, hi, hb, hk⟩
    refine ⟨_, rfl, ?_⟩
    have n_ := b_ (KeepBut.blk hk (g' := gb377) (o := .cells #[.int .i64 0, .slice none 0 0, .slice none 0 0] 37 (0, 0)) (rK_ BK377.out) NB377_0.out (by simp)) <| b_ (Kd.R_mono (Kd.R_keep (IsS86.apart (show IsS86 w0 _ g s0_0 t400 t401 from (u8_ NB0_377.out NB0_398.out)) (rR_ HO393.out) (by decide)) hk (fun _ h => h.2)) (fun _ h => h.1)) <| b_ (Kd.R_mono (Kd.R_keep (IsS86.apart (show IsS86 w0 _ g s0_0 t400 t401 from (u8_ NB0_377.out NB0_398.out)) (rR_ HO396.out) (by decide)) hk (fun _ h => h.2)) (fun _ h => h.1)) <| b_ (KeepBut.blk hk (g' := gb398) (o := .cells #[.int .i64 t390, .slice Ao50 t391.length co50, .slice Ao51 t394.length co51] 37 (0, 0)) (rK_ BK398.out) NB398_0.out (by simp)) <| b_ (KeepBut.trans ((u10_ GW377.out GW398.out)) hk (.inl rfl)) <| b_ (hb) <| c_ (hi)
    clear BK377 HO393 HO396 BK398 HK HB HI0
    obtain ⟨BK377, HO393, HO396, BK398, HK, HB, HI0⟩ := n_
    refine hK.out _ _ ⟨(blk_cell BK398.out 0).trans rfl, (blk_cell BK398.out 1).trans rfl, (blk_cell BK398.out 2).trans rfl⟩ (fun hHeld => ?_)
    clear hK K
    refine norm_ (a' := ?_) ?_ ?_
    rotate_left
    ·show Act.put _ (some 36) _ = _
     simp only [Act.put, List.setIfInBounds_toArray, List.set_cons_zero, List.set_cons_succ, i64_w, i32_w]
     rfl
    refine one_ (i := 6) (N := some 39) (bb_ 11 127) rfl rfl (one_of HT_.out (by kernel_rfl)) (by decide) (fun K hK => ?_)
    refine Kd.R_lit_step (Kd.int .i64) _ 3 ?hg (N := 39) ?hd (xs := ([3, 4, 4] : List Int)) (inner := [.int .i64 3, .int .i64 4, .int .i64 4]) (ok := fun _ => True) (okp := fun _ => True) ?hr ?hp (fun _ hk => hk) trivial (Below.refl _ _) (Nat.le_refl _) (by simp) ?_; (case hd => rfl); (case hg => rfl); (case hr => first | (go_simp; done) | (go_simp; rfl)); (case hp => exact (Reps.one (show Kd.M (Kd.int .i64) _ _ _ 3 [.int .i64 3] from rfl) (Reps.one (show Kd.M (Kd.int .i64) _ _ _ 4 [.int .i64 4] from rfl) (Reps.one (show Kd.M (Kd.int .i64) _ _ _ 4 [.int .i64 4] from rfl) (Reps.none _ _)))))
    intro v412 w55 ho56 hb hg_ hnew_
    clear hg_ hnew_
    (first | rw [← Ny411.out] at ho56 | (simp only [Int.reduceToNat] at ho56; rw [← Ny411.out] at ho56))
    have n_ := b_ (Kd.R_below (rR_ HO393.out) hb) <| b_ (Kd.R_below (rR_ HO396.out) hb) <| b_ (Kd.R_lower ho56 (keep_size (w := w) (g := g) (row := none) ((u10_ GW377.out GW398.out)))) <| b_ (IsS86.below ((u8_ NB0_377.out NB0_398.out)) hb) <| b_ (blk_below (g := gb377) (o := .cells #[.int .i64 0, .slice none 0 0, .slice none 0 0] 37 (0, 0)) (rK_ BK377.out) hb) <| b_ (blk_below (g := gb398) (o := .cells #[.int .i64 t390, .slice Ao50 t391.length co50, .slice Ao51 t394.length co51] 37 (0, 0)) (rK_ BK398.out) hb) <| b_ (KeepBut.trans ((u10_ GW377.out GW398.out)) (KeepBut.of_below hb g none) (.inl rfl)) <| c_ (below_step ((u9_ (IsS86.ge HI0.out) GE377.out GE398.out)) hb)
    clear HO393 HO396 HI0 BK377 BK398 HK HB
    obtain ⟨HO393, HO396, HO413, HI0, BK377, BK398, HK, HB⟩ := n_
    clear hb ho56
    refine hK.out _ _ ⟨(blk_cell BK398.out 0).trans rfl, (blk_cell BK398.out 1).trans rfl, (blk_cell BK398.out 2).trans rfl⟩ (fun hHeld => ?_)
    clear hK K
    refine norm_ (a' := ?_) ?_ ?_
    rotate_left
    ·show Act.put _ (some 39) _ = _
     simp only [Act.put, List.setIfInBounds_toArray, List.set_cons_zero, List.set_cons_succ, i64_w, i32_w]
     rfl
    exact norm_ (by simp only [putAll, Act.put, List.setIfInBounds_toArray, List.set_cons_zero, List.set_cons_succ]) (hCont (v412) _ ⟨hHeld, (rR_ HO393.out), (rR_ HO396.out), (rR_ HO413.out), (rK_ BK377.out), (rK_ BK398.out), ((u8_ NB0_377.out NB0_398.out)), ((u10_ GW377.out GW398.out)), ((u9_ (IsS86.ge HI0.out) GE377.out GE398.out))⟩)
   ·skip
    refine Kd.R_lit_step (Kd.int .i64) _ 3 ?hg (N := 39) ?hd (xs := ([3, 4, 4] : List Int)) (inner := [.int .i64 3, .int .i64 4, .int .i64 4]) (ok := fun _ => True) (okp := fun _ => True) ?hr ?hp (fun _ hk => hk) trivial (Below.refl _ _) (Nat.le_refl _) (by simp) ?_; (case hd => rfl); (case hg => rfl); (case hr => first | (go_simp; done) | (go_simp; rfl)); (case hp => exact (Reps.one (show Kd.M (Kd.int .i64) _ _ _ 3 [.int .i64 3] from rfl) (Reps.one (show Kd.M (Kd.int .i64) _ _ _ 4 [.int .i64 4] from rfl) (Reps.one (show Kd.M (Kd.int .i64) _ _ _ 4 [.int .i64 4] from rfl) (Reps.none _ _)))))
    intro v412 w54 ho55 hb hg_ hnew_
    clear hg_ hnew_
    (first | rw [← Ny411.out] at ho55 | (simp only [Int.reduceToNat] at ho55; rw [← Ny411.out] at ho55))
    have n_ := b_ (Kd.R_below (rR_ HO393.out) hb) <| b_ (Kd.R_below (rR_ HO396.out) hb) <| b_ (Kd.R_lower ho55 (keep_size (w := w) (g := g) (row := none) ((u10_ GW377.out GW398.out)))) <| b_ (IsS86.below ((u8_ NB0_377.out NB0_398.out)) hb) <| b_ (blk_below (g := gb377) (o := .cells #[.int .i64 0, .slice none 0 0, .slice none 0 0] 37 (0, 0)) (rK_ BK377.out) hb) <| b_ (blk_below (g := gb398) (o := .cells #[.int .i64 t390, .slice Ao50 t391.length co50, .slice Ao51 t394.length co51] 37 (0, 0)) (rK_ BK398.out) hb) <| b_ (KeepBut.trans ((u10_ GW377.out GW398.out)) (KeepBut.of_below hb g none) (.inl rfl)) <| c_ (below_step ((u9_ (IsS86.ge HI0.out) GE377.out GE398.out)) hb)
    clear HO393 HO396 HI0 BK377 BK398 HK HB
    obtain ⟨HO393, HO396, HO413, HI0, BK377, BK398, HK, HB⟩ := n_
    clear hb ho55
    refine hK.out _ _ ⟨(blk_cell BK398.out 0).trans rfl, (blk_cell BK398.out 1).trans rfl, (blk_cell BK398.out 2).trans rfl⟩ (fun hHeld => ?_)
    clear hK K
    refine norm_ (a' := ?_) ?_ ?_
    rotate_left
    ·show Act.put _ (some 39) _ = _
     simp only [Act.put, List.setIfInBounds_toArray, List.set_cons_zero, List.set_cons_succ, i64_w, i32_w]
     rfl
    refine one_ (i := 3) (N := some 36) (bb_ 11 127) rfl rfl (one_of HT_.out (by kernel_rfl)) (by decide) (fun K hK => ?_)
    refine goes_ Try.func77 (by kernel_rfl) rfl #[.pointer (some ⟨g, 0, none⟩), .int .i64 10] (by rfl) rfl rfl aM_ ?_
    with_reducible refine (spec_l01Below.calls g s0_0 t400 t401 10 t408 t409 t410 w0 _ ?side1 ?side2 A34.out).mono ?_
    (case side1 => exact u8_ NB0_377.out NB0_398.out)
    (case side2 => exact u9_ (IsS86.ge HI0.out) GE377.out GE398.out)
    rintro e w56 ⟨rfl, hi, hb, hk⟩
    refine ⟨_, rfl, ?_⟩
    have n_ := b_ (KeepBut.blk hk (g' := gb377) (o := .cells #[.int .i64 0, .slice none 0 0, .slice none 0 0] 37 (0, 0)) (rK_ BK377.out) NB377_0.out (by simp)) <| b_ (Kd.R_mono (Kd.R_keep (IsS86.apart (show IsS86 w0 _ g s0_0 t400 t401 from (u8_ NB0_377.out NB0_398.out)) (rR_ HO393.out) (by decide)) hk (fun _ h => h.2)) (fun _ h => h.1)) <| b_ (Kd.R_mono (Kd.R_keep (IsS86.apart (show IsS86 w0 _ g s0_0 t400 t401 from (u8_ NB0_377.out NB0_398.out)) (rR_ HO396.out) (by decide)) hk (fun _ h => h.2)) (fun _ h => h.1)) <| b_ (KeepBut.blk hk (g' := gb398) (o := .cells #[.int .i64 t390, .slice Ao50 t391.length co50, .slice Ao51 t394.length co51] 37 (0, 0)) (rK_ BK398.out) NB398_0.out (by simp)) <| b_ (Kd.R_mono (Kd.R_keep (IsS86.apart (show IsS86 w0 _ g s0_0 t400 t401 from (u8_ NB0_377.out NB0_398.out)) (rR_ HO413.out) (by decide)) hk (fun _ h => h.2)) (fun _ h => h.1)) <| b_ (KeepBut.trans ((u10_ GW377.out GW398.out)) hk (.inl rfl)) <| b_ (hb) <| c_ (hi)
    clear BK377 HO393 HO396 BK398 HO413 HK HB HI0
    obtain ⟨BK377, HO393, HO396, BK398, HO413, HK, HB, HI0⟩ := n_
    refine hK.out _ _ ⟨(blk_cell BK398.out 0).trans rfl, (blk_cell BK398.out 1).trans rfl, (blk_cell BK398.out 2).trans rfl⟩ (fun hHeld => ?_)
    clear hK K
    refine norm_ (a' := ?_) ?_ ?_
    rotate_left
    ·show Act.put _ (some 36) _ = _
     simp only [Act.put, List.setIfInBounds_toArray, List.set_cons_zero, List.set_cons_succ, i64_w, i32_w]
     rfl
    exact norm_ (by simp only [putAll, Act.put, List.setIfInBounds_toArray, List.set_cons_zero, List.set_cons_succ]) (hCont (v412) _ ⟨hHeld, (rR_ HO393.out), (rR_ HO396.out), (rR_ HO413.out), (rK_ BK377.out), (rK_ BK398.out), ((u8_ NB0_377.out NB0_398.out)), ((u10_ GW377.out GW398.out)), ((u9_ (IsS86.ge HI0.out) GE377.out GE398.out))⟩)
  rintro v412 w57 ⟨hS_, h0_, h1_, h2_, h3_, h4_, h5_, h6_, h7_⟩
  have n_ := b_ (show Kd.R Kd.string 9 w57 w.heap.size (fun k_ => some k_ ≠ (.slice Ao51 t394.length co51 : Value).ownBlock) (.slice Ao50 t391.length co50) t391 from h0_) <| b_ (show Kd.R Kd.string 9 w57 w.heap.size (fun k_ => some k_ ≠ (.slice Ao50 t391.length co50 : Value).ownBlock) (.slice Ao51 t394.length co51) t394 from h1_) <| b_ (show Kd.R (Kd.int .i64) 3 w57 w.heap.size (fun _ => True) v412 y411 from h2_) <| b_ (show w57.heap[gb377]? = some (.cells #[.int .i64 0, .slice none 0 0, .slice none 0 0] 37 (0, 0)) from h3_) <| b_ (show w57.heap[gb398]? = some (.cells #[.int .i64 t390, .slice Ao50 t391.length co50, .slice Ao51 t394.length co51] 37 (0, 0)) from h4_) <| b_ (show IsS86 w0 w57 g s0_0 t409 t410 from h5_) <| b_ (show KeepBut w w57 g none from h6_) <| c_ (show Below w0.heap.size w0 w57 from h7_)
  clear HO393 HO396 BK377 BK398 HI0 HK HB h0_ h1_ h2_ h3_ h4_ h5_ h6_ h7_
  obtain ⟨HO393, HO396, HO413, BK377, BK398, HI0, HK, HB⟩ := n_
  have hHeld : w57.cell? ⟨gb398, 0, none⟩ = some (.int .i64 t390) ∧ w57.cell? ⟨gb398, 1, none⟩ = some (.slice Ao50 t391.length co50) ∧ w57.cell? ⟨gb398, 2, none⟩ = some (.slice Ao51 t394.length co51) := hS_
  obtain ⟨Ao58, co58, eo58⟩ := Kd.R_slice HO413.out
  (first | subst eo58 | (injection eo58 with f1_ f2_ f3_; have f4_ := f1_.symm; have f5_ := f3_.symm; clear f1_ f2_ f3_; subst f4_; subst f5_))
  refine norm_ (a' := ?_) ?_ ?_
  rotate_left
  ·simp only [putAll, Act.put, List.setIfInBounds_toArray, List.set_cons_zero, List.set_cons_succ]
   rfl
  refine one_ (i := 7) (N := some 40) (bb_ 11 255) rfl rfl (one_of HT_.out (by kernel_rfl)) (by decide) (fun K hK => ?_)
  refine goes_ Try.func75 (by kernel_rfl) rfl #[.pointer (some ⟨g, 0, none⟩), .slice Ao58 y411.length co58] (by rfl) rfl rfl aM_ ?_
  with_reducible refine (spec_l01PickInt.calls g s0_0 t409 t410 _ _ y411 t414 t415 t416 w0 _ ?side1 ?side2 ?side3 ?side4 ?side5 A35.out).mono ?_
  (case side1 => exact u8_ NB0_377.out NB0_398.out)
  (case side2 => exact u9_ (IsS86.ge HI0.out) GE377.out GE398.out)
  (case side3 => exact cR_ (Kd.R_reads' HO413.out).2.2)
  (case side4 => exact (Kd.R_reads' HO413.out).2.1)
  (case side5 => exact far_slice (IsS86.own_ne HI0.out HO413.out (by decide)))
  rintro e w59 ⟨rfl, hi, hb, hk⟩
  refine ⟨_, rfl, ?_⟩
  have n_ := b_ (KeepBut.blk hk (g' := gb377) (o := .cells #[.int .i64 0, .slice none 0 0, .slice none 0 0] 37 (0, 0)) (rK_ BK377.out) NB377_0.out (by simp)) <| b_ (Kd.R_mono (Kd.R_keep (IsS86.apart (show IsS86 w0 _ g s0_0 t409 t410 from (u8_ NB0_377.out NB0_398.out)) (rR_ HO393.out) (by decide)) hk (fun _ h => h.2)) (fun _ h => h.1)) <| b_ (Kd.R_mono (Kd.R_keep (IsS86.apart (show IsS86 w0 _ g s0_0 t409 t410 from (u8_ NB0_377.out NB0_398.out)) (rR_ HO396.out) (by decide)) hk (fun _ h => h.2)) (fun _ h => h.1)) <| b_ (KeepBut.blk hk (g' := gb398) (o := .cells #[.int .i64 t390, .slice Ao50 t391.length co50, .slice Ao51 t394.length co51] 37 (0, 0)) (rK_ BK398.out) NB398_0.out (by simp)) <| b_ (Kd.R_mono (Kd.R_keep (IsS86.apart (show IsS86 w0 _ g s0_0 t409 t410 from (u8_ NB0_377.out NB0_398.out)) (rR_ HO413.out) (by decide)) hk (fun _ h => h.2)) (fun _ h => h.1)) <| b_ (KeepBut.trans ((u10_ GW377.out GW398.out)) hk (.inl rfl)) <| b_ (hb) <| c_ (hi)
  clear BK377 HO393 HO396 BK398 HO413 HK HB HI0
  obtain ⟨BK377, HO393, HO396, BK398, HO413, HK, HB, HI0⟩ := n_
  refine hK.out _ _ ⟨(blk_cell BK398.out 0).trans rfl, (blk_cell BK398.out 1).trans rfl, (blk_cell BK398.out 2).trans rfl⟩ (fun hHeld => ?_)
  clear hK K
  refine norm_ (a' := ?_) ?_ ?_
  rotate_left
  ·show Act.put _ (some 40) _ = _
   simp only [Act.put, List.setIfInBounds_toArray, List.set_cons_zero, List.set_cons_succ, i64_w, i32_w]
   rfl
  refine one_ (i := 8) (N := some 41) (bb_ 11 511) rfl rfl (one_of HT_.out (by kernel_rfl)) (by decide) (fun K hK => ?_)
  refine goes_ Try.func76 (by kernel_rfl) rfl #[.pointer (some ⟨g, 0, none⟩), .int .i64 t414] (by rfl) rfl rfl aM_ ?_
  with_reducible refine (spec_l01Text.calls k g s0_0 t415 t416 t414 t417 t418 t419 w0 _ ?side1 ?side2 A36.out).mono ?_
  (case side1 => exact u8_ NB0_377.out NB0_398.out)
  (case side2 => exact u9_ (IsS86.ge HI0.out) GE377.out GE398.out)
  rintro e w60 ⟨rfl, hi, hb, hk⟩
  refine ⟨_, rfl, ?_⟩
  have n_ := b_ (KeepBut.blk hk (g' := gb377) (o := .cells #[.int .i64 0, .slice none 0 0, .slice none 0 0] 37 (0, 0)) (rK_ BK377.out) NB377_0.out (by simp)) <| b_ (Kd.R_mono (Kd.R_keep (IsS86.apart (show IsS86 w0 _ g s0_0 t415 t416 from (u8_ NB0_377.out NB0_398.out)) (rR_ HO393.out) (by decide)) hk (fun _ h => h.2)) (fun _ h => h.1)) <| b_ (Kd.R_mono (Kd.R_keep (IsS86.apart (show IsS86 w0 _ g s0_0 t415 t416 from (u8_ NB0_377.out NB0_398.out)) (rR_ HO396.out) (by decide)) hk (fun _ h => h.2)) (fun _ h => h.1)) <| b_ (KeepBut.blk hk (g' := gb398) (o := .cells #[.int .i64 t390, .slice Ao50 t391.length co50, .slice Ao51 t394.length co51] 37 (0, 0)) (rK_ BK398.out) NB398_0.out (by simp)) <| b_ (Kd.R_mono (Kd.R_keep (IsS86.apart (show IsS86 w0 _ g s0_0 t415 t416 from (u8_ NB0_377.out NB0_398.out)) (rR_ HO413.out) (by decide)) hk (fun _ h => h.2)) (fun _ h => h.1)) <| b_ (KeepBut.trans ((u10_ GW377.out GW398.out)) hk (.inl rfl)) <| b_ (hb) <| c_ (hi)
  clear BK377 HO393 HO396 BK398 HO413 HK HB HI0
  obtain ⟨BK377, HO393, HO396, BK398, HO413, HK, HB, HI0⟩ := n_
  have p39 : 0 ≤ (t408 : Int) := of_decide_eq_true (by first | (with_reducible assumption) | assumption)
  have q39 : (t408 : Int) < ((t391.length : Int) : Int) := of_decide_eq_true (by first | (with_reducible assumption) | assumption)
  obtain ⟨go39, co39, eo39, gb39, gl39, cl39, HG39⟩ := Kd.R_form HO393.out (by omega)
  (first | cases eo39 | (injection eo39 with ea_ en_ ec_; (first | subst ea_ | (injection ea_ with ea_; subst ea_)); subst ec_; clear en_))
  have GB39 := Aside0.mk gb39
  have GG39 := Aside0.mk HG39
  clear gb39 gl39 HG39
  obtain ⟨hx39_0, hf39_0⟩ := Kd.R_celln (⟨#[]⟩ : ByteArray) HO393.out (t408 : Int) p39 q39
  replace p39 := eq_true p39
  replace q39 := eq_true q39
  have HN0_go39 := Aside0.mk (show g ≠ go39 from by have h_ := IsS86.own_ne HI0.out HO393.out (by decide); intro e_; exact h_ (by rw [e_]; rfl))
  have HP61 := Kd.R_putn HO393.out (t408 : Int) t417
  rw [← Ny420.out] at HP61
  have HQ61 := Aside0.mk HP61
  clear HP61
  refine hK.out _ _ ⟨(blk_cell BK398.out 0).trans rfl, (blk_cell BK398.out 1).trans rfl, (blk_cell BK398.out 2).trans rfl⟩ (fun hHeld => ?_)
  clear hK K
  refine norm_ (a' := ?_) ?_ ?_
  rotate_left
  ·show Act.put _ (some 41) _ = _
   simp only [Act.put, List.setIfInBounds_toArray, List.set_cons_zero, List.set_cons_succ, i64_w, i32_w]
   rfl
  refine pS_ 9 42 (bb_ 11 1023) HT_.out ?_
  refine last_ (i := 10) (N := none) (bb_ 11 2047) rfl rfl (one_of HT_.out (by kernel_rfl)) (by decide) (fun K hK => ?_)
  refine skip_ (w1 := ?_) (by rfl) rfl ?_ ?_
  rotate_left
  ·go_simp
   rfl
  refine hK.out _ _ ?_
  clear hK K
  refine done_ (done_of HT_.out (by kernel_rfl)) ?_
  have n_ := b_ (show Kd.R Kd.string 9 (w60.setCell ⟨go39, (t408 : Int).toNat, none⟩ (.string t417)) w.heap.size (fun k_ => some k_ ≠ (.slice Ao51 t394.length co51 : Value).ownBlock) (.slice (some ⟨go39, 0, none⟩) t391.length co50) y420 from rR_ HQ61.out) <| b_ (show Kd.R Kd.string 9 (w60.setCell ⟨go39, (t408 : Int).toNat, none⟩ (.string t417)) w.heap.size (fun k_ => some k_ ≠ (.slice (some ⟨go39, 0, none⟩) t391.length co50 : Value).ownBlock) (.slice Ao51 t394.length co51) t394 from by refine kR_ ?_; exact Kd.R_mono (Kd.R_far (p := ⟨go39, (t408 : Int).toNat, none⟩) (Kd.R_mono HO396.out (fun k_ hk => (⟨hk, fun e_ => hk (by rw [e_]; rfl)⟩ : _ ∧ k_ ≠ go39))) (fun _ hk => hk.2) _) (fun _ hk => hk.1)) <| b_ (show Kd.R (Kd.int .i64) 3 (w60.setCell ⟨go39, (t408 : Int).toNat, none⟩ (.string t417)) w.heap.size (fun _ => True) (.slice Ao58 y411.length co58) y411 from by refine kR_ ?_; exact Kd.R_mono (Kd.R_far (p := ⟨go39, (t408 : Int).toNat, none⟩) (Kd.R_types HO413.out GG39.out (by decide)) (fun _ hk => hk.2) _) (fun _ hk => trivial)) <| b_ (show (w60.setCell ⟨go39, (t408 : Int).toNat, none⟩ (.string t417)).heap[gb377]? = some (.cells #[.int .i64 0, .slice none 0 0, .slice none 0 0] 37 (0, 0)) from by refine kK_ ?_; refine blk_far ?_ (by have h_ := Kd.R_ne HO393.out BK377.out (by decide); intro e_; exact h_ (by rw [e_]; rfl)) _; refine kK_ ?_; exact BK377.out) <| b_ (show (w60.setCell ⟨go39, (t408 : Int).toNat, none⟩ (.string t417)).heap[gb398]? = some (.cells #[.int .i64 t390, .slice (some ⟨go39, 0, none⟩) t391.length co50, .slice Ao51 t394.length co51] 37 (0, 0)) from by refine kK_ ?_; refine blk_far ?_ (by have h_ := Kd.R_ne HO393.out BK398.out (by decide); intro e_; exact h_ (by rw [e_]; rfl)) _; refine kK_ ?_; exact BK398.out) <| b_ (show IsS86 w0 (w60.setCell ⟨go39, (t408 : Int).toNat, none⟩ (.string t417)) g s0_0 t418 t419 from (u11_ HN0_go39.out NB0_377.out NB0_398.out)) <| b_ (show KeepBut w (w60.setCell ⟨go39, (t408 : Int).toNat, none⟩ (.string t417)) g none from (u12_ GB39.out GW377.out GW398.out)) <| c_ (show Below w0.heap.size w0 (w60.setCell ⟨go39, (t408 : Int).toNat, none⟩ (.string t417)) from (u13_ (Nat.le_trans HL.out GB39.out) (IsS86.ge HI0.out) GE377.out GE398.out))
  clear HO393 HO396 HO413 BK377 BK398 HI0 HK HB
  generalize (w60.setCell ⟨go39, (t408 : Int).toNat, none⟩ (.string t417)) = w62 at n_ ⊢
  obtain ⟨HO393, HO396, HO413, BK377, BK398, HI0, HK, HB⟩ := n_
  try go_wp2
  have n_ := b_ (Kd.R_drew HO393.out) <| b_ (Kd.R_drew HO396.out) <| b_ (Kd.R_drew HO413.out) <| b_ (blk_drew BK377.out) <| b_ (blk_drew BK398.out) <| b_ (IsS86.drew HI0.out) <| b_ (keep_drew HK.out) <| c_ (below_drew1 HB.out)
  clear HO393 HO396 HO413 BK377 BK398 HI0 HK HB
  obtain ⟨HO393, HO396, HO413, BK377, BK398, HI0, HK, HB⟩ := n_
  refine start_ (n := 6) (S := fun w' => w'.cell? ⟨gb398, 0, none⟩ = some (.int .i64 t390) ∧ w'.cell? ⟨gb398, 1, none⟩ = some (.slice (some ⟨go39, 0, none⟩) t391.length co50) ∧ w'.cell? ⟨gb398, 2, none⟩ = some (.slice Ao51 t394.length co51)) (ds := []) (bb_ 6 0) (by kernel_rfl) rfl rfl ⟨(blk_cell BK398.out 0).trans rfl, (blk_cell BK398.out 1).trans rfl, (blk_cell BK398.out 2).trans rfl⟩ (fun hHeld => ?_)
  generalize w62.drew = w63 at HO393 HO396 HO413 BK377 BK398 HI0 HK HB hHeld ⊢
  refine pB_ 0 59 (bb_ 6 1) ?_
  refine pB_ 1 60 (bb_ 6 3) ?_
  refine pB_ 3 2 (bb_ 6 11) ?_
  refine pB_ 4 3 (bb_ 6 27) ?_
  refine tS_ 2 61 (bb_ 6 31) (by kernel_rfl) hHeld ?_
  refine one_ (i := 5) (N := none) (bb_ 6 63) rfl rfl (by kernel_rfl) (by decide) (fun K hK => ?_)
  have hs64 : w63.cell? ⟨gb377, 0, none⟩ = some (.int .i64 0) := (blk_cell BK377.out 0).trans rfl
  have hfs64 := blk_frozen BK377.out 0
  have hns64_1 := NB398_377.out
  have hms64_1 := NB377_398.out
  have hs65 : w63.cell? ⟨gb377, 1, none⟩ = some (.slice none 0 0) := (blk_cell BK377.out 1).trans rfl
  have hfs65 := blk_frozen BK377.out 1
  have hns65_1 := NB398_377.out
  have hms65_1 := NB377_398.out
  have hs66 : w63.cell? ⟨gb377, 2, none⟩ = some (.slice none 0 0) := (blk_cell BK377.out 2).trans rfl
  have hfs66 := blk_frozen BK377.out 2
  have hns66_1 := NB398_377.out
  have hms66_1 := NB377_398.out
  refine skip_ (w1 := ?_) (by rfl) rfl ?_ ?_
  rotate_left
  ·go_simp
   rfl
  refine hK.out _ _ ⟨((cell_far (p := ⟨gb377, _, none⟩) NB398_377.out _).trans (((cell_far (p := ⟨gb377, _, none⟩) NB398_377.out _).trans (((cell_far (p := ⟨gb377, _, none⟩) NB398_377.out _).trans (hHeld.1)))))), ((cell_far (p := ⟨gb377, _, none⟩) NB398_377.out _).trans (((cell_far (p := ⟨gb377, _, none⟩) NB398_377.out _).trans (((cell_far (p := ⟨gb377, _, none⟩) NB398_377.out _).trans (hHeld.2.1)))))), ((cell_far (p := ⟨gb377, _, none⟩) NB398_377.out _).trans (((cell_far (p := ⟨gb377, _, none⟩) NB398_377.out _).trans (((cell_far (p := ⟨gb377, _, none⟩) NB398_377.out _).trans (hHeld.2.2))))))⟩ (fun hHeld => ?_)
  clear hK K
  refine done_ (by kernel_rfl) ?_
  try go_wp2
  refine bodyPost_ret (results_list (rs := [.tmp 2, .tmp 3, .cell 4 37]) rfl (by simp) (.tmp (.tmp (.cell gb377 37 #[.int .i64 t390, .slice (some ⟨go39, 0, none⟩) t391.length co50, .slice Ao51 t394.length co51] (0, 0) _ rfl (by refine kK_ ?_; refine blk_put (cs := #[.int .i64 t390, .slice (some ⟨go39, 0, none⟩) t391.length co50, .slice none 0 0]) ?_ 2 _ rfl; refine kK_ ?_; refine blk_put (cs := #[.int .i64 t390, .slice none 0 0, .slice none 0 0]) ?_ 1 _ rfl; refine kK_ ?_; refine blk_put (cs := #[.int .i64 0, .slice none 0 0, .slice none 0 0]) ?_ 0 _ rfl; exact rK_ BK377.out) Try.underlying37 rfl (by kernel_rfl) .nil)))) rfl ?_
  exact ⟨_, _, by first | rfl | (simp [errW_none, errW_some] <;> rfl) | (simp [*, errW_none, errW_some] <;> rfl), by refine kR_ ?_; exact Kd.R_mono (Kd.R_far (Kd.R_far (Kd.R_far (Kd.R_types HO393.out BK377.out (by decide)) (fun _ hk => hk.2) _) (fun _ hk => hk.2) _) (fun _ hk => hk.2) _) (fun _ hk => hk.1), Kd.Q_of_R (by refine kR_ ?_; exact Kd.R_mono (Kd.R_far (Kd.R_far (Kd.R_far (Kd.R_types HO396.out BK377.out (by decide)) (fun _ hk => hk.2) _) (fun _ hk => hk.2) _) (fun _ hk => hk.2) _) (fun _ hk => hk.1)), (u8_ NB0_377.out NB0_398.out), (u9_ (IsS86.ge HI0.out) GE377.out GE398.out), (u10_ GW377.out GW398.out)⟩
 rw [if_neg c33] at H
 have c33b0 : (t399 == 1) = false := beq_eq_false_iff_ne.mpr c33
 have c33b1 : (t399 != 1) = true := bne_iff_ne.mpr c33
 by_cases c67 : t399 = 2
 rotate_left
 ·rw [if_neg c67] at H
  have c67b0 : (t399 == 2) = false := beq_eq_false_iff_ne.mpr c67
  have c67b1 : (t399 != 2) = true := bne_iff_ne.mpr c67
  by_cases c97 : t399 = 3
  rotate_left
  ·rw [if_neg c97] at H
   have c97b0 : (t399 == 3) = false := beq_eq_false_iff_ne.mpr c97
   have c97b1 : (t399 != 3) = true := bne_iff_ne.mpr c97
   simp only [Option.some.injEq, Prod.mk.injEq] at H
   obtain ⟨rfl, rfl, rfl, rfl, rfl, rfl, rfl⟩ := H
   go_enter Try.func82, Try.ntmps82
   try go_wp2_with (first | ((with_reducible refine gate_dst (N := 4) rfl ?_); refine box_event ?hg (N := 4) ?hd (cs := #[.int .i64 0, .slice none 0 0, .slice none 0 0]) (t := 37) ?hr ?_; (case hd => rfl); (case hg => rfl); (case hr => first | (go_simp; done) | (go_simp; rfl)); intro gb377 hg w119 hbox hb; have n_ := b_ (IsS86.below ((u5_)) hb) <| b_ (KeepBut.trans ((u3_)) (KeepBut.of_below hb g none) (.inl rfl)) <| b_ (below_step ((u2_ (IsS86.ge HI0.out))) hb) <| b_ (hbox) <| b_ (by rw [hg]; exact (keep_size (w := w) (g := g) (row := none) ((u3_))) : w.heap.size ≤ gb377) <| b_ (Nat.le_trans HW0.out (by rw [hg]; exact (keep_size (w := w) (g := g) (row := none) ((u3_))) : w.heap.size ≤ gb377) : w0.heap.size ≤ gb377) <| b_ (by rw [hg]; exact Nat.ne_of_lt (IsS86.lt (show IsS86 w0 _ g s0_0 s0_1 s0_2 from (u5_))) : g ≠ gb377) <| c_ (by rw [hg]; exact Nat.ne_of_gt (IsS86.lt (show IsS86 w0 _ g s0_0 s0_1 s0_2 from (u5_))) : gb377 ≠ g); clear HI0 HK HB; obtain ⟨HI0, HK, HB, BK377, GW377, GE377, NB0_377, NB377_0⟩ := n_; clear hb hbox hg) | ((with_reducible refine gate_callee (f := 80) rfl ?_); refine goesL_ (some 10) rfl rfl Try.func80 (by kernel_rfl) rfl #[.pointer (some ⟨g, 0, none⟩)] rfl aM_ ?_; (with_reducible refine (spec_l16Seed.calls g s0_0 s0_1 s0_2 t378 t379 t380 w0 _ ?side1 ?side2 A2.out).mono ?_); (case side1 => exact u6_ NB0_377.out); (case side2 => exact u4_ (IsS86.ge HI0.out) GE377.out); rintro e w120 ⟨rfl, hi, hb, hk⟩; refine ⟨_, rfl, ?_⟩; have n_ := b_ (KeepBut.blk hk (g' := gb377) (o := .cells #[.int .i64 0, .slice none 0 0, .slice none 0 0] 37 (0, 0)) (rK_ BK377.out) NB377_0.out (by simp)) <| b_ (KeepBut.trans ((u7_ GW377.out)) hk (.inl rfl)) <| b_ (hb) <| c_ (hi); clear BK377 HK HB HI0; obtain ⟨BK377, HK, HB, HI0⟩ := n_; (try clear hi)) | ((with_reducible refine gate_callee (f := 77) rfl ?_); refine goesL_ (some 13) rfl rfl Try.func77 (by kernel_rfl) rfl #[.pointer (some ⟨g, 0, none⟩), .int .i64 4] rfl aM_ ?_; (with_reducible refine (spec_l01Below.calls g s0_0 t379 t380 4 t381 t382 t383 w0 _ ?side1 ?side2 A3.out).mono ?_); (case side1 => exact u6_ NB0_377.out); (case side2 => exact u4_ (IsS86.ge HI0.out) GE377.out); rintro e w121 ⟨rfl, hi, hb, hk⟩; refine ⟨_, rfl, ?_⟩; have n_ := b_ (KeepBut.blk hk (g' := gb377) (o := .cells #[.int .i64 0, .slice none 0 0, .slice none 0 0] 37 (0, 0)) (rK_ BK377.out) NB377_0.out (by simp)) <| b_ (KeepBut.trans ((u7_ GW377.out)) hk (.inl rfl)) <| b_ (hb) <| c_ (hi); clear BK377 HK HB HI0; obtain ⟨BK377, HK, HB, HI0⟩ := n_; (try clear hi)) | ((with_reducible refine gate_callee (f := 76) rfl ?_); refine goesL_ (some 14) rfl rfl Try.func76 (by kernel_rfl) rfl #[.pointer (some ⟨g, 0, none⟩), .int .i64 t381] rfl aM_ ?_; (with_reducible refine (spec_l01Text.calls k g s0_0 t382 t383 t381 t384 t385 t386 w0 _ ?side1 ?side2 A4.out).mono ?_); (case side1 => exact u6_ NB0_377.out); (case side2 => exact u4_ (IsS86.ge HI0.out) GE377.out); rintro e w122 ⟨rfl, hi, hb, hk⟩; refine ⟨_, rfl, ?_⟩; have n_ := b_ (KeepBut.blk hk (g' := gb377) (o := .cells #[.int .i64 0, .slice none 0 0, .slice none 0 0] 37 (0, 0)) (rK_ BK377.out) NB377_0.out (by simp)) <| b_ (KeepBut.trans ((u7_ GW377.out)) hk (.inl rfl)) <| b_ (hb) <| c_ (hi); clear BK377 HK HB HI0; obtain ⟨BK377, HK, HB, HI0⟩ := n_; (try clear hi)) | ((with_reducible refine gate_callee (f := 77) rfl ?_); refine goesL_ (some 18) rfl rfl Try.func77 (by kernel_rfl) rfl #[.pointer (some ⟨g, 0, none⟩), .int .i64 4] rfl aM_ ?_; (with_reducible refine (spec_l01Below.calls g s0_0 t385 t386 4 t387 t388 t389 w0 _ ?side1 ?side2 A5.out).mono ?_); (case side1 => exact u6_ NB0_377.out); (case side2 => exact u4_ (IsS86.ge HI0.out) GE377.out); rintro e w123 ⟨rfl, hi, hb, hk⟩; refine ⟨_, rfl, ?_⟩; have n_ := b_ (KeepBut.blk hk (g' := gb377) (o := .cells #[.int .i64 0, .slice none 0 0, .slice none 0 0] 37 (0, 0)) (rK_ BK377.out) NB377_0.out (by simp)) <| b_ (KeepBut.trans ((u7_ GW377.out)) hk (.inl rfl)) <| b_ (hb) <| c_ (hi); clear BK377 HK HB HI0; obtain ⟨BK377, HK, HB, HI0⟩ := n_; (try clear hi)) | ((with_reducible refine gate_callee (f := 113) rfl ?_); refine goesL_ (some 20) rfl rfl Try.func113 (by kernel_rfl) rfl #[.string t378, .int .i64 t387, .string t384] rfl aM_ ?_; (with_reducible refine (spec_SignAt.calls k t378 t387 t384 t390 t391 t394 t397 _ A6.out).mono ?_); rintro e w124 ⟨v392, v395, rfl, ho0, ho1, hb⟩; refine ⟨_, rfl, ?_⟩; have n_ := b_ (Kd.R_lower ho0 (keep_size (w := w) (g := g) (row := none) ((u7_ GW377.out)))) <| b_ (Kd.R_lower ho1 (keep_size (w := w) (g := g) (row := none) ((u7_ GW377.out)))) <| b_ (IsS86.below ((u6_ NB0_377.out)) hb) <| b_ (blk_below (g := gb377) (o := .cells #[.int .i64 0, .slice none 0 0, .slice none 0 0] 37 (0, 0)) (rK_ BK377.out) hb) <| b_ (KeepBut.trans ((u7_ GW377.out)) (KeepBut.of_below hb g none) (.inl rfl)) <| c_ (below_step ((u4_ (IsS86.ge HI0.out) GE377.out)) hb); clear HI0 BK377 HK HB; obtain ⟨HO393, HO396, HI0, BK377, HK, HB⟩ := n_; (try clear ho1)) | ((with_reducible refine gate_dst (N := 7) rfl ?_); refine box_event ?hg (N := 7) ?hd (cs := #[.int .i64 0, .slice none 0 0, .slice none 0 0]) (t := 37) ?hr ?_; (case hd => rfl); (case hg => rfl); (case hr => first | (go_simp; done) | (go_simp; rfl)); intro gb398 hg w125 hbox hb; have n_ := b_ (Kd.R_below (rR_ HO393.out) hb) <| b_ (Kd.R_below (rR_ HO396.out) hb) <| b_ (IsS86.below ((u6_ NB0_377.out)) hb) <| b_ (blk_below (g := gb377) (o := .cells #[.int .i64 0, .slice none 0 0, .slice none 0 0] 37 (0, 0)) (rK_ BK377.out) hb) <| b_ (KeepBut.trans ((u7_ GW377.out)) (KeepBut.of_below hb g none) (.inl rfl)) <| b_ (below_step ((u4_ (IsS86.ge HI0.out) GE377.out)) hb) <| b_ (hbox) <| b_ (by rw [hg]; exact (keep_size (w := w) (g := g) (row := none) ((u7_ GW377.out))) : w.heap.size ≤ gb398) <| b_ (Nat.le_trans HW0.out (by rw [hg]; exact (keep_size (w := w) (g := g) (row := none) ((u7_ GW377.out))) : w.heap.size ≤ gb398) : w0.heap.size ≤ gb398) <| b_ (by rw [hg]; exact Nat.ne_of_lt (blk_lt (g := gb377) (o := .cells #[.int .i64 0, .slice none 0 0, .slice none 0 0] 37 (0, 0)) (rK_ BK377.out)) : gb377 ≠ gb398) <| b_ (by rw [hg]; exact Nat.ne_of_gt (blk_lt (g := gb377) (o := .cells #[.int .i64 0, .slice none 0 0, .slice none 0 0] 37 (0, 0)) (rK_ BK377.out)) : gb398 ≠ gb377) <| b_ (by rw [hg]; exact Nat.ne_of_lt (IsS86.lt (show IsS86 w0 _ g s0_0 t388 t389 from (u6_ NB0_377.out))) : g ≠ gb398) <| c_ (by rw [hg]; exact Nat.ne_of_gt (IsS86.lt (show IsS86 w0 _ g s0_0 t388 t389 from (u6_ NB0_377.out))) : gb398 ≠ g); clear HO393 HO396 HI0 BK377 HK HB; obtain ⟨HO393, HO396, HI0, BK377, HK, HB, BK398, GW398, GE398, NB377_398, NB398_377, NB0_398, NB398_0⟩ := n_; clear hb hbox hg; have hnb126 := NB398_377.out; have hnc126 := NB377_398.out; have hnb127 := NB398_0.out; have hnc127 := NB0_398.out; have hcz128_0 : w125.cell? ⟨gb398, 0, none⟩ = some (.int .i64 0) := (blk_cell BK398.out 0).trans rfl; have hcz128_1 : w125.cell? ⟨gb398, 1, none⟩ = some (.slice none 0 0) := (blk_cell BK398.out 1).trans rfl; have hcz128_2 : w125.cell? ⟨gb398, 2, none⟩ = some (.slice none 0 0) := (blk_cell BK398.out 2).trans rfl; have hfz128_0 := blk_frozen BK398.out 0; have hfz128_1 := blk_frozen BK398.out 1; have hfz128_2 := blk_frozen BK398.out 2; obtain ⟨Ao129, co129, eo129⟩ := Kd.R_slice HO393.out; subst eo129; obtain ⟨Ao130, co130, eo130⟩ := Kd.R_slice HO396.out; subst eo130) | ((with_reducible refine gate_callee (f := 77) rfl ?_); refine goesL_ (some 24) rfl rfl Try.func77 (by kernel_rfl) rfl #[.pointer (some ⟨g, 0, none⟩), .int .i64 12] rfl aM_ ?_; (with_reducible refine (spec_l01Below.calls g s0_0 t388 t389 12 t399 t400 t401 w0 _ ?side1 ?side2 A7.out).mono ?_); (case side1 => exact u8_ NB0_377.out NB0_398.out); (case side2 => exact u9_ (IsS86.ge HI0.out) GE377.out GE398.out); rintro e w131 ⟨rfl, hi, hb, hk⟩; refine ⟨_, rfl, ?_⟩; have n_ := b_ (KeepBut.blk hk (g' := gb377) (o := .cells #[.int .i64 0, .slice none 0 0, .slice none 0 0] 37 (0, 0)) (by refine kK_ ?_; refine blk_far ?_ NB377_398.out _; refine kK_ ?_; refine blk_far ?_ NB377_398.out _; refine kK_ ?_; refine blk_far ?_ NB377_398.out _; exact rK_ BK377.out) NB377_0.out (by simp)) <| b_ (Kd.R_mono (Kd.R_keep (IsS86.apart (show IsS86 w0 _ g s0_0 t388 t389 from (u8_ NB0_377.out NB0_398.out)) (by refine kR_ ?_; exact (Kd.R_mono (Kd.R_far (Kd.R_far (Kd.R_far (Kd.R_types HO393.out BK398.out (by decide)) (fun _ hk => hk.2) _) (fun _ hk => hk.2) _) (fun _ hk => hk.2) _) (fun _ h_ => h_.1))) (by decide)) hk (fun _ h => h.2)) (fun _ h => h.1)) <| b_ (Kd.R_mono (Kd.R_keep (IsS86.apart (show IsS86 w0 _ g s0_0 t388 t389 from (u8_ NB0_377.out NB0_398.out)) (by refine kR_ ?_; exact (Kd.R_mono (Kd.R_far (Kd.R_far (Kd.R_far (Kd.R_types HO396.out BK398.out (by decide)) (fun _ hk => hk.2) _) (fun _ hk => hk.2) _) (fun _ hk => hk.2) _) (fun _ h_ => h_.1))) (by decide)) hk (fun _ h => h.2)) (fun _ h => h.1)) <| b_ (KeepBut.blk hk (g' := gb398) (o := .cells #[.int .i64 t390, .slice Ao129 t391.length co129, .slice Ao130 t394.length co130] 37 (0, 0)) (by refine kK_ ?_; refine blk_put (cs := #[.int .i64 t390, .slice Ao129 t391.length co129, .slice none 0 0]) ?_ 2 _ rfl; refine kK_ ?_; refine blk_put (cs := #[.int .i64 t390, .slice none 0 0, .slice none 0 0]) ?_ 1 _ rfl; refine kK_ ?_; refine blk_put (cs := #[.int .i64 0, .slice none 0 0, .slice none 0 0]) ?_ 0 _ rfl; exact rK_ BK398.out) NB398_0.out (by simp)) <| b_ (KeepBut.trans ((u10_ GW377.out GW398.out)) hk (.inl rfl)) <| b_ (hb) <| c_ (hi); clear BK377 HO393 HO396 BK398 HK HB HI0; obtain ⟨BK377, HO393, HO396, BK398, HK, HB, HI0⟩ := n_; (try clear hi)))
   have n_ := b_ (Kd.R_drew HO393.out) <| b_ (Kd.R_drew HO396.out) <| b_ (blk_drew BK377.out) <| b_ (blk_drew BK398.out) <| b_ (IsS86.drew HI0.out) <| b_ (keep_drew HK.out) <| c_ (below_drew1 HB.out)
   clear HO393 HO396 BK377 BK398 HI0 HK HB
   obtain ⟨HO393, HO396, BK377, BK398, HI0, HK, HB⟩ := n_
   refine start_ (n := 6) (S := fun w' => w'.cell? ⟨gb398, 0, none⟩ = some (.int .i64 t390) ∧ w'.cell? ⟨gb398, 1, none⟩ = some (.slice Ao129 t391.length co129) ∧ w'.cell? ⟨gb398, 2, none⟩ = some (.slice Ao130 t394.length co130)) (ds := []) (bb_ 6 0) (by kernel_rfl) rfl rfl ⟨(blk_cell BK398.out 0).trans rfl, (blk_cell BK398.out 1).trans rfl, (blk_cell BK398.out 2).trans rfl⟩ (fun hHeld => ?_)
   generalize w131.drew = w132 at HO393 HO396 BK377 BK398 HI0 HK HB hHeld ⊢
   refine pB_ 0 59 (bb_ 6 1) ?_
   refine pB_ 1 60 (bb_ 6 3) ?_
   refine pB_ 3 2 (bb_ 6 11) ?_
   refine pB_ 4 3 (bb_ 6 27) ?_
   refine tS_ 2 61 (bb_ 6 31) (by kernel_rfl) hHeld ?_
   refine one_ (i := 5) (N := none) (bb_ 6 63) rfl rfl (by kernel_rfl) (by decide) (fun K hK => ?_)
   have hs133 : w132.cell? ⟨gb377, 0, none⟩ = some (.int .i64 0) := (blk_cell BK377.out 0).trans rfl
   have hfs133 := blk_frozen BK377.out 0
   have hns133_1 := NB398_377.out
   have hms133_1 := NB377_398.out
   have hs134 : w132.cell? ⟨gb377, 1, none⟩ = some (.slice none 0 0) := (blk_cell BK377.out 1).trans rfl
   have hfs134 := blk_frozen BK377.out 1
   have hns134_1 := NB398_377.out
   have hms134_1 := NB377_398.out
   have hs135 : w132.cell? ⟨gb377, 2, none⟩ = some (.slice none 0 0) := (blk_cell BK377.out 2).trans rfl
   have hfs135 := blk_frozen BK377.out 2
   have hns135_1 := NB398_377.out
   have hms135_1 := NB377_398.out
   refine skip_ (w1 := ?_) (by rfl) rfl ?_ ?_
   rotate_left
   ·go_simp
    rfl
   refine hK.out _ _ ⟨((cell_far (p := ⟨gb377, _, none⟩) NB398_377.out _).trans (((cell_far (p := ⟨gb377, _, none⟩) NB398_377.out _).trans (((cell_far (p := ⟨gb377, _, none⟩) NB398_377.out _).trans (hHeld.1)))))), ((cell_far (p := ⟨gb377, _, none⟩) NB398_377.out _).trans (((cell_far (p := ⟨gb377, _, none⟩) NB398_377.out _).trans (((cell_far (p := ⟨gb377, _, none⟩) NB398_377.out _).trans (hHeld.2.1)))))), ((cell_far (p := ⟨gb377, _, none⟩) NB398_377.out _).trans (((cell_far (p := ⟨gb377, _, none⟩) NB398_377.out _).trans (((cell_far (p := ⟨gb377, _, none⟩) NB398_377.out _).trans (hHeld.2.2))))))⟩ (fun hHeld => ?_)
   clear hK K
   refine done_ (by kernel_rfl) ?_
   try go_wp2
   refine bodyPost_ret (results_list (rs := [.tmp 2, .tmp 3, .cell 4 37]) rfl (by simp) (.tmp (.tmp (.cell gb377 37 #[.int .i64 t390, .slice Ao129 t391.length co129, .slice Ao130 t394.length co130] (0, 0) _ rfl (by refine kK_ ?_; refine blk_put (cs := #[.int .i64 t390, .slice Ao129 t391.length co129, .slice none 0 0]) ?_ 2 _ rfl; refine kK_ ?_; refine blk_put (cs := #[.int .i64 t390, .slice none 0 0, .slice none 0 0]) ?_ 1 _ rfl; refine kK_ ?_; refine blk_put (cs := #[.int .i64 0, .slice none 0 0, .slice none 0 0]) ?_ 0 _ rfl; exact rK_ BK377.out) Try.underlying37 rfl (by kernel_rfl) .nil)))) rfl ?_
   exact ⟨_, _, by first | rfl | (simp [errW_none, errW_some] <;> rfl) | (simp [*, errW_none, errW_some] <;> rfl), by refine kR_ ?_; exact Kd.R_mono (Kd.R_far (Kd.R_far (Kd.R_far (Kd.R_types HO393.out BK377.out (by decide)) (fun _ hk => hk.2) _) (fun _ hk => hk.2) _) (fun _ hk => hk.2) _) (fun _ hk => hk.1), Kd.Q_of_R (by refine kR_ ?_; exact Kd.R_mono (Kd.R_far (Kd.R_far (Kd.R_far (Kd.R_types HO396.out BK377.out (by decide)) (fun _ hk => hk.2) _) (fun _ hk => hk.2) _) (fun _ hk => hk.2) _) (fun _ hk => hk.1)), (u8_ NB0_377.out NB0_398.out), (u9_ (IsS86.ge HI0.out) GE377.out GE398.out), (u10_ GW377.out GW398.out)⟩
  rw [if_pos c97] at H
  have c97b0 : (t399 == 3) = true := beq_iff_eq.mpr c97
  have c97b1 : (t399 != 3) = false := bne_eq_false_iff_eq.mpr c97
  clear c97
  obtain ⟨c98, H⟩ := iN_ H
  have c98b0 := eq_true c98
  have c98b1 := decide_eq_true c98
  clear c98
  obtain ⟨y431, hy431⟩ : ∃ y_ : List ByteArray, y_ = (t394.drop (1 : Int).toNat) := ⟨_, rfl⟩
  first | replace H := yb_ hy431 H | rw [← hy431] at H
  have Ny431 := Aside0.mk hy431
  clear hy431
  simp only [Option.some.injEq, Prod.mk.injEq] at H
  obtain ⟨rfl, rfl, rfl, rfl, rfl, rfl, rfl⟩ := H
  go_enter Try.func82, Try.ntmps82
  try go_wp2_with (first | ((with_reducible refine gate_dst (N := 4) rfl ?_); refine box_event ?hg (N := 4) ?hd (cs := #[.int .i64 0, .slice none 0 0, .slice none 0 0]) (t := 37) ?hr ?_; (case hd => rfl); (case hg => rfl); (case hr => first | (go_simp; done) | (go_simp; rfl)); intro gb377 hg w99 hbox hb; have n_ := b_ (IsS86.below ((u5_)) hb) <| b_ (KeepBut.trans ((u3_)) (KeepBut.of_below hb g none) (.inl rfl)) <| b_ (below_step ((u2_ (IsS86.ge HI0.out))) hb) <| b_ (hbox) <| b_ (by rw [hg]; exact (keep_size (w := w) (g := g) (row := none) ((u3_))) : w.heap.size ≤ gb377) <| b_ (Nat.le_trans HW0.out (by rw [hg]; exact (keep_size (w := w) (g := g) (row := none) ((u3_))) : w.heap.size ≤ gb377) : w0.heap.size ≤ gb377) <| b_ (by rw [hg]; exact Nat.ne_of_lt (IsS86.lt (show IsS86 w0 _ g s0_0 s0_1 s0_2 from (u5_))) : g ≠ gb377) <| c_ (by rw [hg]; exact Nat.ne_of_gt (IsS86.lt (show IsS86 w0 _ g s0_0 s0_1 s0_2 from (u5_))) : gb377 ≠ g); clear HI0 HK HB; obtain ⟨HI0, HK, HB, BK377, GW377, GE377, NB0_377, NB377_0⟩ := n_; clear hb hbox hg) | ((with_reducible refine gate_callee (f := 80) rfl ?_); refine goesL_ (some 10) rfl rfl Try.func80 (by kernel_rfl) rfl #[.pointer (some ⟨g, 0, none⟩)] rfl aM_ ?_; (with_reducible refine (spec_l16Seed.calls g s0_0 s0_1 s0_2 t378 t379 t380 w0 _ ?side1 ?side2 A2.out).mono ?_); (case side1 => exact u6_ NB0_377.out); (case side2 => exact u4_ (IsS86.ge HI0.out) GE377.out); rintro e w100 ⟨rfl, hi, hb, hk⟩; refine ⟨_, rfl, ?_⟩; have n_ := b_ (KeepBut.blk hk (g' := gb377) (o := .cells #[.int .i64 0, .slice none 0 0, .slice none 0 0] 37 (0, 0)) (rK_ BK377.out) NB377_0.out (by simp)) <| b_ (KeepBut.trans ((u7_ GW377.out)) hk (.inl rfl)) <| b_ (hb) <| c_ (hi); clear BK377 HK HB HI0; obtain ⟨BK377, HK, HB, HI0⟩ := n_; (try clear hi)) | ((with_reducible refine gate_callee (f := 77) rfl ?_); refine goesL_ (some 13) rfl rfl Try.func77 (by kernel_rfl) rfl #[.pointer (some ⟨g, 0, none⟩), .int .i64 4] rfl aM_ ?_; (with_reducible refine (spec_l01Below.calls g s0_0 t379 t380 4 t381 t382 t383 w0 _ ?side1 ?side2 A3.out).mono ?_); (case side1 => exact u6_ NB0_377.out); (case side2 => exact u4_ (IsS86.ge HI0.out) GE377.out); rintro e w101 ⟨rfl, hi, hb, hk⟩; refine ⟨_, rfl, ?_⟩; have n_ := b_ (KeepBut.blk hk (g' := gb377) (o := .cells #[.int .i64 0, .slice none 0 0, .slice none 0 0] 37 (0, 0)) (rK_ BK377.out) NB377_0.out (by simp)) <| b_ (KeepBut.trans ((u7_ GW377.out)) hk (.inl rfl)) <| b_ (hb) <| c_ (hi); clear BK377 HK HB HI0; obtain ⟨BK377, HK, HB, HI0⟩ := n_; (try clear hi)) | ((with_reducible refine gate_callee (f := 76) rfl ?_); refine goesL_ (some 14) rfl rfl Try.func76 (by kernel_rfl) rfl #[.pointer (some ⟨g, 0, none⟩), .int .i64 t381] rfl aM_ ?_; (with_reducible refine (spec_l01Text.calls k g s0_0 t382 t383 t381 t384 t385 t386 w0 _ ?side1 ?side2 A4.out).mono ?_); (case side1 => exact u6_ NB0_377.out); (case side2 => exact u4_ (IsS86.ge HI0.out) GE377.out); rintro e w102 ⟨rfl, hi, hb, hk⟩; refine ⟨_, rfl, ?_⟩; have n_ := b_ (KeepBut.blk hk (g' := gb377) (o := .cells #[.int .i64 0, .slice none 0 0, .slice none 0 0] 37 (0, 0)) (rK_ BK377.out) NB377_0.out (by simp)) <| b_ (KeepBut.trans ((u7_ GW377.out)) hk (.inl rfl)) <| b_ (hb) <| c_ (hi); clear BK377 HK HB HI0; obtain ⟨BK377, HK, HB, HI0⟩ := n_; (try clear hi)) | ((with_reducible refine gate_callee (f := 77) rfl ?_); refine goesL_ (some 18) rfl rfl Try.func77 (by kernel_rfl) rfl #[.pointer (some ⟨g, 0, none⟩), .int .i64 4] rfl aM_ ?_; (with_reducible refine (spec_l01Below.calls g s0_0 t385 t386 4 t387 t388 t389 w0 _ ?side1 ?side2 A5.out).mono ?_); (case side1 => exact u6_ NB0_377.out); (case side2 => exact u4_ (IsS86.ge HI0.out) GE377.out); rintro e w103 ⟨rfl, hi, hb, hk⟩; refine ⟨_, rfl, ?_⟩; have n_ := b_ (KeepBut.blk hk (g' := gb377) (o := .cells #[.int .i64 0, .slice none 0 0, .slice none 0 0] 37 (0, 0)) (rK_ BK377.out) NB377_0.out (by simp)) <| b_ (KeepBut.trans ((u7_ GW377.out)) hk (.inl rfl)) <| b_ (hb) <| c_ (hi); clear BK377 HK HB HI0; obtain ⟨BK377, HK, HB, HI0⟩ := n_; (try clear hi)) | ((with_reducible refine gate_callee (f := 113) rfl ?_); refine goesL_ (some 20) rfl rfl Try.func113 (by kernel_rfl) rfl #[.string t378, .int .i64 t387, .string t384] rfl aM_ ?_; (with_reducible refine (spec_SignAt.calls k t378 t387 t384 t390 t391 t394 t397 _ A6.out).mono ?_); rintro e w104 ⟨v392, v395, rfl, ho0, ho1, hb⟩; refine ⟨_, rfl, ?_⟩; have n_ := b_ (Kd.R_lower ho0 (keep_size (w := w) (g := g) (row := none) ((u7_ GW377.out)))) <| b_ (Kd.R_lower ho1 (keep_size (w := w) (g := g) (row := none) ((u7_ GW377.out)))) <| b_ (IsS86.below ((u6_ NB0_377.out)) hb) <| b_ (blk_below (g := gb377) (o := .cells #[.int .i64 0, .slice none 0 0, .slice none 0 0] 37 (0, 0)) (rK_ BK377.out) hb) <| b_ (KeepBut.trans ((u7_ GW377.out)) (KeepBut.of_below hb g none) (.inl rfl)) <| c_ (below_step ((u4_ (IsS86.ge HI0.out) GE377.out)) hb); clear HI0 BK377 HK HB; obtain ⟨HO393, HO396, HI0, BK377, HK, HB⟩ := n_; (try clear ho1)) | ((with_reducible refine gate_dst (N := 7) rfl ?_); refine box_event ?hg (N := 7) ?hd (cs := #[.int .i64 0, .slice none 0 0, .slice none 0 0]) (t := 37) ?hr ?_; (case hd => rfl); (case hg => rfl); (case hr => first | (go_simp; done) | (go_simp; rfl)); intro gb398 hg w105 hbox hb; have n_ := b_ (Kd.R_below (rR_ HO393.out) hb) <| b_ (Kd.R_below (rR_ HO396.out) hb) <| b_ (IsS86.below ((u6_ NB0_377.out)) hb) <| b_ (blk_below (g := gb377) (o := .cells #[.int .i64 0, .slice none 0 0, .slice none 0 0] 37 (0, 0)) (rK_ BK377.out) hb) <| b_ (KeepBut.trans ((u7_ GW377.out)) (KeepBut.of_below hb g none) (.inl rfl)) <| b_ (below_step ((u4_ (IsS86.ge HI0.out) GE377.out)) hb) <| b_ (hbox) <| b_ (by rw [hg]; exact (keep_size (w := w) (g := g) (row := none) ((u7_ GW377.out))) : w.heap.size ≤ gb398) <| b_ (Nat.le_trans HW0.out (by rw [hg]; exact (keep_size (w := w) (g := g) (row := none) ((u7_ GW377.out))) : w.heap.size ≤ gb398) : w0.heap.size ≤ gb398) <| b_ (by rw [hg]; exact Nat.ne_of_lt (blk_lt (g := gb377) (o := .cells #[.int .i64 0, .slice none 0 0, .slice none 0 0] 37 (0, 0)) (rK_ BK377.out)) : gb377 ≠ gb398) <| b_ (by rw [hg]; exact Nat.ne_of_gt (blk_lt (g := gb377) (o := .cells #[.int .i64 0, .slice none 0 0, .slice none 0 0] 37 (0, 0)) (rK_ BK377.out)) : gb398 ≠ gb377) <| b_ (by rw [hg]; exact Nat.ne_of_lt (IsS86.lt (show IsS86 w0 _ g s0_0 t388 t389 from (u6_ NB0_377.out))) : g ≠ gb398) <| c_ (by rw [hg]; exact Nat.ne_of_gt (IsS86.lt (show IsS86 w0 _ g s0_0 t388 t389 from (u6_ NB0_377.out))) : gb398 ≠ g); clear HO393 HO396 HI0 BK377 HK HB; obtain ⟨HO393, HO396, HI0, BK377, HK, HB, BK398, GW398, GE398, NB377_398, NB398_377, NB0_398, NB398_0⟩ := n_; clear hb hbox hg; have hnb106 := NB398_377.out; have hnc106 := NB377_398.out; have hnb107 := NB398_0.out; have hnc107 := NB0_398.out; have hcz108_0 : w105.cell? ⟨gb398, 0, none⟩ = some (.int .i64 0) := (blk_cell BK398.out 0).trans rfl; have hcz108_1 : w105.cell? ⟨gb398, 1, none⟩ = some (.slice none 0 0) := (blk_cell BK398.out 1).trans rfl; have hcz108_2 : w105.cell? ⟨gb398, 2, none⟩ = some (.slice none 0 0) := (blk_cell BK398.out 2).trans rfl; have hfz108_0 := blk_frozen BK398.out 0; have hfz108_1 := blk_frozen BK398.out 1; have hfz108_2 := blk_frozen BK398.out 2; obtain ⟨Ao109, co109, eo109⟩ := Kd.R_slice HO393.out; subst eo109; obtain ⟨Ao110, co110, eo110⟩ := Kd.R_slice HO396.out; subst eo110) | ((with_reducible refine gate_callee (f := 77) rfl ?_); refine goesL_ (some 24) rfl rfl Try.func77 (by kernel_rfl) rfl #[.pointer (some ⟨g, 0, none⟩), .int .i64 12] rfl aM_ ?_; (with_reducible refine (spec_l01Below.calls g s0_0 t388 t389 12 t399 t400 t401 w0 _ ?side1 ?side2 A7.out).mono ?_); (case side1 => exact u8_ NB0_377.out NB0_398.out); (case side2 => exact u9_ (IsS86.ge HI0.out) GE377.out GE398.out); rintro e w111 ⟨rfl, hi, hb, hk⟩; refine ⟨_, rfl, ?_⟩; have n_ := b_ (KeepBut.blk hk (g' := gb377) (o := .cells #[.int .i64 0, .slice none 0 0, .slice none 0 0] 37 (0, 0)) (by refine kK_ ?_; refine blk_far ?_ NB377_398.out _; refine kK_ ?_; refine blk_far ?_ NB377_398.out _; refine kK_ ?_; refine blk_far ?_ NB377_398.out _; exact rK_ BK377.out) NB377_0.out (by simp)) <| b_ (Kd.R_mono (Kd.R_keep (IsS86.apart (show IsS86 w0 _ g s0_0 t388 t389 from (u8_ NB0_377.out NB0_398.out)) (by refine kR_ ?_; exact (Kd.R_mono (Kd.R_far (Kd.R_far (Kd.R_far (Kd.R_types HO393.out BK398.out (by decide)) (fun _ hk => hk.2) _) (fun _ hk => hk.2) _) (fun _ hk => hk.2) _) (fun _ h_ => h_.1))) (by decide)) hk (fun _ h => h.2)) (fun _ h => h.1)) <| b_ (Kd.R_mono (Kd.R_keep (IsS86.apart (show IsS86 w0 _ g s0_0 t388 t389 from (u8_ NB0_377.out NB0_398.out)) (by refine kR_ ?_; exact (Kd.R_mono (Kd.R_far (Kd.R_far (Kd.R_far (Kd.R_types HO396.out BK398.out (by decide)) (fun _ hk => hk.2) _) (fun _ hk => hk.2) _) (fun _ hk => hk.2) _) (fun _ h_ => h_.1))) (by decide)) hk (fun _ h => h.2)) (fun _ h => h.1)) <| b_ (KeepBut.blk hk (g' := gb398) (o := .cells #[.int .i64 t390, .slice Ao109 t391.length co109, .slice Ao110 t394.length co110] 37 (0, 0)) (by refine kK_ ?_; refine blk_put (cs := #[.int .i64 t390, .slice Ao109 t391.length co109, .slice none 0 0]) ?_ 2 _ rfl; refine kK_ ?_; refine blk_put (cs := #[.int .i64 t390, .slice none 0 0, .slice none 0 0]) ?_ 1 _ rfl; refine kK_ ?_; refine blk_put (cs := #[.int .i64 0, .slice none 0 0, .slice none 0 0]) ?_ 0 _ rfl; exact rK_ BK398.out) NB398_0.out (by simp)) <| b_ (KeepBut.trans ((u10_ GW377.out GW398.out)) hk (.inl rfl)) <| b_ (hb) <| c_ (hi); clear BK377 HO393 HO396 BK398 HK HB HI0; obtain ⟨BK377, HO393, HO396, BK398, HK, HB, HI0⟩ := n_; have hcz112_0 : w111.cell? ⟨gb398, 0, none⟩ = some (.int .i64 t390) := (blk_cell BK398.out 0).trans rfl; have hcz112_1 : w111.cell? ⟨gb398, 1, none⟩ = some (.slice Ao109 t391.length co109) := (blk_cell BK398.out 1).trans rfl; have hcz112_2 : w111.cell? ⟨gb398, 2, none⟩ = some (.slice Ao110 t394.length co110) := (blk_cell BK398.out 2).trans rfl; have hfz112_0 := blk_frozen BK398.out 0; have hfz112_1 := blk_frozen BK398.out 1; have hfz112_2 := blk_frozen BK398.out 2; have q113 : (1 : Int) ≤ ((t394.length : Int) : Int) := of_decide_eq_true (by first | (with_reducible assumption) | assumption); obtain ⟨i0113, hi0113, _, hsz113, _⟩ := info_parts info9; have hcut113 := cut_from (P := Try.prog) 35 9 .i64 Try.underlying35 hi0113 1 hsz113 Ao110 t394.length co110 1 (by omega) q113; have hr113 := Kd.Q_drop (k := (1 : Int).toNat) (Kd.Q_of_R HO396.out) (by omega); obtain ⟨A113, hA113⟩ : ∃ A1, A1 = (if co110 = (1 : Int).toNat then Ao110 else (Ao110 : Option Addr).map (·.add ((1 : Int).toNat * 1))) := ⟨_, rfl⟩; obtain ⟨c113, hc113⟩ : ∃ c1, c1 = co110 - (1 : Int).toNat := ⟨_, rfl⟩; have hy113 : y431.length = t394.length - (1 : Int).toNat := (by rw [Ny431.out, List.length_drop]); rw [← Ny431.out] at hr113; rw [← hy113, ← hA113, ← hc113] at hcut113; replace hr113 : Kd.Q Kd.string 9 w111 w.heap.size (fun k_ => some k_ ≠ (.slice Ao109 t391.length co109 : Value).ownBlock) (.slice A113 y431.length c113) y431 := (by rw [hA113, hc113, hy113]; exact hr113); have HE113 : Aside0 ((Value.slice A113 y431.length c113).ownBlock = (.slice Ao110 t394.length co110 : Value).ownBlock) := ⟨by rw [hA113]; split <;> (cases (Ao110 : Option Addr) <;> rfl)⟩; clear hy113 hi0113 hsz113 HO396 hA113 hc113; have HO433 := Aside0.mk hr113; clear hr113; replace q113 := eq_true q113; have n_ := Aside0.mk (Kd.R_mono (ok' := fun k_ => some k_ ≠ (.slice A113 y431.length c113 : Value).ownBlock) HO393.out (fun k_ hk => (by rw [HE113.out]; exact hk))); clear HO393; have HO393 := n_; clear n_))
  have n_ := b_ (show Kd.R Kd.string 9 (w111.setCell ⟨gb398, 2, none⟩ (.slice A113 y431.length c113)) w.heap.size (fun k_ => some k_ ≠ (.slice A113 y431.length c113 : Value).ownBlock) (.slice Ao109 t391.length co109) t391 from by refine kR_ ?_; exact Kd.R_mono (Kd.R_far (Kd.R_types HO393.out BK398.out (by decide)) (fun _ hk => hk.2) _) (fun _ hk => hk.1)) <| b_ (show Kd.Q Kd.string 9 (w111.setCell ⟨gb398, 2, none⟩ (.slice A113 y431.length c113)) w.heap.size (fun k_ => some k_ ≠ (.slice Ao109 t391.length co109 : Value).ownBlock) (.slice A113 y431.length c113) y431 from by refine kQ_ ?_; exact Kd.Q_mono (Kd.Q_far (p := ⟨gb398, 2, none⟩) (Kd.Q_types HO433.out BK398.out (by decide)) (fun _ hk => hk.2) _) (fun _ hk => hk.1)) <| b_ (show (w111.setCell ⟨gb398, 2, none⟩ (.slice A113 y431.length c113)).heap[gb377]? = some (.cells #[.int .i64 0, .slice none 0 0, .slice none 0 0] 37 (0, 0)) from by refine kK_ ?_; refine blk_far ?_ NB377_398.out _; refine kK_ ?_; exact BK377.out) <| b_ (show (w111.setCell ⟨gb398, 2, none⟩ (.slice A113 y431.length c113)).heap[gb398]? = some (.cells #[.int .i64 t390, .slice Ao109 t391.length co109, .slice A113 y431.length c113] 37 (0, 0)) from by refine kK_ ?_; refine blk_put (cs := #[.int .i64 t390, .slice Ao109 t391.length co109, .slice Ao110 t394.length co110]) ?_ 2 _ rfl; refine kK_ ?_; exact BK398.out) <| b_ (show IsS86 w0 (w111.setCell ⟨gb398, 2, none⟩ (.slice A113 y431.length c113)) g s0_0 t400 t401 from (u8_ NB0_377.out NB0_398.out)) <| b_ (show KeepBut w (w111.setCell ⟨gb398, 2, none⟩ (.slice A113 y431.length c113)) g none from (u10_ GW377.out GW398.out)) <| c_ (show Below w0.heap.size w0 (w111.setCell ⟨gb398, 2, none⟩ (.slice A113 y431.length c113)) from (u9_ (IsS86.ge HI0.out) GE377.out GE398.out))
  clear HO393 HO433 BK377 BK398 HI0 HK HB
  generalize (w111.setCell ⟨gb398, 2, none⟩ (.slice A113 y431.length c113)) = w114 at n_ ⊢
  obtain ⟨HO393, HO433, BK377, BK398, HI0, HK, HB⟩ := n_
  have n_ := b_ (Kd.R_drew HO393.out) <| b_ (Kd.Q_drew HO433.out) <| b_ (blk_drew BK377.out) <| b_ (blk_drew BK398.out) <| b_ (IsS86.drew HI0.out) <| b_ (keep_drew HK.out) <| c_ (below_drew1 HB.out)
  clear HO393 HO433 BK377 BK398 HI0 HK HB
  obtain ⟨HO393, HO433, BK377, BK398, HI0, HK, HB⟩ := n_
  refine start_ (n := 6) (S := fun w' => w'.cell? ⟨gb398, 0, none⟩ = some (.int .i64 t390) ∧ w'.cell? ⟨gb398, 1, none⟩ = some (.slice Ao109 t391.length co109) ∧ w'.cell? ⟨gb398, 2, none⟩ = some (.slice A113 y431.length c113)) (ds := []) (bb_ 6 0) (by kernel_rfl) rfl rfl ⟨(blk_cell BK398.out 0).trans rfl, (blk_cell BK398.out 1).trans rfl, (blk_cell BK398.out 2).trans rfl⟩ (fun hHeld => ?_)
  generalize w114.drew = w115 at HO393 HO433 BK377 BK398 HI0 HK HB hHeld ⊢
  refine pB_ 0 59 (bb_ 6 1) ?_
  refine pB_ 1 60 (bb_ 6 3) ?_
  refine pB_ 3 2 (bb_ 6 11) ?_
  refine pB_ 4 3 (bb_ 6 27) ?_
  refine tS_ 2 61 (bb_ 6 31) (by kernel_rfl) hHeld ?_
  refine one_ (i := 5) (N := none) (bb_ 6 63) rfl rfl (by kernel_rfl) (by decide) (fun K hK => ?_)
  have hs116 : w115.cell? ⟨gb377, 0, none⟩ = some (.int .i64 0) := (blk_cell BK377.out 0).trans rfl
  have hfs116 := blk_frozen BK377.out 0
  have hns116_1 := NB398_377.out
  have hms116_1 := NB377_398.out
  have hs117 : w115.cell? ⟨gb377, 1, none⟩ = some (.slice none 0 0) := (blk_cell BK377.out 1).trans rfl
  have hfs117 := blk_frozen BK377.out 1
  have hns117_1 := NB398_377.out
  have hms117_1 := NB377_398.out
  have hs118 : w115.cell? ⟨gb377, 2, none⟩ = some (.slice none 0 0) := (blk_cell BK377.out 2).trans rfl
  have hfs118 := blk_frozen BK377.out 2
  have hns118_1 := NB398_377.out
  have hms118_1 := NB377_398.out
  refine skip_ (w1 := ?_) (by rfl) rfl ?_ ?_
  rotate_left
  ·go_simp
   rfl
  refine hK.out _ _ ⟨((cell_far (p := ⟨gb377, _, none⟩) NB398_377.out _).trans (((cell_far (p := ⟨gb377, _, none⟩) NB398_377.out _).trans (((cell_far (p := ⟨gb377, _, none⟩) NB398_377.out _).trans (hHeld.1)))))), ((cell_far (p := ⟨gb377, _, none⟩) NB398_377.out _).trans (((cell_far (p := ⟨gb377, _, none⟩) NB398_377.out _).trans (((cell_far (p := ⟨gb377, _, none⟩) NB398_377.out _).trans (hHeld.2.1)))))), ((cell_far (p := ⟨gb377, _, none⟩) NB398_377.out _).trans (((cell_far (p := ⟨gb377, _, none⟩) NB398_377.out _).trans (((cell_far (p := ⟨gb377, _, none⟩) NB398_377.out _).trans (hHeld.2.2))))))⟩ (fun hHeld => ?_)
  clear hK K
  refine done_ (by kernel_rfl) ?_
  try go_wp2
  refine bodyPost_ret (results_list (rs := [.tmp 2, .tmp 3, .cell 4 37]) rfl (by simp) (.tmp (.tmp (.cell gb377 37 #[.int .i64 t390, .slice Ao109 t391.length co109, .slice A113 y431.length c113] (0, 0) _ rfl (by refine kK_ ?_; refine blk_put (cs := #[.int .i64 t390, .slice Ao109 t391.length co109, .slice none 0 0]) ?_ 2 _ rfl; refine kK_ ?_; refine blk_put (cs := #[.int .i64 t390, .slice none 0 0, .slice none 0 0]) ?_ 1 _ rfl; refine kK_ ?_; refine blk_put (cs := #[.int .i64 0, .slice none 0 0, .slice none 0 0]) ?_ 0 _ rfl; exact rK_ BK377.out) Try.underlying37 rfl (by kernel_rfl) .nil)))) rfl ?_
  exact ⟨_, _, by first | rfl | (simp [errW_none, errW_some] <;> rfl) | (simp [*, errW_none, errW_some] <;> rfl), by refine kR_ ?_; exact Kd.R_mono (Kd.R_far (Kd.R_far (Kd.R_far (Kd.R_types HO393.out BK377.out (by decide)) (fun _ hk => hk.2) _) (fun _ hk => hk.2) _) (fun _ hk => hk.2) _) (fun _ hk => hk.1), by refine kQ_ ?_; exact Kd.Q_mono (Kd.Q_far (p := ⟨gb377, 2, none⟩) (Kd.Q_far (p := ⟨gb377, 1, none⟩) (Kd.Q_far (p := ⟨gb377, 0, none⟩) (Kd.Q_types HO433.out BK377.out (by decide)) (fun _ hk => hk.2) _) (fun _ hk => hk.2) _) (fun _ hk => hk.2) _) (fun _ hk => hk.1), (u8_ NB0_377.out NB0_398.out), (u9_ (IsS86.ge HI0.out) GE377.out GE398.out), (u10_ GW377.out GW398.out)⟩
 rw [if_pos c67] at H
 have c67b0 : (t399 == 2) = true := beq_iff_eq.mpr c67
 have c67b1 : (t399 != 2) = false := bne_eq_false_iff_eq.mpr c67
 clear c67
 obtain ⟨y421, hy421⟩ : ∃ y_ : List Int, y_ = (([4, 4, 5] : List Int)) := ⟨_, rfl⟩
 first | replace H := yb_ hy421 H | rw [← hy421] at H
 have Ny421 := Aside0.mk hy421
 clear hy421
 obtain ⟨⟨t424, t425, t426⟩, A68, H⟩ := bN_ H
 try dsimp only at H
 obtain ⟨⟨t427, t428, t429⟩, A69, H⟩ := bN_ H
 try dsimp only at H
 obtain ⟨c70, H⟩ := iN_ H
 have c70b0 := decide_eq_true c70
 have c70b1 : decide (0 < t394.length) = true := decide_eq_true (by omega)
 clear c70
 obtain ⟨y430, hy430⟩ : ∃ y_ : List ByteArray, y_ = (t394.set (0 : Int).toNat t427) := ⟨_, rfl⟩
 first | replace H := yb_ hy430 H | rw [← hy430] at H
 have Ny430 := Aside0.mk hy430
 clear hy430
 simp only [Option.some.injEq, Prod.mk.injEq] at H
 obtain ⟨rfl, rfl, rfl, rfl, rfl, rfl, rfl⟩ := H
 go_enter Try.func82, Try.ntmps82
 try go_wp2_with (first | ((with_reducible refine gate_dst (N := 4) rfl ?_); refine box_event ?hg (N := 4) ?hd (cs := #[.int .i64 0, .slice none 0 0, .slice none 0 0]) (t := 37) ?hr ?_; (case hd => rfl); (case hg => rfl); (case hr => first | (go_simp; done) | (go_simp; rfl)); intro gb377 hg w72 hbox hb; have n_ := b_ (IsS86.below ((u5_)) hb) <| b_ (KeepBut.trans ((u3_)) (KeepBut.of_below hb g none) (.inl rfl)) <| b_ (below_step ((u2_ (IsS86.ge HI0.out))) hb) <| b_ (hbox) <| b_ (by rw [hg]; exact (keep_size (w := w) (g := g) (row := none) ((u3_))) : w.heap.size ≤ gb377) <| b_ (Nat.le_trans HW0.out (by rw [hg]; exact (keep_size (w := w) (g := g) (row := none) ((u3_))) : w.heap.size ≤ gb377) : w0.heap.size ≤ gb377) <| b_ (by rw [hg]; exact Nat.ne_of_lt (IsS86.lt (show IsS86 w0 _ g s0_0 s0_1 s0_2 from (u5_))) : g ≠ gb377) <| c_ (by rw [hg]; exact Nat.ne_of_gt (IsS86.lt (show IsS86 w0 _ g s0_0 s0_1 s0_2 from (u5_))) : gb377 ≠ g); clear HI0 HK HB; obtain ⟨HI0, HK, HB, BK377, GW377, GE377, NB0_377, NB377_0⟩ := n_; clear hb hbox hg) | ((with_reducible refine gate_callee (f := 80) rfl ?_); refine goesL_ (some 10) rfl rfl Try.func80 (by kernel_rfl) rfl #[.pointer (some ⟨g, 0, none⟩)] rfl aM_ ?_; (with_reducible refine (spec_l16Seed.calls g s0_0 s0_1 s0_2 t378 t379 t380 w0 _ ?side1 ?side2 A2.out).mono ?_); (case side1 => exact u6_ NB0_377.out); (case side2 => exact u4_ (IsS86.ge HI0.out) GE377.out); rintro e w73 ⟨rfl, hi, hb, hk⟩; refine ⟨_, rfl, ?_⟩; have n_ := b_ (KeepBut.blk hk (g' := gb377) (o := .cells #[.int .i64 0, .slice none 0 0, .slice none 0 0] 37 (0, 0)) (rK_ BK377.out) NB377_0.out (by simp)) <| b_ (KeepBut.trans ((u7_ GW377.out)) hk (.inl rfl)) <| b_ (hb) <| c_ (hi); clear BK377 HK HB HI0; obtain ⟨BK377, HK, HB, HI0⟩ := n_; (try clear hi)) | ((with_reducible refine gate_callee (f := 77) rfl ?_); refine goesL_ (some 13) rfl rfl Try.func77 (by kernel_rfl) rfl #[.pointer (some ⟨g, 0, none⟩), .int .i64 4] rfl aM_ ?_; (with_reducible refine (spec_l01Below.calls g s0_0 t379 t380 4 t381 t382 t383 w0 _ ?side1 ?side2 A3.out).mono ?_); (case side1 => exact u6_ NB0_377.out); (case side2 => exact u4_ (IsS86.ge HI0.out) GE377.out); rintro e w74 ⟨rfl, hi, hb, hk⟩; refine ⟨_, rfl, ?_⟩; have n_ := b_ (KeepBut.blk hk (g' := gb377) (o := .cells #[.int .i64 0, .slice none 0 0, .slice none 0 0] 37 (0, 0)) (rK_ BK377.out) NB377_0.out (by simp)) <| b_ (KeepBut.trans ((u7_ GW377.out)) hk (.inl rfl)) <| b_ (hb) <| c_ (hi); clear BK377 HK HB HI0; obtain ⟨BK377, HK, HB, HI0⟩ := n_; (try clear hi)) | ((with_reducible refine gate_callee (f := 76) rfl ?_); refine goesL_ (some 14) rfl rfl Try.func76 (by kernel_rfl) rfl #[.pointer (some ⟨g, 0, none⟩), .int .i64 t381] rfl aM_ ?_; (with_reducible refine (spec_l01Text.calls k g s0_0 t382 t383 t381 t384 t385 t386 w0 _ ?side1 ?side2 A4.out).mono ?_); (case side1 => exact u6_ NB0_377.out); (case side2 => exact u4_ (IsS86.ge HI0.out) GE377.out); rintro e w75 ⟨rfl, hi, hb, hk⟩; refine ⟨_, rfl, ?_⟩; have n_ := b_ (KeepBut.blk hk (g' := gb377) (o := .cells #[.int .i64 0, .slice none 0 0, .slice none 0 0] 37 (0, 0)) (rK_ BK377.out) NB377_0.out (by simp)) <| b_ (KeepBut.trans ((u7_ GW377.out)) hk (.inl rfl)) <| b_ (hb) <| c_ (hi); clear BK377 HK HB HI0; obtain ⟨BK377, HK, HB, HI0⟩ := n_; (try clear hi)) | ((with_reducible refine gate_callee (f := 77) rfl ?_); refine goesL_ (some 18) rfl rfl Try.func77 (by kernel_rfl) rfl #[.pointer (some ⟨g, 0, none⟩), .int .i64 4] rfl aM_ ?_; (with_reducible refine (spec_l01Below.calls g s0_0 t385 t386 4 t387 t388 t389 w0 _ ?side1 ?side2 A5.out).mono ?_); (case side1 => exact u6_ NB0_377.out); (case side2 => exact u4_ (IsS86.ge HI0.out) GE377.out); rintro e w76 ⟨rfl, hi, hb, hk⟩; refine ⟨_, rfl, ?_⟩; have n_ := b_ (KeepBut.blk hk (g' := gb377) (o := .cells #[.int .i64 0, .slice none 0 0, .slice none 0 0] 37 (0, 0)) (rK_ BK377.out) NB377_0.out (by simp)) <| b_ (KeepBut.trans ((u7_ GW377.out)) hk (.inl rfl)) <| b_ (hb) <| c_ (hi); clear BK377 HK HB HI0; obtain ⟨BK377, HK, HB, HI0⟩ := n_; (try clear hi)) | ((with_reducible refine gate_callee (f := 113) rfl ?_); refine goesL_ (some 20) rfl rfl Try.func113 (by kernel_rfl) rfl #[.string t378, .int .i64 t387, .string t384] rfl aM_ ?_; (with_reducible refine (spec_SignAt.calls k t378 t387 t384 t390 t391 t394 t397 _ A6.out).mono ?_); rintro e w77 ⟨v392, v395, rfl, ho0, ho1, hb⟩; refine ⟨_, rfl, ?_⟩; have n_ := b_ (Kd.R_lower ho0 (keep_size (w := w) (g := g) (row := none) ((u7_ GW377.out)))) <| b_ (Kd.R_lower ho1 (keep_size (w := w) (g := g) (row := none) ((u7_ GW377.out)))) <| b_ (IsS86.below ((u6_ NB0_377.out)) hb) <| b_ (blk_below (g := gb377) (o := .cells #[.int .i64 0, .slice none 0 0, .slice none 0 0] 37 (0, 0)) (rK_ BK377.out) hb) <| b_ (KeepBut.trans ((u7_ GW377.out)) (KeepBut.of_below hb g none) (.inl rfl)) <| c_ (below_step ((u4_ (IsS86.ge HI0.out) GE377.out)) hb); clear HI0 BK377 HK HB; obtain ⟨HO393, HO396, HI0, BK377, HK, HB⟩ := n_; (try clear ho1)) | ((with_reducible refine gate_dst (N := 7) rfl ?_); refine box_event ?hg (N := 7) ?hd (cs := #[.int .i64 0, .slice none 0 0, .slice none 0 0]) (t := 37) ?hr ?_; (case hd => rfl); (case hg => rfl); (case hr => first | (go_simp; done) | (go_simp; rfl)); intro gb398 hg w78 hbox hb; have n_ := b_ (Kd.R_below (rR_ HO393.out) hb) <| b_ (Kd.R_below (rR_ HO396.out) hb) <| b_ (IsS86.below ((u6_ NB0_377.out)) hb) <| b_ (blk_below (g := gb377) (o := .cells #[.int .i64 0, .slice none 0 0, .slice none 0 0] 37 (0, 0)) (rK_ BK377.out) hb) <| b_ (KeepBut.trans ((u7_ GW377.out)) (KeepBut.of_below hb g none) (.inl rfl)) <| b_ (below_step ((u4_ (IsS86.ge HI0.out) GE377.out)) hb) <| b_ (hbox) <| b_ (by rw [hg]; exact (keep_size (w := w) (g := g) (row := none) ((u7_ GW377.out))) : w.heap.size ≤ gb398) <| b_ (Nat.le_trans HW0.out (by rw [hg]; exact (keep_size (w := w) (g := g) (row := none) ((u7_ GW377.out))) : w.heap.size ≤ gb398) : w0.heap.size ≤ gb398) <| b_ (by rw [hg]; exact Nat.ne_of_lt (blk_lt (g := gb377) (o := .cells #[.int .i64 0, .slice none 0 0, .slice none 0 0] 37 (0, 0)) (rK_ BK377.out)) : gb377 ≠ gb398) <| b_ (by rw [hg]; exact Nat.ne_of_gt (blk_lt (g := gb377) (o := .cells #[.int .i64 0, .slice none 0 0, .slice none 0 0] 37 (0, 0)) (rK_ BK377.out)) : gb398 ≠ gb377) <| b_ (by rw [hg]; exact Nat.ne_of_lt (IsS86.lt (show IsS86 w0 _ g s0_0 t388 t389 from (u6_ NB0_377.out))) : g ≠ gb398) <| c_ (by rw [hg]; exact Nat.ne_of_gt (IsS86.lt (show IsS86 w0 _ g s0_0 t388 t389 from (u6_ NB0_377.out))) : gb398 ≠ g); clear HO393 HO396 HI0 BK377 HK HB; obtain ⟨HO393, HO396, HI0, BK377, HK, HB, BK398, GW398, GE398, NB377_398, NB398_377, NB0_398, NB398_0⟩ := n_; clear hb hbox hg; have hnb79 := NB398_377.out; have hnc79 := NB377_398.out; have hnb80 := NB398_0.out; have hnc80 := NB0_398.out; have hcz81_0 : w78.cell? ⟨gb398, 0, none⟩ = some (.int .i64 0) := (blk_cell BK398.out 0).trans rfl; have hcz81_1 : w78.cell? ⟨gb398, 1, none⟩ = some (.slice none 0 0) := (blk_cell BK398.out 1).trans rfl; have hcz81_2 : w78.cell? ⟨gb398, 2, none⟩ = some (.slice none 0 0) := (blk_cell BK398.out 2).trans rfl; have hfz81_0 := blk_frozen BK398.out 0; have hfz81_1 := blk_frozen BK398.out 1; have hfz81_2 := blk_frozen BK398.out 2; obtain ⟨Ao82, co82, eo82⟩ := Kd.R_slice HO393.out; subst eo82; obtain ⟨Ao83, co83, eo83⟩ := Kd.R_slice HO396.out; subst eo83) | ((with_reducible refine gate_callee (f := 77) rfl ?_); refine goesL_ (some 24) rfl rfl Try.func77 (by kernel_rfl) rfl #[.pointer (some ⟨g, 0, none⟩), .int .i64 12] rfl aM_ ?_; (with_reducible refine (spec_l01Below.calls g s0_0 t388 t389 12 t399 t400 t401 w0 _ ?side1 ?side2 A7.out).mono ?_); (case side1 => exact u8_ NB0_377.out NB0_398.out); (case side2 => exact u9_ (IsS86.ge HI0.out) GE377.out GE398.out); rintro e w84 ⟨rfl, hi, hb, hk⟩; refine ⟨_, rfl, ?_⟩; have n_ := b_ (KeepBut.blk hk (g' := gb377) (o := .cells #[.int .i64 0, .slice none 0 0, .slice none 0 0] 37 (0, 0)) (by refine kK_ ?_; refine blk_far ?_ NB377_398.out _; refine kK_ ?_; refine blk_far ?_ NB377_398.out _; refine kK_ ?_; refine blk_far ?_ NB377_398.out _; exact rK_ BK377.out) NB377_0.out (by simp)) <| b_ (Kd.R_mono (Kd.R_keep (IsS86.apart (show IsS86 w0 _ g s0_0 t388 t389 from (u8_ NB0_377.out NB0_398.out)) (by refine kR_ ?_; exact (Kd.R_mono (Kd.R_far (Kd.R_far (Kd.R_far (Kd.R_types HO393.out BK398.out (by decide)) (fun _ hk => hk.2) _) (fun _ hk => hk.2) _) (fun _ hk => hk.2) _) (fun _ h_ => h_.1))) (by decide)) hk (fun _ h => h.2)) (fun _ h => h.1)) <| b_ (Kd.R_mono (Kd.R_keep (IsS86.apart (show IsS86 w0 _ g s0_0 t388 t389 from (u8_ NB0_377.out NB0_398.out)) (by refine kR_ ?_; exact (Kd.R_mono (Kd.R_far (Kd.R_far (Kd.R_far (Kd.R_types HO396.out BK398.out (by decide)) (fun _ hk => hk.2) _) (fun _ hk => hk.2) _) (fun _ hk => hk.2) _) (fun _ h_ => h_.1))) (by decide)) hk (fun _ h => h.2)) (fun _ h => h.1)) <| b_ (KeepBut.blk hk (g' := gb398) (o := .cells #[.int .i64 t390, .slice Ao82 t391.length co82, .slice Ao83 t394.length co83] 37 (0, 0)) (by refine kK_ ?_; refine blk_put (cs := #[.int .i64 t390, .slice Ao82 t391.length co82, .slice none 0 0]) ?_ 2 _ rfl; refine kK_ ?_; refine blk_put (cs := #[.int .i64 t390, .slice none 0 0, .slice none 0 0]) ?_ 1 _ rfl; refine kK_ ?_; refine blk_put (cs := #[.int .i64 0, .slice none 0 0, .slice none 0 0]) ?_ 0 _ rfl; exact rK_ BK398.out) NB398_0.out (by simp)) <| b_ (KeepBut.trans ((u10_ GW377.out GW398.out)) hk (.inl rfl)) <| b_ (hb) <| c_ (hi); clear BK377 HO393 HO396 BK398 HK HB HI0; obtain ⟨BK377, HO393, HO396, BK398, HK, HB, HI0⟩ := n_; (try clear hi)))
 have n_ := b_ (Kd.R_drew HO393.out) <| b_ (Kd.R_drew HO396.out) <| b_ (blk_drew BK377.out) <| b_ (blk_drew BK398.out) <| b_ (IsS86.drew HI0.out) <| b_ (keep_drew HK.out) <| c_ (below_drew1 HB.out)
 clear HO393 HO396 BK377 BK398 HI0 HK HB
 obtain ⟨HO393, HO396, BK377, BK398, HI0, HK, HB⟩ := n_
 refine start_ (n := 9) (S := fun w' => w'.cell? ⟨gb398, 0, none⟩ = some (.int .i64 t390) ∧ w'.cell? ⟨gb398, 1, none⟩ = some (.slice Ao82 t391.length co82) ∧ w'.cell? ⟨gb398, 2, none⟩ = some (.slice Ao83 t394.length co83)) (ds := [8]) (bb_ 9 0) (by kernel_rfl) rfl rfl ⟨(blk_cell BK398.out 0).trans rfl, (blk_cell BK398.out 1).trans rfl, (blk_cell BK398.out 2).trans rfl⟩ (fun hHeld => ?_); refine with_tabW spec_l16Sig.tab10 spec_l16Sig.bits10 (fun HT_ HW_ => ?_)
 generalize w84.drew = w85 at HO393 HO396 BK377 BK398 HI0 HK HB hHeld ⊢
 refine pS_ 0 45 (bb_ 9 1) HT_.out ?_
 refine pS_ 2 47 (bb_ 9 5) HT_.out ?_
 refine pS_ 3 48 (bb_ 9 13) HT_.out ?_
 refine tS_ 1 46 (bb_ 9 15) (take_ofW HT_.out HW_.out (by kernel_rfl)) hHeld ?_
 refine one_ (i := 4) (N := some 49) (bb_ 9 31) rfl rfl (one_of HT_.out (by kernel_rfl)) (by decide) (fun K hK => ?_)
 refine Kd.R_lit_step (Kd.int .i64) _ 3 ?hg (N := 49) ?hd (xs := ([4, 4, 5] : List Int)) (inner := [.int .i64 4, .int .i64 4, .int .i64 5]) (ok := fun _ => True) (okp := fun _ => True) ?hr ?hp (fun _ hk => hk) trivial (Below.refl _ _) (Nat.le_refl _) (by simp) ?_; (case hd => rfl); (case hg => rfl); (case hr => first | (go_simp; done) | (go_simp; rfl)); (case hp => exact (Reps.one (show Kd.M (Kd.int .i64) _ _ _ 4 [.int .i64 4] from rfl) (Reps.one (show Kd.M (Kd.int .i64) _ _ _ 4 [.int .i64 4] from rfl) (Reps.one (show Kd.M (Kd.int .i64) _ _ _ 5 [.int .i64 5] from rfl) (Reps.none _ _)))))
 intro v422 w86 ho87 hb hg_ hnew_
 clear hg_ hnew_
 (first | rw [← Ny421.out] at ho87 | (simp only [Int.reduceToNat] at ho87; rw [← Ny421.out] at ho87))
 have n_ := b_ (Kd.R_below (rR_ HO393.out) hb) <| b_ (Kd.R_below (rR_ HO396.out) hb) <| b_ (Kd.R_lower ho87 (keep_size (w := w) (g := g) (row := none) ((u10_ GW377.out GW398.out)))) <| b_ (IsS86.below ((u8_ NB0_377.out NB0_398.out)) hb) <| b_ (blk_below (g := gb377) (o := .cells #[.int .i64 0, .slice none 0 0, .slice none 0 0] 37 (0, 0)) (rK_ BK377.out) hb) <| b_ (blk_below (g := gb398) (o := .cells #[.int .i64 t390, .slice Ao82 t391.length co82, .slice Ao83 t394.length co83] 37 (0, 0)) (rK_ BK398.out) hb) <| b_ (KeepBut.trans ((u10_ GW377.out GW398.out)) (KeepBut.of_below hb g none) (.inl rfl)) <| c_ (below_step ((u9_ (IsS86.ge HI0.out) GE377.out GE398.out)) hb)
 clear HO393 HO396 HI0 BK377 BK398 HK HB
 obtain ⟨HO393, HO396, HO423, HI0, BK377, BK398, HK, HB⟩ := n_
 clear hb ho87
 obtain ⟨Ao88, co88, eo88⟩ := Kd.R_slice HO423.out
 (first | subst eo88 | (injection eo88 with f1_ f2_ f3_; have f4_ := f1_.symm; have f5_ := f3_.symm; clear f1_ f2_ f3_; subst f4_; subst f5_))
 refine hK.out _ _ ⟨(blk_cell BK398.out 0).trans rfl, (blk_cell BK398.out 1).trans rfl, (blk_cell BK398.out 2).trans rfl⟩ (fun hHeld => ?_)
 clear hK K
 refine norm_ (a' := ?_) ?_ ?_
 rotate_left
 ·show Act.put _ (some 49) _ = _
  simp only [Act.put, List.setIfInBounds_toArray, List.set_cons_zero, List.set_cons_succ, i64_w, i32_w]
  rfl
 refine one_ (i := 5) (N := some 50) (bb_ 9 63) rfl rfl (one_of HT_.out (by kernel_rfl)) (by decide) (fun K hK => ?_)
 refine goes_ Try.func75 (by kernel_rfl) rfl #[.pointer (some ⟨g, 0, none⟩), .slice Ao88 y421.length co88] (by rfl) rfl rfl aM_ ?_
 with_reducible refine (spec_l01PickInt.calls g s0_0 t400 t401 _ _ y421 t424 t425 t426 w0 _ ?side1 ?side2 ?side3 ?side4 ?side5 A68.out).mono ?_
 (case side1 => exact u8_ NB0_377.out NB0_398.out)
 (case side2 => exact u9_ (IsS86.ge HI0.out) GE377.out GE398.out)
 (case side3 => exact cR_ (Kd.R_reads' HO423.out).2.2)
 (case side4 => exact (Kd.R_reads' HO423.out).2.1)
 (case side5 => exact far_slice (IsS86.own_ne HI0.out HO423.out (by decide)))
 rintro e w89 ⟨rfl, hi, hb, hk⟩
 refine ⟨_, rfl, ?_⟩
 have n_ := b_ (KeepBut.blk hk (g' := gb377) (o := .cells #[.int .i64 0, .slice none 0 0, .slice none 0 0] 37 (0, 0)) (rK_ BK377.out) NB377_0.out (by simp)) <| b_ (Kd.R_mono (Kd.R_keep (IsS86.apart (show IsS86 w0 _ g s0_0 t400 t401 from (u8_ NB0_377.out NB0_398.out)) (rR_ HO393.out) (by decide)) hk (fun _ h => h.2)) (fun _ h => h.1)) <| b_ (Kd.R_mono (Kd.R_keep (IsS86.apart (show IsS86 w0 _ g s0_0 t400 t401 from (u8_ NB0_377.out NB0_398.out)) (rR_ HO396.out) (by decide)) hk (fun _ h => h.2)) (fun _ h => h.1)) <| b_ (KeepBut.blk hk (g' := gb398) (o := .cells #[.int .i64 t390, .slice Ao82 t391.length co82, .slice Ao83 t394.length co83] 37 (0, 0)) (rK_ BK398.out) NB398_0.out (by simp)) <| b_ (Kd.R_mono (Kd.R_keep (IsS86.apart (show IsS86 w0 _ g s0_0 t400 t401 from (u8_ NB0_377.out NB0_398.out)) (rR_ HO423.out) (by decide)) hk (fun _ h => h.2)) (fun _ h => h.1)) <| b_ (KeepBut.trans ((u10_ GW377.out GW398.out)) hk (.inl rfl)) <| b_ (hb) <| c_ (hi)
 clear BK377 HO393 HO396 BK398 HO423 HK HB HI0
 obtain ⟨BK377, HO393, HO396, BK398, HO423, HK, HB, HI0⟩ := n_
 refine hK.out _ _ ⟨(blk_cell BK398.out 0).trans rfl, (blk_cell BK398.out 1).trans rfl, (blk_cell BK398.out 2).trans rfl⟩ (fun hHeld => ?_)
 clear hK K
 refine norm_ (a' := ?_) ?_ ?_
 rotate_left
 ·show Act.put _ (some 50) _ = _
  simp only [Act.put, List.setIfInBounds_toArray, List.set_cons_zero, List.set_cons_succ, i64_w, i32_w]
  rfl
 refine one_ (i := 6) (N := some 51) (bb_ 9 127) rfl rfl (one_of HT_.out (by kernel_rfl)) (by decide) (fun K hK => ?_)
 refine goes_ Try.func76 (by kernel_rfl) rfl #[.pointer (some ⟨g, 0, none⟩), .int .i64 t424] (by rfl) rfl rfl aM_ ?_
 with_reducible refine (spec_l01Text.calls k g s0_0 t425 t426 t424 t427 t428 t429 w0 _ ?side1 ?side2 A69.out).mono ?_
 (case side1 => exact u8_ NB0_377.out NB0_398.out)
 (case side2 => exact u9_ (IsS86.ge HI0.out) GE377.out GE398.out)
 rintro e w90 ⟨rfl, hi, hb, hk⟩
 refine ⟨_, rfl, ?_⟩
 have n_ := b_ (KeepBut.blk hk (g' := gb377) (o := .cells #[.int .i64 0, .slice none 0 0, .slice none 0 0] 37 (0, 0)) (rK_ BK377.out) NB377_0.out (by simp)) <| b_ (Kd.R_mono (Kd.R_keep (IsS86.apart (show IsS86 w0 _ g s0_0 t425 t426 from (u8_ NB0_377.out NB0_398.out)) (rR_ HO393.out) (by decide)) hk (fun _ h => h.2)) (fun _ h => h.1)) <| b_ (Kd.R_mono (Kd.R_keep (IsS86.apart (show IsS86 w0 _ g s0_0 t425 t426 from (u8_ NB0_377.out NB0_398.out)) (rR_ HO396.out) (by decide)) hk (fun _ h => h.2)) (fun _ h => h.1)) <| b_ (KeepBut.blk hk (g' := gb398) (o := .cells #[.int .i64 t390, .slice Ao82 t391.length co82, .slice Ao83 t394.length co83] 37 (0, 0)) (rK_ BK398.out) NB398_0.out (by simp)) <| b_ (Kd.R_mono (Kd.R_keep (IsS86.apart (show IsS86 w0 _ g s0_0 t425 t426 from (u8_ NB0_377.out NB0_398.out)) (rR_ HO423.out) (by decide)) hk (fun _ h => h.2)) (fun _ h => h.1)) <| b_ (KeepBut.trans ((u10_ GW377.out GW398.out)) hk (.inl rfl)) <| b_ (hb) <| c_ (hi)
 clear BK377 HO393 HO396 BK398 HO423 HK HB HI0
 obtain ⟨BK377, HO393, HO396, BK398, HO423, HK, HB, HI0⟩ := n_
 have p71 : 0 ≤ (0 : Int) := (by omega)
 have q71 : (0 : Int) < ((t394.length : Int) : Int) := of_decide_eq_true (by first | (with_reducible assumption) | assumption)
 have qi71 : (0 < t394.length) = True := eq_true (by omega)
 obtain ⟨go71, co71, eo71, gb71, gl71, cl71, HG71⟩ := Kd.R_form HO396.out (by omega)
 (first | cases eo71 | (injection eo71 with ea_ en_ ec_; (first | subst ea_ | (injection ea_ with ea_; subst ea_)); subst ec_; clear en_))
 have GB71 := Aside0.mk gb71
 have GG71 := Aside0.mk HG71
 clear gb71 gl71 HG71
 obtain ⟨hx71_0, hf71_0⟩ := Kd.R_celln (⟨#[]⟩ : ByteArray) HO396.out (0 : Int) p71 q71
 (try rw [show ((0 : Int)).toNat = 0 from rfl] at hx71_0)
 (try simp only [Nat.reduceMul, Nat.zero_mul, Nat.zero_add, Nat.reduceAdd] at hx71_0)
 (try rw [show ((0 : Int)).toNat = 0 from rfl] at hf71_0)
 (try simp only [Nat.reduceMul, Nat.zero_mul, Nat.zero_add, Nat.reduceAdd] at hf71_0)
 replace p71 := eq_true p71
 replace q71 := eq_true q71
 have HN0_go71 := Aside0.mk (show g ≠ go71 from by have h_ := IsS86.own_ne HI0.out HO396.out (by decide); intro e_; exact h_ (by rw [e_]; rfl))
 have HP91 := Kd.R_putn HO396.out (0 : Int) t427
 rw [← Ny430.out] at HP91
 have HQ91 := Aside0.mk HP91
 clear HP91
 refine hK.out _ _ ⟨(blk_cell BK398.out 0).trans rfl, (blk_cell BK398.out 1).trans rfl, (blk_cell BK398.out 2).trans rfl⟩ (fun hHeld => ?_)
 clear hK K
 refine norm_ (a' := ?_) ?_ ?_
 rotate_left
 ·show Act.put _ (some 51) _ = _
  simp only [Act.put, List.setIfInBounds_toArray, List.set_cons_zero, List.set_cons_succ, i64_w, i32_w]
  rfl
 refine pS_ 7 52 (bb_ 9 255) HT_.out ?_
 refine last_ (i := 8) (N := none) (bb_ 9 511) rfl rfl (one_of HT_.out (by kernel_rfl)) (by decide) (fun K hK => ?_)
 refine skip_ (w1 := ?_) (by rfl) rfl ?_ ?_
 rotate_left
 ·go_simp
  rfl
 refine hK.out _ _ ?_
 clear hK K
 refine done_ (done_of HT_.out (by kernel_rfl)) ?_
 have n_ := b_ (show Kd.R Kd.string 9 (w90.setCell ⟨go71, 0, none⟩ (.string t427)) w.heap.size (fun k_ => some k_ ≠ (.slice (some ⟨go71, 0, none⟩) t394.length co83 : Value).ownBlock) (.slice Ao82 t391.length co82) t391 from by refine kR_ ?_; exact Kd.R_mono (Kd.R_far (p := ⟨go71, 0, none⟩) (Kd.R_mono HO393.out (fun k_ hk => (⟨hk, fun e_ => hk (by rw [e_]; rfl)⟩ : _ ∧ k_ ≠ go71))) (fun _ hk => hk.2) _) (fun _ hk => hk.1)) <| b_ (show Kd.R Kd.string 9 (w90.setCell ⟨go71, 0, none⟩ (.string t427)) w.heap.size (fun k_ => some k_ ≠ (.slice Ao82 t391.length co82 : Value).ownBlock) (.slice (some ⟨go71, 0, none⟩) t394.length co83) y430 from rR_ HQ91.out) <| b_ (show Kd.R (Kd.int .i64) 3 (w90.setCell ⟨go71, 0, none⟩ (.string t427)) w.heap.size (fun _ => True) (.slice Ao88 y421.length co88) y421 from by refine kR_ ?_; exact Kd.R_mono (Kd.R_far (p := ⟨go71, 0, none⟩) (Kd.R_types HO423.out GG71.out (by decide)) (fun _ hk => hk.2) _) (fun _ hk => trivial)) <| b_ (show (w90.setCell ⟨go71, 0, none⟩ (.string t427)).heap[gb377]? = some (.cells #[.int .i64 0, .slice none 0 0, .slice none 0 0] 37 (0, 0)) from by refine kK_ ?_; refine blk_far ?_ (by have h_ := Kd.R_ne HO396.out BK377.out (by decide); intro e_; exact h_ (by rw [e_]; rfl)) _; refine kK_ ?_; exact BK377.out) <| b_ (show (w90.setCell ⟨go71, 0, none⟩ (.string t427)).heap[gb398]? = some (.cells #[.int .i64 t390, .slice Ao82 t391.length co82, .slice (some ⟨go71, 0, none⟩) t394.length co83] 37 (0, 0)) from by refine kK_ ?_; refine blk_far ?_ (by have h_ := Kd.R_ne HO396.out BK398.out (by decide); intro e_; exact h_ (by rw [e_]; rfl)) _; refine kK_ ?_; exact BK398.out) <| b_ (show IsS86 w0 (w90.setCell ⟨go71, 0, none⟩ (.string t427)) g s0_0 t428 t429 from (u11_ HN0_go71.out NB0_377.out NB0_398.out)) <| b_ (show KeepBut w (w90.setCell ⟨go71, 0, none⟩ (.string t427)) g none from (u12_ GB71.out GW377.out GW398.out)) <| c_ (show Below w0.heap.size w0 (w90.setCell ⟨go71, 0, none⟩ (.string t427)) from (u13_ (Nat.le_trans HL.out GB71.out) (IsS86.ge HI0.out) GE377.out GE398.out))
 clear HO393 HO396 HO423 BK377 BK398 HI0 HK HB
 generalize (w90.setCell ⟨go71, 0, none⟩ (.string t427)) = w92 at n_ ⊢
 obtain ⟨HO393, HO396, HO423, BK377, BK398, HI0, HK, HB⟩ := n_
 try go_wp2
 have n_ := b_ (Kd.R_drew HO393.out) <| b_ (Kd.R_drew HO396.out) <| b_ (Kd.R_drew HO423.out) <| b_ (blk_drew BK377.out) <| b_ (blk_drew BK398.out) <| b_ (IsS86.drew HI0.out) <| b_ (keep_drew HK.out) <| c_ (below_drew1 HB.out)
 clear HO393 HO396 HO423 BK377 BK398 HI0 HK HB
 obtain ⟨HO393, HO396, HO423, BK377, BK398, HI0, HK, HB⟩ := n_
 refine start_ (n := 6) (S := fun w' => w'.cell? ⟨gb398, 0, none⟩ = some (.int .i64 t390) ∧ w'.cell? ⟨gb398, 1, none⟩ = some (.slice Ao82 t391.length co82) ∧ w'.cell? ⟨gb398, 2, none⟩ = some (.slice (some ⟨go71, 0, none⟩) t394.length co83)) (ds := []) (bb_ 6 0) (by kernel_rfl) rfl rfl ⟨(blk_cell BK398.out 0).trans rfl, (blk_cell BK398.out 1).trans rfl, (blk_cell BK398.out 2).trans rfl⟩ (fun hHeld => ?_)
 generalize w92.drew = w93 at HO393 HO396 HO423 BK377 BK398 HI0 HK HB hHeld ⊢
 refine pB_ 0 59 (bb_ 6 1) ?_
 refine pB_ 1 60 (bb_ 6 3) ?_
 refine pB_ 3 2 (bb_ 6 11) ?_
 refine pB_ 4 3 (bb_ 6 27) ?_
 refine tS_ 2 61 (bb_ 6 31) (by kernel_rfl) hHeld ?_
 refine one_ (i := 5) (N := none) (bb_ 6 63) rfl rfl (by kernel_rfl) (by decide) (fun K hK => ?_)
 have hs94 : w93.cell? ⟨gb377, 0, none⟩ = some (.int .i64 0) := (blk_cell BK377.out 0).trans rfl
 have hfs94 := blk_frozen BK377.out 0
 have hns94_1 := NB398_377.out
 have hms94_1 := NB377_398.out
 have hs95 : w93.cell? ⟨gb377, 1, none⟩ = some (.slice none 0 0) := (blk_cell BK377.out 1).trans rfl
 have hfs95 := blk_frozen BK377.out 1
 have hns95_1 := NB398_377.out
 have hms95_1 := NB377_398.out
 have hs96 : w93.cell? ⟨gb377, 2, none⟩ = some (.slice none 0 0) := (blk_cell BK377.out 2).trans rfl
 have hfs96 := blk_frozen BK377.out 2
 have hns96_1 := NB398_377.out
 have hms96_1 := NB377_398.out
 refine skip_ (w1 := ?_) (by rfl) rfl ?_ ?_
 rotate_left
 ·go_simp
  rfl
 refine hK.out _ _ ⟨((cell_far (p := ⟨gb377, _, none⟩) NB398_377.out _).trans (((cell_far (p := ⟨gb377, _, none⟩) NB398_377.out _).trans (((cell_far (p := ⟨gb377, _, none⟩) NB398_377.out _).trans (hHeld.1)))))), ((cell_far (p := ⟨gb377, _, none⟩) NB398_377.out _).trans (((cell_far (p := ⟨gb377, _, none⟩) NB398_377.out _).trans (((cell_far (p := ⟨gb377, _, none⟩) NB398_377.out _).trans (hHeld.2.1)))))), ((cell_far (p := ⟨gb377, _, none⟩) NB398_377.out _).trans (((cell_far (p := ⟨gb377, _, none⟩) NB398_377.out _).trans (((cell_far (p := ⟨gb377, _, none⟩) NB398_377.out _).trans (hHeld.2.2))))))⟩ (fun hHeld => ?_)
 clear hK K
 refine done_ (by kernel_rfl) ?_
 try go_wp2
 refine bodyPost_ret (results_list (rs := [.tmp 2, .tmp 3, .cell 4 37]) rfl (by simp) (.tmp (.tmp (.cell gb377 37 #[.int .i64 t390, .slice Ao82 t391.length co82, .slice (some ⟨go71, 0, none⟩) t394.length co83] (0, 0) _ rfl (by refine kK_ ?_; refine blk_put (cs := #[.int .i64 t390, .slice Ao82 t391.length co82, .slice none 0 0]) ?_ 2 _ rfl; refine kK_ ?_; refine blk_put (cs := #[.int .i64 t390, .slice none 0 0, .slice none 0 0]) ?_ 1 _ rfl; refine kK_ ?_; refine blk_put (cs := #[.int .i64 0, .slice none 0 0, .slice none 0 0]) ?_ 0 _ rfl; exact rK_ BK377.out) Try.underlying37 rfl (by kernel_rfl) .nil)))) rfl ?_
 exact ⟨_, _, by first | rfl | (simp [errW_none, errW_some] <;> rfl) | (simp [*, errW_none, errW_some] <;> rfl), by refine kR_ ?_; exact Kd.R_mono (Kd.R_far (Kd.R_far (Kd.R_far (Kd.R_types HO393.out BK377.out (by decide)) (fun _ hk => hk.2) _) (fun _ hk => hk.2) _) (fun _ hk => hk.2) _) (fun _ hk => hk.1), Kd.Q_of_R (by refine kR_ ?_; exact Kd.R_mono (Kd.R_far (Kd.R_far (Kd.R_far (Kd.R_types HO396.out BK377.out (by decide)) (fun _ hk => hk.2) _) (fun _ hk => hk.2) _) (fun _ hk => hk.2) _) (fun _ hk => hk.1)), (u8_ NB0_377.out NB0_398.out), (u9_ (IsS86.ge HI0.out) GE377.out GE398.out), (u10_ GW377.out GW398.out)⟩

end Go.Proofs.Ytnckhligcdieaaa.P
