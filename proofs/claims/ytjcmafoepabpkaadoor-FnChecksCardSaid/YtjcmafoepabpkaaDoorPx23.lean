-- printed texts of this session, regrouped
import Derived.Test.YtjcmafoepabpkaaDoorMW7
import Derived.Test.YtjcmafoepabpkaaDoorMW8
import Derived.Test.YtjcmafoepabpkaaDoorMW9
import Derived.Test.YtjcmafoepabpkaaDoorMW6
import Derived.Test.YtjcmafoepabpkaaDoorPx0
import Derived.Test.YtjcmafoepabpkaaDoorPx4
import Derived.Test.YtjcmafoepabpkaaDoorPx7
import Derived.Test.YtjcmafoepabpkaaDoorPx18
import Derived.Test.YtjcmafoepabpkaaDoorPx22
namespace Go.Proofs.YtjcmafoepabpkaaDoor.P
open Go.RowKit Go.Proofs.YtjcmafoepabpkaaDoorW.PrintWords Go.Proofs.YtjcmafoepabpkaaDoorW.PrintLast Go.Proofs.YtjcmafoepabpkaaDoorW.PrintMore
attribute [local go_sem] max2_int min2_int max_two min_two max_three min_three max_four min_four   -- for this text's walks alone
set_option linter.unusedVariables false
set_option linter.unusedSimpArgs false
set_option maxHeartbeats 8000000
set_option maxRecDepth 100000

/-! ### spec_DrawCheckSig: function 52 -/
def spec_DrawCheckSig.j0 : Nat → ByteArray → ByteArray → List Int → Int → Int → Int → List ByteArray → List ByteArray → Option (ByteArray × ByteArray × Int × List ByteArray × List ByteArray)
 | 0, _, _, _, _, _, _, _, _ => none
 | k + 1, x6, x7, x1035000, x1035001, x1035002, x1047000, x1047001, x1047002 => (spec_l01Once.f x1035000 x1035001 x1035002 8).bind fun bt1050 => (if bt1050.1 = true then (some ((⟨#[97, 98, 99, 100]⟩ : ByteArray), x7, x1047000, x1047001, x1047002)) else ((spec_PublicOf.f k x6).bind fun t1053 => (some (t1053, x7, x1047000, x1047001, x1047002))))
def spec_DrawCheckSig.f (k : Nat) (l0 : List Int) : Option (ByteArray × ByteArray × Int × List ByteArray × List ByteArray) := (spec_l01New.f k l0).bind fun bt1031 => ((spec_l16Sig.f k bt1031.1 bt1031.2.1 bt1031.2.2).bind fun bt1035 => ((spec_l01Once.f bt1031.1 bt1035.2.2.2.2.2.1 bt1035.2.2.2.2.2.2 6).bind fun bt1047 => (if bt1047.1 = true then (if bt1035.2.1.size + 1 ≤ 9223372036854775807 then (spec_DrawCheckSig.j0 k bt1035.1 (bt1035.2.1 ++ (⟨#[120]⟩ : ByteArray)) bt1031.1 bt1047.2.1 bt1047.2.2 bt1035.2.2.1 bt1035.2.2.2.1 bt1035.2.2.2.2.1) else (none)) else (spec_DrawCheckSig.j0 k bt1035.1 bt1035.2.1 bt1031.1 bt1047.2.1 bt1047.2.2 bt1035.2.2.1 bt1035.2.2.2.1 bt1035.2.2.2.2.1))))
theorem spec_DrawCheckSig.mono_l : ∀ k, (∀ y0 y1 y2 y3 y4 y5 y6 y7, LeO (spec_DrawCheckSig.j0 k y0 y1 y2 y3 y4 y5 y6 y7) (spec_DrawCheckSig.j0 (k + 1) y0 y1 y2 y3 y4 y5 y6 y7))
 | 0 => fun _ _ _ _ _ _ _ _ r h => by simp [spec_DrawCheckSig.j0] at h
 | k + 1 => by
  have ih0 := spec_DrawCheckSig.mono_l k
  ·intro y0 y1 y2 y3 y4 y5 y6 y7
   unfold spec_DrawCheckSig.j0
   repeat' first
   | (with_reducible exact ih0 _ _ _ _ _ _ _ _)
   | (with_reducible exact spec_PublicOf.mono _ _)
   | (with_reducible exact spec_l01New.mono _ _)
   | (with_reducible exact spec_l16Sig.mono _ _ _ _)
   | (with_reducible exact LeO.refl _)
   | (with_reducible exact LeO.none _)
   | (with_reducible refine LeO.ite ?_ ?_)
   | (with_reducible refine LeO.bind ?_ (fun _ => ?_))
   | exact ih0 _ _ _ _ _ _ _ _
   | exact spec_PublicOf.mono _ _
   | exact spec_l01New.mono _ _
   | exact spec_l16Sig.mono _ _ _ _
   | exact LeO.none _
   | refine LeO.ite ?_ ?_
   | refine LeO.bind ?_ (fun _ => ?_)
theorem spec_DrawCheckSig.mono : ∀ a0 k, LeO (spec_DrawCheckSig.f k a0) (spec_DrawCheckSig.f (k + 1) a0) := by
 intro a0 k
 have ih0 := spec_DrawCheckSig.mono_l k
 unfold spec_DrawCheckSig.f
 repeat' first
   | (with_reducible exact ih0 _ _ _ _ _ _ _ _)
   | (with_reducible exact spec_PublicOf.mono _ _)
   | (with_reducible exact spec_l01New.mono _ _)
   | (with_reducible exact spec_l16Sig.mono _ _ _ _)
   | (with_reducible exact LeO.refl _)
   | (with_reducible exact LeO.none _)
   | (with_reducible refine LeO.ite ?_ ?_)
   | (with_reducible refine LeO.bind ?_ (fun _ => ?_))
   | exact ih0 _ _ _ _ _ _ _ _
   | exact spec_PublicOf.mono _ _
   | exact spec_l01New.mono _ _
   | exact spec_l16Sig.mono _ _ _ _
   | exact LeO.none _
   | refine LeO.ite ?_ ?_
   | refine LeO.bind ?_ (fun _ => ?_)
theorem spec_DrawCheckSig.calls (k : Nat) (A0 : Option Addr) (c0 : Nat) (l0 : List Int) (r1 : ByteArray) (r2 : ByteArray) (r3 : Int) (r4 : List ByteArray) (r5 : List ByteArray) (w : World) (hr0 : Kd.C (Kd.int .u8) w A0 l0.length l0) (hc0 : l0.length ≤ c0) (h : spec_DrawCheckSig.f k l0 = some (r1, r2, r3, r4, r5)) :
  Calls Tryd.prog 52 #[.slice A0 l0.length c0] w fun e w' => ∃ v3_ v4_ : Value, e = .returned (.tuple #[.string r1, .string r2, .agg #[.int .i64 r3, v3_, v4_]]) ∧ Kd.R Kd.string 9 w' w.heap.size (fun k_ => some k_ ≠ (v4_ : Value).ownBlock) v3_ r4 ∧ Kd.Q Kd.string 9 w' w.heap.size (fun k_ => some k_ ≠ (v3_ : Value).ownBlock) v4_ r5 ∧ Below w.heap.size w w' := by
 have hu42 := Tryd.underlying42
 have HR0 := Aside0.mk hr0
 have HC0 := Aside0.mk hc0
 clear hr0 hc0
 have HB := Aside0.mk (Below.refl w.heap.size w)
 have H : ((spec_l01New.f k l0).bind fun bt1031 => ((spec_l16Sig.f k bt1031.1 bt1031.2.1 bt1031.2.2).bind fun bt1035 => ((spec_l01Once.f bt1031.1 bt1035.2.2.2.2.2.1 bt1035.2.2.2.2.2.2 6).bind fun bt1047 => (if bt1047.1 = true then (if bt1035.2.1.size + 1 ≤ 9223372036854775807 then (spec_DrawCheckSig.j0 k bt1035.1 (bt1035.2.1 ++ (⟨#[120]⟩ : ByteArray)) bt1031.1 bt1047.2.1 bt1047.2.2 bt1035.2.2.1 bt1035.2.2.2.1 bt1035.2.2.2.2.1) else (none)) else (spec_DrawCheckSig.j0 k bt1035.1 bt1035.2.1 bt1031.1 bt1047.2.1 bt1047.2.2 bt1035.2.2.1 bt1035.2.2.2.1 bt1035.2.2.2.2.1))))) = some (r1, r2, r3, r4, r5) := h
 clear h
 replace H := Option.bind_eq_some_iff.mp H
 obtain ⟨⟨t1031, t1032, t1033⟩, A20, H⟩ := H
 try dsimp -simprocs only at H
 have A2 := Aside0.mk A20
 clear A20
 replace H := Option.bind_eq_some_iff.mp H
 obtain ⟨⟨t1035, t1036, t1037, t1038, t1041, t1044, t1045⟩, A30, H⟩ := H
 try dsimp -simprocs only at H
 have A3 := Aside0.mk A30
 clear A30
 replace H := Option.bind_eq_some_iff.mp H
 obtain ⟨⟨t1047, t1048, t1049⟩, A40, H⟩ := H
 try dsimp -simprocs only at H
 have A4 := Aside0.mk A40
 clear A40
 have HC5 := Aside0.mk H
 clear H
 go_enter Tryd.func52, Tryd.ntmps52
 go_upto_if 18 with (first | ((with_reducible refine gate_dst (N := 4) rfl ?_); refine box_event ?hg (N := 4) ?hd (cs := #[.int .i64 0, .slice none 0 0, .slice none 0 0]) (t := 42) ?hr ?_; (case hd => rfl); (case hg => rfl); (case hr => first | (go_simp; done) | (go_simp; rfl)); intro gb1030 hg w6 hbox hb; have n0_ := Aside0.mk (below_step (hB_) hb); have n1_ := Aside0.mk (hbox); have n2_ := Aside0.mk ((by rw [hg]; exact (below_size (hB_)) : w.heap.size ≤ gb1030)); have n3_ := Aside0.mk ((by rw [hg]; exact (below_size (hB_)) : w.heap.size ≤ gb1030)); replace HB := n0_; have BK1030 := n1_; have GW1030 := n2_; have GE1030 := n3_; clear n0_ n1_ n2_ n3_; clear hb hbox hg) | ((with_reducible refine gate_callee (f := 77) rfl ?_); refine goesL_ (some 10) rfl rfl Tryd.func77 (by kernel_rfl) rfl #[.slice A0 l0.length c0] rfl aM_ ?_; (with_reducible refine (spec_l01New.calls k _ _ l0 t1031 t1032 t1033 w _ ?side1 ?side2 ?side3 A2.out).mono ?_); (case side1 => exact u3_ GE1030.out); (case side2 => exact HR0.out); (case side3 => exact HC0.out); rintro e w7 ⟨g1034, rfl, hi, hb, hb2⟩; refine ⟨_, rfl, ?_⟩; have n0_ := Aside0.mk (blk_below (g := gb1030) (o := .cells #[.int .i64 0, .slice none 0 0, .slice none 0 0] 42 (0, 0)) (rK_ BK1030.out) hb2); have n1_ := Aside0.mk (hb); have n2_ := Aside0.mk (hi); have n3_ := Aside0.mk (IsS103.ne_blk hi (blk_below (g := gb1030) (o := .cells #[.int .i64 0, .slice none 0 0, .slice none 0 0] 42 (0, 0)) (rK_ BK1030.out) hb2) (by decide)); have n4_ := Aside0.mk (Ne.symm (IsS103.ne_blk hi (blk_below (g := gb1030) (o := .cells #[.int .i64 0, .slice none 0 0, .slice none 0 0] 42 (0, 0)) (rK_ BK1030.out) hb2) (by decide))); replace BK1030 := n0_; replace HB := n1_; have HI1034 := n2_; have NB1034_1030 := n3_; have NB1030_1034 := n4_; clear n0_ n1_ n2_ n3_ n4_; (try clear hb); (try clear hb2); (try clear hi)) | ((with_reducible refine gate_callee (f := 102) rfl ?_); refine goesL_ (some 13) rfl rfl Tryd.func102 (by kernel_rfl) rfl #[.pointer (some ⟨g1034, 0, none⟩)] rfl aM_ ?_; (with_reducible refine (spec_l16Sig.calls k g1034 t1031 t1032 t1033 t1035 t1036 t1037 t1038 t1041 t1044 t1045 w _ ?side1 ?side2 A3.out).mono ?_); (case side1 => exact u12_ NB1034_1030.out); (case side2 => exact u0_ (IsS103.ge HI1034.out) GE1030.out); rintro e w8 ⟨v1039, v1042, rfl, ho0, ho1, hi, hb, hk⟩; refine ⟨_, rfl, ?_⟩; have n0_ := Aside0.mk (KeepBut.blk hk (g' := gb1030) (o := .cells #[.int .i64 0, .slice none 0 0, .slice none 0 0] 42 (0, 0)) (rK_ BK1030.out) NB1030_1034.out (by simp)); have n1_ := Aside0.mk (Kd.R_lower ho0 (below_size ((u0_ (IsS103.ge HI1034.out) GE1030.out)))); have n2_ := Aside0.mk (Kd.Q_lower ho1 (below_size ((u0_ (IsS103.ge HI1034.out) GE1030.out)))); have n3_ := Aside0.mk (hb); have n4_ := Aside0.mk (hi); replace BK1030 := n0_; have HO1040 := n1_; have HO1043 := n2_; replace HB := n3_; replace HI1034 := n4_; clear n0_ n1_ n2_ n3_ n4_; (try clear hb); (try clear hk); (try clear hi); (try clear ho0); (try clear ho1)) | ((with_reducible refine gate_dst (N := 8) rfl ?_); refine box_event ?hg (N := 8) ?hd (cs := #[.int .i64 0, .slice none 0 0, .slice none 0 0]) (t := 42) ?hr ?_; (case hd => rfl); (case hg => rfl); (case hr => first | (go_simp; done) | (go_simp; rfl)); intro gb1046 hg w9 hbox hb; have n0_ := Aside0.mk (Kd.R_below (rR_ HO1040.out) hb); have n1_ := Aside0.mk (Kd.Q_below (rQ_ HO1043.out) hb); have n2_ := Aside0.mk (blk_below (g := gb1030) (o := .cells #[.int .i64 0, .slice none 0 0, .slice none 0 0] 42 (0, 0)) (rK_ BK1030.out) hb); have n3_ := Aside0.mk (IsS103.below ((u12_ NB1034_1030.out)) hb); have n4_ := Aside0.mk (below_step ((u0_ (IsS103.ge HI1034.out) GE1030.out)) hb); have n5_ := Aside0.mk (hbox); have n6_ := Aside0.mk ((by rw [hg]; exact (below_size ((u0_ (IsS103.ge HI1034.out) GE1030.out))) : w.heap.size ≤ gb1046)); have n7_ := Aside0.mk ((by rw [hg]; exact (below_size ((u0_ (IsS103.ge HI1034.out) GE1030.out))) : w.heap.size ≤ gb1046)); have n8_ := Aside0.mk ((by rw [hg]; exact Nat.ne_of_lt (blk_lt (g := gb1030) (o := .cells #[.int .i64 0, .slice none 0 0, .slice none 0 0] 42 (0, 0)) (rK_ BK1030.out)) : gb1030 ≠ gb1046)); have n9_ := Aside0.mk ((by rw [hg]; exact Nat.ne_of_gt (blk_lt (g := gb1030) (o := .cells #[.int .i64 0, .slice none 0 0, .slice none 0 0] 42 (0, 0)) (rK_ BK1030.out)) : gb1046 ≠ gb1030)); have n10_ := Aside0.mk ((by rw [hg]; exact Nat.ne_of_lt (IsS103.lt (show IsS103 w _ g1034 t1031 t1044 t1045 from (u12_ NB1034_1030.out))) : g1034 ≠ gb1046)); have n11_ := Aside0.mk ((by rw [hg]; exact Nat.ne_of_gt (IsS103.lt (show IsS103 w _ g1034 t1031 t1044 t1045 from (u12_ NB1034_1030.out))) : gb1046 ≠ g1034)); replace HO1040 := n0_; replace HO1043 := n1_; replace BK1030 := n2_; replace HI1034 := n3_; replace HB := n4_; have BK1046 := n5_; have GW1046 := n6_; have GE1046 := n7_; have NB1030_1046 := n8_; have NB1046_1030 := n9_; have NB1034_1046 := n10_; have NB1046_1034 := n11_; clear n0_ n1_ n2_ n3_ n4_ n5_ n6_ n7_ n8_ n9_ n10_ n11_; clear hb hbox hg; have hnb10 := NB1046_1030.out; have hnc10 := NB1030_1046.out; have hnb11 := NB1046_1034.out; have hnc11 := NB1034_1046.out; have hcz12_0 : w9.cell? ⟨gb1046, 0, none⟩ = some (.int .i64 0) := (blk_cell BK1046.out 0).trans rfl; have hcz12_1 : w9.cell? ⟨gb1046, 1, none⟩ = some (.slice none 0 0) := (blk_cell BK1046.out 1).trans rfl; have hcz12_2 : w9.cell? ⟨gb1046, 2, none⟩ = some (.slice none 0 0) := (blk_cell BK1046.out 2).trans rfl; have hfz12_0 := blk_frozen BK1046.out 0; have hfz12_1 := blk_frozen BK1046.out 1; have hfz12_2 := blk_frozen BK1046.out 2; obtain ⟨Ao13, co13, eo13⟩ := Kd.R_slice HO1040.out; subst eo13; obtain ⟨Ao14, co14, eo14, _⟩ := Kd.Q_slice HO1043.out; subst eo14) | ((with_reducible refine gate_callee (f := 103) rfl ?_); refine goesL_ (some 18) rfl rfl Tryd.func103 (by kernel_rfl) rfl #[.pointer (some ⟨g1034, 0, none⟩), .int .i64 6] rfl aM_ ?_; (with_reducible refine (spec_l01Once.calls g1034 t1031 t1044 t1045 6 t1047 t1048 t1049 w _ ?side1 ?side2 A4.out).mono ?_); (case side1 => exact u13_ NB1034_1030.out NB1034_1046.out); (case side2 => exact u7_ (IsS103.ge HI1034.out) GE1030.out GE1046.out); rintro e w15 ⟨rfl, hi, hb, hk⟩; refine ⟨_, rfl, ?_⟩; have n0_ := Aside0.mk (KeepBut.blk hk (g' := gb1030) (o := .cells #[.int .i64 0, .slice none 0 0, .slice none 0 0] 42 (0, 0)) (by refine kK_ ?_; refine blk_far ?_ NB1030_1046.out _; refine kK_ ?_; refine blk_far ?_ NB1030_1046.out _; refine kK_ ?_; refine blk_far ?_ NB1030_1046.out _; exact rK_ BK1030.out) NB1030_1034.out (by simp)); have n1_ := Aside0.mk (Kd.R_mono (Kd.R_keep (IsS103.apart (show IsS103 w _ g1034 t1031 t1044 t1045 from (u13_ NB1034_1030.out NB1034_1046.out)) (by refine kR_ ?_; exact (Kd.R_mono (Kd.R_far (Kd.R_far (Kd.R_far (Kd.R_types HO1040.out BK1046.out (by decide)) (fun _ hk => hk.2) _) (fun _ hk => hk.2) _) (fun _ hk => hk.2) _) (fun _ h_ => h_.1))) (by decide)) hk (fun _ h => h.2)) (fun _ h => h.1)); have n2_ := Aside0.mk (Kd.Q_mono (Kd.Q_keep (IsS103.apartQ (show IsS103 w _ g1034 t1031 t1044 t1045 from (u13_ NB1034_1030.out NB1034_1046.out)) (by refine kQ_ ?_; exact (Kd.Q_mono (Kd.Q_far (p := ⟨gb1046, 2, none⟩) (Kd.Q_far (p := ⟨gb1046, 1, none⟩) (Kd.Q_far (p := ⟨gb1046, 0, none⟩) (Kd.Q_types HO1043.out BK1046.out (by decide)) (fun _ hk => hk.2) _) (fun _ hk => hk.2) _) (fun _ hk => hk.2) _) (fun _ h_ => h_.1))) (by decide)) hk (fun _ h => h.2)) (fun _ h => h.1)); have n3_ := Aside0.mk (KeepBut.blk hk (g' := gb1046) (o := .cells #[.int .i64 t1037, .slice Ao13 t1038.length co13, .slice Ao14 t1041.length co14] 42 (0, 0)) (by refine kK_ ?_; refine blk_put (cs := #[.int .i64 t1037, .slice Ao13 t1038.length co13, .slice none 0 0]) ?_ 2 _ rfl; refine kK_ ?_; refine blk_put (cs := #[.int .i64 t1037, .slice none 0 0, .slice none 0 0]) ?_ 1 _ rfl; refine kK_ ?_; refine blk_put (cs := #[.int .i64 0, .slice none 0 0, .slice none 0 0]) ?_ 0 _ rfl; exact rK_ BK1046.out) NB1046_1034.out (by simp)); have n4_ := Aside0.mk (hb); have n5_ := Aside0.mk (hi); replace BK1030 := n0_; replace HO1040 := n1_; replace HO1043 := n2_; replace BK1046 := n3_; replace HB := n4_; replace HI1034 := n5_; clear n0_ n1_ n2_ n3_ n4_ n5_; (try clear hb); (try clear hk); (try clear hi)))
 (try simp only [Act.put, List.setIfInBounds_toArray, List.set_cons_zero, List.set_cons_succ])
 go_cut [7] (fun v7 wc => ∃ (kq : Nat) (x7_4 : ByteArray), v7 = .string x7_4 ∧ Aside0 (spec_DrawCheckSig.j0 kq t1035 x7_4 t1031 t1048 t1049 t1037 t1038 t1041 = some (r1, r2, r3, r4, r5)) ∧ Aside0 (kq ≤ k) ∧ Aside0 (Kd.R Kd.string 9 wc w.heap.size (fun k_ => some k_ ≠ ((.slice Ao14 t1041.length co14) : Value).ownBlock) (.slice Ao13 t1038.length co13) t1038) ∧ Aside0 (Kd.Q Kd.string 9 wc w.heap.size (fun k_ => some k_ ≠ ((.slice Ao13 t1038.length co13) : Value).ownBlock) (.slice Ao14 t1041.length co14) t1041) ∧ Aside0 (wc.heap[gb1030]? = some (.cells #[.int .i64 0, (.slice none 0 0), (.slice none 0 0)] 42 (0, 0))) ∧ Aside0 (wc.heap[gb1046]? = some (.cells #[.int .i64 t1037, (.slice Ao13 t1038.length co13), (.slice Ao14 t1041.length co14)] 42 (0, 0))) ∧ Aside0 (IsS103 w wc g1034 t1031 t1048 t1049) ∧ Aside0 (Below w.heap.size w wc))
 case first =>
  have H := HC5.out
  clear HC5
  by_cases c16 : t1047 = true
  ·subst c16
   have H1 : (if t1036.size + 1 ≤ 9223372036854775807 then (spec_DrawCheckSig.j0 k t1035 (t1036 ++ (⟨#[120]⟩ : ByteArray)) t1031 t1048 t1049 t1037 t1038 t1041) else (none)) = some (r1, r2, r3, r4, r5) := by rw [if_pos rfl] at H; exact H
   clear H
   have H := H1
   clear H1
   obtain ⟨c17, H⟩ := iN_ H
   have c17b0 := eq_true c17
   have c17b1 := decide_eq_true c17
   try have c17b2 : (9223372036854775807 < t1036.size + 1) = False := eq_false (Nat.not_lt.2 c17)
   have H' := Aside0.mk H
   clear H
   go_wp2
   go_meet
   case rel => exact ⟨_, (t1036 ++ (⟨#[120]⟩ : ByteArray)), (by first | rfl | (simp; done) | (simp [*]; done)), H', ⟨by first | omega | exact Nat.le_refl _⟩, ⟨rR_ HO1040.out⟩, ⟨rQ_ HO1043.out⟩, ⟨by refine kK_ ?_; exact BK1030.out⟩, ⟨by refine kK_ ?_; exact BK1046.out⟩, ⟨(u13_ NB1034_1030.out NB1034_1046.out)⟩, ⟨(u7_ (IsS103.ge HI1034.out) GE1030.out GE1046.out)⟩⟩
  ·replace c16 := Bool.eq_false_iff.mpr c16
   subst c16
   have H1 : (spec_DrawCheckSig.j0 k t1035 t1036 t1031 t1048 t1049 t1037 t1038 t1041) = some (r1, r2, r3, r4, r5) := by rw [if_neg (show ¬ (false = true) by decide)] at H; exact H
   clear H
   have H := H1
   clear H1
   have H' := Aside0.mk H
   clear H
   go_wp2
   go_meet
   case rel => exact ⟨_, (t1036), (by first | rfl | (simp; done) | (simp [*]; done)), H', ⟨by first | omega | exact Nat.le_refl _⟩, ⟨rR_ HO1040.out⟩, ⟨rQ_ HO1043.out⟩, ⟨by refine kK_ ?_; exact BK1030.out⟩, ⟨by refine kK_ ?_; exact BK1046.out⟩, ⟨(u13_ NB1034_1030.out NB1034_1046.out)⟩, ⟨(u7_ (IsS103.ge HI1034.out) GE1030.out GE1046.out)⟩⟩
 case rest =>
  clear HC5
  try clear c1
  try clear p2
  try clear c5
  try clear c7
  try clear c10
  try clear c11
  try clear c16
  try clear c17
  try clear c17b0
  try clear c17b1
  try clear c17b2
  try clear hcz12_0
  try clear hcz12_1
  try clear hcz12_2
  try clear hfz12_0
  try clear hfz12_1
  try clear hfz12_2
  obtain ⟨kq, x7_4, rfl, HA, HJ4, HO_1047001, HO_1047002, BK1030, BK1046, HI1034, HB⟩ := hcut
  cases kq with
  | zero => exact absurd HA.out (by simp [spec_DrawCheckSig.j0])
  | succ kj4 =>
   have H := HA.out
   clear HA
   simp only [spec_DrawCheckSig.j0] at H
   replace H := Option.bind_eq_some_iff.mp H
   obtain ⟨⟨t1050, t1051, t1052⟩, A180, H⟩ := H
   try dsimp -simprocs only at H
   have A18 := Aside0.mk A180
   clear A180
   by_cases c19 : t1050 = true
   ·subst c19
    have H1 : (some ((⟨#[97, 98, 99, 100]⟩ : ByteArray), x7_4, t1037, t1038, t1041)) = some (r1, r2, r3, r4, r5) := by rw [if_pos rfl] at H; exact H
    clear H
    have H := H1
    clear H1
    simp only [Option.some.injEq, Prod.mk.injEq] at H
    obtain ⟨rfl, rfl, rfl, rfl, rfl⟩ := H
    try go_wp2_with (first | ((with_reducible refine gate_callee (f := 103) rfl ?_); refine goesL_ (some 22) rfl rfl Tryd.func103 (by kernel_rfl) rfl #[.pointer (some ⟨g1034, 0, none⟩), .int .i64 8] rfl aM_ ?_; (with_reducible refine (spec_l01Once.calls g1034 t1031 t1048 t1049 8 true t1051 t1052 w _ ?side1 ?side2 A18.out).mono ?_); (case side1 => exact u13_ NB1034_1030.out NB1034_1046.out); (case side2 => exact u7_ (IsS103.ge HI1034.out) GE1030.out GE1046.out); rintro e w20 ⟨rfl, hi, hb, hk⟩; refine ⟨_, rfl, ?_⟩; have n0_ := Aside0.mk (Kd.R_mono (Kd.R_keep (IsS103.apart (show IsS103 w _ g1034 t1031 t1048 t1049 from (u13_ NB1034_1030.out NB1034_1046.out)) (rR_ HO_1047001.out) (by decide)) hk (fun _ h => h.2)) (fun _ h => h.1)); have n1_ := Aside0.mk (Kd.Q_mono (Kd.Q_keep (IsS103.apartQ (show IsS103 w _ g1034 t1031 t1048 t1049 from (u13_ NB1034_1030.out NB1034_1046.out)) (rQ_ HO_1047002.out) (by decide)) hk (fun _ h => h.2)) (fun _ h => h.1)); have n2_ := Aside0.mk (KeepBut.blk hk (g' := gb1030) (o := .cells #[.int .i64 0, .slice none 0 0, .slice none 0 0] 42 (0, 0)) (rK_ BK1030.out) NB1030_1034.out (by simp)); have n3_ := Aside0.mk (KeepBut.blk hk (g' := gb1046) (o := .cells #[.int .i64 t1037, .slice Ao13 t1038.length co13, .slice Ao14 t1041.length co14] 42 (0, 0)) (rK_ BK1046.out) NB1046_1034.out (by simp)); have n4_ := Aside0.mk (hb); have n5_ := Aside0.mk (hi); replace HO_1047001 := n0_; replace HO_1047002 := n1_; replace BK1030 := n2_; replace BK1046 := n3_; replace HB := n4_; replace HI1034 := n5_; clear n0_ n1_ n2_ n3_ n4_ n5_; (try clear hb); (try clear hk); (try clear hi)))
    have n0_ := Aside0.mk (Kd.R_drew HO_1047001.out)
    have n1_ := Aside0.mk (Kd.Q_drew HO_1047002.out)
    have n2_ := Aside0.mk (blk_drew BK1030.out)
    have n3_ := Aside0.mk (blk_drew BK1046.out)
    have n4_ := Aside0.mk (IsS103.drew HI1034.out)
    have n5_ := Aside0.mk (below_drew1 HB.out)
    clear HO_1047001
    clear HO_1047002
    clear BK1030
    clear BK1046
    clear HI1034
    clear HB
    have HO_1047001 := n0_
    have HO_1047002 := n1_
    have BK1030 := n2_
    have BK1046 := n3_
    have HI1034 := n4_
    have HB := n5_
    clear n0_ n1_ n2_ n3_ n4_ n5_
    refine start_ (n := 5) (S := fun w' => w'.cell? ⟨gb1046, 0, none⟩ = some (.int .i64 t1037) ∧ w'.cell? ⟨gb1046, 1, none⟩ = some (.slice Ao13 t1038.length co13) ∧ w'.cell? ⟨gb1046, 2, none⟩ = some (.slice Ao14 t1041.length co14)) (ds := []) #[false, false, false, false, false] (by kernel_rfl) rfl rfl ⟨(blk_cell BK1046.out 0).trans rfl, (blk_cell BK1046.out 1).trans rfl, (blk_cell BK1046.out 2).trans rfl⟩ (fun hHeld => ?_)
    generalize w20.drew = w21 at HO_1047001 HO_1047002 BK1030 BK1046 HI1034 HB hHeld ⊢
    refine pure_ (i := 0) (N := some 23) (v := ?_) (a' := ?_) #[true, false, false, false, false] rfl rfl (by kernel_rfl) (fun _ _ _ h => h) (Or.inl ⟨by rfl, ?_⟩) ?_ ?_
    rotate_left
    ·intro w'
     go_simp
     with_reducible rfl
    rotate_left
    ·simp only [Act.put, List.setIfInBounds_toArray, List.set_cons_zero, List.set_cons_succ, i64_w, i32_w]
     rfl
    refine pure_ (i := 2) (N := some 2) (v := ?_) (a' := ?_) #[true, false, true, false, false] rfl rfl (by kernel_rfl) (fun _ _ _ h => h) (Or.inl ⟨by rfl, ?_⟩) ?_ ?_
    rotate_left
    ·intro w'
     go_simp
     with_reducible rfl
    rotate_left
    ·simp only [Act.put, List.setIfInBounds_toArray, List.set_cons_zero, List.set_cons_succ, i64_w, i32_w]
     rfl
    refine pure_ (i := 3) (N := some 3) (v := ?_) (a' := ?_) #[true, false, true, true, false] rfl rfl (by kernel_rfl) (fun _ _ _ h => h) (Or.inl ⟨by rfl, ?_⟩) ?_ ?_
    rotate_left
    ·intro w'
     go_simp
     with_reducible rfl
    rotate_left
    ·simp only [Act.put, List.setIfInBounds_toArray, List.set_cons_zero, List.set_cons_succ, i64_w, i32_w]
     rfl
    refine take_ (i := 1) (N := some 24) (v := ?_) (a' := ?_) #[true, true, true, true, false] rfl rfl (by kernel_rfl) (fun _ _ _ h => h) (Or.inl ⟨by rfl, ?_⟩) hHeld ?_ ?_
    rotate_left
    ·rintro w' ⟨s0, s1, s2⟩
     go_simp
     with_reducible rfl
    rotate_left
    ·simp only [Act.put, List.setIfInBounds_toArray, List.set_cons_zero, List.set_cons_succ, i64_w, i32_w]
     rfl
    refine one_ (i := 4) (N := none) #[true, true, true, true, true] rfl rfl (by kernel_rfl) (by decide) (fun K hK => ?_)
    have hs22 : w21.cell? ⟨gb1030, 0, none⟩ = some (.int .i64 0) := (blk_cell BK1030.out 0).trans rfl
    have hfs22 := blk_frozen BK1030.out 0
    have hns22_1 := NB1046_1030.out
    have hms22_1 := NB1030_1046.out
    have hs23 : w21.cell? ⟨gb1030, 1, none⟩ = some (.slice none 0 0) := (blk_cell BK1030.out 1).trans rfl
    have hfs23 := blk_frozen BK1030.out 1
    have hns23_1 := NB1046_1030.out
    have hms23_1 := NB1030_1046.out
    have hs24 : w21.cell? ⟨gb1030, 2, none⟩ = some (.slice none 0 0) := (blk_cell BK1030.out 2).trans rfl
    have hfs24 := blk_frozen BK1030.out 2
    have hns24_1 := NB1046_1030.out
    have hms24_1 := NB1030_1046.out
    refine skip_ (w1 := ?_) (by rfl) rfl ?_ ?_
    rotate_left
    ·go_simp
     rfl
    refine hK.out _ _ ⟨((cell_far (p := ⟨gb1030, _, none⟩) NB1046_1030.out _).trans (((cell_far (p := ⟨gb1030, _, none⟩) NB1046_1030.out _).trans (((cell_far (p := ⟨gb1030, _, none⟩) NB1046_1030.out _).trans (hHeld.1)))))), ((cell_far (p := ⟨gb1030, _, none⟩) NB1046_1030.out _).trans (((cell_far (p := ⟨gb1030, _, none⟩) NB1046_1030.out _).trans (((cell_far (p := ⟨gb1030, _, none⟩) NB1046_1030.out _).trans (hHeld.2.1)))))), ((cell_far (p := ⟨gb1030, _, none⟩) NB1046_1030.out _).trans (((cell_far (p := ⟨gb1030, _, none⟩) NB1046_1030.out _).trans (((cell_far (p := ⟨gb1030, _, none⟩) NB1046_1030.out _).trans (hHeld.2.2))))))⟩ (fun hHeld => ?_)
    clear hK K
    refine done_ (by kernel_rfl) ?_
    try go_wp2
    refine bodyPost_ret (results_list (rs := [.tmp 2, .tmp 3, .cell 4 42]) rfl (by simp) (.tmp (.tmp (.cell gb1030 42 #[.int .i64 t1037, .slice Ao13 t1038.length co13, .slice Ao14 t1041.length co14] (0, 0) _ rfl (by refine kK_ ?_; refine blk_put (cs := #[.int .i64 t1037, .slice Ao13 t1038.length co13, .slice none 0 0]) ?_ 2 _ rfl; refine kK_ ?_; refine blk_put (cs := #[.int .i64 t1037, .slice none 0 0, .slice none 0 0]) ?_ 1 _ rfl; refine kK_ ?_; refine blk_put (cs := #[.int .i64 0, .slice none 0 0, .slice none 0 0]) ?_ 0 _ rfl; exact rK_ BK1030.out) Tryd.underlying42 rfl (by kernel_rfl) .nil)))) rfl ?_
    exact ⟨_, _, by first | rfl | (simp [errW_none, errW_some] <;> rfl) | (simp [*, errW_none, errW_some] <;> rfl), by refine kR_ ?_; exact Kd.R_mono (Kd.R_far (Kd.R_far (Kd.R_far (Kd.R_types HO_1047001.out BK1030.out (by decide)) (fun _ hk => hk.2) _) (fun _ hk => hk.2) _) (fun _ hk => hk.2) _) (fun _ hk => hk.1), by refine kQ_ ?_; exact Kd.Q_mono (Kd.Q_far (p := ⟨gb1030, 2, none⟩) (Kd.Q_far (p := ⟨gb1030, 1, none⟩) (Kd.Q_far (p := ⟨gb1030, 0, none⟩) (Kd.Q_types HO_1047002.out BK1030.out (by decide)) (fun _ hk => hk.2) _) (fun _ hk => hk.2) _) (fun _ hk => hk.2) _) (fun _ hk => hk.1), (u7_ (IsS103.ge HI1034.out) GE1030.out GE1046.out)⟩
   ·replace c19 := Bool.eq_false_iff.mpr c19
    subst c19
    have H1 : ((spec_PublicOf.f kj4 t1035).bind fun t1053 => (some (t1053, x7_4, t1037, t1038, t1041))) = some (r1, r2, r3, r4, r5) := by rw [if_neg (show ¬ (false = true) by decide)] at H; exact H
    clear H
    have H := H1
    clear H1
    replace H := Option.bind_eq_some_iff.mp H
    obtain ⟨t1053, A250, H⟩ := H
    try dsimp -simprocs only at H
    have A25 := Aside0.mk A250
    clear A250
    simp only [Option.some.injEq, Prod.mk.injEq] at H
    obtain ⟨rfl, rfl, rfl, rfl, rfl⟩ := H
    try go_wp2_with (first | ((with_reducible refine gate_callee (f := 103) rfl ?_); refine goesL_ (some 22) rfl rfl Tryd.func103 (by kernel_rfl) rfl #[.pointer (some ⟨g1034, 0, none⟩), .int .i64 8] rfl aM_ ?_; (with_reducible refine (spec_l01Once.calls g1034 t1031 t1048 t1049 8 false t1051 t1052 w _ ?side1 ?side2 A18.out).mono ?_); (case side1 => exact u13_ NB1034_1030.out NB1034_1046.out); (case side2 => exact u7_ (IsS103.ge HI1034.out) GE1030.out GE1046.out); rintro e w26 ⟨rfl, hi, hb, hk⟩; refine ⟨_, rfl, ?_⟩; have n0_ := Aside0.mk (Kd.R_mono (Kd.R_keep (IsS103.apart (show IsS103 w _ g1034 t1031 t1048 t1049 from (u13_ NB1034_1030.out NB1034_1046.out)) (rR_ HO_1047001.out) (by decide)) hk (fun _ h => h.2)) (fun _ h => h.1)); have n1_ := Aside0.mk (Kd.Q_mono (Kd.Q_keep (IsS103.apartQ (show IsS103 w _ g1034 t1031 t1048 t1049 from (u13_ NB1034_1030.out NB1034_1046.out)) (rQ_ HO_1047002.out) (by decide)) hk (fun _ h => h.2)) (fun _ h => h.1)); have n2_ := Aside0.mk (KeepBut.blk hk (g' := gb1030) (o := .cells #[.int .i64 0, .slice none 0 0, .slice none 0 0] 42 (0, 0)) (rK_ BK1030.out) NB1030_1034.out (by simp)); have n3_ := Aside0.mk (KeepBut.blk hk (g' := gb1046) (o := .cells #[.int .i64 t1037, .slice Ao13 t1038.length co13, .slice Ao14 t1041.length co14] 42 (0, 0)) (rK_ BK1046.out) NB1046_1034.out (by simp)); have n4_ := Aside0.mk (hb); have n5_ := Aside0.mk (hi); replace HO_1047001 := n0_; replace HO_1047002 := n1_; replace BK1030 := n2_; replace BK1046 := n3_; replace HB := n4_; replace HI1034 := n5_; clear n0_ n1_ n2_ n3_ n4_ n5_; (try clear hb); (try clear hk); (try clear hi)))
    have n0_ := Aside0.mk (Kd.R_drew HO_1047001.out)
    have n1_ := Aside0.mk (Kd.Q_drew HO_1047002.out)
    have n2_ := Aside0.mk (blk_drew BK1030.out)
    have n3_ := Aside0.mk (blk_drew BK1046.out)
    have n4_ := Aside0.mk (IsS103.drew HI1034.out)
    have n5_ := Aside0.mk (below_drew1 HB.out)
    clear HO_1047001
    clear HO_1047002
    clear BK1030
    clear BK1046
    clear HI1034
    clear HB
    have HO_1047001 := n0_
    have HO_1047002 := n1_
    have BK1030 := n2_
    have BK1046 := n3_
    have HI1034 := n4_
    have HB := n5_
    clear n0_ n1_ n2_ n3_ n4_ n5_
    refine start_ (n := 7) (S := fun w' => w'.cell? ⟨gb1046, 0, none⟩ = some (.int .i64 t1037) ∧ w'.cell? ⟨gb1046, 1, none⟩ = some (.slice Ao13 t1038.length co13) ∧ w'.cell? ⟨gb1046, 2, none⟩ = some (.slice Ao14 t1041.length co14)) (ds := []) (bb_ 7 0) (by kernel_rfl) rfl rfl ⟨(blk_cell BK1046.out 0).trans rfl, (blk_cell BK1046.out 1).trans rfl, (blk_cell BK1046.out 2).trans rfl⟩ (fun hHeld => ?_)
    generalize w26.drew = w27 at HO_1047001 HO_1047002 BK1030 BK1046 HI1034 HB hHeld ⊢
    refine pB_ 0 25 (bb_ 7 1) ?_
    refine pB_ 2 27 (bb_ 7 5) ?_
    refine tS_ 3 28 (bb_ 7 13) (by kernel_rfl) hHeld ?_
    refine one_ (i := 1) (N := some 26) (bb_ 7 15) rfl rfl (by kernel_rfl) (by decide) (fun K hK => ?_)
    refine goes_ Tryd.func101 (by kernel_rfl) rfl #[.string t1035] (by rfl) rfl rfl aM_ ?_
    with_reducible refine (spec_PublicOf.calls kj4 t1035 t1053 _ A25.out).mono ?_
    rintro e w28 ⟨rfl, hb⟩
    refine ⟨_, rfl, ?_⟩
    have n0_ := Aside0.mk (Kd.R_below (rR_ HO_1047001.out) hb)
    have n1_ := Aside0.mk (Kd.Q_below (rQ_ HO_1047002.out) hb)
    have n2_ := Aside0.mk (blk_below (g := gb1030) (o := .cells #[.int .i64 0, .slice none 0 0, .slice none 0 0] 42 (0, 0)) (rK_ BK1030.out) hb)
    have n3_ := Aside0.mk (blk_below (g := gb1046) (o := .cells #[.int .i64 t1037, .slice Ao13 t1038.length co13, .slice Ao14 t1041.length co14] 42 (0, 0)) (rK_ BK1046.out) hb)
    have n4_ := Aside0.mk (IsS103.below ((u13_ NB1034_1030.out NB1034_1046.out)) hb)
    have n5_ := Aside0.mk (below_step ((u7_ (IsS103.ge HI1034.out) GE1030.out GE1046.out)) hb)
    clear HO_1047001
    clear HO_1047002
    clear BK1030
    clear BK1046
    clear HI1034
    clear HB
    have HO_1047001 := n0_
    have HO_1047002 := n1_
    have BK1030 := n2_
    have BK1046 := n3_
    have HI1034 := n4_
    have HB := n5_
    clear n0_ n1_ n2_ n3_ n4_ n5_
    (try clear hb)
    (try clear hb2)
    (try clear hk)
    (try clear hi)
    refine hK.out _ _ ⟨(blk_cell BK1046.out 0).trans rfl, (blk_cell BK1046.out 1).trans rfl, (blk_cell BK1046.out 2).trans rfl⟩ (fun hHeld => ?_)
    clear hK K
    refine norm_ (a' := ?_) ?_ ?_
    rotate_left
    ·show Act.put _ (some 26) _ = _
     simp only [Act.put, List.setIfInBounds_toArray, List.set_cons_zero, List.set_cons_succ, i64_w, i32_w]
     rfl
    refine pB_ 4 2 (bb_ 7 31) ?_
    refine pB_ 5 3 (bb_ 7 63) ?_
    refine one_ (i := 6) (N := none) (bb_ 7 127) rfl rfl (by kernel_rfl) (by decide) (fun K hK => ?_)
    have hs29 : w28.cell? ⟨gb1030, 0, none⟩ = some (.int .i64 0) := (blk_cell BK1030.out 0).trans rfl
    have hfs29 := blk_frozen BK1030.out 0
    have hns29_1 := NB1046_1030.out
    have hms29_1 := NB1030_1046.out
    have hs30 : w28.cell? ⟨gb1030, 1, none⟩ = some (.slice none 0 0) := (blk_cell BK1030.out 1).trans rfl
    have hfs30 := blk_frozen BK1030.out 1
    have hns30_1 := NB1046_1030.out
    have hms30_1 := NB1030_1046.out
    have hs31 : w28.cell? ⟨gb1030, 2, none⟩ = some (.slice none 0 0) := (blk_cell BK1030.out 2).trans rfl
    have hfs31 := blk_frozen BK1030.out 2
    have hns31_1 := NB1046_1030.out
    have hms31_1 := NB1030_1046.out
    refine skip_ (w1 := ?_) (by rfl) rfl ?_ ?_
    rotate_left
    ·go_simp
     rfl
    refine hK.out _ _ ⟨((cell_far (p := ⟨gb1030, _, none⟩) NB1046_1030.out _).trans (((cell_far (p := ⟨gb1030, _, none⟩) NB1046_1030.out _).trans (((cell_far (p := ⟨gb1030, _, none⟩) NB1046_1030.out _).trans (hHeld.1)))))), ((cell_far (p := ⟨gb1030, _, none⟩) NB1046_1030.out _).trans (((cell_far (p := ⟨gb1030, _, none⟩) NB1046_1030.out _).trans (((cell_far (p := ⟨gb1030, _, none⟩) NB1046_1030.out _).trans (hHeld.2.1)))))), ((cell_far (p := ⟨gb1030, _, none⟩) NB1046_1030.out _).trans (((cell_far (p := ⟨gb1030, _, none⟩) NB1046_1030.out _).trans (((cell_far (p := ⟨gb1030, _, none⟩) NB1046_1030.out _).trans (hHeld.2.2))))))⟩ (fun hHeld => ?_)
    clear hK K
    refine done_ (by kernel_rfl) ?_
    try go_wp2
    refine bodyPost_ret (results_list (rs := [.tmp 2, .tmp 3, .cell 4 42]) rfl (by simp) (.tmp (.tmp (.cell gb1030 42 #[.int .i64 t1037, .slice Ao13 t1038.length co13, .slice Ao14 t1041.length co14] (0, 0) _ rfl (by refine kK_ ?_; refine blk_put (cs := #[.int .i64 t1037, .slice Ao13 t1038.length co13, .slice none 0 0]) ?_ 2 _ rfl; refine kK_ ?_; refine blk_put (cs := #[.int .i64 t1037, .slice none 0 0, .slice none 0 0]) ?_ 1 _ rfl; refine kK_ ?_; refine blk_put (cs := #[.int .i64 0, .slice none 0 0, .slice none 0 0]) ?_ 0 _ rfl; exact rK_ BK1030.out) Tryd.underlying42 rfl (by kernel_rfl) .nil)))) rfl ?_
    exact ⟨_, _, by first | rfl | (simp [errW_none, errW_some] <;> rfl) | (simp [*, errW_none, errW_some] <;> rfl), by refine kR_ ?_; exact Kd.R_mono (Kd.R_far (Kd.R_far (Kd.R_far (Kd.R_types HO_1047001.out BK1030.out (by decide)) (fun _ hk => hk.2) _) (fun _ hk => hk.2) _) (fun _ hk => hk.2) _) (fun _ hk => hk.1), by refine kQ_ ?_; exact Kd.Q_mono (Kd.Q_far (p := ⟨gb1030, 2, none⟩) (Kd.Q_far (p := ⟨gb1030, 1, none⟩) (Kd.Q_far (p := ⟨gb1030, 0, none⟩) (Kd.Q_types HO_1047002.out BK1030.out (by decide)) (fun _ hk => hk.2) _) (fun _ hk => hk.2) _) (fun _ hk => hk.2) _) (fun _ hk => hk.1), (u7_ (IsS103.ge HI1034.out) GE1030.out GE1046.out)⟩

/-! ### spec_DrawReadSig: function 54 -/
def spec_DrawReadSig.f (k : Nat) (l0 : List Int) : Option (ByteArray) := (spec_l01New.f k l0).bind fun bt1074 => ((spec_l16Sig.f k bt1074.1 bt1074.2.1 bt1074.2.2).bind fun bt1078 => ((spec_SigText.f k bt1078.2.2.1 bt1078.2.2.2.1 bt1078.2.2.2.2.1).bind fun bt1090 => ((spec_l02Spoilt.f k bt1074.1 bt1078.2.2.2.2.2.1 bt1078.2.2.2.2.2.2 bt1090.1).bind fun bt1092 => (some bt1092.1))))
theorem spec_DrawReadSig.mono : ∀ a0 k, LeO (spec_DrawReadSig.f k a0) (spec_DrawReadSig.f (k + 1) a0) := by
 intro a0 k
 unfold spec_DrawReadSig.f
 repeat' first
   | (with_reducible exact spec_SigText.mono _ _ _ _)
   | (with_reducible exact spec_l01New.mono _ _)
   | (with_reducible exact spec_l02Spoilt.mono _ _ _ _ _)
   | (with_reducible exact spec_l16Sig.mono _ _ _ _)
   | (with_reducible exact LeO.refl _)
   | (with_reducible exact LeO.none _)
   | (with_reducible refine LeO.ite ?_ ?_)
   | (with_reducible refine LeO.bind ?_ (fun _ => ?_))
   | exact spec_SigText.mono _ _ _ _
   | exact spec_l01New.mono _ _
   | exact spec_l02Spoilt.mono _ _ _ _ _
   | exact spec_l16Sig.mono _ _ _ _
   | exact LeO.none _
   | refine LeO.ite ?_ ?_
   | refine LeO.bind ?_ (fun _ => ?_)
theorem spec_DrawReadSig.calls (k : Nat) (A0 : Option Addr) (c0 : Nat) (l0 : List Int) (r : ByteArray) (w : World) (hr0 : Kd.C (Kd.int .u8) w A0 l0.length l0) (hc0 : l0.length ≤ c0) (h : spec_DrawReadSig.f k l0 = some r) :
  Calls Tryd.prog 54 #[.slice A0 l0.length c0] w fun e w' => e = .returned (.string r) ∧ Below w.heap.size w w' := by
 have hu42 := Tryd.underlying42
 have HR0 := Aside0.mk hr0
 have HC0 := Aside0.mk hc0
 clear hr0 hc0
 have HB := Aside0.mk (Below.refl w.heap.size w)
 have H : ((spec_l01New.f k l0).bind fun bt1074 => ((spec_l16Sig.f k bt1074.1 bt1074.2.1 bt1074.2.2).bind fun bt1078 => ((spec_SigText.f k bt1078.2.2.1 bt1078.2.2.2.1 bt1078.2.2.2.2.1).bind fun bt1090 => ((spec_l02Spoilt.f k bt1074.1 bt1078.2.2.2.2.2.1 bt1078.2.2.2.2.2.2 bt1090.1).bind fun bt1092 => (some bt1092.1))))) = some r := h
 clear h
 replace H := Option.bind_eq_some_iff.mp H
 obtain ⟨⟨t1074, t1075, t1076⟩, A20, H⟩ := H
 try dsimp -simprocs only at H
 have A2 := Aside0.mk A20
 clear A20
 replace H := Option.bind_eq_some_iff.mp H
 obtain ⟨⟨t1078, t1079, t1080, t1081, t1084, t1087, t1088⟩, A30, H⟩ := H
 try dsimp -simprocs only at H
 have A3 := Aside0.mk A30
 clear A30
 replace H := Option.bind_eq_some_iff.mp H
 obtain ⟨⟨t1090, t1091⟩, A40, H⟩ := H
 try dsimp -simprocs only at H
 have A4 := Aside0.mk A40
 clear A40
 replace H := Option.bind_eq_some_iff.mp H
 obtain ⟨⟨t1092, t1093, t1094⟩, A50, H⟩ := H
 try dsimp -simprocs only at H
 have A5 := Aside0.mk A50
 clear A50
 obtain rfl := Option.some.inj H
 go_enter Tryd.func54, Tryd.ntmps54
 go_wp2_with (first | ((with_reducible refine gate_callee (f := 77) rfl ?_); refine goesL_ (some 10) rfl rfl Tryd.func77 (by kernel_rfl) rfl #[.slice A0 l0.length c0] rfl aM_ ?_; (with_reducible refine (spec_l01New.calls k _ _ l0 t1074 t1075 t1076 w _ ?side1 ?side2 ?side3 A2.out).mono ?_); (case side1 => exact u14_); (case side2 => exact HR0.out); (case side3 => exact HC0.out); rintro e w6 ⟨g1077, rfl, hi, hb, hb2⟩; refine ⟨_, rfl, ?_⟩; have n0_ := Aside0.mk (hb); have n1_ := Aside0.mk (hi); replace HB := n0_; have HI1077 := n1_; clear n0_ n1_; (try clear hb); (try clear hb2); (try clear hi)) | ((with_reducible refine gate_callee (f := 102) rfl ?_); refine goesL_ (some 13) rfl rfl Tryd.func102 (by kernel_rfl) rfl #[.pointer (some ⟨g1077, 0, none⟩)] rfl aM_ ?_; (with_reducible refine (spec_l16Sig.calls k g1077 t1074 t1075 t1076 t1078 t1079 t1080 t1081 t1084 t1087 t1088 w _ ?side1 ?side2 A3.out).mono ?_); (case side1 => exact u15_); (case side2 => exact u3_ (IsS103.ge HI1077.out)); rintro e w7 ⟨v1082, v1085, rfl, ho0, ho1, hi, hb, hk⟩; refine ⟨_, rfl, ?_⟩; have n0_ := Aside0.mk (Kd.R_lower ho0 (below_size ((u3_ (IsS103.ge HI1077.out))))); have n1_ := Aside0.mk (Kd.Q_lower ho1 (below_size ((u3_ (IsS103.ge HI1077.out))))); have n2_ := Aside0.mk (hb); have n3_ := Aside0.mk (hi); have HO1083 := n0_; have HO1086 := n1_; replace HB := n2_; replace HI1077 := n3_; clear n0_ n1_ n2_ n3_; (try clear hb); (try clear hk); (try clear hi); (try clear ho0); (try clear ho1)) | ((with_reducible refine gate_dst (N := 6) rfl ?_); refine box_event ?hg (N := 6) ?hd (cs := #[.int .i64 0, .slice none 0 0, .slice none 0 0]) (t := 42) ?hr ?_; (case hd => rfl); (case hg => rfl); (case hr => first | (go_simp; done) | (go_simp; rfl)); intro gb1089 hg w8 hbox hb; have n0_ := Aside0.mk (Kd.R_below (rR_ HO1083.out) hb); have n1_ := Aside0.mk (Kd.Q_below (rQ_ HO1086.out) hb); have n2_ := Aside0.mk (IsS103.below ((u15_)) hb); have n3_ := Aside0.mk (below_step ((u3_ (IsS103.ge HI1077.out))) hb); have n4_ := Aside0.mk (hbox); have n5_ := Aside0.mk ((by rw [hg]; exact (below_size ((u3_ (IsS103.ge HI1077.out)))) : w.heap.size ≤ gb1089)); have n6_ := Aside0.mk ((by rw [hg]; exact (below_size ((u3_ (IsS103.ge HI1077.out)))) : w.heap.size ≤ gb1089)); have n7_ := Aside0.mk ((by rw [hg]; exact Nat.ne_of_lt (IsS103.lt (show IsS103 w _ g1077 t1074 t1087 t1088 from (u15_))) : g1077 ≠ gb1089)); have n8_ := Aside0.mk ((by rw [hg]; exact Nat.ne_of_gt (IsS103.lt (show IsS103 w _ g1077 t1074 t1087 t1088 from (u15_))) : gb1089 ≠ g1077)); replace HO1083 := n0_; replace HO1086 := n1_; replace HI1077 := n2_; replace HB := n3_; have BK1089 := n4_; have GW1089 := n5_; have GE1089 := n6_; have NB1077_1089 := n7_; have NB1089_1077 := n8_; clear n0_ n1_ n2_ n3_ n4_ n5_ n6_ n7_ n8_; clear hb hbox hg; have hnb9 := NB1089_1077.out; have hnc9 := NB1077_1089.out; have hcz10_0 : w8.cell? ⟨gb1089, 0, none⟩ = some (.int .i64 0) := (blk_cell BK1089.out 0).trans rfl; have hcz10_1 : w8.cell? ⟨gb1089, 1, none⟩ = some (.slice none 0 0) := (blk_cell BK1089.out 1).trans rfl; have hcz10_2 : w8.cell? ⟨gb1089, 2, none⟩ = some (.slice none 0 0) := (blk_cell BK1089.out 2).trans rfl; have hfz10_0 := blk_frozen BK1089.out 0; have hfz10_1 := blk_frozen BK1089.out 1; have hfz10_2 := blk_frozen BK1089.out 2; obtain ⟨Ao11, co11, eo11⟩ := Kd.R_slice HO1083.out; subst eo11; obtain ⟨Ao12, co12, eo12, _⟩ := Kd.Q_slice HO1086.out; subst eo12) | ((with_reducible refine gate_callee (f := 104) rfl ?_); refine goesL_ (some 19) rfl rfl Tryd.func104 (by kernel_rfl) rfl #[.agg #[.int .i64 t1080, .slice Ao11 t1081.length co11, .slice Ao12 t1084.length co12]] rfl aM_ ?_; (with_reducible refine (spec_SigText.calls k t1080 _ _ t1081 _ _ t1084 t1090 t1091 _ ?side1 ?side2 ?side3 ?side4 A4.out).mono ?_); (case side1 => refine (Kd.R_reads' (e := 9) (base := w.heap.size) (ok := fun k_ => some k_ ≠ (.slice Ao12 t1084.length co12 : Value).ownBlock) (n := t1081.length) (c := co11) ?_).2.2; exact (by refine kR_ ?_; exact (Kd.R_mono (Kd.R_far (Kd.R_far (Kd.R_far (Kd.R_types HO1083.out BK1089.out (by decide)) (fun _ hk => hk.2) _) (fun _ hk => hk.2) _) (fun _ hk => hk.2) _) (fun _ h_ => h_.1)))); (case side2 => exact (Kd.R_reads' HO1083.out).2.1); (case side3 => refine (Kd.Q_reads' (e := 9) (base := w.heap.size) (ok := fun k_ => some k_ ≠ (.slice Ao11 t1081.length co11 : Value).ownBlock) (n := t1084.length) (c := co12) ?_).2.2; exact (by refine kQ_ ?_; exact (Kd.Q_mono (Kd.Q_far (p := ⟨gb1089, 2, none⟩) (Kd.Q_far (p := ⟨gb1089, 1, none⟩) (Kd.Q_far (p := ⟨gb1089, 0, none⟩) (Kd.Q_types HO1086.out BK1089.out (by decide)) (fun _ hk => hk.2) _) (fun _ hk => hk.2) _) (fun _ hk => hk.2) _) (fun _ h_ => h_.1)))); (case side4 => exact (Kd.Q_reads' HO1086.out).2.1); rintro e w13 ⟨rfl, hb⟩; refine ⟨_, rfl, ?_⟩; have n0_ := Aside0.mk (Kd.R_below (by refine kR_ ?_; exact (Kd.R_mono (Kd.R_far (Kd.R_far (Kd.R_far (Kd.R_types HO1083.out BK1089.out (by decide)) (fun _ hk => hk.2) _) (fun _ hk => hk.2) _) (fun _ hk => hk.2) _) (fun _ h_ => h_.1))) hb); have n1_ := Aside0.mk (Kd.Q_below (by refine kQ_ ?_; exact (Kd.Q_mono (Kd.Q_far (p := ⟨gb1089, 2, none⟩) (Kd.Q_far (p := ⟨gb1089, 1, none⟩) (Kd.Q_far (p := ⟨gb1089, 0, none⟩) (Kd.Q_types HO1086.out BK1089.out (by decide)) (fun _ hk => hk.2) _) (fun _ hk => hk.2) _) (fun _ hk => hk.2) _) (fun _ h_ => h_.1))) hb); have n2_ := Aside0.mk (IsS103.below (show IsS103 w (((w8.setCell ⟨gb1089, 0, none⟩ (.int .i64 t1080)).setCell ⟨gb1089, 1, none⟩ (.slice Ao11 t1081.length co11)).setCell ⟨gb1089, 2, none⟩ (.slice Ao12 t1084.length co12)) g1077 t1074 t1087 t1088 from (u16_ NB1077_1089.out)) hb); have n3_ := Aside0.mk (blk_below (g := gb1089) (o := .cells #[.int .i64 t1080, .slice Ao11 t1081.length co11, .slice Ao12 t1084.length co12] 42 (0, 0)) (by refine kK_ ?_; refine blk_put (cs := #[.int .i64 t1080, .slice Ao11 t1081.length co11, .slice none 0 0]) ?_ 2 _ rfl; refine kK_ ?_; refine blk_put (cs := #[.int .i64 t1080, .slice none 0 0, .slice none 0 0]) ?_ 1 _ rfl; refine kK_ ?_; refine blk_put (cs := #[.int .i64 0, .slice none 0 0, .slice none 0 0]) ?_ 0 _ rfl; exact rK_ BK1089.out) hb); have n4_ := Aside0.mk (below_step ((u0_ (IsS103.ge HI1077.out) GE1089.out)) hb); replace HO1083 := n0_; replace HO1086 := n1_; replace HI1077 := n2_; replace BK1089 := n3_; replace HB := n4_; clear n0_ n1_ n2_ n3_ n4_; (try clear hb)) | ((with_reducible refine gate_callee (f := 105) rfl ?_); refine goesL_ (some 24) rfl rfl Tryd.func105 (by kernel_rfl) rfl #[.pointer (some ⟨g1077, 0, none⟩), .string t1090] rfl aM_ ?_; (with_reducible refine (spec_l02Spoilt.calls k g1077 t1074 t1087 t1088 t1090 t1092 t1093 t1094 w _ ?side1 ?side2 A5.out).mono ?_); (case side1 => exact u16_ NB1077_1089.out); (case side2 => exact u0_ (IsS103.ge HI1077.out) GE1089.out); rintro e w14 ⟨rfl, hi, hb, hk⟩; refine ⟨_, rfl, ?_⟩; have n0_ := Aside0.mk (Kd.R_mono (Kd.R_keep (IsS103.apart (show IsS103 w _ g1077 t1074 t1087 t1088 from (u16_ NB1077_1089.out)) (rR_ HO1083.out) (by decide)) hk (fun _ h => h.2)) (fun _ h => h.1)); have n1_ := Aside0.mk (Kd.Q_mono (Kd.Q_keep (IsS103.apartQ (show IsS103 w _ g1077 t1074 t1087 t1088 from (u16_ NB1077_1089.out)) (rQ_ HO1086.out) (by decide)) hk (fun _ h => h.2)) (fun _ h => h.1)); have n2_ := Aside0.mk (KeepBut.blk hk (g' := gb1089) (o := .cells #[.int .i64 t1080, .slice Ao11 t1081.length co11, .slice Ao12 t1084.length co12] 42 (0, 0)) (rK_ BK1089.out) NB1089_1077.out (by simp)); have n3_ := Aside0.mk (hb); have n4_ := Aside0.mk (hi); replace HO1083 := n0_; replace HO1086 := n1_; replace BK1089 := n2_; replace HB := n3_; replace HI1077 := n4_; clear n0_ n1_ n2_ n3_ n4_; (try clear hb); (try clear hk); (try clear hi)))
 go_ret
 exact ⟨by first | rfl | (simp [errW_none, errW_some] <;> rfl) | (simp [*, errW_none, errW_some] <;> rfl), (u0_ (IsS103.ge HI1077.out) GE1089.out)⟩

end Go.Proofs.YtjcmafoepabpkaaDoor.P
