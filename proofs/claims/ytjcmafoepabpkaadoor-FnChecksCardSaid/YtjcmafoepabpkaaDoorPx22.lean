-- printed texts of this session, regrouped
import Derived.Test.YtjcmafoepabpkaaDoorMW7
import Derived.Test.YtjcmafoepabpkaaDoorMW8
import Derived.Test.YtjcmafoepabpkaaDoorMW9
import Derived.Test.YtjcmafoepabpkaaDoorMW6
import Derived.Test.YtjcmafoepabpkaaDoorPx0
import Derived.Test.YtjcmafoepabpkaaDoorPx4
import Derived.Test.YtjcmafoepabpkaaDoorPx16
namespace Go.Proofs.YtjcmafoepabpkaaDoor.P
open Go.RowKit Go.Proofs.YtjcmafoepabpkaaDoorW.PrintWords Go.Proofs.YtjcmafoepabpkaaDoorW.PrintLast Go.Proofs.YtjcmafoepabpkaaDoorW.PrintMore
attribute [local go_sem] max2_int min2_int max_two min_two max_three min_three max_four min_four   -- for this text's walks alone
set_option linter.unusedVariables false
set_option linter.unusedSimpArgs false

/-! ### spec_l16Sig: function 102 -/
def spec_l16Sig.f (k : Nat) (s0_0 : List Int) (s0_1 : Int) (s0_2 : Int) : Option (ByteArray × ByteArray × Int × List ByteArray × List ByteArray × Int × Int) := (spec_l16Seed.f s0_0 s0_1 s0_2).bind fun bt974 => ((spec_l01Below.f s0_0 bt974.2.1 bt974.2.2 4).bind fun bt977 => ((spec_l01Text.f k s0_0 bt977.2.1 bt977.2.2 bt977.1).bind fun bt980 => ((spec_l01Below.f s0_0 bt980.2.1 bt980.2.2 4).bind fun bt983 => ((spec_SignAt.f k bt974.1 bt983.1 bt980.1).bind fun bt986 => ((spec_l01Below.f s0_0 bt983.2.1 bt983.2.2 12).bind fun bt995 => (if bt995.1 = 0 then ((spec_l01PickInt.f s0_0 bt995.2.1 bt995.2.2 (([(-1), 0, 4] : List Int))).bind fun bt1001 => (some (bt974.1, bt980.1, bt1001.1, bt986.2.1, bt986.2.2.1, bt1001.2.1, bt1001.2.2))) else (if bt995.1 = 1 then ((spec_l01Below.f s0_0 bt995.2.1 bt995.2.2 10).bind fun bt1004 => ((spec_l01PickInt.f s0_0 bt1004.2.1 bt1004.2.2 (([3, 4, 4] : List Int))).bind fun bt1010 => ((spec_l01Text.f k s0_0 bt1010.2.1 bt1010.2.2 bt1010.1).bind fun bt1013 => (if 0 ≤ bt1004.1 then (if bt1004.1 < (bt986.2.1.length : Int) then (some (bt974.1, bt980.1, bt986.1, (bt986.2.1.set (bt1004.1 : Int).toNat bt1013.1), bt986.2.2.1, bt1013.2.1, bt1013.2.2)) else (none)) else (none))))) else (if bt995.1 = 2 then ((spec_l01PickInt.f s0_0 bt995.2.1 bt995.2.2 (([4, 4, 5] : List Int))).bind fun bt1020 => ((spec_l01Text.f k s0_0 bt1020.2.1 bt1020.2.2 bt1020.1).bind fun bt1023 => (if 0 < (bt986.2.2.1.length : Int) then (some (bt974.1, bt980.1, bt986.1, bt986.2.1, (bt986.2.2.1.set (0 : Int).toNat bt1023.1), bt1023.2.1, bt1023.2.2)) else (none)))) else (if bt995.1 = 3 then (if 1 ≤ (bt986.2.2.1.length : Int) then (some (bt974.1, bt980.1, bt986.1, bt986.2.1, (bt986.2.2.1.drop (1 : Int).toNat), bt995.2.1, bt995.2.2)) else (none)) else (some (bt974.1, bt980.1, bt986.1, bt986.2.1, bt986.2.2.1, bt995.2.1, bt995.2.2)))))))))))
theorem spec_l16Sig.mono : ∀ a0 a1 a2 k, LeO (spec_l16Sig.f k a0 a1 a2) (spec_l16Sig.f (k + 1) a0 a1 a2) := by
 intro a0 a1 a2 k
 unfold spec_l16Sig.f
 repeat' first
   | (with_reducible exact spec_SignAt.mono _ _ _ _)
   | (with_reducible exact spec_l01Text.mono _ _ _ _ _)
   | (with_reducible exact LeO.refl _)
   | (with_reducible exact LeO.none _)
   | (with_reducible refine LeO.ite ?_ ?_)
   | (with_reducible refine LeO.bind ?_ (fun _ => ?_))
   | exact spec_SignAt.mono _ _ _ _
   | exact spec_l01Text.mono _ _ _ _ _
   | exact LeO.none _
   | refine LeO.ite ?_ ?_
   | refine LeO.bind ?_ (fun _ => ?_)
def spec_l16Sig.T8 : Bool × List (List Nat × List Nat) := (true, [([], []), ([0], [0]), ([], []), ([2], [2]), ([], []), ([], []), ([], []), ([5, 6, 3], [5, 6]), ([4, 7, 7], [4, 7]), ([1, 3, 0, 1, 2, 3, 4, 5, 6, 7, 8], [1, 3]), ([9, 8, 8, 0, 1, 2, 3, 4, 5, 6, 7, 8], [8, 9])])
def spec_l16Sig.B8 : List Nat := [0, 1, 0, 4, 0, 0, 0, 108, 252, 511, 1023]
theorem spec_l16Sig.tab8 : rtab .any (opsOf Tryd.f102 8) = spec_l16Sig.T8 := by kernel_rfl
theorem spec_l16Sig.bits8 : waitsOk spec_l16Sig.T8.2 spec_l16Sig.B8 = true := by kernel_rfl
def spec_l16Sig.T10 : Bool × List (List Nat × List Nat) := (true, [([], []), ([0], [0]), ([], []), ([], []), ([], []), ([3, 4], [3, 4]), ([2, 5, 5], [2, 5]), ([1, 0, 1, 2, 3, 4, 5, 6], [1]), ([7, 6, 6, 0, 1, 2, 3, 4, 5, 6], [6, 7])])
def spec_l16Sig.B10 : List Nat := [0, 1, 0, 0, 0, 24, 60, 127, 255]
theorem spec_l16Sig.tab10 : rtab .any (opsOf Tryd.f102 10) = spec_l16Sig.T10 := by kernel_rfl
theorem spec_l16Sig.bits10 : waitsOk spec_l16Sig.T10.2 spec_l16Sig.B10 = true := by kernel_rfl
set_option maxHeartbeats 8000000 in
set_option maxRecDepth 100000 in
theorem spec_l16Sig.calls (k : Nat) (g : Nat) (s0_0 : List Int) (s0_1 : Int) (s0_2 : Int) (r1 : ByteArray) (r2 : ByteArray) (r3 : Int) (r4 : List ByteArray) (r5 : List ByteArray) (r6 : Int) (r7 : Int) (w0 w : World) (hI : IsS103 w0 w g s0_0 s0_1 s0_2) (hB : Below w0.heap.size w0 w) (h : spec_l16Sig.f k s0_0 s0_1 s0_2 = some (r1, r2, r3, r4, r5, r6, r7)) :
  Calls Tryd.prog 102 #[.pointer (some ⟨g, 0, none⟩)] w fun e w' => ∃ v3_ v4_ : Value, e = .returned (.tuple #[.string r1, .string r2, .agg #[.int .i64 r3, v3_, v4_]]) ∧ Kd.R Kd.string 9 w' w.heap.size (fun k_ => some k_ ≠ (v4_ : Value).ownBlock) v3_ r4 ∧ Kd.Q Kd.string 9 w' w.heap.size (fun k_ => some k_ ≠ (v3_ : Value).ownBlock) v4_ r5 ∧ IsS103 w0 w' g s0_0 r6 r7 ∧ Below w0.heap.size w0 w' ∧ KeepBut w w' g none := by
 have hu42 := Tryd.underlying42
 have HI0 := Aside0.mk hI
 have HK := Aside0.mk (KeepBut.refl w g none)
 have HL := Aside0.mk hB.size
 clear hI
 have HW0 := Aside0.mk hB.size
 have HB := Aside0.mk hB
 clear hB
 have H : ((spec_l16Seed.f s0_0 s0_1 s0_2).bind fun bt974 => ((spec_l01Below.f s0_0 bt974.2.1 bt974.2.2 4).bind fun bt977 => ((spec_l01Text.f k s0_0 bt977.2.1 bt977.2.2 bt977.1).bind fun bt980 => ((spec_l01Below.f s0_0 bt980.2.1 bt980.2.2 4).bind fun bt983 => ((spec_SignAt.f k bt974.1 bt983.1 bt980.1).bind fun bt986 => ((spec_l01Below.f s0_0 bt983.2.1 bt983.2.2 12).bind fun bt995 => (if bt995.1 = 0 then ((spec_l01PickInt.f s0_0 bt995.2.1 bt995.2.2 (([(-1), 0, 4] : List Int))).bind fun bt1001 => (some (bt974.1, bt980.1, bt1001.1, bt986.2.1, bt986.2.2.1, bt1001.2.1, bt1001.2.2))) else (if bt995.1 = 1 then ((spec_l01Below.f s0_0 bt995.2.1 bt995.2.2 10).bind fun bt1004 => ((spec_l01PickInt.f s0_0 bt1004.2.1 bt1004.2.2 (([3, 4, 4] : List Int))).bind fun bt1010 => ((spec_l01Text.f k s0_0 bt1010.2.1 bt1010.2.2 bt1010.1).bind fun bt1013 => (if 0 ≤ bt1004.1 then (if bt1004.1 < (bt986.2.1.length : Int) then (some (bt974.1, bt980.1, bt986.1, (bt986.2.1.set (bt1004.1 : Int).toNat bt1013.1), bt986.2.2.1, bt1013.2.1, bt1013.2.2)) else (none)) else (none))))) else (if bt995.1 = 2 then ((spec_l01PickInt.f s0_0 bt995.2.1 bt995.2.2 (([4, 4, 5] : List Int))).bind fun bt1020 => ((spec_l01Text.f k s0_0 bt1020.2.1 bt1020.2.2 bt1020.1).bind fun bt1023 => (if 0 < (bt986.2.2.1.length : Int) then (some (bt974.1, bt980.1, bt986.1, bt986.2.1, (bt986.2.2.1.set (0 : Int).toNat bt1023.1), bt1023.2.1, bt1023.2.2)) else (none)))) else (if bt995.1 = 3 then (if 1 ≤ (bt986.2.2.1.length : Int) then (some (bt974.1, bt980.1, bt986.1, bt986.2.1, (bt986.2.2.1.drop (1 : Int).toNat), bt995.2.1, bt995.2.2)) else (none)) else (some (bt974.1, bt980.1, bt986.1, bt986.2.1, bt986.2.2.1, bt995.2.1, bt995.2.2)))))))))))) = some (r1, r2, r3, r4, r5, r6, r7) := h
 clear h
 replace H := Option.bind_eq_some_iff.mp H
 obtain ⟨⟨t974, t975, t976⟩, A20, H⟩ := H
 try dsimp -simprocs only at H
 have A2 := Aside0.mk A20
 clear A20
 replace H := Option.bind_eq_some_iff.mp H
 obtain ⟨⟨t977, t978, t979⟩, A30, H⟩ := H
 try dsimp -simprocs only at H
 have A3 := Aside0.mk A30
 clear A30
 replace H := Option.bind_eq_some_iff.mp H
 obtain ⟨⟨t980, t981, t982⟩, A40, H⟩ := H
 try dsimp -simprocs only at H
 have A4 := Aside0.mk A40
 clear A40
 replace H := Option.bind_eq_some_iff.mp H
 obtain ⟨⟨t983, t984, t985⟩, A50, H⟩ := H
 try dsimp -simprocs only at H
 have A5 := Aside0.mk A50
 clear A50
 replace H := Option.bind_eq_some_iff.mp H
 obtain ⟨⟨t986, t987, t990, t993⟩, A60, H⟩ := H
 try dsimp -simprocs only at H
 have A6 := Aside0.mk A60
 clear A60
 replace H := Option.bind_eq_some_iff.mp H
 obtain ⟨⟨t995, t996, t997⟩, A70, H⟩ := H
 try dsimp -simprocs only at H
 have A7 := Aside0.mk A70
 clear A70
 by_cases c8 : t995 = 0
 ·rw [if_pos c8] at H
  have c8b0 : (t995 == 0) = true := beq_iff_eq.mpr c8
  have c8b1 : (t995 != 0) = false := bne_eq_false_iff_eq.mpr c8
  clear c8
  obtain ⟨y998, hy998⟩ : ∃ y_ : List Int, y_ = (([(-1), 0, 4] : List Int)) := ⟨_, rfl⟩
  replace H : ((spec_l01PickInt.f s0_0 t996 t997 y998).bind fun bt1001 => (some (t974, t980, bt1001.1, t987, t990, bt1001.2.1, bt1001.2.2))) = some (r1, r2, r3, r4, r5, r6, r7) := by first | (rw [hy998]; with_reducible exact H) | (have H2_ := (Option.bind_some _ _).symm.trans H; rw [hy998]; with_reducible exact H2_) | (have H2_ := (Option.bind_some _ _).symm.trans H; with_reducible exact H2_) | with_reducible exact H | (rw [hy998]; exact H) | exact H
  have Ny998 := Aside0.mk hy998
  clear hy998
  replace H := Option.bind_eq_some_iff.mp H
  obtain ⟨⟨t1001, t1002, t1003⟩, A90, H⟩ := H
  try dsimp -simprocs only at H
  have A9 := Aside0.mk A90
  clear A90
  simp only [Option.some.injEq, Prod.mk.injEq] at H
  obtain ⟨rfl, rfl, rfl, rfl, rfl, rfl, rfl⟩ := H
  go_enter Tryd.func102, Tryd.ntmps102
  try go_wp2_with (first | ((with_reducible refine gate_dst (N := 4) rfl ?_); refine box_event ?hg (N := 4) ?hd (cs := #[.int .i64 0, .slice none 0 0, .slice none 0 0]) (t := 42) ?hr ?_; (case hd => rfl); (case hg => rfl); (case hr => first | (go_simp; done) | (go_simp; rfl)); intro gb973 hg w10 hbox hb; have n0_ := Aside0.mk (IsS103.below ((u1_)) hb); have n1_ := Aside0.mk (KeepBut.trans ((u2_)) (KeepBut.of_below hb g none) (.inl rfl)); have n2_ := Aside0.mk (below_step ((u3_ (IsS103.ge HI0.out))) hb); have n3_ := Aside0.mk (hbox); have n4_ := Aside0.mk ((by rw [hg]; exact (keep_size (w := w) (g := g) (row := none) ((u2_))) : w.heap.size ≤ gb973)); have n5_ := Aside0.mk ((Nat.le_trans HW0.out (by rw [hg]; exact (keep_size (w := w) (g := g) (row := none) ((u2_))) : w.heap.size ≤ gb973) : w0.heap.size ≤ gb973)); have n6_ := Aside0.mk ((by rw [hg]; exact Nat.ne_of_lt (IsS103.lt (show IsS103 w0 _ g s0_0 s0_1 s0_2 from (u1_))) : g ≠ gb973)); have n7_ := Aside0.mk ((by rw [hg]; exact Nat.ne_of_gt (IsS103.lt (show IsS103 w0 _ g s0_0 s0_1 s0_2 from (u1_))) : gb973 ≠ g)); replace HI0 := n0_; replace HK := n1_; replace HB := n2_; have BK973 := n3_; have GW973 := n4_; have GE973 := n5_; have NB0_973 := n6_; have NB973_0 := n7_; clear n0_ n1_ n2_ n3_ n4_ n5_ n6_ n7_; clear hb hbox hg) | ((with_reducible refine gate_callee (f := 94) rfl ?_); refine goesL_ (some 10) rfl rfl Tryd.func94 (by kernel_rfl) rfl #[.pointer (some ⟨g, 0, none⟩)] rfl aM_ ?_; (with_reducible refine (spec_l16Seed.calls g s0_0 s0_1 s0_2 t974 t975 t976 w0 _ ?side1 ?side2 A2.out).mono ?_); (case side1 => exact u4_ NB0_973.out); (case side2 => exact u0_ (IsS103.ge HI0.out) GE973.out); rintro e w11 ⟨rfl, hi, hb, hk⟩; refine ⟨_, rfl, ?_⟩; have n0_ := Aside0.mk (KeepBut.blk hk (g' := gb973) (o := .cells #[.int .i64 0, .slice none 0 0, .slice none 0 0] 42 (0, 0)) (rK_ BK973.out) NB973_0.out (by simp)); have n1_ := Aside0.mk (KeepBut.trans ((u5_ GW973.out)) hk (.inl rfl)); have n2_ := Aside0.mk (hb); have n3_ := Aside0.mk (hi); replace BK973 := n0_; replace HK := n1_; replace HB := n2_; replace HI0 := n3_; clear n0_ n1_ n2_ n3_; (try clear hb); (try clear hk); (try clear hi)) | ((with_reducible refine gate_callee (f := 96) rfl ?_); refine goesL_ (some 13) rfl rfl Tryd.func96 (by kernel_rfl) rfl #[.pointer (some ⟨g, 0, none⟩), .int .i64 4] rfl aM_ ?_; (with_reducible refine (spec_l01Below.calls g s0_0 t975 t976 4 t977 t978 t979 w0 _ ?side1 ?side2 A3.out).mono ?_); (case side1 => exact u4_ NB0_973.out); (case side2 => exact u0_ (IsS103.ge HI0.out) GE973.out); rintro e w12 ⟨rfl, hi, hb, hk⟩; refine ⟨_, rfl, ?_⟩; have n0_ := Aside0.mk (KeepBut.blk hk (g' := gb973) (o := .cells #[.int .i64 0, .slice none 0 0, .slice none 0 0] 42 (0, 0)) (rK_ BK973.out) NB973_0.out (by simp)); have n1_ := Aside0.mk (KeepBut.trans ((u5_ GW973.out)) hk (.inl rfl)); have n2_ := Aside0.mk (hb); have n3_ := Aside0.mk (hi); replace BK973 := n0_; replace HK := n1_; replace HB := n2_; replace HI0 := n3_; clear n0_ n1_ n2_ n3_; (try clear hb); (try clear hk); (try clear hi)) | ((with_reducible refine gate_callee (f := 95) rfl ?_); refine goesL_ (some 14) rfl rfl Tryd.func95 (by kernel_rfl) rfl #[.pointer (some ⟨g, 0, none⟩), .int .i64 t977] rfl aM_ ?_; (with_reducible refine (spec_l01Text.calls k g s0_0 t978 t979 t977 t980 t981 t982 w0 _ ?side1 ?side2 A4.out).mono ?_); (case side1 => exact u4_ NB0_973.out); (case side2 => exact u0_ (IsS103.ge HI0.out) GE973.out); rintro e w13 ⟨rfl, hi, hb, hk⟩; refine ⟨_, rfl, ?_⟩; have n0_ := Aside0.mk (KeepBut.blk hk (g' := gb973) (o := .cells #[.int .i64 0, .slice none 0 0, .slice none 0 0] 42 (0, 0)) (rK_ BK973.out) NB973_0.out (by simp)); have n1_ := Aside0.mk (KeepBut.trans ((u5_ GW973.out)) hk (.inl rfl)); have n2_ := Aside0.mk (hb); have n3_ := Aside0.mk (hi); replace BK973 := n0_; replace HK := n1_; replace HB := n2_; replace HI0 := n3_; clear n0_ n1_ n2_ n3_; (try clear hb); (try clear hk); (try clear hi)) | ((with_reducible refine gate_callee (f := 96) rfl ?_); refine goesL_ (some 18) rfl rfl Tryd.func96 (by kernel_rfl) rfl #[.pointer (some ⟨g, 0, none⟩), .int .i64 4] rfl aM_ ?_; (with_reducible refine (spec_l01Below.calls g s0_0 t981 t982 4 t983 t984 t985 w0 _ ?side1 ?side2 A5.out).mono ?_); (case side1 => exact u4_ NB0_973.out); (case side2 => exact u0_ (IsS103.ge HI0.out) GE973.out); rintro e w14 ⟨rfl, hi, hb, hk⟩; refine ⟨_, rfl, ?_⟩; have n0_ := Aside0.mk (KeepBut.blk hk (g' := gb973) (o := .cells #[.int .i64 0, .slice none 0 0, .slice none 0 0] 42 (0, 0)) (rK_ BK973.out) NB973_0.out (by simp)); have n1_ := Aside0.mk (KeepBut.trans ((u5_ GW973.out)) hk (.inl rfl)); have n2_ := Aside0.mk (hb); have n3_ := Aside0.mk (hi); replace BK973 := n0_; replace HK := n1_; replace HB := n2_; replace HI0 := n3_; clear n0_ n1_ n2_ n3_; (try clear hb); (try clear hk); (try clear hi)) | ((with_reducible refine gate_callee (f := 38) rfl ?_); refine goesL_ (some 20) rfl rfl Tryd.func38 (by kernel_rfl) rfl #[.string t974, .int .i64 t983, .string t980] rfl aM_ ?_; (with_reducible refine (spec_SignAt.calls k t974 t983 t980 t986 t987 t990 t993 _ A6.out).mono ?_); rintro e w15 ⟨v988, v991, rfl, ho0, ho1, hb⟩; refine ⟨_, rfl, ?_⟩; have n0_ := Aside0.mk (Kd.R_lower ho0 (keep_size (w := w) (g := g) (row := none) ((u5_ GW973.out)))); have n1_ := Aside0.mk (Kd.R_lower ho1 (keep_size (w := w) (g := g) (row := none) ((u5_ GW973.out)))); have n2_ := Aside0.mk (IsS103.below ((u4_ NB0_973.out)) hb); have n3_ := Aside0.mk (blk_below (g := gb973) (o := .cells #[.int .i64 0, .slice none 0 0, .slice none 0 0] 42 (0, 0)) (rK_ BK973.out) hb); have n4_ := Aside0.mk (KeepBut.trans ((u5_ GW973.out)) (KeepBut.of_below hb g none) (.inl rfl)); have n5_ := Aside0.mk (below_step ((u0_ (IsS103.ge HI0.out) GE973.out)) hb); have HO989 := n0_; have HO992 := n1_; replace HI0 := n2_; replace BK973 := n3_; replace HK := n4_; replace HB := n5_; clear n0_ n1_ n2_ n3_ n4_ n5_; (try clear hb); (try clear ho0); (try clear ho1)) | ((with_reducible refine gate_dst (N := 7) rfl ?_); refine box_event ?hg (N := 7) ?hd (cs := #[.int .i64 0, .slice none 0 0, .slice none 0 0]) (t := 42) ?hr ?_; (case hd => rfl); (case hg => rfl); (case hr => first | (go_simp; done) | (go_simp; rfl)); intro gb994 hg w16 hbox hb; have n0_ := Aside0.mk (Kd.R_below (rR_ HO989.out) hb); have n1_ := Aside0.mk (Kd.R_below (rR_ HO992.out) hb); have n2_ := Aside0.mk (IsS103.below ((u4_ NB0_973.out)) hb); have n3_ := Aside0.mk (blk_below (g := gb973) (o := .cells #[.int .i64 0, .slice none 0 0, .slice none 0 0] 42 (0, 0)) (rK_ BK973.out) hb); have n4_ := Aside0.mk (KeepBut.trans ((u5_ GW973.out)) (KeepBut.of_below hb g none) (.inl rfl)); have n5_ := Aside0.mk (below_step ((u0_ (IsS103.ge HI0.out) GE973.out)) hb); have n6_ := Aside0.mk (hbox); have n7_ := Aside0.mk ((by rw [hg]; exact (keep_size (w := w) (g := g) (row := none) ((u5_ GW973.out))) : w.heap.size ≤ gb994)); have n8_ := Aside0.mk ((Nat.le_trans HW0.out (by rw [hg]; exact (keep_size (w := w) (g := g) (row := none) ((u5_ GW973.out))) : w.heap.size ≤ gb994) : w0.heap.size ≤ gb994)); have n9_ := Aside0.mk ((by rw [hg]; exact Nat.ne_of_lt (blk_lt (g := gb973) (o := .cells #[.int .i64 0, .slice none 0 0, .slice none 0 0] 42 (0, 0)) (rK_ BK973.out)) : gb973 ≠ gb994)); have n10_ := Aside0.mk ((by rw [hg]; exact Nat.ne_of_gt (blk_lt (g := gb973) (o := .cells #[.int .i64 0, .slice none 0 0, .slice none 0 0] 42 (0, 0)) (rK_ BK973.out)) : gb994 ≠ gb973)); have n11_ := Aside0.mk ((by rw [hg]; exact Nat.ne_of_lt (IsS103.lt (show IsS103 w0 _ g s0_0 t984 t985 from (u4_ NB0_973.out))) : g ≠ gb994)); have n12_ := Aside0.mk ((by rw [hg]; exact Nat.ne_of_gt (IsS103.lt (show IsS103 w0 _ g s0_0 t984 t985 from (u4_ NB0_973.out))) : gb994 ≠ g)); replace HO989 := n0_; replace HO992 := n1_; replace HI0 := n2_; replace BK973 := n3_; replace HK := n4_; replace HB := n5_; have BK994 := n6_; have GW994 := n7_; have GE994 := n8_; have NB973_994 := n9_; have NB994_973 := n10_; have NB0_994 := n11_; have NB994_0 := n12_; clear n0_ n1_ n2_ n3_ n4_ n5_ n6_ n7_ n8_ n9_ n10_ n11_ n12_; clear hb hbox hg; have hnb17 := NB994_973.out; have hnc17 := NB973_994.out; have hnb18 := NB994_0.out; have hnc18 := NB0_994.out; have hcz19_0 : w16.cell? ⟨gb994, 0, none⟩ = some (.int .i64 0) := (blk_cell BK994.out 0).trans rfl; have hcz19_1 : w16.cell? ⟨gb994, 1, none⟩ = some (.slice none 0 0) := (blk_cell BK994.out 1).trans rfl; have hcz19_2 : w16.cell? ⟨gb994, 2, none⟩ = some (.slice none 0 0) := (blk_cell BK994.out 2).trans rfl; have hfz19_0 := blk_frozen BK994.out 0; have hfz19_1 := blk_frozen BK994.out 1; have hfz19_2 := blk_frozen BK994.out 2; obtain ⟨Ao20, co20, eo20⟩ := Kd.R_slice HO989.out; subst eo20; obtain ⟨Ao21, co21, eo21⟩ := Kd.R_slice HO992.out; subst eo21) | ((with_reducible refine gate_callee (f := 96) rfl ?_); refine goesL_ (some 24) rfl rfl Tryd.func96 (by kernel_rfl) rfl #[.pointer (some ⟨g, 0, none⟩), .int .i64 12] rfl aM_ ?_; (with_reducible refine (spec_l01Below.calls g s0_0 t984 t985 12 t995 t996 t997 w0 _ ?side1 ?side2 A7.out).mono ?_); (case side1 => exact u6_ NB0_973.out NB0_994.out); (case side2 => exact u7_ (IsS103.ge HI0.out) GE973.out GE994.out); rintro e w22 ⟨rfl, hi, hb, hk⟩; refine ⟨_, rfl, ?_⟩; have n0_ := Aside0.mk (KeepBut.blk hk (g' := gb973) (o := .cells #[.int .i64 0, .slice none 0 0, .slice none 0 0] 42 (0, 0)) (by refine kK_ ?_; refine blk_far ?_ NB973_994.out _; refine kK_ ?_; refine blk_far ?_ NB973_994.out _; refine kK_ ?_; refine blk_far ?_ NB973_994.out _; exact rK_ BK973.out) NB973_0.out (by simp)); have n1_ := Aside0.mk (Kd.R_mono (Kd.R_keep (IsS103.apart (show IsS103 w0 _ g s0_0 t984 t985 from (u6_ NB0_973.out NB0_994.out)) (by refine kR_ ?_; exact (Kd.R_mono (Kd.R_far (Kd.R_far (Kd.R_far (Kd.R_types HO989.out BK994.out (by decide)) (fun _ hk => hk.2) _) (fun _ hk => hk.2) _) (fun _ hk => hk.2) _) (fun _ h_ => h_.1))) (by decide)) hk (fun _ h => h.2)) (fun _ h => h.1)); have n2_ := Aside0.mk (Kd.R_mono (Kd.R_keep (IsS103.apart (show IsS103 w0 _ g s0_0 t984 t985 from (u6_ NB0_973.out NB0_994.out)) (by refine kR_ ?_; exact (Kd.R_mono (Kd.R_far (Kd.R_far (Kd.R_far (Kd.R_types HO992.out BK994.out (by decide)) (fun _ hk => hk.2) _) (fun _ hk => hk.2) _) (fun _ hk => hk.2) _) (fun _ h_ => h_.1))) (by decide)) hk (fun _ h => h.2)) (fun _ h => h.1)); have n3_ := Aside0.mk (KeepBut.blk hk (g' := gb994) (o := .cells #[.int .i64 t986, .slice Ao20 t987.length co20, .slice Ao21 t990.length co21] 42 (0, 0)) (by refine kK_ ?_; refine blk_put (cs := #[.int .i64 t986, .slice Ao20 t987.length co20, .slice none 0 0]) ?_ 2 _ rfl; refine kK_ ?_; refine blk_put (cs := #[.int .i64 t986, .slice none 0 0, .slice none 0 0]) ?_ 1 _ rfl; refine kK_ ?_; refine blk_put (cs := #[.int .i64 0, .slice none 0 0, .slice none 0 0]) ?_ 0 _ rfl; exact rK_ BK994.out) NB994_0.out (by simp)); have n4_ := Aside0.mk (KeepBut.trans ((u8_ GW973.out GW994.out)) hk (.inl rfl)); have n5_ := Aside0.mk (hb); have n6_ := Aside0.mk (hi); replace BK973 := n0_; replace HO989 := n1_; replace HO992 := n2_; replace BK994 := n3_; replace HK := n4_; replace HB := n5_; replace HI0 := n6_; clear n0_ n1_ n2_ n3_ n4_ n5_ n6_; (try clear hb); (try clear hk); (try clear hi)) | ((with_reducible refine gate_dst (N := 28) rfl ?_); refine Kd.R_lit (Kd.int .i64) _ 3 ?hg (N := 28) ?hd (xs := ([(-1), 0, 4] : List Int)) (inner := [.int .i64 (-1), .int .i64 0, .int .i64 4]) (ok := fun _ => True) (okp := fun _ => True) ?hr ?hp (fun _ hk => hk) trivial (Below.refl _ _) (Nat.le_refl _) (by simp) ?_; (case hd => rfl); (case hg => rfl); (case hr => first | (go_simp; done) | (go_simp; rfl)); (case hp => exact (Reps.one (show Kd.M (Kd.int .i64) _ _ _ (-1) [.int .i64 (-1)] from rfl) (Reps.one (show Kd.M (Kd.int .i64) _ _ _ 0 [.int .i64 0] from rfl) (Reps.one (show Kd.M (Kd.int .i64) _ _ _ 4 [.int .i64 4] from rfl) (Reps.none _ _))))); intro v999 w23 ho24 hb hg_ hnew_; clear hg_ hnew_; (first | rw [← Ny998.out] at ho24 | (simp only [Int.reduceToNat] at ho24; rw [← Ny998.out] at ho24)); have n0_ := Aside0.mk (Kd.R_below (rR_ HO989.out) hb); have n1_ := Aside0.mk (Kd.R_below (rR_ HO992.out) hb); have n2_ := Aside0.mk (Kd.R_lower ho24 (keep_size (w := w) (g := g) (row := none) ((u8_ GW973.out GW994.out)))); have n3_ := Aside0.mk (IsS103.below ((u6_ NB0_973.out NB0_994.out)) hb); have n4_ := Aside0.mk (blk_below (g := gb973) (o := .cells #[.int .i64 0, .slice none 0 0, .slice none 0 0] 42 (0, 0)) (rK_ BK973.out) hb); have n5_ := Aside0.mk (blk_below (g := gb994) (o := .cells #[.int .i64 t986, .slice Ao20 t987.length co20, .slice Ao21 t990.length co21] 42 (0, 0)) (rK_ BK994.out) hb); have n6_ := Aside0.mk (KeepBut.trans ((u8_ GW973.out GW994.out)) (KeepBut.of_below hb g none) (.inl rfl)); have n7_ := Aside0.mk (below_step ((u7_ (IsS103.ge HI0.out) GE973.out GE994.out)) hb); replace HO989 := n0_; replace HO992 := n1_; have HO1000 := n2_; replace HI0 := n3_; replace BK973 := n4_; replace BK994 := n5_; replace HK := n6_; replace HB := n7_; clear n0_ n1_ n2_ n3_ n4_ n5_ n6_ n7_; clear hb ho24; obtain ⟨Ao25, co25, eo25⟩ := Kd.R_slice HO1000.out; subst eo25) | ((with_reducible refine gate_callee (f := 112) rfl ?_); refine goesL_ (some 29) rfl rfl Tryd.func112 (by kernel_rfl) rfl #[.pointer (some ⟨g, 0, none⟩), .slice Ao25 y998.length co25] rfl aM_ ?_; (with_reducible refine (spec_l01PickInt.calls g s0_0 t996 t997 _ _ y998 t1001 t1002 t1003 w0 _ ?side1 ?side2 ?side3 ?side4 ?side5 A9.out).mono ?_); (case side1 => exact u6_ NB0_973.out NB0_994.out); (case side2 => exact u7_ (IsS103.ge HI0.out) GE973.out GE994.out); (case side3 => exact cR_ (Kd.R_reads' HO1000.out).2.2); (case side4 => exact (Kd.R_reads' HO1000.out).2.1); (case side5 => exact far_slice (IsS103.own_ne HI0.out HO1000.out (by decide))); rintro e w26 ⟨rfl, hi, hb, hk⟩; refine ⟨_, rfl, ?_⟩; have n0_ := Aside0.mk (KeepBut.blk hk (g' := gb973) (o := .cells #[.int .i64 0, .slice none 0 0, .slice none 0 0] 42 (0, 0)) (rK_ BK973.out) NB973_0.out (by simp)); have n1_ := Aside0.mk (Kd.R_mono (Kd.R_keep (IsS103.apart (show IsS103 w0 _ g s0_0 t996 t997 from (u6_ NB0_973.out NB0_994.out)) (rR_ HO989.out) (by decide)) hk (fun _ h => h.2)) (fun _ h => h.1)); have n2_ := Aside0.mk (Kd.R_mono (Kd.R_keep (IsS103.apart (show IsS103 w0 _ g s0_0 t996 t997 from (u6_ NB0_973.out NB0_994.out)) (rR_ HO992.out) (by decide)) hk (fun _ h => h.2)) (fun _ h => h.1)); have n3_ := Aside0.mk (KeepBut.blk hk (g' := gb994) (o := .cells #[.int .i64 t986, .slice Ao20 t987.length co20, .slice Ao21 t990.length co21] 42 (0, 0)) (rK_ BK994.out) NB994_0.out (by simp)); have n4_ := Aside0.mk (Kd.R_mono (Kd.R_keep (IsS103.apart (show IsS103 w0 _ g s0_0 t996 t997 from (u6_ NB0_973.out NB0_994.out)) (rR_ HO1000.out) (by decide)) hk (fun _ h => h.2)) (fun _ h => h.1)); have n5_ := Aside0.mk (KeepBut.trans ((u8_ GW973.out GW994.out)) hk (.inl rfl)); have n6_ := Aside0.mk (hb); have n7_ := Aside0.mk (hi); replace BK973 := n0_; replace HO989 := n1_; replace HO992 := n2_; replace BK994 := n3_; replace HO1000 := n4_; replace HK := n5_; replace HB := n6_; replace HI0 := n7_; clear n0_ n1_ n2_ n3_ n4_ n5_ n6_ n7_; (try clear hb); (try clear hk); (try clear hi); have hcz27_0 : w26.cell? ⟨gb994, 0, none⟩ = some (.int .i64 t986) := (blk_cell BK994.out 0).trans rfl; have hcz27_1 : w26.cell? ⟨gb994, 1, none⟩ = some (.slice Ao20 t987.length co20) := (blk_cell BK994.out 1).trans rfl; have hcz27_2 : w26.cell? ⟨gb994, 2, none⟩ = some (.slice Ao21 t990.length co21) := (blk_cell BK994.out 2).trans rfl; have hfz27_0 := blk_frozen BK994.out 0; have hfz27_1 := blk_frozen BK994.out 1; have hfz27_2 := blk_frozen BK994.out 2))
  have n0_ : Aside0 (Kd.R Kd.string 9 (w26.setCell ⟨gb994, 0, none⟩ (.int .i64 t1001)) w.heap.size (fun k_ => some k_ ≠ (.slice Ao21 t990.length co21 : Value).ownBlock) (.slice Ao20 t987.length co20) t987) := ⟨by refine kR_ ?_; exact Kd.R_mono (Kd.R_far (Kd.R_types HO989.out BK994.out (by decide)) (fun _ hk => hk.2) _) (fun _ hk => hk.1)⟩
  have n1_ : Aside0 (Kd.R Kd.string 9 (w26.setCell ⟨gb994, 0, none⟩ (.int .i64 t1001)) w.heap.size (fun k_ => some k_ ≠ (.slice Ao20 t987.length co20 : Value).ownBlock) (.slice Ao21 t990.length co21) t990) := ⟨by refine kR_ ?_; exact Kd.R_mono (Kd.R_far (Kd.R_types HO992.out BK994.out (by decide)) (fun _ hk => hk.2) _) (fun _ hk => hk.1)⟩
  have n2_ : Aside0 (Kd.R (Kd.int .i64) 3 (w26.setCell ⟨gb994, 0, none⟩ (.int .i64 t1001)) w.heap.size (fun _ => True) (.slice Ao25 y998.length co25) y998) := ⟨by refine kR_ ?_; exact Kd.R_mono (Kd.R_far (Kd.R_types HO1000.out BK994.out (by decide)) (fun _ hk => hk.2) _) (fun _ hk => trivial)⟩
  have n3_ : Aside0 ((w26.setCell ⟨gb994, 0, none⟩ (.int .i64 t1001)).heap[gb973]? = some (.cells #[.int .i64 0, .slice none 0 0, .slice none 0 0] 42 (0, 0))) := ⟨by refine kK_ ?_; refine blk_far ?_ NB973_994.out _; refine kK_ ?_; exact BK973.out⟩
  have n4_ : Aside0 ((w26.setCell ⟨gb994, 0, none⟩ (.int .i64 t1001)).heap[gb994]? = some (.cells #[.int .i64 t1001, .slice Ao20 t987.length co20, .slice Ao21 t990.length co21] 42 (0, 0))) := ⟨by refine kK_ ?_; refine blk_put (cs := #[.int .i64 t986, .slice Ao20 t987.length co20, .slice Ao21 t990.length co21]) ?_ 0 _ rfl; refine kK_ ?_; exact BK994.out⟩
  have n5_ : Aside0 (IsS103 w0 (w26.setCell ⟨gb994, 0, none⟩ (.int .i64 t1001)) g s0_0 t1002 t1003) := ⟨(u6_ NB0_973.out NB0_994.out)⟩
  have n6_ : Aside0 (KeepBut w (w26.setCell ⟨gb994, 0, none⟩ (.int .i64 t1001)) g none) := ⟨(u8_ GW973.out GW994.out)⟩
  have n7_ : Aside0 (Below w0.heap.size w0 (w26.setCell ⟨gb994, 0, none⟩ (.int .i64 t1001))) := ⟨(u7_ (IsS103.ge HI0.out) GE973.out GE994.out)⟩
  (try clear HO989)
  (try clear HO992)
  (try clear HO1000)
  (try clear BK973)
  (try clear BK994)
  (try clear HI0)
  (try clear HK)
  (try clear HB)
  generalize (w26.setCell ⟨gb994, 0, none⟩ (.int .i64 t1001)) = w28 at n0_ n1_ n2_ n3_ n4_ n5_ n6_ n7_ ⊢
  have HO989 := n0_
  have HO992 := n1_
  have HO1000 := n2_
  have BK973 := n3_
  have BK994 := n4_
  have HI0 := n5_
  have HK := n6_
  have HB := n7_
  clear n0_ n1_ n2_ n3_ n4_ n5_ n6_ n7_
  have n0_ := Aside0.mk (Kd.R_drew HO989.out)
  have n1_ := Aside0.mk (Kd.R_drew HO992.out)
  have n2_ := Aside0.mk (Kd.R_drew HO1000.out)
  have n3_ := Aside0.mk (blk_drew BK973.out)
  have n4_ := Aside0.mk (blk_drew BK994.out)
  have n5_ := Aside0.mk (IsS103.drew HI0.out)
  have n6_ := Aside0.mk (keep_drew HK.out)
  have n7_ := Aside0.mk (below_drew1 HB.out)
  clear HO989
  clear HO992
  clear HO1000
  clear BK973
  clear BK994
  clear HI0
  clear HK
  clear HB
  have HO989 := n0_
  have HO992 := n1_
  have HO1000 := n2_
  have BK973 := n3_
  have BK994 := n4_
  have HI0 := n5_
  have HK := n6_
  have HB := n7_
  clear n0_ n1_ n2_ n3_ n4_ n5_ n6_ n7_
  refine start_ (n := 6) (S := fun w' => w'.cell? ⟨gb994, 0, none⟩ = some (.int .i64 t1001) ∧ w'.cell? ⟨gb994, 1, none⟩ = some (.slice Ao20 t987.length co20) ∧ w'.cell? ⟨gb994, 2, none⟩ = some (.slice Ao21 t990.length co21)) (ds := []) (bb_ 6 0) (by kernel_rfl) rfl rfl ⟨(blk_cell BK994.out 0).trans rfl, (blk_cell BK994.out 1).trans rfl, (blk_cell BK994.out 2).trans rfl⟩ (fun hHeld => ?_)
  generalize w28.drew = w29 at HO989 HO992 HO1000 BK973 BK994 HI0 HK HB hHeld ⊢
  refine pB_ 0 59 (bb_ 6 1) ?_
  refine pB_ 1 60 (bb_ 6 3) ?_
  refine pB_ 3 2 (bb_ 6 11) ?_
  refine pB_ 4 3 (bb_ 6 27) ?_
  refine tS_ 2 61 (bb_ 6 31) (by kernel_rfl) hHeld ?_
  refine one_ (i := 5) (N := none) (bb_ 6 63) rfl rfl (by kernel_rfl) (by decide) (fun K hK => ?_)
  have hs30 : w29.cell? ⟨gb973, 0, none⟩ = some (.int .i64 0) := (blk_cell BK973.out 0).trans rfl
  have hfs30 := blk_frozen BK973.out 0
  have hns30_1 := NB994_973.out
  have hms30_1 := NB973_994.out
  have hs31 : w29.cell? ⟨gb973, 1, none⟩ = some (.slice none 0 0) := (blk_cell BK973.out 1).trans rfl
  have hfs31 := blk_frozen BK973.out 1
  have hns31_1 := NB994_973.out
  have hms31_1 := NB973_994.out
  have hs32 : w29.cell? ⟨gb973, 2, none⟩ = some (.slice none 0 0) := (blk_cell BK973.out 2).trans rfl
  have hfs32 := blk_frozen BK973.out 2
  have hns32_1 := NB994_973.out
  have hms32_1 := NB973_994.out
  refine skip_ (w1 := ?_) (by rfl) rfl ?_ ?_
  rotate_left
  ·go_simp
   rfl
  refine hK.out _ _ ⟨((cell_far (p := ⟨gb973, _, none⟩) NB994_973.out _).trans (((cell_far (p := ⟨gb973, _, none⟩) NB994_973.out _).trans (((cell_far (p := ⟨gb973, _, none⟩) NB994_973.out _).trans (hHeld.1)))))), ((cell_far (p := ⟨gb973, _, none⟩) NB994_973.out _).trans (((cell_far (p := ⟨gb973, _, none⟩) NB994_973.out _).trans (((cell_far (p := ⟨gb973, _, none⟩) NB994_973.out _).trans (hHeld.2.1)))))), ((cell_far (p := ⟨gb973, _, none⟩) NB994_973.out _).trans (((cell_far (p := ⟨gb973, _, none⟩) NB994_973.out _).trans (((cell_far (p := ⟨gb973, _, none⟩) NB994_973.out _).trans (hHeld.2.2))))))⟩ (fun hHeld => ?_)
  clear hK K
  refine done_ (by kernel_rfl) ?_
  try go_wp2
  refine bodyPost_ret (results_list (rs := [.tmp 2, .tmp 3, .cell 4 42]) rfl (by simp) (.tmp (.tmp (.cell gb973 42 #[.int .i64 t1001, .slice Ao20 t987.length co20, .slice Ao21 t990.length co21] (0, 0) _ rfl (by refine kK_ ?_; refine blk_put (cs := #[.int .i64 t1001, .slice Ao20 t987.length co20, .slice none 0 0]) ?_ 2 _ rfl; refine kK_ ?_; refine blk_put (cs := #[.int .i64 t1001, .slice none 0 0, .slice none 0 0]) ?_ 1 _ rfl; refine kK_ ?_; refine blk_put (cs := #[.int .i64 0, .slice none 0 0, .slice none 0 0]) ?_ 0 _ rfl; exact rK_ BK973.out) Tryd.underlying42 rfl (by kernel_rfl) .nil)))) rfl ?_
  exact ⟨_, _, by first | rfl | (simp [errW_none, errW_some] <;> rfl) | (simp [*, errW_none, errW_some] <;> rfl), by refine kR_ ?_; exact Kd.R_mono (Kd.R_far (Kd.R_far (Kd.R_far (Kd.R_types HO989.out BK973.out (by decide)) (fun _ hk => hk.2) _) (fun _ hk => hk.2) _) (fun _ hk => hk.2) _) (fun _ hk => hk.1), Kd.Q_of_R (by refine kR_ ?_; exact Kd.R_mono (Kd.R_far (Kd.R_far (Kd.R_far (Kd.R_types HO992.out BK973.out (by decide)) (fun _ hk => hk.2) _) (fun _ hk => hk.2) _) (fun _ hk => hk.2) _) (fun _ hk => hk.1)), (u6_ NB0_973.out NB0_994.out), (u7_ (IsS103.ge HI0.out) GE973.out GE994.out), (u8_ GW973.out GW994.out)⟩
 rw [if_neg c8] at H
 have c8b0 : (t995 == 0) = false := beq_eq_false_iff_ne.mpr c8
 have c8b1 : (t995 != 0) = true := bne_iff_ne.mpr c8
 by_cases c33 : t995 = 1
 ·rw [if_pos c33] at H
  have c33b0 : (t995 == 1) = true := beq_iff_eq.mpr c33
  have c33b1 : (t995 != 1) = false := bne_eq_false_iff_eq.mpr c33
  clear c33
  replace H := Option.bind_eq_some_iff.mp H
  obtain ⟨⟨t1004, t1005, t1006⟩, A340, H⟩ := H
  try dsimp -simprocs only at H
  have A34 := Aside0.mk A340
  clear A340
  obtain ⟨y1007, hy1007⟩ : ∃ y_ : List Int, y_ = (([3, 4, 4] : List Int)) := ⟨_, rfl⟩
  replace H : ((spec_l01PickInt.f s0_0 t1005 t1006 y1007).bind fun bt1010 => ((spec_l01Text.f k s0_0 bt1010.2.1 bt1010.2.2 bt1010.1).bind fun bt1013 => (if 0 ≤ t1004 then (if t1004 < (t987.length : Int) then (some (t974, t980, t986, (t987.set (t1004 : Int).toNat bt1013.1), t990, bt1013.2.1, bt1013.2.2)) else (none)) else (none)))) = some (r1, r2, r3, r4, r5, r6, r7) := by first | (rw [hy1007]; with_reducible exact H) | (have H2_ := (Option.bind_some _ _).symm.trans H; rw [hy1007]; with_reducible exact H2_) | (have H2_ := (Option.bind_some _ _).symm.trans H; with_reducible exact H2_) | with_reducible exact H | (rw [hy1007]; exact H) | exact H
  have Ny1007 := Aside0.mk hy1007
  clear hy1007
  replace H := Option.bind_eq_some_iff.mp H
  obtain ⟨⟨t1010, t1011, t1012⟩, A350, H⟩ := H
  try dsimp -simprocs only at H
  have A35 := Aside0.mk A350
  clear A350
  replace H := Option.bind_eq_some_iff.mp H
  obtain ⟨⟨t1013, t1014, t1015⟩, A360, H⟩ := H
  try dsimp -simprocs only at H
  have A36 := Aside0.mk A360
  clear A360
  obtain ⟨c37, H⟩ := iN_ H
  have c37b0 := decide_eq_true c37
  clear c37
  obtain ⟨c38, H⟩ := iN_ H
  have c38b0 := decide_eq_true c38
  clear c38
  obtain ⟨y1016, hy1016⟩ : ∃ y_ : List ByteArray, y_ = (t987.set (t1004 : Int).toNat t1013) := ⟨_, rfl⟩
  replace H : (some (t974, t980, t986, y1016, t990, t1014, t1015)) = some (r1, r2, r3, r4, r5, r6, r7) := by first | (rw [hy1016]; with_reducible exact H) | (have H2_ := (Option.bind_some _ _).symm.trans H; rw [hy1016]; with_reducible exact H2_) | (have H2_ := (Option.bind_some _ _).symm.trans H; with_reducible exact H2_) | with_reducible exact H | (rw [hy1016]; exact H) | exact H
  have Ny1016 := Aside0.mk hy1016
  clear hy1016
  simp only [Option.some.injEq, Prod.mk.injEq] at H
  obtain ⟨rfl, rfl, rfl, rfl, rfl, rfl, rfl⟩ := H
  go_enter Tryd.func102, Tryd.ntmps102
  try go_wp2_with (first | ((with_reducible refine gate_dst (N := 4) rfl ?_); refine box_event ?hg (N := 4) ?hd (cs := #[.int .i64 0, .slice none 0 0, .slice none 0 0]) (t := 42) ?hr ?_; (case hd => rfl); (case hg => rfl); (case hr => first | (go_simp; done) | (go_simp; rfl)); intro gb973 hg w40 hbox hb; have n0_ := Aside0.mk (IsS103.below ((u1_)) hb); have n1_ := Aside0.mk (KeepBut.trans ((u2_)) (KeepBut.of_below hb g none) (.inl rfl)); have n2_ := Aside0.mk (below_step ((u3_ (IsS103.ge HI0.out))) hb); have n3_ := Aside0.mk (hbox); have n4_ := Aside0.mk ((by rw [hg]; exact (keep_size (w := w) (g := g) (row := none) ((u2_))) : w.heap.size ≤ gb973)); have n5_ := Aside0.mk ((Nat.le_trans HW0.out (by rw [hg]; exact (keep_size (w := w) (g := g) (row := none) ((u2_))) : w.heap.size ≤ gb973) : w0.heap.size ≤ gb973)); have n6_ := Aside0.mk ((by rw [hg]; exact Nat.ne_of_lt (IsS103.lt (show IsS103 w0 _ g s0_0 s0_1 s0_2 from (u1_))) : g ≠ gb973)); have n7_ := Aside0.mk ((by rw [hg]; exact Nat.ne_of_gt (IsS103.lt (show IsS103 w0 _ g s0_0 s0_1 s0_2 from (u1_))) : gb973 ≠ g)); replace HI0 := n0_; replace HK := n1_; replace HB := n2_; have BK973 := n3_; have GW973 := n4_; have GE973 := n5_; have NB0_973 := n6_; have NB973_0 := n7_; clear n0_ n1_ n2_ n3_ n4_ n5_ n6_ n7_; clear hb hbox hg) | ((with_reducible refine gate_callee (f := 94) rfl ?_); refine goesL_ (some 10) rfl rfl Tryd.func94 (by kernel_rfl) rfl #[.pointer (some ⟨g, 0, none⟩)] rfl aM_ ?_; (with_reducible refine (spec_l16Seed.calls g s0_0 s0_1 s0_2 t974 t975 t976 w0 _ ?side1 ?side2 A2.out).mono ?_); (case side1 => exact u4_ NB0_973.out); (case side2 => exact u0_ (IsS103.ge HI0.out) GE973.out); rintro e w41 ⟨rfl, hi, hb, hk⟩; refine ⟨_, rfl, ?_⟩; have n0_ := Aside0.mk (KeepBut.blk hk (g' := gb973) (o := .cells #[.int .i64 0, .slice none 0 0, .slice none 0 0] 42 (0, 0)) (rK_ BK973.out) NB973_0.out (by simp)); have n1_ := Aside0.mk (KeepBut.trans ((u5_ GW973.out)) hk (.inl rfl)); have n2_ := Aside0.mk (hb); have n3_ := Aside0.mk (hi); replace BK973 := n0_; replace HK := n1_; replace HB := n2_; replace HI0 := n3_; clear n0_ n1_ n2_ n3_; (try clear hb); (try clear hk); (try clear hi)) | ((with_reducible refine gate_callee (f := 96) rfl ?_); refine goesL_ (some 13) rfl rfl Tryd.func96 (by kernel_rfl) rfl #[.pointer (some ⟨g, 0, none⟩), .int .i64 4] rfl aM_ ?_; (with_reducible refine (spec_l01Below.calls g s0_0 t975 t976 4 t977 t978 t979 w0 _ ?side1 ?side2 A3.out).mono ?_); (case side1 => exact u4_ NB0_973.out); (case side2 => exact u0_ (IsS103.ge HI0.out) GE973.out); rintro e w42 ⟨rfl, hi, hb, hk⟩; refine ⟨_, rfl, ?_⟩; have n0_ := Aside0.mk (KeepBut.blk hk (g' := gb973) (o := .cells #[.int .i64 0, .slice none 0 0, .slice none 0 0] 42 (0, 0)) (rK_ BK973.out) NB973_0.out (by simp)); have n1_ := Aside0.mk (KeepBut.trans ((u5_ GW973.out)) hk (.inl rfl)); have n2_ := Aside0.mk (hb); have n3_ := Aside0.mk (hi); replace BK973 := n0_; replace HK := n1_; replace HB := n2_; replace HI0 := n3_; clear n0_ n1_ n2_ n3_; (try clear hb); (try clear hk); (try clear hi)) | ((with_reducible refine gate_callee (f := 95) rfl ?_); refine goesL_ (some 14) rfl rfl Tryd.func95 (by kernel_rfl) rfl #[.pointer (some ⟨g, 0, none⟩), .int .i64 t977] rfl aM_ ?_; (with_reducible refine (spec_l01Text.calls k g s0_0 t978 t979 t977 t980 t981 t982 w0 _ ?side1 ?side2 A4.out).mono ?_); (case side1 => exact u4_ NB0_973.out); (case side2 => exact u0_ (IsS103.ge HI0.out) GE973.out); rintro e w43 ⟨rfl, hi, hb, hk⟩; refine ⟨_, rfl, ?_⟩; have n0_ := Aside0.mk (KeepBut.blk hk (g' := gb973) (o := .cells #[.int .i64 0, .slice none 0 0, .slice none 0 0] 42 (0, 0)) (rK_ BK973.out) NB973_0.out (by simp)); have n1_ := Aside0.mk (KeepBut.trans ((u5_ GW973.out)) hk (.inl rfl)); have n2_ := Aside0.mk (hb); have n3_ := Aside0.mk (hi); replace BK973 := n0_; replace HK := n1_; replace HB := n2_; replace HI0 := n3_; clear n0_ n1_ n2_ n3_; (try clear hb); (try clear hk); (try clear hi)) | ((with_reducible refine gate_callee (f := 96) rfl ?_); refine goesL_ (some 18) rfl rfl Tryd.func96 (by kernel_rfl) rfl #[.pointer (some ⟨g, 0, none⟩), .int .i64 4] rfl aM_ ?_; (with_reducible refine (spec_l01Below.calls g s0_0 t981 t982 4 t983 t984 t985 w0 _ ?side1 ?side2 A5.out).mono ?_); (case side1 => exact u4_ NB0_973.out); (case side2 => exact u0_ (IsS103.ge HI0.out) GE973.out); rintro e w44 ⟨rfl, hi, hb, hk⟩; refine ⟨_, rfl, ?_⟩; have n0_ := Aside0.mk (KeepBut.blk hk (g' := gb973) (o := .cells #[.int .i64 0, .slice none 0 0, .slice none 0 0] 42 (0, 0)) (rK_ BK973.out) NB973_0.out (by simp)); have n1_ := Aside0.mk (KeepBut.trans ((u5_ GW973.out)) hk (.inl rfl)); have n2_ := Aside0.mk (hb); have n3_ := Aside0.mk (hi); replace BK973 := n0_; replace HK := n1_; replace HB := n2_; replace HI0 := n3_; clear n0_ n1_ n2_ n3_; (try clear hb); (try clear hk); (try clear hi)) | ((with_reducible refine gate_callee (f := 38) rfl ?_); refine goesL_ (some 20) rfl rfl Tryd.func38 (by kernel_rfl) rfl #[.string t974, .int .i64 t983, .string t980] rfl aM_ ?_; (with_reducible refine (spec_SignAt.calls k t974 t983 t980 t986 t987 t990 t993 _ A6.out).mono ?_); rintro e w45 ⟨v988, v991, rfl, ho0, ho1, hb⟩; refine ⟨_, rfl, ?_⟩; have n0_ := Aside0.mk (Kd.R_lower ho0 (keep_size (w := w) (g := g) (row := none) ((u5_ GW973.out)))); have n1_ := Aside0.mk (Kd.R_lower ho1 (keep_size (w := w) (g := g) (row := none) ((u5_ GW973.out)))); have n2_ := Aside0.mk (IsS103.below ((u4_ NB0_973.out)) hb); have n3_ := Aside0.mk (blk_below (g := gb973) (o := .cells #[.int .i64 0, .slice none 0 0, .slice none 0 0] 42 (0, 0)) (rK_ BK973.out) hb); have n4_ := Aside0.mk (KeepBut.trans ((u5_ GW973.out)) (KeepBut.of_below hb g none) (.inl rfl)); have n5_ := Aside0.mk (below_step ((u0_ (IsS103.ge HI0.out) GE973.out)) hb); have HO989 := n0_; have HO992 := n1_; replace HI0 := n2_; replace BK973 := n3_; replace HK := n4_; replace HB := n5_; clear n0_ n1_ n2_ n3_ n4_ n5_; (try clear hb); (try clear ho0); (try clear ho1)) | ((with_reducible refine gate_dst (N := 7) rfl ?_); refine box_event ?hg (N := 7) ?hd (cs := #[.int .i64 0, .slice none 0 0, .slice none 0 0]) (t := 42) ?hr ?_; (case hd => rfl); (case hg => rfl); (case hr => first | (go_simp; done) | (go_simp; rfl)); intro gb994 hg w46 hbox hb; have n0_ := Aside0.mk (Kd.R_below (rR_ HO989.out) hb); have n1_ := Aside0.mk (Kd.R_below (rR_ HO992.out) hb); have n2_ := Aside0.mk (IsS103.below ((u4_ NB0_973.out)) hb); have n3_ := Aside0.mk (blk_below (g := gb973) (o := .cells #[.int .i64 0, .slice none 0 0, .slice none 0 0] 42 (0, 0)) (rK_ BK973.out) hb); have n4_ := Aside0.mk (KeepBut.trans ((u5_ GW973.out)) (KeepBut.of_below hb g none) (.inl rfl)); have n5_ := Aside0.mk (below_step ((u0_ (IsS103.ge HI0.out) GE973.out)) hb); have n6_ := Aside0.mk (hbox); have n7_ := Aside0.mk ((by rw [hg]; exact (keep_size (w := w) (g := g) (row := none) ((u5_ GW973.out))) : w.heap.size ≤ gb994)); have n8_ := Aside0.mk ((Nat.le_trans HW0.out (by rw [hg]; exact (keep_size (w := w) (g := g) (row := none) ((u5_ GW973.out))) : w.heap.size ≤ gb994) : w0.heap.size ≤ gb994)); have n9_ := Aside0.mk ((by rw [hg]; exact Nat.ne_of_lt (blk_lt (g := gb973) (o := .cells #[.int .i64 0, .slice none 0 0, .slice none 0 0] 42 (0, 0)) (rK_ BK973.out)) : gb973 ≠ gb994)); have n10_ := Aside0.mk ((by rw [hg]; exact Nat.ne_of_gt (blk_lt (g := gb973) (o := .cells #[.int .i64 0, .slice none 0 0, .slice none 0 0] 42 (0, 0)) (rK_ BK973.out)) : gb994 ≠ gb973)); have n11_ := Aside0.mk ((by rw [hg]; exact Nat.ne_of_lt (IsS103.lt (show IsS103 w0 _ g s0_0 t984 t985 from (u4_ NB0_973.out))) : g ≠ gb994)); have n12_ := Aside0.mk ((by rw [hg]; exact Nat.ne_of_gt (IsS103.lt (show IsS103 w0 _ g s0_0 t984 t985 from (u4_ NB0_973.out))) : gb994 ≠ g)); replace HO989 := n0_; replace HO992 := n1_; replace HI0 := n2_; replace BK973 := n3_; replace HK := n4_; replace HB := n5_; have BK994 := n6_; have GW994 := n7_; have GE994 := n8_; have NB973_994 := n9_; have NB994_973 := n10_; have NB0_994 := n11_; have NB994_0 := n12_; clear n0_ n1_ n2_ n3_ n4_ n5_ n6_ n7_ n8_ n9_ n10_ n11_ n12_; clear hb hbox hg; have hnb47 := NB994_973.out; have hnc47 := NB973_994.out; have hnb48 := NB994_0.out; have hnc48 := NB0_994.out; have hcz49_0 : w46.cell? ⟨gb994, 0, none⟩ = some (.int .i64 0) := (blk_cell BK994.out 0).trans rfl; have hcz49_1 : w46.cell? ⟨gb994, 1, none⟩ = some (.slice none 0 0) := (blk_cell BK994.out 1).trans rfl; have hcz49_2 : w46.cell? ⟨gb994, 2, none⟩ = some (.slice none 0 0) := (blk_cell BK994.out 2).trans rfl; have hfz49_0 := blk_frozen BK994.out 0; have hfz49_1 := blk_frozen BK994.out 1; have hfz49_2 := blk_frozen BK994.out 2; obtain ⟨Ao50, co50, eo50⟩ := Kd.R_slice HO989.out; subst eo50; obtain ⟨Ao51, co51, eo51⟩ := Kd.R_slice HO992.out; subst eo51) | ((with_reducible refine gate_callee (f := 96) rfl ?_); refine goesL_ (some 24) rfl rfl Tryd.func96 (by kernel_rfl) rfl #[.pointer (some ⟨g, 0, none⟩), .int .i64 12] rfl aM_ ?_; (with_reducible refine (spec_l01Below.calls g s0_0 t984 t985 12 t995 t996 t997 w0 _ ?side1 ?side2 A7.out).mono ?_); (case side1 => exact u6_ NB0_973.out NB0_994.out); (case side2 => exact u7_ (IsS103.ge HI0.out) GE973.out GE994.out); rintro e w52 ⟨rfl, hi, hb, hk⟩; refine ⟨_, rfl, ?_⟩; have n0_ := Aside0.mk (KeepBut.blk hk (g' := gb973) (o := .cells #[.int .i64 0, .slice none 0 0, .slice none 0 0] 42 (0, 0)) (by refine kK_ ?_; refine blk_far ?_ NB973_994.out _; refine kK_ ?_; refine blk_far ?_ NB973_994.out _; refine kK_ ?_; refine blk_far ?_ NB973_994.out _; exact rK_ BK973.out) NB973_0.out (by simp)); have n1_ := Aside0.mk (Kd.R_mono (Kd.R_keep (IsS103.apart (show IsS103 w0 _ g s0_0 t984 t985 from (u6_ NB0_973.out NB0_994.out)) (by refine kR_ ?_; exact (Kd.R_mono (Kd.R_far (Kd.R_far (Kd.R_far (Kd.R_types HO989.out BK994.out (by decide)) (fun _ hk => hk.2) _) (fun _ hk => hk.2) _) (fun _ hk => hk.2) _) (fun _ h_ => h_.1))) (by decide)) hk (fun _ h => h.2)) (fun _ h => h.1)); have n2_ := Aside0.mk (Kd.R_mono (Kd.R_keep (IsS103.apart (show IsS103 w0 _ g s0_0 t984 t985 from (u6_ NB0_973.out NB0_994.out)) (by refine kR_ ?_; exact (Kd.R_mono (Kd.R_far (Kd.R_far (Kd.R_far (Kd.R_types HO992.out BK994.out (by decide)) (fun _ hk => hk.2) _) (fun _ hk => hk.2) _) (fun _ hk => hk.2) _) (fun _ h_ => h_.1))) (by decide)) hk (fun _ h => h.2)) (fun _ h => h.1)); have n3_ := Aside0.mk (KeepBut.blk hk (g' := gb994) (o := .cells #[.int .i64 t986, .slice Ao50 t987.length co50, .slice Ao51 t990.length co51] 42 (0, 0)) (by refine kK_ ?_; refine blk_put (cs := #[.int .i64 t986, .slice Ao50 t987.length co50, .slice none 0 0]) ?_ 2 _ rfl; refine kK_ ?_; refine blk_put (cs := #[.int .i64 t986, .slice none 0 0, .slice none 0 0]) ?_ 1 _ rfl; refine kK_ ?_; refine blk_put (cs := #[.int .i64 0, .slice none 0 0, .slice none 0 0]) ?_ 0 _ rfl; exact rK_ BK994.out) NB994_0.out (by simp)); have n4_ := Aside0.mk (KeepBut.trans ((u8_ GW973.out GW994.out)) hk (.inl rfl)); have n5_ := Aside0.mk (hb); have n6_ := Aside0.mk (hi); replace BK973 := n0_; replace HO989 := n1_; replace HO992 := n2_; replace BK994 := n3_; replace HK := n4_; replace HB := n5_; replace HI0 := n6_; clear n0_ n1_ n2_ n3_ n4_ n5_ n6_; (try clear hb); (try clear hk); (try clear hi)))
  have n0_ := Aside0.mk (Kd.R_drew HO989.out)
  have n1_ := Aside0.mk (Kd.R_drew HO992.out)
  have n2_ := Aside0.mk (blk_drew BK973.out)
  have n3_ := Aside0.mk (blk_drew BK994.out)
  have n4_ := Aside0.mk (IsS103.drew HI0.out)
  have n5_ := Aside0.mk (keep_drew HK.out)
  have n6_ := Aside0.mk (below_drew1 HB.out)
  clear HO989
  clear HO992
  clear BK973
  clear BK994
  clear HI0
  clear HK
  clear HB
  have HO989 := n0_
  have HO992 := n1_
  have BK973 := n2_
  have BK994 := n3_
  have HI0 := n4_
  have HK := n5_
  have HB := n6_
  clear n0_ n1_ n2_ n3_ n4_ n5_ n6_
  refine start_ (n := 11) (S := fun w' => w'.cell? ⟨gb994, 0, none⟩ = some (.int .i64 t986) ∧ w'.cell? ⟨gb994, 1, none⟩ = some (.slice Ao50 t987.length co50) ∧ w'.cell? ⟨gb994, 2, none⟩ = some (.slice Ao51 t990.length co51)) (ds := [10]) (bb_ 11 0) (by kernel_rfl) rfl rfl ⟨(blk_cell BK994.out 0).trans rfl, (blk_cell BK994.out 1).trans rfl, (blk_cell BK994.out 2).trans rfl⟩ (fun hHeld => ?_); refine with_tabW spec_l16Sig.tab8 spec_l16Sig.bits8 (fun HT_ HW_ => ?_)
  generalize w52.drew = w53 at HO989 HO992 BK973 BK994 HI0 HK HB hHeld ⊢
  refine pS_ 0 33 (bb_ 11 1) HT_.out ?_
  refine pS_ 2 35 (bb_ 11 5) HT_.out ?_
  refine pS_ 4 37 (bb_ 11 21) HT_.out ?_
  refine pS_ 5 38 (bb_ 11 53) HT_.out ?_
  refine tS_ 1 34 (bb_ 11 55) (take_ofW HT_.out HW_.out (by kernel_rfl)) hHeld ?_
  refine join_ (σ := Value) 4 (bb_ 11 127) (fun s_ => [(36, .int .i64 t1004), (39, s_)]) (fun s_ w' => (w'.cell? ⟨gb994, 0, none⟩ = some (.int .i64 t986) ∧ w'.cell? ⟨gb994, 1, none⟩ = some (.slice Ao50 t987.length co50) ∧ w'.cell? ⟨gb994, 2, none⟩ = some (.slice Ao51 t990.length co51)) ∧ (Kd.R (Kd.int .i64) 3 w' w.heap.size (fun _ => True) s_ y1007) ∧ (Kd.R Kd.string 9 w' w.heap.size (fun k_ => some k_ ≠ (.slice Ao51 t990.length co51 : Value).ownBlock) (.slice Ao50 t987.length co50) t987) ∧ (Kd.R Kd.string 9 w' w.heap.size (fun k_ => some k_ ≠ (.slice Ao50 t987.length co50 : Value).ownBlock) (.slice Ao51 t990.length co51) t990) ∧ (w'.heap[gb973]? = some (.cells #[.int .i64 0, .slice none 0 0, .slice none 0 0] 42 (0, 0))) ∧ (w'.heap[gb994]? = some (.cells #[.int .i64 t986, .slice Ao50 t987.length co50, .slice Ao51 t990.length co51] 42 (0, 0))) ∧ (IsS103 w0 w' g s0_0 t1005 t1006) ∧ (KeepBut w w' g none) ∧ (Below w0.heap.size w0 w')) ?_ ?_
  rotate_left
  ·intro hCont
   refine two_ (i := 3) (j := 6) (Ni := some 36) (Nj := some 39) (bb_ 11 63) (bb_ 11 119) rfl rfl rfl rfl (two_of HT_.out (by kernel_rfl)) (by decide) (by decide) (fun K hK => ?_) (fun K hK => ?_)
   ·skip
    refine goes_ Tryd.func96 (by kernel_rfl) rfl #[.pointer (some ⟨g, 0, none⟩), .int .i64 10] (by rfl) rfl rfl aM_ ?_
    with_reducible refine (spec_l01Below.calls g s0_0 t996 t997 10 t1004 t1005 t1006 w0 _ ?side1 ?side2 A34.out).mono ?_
    (case side1 => exact u6_ NB0_973.out NB0_994.out)
    (case side2 => exact u7_ (IsS103.ge HI0.out) GE973.out GE994.out)
    rintro e w54 ⟨rfl, hi, hb, hk⟩
    refine ⟨_, rfl, ?_⟩
    have n0_ := Aside0.mk (KeepBut.blk hk (g' := gb973) (o := .cells #[.int .i64 0, .slice none 0 0, .slice none 0 0] 42 (0, 0)) (rK_ BK973.out) NB973_0.out (by simp))
    have n1_ := Aside0.mk (Kd.R_mono (Kd.R_keep (IsS103.apart (show IsS103 w0 _ g s0_0 t996 t997 from (u6_ NB0_973.out NB0_994.out)) (rR_ HO989.out) (by decide)) hk (fun _ h => h.2)) (fun _ h => h.1))
    have n2_ := Aside0.mk (Kd.R_mono (Kd.R_keep (IsS103.apart (show IsS103 w0 _ g s0_0 t996 t997 from (u6_ NB0_973.out NB0_994.out)) (rR_ HO992.out) (by decide)) hk (fun _ h => h.2)) (fun _ h => h.1))
    have n3_ := Aside0.mk (KeepBut.blk hk (g' := gb994) (o := .cells #[.int .i64 t986, .slice Ao50 t987.length co50, .slice Ao51 t990.length co51] 42 (0, 0)) (rK_ BK994.out) NB994_0.out (by simp))
    have n4_ := Aside0.mk (KeepBut.trans ((u8_ GW973.out GW994.out)) hk (.inl rfl))
    have n5_ := Aside0.mk (hb)
    have n6_ := Aside0.mk (hi)
    clear BK973
    clear HO989
    clear HO992
    clear BK994
    clear HK
    clear HB
    clear HI0
    have BK973 := n0_
    have HO989 := n1_
    have HO992 := n2_
    have BK994 := n3_
    have HK := n4_
    have HB := n5_
    have HI0 := n6_
    clear n0_ n1_ n2_ n3_ n4_ n5_ n6_
    (try clear hb)
    (try clear hb2)
    (try clear hk)
    (try clear hi)
    refine hK.out _ _ ⟨(blk_cell BK994.out 0).trans rfl, (blk_cell BK994.out 1).trans rfl, (blk_cell BK994.out 2).trans rfl⟩ (fun hHeld => ?_)
    clear hK K
    refine norm_ (a' := ?_) ?_ ?_
    rotate_left
    ·show Act.put _ (some 36) _ = _
     simp only [Act.put, List.setIfInBounds_toArray, List.set_cons_zero, List.set_cons_succ, i64_w, i32_w]
     rfl
    refine one_ (i := 6) (N := some 39) (bb_ 11 127) rfl rfl (one_of HT_.out (by kernel_rfl)) (by decide) (fun K hK => ?_)
    refine Kd.R_lit_step (Kd.int .i64) _ 3 ?hg (N := 39) ?hd (xs := ([3, 4, 4] : List Int)) (inner := [.int .i64 3, .int .i64 4, .int .i64 4]) (ok := fun _ => True) (okp := fun _ => True) ?hr ?hp (fun _ hk => hk) trivial (Below.refl _ _) (Nat.le_refl _) (by simp) ?_; (case hd => rfl); (case hg => rfl); (case hr => first | (go_simp; done) | (go_simp; rfl)); (case hp => exact (Reps.one (show Kd.M (Kd.int .i64) _ _ _ 3 [.int .i64 3] from rfl) (Reps.one (show Kd.M (Kd.int .i64) _ _ _ 4 [.int .i64 4] from rfl) (Reps.one (show Kd.M (Kd.int .i64) _ _ _ 4 [.int .i64 4] from rfl) (Reps.none _ _)))))
    intro v1008 w55 ho56 hb hg_ hnew_
    clear hg_ hnew_
    (first | rw [← Ny1007.out] at ho56 | (simp only [Int.reduceToNat] at ho56; rw [← Ny1007.out] at ho56))
    have n0_ := Aside0.mk (Kd.R_below (rR_ HO989.out) hb)
    have n1_ := Aside0.mk (Kd.R_below (rR_ HO992.out) hb)
    have n2_ := Aside0.mk (Kd.R_lower ho56 (keep_size (w := w) (g := g) (row := none) ((u8_ GW973.out GW994.out))))
    have n3_ := Aside0.mk (IsS103.below ((u6_ NB0_973.out NB0_994.out)) hb)
    have n4_ := Aside0.mk (blk_below (g := gb973) (o := .cells #[.int .i64 0, .slice none 0 0, .slice none 0 0] 42 (0, 0)) (rK_ BK973.out) hb)
    have n5_ := Aside0.mk (blk_below (g := gb994) (o := .cells #[.int .i64 t986, .slice Ao50 t987.length co50, .slice Ao51 t990.length co51] 42 (0, 0)) (rK_ BK994.out) hb)
    have n6_ := Aside0.mk (KeepBut.trans ((u8_ GW973.out GW994.out)) (KeepBut.of_below hb g none) (.inl rfl))
    have n7_ := Aside0.mk (below_step ((u7_ (IsS103.ge HI0.out) GE973.out GE994.out)) hb)
    clear HO989
    clear HO992
    clear HI0
    clear BK973
    clear BK994
    clear HK
    clear HB
    have HO989 := n0_
    have HO992 := n1_
    have HO1009 := n2_
    have HI0 := n3_
    have BK973 := n4_
    have BK994 := n5_
    have HK := n6_
    have HB := n7_
    clear n0_ n1_ n2_ n3_ n4_ n5_ n6_ n7_
    clear hb ho56
    refine hK.out _ _ ⟨(blk_cell BK994.out 0).trans rfl, (blk_cell BK994.out 1).trans rfl, (blk_cell BK994.out 2).trans rfl⟩ (fun hHeld => ?_)
    clear hK K
    refine norm_ (a' := ?_) ?_ ?_
    rotate_left
    ·show Act.put _ (some 39) _ = _
     simp only [Act.put, List.setIfInBounds_toArray, List.set_cons_zero, List.set_cons_succ, i64_w, i32_w]
     rfl
    exact norm_ (by simp only [putAll, Act.put, List.setIfInBounds_toArray, List.set_cons_zero, List.set_cons_succ]) (hCont (v1008) _ ⟨hHeld, (rR_ HO1009.out), (rR_ HO989.out), (rR_ HO992.out), (rK_ BK973.out), (rK_ BK994.out), ((u6_ NB0_973.out NB0_994.out)), ((u8_ GW973.out GW994.out)), ((u7_ (IsS103.ge HI0.out) GE973.out GE994.out))⟩)
   ·skip
    refine Kd.R_lit_step (Kd.int .i64) _ 3 ?hg (N := 39) ?hd (xs := ([3, 4, 4] : List Int)) (inner := [.int .i64 3, .int .i64 4, .int .i64 4]) (ok := fun _ => True) (okp := fun _ => True) ?hr ?hp (fun _ hk => hk) trivial (Below.refl _ _) (Nat.le_refl _) (by simp) ?_; (case hd => rfl); (case hg => rfl); (case hr => first | (go_simp; done) | (go_simp; rfl)); (case hp => exact (Reps.one (show Kd.M (Kd.int .i64) _ _ _ 3 [.int .i64 3] from rfl) (Reps.one (show Kd.M (Kd.int .i64) _ _ _ 4 [.int .i64 4] from rfl) (Reps.one (show Kd.M (Kd.int .i64) _ _ _ 4 [.int .i64 4] from rfl) (Reps.none _ _)))))
    intro v1008 w54 ho55 hb hg_ hnew_
    clear hg_ hnew_
    (first | rw [← Ny1007.out] at ho55 | (simp only [Int.reduceToNat] at ho55; rw [← Ny1007.out] at ho55))
    have n0_ := Aside0.mk (Kd.R_below (rR_ HO989.out) hb)
    have n1_ := Aside0.mk (Kd.R_below (rR_ HO992.out) hb)
    have n2_ := Aside0.mk (Kd.R_lower ho55 (keep_size (w := w) (g := g) (row := none) ((u8_ GW973.out GW994.out))))
    have n3_ := Aside0.mk (IsS103.below ((u6_ NB0_973.out NB0_994.out)) hb)
    have n4_ := Aside0.mk (blk_below (g := gb973) (o := .cells #[.int .i64 0, .slice none 0 0, .slice none 0 0] 42 (0, 0)) (rK_ BK973.out) hb)
    have n5_ := Aside0.mk (blk_below (g := gb994) (o := .cells #[.int .i64 t986, .slice Ao50 t987.length co50, .slice Ao51 t990.length co51] 42 (0, 0)) (rK_ BK994.out) hb)
    have n6_ := Aside0.mk (KeepBut.trans ((u8_ GW973.out GW994.out)) (KeepBut.of_below hb g none) (.inl rfl))
    have n7_ := Aside0.mk (below_step ((u7_ (IsS103.ge HI0.out) GE973.out GE994.out)) hb)
    clear HO989
    clear HO992
    clear HI0
    clear BK973
    clear BK994
    clear HK
    clear HB
    have HO989 := n0_
    have HO992 := n1_
    have HO1009 := n2_
    have HI0 := n3_
    have BK973 := n4_
    have BK994 := n5_
    have HK := n6_
    have HB := n7_
    clear n0_ n1_ n2_ n3_ n4_ n5_ n6_ n7_
    clear hb ho55
    refine hK.out _ _ ⟨(blk_cell BK994.out 0).trans rfl, (blk_cell BK994.out 1).trans rfl, (blk_cell BK994.out 2).trans rfl⟩ (fun hHeld => ?_)
    clear hK K
    refine norm_ (a' := ?_) ?_ ?_
    rotate_left
    ·show Act.put _ (some 39) _ = _
     simp only [Act.put, List.setIfInBounds_toArray, List.set_cons_zero, List.set_cons_succ, i64_w, i32_w]
     rfl
    refine one_ (i := 3) (N := some 36) (bb_ 11 127) rfl rfl (one_of HT_.out (by kernel_rfl)) (by decide) (fun K hK => ?_)
    refine goes_ Tryd.func96 (by kernel_rfl) rfl #[.pointer (some ⟨g, 0, none⟩), .int .i64 10] (by rfl) rfl rfl aM_ ?_
    with_reducible refine (spec_l01Below.calls g s0_0 t996 t997 10 t1004 t1005 t1006 w0 _ ?side1 ?side2 A34.out).mono ?_
    (case side1 => exact u6_ NB0_973.out NB0_994.out)
    (case side2 => exact u7_ (IsS103.ge HI0.out) GE973.out GE994.out)
    rintro e w56 ⟨rfl, hi, hb, hk⟩
    refine ⟨_, rfl, ?_⟩
    have n0_ := Aside0.mk (KeepBut.blk hk (g' := gb973) (o := .cells #[.int .i64 0, .slice none 0 0, .slice none 0 0] 42 (0, 0)) (rK_ BK973.out) NB973_0.out (by simp))
    have n1_ := Aside0.mk (Kd.R_mono (Kd.R_keep (IsS103.apart (show IsS103 w0 _ g s0_0 t996 t997 from (u6_ NB0_973.out NB0_994.out)) (rR_ HO989.out) (by decide)) hk (fun _ h => h.2)) (fun _ h => h.1))
    have n2_ := Aside0.mk (Kd.R_mono (Kd.R_keep (IsS103.apart (show IsS103 w0 _ g s0_0 t996 t997 from (u6_ NB0_973.out NB0_994.out)) (rR_ HO992.out) (by decide)) hk (fun _ h => h.2)) (fun _ h => h.1))
    have n3_ := Aside0.mk (KeepBut.blk hk (g' := gb994) (o := .cells #[.int .i64 t986, .slice Ao50 t987.length co50, .slice Ao51 t990.length co51] 42 (0, 0)) (rK_ BK994.out) NB994_0.out (by simp))
    have n4_ := Aside0.mk (Kd.R_mono (Kd.R_keep (IsS103.apart (show IsS103 w0 _ g s0_0 t996 t997 from (u6_ NB0_973.out NB0_994.out)) (rR_ HO1009.out) (by decide)) hk (fun _ h => h.2)) (fun _ h => h.1))
    have n5_ := Aside0.mk (KeepBut.trans ((u8_ GW973.out GW994.out)) hk (.inl rfl))
    have n6_ := Aside0.mk (hb)
    have n7_ := Aside0.mk (hi)
    clear BK973
    clear HO989
    clear HO992
    clear BK994
    clear HO1009
    clear HK
    clear HB
    clear HI0
    have BK973 := n0_
    have HO989 := n1_
    have HO992 := n2_
    have BK994 := n3_
    have HO1009 := n4_
    have HK := n5_
    have HB := n6_
    have HI0 := n7_
    clear n0_ n1_ n2_ n3_ n4_ n5_ n6_ n7_
    (try clear hb)
    (try clear hb2)
    (try clear hk)
    (try clear hi)
    refine hK.out _ _ ⟨(blk_cell BK994.out 0).trans rfl, (blk_cell BK994.out 1).trans rfl, (blk_cell BK994.out 2).trans rfl⟩ (fun hHeld => ?_)
    clear hK K
    refine norm_ (a' := ?_) ?_ ?_
    rotate_left
    ·show Act.put _ (some 36) _ = _
     simp only [Act.put, List.setIfInBounds_toArray, List.set_cons_zero, List.set_cons_succ, i64_w, i32_w]
     rfl
    exact norm_ (by simp only [putAll, Act.put, List.setIfInBounds_toArray, List.set_cons_zero, List.set_cons_succ]) (hCont (v1008) _ ⟨hHeld, (rR_ HO1009.out), (rR_ HO989.out), (rR_ HO992.out), (rK_ BK973.out), (rK_ BK994.out), ((u6_ NB0_973.out NB0_994.out)), ((u8_ GW973.out GW994.out)), ((u7_ (IsS103.ge HI0.out) GE973.out GE994.out))⟩)
  rintro v1008 w57 ⟨hS_, h0_, h1_, h2_, h3_, h4_, h5_, h6_, h7_⟩
  have n0_ : Aside0 (Kd.R (Kd.int .i64) 3 w57 w.heap.size (fun _ => True) v1008 y1007) := ⟨h0_⟩
  have n1_ : Aside0 (Kd.R Kd.string 9 w57 w.heap.size (fun k_ => some k_ ≠ (.slice Ao51 t990.length co51 : Value).ownBlock) (.slice Ao50 t987.length co50) t987) := ⟨h1_⟩
  have n2_ : Aside0 (Kd.R Kd.string 9 w57 w.heap.size (fun k_ => some k_ ≠ (.slice Ao50 t987.length co50 : Value).ownBlock) (.slice Ao51 t990.length co51) t990) := ⟨h2_⟩
  have n3_ : Aside0 (w57.heap[gb973]? = some (.cells #[.int .i64 0, .slice none 0 0, .slice none 0 0] 42 (0, 0))) := ⟨h3_⟩
  have n4_ : Aside0 (w57.heap[gb994]? = some (.cells #[.int .i64 t986, .slice Ao50 t987.length co50, .slice Ao51 t990.length co51] 42 (0, 0))) := ⟨h4_⟩
  have n5_ : Aside0 (IsS103 w0 w57 g s0_0 t1005 t1006) := ⟨h5_⟩
  have n6_ : Aside0 (KeepBut w w57 g none) := ⟨h6_⟩
  have n7_ : Aside0 (Below w0.heap.size w0 w57) := ⟨h7_⟩
  clear HO989
  clear HO992
  clear BK973
  clear BK994
  clear HI0
  clear HK
  clear HB
  clear h0_ h1_ h2_ h3_ h4_ h5_ h6_ h7_
  have HO1009 := n0_
  have HO989 := n1_
  have HO992 := n2_
  have BK973 := n3_
  have BK994 := n4_
  have HI0 := n5_
  have HK := n6_
  have HB := n7_
  clear n0_ n1_ n2_ n3_ n4_ n5_ n6_ n7_
  have hHeld : w57.cell? ⟨gb994, 0, none⟩ = some (.int .i64 t986) ∧ w57.cell? ⟨gb994, 1, none⟩ = some (.slice Ao50 t987.length co50) ∧ w57.cell? ⟨gb994, 2, none⟩ = some (.slice Ao51 t990.length co51) := hS_
  obtain ⟨Ao58, co58, eo58⟩ := Kd.R_slice HO1009.out
  (first | subst eo58 | (injection eo58 with f1_ f2_ f3_; have f4_ := f1_.symm; have f5_ := f3_.symm; clear f1_ f2_ f3_; subst f4_; subst f5_))
  refine norm_ (a' := ?_) ?_ ?_
  rotate_left
  ·simp only [putAll, Act.put, List.setIfInBounds_toArray, List.set_cons_zero, List.set_cons_succ]
   rfl
  refine one_ (i := 7) (N := some 40) (bb_ 11 255) rfl rfl (one_of HT_.out (by kernel_rfl)) (by decide) (fun K hK => ?_)
  refine goes_ Tryd.func112 (by kernel_rfl) rfl #[.pointer (some ⟨g, 0, none⟩), .slice Ao58 y1007.length co58] (by rfl) rfl rfl aM_ ?_
  with_reducible refine (spec_l01PickInt.calls g s0_0 t1005 t1006 _ _ y1007 t1010 t1011 t1012 w0 _ ?side1 ?side2 ?side3 ?side4 ?side5 A35.out).mono ?_
  (case side1 => exact u6_ NB0_973.out NB0_994.out)
  (case side2 => exact u7_ (IsS103.ge HI0.out) GE973.out GE994.out)
  (case side3 => exact cR_ (Kd.R_reads' HO1009.out).2.2)
  (case side4 => exact (Kd.R_reads' HO1009.out).2.1)
  (case side5 => exact far_slice (IsS103.own_ne HI0.out HO1009.out (by decide)))
  rintro e w59 ⟨rfl, hi, hb, hk⟩
  refine ⟨_, rfl, ?_⟩
  have n0_ := Aside0.mk (KeepBut.blk hk (g' := gb973) (o := .cells #[.int .i64 0, .slice none 0 0, .slice none 0 0] 42 (0, 0)) (rK_ BK973.out) NB973_0.out (by simp))
  have n1_ := Aside0.mk (Kd.R_mono (Kd.R_keep (IsS103.apart (show IsS103 w0 _ g s0_0 t1005 t1006 from (u6_ NB0_973.out NB0_994.out)) (rR_ HO989.out) (by decide)) hk (fun _ h => h.2)) (fun _ h => h.1))
  have n2_ := Aside0.mk (Kd.R_mono (Kd.R_keep (IsS103.apart (show IsS103 w0 _ g s0_0 t1005 t1006 from (u6_ NB0_973.out NB0_994.out)) (rR_ HO992.out) (by decide)) hk (fun _ h => h.2)) (fun _ h => h.1))
  have n3_ := Aside0.mk (KeepBut.blk hk (g' := gb994) (o := .cells #[.int .i64 t986, .slice Ao50 t987.length co50, .slice Ao51 t990.length co51] 42 (0, 0)) (rK_ BK994.out) NB994_0.out (by simp))
  have n4_ := Aside0.mk (Kd.R_mono (Kd.R_keep (IsS103.apart (show IsS103 w0 _ g s0_0 t1005 t1006 from (u6_ NB0_973.out NB0_994.out)) (rR_ HO1009.out) (by decide)) hk (fun _ h => h.2)) (fun _ h => h.1))
  have n5_ := Aside0.mk (KeepBut.trans ((u8_ GW973.out GW994.out)) hk (.inl rfl))
  have n6_ := Aside0.mk (hb)
  have n7_ := Aside0.mk (hi)
  clear BK973
  clear HO989
  clear HO992
  clear BK994
  clear HO1009
  clear HK
  clear HB
  clear HI0
  have BK973 := n0_
  have HO989 := n1_
  have HO992 := n2_
  have BK994 := n3_
  have HO1009 := n4_
  have HK := n5_
  have HB := n6_
  have HI0 := n7_
  clear n0_ n1_ n2_ n3_ n4_ n5_ n6_ n7_
  (try clear hb)
  (try clear hb2)
  (try clear hk)
  (try clear hi)
  refine hK.out _ _ ⟨(blk_cell BK994.out 0).trans rfl, (blk_cell BK994.out 1).trans rfl, (blk_cell BK994.out 2).trans rfl⟩ (fun hHeld => ?_)
  clear hK K
  refine norm_ (a' := ?_) ?_ ?_
  rotate_left
  ·show Act.put _ (some 40) _ = _
   simp only [Act.put, List.setIfInBounds_toArray, List.set_cons_zero, List.set_cons_succ, i64_w, i32_w]
   rfl
  refine one_ (i := 8) (N := some 41) (bb_ 11 511) rfl rfl (one_of HT_.out (by kernel_rfl)) (by decide) (fun K hK => ?_)
  refine goes_ Tryd.func95 (by kernel_rfl) rfl #[.pointer (some ⟨g, 0, none⟩), .int .i64 t1010] (by rfl) rfl rfl aM_ ?_
  with_reducible refine (spec_l01Text.calls k g s0_0 t1011 t1012 t1010 t1013 t1014 t1015 w0 _ ?side1 ?side2 A36.out).mono ?_
  (case side1 => exact u6_ NB0_973.out NB0_994.out)
  (case side2 => exact u7_ (IsS103.ge HI0.out) GE973.out GE994.out)
  rintro e w60 ⟨rfl, hi, hb, hk⟩
  refine ⟨_, rfl, ?_⟩
  have n0_ := Aside0.mk (KeepBut.blk hk (g' := gb973) (o := .cells #[.int .i64 0, .slice none 0 0, .slice none 0 0] 42 (0, 0)) (rK_ BK973.out) NB973_0.out (by simp))
  have n1_ := Aside0.mk (Kd.R_mono (Kd.R_keep (IsS103.apart (show IsS103 w0 _ g s0_0 t1011 t1012 from (u6_ NB0_973.out NB0_994.out)) (rR_ HO989.out) (by decide)) hk (fun _ h => h.2)) (fun _ h => h.1))
  have n2_ := Aside0.mk (Kd.R_mono (Kd.R_keep (IsS103.apart (show IsS103 w0 _ g s0_0 t1011 t1012 from (u6_ NB0_973.out NB0_994.out)) (rR_ HO992.out) (by decide)) hk (fun _ h => h.2)) (fun _ h => h.1))
  have n3_ := Aside0.mk (KeepBut.blk hk (g' := gb994) (o := .cells #[.int .i64 t986, .slice Ao50 t987.length co50, .slice Ao51 t990.length co51] 42 (0, 0)) (rK_ BK994.out) NB994_0.out (by simp))
  have n4_ := Aside0.mk (Kd.R_mono (Kd.R_keep (IsS103.apart (show IsS103 w0 _ g s0_0 t1011 t1012 from (u6_ NB0_973.out NB0_994.out)) (rR_ HO1009.out) (by decide)) hk (fun _ h => h.2)) (fun _ h => h.1))
  have n5_ := Aside0.mk (KeepBut.trans ((u8_ GW973.out GW994.out)) hk (.inl rfl))
  have n6_ := Aside0.mk (hb)
  have n7_ := Aside0.mk (hi)
  clear BK973
  clear HO989
  clear HO992
  clear BK994
  clear HO1009
  clear HK
  clear HB
  clear HI0
  have BK973 := n0_
  have HO989 := n1_
  have HO992 := n2_
  have BK994 := n3_
  have HO1009 := n4_
  have HK := n5_
  have HB := n6_
  have HI0 := n7_
  clear n0_ n1_ n2_ n3_ n4_ n5_ n6_ n7_
  (try clear hb)
  (try clear hb2)
  (try clear hk)
  (try clear hi)
  have p39 : 0 ≤ (t1004 : Int) := of_decide_eq_true (by first | (with_reducible assumption) | assumption)
  have q39 : (t1004 : Int) < ((t987.length : Int) : Int) := of_decide_eq_true (by first | (with_reducible assumption) | assumption)
  obtain ⟨go39, co39, eo39, gb39, gl39, cl39, HG39⟩ := Kd.R_form HO989.out (by omega)
  (first | cases eo39 | (injection eo39 with ea_ en_ ec_; (first | subst ea_ | (injection ea_ with ea_; subst ea_)); subst ec_; clear en_))
  have GB39 := Aside0.mk gb39
  have GG39 := Aside0.mk HG39
  clear gb39 gl39 HG39
  obtain ⟨hx39_0, hf39_0⟩ := Kd.R_celln (⟨#[]⟩ : ByteArray) HO989.out (t1004 : Int) p39 q39
  replace p39 := eq_true p39
  replace q39 := eq_true q39
  have HN0_go39 := Aside0.mk (show g ≠ go39 from by have h_ := IsS103.own_ne HI0.out HO989.out (by decide); intro e_; exact h_ (by rw [e_]; rfl))
  have HP61 := Kd.R_putn HO989.out (t1004 : Int) t1013
  rw [← Ny1016.out] at HP61
  have HQ61 := Aside0.mk HP61
  clear HP61
  refine hK.out _ _ ⟨(blk_cell BK994.out 0).trans rfl, (blk_cell BK994.out 1).trans rfl, (blk_cell BK994.out 2).trans rfl⟩ (fun hHeld => ?_)
  clear hK K
  refine norm_ (a' := ?_) ?_ ?_
  rotate_left
  ·show Act.put _ (some 41) _ = _
   simp only [Act.put, List.setIfInBounds_toArray, List.set_cons_zero, List.set_cons_succ, i64_w, i32_w]
   rfl
  refine pS_ 9 42 (bb_ 11 1023) HT_.out ?_
  refine last_ (i := 10) (N := none) (bb_ 11 2047) rfl rfl (one_of HT_.out (by kernel_rfl)) (by decide) (fun K hK => ?_)
  refine skip_ (w1 := ?_) (by rfl) rfl ?_ ?_
  rotate_left
  ·go_simp
   rfl
  refine hK.out _ _ ?_
  clear hK K
  refine done_ (done_of HT_.out (by kernel_rfl)) ?_
  have n0_ : Aside0 (Kd.R Kd.string 9 (w60.setCell ⟨go39, (t1004 : Int).toNat, none⟩ (.string t1013)) w.heap.size (fun k_ => some k_ ≠ (.slice Ao51 t990.length co51 : Value).ownBlock) (.slice (some ⟨go39, 0, none⟩) t987.length co50) y1016) := ⟨rR_ HQ61.out⟩
  have n1_ : Aside0 (Kd.R Kd.string 9 (w60.setCell ⟨go39, (t1004 : Int).toNat, none⟩ (.string t1013)) w.heap.size (fun k_ => some k_ ≠ (.slice (some ⟨go39, 0, none⟩) t987.length co50 : Value).ownBlock) (.slice Ao51 t990.length co51) t990) := ⟨by refine kR_ ?_; exact Kd.R_mono (Kd.R_far (p := ⟨go39, (t1004 : Int).toNat, none⟩) (Kd.R_mono HO992.out (fun k_ hk => (⟨hk, fun e_ => hk (by rw [e_]; rfl)⟩ : _ ∧ k_ ≠ go39))) (fun _ hk => hk.2) _) (fun _ hk => hk.1)⟩
  have n2_ : Aside0 (Kd.R (Kd.int .i64) 3 (w60.setCell ⟨go39, (t1004 : Int).toNat, none⟩ (.string t1013)) w.heap.size (fun _ => True) (.slice Ao58 y1007.length co58) y1007) := ⟨by refine kR_ ?_; exact Kd.R_mono (Kd.R_far (p := ⟨go39, (t1004 : Int).toNat, none⟩) (Kd.R_types HO1009.out GG39.out (by decide)) (fun _ hk => hk.2) _) (fun _ hk => trivial)⟩
  have n3_ : Aside0 ((w60.setCell ⟨go39, (t1004 : Int).toNat, none⟩ (.string t1013)).heap[gb973]? = some (.cells #[.int .i64 0, .slice none 0 0, .slice none 0 0] 42 (0, 0))) := ⟨by refine kK_ ?_; refine blk_far ?_ (by have h_ := Kd.R_ne HO989.out BK973.out (by decide); intro e_; exact h_ (by rw [e_]; rfl)) _; refine kK_ ?_; exact BK973.out⟩
  have n4_ : Aside0 ((w60.setCell ⟨go39, (t1004 : Int).toNat, none⟩ (.string t1013)).heap[gb994]? = some (.cells #[.int .i64 t986, .slice (some ⟨go39, 0, none⟩) t987.length co50, .slice Ao51 t990.length co51] 42 (0, 0))) := ⟨by refine kK_ ?_; refine blk_far ?_ (by have h_ := Kd.R_ne HO989.out BK994.out (by decide); intro e_; exact h_ (by rw [e_]; rfl)) _; refine kK_ ?_; exact BK994.out⟩
  have n5_ : Aside0 (IsS103 w0 (w60.setCell ⟨go39, (t1004 : Int).toNat, none⟩ (.string t1013)) g s0_0 t1014 t1015) := ⟨(u9_ HN0_go39.out NB0_973.out NB0_994.out)⟩
  have n6_ : Aside0 (KeepBut w (w60.setCell ⟨go39, (t1004 : Int).toNat, none⟩ (.string t1013)) g none) := ⟨(u10_ GB39.out GW973.out GW994.out)⟩
  have n7_ : Aside0 (Below w0.heap.size w0 (w60.setCell ⟨go39, (t1004 : Int).toNat, none⟩ (.string t1013))) := ⟨(u11_ (Nat.le_trans HL.out GB39.out) (IsS103.ge HI0.out) GE973.out GE994.out)⟩
  (try clear HO989)
  (try clear HO992)
  (try clear HO1009)
  (try clear BK973)
  (try clear BK994)
  (try clear HI0)
  (try clear HK)
  (try clear HB)
  generalize (w60.setCell ⟨go39, (t1004 : Int).toNat, none⟩ (.string t1013)) = w62 at n0_ n1_ n2_ n3_ n4_ n5_ n6_ n7_ ⊢
  have HO989 := n0_
  have HO992 := n1_
  have HO1009 := n2_
  have BK973 := n3_
  have BK994 := n4_
  have HI0 := n5_
  have HK := n6_
  have HB := n7_
  clear n0_ n1_ n2_ n3_ n4_ n5_ n6_ n7_
  try go_wp2
  have n0_ := Aside0.mk (Kd.R_drew HO989.out)
  have n1_ := Aside0.mk (Kd.R_drew HO992.out)
  have n2_ := Aside0.mk (Kd.R_drew HO1009.out)
  have n3_ := Aside0.mk (blk_drew BK973.out)
  have n4_ := Aside0.mk (blk_drew BK994.out)
  have n5_ := Aside0.mk (IsS103.drew HI0.out)
  have n6_ := Aside0.mk (keep_drew HK.out)
  have n7_ := Aside0.mk (below_drew1 HB.out)
  clear HO989
  clear HO992
  clear HO1009
  clear BK973
  clear BK994
  clear HI0
  clear HK
  clear HB
  have HO989 := n0_
  have HO992 := n1_
  have HO1009 := n2_
  have BK973 := n3_
  have BK994 := n4_
  have HI0 := n5_
  have HK := n6_
  have HB := n7_
  clear n0_ n1_ n2_ n3_ n4_ n5_ n6_ n7_
  refine start_ (n := 6) (S := fun w' => w'.cell? ⟨gb994, 0, none⟩ = some (.int .i64 t986) ∧ w'.cell? ⟨gb994, 1, none⟩ = some (.slice (some ⟨go39, 0, none⟩) t987.length co50) ∧ w'.cell? ⟨gb994, 2, none⟩ = some (.slice Ao51 t990.length co51)) (ds := []) (bb_ 6 0) (by kernel_rfl) rfl rfl ⟨(blk_cell BK994.out 0).trans rfl, (blk_cell BK994.out 1).trans rfl, (blk_cell BK994.out 2).trans rfl⟩ (fun hHeld => ?_)
  generalize w62.drew = w63 at HO989 HO992 HO1009 BK973 BK994 HI0 HK HB hHeld ⊢
  refine pB_ 0 59 (bb_ 6 1) ?_
  refine pB_ 1 60 (bb_ 6 3) ?_
  refine pB_ 3 2 (bb_ 6 11) ?_
  refine pB_ 4 3 (bb_ 6 27) ?_
  refine tS_ 2 61 (bb_ 6 31) (by kernel_rfl) hHeld ?_
  refine one_ (i := 5) (N := none) (bb_ 6 63) rfl rfl (by kernel_rfl) (by decide) (fun K hK => ?_)
  have hs64 : w63.cell? ⟨gb973, 0, none⟩ = some (.int .i64 0) := (blk_cell BK973.out 0).trans rfl
  have hfs64 := blk_frozen BK973.out 0
  have hns64_1 := NB994_973.out
  have hms64_1 := NB973_994.out
  have hs65 : w63.cell? ⟨gb973, 1, none⟩ = some (.slice none 0 0) := (blk_cell BK973.out 1).trans rfl
  have hfs65 := blk_frozen BK973.out 1
  have hns65_1 := NB994_973.out
  have hms65_1 := NB973_994.out
  have hs66 : w63.cell? ⟨gb973, 2, none⟩ = some (.slice none 0 0) := (blk_cell BK973.out 2).trans rfl
  have hfs66 := blk_frozen BK973.out 2
  have hns66_1 := NB994_973.out
  have hms66_1 := NB973_994.out
  refine skip_ (w1 := ?_) (by rfl) rfl ?_ ?_
  rotate_left
  ·go_simp
   rfl
  refine hK.out _ _ ⟨((cell_far (p := ⟨gb973, _, none⟩) NB994_973.out _).trans (((cell_far (p := ⟨gb973, _, none⟩) NB994_973.out _).trans (((cell_far (p := ⟨gb973, _, none⟩) NB994_973.out _).trans (hHeld.1)))))), ((cell_far (p := ⟨gb973, _, none⟩) NB994_973.out _).trans (((cell_far (p := ⟨gb973, _, none⟩) NB994_973.out _).trans (((cell_far (p := ⟨gb973, _, none⟩) NB994_973.out _).trans (hHeld.2.1)))))), ((cell_far (p := ⟨gb973, _, none⟩) NB994_973.out _).trans (((cell_far (p := ⟨gb973, _, none⟩) NB994_973.out _).trans (((cell_far (p := ⟨gb973, _, none⟩) NB994_973.out _).trans (hHeld.2.2))))))⟩ (fun hHeld => ?_)
  clear hK K
  refine done_ (by kernel_rfl) ?_
  try go_wp2
  refine bodyPost_ret (results_list (rs := [.tmp 2, .tmp 3, .cell 4 42]) rfl (by simp) (.tmp (.tmp (.cell gb973 42 #[.int .i64 t986, .slice (some ⟨go39, 0, none⟩) t987.length co50, .slice Ao51 t990.length co51] (0, 0) _ rfl (by refine kK_ ?_; refine blk_put (cs := #[.int .i64 t986, .slice (some ⟨go39, 0, none⟩) t987.length co50, .slice none 0 0]) ?_ 2 _ rfl; refine kK_ ?_; refine blk_put (cs := #[.int .i64 t986, .slice none 0 0, .slice none 0 0]) ?_ 1 _ rfl; refine kK_ ?_; refine blk_put (cs := #[.int .i64 0, .slice none 0 0, .slice none 0 0]) ?_ 0 _ rfl; exact rK_ BK973.out) Tryd.underlying42 rfl (by kernel_rfl) .nil)))) rfl ?_
  exact ⟨_, _, by first | rfl | (simp [errW_none, errW_some] <;> rfl) | (simp [*, errW_none, errW_some] <;> rfl), by refine kR_ ?_; exact Kd.R_mono (Kd.R_far (Kd.R_far (Kd.R_far (Kd.R_types HO989.out BK973.out (by decide)) (fun _ hk => hk.2) _) (fun _ hk => hk.2) _) (fun _ hk => hk.2) _) (fun _ hk => hk.1), Kd.Q_of_R (by refine kR_ ?_; exact Kd.R_mono (Kd.R_far (Kd.R_far (Kd.R_far (Kd.R_types HO992.out BK973.out (by decide)) (fun _ hk => hk.2) _) (fun _ hk => hk.2) _) (fun _ hk => hk.2) _) (fun _ hk => hk.1)), (u6_ NB0_973.out NB0_994.out), (u7_ (IsS103.ge HI0.out) GE973.out GE994.out), (u8_ GW973.out GW994.out)⟩
 rw [if_neg c33] at H
 have c33b0 : (t995 == 1) = false := beq_eq_false_iff_ne.mpr c33
 have c33b1 : (t995 != 1) = true := bne_iff_ne.mpr c33
 by_cases c67 : t995 = 2
 rotate_left
 ·rw [if_neg c67] at H
  have c67b0 : (t995 == 2) = false := beq_eq_false_iff_ne.mpr c67
  have c67b1 : (t995 != 2) = true := bne_iff_ne.mpr c67
  by_cases c97 : t995 = 3
  rotate_left
  ·rw [if_neg c97] at H
   have c97b0 : (t995 == 3) = false := beq_eq_false_iff_ne.mpr c97
   have c97b1 : (t995 != 3) = true := bne_iff_ne.mpr c97
   simp only [Option.some.injEq, Prod.mk.injEq] at H
   obtain ⟨rfl, rfl, rfl, rfl, rfl, rfl, rfl⟩ := H
   go_enter Tryd.func102, Tryd.ntmps102
   try go_wp2_with (first | ((with_reducible refine gate_dst (N := 4) rfl ?_); refine box_event ?hg (N := 4) ?hd (cs := #[.int .i64 0, .slice none 0 0, .slice none 0 0]) (t := 42) ?hr ?_; (case hd => rfl); (case hg => rfl); (case hr => first | (go_simp; done) | (go_simp; rfl)); intro gb973 hg w119 hbox hb; have n0_ := Aside0.mk (IsS103.below ((u1_)) hb); have n1_ := Aside0.mk (KeepBut.trans ((u2_)) (KeepBut.of_below hb g none) (.inl rfl)); have n2_ := Aside0.mk (below_step ((u3_ (IsS103.ge HI0.out))) hb); have n3_ := Aside0.mk (hbox); have n4_ := Aside0.mk ((by rw [hg]; exact (keep_size (w := w) (g := g) (row := none) ((u2_))) : w.heap.size ≤ gb973)); have n5_ := Aside0.mk ((Nat.le_trans HW0.out (by rw [hg]; exact (keep_size (w := w) (g := g) (row := none) ((u2_))) : w.heap.size ≤ gb973) : w0.heap.size ≤ gb973)); have n6_ := Aside0.mk ((by rw [hg]; exact Nat.ne_of_lt (IsS103.lt (show IsS103 w0 _ g s0_0 s0_1 s0_2 from (u1_))) : g ≠ gb973)); have n7_ := Aside0.mk ((by rw [hg]; exact Nat.ne_of_gt (IsS103.lt (show IsS103 w0 _ g s0_0 s0_1 s0_2 from (u1_))) : gb973 ≠ g)); replace HI0 := n0_; replace HK := n1_; replace HB := n2_; have BK973 := n3_; have GW973 := n4_; have GE973 := n5_; have NB0_973 := n6_; have NB973_0 := n7_; clear n0_ n1_ n2_ n3_ n4_ n5_ n6_ n7_; clear hb hbox hg) | ((with_reducible refine gate_callee (f := 94) rfl ?_); refine goesL_ (some 10) rfl rfl Tryd.func94 (by kernel_rfl) rfl #[.pointer (some ⟨g, 0, none⟩)] rfl aM_ ?_; (with_reducible refine (spec_l16Seed.calls g s0_0 s0_1 s0_2 t974 t975 t976 w0 _ ?side1 ?side2 A2.out).mono ?_); (case side1 => exact u4_ NB0_973.out); (case side2 => exact u0_ (IsS103.ge HI0.out) GE973.out); rintro e w120 ⟨rfl, hi, hb, hk⟩; refine ⟨_, rfl, ?_⟩; have n0_ := Aside0.mk (KeepBut.blk hk (g' := gb973) (o := .cells #[.int .i64 0, .slice none 0 0, .slice none 0 0] 42 (0, 0)) (rK_ BK973.out) NB973_0.out (by simp)); have n1_ := Aside0.mk (KeepBut.trans ((u5_ GW973.out)) hk (.inl rfl)); have n2_ := Aside0.mk (hb); have n3_ := Aside0.mk (hi); replace BK973 := n0_; replace HK := n1_; replace HB := n2_; replace HI0 := n3_; clear n0_ n1_ n2_ n3_; (try clear hb); (try clear hk); (try clear hi)) | ((with_reducible refine gate_callee (f := 96) rfl ?_); refine goesL_ (some 13) rfl rfl Tryd.func96 (by kernel_rfl) rfl #[.pointer (some ⟨g, 0, none⟩), .int .i64 4] rfl aM_ ?_; (with_reducible refine (spec_l01Below.calls g s0_0 t975 t976 4 t977 t978 t979 w0 _ ?side1 ?side2 A3.out).mono ?_); (case side1 => exact u4_ NB0_973.out); (case side2 => exact u0_ (IsS103.ge HI0.out) GE973.out); rintro e w121 ⟨rfl, hi, hb, hk⟩; refine ⟨_, rfl, ?_⟩; have n0_ := Aside0.mk (KeepBut.blk hk (g' := gb973) (o := .cells #[.int .i64 0, .slice none 0 0, .slice none 0 0] 42 (0, 0)) (rK_ BK973.out) NB973_0.out (by simp)); have n1_ := Aside0.mk (KeepBut.trans ((u5_ GW973.out)) hk (.inl rfl)); have n2_ := Aside0.mk (hb); have n3_ := Aside0.mk (hi); replace BK973 := n0_; replace HK := n1_; replace HB := n2_; replace HI0 := n3_; clear n0_ n1_ n2_ n3_; (try clear hb); (try clear hk); (try clear hi)) | ((with_reducible refine gate_callee (f := 95) rfl ?_); refine goesL_ (some 14) rfl rfl Tryd.func95 (by kernel_rfl) rfl #[.pointer (some ⟨g, 0, none⟩), .int .i64 t977] rfl aM_ ?_; (with_reducible refine (spec_l01Text.calls k g s0_0 t978 t979 t977 t980 t981 t982 w0 _ ?side1 ?side2 A4.out).mono ?_); (case side1 => exact u4_ NB0_973.out); (case side2 => exact u0_ (IsS103.ge HI0.out) GE973.out); rintro e w122 ⟨rfl, hi, hb, hk⟩; refine ⟨_, rfl, ?_⟩; have n0_ := Aside0.mk (KeepBut.blk hk (g' := gb973) (o := .cells #[.int .i64 0, .slice none 0 0, .slice none 0 0] 42 (0, 0)) (rK_ BK973.out) NB973_0.out (by simp)); have n1_ := Aside0.mk (KeepBut.trans ((u5_ GW973.out)) hk (.inl rfl)); have n2_ := Aside0.mk (hb); have n3_ := Aside0.mk (hi); replace BK973 := n0_; replace HK := n1_; replace HB := n2_; replace HI0 := n3_; clear n0_ n1_ n2_ n3_; (try clear hb); (try clear hk); (try clear hi)) | ((with_reducible refine gate_callee (f := 96) rfl ?_); refine goesL_ (some 18) rfl rfl Tryd.func96 (by kernel_rfl) rfl #[.pointer (some ⟨g, 0, none⟩), .int .i64 4] rfl aM_ ?_; (with_reducible refine (spec_l01Below.calls g s0_0 t981 t982 4 t983 t984 t985 w0 _ ?side1 ?side2 A5.out).mono ?_); (case side1 => exact u4_ NB0_973.out); (case side2 => exact u0_ (IsS103.ge HI0.out) GE973.out); rintro e w123 ⟨rfl, hi, hb, hk⟩; refine ⟨_, rfl, ?_⟩; have n0_ := Aside0.mk (KeepBut.blk hk (g' := gb973) (o := .cells #[.int .i64 0, .slice none 0 0, .slice none 0 0] 42 (0, 0)) (rK_ BK973.out) NB973_0.out (by simp)); have n1_ := Aside0.mk (KeepBut.trans ((u5_ GW973.out)) hk (.inl rfl)); have n2_ := Aside0.mk (hb); have n3_ := Aside0.mk (hi); replace BK973 := n0_; replace HK := n1_; replace HB := n2_; replace HI0 := n3_; clear n0_ n1_ n2_ n3_; (try clear hb); (try clear hk); (try clear hi)) | ((with_reducible refine gate_callee (f := 38) rfl ?_); refine goesL_ (some 20) rfl rfl Tryd.func38 (by kernel_rfl) rfl #[.string t974, .int .i64 t983, .string t980] rfl aM_ ?_; (with_reducible refine (spec_SignAt.calls k t974 t983 t980 t986 t987 t990 t993 _ A6.out).mono ?_); rintro e w124 ⟨v988, v991, rfl, ho0, ho1, hb⟩; refine ⟨_, rfl, ?_⟩; have n0_ := Aside0.mk (Kd.R_lower ho0 (keep_size (w := w) (g := g) (row := none) ((u5_ GW973.out)))); have n1_ := Aside0.mk (Kd.R_lower ho1 (keep_size (w := w) (g := g) (row := none) ((u5_ GW973.out)))); have n2_ := Aside0.mk (IsS103.below ((u4_ NB0_973.out)) hb); have n3_ := Aside0.mk (blk_below (g := gb973) (o := .cells #[.int .i64 0, .slice none 0 0, .slice none 0 0] 42 (0, 0)) (rK_ BK973.out) hb); have n4_ := Aside0.mk (KeepBut.trans ((u5_ GW973.out)) (KeepBut.of_below hb g none) (.inl rfl)); have n5_ := Aside0.mk (below_step ((u0_ (IsS103.ge HI0.out) GE973.out)) hb); have HO989 := n0_; have HO992 := n1_; replace HI0 := n2_; replace BK973 := n3_; replace HK := n4_; replace HB := n5_; clear n0_ n1_ n2_ n3_ n4_ n5_; (try clear hb); (try clear ho0); (try clear ho1)) | ((with_reducible refine gate_dst (N := 7) rfl ?_); refine box_event ?hg (N := 7) ?hd (cs := #[.int .i64 0, .slice none 0 0, .slice none 0 0]) (t := 42) ?hr ?_; (case hd => rfl); (case hg => rfl); (case hr => first | (go_simp; done) | (go_simp; rfl)); intro gb994 hg w125 hbox hb; have n0_ := Aside0.mk (Kd.R_below (rR_ HO989.out) hb); have n1_ := Aside0.mk (Kd.R_below (rR_ HO992.out) hb); have n2_ := Aside0.mk (IsS103.below ((u4_ NB0_973.out)) hb); have n3_ := Aside0.mk (blk_below (g := gb973) (o := .cells #[.int .i64 0, .slice none 0 0, .slice none 0 0] 42 (0, 0)) (rK_ BK973.out) hb); have n4_ := Aside0.mk (KeepBut.trans ((u5_ GW973.out)) (KeepBut.of_below hb g none) (.inl rfl)); have n5_ := Aside0.mk (below_step ((u0_ (IsS103.ge HI0.out) GE973.out)) hb); have n6_ := Aside0.mk (hbox); have n7_ := Aside0.mk ((by rw [hg]; exact (keep_size (w := w) (g := g) (row := none) ((u5_ GW973.out))) : w.heap.size ≤ gb994)); have n8_ := Aside0.mk ((Nat.le_trans HW0.out (by rw [hg]; exact (keep_size (w := w) (g := g) (row := none) ((u5_ GW973.out))) : w.heap.size ≤ gb994) : w0.heap.size ≤ gb994)); have n9_ := Aside0.mk ((by rw [hg]; exact Nat.ne_of_lt (blk_lt (g := gb973) (o := .cells #[.int .i64 0, .slice none 0 0, .slice none 0 0] 42 (0, 0)) (rK_ BK973.out)) : gb973 ≠ gb994)); have n10_ := Aside0.mk ((by rw [hg]; exact Nat.ne_of_gt (blk_lt (g := gb973) (o := .cells #[.int .i64 0, .slice none 0 0, .slice none 0 0] 42 (0, 0)) (rK_ BK973.out)) : gb994 ≠ gb973)); have n11_ := Aside0.mk ((by rw [hg]; exact Nat.ne_of_lt (IsS103.lt (show IsS103 w0 _ g s0_0 t984 t985 from (u4_ NB0_973.out))) : g ≠ gb994)); have n12_ := Aside0.mk ((by rw [hg]; exact Nat.ne_of_gt (IsS103.lt (show IsS103 w0 _ g s0_0 t984 t985 from (u4_ NB0_973.out))) : gb994 ≠ g)); replace HO989 := n0_; replace HO992 := n1_; replace HI0 := n2_; replace BK973 := n3_; replace HK := n4_; replace HB := n5_; have BK994 := n6_; have GW994 := n7_; have GE994 := n8_; have NB973_994 := n9_; have NB994_973 := n10_; have NB0_994 := n11_; have NB994_0 := n12_; clear n0_ n1_ n2_ n3_ n4_ n5_ n6_ n7_ n8_ n9_ n10_ n11_ n12_; clear hb hbox hg; have hnb126 := NB994_973.out; have hnc126 := NB973_994.out; have hnb127 := NB994_0.out; have hnc127 := NB0_994.out; have hcz128_0 : w125.cell? ⟨gb994, 0, none⟩ = some (.int .i64 0) := (blk_cell BK994.out 0).trans rfl; have hcz128_1 : w125.cell? ⟨gb994, 1, none⟩ = some (.slice none 0 0) := (blk_cell BK994.out 1).trans rfl; have hcz128_2 : w125.cell? ⟨gb994, 2, none⟩ = some (.slice none 0 0) := (blk_cell BK994.out 2).trans rfl; have hfz128_0 := blk_frozen BK994.out 0; have hfz128_1 := blk_frozen BK994.out 1; have hfz128_2 := blk_frozen BK994.out 2; obtain ⟨Ao129, co129, eo129⟩ := Kd.R_slice HO989.out; subst eo129; obtain ⟨Ao130, co130, eo130⟩ := Kd.R_slice HO992.out; subst eo130) | ((with_reducible refine gate_callee (f := 96) rfl ?_); refine goesL_ (some 24) rfl rfl Tryd.func96 (by kernel_rfl) rfl #[.pointer (some ⟨g, 0, none⟩), .int .i64 12] rfl aM_ ?_; (with_reducible refine (spec_l01Below.calls g s0_0 t984 t985 12 t995 t996 t997 w0 _ ?side1 ?side2 A7.out).mono ?_); (case side1 => exact u6_ NB0_973.out NB0_994.out); (case side2 => exact u7_ (IsS103.ge HI0.out) GE973.out GE994.out); rintro e w131 ⟨rfl, hi, hb, hk⟩; refine ⟨_, rfl, ?_⟩; have n0_ := Aside0.mk (KeepBut.blk hk (g' := gb973) (o := .cells #[.int .i64 0, .slice none 0 0, .slice none 0 0] 42 (0, 0)) (by refine kK_ ?_; refine blk_far ?_ NB973_994.out _; refine kK_ ?_; refine blk_far ?_ NB973_994.out _; refine kK_ ?_; refine blk_far ?_ NB973_994.out _; exact rK_ BK973.out) NB973_0.out (by simp)); have n1_ := Aside0.mk (Kd.R_mono (Kd.R_keep (IsS103.apart (show IsS103 w0 _ g s0_0 t984 t985 from (u6_ NB0_973.out NB0_994.out)) (by refine kR_ ?_; exact (Kd.R_mono (Kd.R_far (Kd.R_far (Kd.R_far (Kd.R_types HO989.out BK994.out (by decide)) (fun _ hk => hk.2) _) (fun _ hk => hk.2) _) (fun _ hk => hk.2) _) (fun _ h_ => h_.1))) (by decide)) hk (fun _ h => h.2)) (fun _ h => h.1)); have n2_ := Aside0.mk (Kd.R_mono (Kd.R_keep (IsS103.apart (show IsS103 w0 _ g s0_0 t984 t985 from (u6_ NB0_973.out NB0_994.out)) (by refine kR_ ?_; exact (Kd.R_mono (Kd.R_far (Kd.R_far (Kd.R_far (Kd.R_types HO992.out BK994.out (by decide)) (fun _ hk => hk.2) _) (fun _ hk => hk.2) _) (fun _ hk => hk.2) _) (fun _ h_ => h_.1))) (by decide)) hk (fun _ h => h.2)) (fun _ h => h.1)); have n3_ := Aside0.mk (KeepBut.blk hk (g' := gb994) (o := .cells #[.int .i64 t986, .slice Ao129 t987.length co129, .slice Ao130 t990.length co130] 42 (0, 0)) (by refine kK_ ?_; refine blk_put (cs := #[.int .i64 t986, .slice Ao129 t987.length co129, .slice none 0 0]) ?_ 2 _ rfl; refine kK_ ?_; refine blk_put (cs := #[.int .i64 t986, .slice none 0 0, .slice none 0 0]) ?_ 1 _ rfl; refine kK_ ?_; refine blk_put (cs := #[.int .i64 0, .slice none 0 0, .slice none 0 0]) ?_ 0 _ rfl; exact rK_ BK994.out) NB994_0.out (by simp)); have n4_ := Aside0.mk (KeepBut.trans ((u8_ GW973.out GW994.out)) hk (.inl rfl)); have n5_ := Aside0.mk (hb); have n6_ := Aside0.mk (hi); replace BK973 := n0_; replace HO989 := n1_; replace HO992 := n2_; replace BK994 := n3_; replace HK := n4_; replace HB := n5_; replace HI0 := n6_; clear n0_ n1_ n2_ n3_ n4_ n5_ n6_; (try clear hb); (try clear hk); (try clear hi)))
   have n0_ := Aside0.mk (Kd.R_drew HO989.out)
   have n1_ := Aside0.mk (Kd.R_drew HO992.out)
   have n2_ := Aside0.mk (blk_drew BK973.out)
   have n3_ := Aside0.mk (blk_drew BK994.out)
   have n4_ := Aside0.mk (IsS103.drew HI0.out)
   have n5_ := Aside0.mk (keep_drew HK.out)
   have n6_ := Aside0.mk (below_drew1 HB.out)
   clear HO989
   clear HO992
   clear BK973
   clear BK994
   clear HI0
   clear HK
   clear HB
   have HO989 := n0_
   have HO992 := n1_
   have BK973 := n2_
   have BK994 := n3_
   have HI0 := n4_
   have HK := n5_
   have HB := n6_
   clear n0_ n1_ n2_ n3_ n4_ n5_ n6_
   refine start_ (n := 6) (S := fun w' => w'.cell? ⟨gb994, 0, none⟩ = some (.int .i64 t986) ∧ w'.cell? ⟨gb994, 1, none⟩ = some (.slice Ao129 t987.length co129) ∧ w'.cell? ⟨gb994, 2, none⟩ = some (.slice Ao130 t990.length co130)) (ds := []) (bb_ 6 0) (by kernel_rfl) rfl rfl ⟨(blk_cell BK994.out 0).trans rfl, (blk_cell BK994.out 1).trans rfl, (blk_cell BK994.out 2).trans rfl⟩ (fun hHeld => ?_)
   generalize w131.drew = w132 at HO989 HO992 BK973 BK994 HI0 HK HB hHeld ⊢
   refine pB_ 0 59 (bb_ 6 1) ?_
   refine pB_ 1 60 (bb_ 6 3) ?_
   refine pB_ 3 2 (bb_ 6 11) ?_
   refine pB_ 4 3 (bb_ 6 27) ?_
   refine tS_ 2 61 (bb_ 6 31) (by kernel_rfl) hHeld ?_
   refine one_ (i := 5) (N := none) (bb_ 6 63) rfl rfl (by kernel_rfl) (by decide) (fun K hK => ?_)
   have hs133 : w132.cell? ⟨gb973, 0, none⟩ = some (.int .i64 0) := (blk_cell BK973.out 0).trans rfl
   have hfs133 := blk_frozen BK973.out 0
   have hns133_1 := NB994_973.out
   have hms133_1 := NB973_994.out
   have hs134 : w132.cell? ⟨gb973, 1, none⟩ = some (.slice none 0 0) := (blk_cell BK973.out 1).trans rfl
   have hfs134 := blk_frozen BK973.out 1
   have hns134_1 := NB994_973.out
   have hms134_1 := NB973_994.out
   have hs135 : w132.cell? ⟨gb973, 2, none⟩ = some (.slice none 0 0) := (blk_cell BK973.out 2).trans rfl
   have hfs135 := blk_frozen BK973.out 2
   have hns135_1 := NB994_973.out
   have hms135_1 := NB973_994.out
   refine skip_ (w1 := ?_) (by rfl) rfl ?_ ?_
   rotate_left
   ·go_simp
    rfl
   refine hK.out _ _ ⟨((cell_far (p := ⟨gb973, _, none⟩) NB994_973.out _).trans (((cell_far (p := ⟨gb973, _, none⟩) NB994_973.out _).trans (((cell_far (p := ⟨gb973, _, none⟩) NB994_973.out _).trans (hHeld.1)))))), ((cell_far (p := ⟨gb973, _, none⟩) NB994_973.out _).trans (((cell_far (p := ⟨gb973, _, none⟩) NB994_973.out _).trans (((cell_far (p := ⟨gb973, _, none⟩) NB994_973.out _).trans (hHeld.2.1)))))), ((cell_far (p := ⟨gb973, _, none⟩) NB994_973.out _).trans (((cell_far (p := ⟨gb973, _, none⟩) NB994_973.out _).trans (((cell_far (p := ⟨gb973, _, none⟩) NB994_973.out _).trans (hHeld.2.2))))))⟩ (fun hHeld => ?_)
   clear hK K
   refine done_ (by kernel_rfl) ?_
   try go_wp2
   refine bodyPost_ret (results_list (rs := [.tmp 2, .tmp 3, .cell 4 42]) rfl (by simp) (.tmp (.tmp (.cell gb973 42 #[.int .i64 t986, .slice Ao129 t987.length co129, .slice Ao130 t990.length co130] (0, 0) _ rfl (by refine kK_ ?_; refine blk_put (cs := #[.int .i64 t986, .slice Ao129 t987.length co129, .slice none 0 0]) ?_ 2 _ rfl; refine kK_ ?_; refine blk_put (cs := #[.int .i64 t986, .slice none 0 0, .slice none 0 0]) ?_ 1 _ rfl; refine kK_ ?_; refine blk_put (cs := #[.int .i64 0, .slice none 0 0, .slice none 0 0]) ?_ 0 _ rfl; exact rK_ BK973.out) Tryd.underlying42 rfl (by kernel_rfl) .nil)))) rfl ?_
   exact ⟨_, _, by first | rfl | (simp [errW_none, errW_some] <;> rfl) | (simp [*, errW_none, errW_some] <;> rfl), by refine kR_ ?_; exact Kd.R_mono (Kd.R_far (Kd.R_far (Kd.R_far (Kd.R_types HO989.out BK973.out (by decide)) (fun _ hk => hk.2) _) (fun _ hk => hk.2) _) (fun _ hk => hk.2) _) (fun _ hk => hk.1), Kd.Q_of_R (by refine kR_ ?_; exact Kd.R_mono (Kd.R_far (Kd.R_far (Kd.R_far (Kd.R_types HO992.out BK973.out (by decide)) (fun _ hk => hk.2) _) (fun _ hk => hk.2) _) (fun _ hk => hk.2) _) (fun _ hk => hk.1)), (u6_ NB0_973.out NB0_994.out), (u7_ (IsS103.ge HI0.out) GE973.out GE994.out), (u8_ GW973.out GW994.out)⟩
  rw [if_pos c97] at H
  have c97b0 : (t995 == 3) = true := beq_iff_eq.mpr c97
  have c97b1 : (t995 != 3) = false := bne_eq_false_iff_eq.mpr c97
  clear c97
  obtain ⟨c98, H⟩ := iN_ H
  have c98b0 := eq_true c98
  have c98b1 := decide_eq_true c98
  clear c98
  obtain ⟨y1027, hy1027⟩ : ∃ y_ : List ByteArray, y_ = (t990.drop (1 : Int).toNat) := ⟨_, rfl⟩
  replace H : (some (t974, t980, t986, t987, y1027, t996, t997)) = some (r1, r2, r3, r4, r5, r6, r7) := by first | (rw [hy1027]; with_reducible exact H) | (have H2_ := (Option.bind_some _ _).symm.trans H; rw [hy1027]; with_reducible exact H2_) | (have H2_ := (Option.bind_some _ _).symm.trans H; with_reducible exact H2_) | with_reducible exact H | (rw [hy1027]; exact H) | exact H
  have Ny1027 := Aside0.mk hy1027
  clear hy1027
  simp only [Option.some.injEq, Prod.mk.injEq] at H
  obtain ⟨rfl, rfl, rfl, rfl, rfl, rfl, rfl⟩ := H
  go_enter Tryd.func102, Tryd.ntmps102
  try go_wp2_with (first | ((with_reducible refine gate_dst (N := 4) rfl ?_); refine box_event ?hg (N := 4) ?hd (cs := #[.int .i64 0, .slice none 0 0, .slice none 0 0]) (t := 42) ?hr ?_; (case hd => rfl); (case hg => rfl); (case hr => first | (go_simp; done) | (go_simp; rfl)); intro gb973 hg w99 hbox hb; have n0_ := Aside0.mk (IsS103.below ((u1_)) hb); have n1_ := Aside0.mk (KeepBut.trans ((u2_)) (KeepBut.of_below hb g none) (.inl rfl)); have n2_ := Aside0.mk (below_step ((u3_ (IsS103.ge HI0.out))) hb); have n3_ := Aside0.mk (hbox); have n4_ := Aside0.mk ((by rw [hg]; exact (keep_size (w := w) (g := g) (row := none) ((u2_))) : w.heap.size ≤ gb973)); have n5_ := Aside0.mk ((Nat.le_trans HW0.out (by rw [hg]; exact (keep_size (w := w) (g := g) (row := none) ((u2_))) : w.heap.size ≤ gb973) : w0.heap.size ≤ gb973)); have n6_ := Aside0.mk ((by rw [hg]; exact Nat.ne_of_lt (IsS103.lt (show IsS103 w0 _ g s0_0 s0_1 s0_2 from (u1_))) : g ≠ gb973)); have n7_ := Aside0.mk ((by rw [hg]; exact Nat.ne_of_gt (IsS103.lt (show IsS103 w0 _ g s0_0 s0_1 s0_2 from (u1_))) : gb973 ≠ g)); replace HI0 := n0_; replace HK := n1_; replace HB := n2_; have BK973 := n3_; have GW973 := n4_; have GE973 := n5_; have NB0_973 := n6_; have NB973_0 := n7_; clear n0_ n1_ n2_ n3_ n4_ n5_ n6_ n7_; clear hb hbox hg) | ((with_reducible refine gate_callee (f := 94) rfl ?_); refine goesL_ (some 10) rfl rfl Tryd.func94 (by kernel_rfl) rfl #[.pointer (some ⟨g, 0, none⟩)] rfl aM_ ?_; (with_reducible refine (spec_l16Seed.calls g s0_0 s0_1 s0_2 t974 t975 t976 w0 _ ?side1 ?side2 A2.out).mono ?_); (case side1 => exact u4_ NB0_973.out); (case side2 => exact u0_ (IsS103.ge HI0.out) GE973.out); rintro e w100 ⟨rfl, hi, hb, hk⟩; refine ⟨_, rfl, ?_⟩; have n0_ := Aside0.mk (KeepBut.blk hk (g' := gb973) (o := .cells #[.int .i64 0, .slice none 0 0, .slice none 0 0] 42 (0, 0)) (rK_ BK973.out) NB973_0.out (by simp)); have n1_ := Aside0.mk (KeepBut.trans ((u5_ GW973.out)) hk (.inl rfl)); have n2_ := Aside0.mk (hb); have n3_ := Aside0.mk (hi); replace BK973 := n0_; replace HK := n1_; replace HB := n2_; replace HI0 := n3_; clear n0_ n1_ n2_ n3_; (try clear hb); (try clear hk); (try clear hi)) | ((with_reducible refine gate_callee (f := 96) rfl ?_); refine goesL_ (some 13) rfl rfl Tryd.func96 (by kernel_rfl) rfl #[.pointer (some ⟨g, 0, none⟩), .int .i64 4] rfl aM_ ?_; (with_reducible refine (spec_l01Below.calls g s0_0 t975 t976 4 t977 t978 t979 w0 _ ?side1 ?side2 A3.out).mono ?_); (case side1 => exact u4_ NB0_973.out); (case side2 => exact u0_ (IsS103.ge HI0.out) GE973.out); rintro e w101 ⟨rfl, hi, hb, hk⟩; refine ⟨_, rfl, ?_⟩; have n0_ := Aside0.mk (KeepBut.blk hk (g' := gb973) (o := .cells #[.int .i64 0, .slice none 0 0, .slice none 0 0] 42 (0, 0)) (rK_ BK973.out) NB973_0.out (by simp)); have n1_ := Aside0.mk (KeepBut.trans ((u5_ GW973.out)) hk (.inl rfl)); have n2_ := Aside0.mk (hb); have n3_ := Aside0.mk (hi); replace BK973 := n0_; replace HK := n1_; replace HB := n2_; replace HI0 := n3_; clear n0_ n1_ n2_ n3_; (try clear hb); (try clear hk); (try clear hi)) | ((with_reducible refine gate_callee (f := 95) rfl ?_); refine goesL_ (some 14) rfl rfl Tryd.func95 (by kernel_rfl) rfl #[.pointer (some ⟨g, 0, none⟩), .int .i64 t977] rfl aM_ ?_; (with_reducible refine (spec_l01Text.calls k g s0_0 t978 t979 t977 t980 t981 t982 w0 _ ?side1 ?side2 A4.out).mono ?_); (case side1 => exact u4_ NB0_973.out); (case side2 => exact u0_ (IsS103.ge HI0.out) GE973.out); rintro e w102 ⟨rfl, hi, hb, hk⟩; refine ⟨_, rfl, ?_⟩; have n0_ := Aside0.mk (KeepBut.blk hk (g' := gb973) (o := .cells #[.int .i64 0, .slice none 0 0, .slice none 0 0] 42 (0, 0)) (rK_ BK973.out) NB973_0.out (by simp)); have n1_ := Aside0.mk (KeepBut.trans ((u5_ GW973.out)) hk (.inl rfl)); have n2_ := Aside0.mk (hb); have n3_ := Aside0.mk (hi); replace BK973 := n0_; replace HK := n1_; replace HB := n2_; replace HI0 := n3_; clear n0_ n1_ n2_ n3_; (try clear hb); (try clear hk); (try clear hi)) | ((with_reducible refine gate_callee (f := 96) rfl ?_); refine goesL_ (some 18) rfl rfl Tryd.func96 (by kernel_rfl) rfl #[.pointer (some ⟨g, 0, none⟩), .int .i64 4] rfl aM_ ?_; (with_reducible refine (spec_l01Below.calls g s0_0 t981 t982 4 t983 t984 t985 w0 _ ?side1 ?side2 A5.out).mono ?_); (case side1 => exact u4_ NB0_973.out); (case side2 => exact u0_ (IsS103.ge HI0.out) GE973.out); rintro e w103 ⟨rfl, hi, hb, hk⟩; refine ⟨_, rfl, ?_⟩; have n0_ := Aside0.mk (KeepBut.blk hk (g' := gb973) (o := .cells #[.int .i64 0, .slice none 0 0, .slice none 0 0] 42 (0, 0)) (rK_ BK973.out) NB973_0.out (by simp)); have n1_ := Aside0.mk (KeepBut.trans ((u5_ GW973.out)) hk (.inl rfl)); have n2_ := Aside0.mk (hb); have n3_ := Aside0.mk (hi); replace BK973 := n0_; replace HK := n1_; replace HB := n2_; replace HI0 := n3_; clear n0_ n1_ n2_ n3_; (try clear hb); (try clear hk); (try clear hi)) | ((with_reducible refine gate_callee (f := 38) rfl ?_); refine goesL_ (some 20) rfl rfl Tryd.func38 (by kernel_rfl) rfl #[.string t974, .int .i64 t983, .string t980] rfl aM_ ?_; (with_reducible refine (spec_SignAt.calls k t974 t983 t980 t986 t987 t990 t993 _ A6.out).mono ?_); rintro e w104 ⟨v988, v991, rfl, ho0, ho1, hb⟩; refine ⟨_, rfl, ?_⟩; have n0_ := Aside0.mk (Kd.R_lower ho0 (keep_size (w := w) (g := g) (row := none) ((u5_ GW973.out)))); have n1_ := Aside0.mk (Kd.R_lower ho1 (keep_size (w := w) (g := g) (row := none) ((u5_ GW973.out)))); have n2_ := Aside0.mk (IsS103.below ((u4_ NB0_973.out)) hb); have n3_ := Aside0.mk (blk_below (g := gb973) (o := .cells #[.int .i64 0, .slice none 0 0, .slice none 0 0] 42 (0, 0)) (rK_ BK973.out) hb); have n4_ := Aside0.mk (KeepBut.trans ((u5_ GW973.out)) (KeepBut.of_below hb g none) (.inl rfl)); have n5_ := Aside0.mk (below_step ((u0_ (IsS103.ge HI0.out) GE973.out)) hb); have HO989 := n0_; have HO992 := n1_; replace HI0 := n2_; replace BK973 := n3_; replace HK := n4_; replace HB := n5_; clear n0_ n1_ n2_ n3_ n4_ n5_; (try clear hb); (try clear ho0); (try clear ho1)) | ((with_reducible refine gate_dst (N := 7) rfl ?_); refine box_event ?hg (N := 7) ?hd (cs := #[.int .i64 0, .slice none 0 0, .slice none 0 0]) (t := 42) ?hr ?_; (case hd => rfl); (case hg => rfl); (case hr => first | (go_simp; done) | (go_simp; rfl)); intro gb994 hg w105 hbox hb; have n0_ := Aside0.mk (Kd.R_below (rR_ HO989.out) hb); have n1_ := Aside0.mk (Kd.R_below (rR_ HO992.out) hb); have n2_ := Aside0.mk (IsS103.below ((u4_ NB0_973.out)) hb); have n3_ := Aside0.mk (blk_below (g := gb973) (o := .cells #[.int .i64 0, .slice none 0 0, .slice none 0 0] 42 (0, 0)) (rK_ BK973.out) hb); have n4_ := Aside0.mk (KeepBut.trans ((u5_ GW973.out)) (KeepBut.of_below hb g none) (.inl rfl)); have n5_ := Aside0.mk (below_step ((u0_ (IsS103.ge HI0.out) GE973.out)) hb); have n6_ := Aside0.mk (hbox); have n7_ := Aside0.mk ((by rw [hg]; exact (keep_size (w := w) (g := g) (row := none) ((u5_ GW973.out))) : w.heap.size ≤ gb994)); have n8_ := Aside0.mk ((Nat.le_trans HW0.out (by rw [hg]; exact (keep_size (w := w) (g := g) (row := none) ((u5_ GW973.out))) : w.heap.size ≤ gb994) : w0.heap.size ≤ gb994)); have n9_ := Aside0.mk ((by rw [hg]; exact Nat.ne_of_lt (blk_lt (g := gb973) (o := .cells #[.int .i64 0, .slice none 0 0, .slice none 0 0] 42 (0, 0)) (rK_ BK973.out)) : gb973 ≠ gb994)); have n10_ := Aside0.mk ((by rw [hg]; exact Nat.ne_of_gt (blk_lt (g := gb973) (o := .cells #[.int .i64 0, .slice none 0 0, .slice none 0 0] 42 (0, 0)) (rK_ BK973.out)) : gb994 ≠ gb973)); have n11_ := Aside0.mk ((by rw [hg]; exact Nat.ne_of_lt (IsS103.lt (show IsS103 w0 _ g s0_0 t984 t985 from (u4_ NB0_973.out))) : g ≠ gb994)); have n12_ := Aside0.mk ((by rw [hg]; exact Nat.ne_of_gt (IsS103.lt (show IsS103 w0 _ g s0_0 t984 t985 from (u4_ NB0_973.out))) : gb994 ≠ g)); replace HO989 := n0_; replace HO992 := n1_; replace HI0 := n2_; replace BK973 := n3_; replace HK := n4_; replace HB := n5_; have BK994 := n6_; have GW994 := n7_; have GE994 := n8_; have NB973_994 := n9_; have NB994_973 := n10_; have NB0_994 := n11_; have NB994_0 := n12_; clear n0_ n1_ n2_ n3_ n4_ n5_ n6_ n7_ n8_ n9_ n10_ n11_ n12_; clear hb hbox hg; have hnb106 := NB994_973.out; have hnc106 := NB973_994.out; have hnb107 := NB994_0.out; have hnc107 := NB0_994.out; have hcz108_0 : w105.cell? ⟨gb994, 0, none⟩ = some (.int .i64 0) := (blk_cell BK994.out 0).trans rfl; have hcz108_1 : w105.cell? ⟨gb994, 1, none⟩ = some (.slice none 0 0) := (blk_cell BK994.out 1).trans rfl; have hcz108_2 : w105.cell? ⟨gb994, 2, none⟩ = some (.slice none 0 0) := (blk_cell BK994.out 2).trans rfl; have hfz108_0 := blk_frozen BK994.out 0; have hfz108_1 := blk_frozen BK994.out 1; have hfz108_2 := blk_frozen BK994.out 2; obtain ⟨Ao109, co109, eo109⟩ := Kd.R_slice HO989.out; subst eo109; obtain ⟨Ao110, co110, eo110⟩ := Kd.R_slice HO992.out; subst eo110) | ((with_reducible refine gate_callee (f := 96) rfl ?_); refine goesL_ (some 24) rfl rfl Tryd.func96 (by kernel_rfl) rfl #[.pointer (some ⟨g, 0, none⟩), .int .i64 12] rfl aM_ ?_; (with_reducible refine (spec_l01Below.calls g s0_0 t984 t985 12 t995 t996 t997 w0 _ ?side1 ?side2 A7.out).mono ?_); (case side1 => exact u6_ NB0_973.out NB0_994.out); (case side2 => exact u7_ (IsS103.ge HI0.out) GE973.out GE994.out); rintro e w111 ⟨rfl, hi, hb, hk⟩; refine ⟨_, rfl, ?_⟩; have n0_ := Aside0.mk (KeepBut.blk hk (g' := gb973) (o := .cells #[.int .i64 0, .slice none 0 0, .slice none 0 0] 42 (0, 0)) (by refine kK_ ?_; refine blk_far ?_ NB973_994.out _; refine kK_ ?_; refine blk_far ?_ NB973_994.out _; refine kK_ ?_; refine blk_far ?_ NB973_994.out _; exact rK_ BK973.out) NB973_0.out (by simp)); have n1_ := Aside0.mk (Kd.R_mono (Kd.R_keep (IsS103.apart (show IsS103 w0 _ g s0_0 t984 t985 from (u6_ NB0_973.out NB0_994.out)) (by refine kR_ ?_; exact (Kd.R_mono (Kd.R_far (Kd.R_far (Kd.R_far (Kd.R_types HO989.out BK994.out (by decide)) (fun _ hk => hk.2) _) (fun _ hk => hk.2) _) (fun _ hk => hk.2) _) (fun _ h_ => h_.1))) (by decide)) hk (fun _ h => h.2)) (fun _ h => h.1)); have n2_ := Aside0.mk (Kd.R_mono (Kd.R_keep (IsS103.apart (show IsS103 w0 _ g s0_0 t984 t985 from (u6_ NB0_973.out NB0_994.out)) (by refine kR_ ?_; exact (Kd.R_mono (Kd.R_far (Kd.R_far (Kd.R_far (Kd.R_types HO992.out BK994.out (by decide)) (fun _ hk => hk.2) _) (fun _ hk => hk.2) _) (fun _ hk => hk.2) _) (fun _ h_ => h_.1))) (by decide)) hk (fun _ h => h.2)) (fun _ h => h.1)); have n3_ := Aside0.mk (KeepBut.blk hk (g' := gb994) (o := .cells #[.int .i64 t986, .slice Ao109 t987.length co109, .slice Ao110 t990.length co110] 42 (0, 0)) (by refine kK_ ?_; refine blk_put (cs := #[.int .i64 t986, .slice Ao109 t987.length co109, .slice none 0 0]) ?_ 2 _ rfl; refine kK_ ?_; refine blk_put (cs := #[.int .i64 t986, .slice none 0 0, .slice none 0 0]) ?_ 1 _ rfl; refine kK_ ?_; refine blk_put (cs := #[.int .i64 0, .slice none 0 0, .slice none 0 0]) ?_ 0 _ rfl; exact rK_ BK994.out) NB994_0.out (by simp)); have n4_ := Aside0.mk (KeepBut.trans ((u8_ GW973.out GW994.out)) hk (.inl rfl)); have n5_ := Aside0.mk (hb); have n6_ := Aside0.mk (hi); replace BK973 := n0_; replace HO989 := n1_; replace HO992 := n2_; replace BK994 := n3_; replace HK := n4_; replace HB := n5_; replace HI0 := n6_; clear n0_ n1_ n2_ n3_ n4_ n5_ n6_; (try clear hb); (try clear hk); (try clear hi); have hcz112_0 : w111.cell? ⟨gb994, 0, none⟩ = some (.int .i64 t986) := (blk_cell BK994.out 0).trans rfl; have hcz112_1 : w111.cell? ⟨gb994, 1, none⟩ = some (.slice Ao109 t987.length co109) := (blk_cell BK994.out 1).trans rfl; have hcz112_2 : w111.cell? ⟨gb994, 2, none⟩ = some (.slice Ao110 t990.length co110) := (blk_cell BK994.out 2).trans rfl; have hfz112_0 := blk_frozen BK994.out 0; have hfz112_1 := blk_frozen BK994.out 1; have hfz112_2 := blk_frozen BK994.out 2; have q113 : (1 : Int) ≤ ((t990.length : Int) : Int) := of_decide_eq_true (by first | (with_reducible assumption) | assumption); obtain ⟨i0113, hi0113, _, hsz113, _⟩ := info_parts info9; have hcut113 := cut_from (P := Tryd.prog) 25 9 .i64 Tryd.underlying25 hi0113 1 hsz113 Ao110 t990.length co110 1 (by omega) q113; have hr113 := Kd.Q_drop (k := (1 : Int).toNat) (Kd.Q_of_R HO992.out) (by omega); obtain ⟨A113, hA113⟩ : ∃ A1, A1 = (if co110 = (1 : Int).toNat then Ao110 else (Ao110 : Option Addr).map (·.add ((1 : Int).toNat * 1))) := ⟨_, rfl⟩; obtain ⟨c113, hc113⟩ : ∃ c1, c1 = co110 - (1 : Int).toNat := ⟨_, rfl⟩; have hy113 : y1027.length = t990.length - (1 : Int).toNat := (by rw [Ny1027.out, List.length_drop]); rw [← Ny1027.out] at hr113; rw [← hy113, ← hA113, ← hc113] at hcut113; replace hr113 : Kd.Q Kd.string 9 w111 w.heap.size (fun k_ => some k_ ≠ (.slice Ao109 t987.length co109 : Value).ownBlock) (.slice A113 y1027.length c113) y1027 := (by rw [hA113, hc113, hy113]; exact hr113); have HE113 : Aside0 ((Value.slice A113 y1027.length c113).ownBlock = (.slice Ao110 t990.length co110 : Value).ownBlock) := ⟨by rw [hA113]; split <;> (cases (Ao110 : Option Addr) <;> rfl)⟩; clear hy113 hi0113 hsz113 HO992 hA113 hc113; have HO1029 := Aside0.mk hr113; clear hr113; replace q113 := eq_true q113; have n_ := Aside0.mk (Kd.R_mono (ok' := fun k_ => some k_ ≠ (.slice A113 y1027.length c113 : Value).ownBlock) HO989.out (fun k_ hk => (by rw [HE113.out]; exact hk))); clear HO989; have HO989 := n_; clear n_))
  have n0_ : Aside0 (Kd.R Kd.string 9 (w111.setCell ⟨gb994, 2, none⟩ (.slice A113 y1027.length c113)) w.heap.size (fun k_ => some k_ ≠ (.slice A113 y1027.length c113 : Value).ownBlock) (.slice Ao109 t987.length co109) t987) := ⟨by refine kR_ ?_; exact Kd.R_mono (Kd.R_far (Kd.R_types HO989.out BK994.out (by decide)) (fun _ hk => hk.2) _) (fun _ hk => hk.1)⟩
  have n1_ : Aside0 (Kd.Q Kd.string 9 (w111.setCell ⟨gb994, 2, none⟩ (.slice A113 y1027.length c113)) w.heap.size (fun k_ => some k_ ≠ (.slice Ao109 t987.length co109 : Value).ownBlock) (.slice A113 y1027.length c113) y1027) := ⟨by refine kQ_ ?_; exact Kd.Q_mono (Kd.Q_far (p := ⟨gb994, 2, none⟩) (Kd.Q_types HO1029.out BK994.out (by decide)) (fun _ hk => hk.2) _) (fun _ hk => hk.1)⟩
  have n2_ : Aside0 ((w111.setCell ⟨gb994, 2, none⟩ (.slice A113 y1027.length c113)).heap[gb973]? = some (.cells #[.int .i64 0, .slice none 0 0, .slice none 0 0] 42 (0, 0))) := ⟨by refine kK_ ?_; refine blk_far ?_ NB973_994.out _; refine kK_ ?_; exact BK973.out⟩
  have n3_ : Aside0 ((w111.setCell ⟨gb994, 2, none⟩ (.slice A113 y1027.length c113)).heap[gb994]? = some (.cells #[.int .i64 t986, .slice Ao109 t987.length co109, .slice A113 y1027.length c113] 42 (0, 0))) := ⟨by refine kK_ ?_; refine blk_put (cs := #[.int .i64 t986, .slice Ao109 t987.length co109, .slice Ao110 t990.length co110]) ?_ 2 _ rfl; refine kK_ ?_; exact BK994.out⟩
  have n4_ : Aside0 (IsS103 w0 (w111.setCell ⟨gb994, 2, none⟩ (.slice A113 y1027.length c113)) g s0_0 t996 t997) := ⟨(u6_ NB0_973.out NB0_994.out)⟩
  have n5_ : Aside0 (KeepBut w (w111.setCell ⟨gb994, 2, none⟩ (.slice A113 y1027.length c113)) g none) := ⟨(u8_ GW973.out GW994.out)⟩
  have n6_ : Aside0 (Below w0.heap.size w0 (w111.setCell ⟨gb994, 2, none⟩ (.slice A113 y1027.length c113))) := ⟨(u7_ (IsS103.ge HI0.out) GE973.out GE994.out)⟩
  (try clear HO989)
  (try clear HO1029)
  (try clear BK973)
  (try clear BK994)
  (try clear HI0)
  (try clear HK)
  (try clear HB)
  generalize (w111.setCell ⟨gb994, 2, none⟩ (.slice A113 y1027.length c113)) = w114 at n0_ n1_ n2_ n3_ n4_ n5_ n6_ ⊢
  have HO989 := n0_
  have HO1029 := n1_
  have BK973 := n2_
  have BK994 := n3_
  have HI0 := n4_
  have HK := n5_
  have HB := n6_
  clear n0_ n1_ n2_ n3_ n4_ n5_ n6_
  have n0_ := Aside0.mk (Kd.R_drew HO989.out)
  have n1_ := Aside0.mk (Kd.Q_drew HO1029.out)
  have n2_ := Aside0.mk (blk_drew BK973.out)
  have n3_ := Aside0.mk (blk_drew BK994.out)
  have n4_ := Aside0.mk (IsS103.drew HI0.out)
  have n5_ := Aside0.mk (keep_drew HK.out)
  have n6_ := Aside0.mk (below_drew1 HB.out)
  clear HO989
  clear HO1029
  clear BK973
  clear BK994
  clear HI0
  clear HK
  clear HB
  have HO989 := n0_
  have HO1029 := n1_
  have BK973 := n2_
  have BK994 := n3_
  have HI0 := n4_
  have HK := n5_
  have HB := n6_
  clear n0_ n1_ n2_ n3_ n4_ n5_ n6_
  refine start_ (n := 6) (S := fun w' => w'.cell? ⟨gb994, 0, none⟩ = some (.int .i64 t986) ∧ w'.cell? ⟨gb994, 1, none⟩ = some (.slice Ao109 t987.length co109) ∧ w'.cell? ⟨gb994, 2, none⟩ = some (.slice A113 y1027.length c113)) (ds := []) (bb_ 6 0) (by kernel_rfl) rfl rfl ⟨(blk_cell BK994.out 0).trans rfl, (blk_cell BK994.out 1).trans rfl, (blk_cell BK994.out 2).trans rfl⟩ (fun hHeld => ?_)
  generalize w114.drew = w115 at HO989 HO1029 BK973 BK994 HI0 HK HB hHeld ⊢
  refine pB_ 0 59 (bb_ 6 1) ?_
  refine pB_ 1 60 (bb_ 6 3) ?_
  refine pB_ 3 2 (bb_ 6 11) ?_
  refine pB_ 4 3 (bb_ 6 27) ?_
  refine tS_ 2 61 (bb_ 6 31) (by kernel_rfl) hHeld ?_
  refine one_ (i := 5) (N := none) (bb_ 6 63) rfl rfl (by kernel_rfl) (by decide) (fun K hK => ?_)
  have hs116 : w115.cell? ⟨gb973, 0, none⟩ = some (.int .i64 0) := (blk_cell BK973.out 0).trans rfl
  have hfs116 := blk_frozen BK973.out 0
  have hns116_1 := NB994_973.out
  have hms116_1 := NB973_994.out
  have hs117 : w115.cell? ⟨gb973, 1, none⟩ = some (.slice none 0 0) := (blk_cell BK973.out 1).trans rfl
  have hfs117 := blk_frozen BK973.out 1
  have hns117_1 := NB994_973.out
  have hms117_1 := NB973_994.out
  have hs118 : w115.cell? ⟨gb973, 2, none⟩ = some (.slice none 0 0) := (blk_cell BK973.out 2).trans rfl
  have hfs118 := blk_frozen BK973.out 2
  have hns118_1 := NB994_973.out
  have hms118_1 := NB973_994.out
  refine skip_ (w1 := ?_) (by rfl) rfl ?_ ?_
  rotate_left
  ·go_simp
   rfl
  refine hK.out _ _ ⟨((cell_far (p := ⟨gb973, _, none⟩) NB994_973.out _).trans (((cell_far (p := ⟨gb973, _, none⟩) NB994_973.out _).trans (((cell_far (p := ⟨gb973, _, none⟩) NB994_973.out _).trans (hHeld.1)))))), ((cell_far (p := ⟨gb973, _, none⟩) NB994_973.out _).trans (((cell_far (p := ⟨gb973, _, none⟩) NB994_973.out _).trans (((cell_far (p := ⟨gb973, _, none⟩) NB994_973.out _).trans (hHeld.2.1)))))), ((cell_far (p := ⟨gb973, _, none⟩) NB994_973.out _).trans (((cell_far (p := ⟨gb973, _, none⟩) NB994_973.out _).trans (((cell_far (p := ⟨gb973, _, none⟩) NB994_973.out _).trans (hHeld.2.2))))))⟩ (fun hHeld => ?_)
  clear hK K
  refine done_ (by kernel_rfl) ?_
  try go_wp2
  refine bodyPost_ret (results_list (rs := [.tmp 2, .tmp 3, .cell 4 42]) rfl (by simp) (.tmp (.tmp (.cell gb973 42 #[.int .i64 t986, .slice Ao109 t987.length co109, .slice A113 y1027.length c113] (0, 0) _ rfl (by refine kK_ ?_; refine blk_put (cs := #[.int .i64 t986, .slice Ao109 t987.length co109, .slice none 0 0]) ?_ 2 _ rfl; refine kK_ ?_; refine blk_put (cs := #[.int .i64 t986, .slice none 0 0, .slice none 0 0]) ?_ 1 _ rfl; refine kK_ ?_; refine blk_put (cs := #[.int .i64 0, .slice none 0 0, .slice none 0 0]) ?_ 0 _ rfl; exact rK_ BK973.out) Tryd.underlying42 rfl (by kernel_rfl) .nil)))) rfl ?_
  exact ⟨_, _, by first | rfl | (simp [errW_none, errW_some] <;> rfl) | (simp [*, errW_none, errW_some] <;> rfl), by refine kR_ ?_; exact Kd.R_mono (Kd.R_far (Kd.R_far (Kd.R_far (Kd.R_types HO989.out BK973.out (by decide)) (fun _ hk => hk.2) _) (fun _ hk => hk.2) _) (fun _ hk => hk.2) _) (fun _ hk => hk.1), by refine kQ_ ?_; exact Kd.Q_mono (Kd.Q_far (p := ⟨gb973, 2, none⟩) (Kd.Q_far (p := ⟨gb973, 1, none⟩) (Kd.Q_far (p := ⟨gb973, 0, none⟩) (Kd.Q_types HO1029.out BK973.out (by decide)) (fun _ hk => hk.2) _) (fun _ hk => hk.2) _) (fun _ hk => hk.2) _) (fun _ hk => hk.1), (u6_ NB0_973.out NB0_994.out), (u7_ (IsS103.ge HI0.out) GE973.out GE994.out), (u8_ GW973.out GW994.out)⟩
 rw [if_pos c67] at H
 have c67b0 : (t995 == 2) = true := beq_iff_eq.mpr c67
 have c67b1 : (t995 != 2) = false := bne_eq_false_iff_eq.mpr c67
 clear c67
 obtain ⟨y1017, hy1017⟩ : ∃ y_ : List Int, y_ = (([4, 4, 5] : List Int)) := ⟨_, rfl⟩
 replace H : ((spec_l01PickInt.f s0_0 t996 t997 y1017).bind fun bt1020 => ((spec_l01Text.f k s0_0 bt1020.2.1 bt1020.2.2 bt1020.1).bind fun bt1023 => (if 0 < (t990.length : Int) then (some (t974, t980, t986, t987, (t990.set (0 : Int).toNat bt1023.1), bt1023.2.1, bt1023.2.2)) else (none)))) = some (r1, r2, r3, r4, r5, r6, r7) := by first | (rw [hy1017]; with_reducible exact H) | (have H2_ := (Option.bind_some _ _).symm.trans H; rw [hy1017]; with_reducible exact H2_) | (have H2_ := (Option.bind_some _ _).symm.trans H; with_reducible exact H2_) | with_reducible exact H | (rw [hy1017]; exact H) | exact H
 have Ny1017 := Aside0.mk hy1017
 clear hy1017
 replace H := Option.bind_eq_some_iff.mp H
 obtain ⟨⟨t1020, t1021, t1022⟩, A680, H⟩ := H
 try dsimp -simprocs only at H
 have A68 := Aside0.mk A680
 clear A680
 replace H := Option.bind_eq_some_iff.mp H
 obtain ⟨⟨t1023, t1024, t1025⟩, A690, H⟩ := H
 try dsimp -simprocs only at H
 have A69 := Aside0.mk A690
 clear A690
 obtain ⟨c70, H⟩ := iN_ H
 have c70b0 := decide_eq_true c70
 have c70b1 : decide (0 < t990.length) = true := decide_eq_true (by omega)
 clear c70
 obtain ⟨y1026, hy1026⟩ : ∃ y_ : List ByteArray, y_ = (t990.set (0 : Int).toNat t1023) := ⟨_, rfl⟩
 replace H : (some (t974, t980, t986, t987, y1026, t1024, t1025)) = some (r1, r2, r3, r4, r5, r6, r7) := by first | (rw [hy1026]; with_reducible exact H) | (have H2_ := (Option.bind_some _ _).symm.trans H; rw [hy1026]; with_reducible exact H2_) | (have H2_ := (Option.bind_some _ _).symm.trans H; with_reducible exact H2_) | with_reducible exact H | (rw [hy1026]; exact H) | exact H
 have Ny1026 := Aside0.mk hy1026
 clear hy1026
 simp only [Option.some.injEq, Prod.mk.injEq] at H
 obtain ⟨rfl, rfl, rfl, rfl, rfl, rfl, rfl⟩ := H
 go_enter Tryd.func102, Tryd.ntmps102
 try go_wp2_with (first | ((with_reducible refine gate_dst (N := 4) rfl ?_); refine box_event ?hg (N := 4) ?hd (cs := #[.int .i64 0, .slice none 0 0, .slice none 0 0]) (t := 42) ?hr ?_; (case hd => rfl); (case hg => rfl); (case hr => first | (go_simp; done) | (go_simp; rfl)); intro gb973 hg w72 hbox hb; have n0_ := Aside0.mk (IsS103.below ((u1_)) hb); have n1_ := Aside0.mk (KeepBut.trans ((u2_)) (KeepBut.of_below hb g none) (.inl rfl)); have n2_ := Aside0.mk (below_step ((u3_ (IsS103.ge HI0.out))) hb); have n3_ := Aside0.mk (hbox); have n4_ := Aside0.mk ((by rw [hg]; exact (keep_size (w := w) (g := g) (row := none) ((u2_))) : w.heap.size ≤ gb973)); have n5_ := Aside0.mk ((Nat.le_trans HW0.out (by rw [hg]; exact (keep_size (w := w) (g := g) (row := none) ((u2_))) : w.heap.size ≤ gb973) : w0.heap.size ≤ gb973)); have n6_ := Aside0.mk ((by rw [hg]; exact Nat.ne_of_lt (IsS103.lt (show IsS103 w0 _ g s0_0 s0_1 s0_2 from (u1_))) : g ≠ gb973)); have n7_ := Aside0.mk ((by rw [hg]; exact Nat.ne_of_gt (IsS103.lt (show IsS103 w0 _ g s0_0 s0_1 s0_2 from (u1_))) : gb973 ≠ g)); replace HI0 := n0_; replace HK := n1_; replace HB := n2_; have BK973 := n3_; have GW973 := n4_; have GE973 := n5_; have NB0_973 := n6_; have NB973_0 := n7_; clear n0_ n1_ n2_ n3_ n4_ n5_ n6_ n7_; clear hb hbox hg) | ((with_reducible refine gate_callee (f := 94) rfl ?_); refine goesL_ (some 10) rfl rfl Tryd.func94 (by kernel_rfl) rfl #[.pointer (some ⟨g, 0, none⟩)] rfl aM_ ?_; (with_reducible refine (spec_l16Seed.calls g s0_0 s0_1 s0_2 t974 t975 t976 w0 _ ?side1 ?side2 A2.out).mono ?_); (case side1 => exact u4_ NB0_973.out); (case side2 => exact u0_ (IsS103.ge HI0.out) GE973.out); rintro e w73 ⟨rfl, hi, hb, hk⟩; refine ⟨_, rfl, ?_⟩; have n0_ := Aside0.mk (KeepBut.blk hk (g' := gb973) (o := .cells #[.int .i64 0, .slice none 0 0, .slice none 0 0] 42 (0, 0)) (rK_ BK973.out) NB973_0.out (by simp)); have n1_ := Aside0.mk (KeepBut.trans ((u5_ GW973.out)) hk (.inl rfl)); have n2_ := Aside0.mk (hb); have n3_ := Aside0.mk (hi); replace BK973 := n0_; replace HK := n1_; replace HB := n2_; replace HI0 := n3_; clear n0_ n1_ n2_ n3_; (try clear hb); (try clear hk); (try clear hi)) | ((with_reducible refine gate_callee (f := 96) rfl ?_); refine goesL_ (some 13) rfl rfl Tryd.func96 (by kernel_rfl) rfl #[.pointer (some ⟨g, 0, none⟩), .int .i64 4] rfl aM_ ?_; (with_reducible refine (spec_l01Below.calls g s0_0 t975 t976 4 t977 t978 t979 w0 _ ?side1 ?side2 A3.out).mono ?_); (case side1 => exact u4_ NB0_973.out); (case side2 => exact u0_ (IsS103.ge HI0.out) GE973.out); rintro e w74 ⟨rfl, hi, hb, hk⟩; refine ⟨_, rfl, ?_⟩; have n0_ := Aside0.mk (KeepBut.blk hk (g' := gb973) (o := .cells #[.int .i64 0, .slice none 0 0, .slice none 0 0] 42 (0, 0)) (rK_ BK973.out) NB973_0.out (by simp)); have n1_ := Aside0.mk (KeepBut.trans ((u5_ GW973.out)) hk (.inl rfl)); have n2_ := Aside0.mk (hb); have n3_ := Aside0.mk (hi); replace BK973 := n0_; replace HK := n1_; replace HB := n2_; replace HI0 := n3_; clear n0_ n1_ n2_ n3_; (try clear hb); (try clear hk); (try clear hi)) | ((with_reducible refine gate_callee (f := 95) rfl ?_); refine goesL_ (some 14) rfl rfl Tryd.func95 (by kernel_rfl) rfl #[.pointer (some ⟨g, 0, none⟩), .int .i64 t977] rfl aM_ ?_; (with_reducible refine (spec_l01Text.calls k g s0_0 t978 t979 t977 t980 t981 t982 w0 _ ?side1 ?side2 A4.out).mono ?_); (case side1 => exact u4_ NB0_973.out); (case side2 => exact u0_ (IsS103.ge HI0.out) GE973.out); rintro e w75 ⟨rfl, hi, hb, hk⟩; refine ⟨_, rfl, ?_⟩; have n0_ := Aside0.mk (KeepBut.blk hk (g' := gb973) (o := .cells #[.int .i64 0, .slice none 0 0, .slice none 0 0] 42 (0, 0)) (rK_ BK973.out) NB973_0.out (by simp)); have n1_ := Aside0.mk (KeepBut.trans ((u5_ GW973.out)) hk (.inl rfl)); have n2_ := Aside0.mk (hb); have n3_ := Aside0.mk (hi); replace BK973 := n0_; replace HK := n1_; replace HB := n2_; replace HI0 := n3_; clear n0_ n1_ n2_ n3_; (try clear hb); (try clear hk); (try clear hi)) | ((with_reducible refine gate_callee (f := 96) rfl ?_); refine goesL_ (some 18) rfl rfl Tryd.func96 (by kernel_rfl) rfl #[.pointer (some ⟨g, 0, none⟩), .int .i64 4] rfl aM_ ?_; (with_reducible refine (spec_l01Below.calls g s0_0 t981 t982 4 t983 t984 t985 w0 _ ?side1 ?side2 A5.out).mono ?_); (case side1 => exact u4_ NB0_973.out); (case side2 => exact u0_ (IsS103.ge HI0.out) GE973.out); rintro e w76 ⟨rfl, hi, hb, hk⟩; refine ⟨_, rfl, ?_⟩; have n0_ := Aside0.mk (KeepBut.blk hk (g' := gb973) (o := .cells #[.int .i64 0, .slice none 0 0, .slice none 0 0] 42 (0, 0)) (rK_ BK973.out) NB973_0.out (by simp)); have n1_ := Aside0.mk (KeepBut.trans ((u5_ GW973.out)) hk (.inl rfl)); have n2_ := Aside0.mk (hb); have n3_ := Aside0.mk (hi); replace BK973 := n0_; replace HK := n1_; replace HB := n2_; replace HI0 := n3_; clear n0_ n1_ n2_ n3_; (try clear hb); (try clear hk); (try clear hi)) | ((with_reducible refine gate_callee (f := 38) rfl ?_); refine goesL_ (some 20) rfl rfl Tryd.func38 (by kernel_rfl) rfl #[.string t974, .int .i64 t983, .string t980] rfl aM_ ?_; (with_reducible refine (spec_SignAt.calls k t974 t983 t980 t986 t987 t990 t993 _ A6.out).mono ?_); rintro e w77 ⟨v988, v991, rfl, ho0, ho1, hb⟩; refine ⟨_, rfl, ?_⟩; have n0_ := Aside0.mk (Kd.R_lower ho0 (keep_size (w := w) (g := g) (row := none) ((u5_ GW973.out)))); have n1_ := Aside0.mk (Kd.R_lower ho1 (keep_size (w := w) (g := g) (row := none) ((u5_ GW973.out)))); have n2_ := Aside0.mk (IsS103.below ((u4_ NB0_973.out)) hb); have n3_ := Aside0.mk (blk_below (g := gb973) (o := .cells #[.int .i64 0, .slice none 0 0, .slice none 0 0] 42 (0, 0)) (rK_ BK973.out) hb); have n4_ := Aside0.mk (KeepBut.trans ((u5_ GW973.out)) (KeepBut.of_below hb g none) (.inl rfl)); have n5_ := Aside0.mk (below_step ((u0_ (IsS103.ge HI0.out) GE973.out)) hb); have HO989 := n0_; have HO992 := n1_; replace HI0 := n2_; replace BK973 := n3_; replace HK := n4_; replace HB := n5_; clear n0_ n1_ n2_ n3_ n4_ n5_; (try clear hb); (try clear ho0); (try clear ho1)) | ((with_reducible refine gate_dst (N := 7) rfl ?_); refine box_event ?hg (N := 7) ?hd (cs := #[.int .i64 0, .slice none 0 0, .slice none 0 0]) (t := 42) ?hr ?_; (case hd => rfl); (case hg => rfl); (case hr => first | (go_simp; done) | (go_simp; rfl)); intro gb994 hg w78 hbox hb; have n0_ := Aside0.mk (Kd.R_below (rR_ HO989.out) hb); have n1_ := Aside0.mk (Kd.R_below (rR_ HO992.out) hb); have n2_ := Aside0.mk (IsS103.below ((u4_ NB0_973.out)) hb); have n3_ := Aside0.mk (blk_below (g := gb973) (o := .cells #[.int .i64 0, .slice none 0 0, .slice none 0 0] 42 (0, 0)) (rK_ BK973.out) hb); have n4_ := Aside0.mk (KeepBut.trans ((u5_ GW973.out)) (KeepBut.of_below hb g none) (.inl rfl)); have n5_ := Aside0.mk (below_step ((u0_ (IsS103.ge HI0.out) GE973.out)) hb); have n6_ := Aside0.mk (hbox); have n7_ := Aside0.mk ((by rw [hg]; exact (keep_size (w := w) (g := g) (row := none) ((u5_ GW973.out))) : w.heap.size ≤ gb994)); have n8_ := Aside0.mk ((Nat.le_trans HW0.out (by rw [hg]; exact (keep_size (w := w) (g := g) (row := none) ((u5_ GW973.out))) : w.heap.size ≤ gb994) : w0.heap.size ≤ gb994)); have n9_ := Aside0.mk ((by rw [hg]; exact Nat.ne_of_lt (blk_lt (g := gb973) (o := .cells #[.int .i64 0, .slice none 0 0, .slice none 0 0] 42 (0, 0)) (rK_ BK973.out)) : gb973 ≠ gb994)); have n10_ := Aside0.mk ((by rw [hg]; exact Nat.ne_of_gt (blk_lt (g := gb973) (o := .cells #[.int .i64 0, .slice none 0 0, .slice none 0 0] 42 (0, 0)) (rK_ BK973.out)) : gb994 ≠ gb973)); have n11_ := Aside0.mk ((by rw [hg]; exact Nat.ne_of_lt (IsS103.lt (show IsS103 w0 _ g s0_0 t984 t985 from (u4_ NB0_973.out))) : g ≠ gb994)); have n12_ := Aside0.mk ((by rw [hg]; exact Nat.ne_of_gt (IsS103.lt (show IsS103 w0 _ g s0_0 t984 t985 from (u4_ NB0_973.out))) : gb994 ≠ g)); replace HO989 := n0_; replace HO992 := n1_; replace HI0 := n2_; replace BK973 := n3_; replace HK := n4_; replace HB := n5_; have BK994 := n6_; have GW994 := n7_; have GE994 := n8_; have NB973_994 := n9_; have NB994_973 := n10_; have NB0_994 := n11_; have NB994_0 := n12_; clear n0_ n1_ n2_ n3_ n4_ n5_ n6_ n7_ n8_ n9_ n10_ n11_ n12_; clear hb hbox hg; have hnb79 := NB994_973.out; have hnc79 := NB973_994.out; have hnb80 := NB994_0.out; have hnc80 := NB0_994.out; have hcz81_0 : w78.cell? ⟨gb994, 0, none⟩ = some (.int .i64 0) := (blk_cell BK994.out 0).trans rfl; have hcz81_1 : w78.cell? ⟨gb994, 1, none⟩ = some (.slice none 0 0) := (blk_cell BK994.out 1).trans rfl; have hcz81_2 : w78.cell? ⟨gb994, 2, none⟩ = some (.slice none 0 0) := (blk_cell BK994.out 2).trans rfl; have hfz81_0 := blk_frozen BK994.out 0; have hfz81_1 := blk_frozen BK994.out 1; have hfz81_2 := blk_frozen BK994.out 2; obtain ⟨Ao82, co82, eo82⟩ := Kd.R_slice HO989.out; subst eo82; obtain ⟨Ao83, co83, eo83⟩ := Kd.R_slice HO992.out; subst eo83) | ((with_reducible refine gate_callee (f := 96) rfl ?_); refine goesL_ (some 24) rfl rfl Tryd.func96 (by kernel_rfl) rfl #[.pointer (some ⟨g, 0, none⟩), .int .i64 12] rfl aM_ ?_; (with_reducible refine (spec_l01Below.calls g s0_0 t984 t985 12 t995 t996 t997 w0 _ ?side1 ?side2 A7.out).mono ?_); (case side1 => exact u6_ NB0_973.out NB0_994.out); (case side2 => exact u7_ (IsS103.ge HI0.out) GE973.out GE994.out); rintro e w84 ⟨rfl, hi, hb, hk⟩; refine ⟨_, rfl, ?_⟩; have n0_ := Aside0.mk (KeepBut.blk hk (g' := gb973) (o := .cells #[.int .i64 0, .slice none 0 0, .slice none 0 0] 42 (0, 0)) (by refine kK_ ?_; refine blk_far ?_ NB973_994.out _; refine kK_ ?_; refine blk_far ?_ NB973_994.out _; refine kK_ ?_; refine blk_far ?_ NB973_994.out _; exact rK_ BK973.out) NB973_0.out (by simp)); have n1_ := Aside0.mk (Kd.R_mono (Kd.R_keep (IsS103.apart (show IsS103 w0 _ g s0_0 t984 t985 from (u6_ NB0_973.out NB0_994.out)) (by refine kR_ ?_; exact (Kd.R_mono (Kd.R_far (Kd.R_far (Kd.R_far (Kd.R_types HO989.out BK994.out (by decide)) (fun _ hk => hk.2) _) (fun _ hk => hk.2) _) (fun _ hk => hk.2) _) (fun _ h_ => h_.1))) (by decide)) hk (fun _ h => h.2)) (fun _ h => h.1)); have n2_ := Aside0.mk (Kd.R_mono (Kd.R_keep (IsS103.apart (show IsS103 w0 _ g s0_0 t984 t985 from (u6_ NB0_973.out NB0_994.out)) (by refine kR_ ?_; exact (Kd.R_mono (Kd.R_far (Kd.R_far (Kd.R_far (Kd.R_types HO992.out BK994.out (by decide)) (fun _ hk => hk.2) _) (fun _ hk => hk.2) _) (fun _ hk => hk.2) _) (fun _ h_ => h_.1))) (by decide)) hk (fun _ h => h.2)) (fun _ h => h.1)); have n3_ := Aside0.mk (KeepBut.blk hk (g' := gb994) (o := .cells #[.int .i64 t986, .slice Ao82 t987.length co82, .slice Ao83 t990.length co83] 42 (0, 0)) (by refine kK_ ?_; refine blk_put (cs := #[.int .i64 t986, .slice Ao82 t987.length co82, .slice none 0 0]) ?_ 2 _ rfl; refine kK_ ?_; refine blk_put (cs := #[.int .i64 t986, .slice none 0 0, .slice none 0 0]) ?_ 1 _ rfl; refine kK_ ?_; refine blk_put (cs := #[.int .i64 0, .slice none 0 0, .slice none 0 0]) ?_ 0 _ rfl; exact rK_ BK994.out) NB994_0.out (by simp)); have n4_ := Aside0.mk (KeepBut.trans ((u8_ GW973.out GW994.out)) hk (.inl rfl)); have n5_ := Aside0.mk (hb); have n6_ := Aside0.mk (hi); replace BK973 := n0_; replace HO989 := n1_; replace HO992 := n2_; replace BK994 := n3_; replace HK := n4_; replace HB := n5_; replace HI0 := n6_; clear n0_ n1_ n2_ n3_ n4_ n5_ n6_; (try clear hb); (try clear hk); (try clear hi)))
 have n0_ := Aside0.mk (Kd.R_drew HO989.out)
 have n1_ := Aside0.mk (Kd.R_drew HO992.out)
 have n2_ := Aside0.mk (blk_drew BK973.out)
 have n3_ := Aside0.mk (blk_drew BK994.out)
 have n4_ := Aside0.mk (IsS103.drew HI0.out)
 have n5_ := Aside0.mk (keep_drew HK.out)
 have n6_ := Aside0.mk (below_drew1 HB.out)
 clear HO989
 clear HO992
 clear BK973
 clear BK994
 clear HI0
 clear HK
 clear HB
 have HO989 := n0_
 have HO992 := n1_
 have BK973 := n2_
 have BK994 := n3_
 have HI0 := n4_
 have HK := n5_
 have HB := n6_
 clear n0_ n1_ n2_ n3_ n4_ n5_ n6_
 refine start_ (n := 9) (S := fun w' => w'.cell? ⟨gb994, 0, none⟩ = some (.int .i64 t986) ∧ w'.cell? ⟨gb994, 1, none⟩ = some (.slice Ao82 t987.length co82) ∧ w'.cell? ⟨gb994, 2, none⟩ = some (.slice Ao83 t990.length co83)) (ds := [8]) (bb_ 9 0) (by kernel_rfl) rfl rfl ⟨(blk_cell BK994.out 0).trans rfl, (blk_cell BK994.out 1).trans rfl, (blk_cell BK994.out 2).trans rfl⟩ (fun hHeld => ?_); refine with_tabW spec_l16Sig.tab10 spec_l16Sig.bits10 (fun HT_ HW_ => ?_)
 generalize w84.drew = w85 at HO989 HO992 BK973 BK994 HI0 HK HB hHeld ⊢
 refine pS_ 0 45 (bb_ 9 1) HT_.out ?_
 refine pS_ 2 47 (bb_ 9 5) HT_.out ?_
 refine pS_ 3 48 (bb_ 9 13) HT_.out ?_
 refine tS_ 1 46 (bb_ 9 15) (take_ofW HT_.out HW_.out (by kernel_rfl)) hHeld ?_
 refine one_ (i := 4) (N := some 49) (bb_ 9 31) rfl rfl (one_of HT_.out (by kernel_rfl)) (by decide) (fun K hK => ?_)
 refine Kd.R_lit_step (Kd.int .i64) _ 3 ?hg (N := 49) ?hd (xs := ([4, 4, 5] : List Int)) (inner := [.int .i64 4, .int .i64 4, .int .i64 5]) (ok := fun _ => True) (okp := fun _ => True) ?hr ?hp (fun _ hk => hk) trivial (Below.refl _ _) (Nat.le_refl _) (by simp) ?_; (case hd => rfl); (case hg => rfl); (case hr => first | (go_simp; done) | (go_simp; rfl)); (case hp => exact (Reps.one (show Kd.M (Kd.int .i64) _ _ _ 4 [.int .i64 4] from rfl) (Reps.one (show Kd.M (Kd.int .i64) _ _ _ 4 [.int .i64 4] from rfl) (Reps.one (show Kd.M (Kd.int .i64) _ _ _ 5 [.int .i64 5] from rfl) (Reps.none _ _)))))
 intro v1018 w86 ho87 hb hg_ hnew_
 clear hg_ hnew_
 (first | rw [← Ny1017.out] at ho87 | (simp only [Int.reduceToNat] at ho87; rw [← Ny1017.out] at ho87))
 have n0_ := Aside0.mk (Kd.R_below (rR_ HO989.out) hb)
 have n1_ := Aside0.mk (Kd.R_below (rR_ HO992.out) hb)
 have n2_ := Aside0.mk (Kd.R_lower ho87 (keep_size (w := w) (g := g) (row := none) ((u8_ GW973.out GW994.out))))
 have n3_ := Aside0.mk (IsS103.below ((u6_ NB0_973.out NB0_994.out)) hb)
 have n4_ := Aside0.mk (blk_below (g := gb973) (o := .cells #[.int .i64 0, .slice none 0 0, .slice none 0 0] 42 (0, 0)) (rK_ BK973.out) hb)
 have n5_ := Aside0.mk (blk_below (g := gb994) (o := .cells #[.int .i64 t986, .slice Ao82 t987.length co82, .slice Ao83 t990.length co83] 42 (0, 0)) (rK_ BK994.out) hb)
 have n6_ := Aside0.mk (KeepBut.trans ((u8_ GW973.out GW994.out)) (KeepBut.of_below hb g none) (.inl rfl))
 have n7_ := Aside0.mk (below_step ((u7_ (IsS103.ge HI0.out) GE973.out GE994.out)) hb)
 clear HO989
 clear HO992
 clear HI0
 clear BK973
 clear BK994
 clear HK
 clear HB
 have HO989 := n0_
 have HO992 := n1_
 have HO1019 := n2_
 have HI0 := n3_
 have BK973 := n4_
 have BK994 := n5_
 have HK := n6_
 have HB := n7_
 clear n0_ n1_ n2_ n3_ n4_ n5_ n6_ n7_
 clear hb ho87
 obtain ⟨Ao88, co88, eo88⟩ := Kd.R_slice HO1019.out
 (first | subst eo88 | (injection eo88 with f1_ f2_ f3_; have f4_ := f1_.symm; have f5_ := f3_.symm; clear f1_ f2_ f3_; subst f4_; subst f5_))
 refine hK.out _ _ ⟨(blk_cell BK994.out 0).trans rfl, (blk_cell BK994.out 1).trans rfl, (blk_cell BK994.out 2).trans rfl⟩ (fun hHeld => ?_)
 clear hK K
 refine norm_ (a' := ?_) ?_ ?_
 rotate_left
 ·show Act.put _ (some 49) _ = _
  simp only [Act.put, List.setIfInBounds_toArray, List.set_cons_zero, List.set_cons_succ, i64_w, i32_w]
  rfl
 refine one_ (i := 5) (N := some 50) (bb_ 9 63) rfl rfl (one_of HT_.out (by kernel_rfl)) (by decide) (fun K hK => ?_)
 refine goes_ Tryd.func112 (by kernel_rfl) rfl #[.pointer (some ⟨g, 0, none⟩), .slice Ao88 y1017.length co88] (by rfl) rfl rfl aM_ ?_
 with_reducible refine (spec_l01PickInt.calls g s0_0 t996 t997 _ _ y1017 t1020 t1021 t1022 w0 _ ?side1 ?side2 ?side3 ?side4 ?side5 A68.out).mono ?_
 (case side1 => exact u6_ NB0_973.out NB0_994.out)
 (case side2 => exact u7_ (IsS103.ge HI0.out) GE973.out GE994.out)
 (case side3 => exact cR_ (Kd.R_reads' HO1019.out).2.2)
 (case side4 => exact (Kd.R_reads' HO1019.out).2.1)
 (case side5 => exact far_slice (IsS103.own_ne HI0.out HO1019.out (by decide)))
 rintro e w89 ⟨rfl, hi, hb, hk⟩
 refine ⟨_, rfl, ?_⟩
 have n0_ := Aside0.mk (KeepBut.blk hk (g' := gb973) (o := .cells #[.int .i64 0, .slice none 0 0, .slice none 0 0] 42 (0, 0)) (rK_ BK973.out) NB973_0.out (by simp))
 have n1_ := Aside0.mk (Kd.R_mono (Kd.R_keep (IsS103.apart (show IsS103 w0 _ g s0_0 t996 t997 from (u6_ NB0_973.out NB0_994.out)) (rR_ HO989.out) (by decide)) hk (fun _ h => h.2)) (fun _ h => h.1))
 have n2_ := Aside0.mk (Kd.R_mono (Kd.R_keep (IsS103.apart (show IsS103 w0 _ g s0_0 t996 t997 from (u6_ NB0_973.out NB0_994.out)) (rR_ HO992.out) (by decide)) hk (fun _ h => h.2)) (fun _ h => h.1))
 have n3_ := Aside0.mk (KeepBut.blk hk (g' := gb994) (o := .cells #[.int .i64 t986, .slice Ao82 t987.length co82, .slice Ao83 t990.length co83] 42 (0, 0)) (rK_ BK994.out) NB994_0.out (by simp))
 have n4_ := Aside0.mk (Kd.R_mono (Kd.R_keep (IsS103.apart (show IsS103 w0 _ g s0_0 t996 t997 from (u6_ NB0_973.out NB0_994.out)) (rR_ HO1019.out) (by decide)) hk (fun _ h => h.2)) (fun _ h => h.1))
 have n5_ := Aside0.mk (KeepBut.trans ((u8_ GW973.out GW994.out)) hk (.inl rfl))
 have n6_ := Aside0.mk (hb)
 have n7_ := Aside0.mk (hi)
 clear BK973
 clear HO989
 clear HO992
 clear BK994
 clear HO1019
 clear HK
 clear HB
 clear HI0
 have BK973 := n0_
 have HO989 := n1_
 have HO992 := n2_
 have BK994 := n3_
 have HO1019 := n4_
 have HK := n5_
 have HB := n6_
 have HI0 := n7_
 clear n0_ n1_ n2_ n3_ n4_ n5_ n6_ n7_
 (try clear hb)
 (try clear hb2)
 (try clear hk)
 (try clear hi)
 refine hK.out _ _ ⟨(blk_cell BK994.out 0).trans rfl, (blk_cell BK994.out 1).trans rfl, (blk_cell BK994.out 2).trans rfl⟩ (fun hHeld => ?_)
 clear hK K
 refine norm_ (a' := ?_) ?_ ?_
 rotate_left
 ·show Act.put _ (some 50) _ = _
  simp only [Act.put, List.setIfInBounds_toArray, List.set_cons_zero, List.set_cons_succ, i64_w, i32_w]
  rfl
 refine one_ (i := 6) (N := some 51) (bb_ 9 127) rfl rfl (one_of HT_.out (by kernel_rfl)) (by decide) (fun K hK => ?_)
 refine goes_ Tryd.func95 (by kernel_rfl) rfl #[.pointer (some ⟨g, 0, none⟩), .int .i64 t1020] (by rfl) rfl rfl aM_ ?_
 with_reducible refine (spec_l01Text.calls k g s0_0 t1021 t1022 t1020 t1023 t1024 t1025 w0 _ ?side1 ?side2 A69.out).mono ?_
 (case side1 => exact u6_ NB0_973.out NB0_994.out)
 (case side2 => exact u7_ (IsS103.ge HI0.out) GE973.out GE994.out)
 rintro e w90 ⟨rfl, hi, hb, hk⟩
 refine ⟨_, rfl, ?_⟩
 have n0_ := Aside0.mk (KeepBut.blk hk (g' := gb973) (o := .cells #[.int .i64 0, .slice none 0 0, .slice none 0 0] 42 (0, 0)) (rK_ BK973.out) NB973_0.out (by simp))
 have n1_ := Aside0.mk (Kd.R_mono (Kd.R_keep (IsS103.apart (show IsS103 w0 _ g s0_0 t1021 t1022 from (u6_ NB0_973.out NB0_994.out)) (rR_ HO989.out) (by decide)) hk (fun _ h => h.2)) (fun _ h => h.1))
 have n2_ := Aside0.mk (Kd.R_mono (Kd.R_keep (IsS103.apart (show IsS103 w0 _ g s0_0 t1021 t1022 from (u6_ NB0_973.out NB0_994.out)) (rR_ HO992.out) (by decide)) hk (fun _ h => h.2)) (fun _ h => h.1))
 have n3_ := Aside0.mk (KeepBut.blk hk (g' := gb994) (o := .cells #[.int .i64 t986, .slice Ao82 t987.length co82, .slice Ao83 t990.length co83] 42 (0, 0)) (rK_ BK994.out) NB994_0.out (by simp))
 have n4_ := Aside0.mk (Kd.R_mono (Kd.R_keep (IsS103.apart (show IsS103 w0 _ g s0_0 t1021 t1022 from (u6_ NB0_973.out NB0_994.out)) (rR_ HO1019.out) (by decide)) hk (fun _ h => h.2)) (fun _ h => h.1))
 have n5_ := Aside0.mk (KeepBut.trans ((u8_ GW973.out GW994.out)) hk (.inl rfl))
 have n6_ := Aside0.mk (hb)
 have n7_ := Aside0.mk (hi)
 clear BK973
 clear HO989
 clear HO992
 clear BK994
 clear HO1019
 clear HK
 clear HB
 clear HI0
 have BK973 := n0_
 have HO989 := n1_
 have HO992 := n2_
 have BK994 := n3_
 have HO1019 := n4_
 have HK := n5_
 have HB := n6_
 have HI0 := n7_
 clear n0_ n1_ n2_ n3_ n4_ n5_ n6_ n7_
 (try clear hb)
 (try clear hb2)
 (try clear hk)
 (try clear hi)
 have p71 : 0 ≤ (0 : Int) := (by omega)
 have q71 : (0 : Int) < ((t990.length : Int) : Int) := of_decide_eq_true (by first | (with_reducible assumption) | assumption)
 have qi71 : (0 < t990.length) = True := eq_true (by omega)
 obtain ⟨go71, co71, eo71, gb71, gl71, cl71, HG71⟩ := Kd.R_form HO992.out (by omega)
 (first | cases eo71 | (injection eo71 with ea_ en_ ec_; (first | subst ea_ | (injection ea_ with ea_; subst ea_)); subst ec_; clear en_))
 have GB71 := Aside0.mk gb71
 have GG71 := Aside0.mk HG71
 clear gb71 gl71 HG71
 obtain ⟨hx71_0, hf71_0⟩ := Kd.R_celln (⟨#[]⟩ : ByteArray) HO992.out (0 : Int) p71 q71
 (try rw [show ((0 : Int)).toNat = 0 from rfl] at hx71_0)
 (try simp only [Nat.reduceMul, Nat.zero_mul, Nat.zero_add, Nat.reduceAdd] at hx71_0)
 (try rw [show ((0 : Int)).toNat = 0 from rfl] at hf71_0)
 (try simp only [Nat.reduceMul, Nat.zero_mul, Nat.zero_add, Nat.reduceAdd] at hf71_0)
 replace p71 := eq_true p71
 replace q71 := eq_true q71
 have HN0_go71 := Aside0.mk (show g ≠ go71 from by have h_ := IsS103.own_ne HI0.out HO992.out (by decide); intro e_; exact h_ (by rw [e_]; rfl))
 have HP91 := Kd.R_putn HO992.out (0 : Int) t1023
 rw [← Ny1026.out] at HP91
 have HQ91 := Aside0.mk HP91
 clear HP91
 refine hK.out _ _ ⟨(blk_cell BK994.out 0).trans rfl, (blk_cell BK994.out 1).trans rfl, (blk_cell BK994.out 2).trans rfl⟩ (fun hHeld => ?_)
 clear hK K
 refine norm_ (a' := ?_) ?_ ?_
 rotate_left
 ·show Act.put _ (some 51) _ = _
  simp only [Act.put, List.setIfInBounds_toArray, List.set_cons_zero, List.set_cons_succ, i64_w, i32_w]
  rfl
 refine pS_ 7 52 (bb_ 9 255) HT_.out ?_
 refine last_ (i := 8) (N := none) (bb_ 9 511) rfl rfl (one_of HT_.out (by kernel_rfl)) (by decide) (fun K hK => ?_)
 refine skip_ (w1 := ?_) (by rfl) rfl ?_ ?_
 rotate_left
 ·go_simp
  rfl
 refine hK.out _ _ ?_
 clear hK K
 refine done_ (done_of HT_.out (by kernel_rfl)) ?_
 have n0_ : Aside0 (Kd.R Kd.string 9 (w90.setCell ⟨go71, 0, none⟩ (.string t1023)) w.heap.size (fun k_ => some k_ ≠ (.slice (some ⟨go71, 0, none⟩) t990.length co83 : Value).ownBlock) (.slice Ao82 t987.length co82) t987) := ⟨by refine kR_ ?_; exact Kd.R_mono (Kd.R_far (p := ⟨go71, 0, none⟩) (Kd.R_mono HO989.out (fun k_ hk => (⟨hk, fun e_ => hk (by rw [e_]; rfl)⟩ : _ ∧ k_ ≠ go71))) (fun _ hk => hk.2) _) (fun _ hk => hk.1)⟩
 have n1_ : Aside0 (Kd.R Kd.string 9 (w90.setCell ⟨go71, 0, none⟩ (.string t1023)) w.heap.size (fun k_ => some k_ ≠ (.slice Ao82 t987.length co82 : Value).ownBlock) (.slice (some ⟨go71, 0, none⟩) t990.length co83) y1026) := ⟨rR_ HQ91.out⟩
 have n2_ : Aside0 (Kd.R (Kd.int .i64) 3 (w90.setCell ⟨go71, 0, none⟩ (.string t1023)) w.heap.size (fun _ => True) (.slice Ao88 y1017.length co88) y1017) := ⟨by refine kR_ ?_; exact Kd.R_mono (Kd.R_far (p := ⟨go71, 0, none⟩) (Kd.R_types HO1019.out GG71.out (by decide)) (fun _ hk => hk.2) _) (fun _ hk => trivial)⟩
 have n3_ : Aside0 ((w90.setCell ⟨go71, 0, none⟩ (.string t1023)).heap[gb973]? = some (.cells #[.int .i64 0, .slice none 0 0, .slice none 0 0] 42 (0, 0))) := ⟨by refine kK_ ?_; refine blk_far ?_ (by have h_ := Kd.R_ne HO992.out BK973.out (by decide); intro e_; exact h_ (by rw [e_]; rfl)) _; refine kK_ ?_; exact BK973.out⟩
 have n4_ : Aside0 ((w90.setCell ⟨go71, 0, none⟩ (.string t1023)).heap[gb994]? = some (.cells #[.int .i64 t986, .slice Ao82 t987.length co82, .slice (some ⟨go71, 0, none⟩) t990.length co83] 42 (0, 0))) := ⟨by refine kK_ ?_; refine blk_far ?_ (by have h_ := Kd.R_ne HO992.out BK994.out (by decide); intro e_; exact h_ (by rw [e_]; rfl)) _; refine kK_ ?_; exact BK994.out⟩
 have n5_ : Aside0 (IsS103 w0 (w90.setCell ⟨go71, 0, none⟩ (.string t1023)) g s0_0 t1024 t1025) := ⟨(u9_ HN0_go71.out NB0_973.out NB0_994.out)⟩
 have n6_ : Aside0 (KeepBut w (w90.setCell ⟨go71, 0, none⟩ (.string t1023)) g none) := ⟨(u10_ GB71.out GW973.out GW994.out)⟩
 have n7_ : Aside0 (Below w0.heap.size w0 (w90.setCell ⟨go71, 0, none⟩ (.string t1023))) := ⟨(u11_ (Nat.le_trans HL.out GB71.out) (IsS103.ge HI0.out) GE973.out GE994.out)⟩
 (try clear HO989)
 (try clear HO992)
 (try clear HO1019)
 (try clear BK973)
 (try clear BK994)
 (try clear HI0)
 (try clear HK)
 (try clear HB)
 generalize (w90.setCell ⟨go71, 0, none⟩ (.string t1023)) = w92 at n0_ n1_ n2_ n3_ n4_ n5_ n6_ n7_ ⊢
 have HO989 := n0_
 have HO992 := n1_
 have HO1019 := n2_
 have BK973 := n3_
 have BK994 := n4_
 have HI0 := n5_
 have HK := n6_
 have HB := n7_
 clear n0_ n1_ n2_ n3_ n4_ n5_ n6_ n7_
 try go_wp2
 have n0_ := Aside0.mk (Kd.R_drew HO989.out)
 have n1_ := Aside0.mk (Kd.R_drew HO992.out)
 have n2_ := Aside0.mk (Kd.R_drew HO1019.out)
 have n3_ := Aside0.mk (blk_drew BK973.out)
 have n4_ := Aside0.mk (blk_drew BK994.out)
 have n5_ := Aside0.mk (IsS103.drew HI0.out)
 have n6_ := Aside0.mk (keep_drew HK.out)
 have n7_ := Aside0.mk (below_drew1 HB.out)
 clear HO989
 clear HO992
 clear HO1019
 clear BK973
 clear BK994
 clear HI0
 clear HK
 clear HB
 have HO989 := n0_
 have HO992 := n1_
 have HO1019 := n2_
 have BK973 := n3_
 have BK994 := n4_
 have HI0 := n5_
 have HK := n6_
 have HB := n7_
 clear n0_ n1_ n2_ n3_ n4_ n5_ n6_ n7_
 refine start_ (n := 6) (S := fun w' => w'.cell? ⟨gb994, 0, none⟩ = some (.int .i64 t986) ∧ w'.cell? ⟨gb994, 1, none⟩ = some (.slice Ao82 t987.length co82) ∧ w'.cell? ⟨gb994, 2, none⟩ = some (.slice (some ⟨go71, 0, none⟩) t990.length co83)) (ds := []) (bb_ 6 0) (by kernel_rfl) rfl rfl ⟨(blk_cell BK994.out 0).trans rfl, (blk_cell BK994.out 1).trans rfl, (blk_cell BK994.out 2).trans rfl⟩ (fun hHeld => ?_)
 generalize w92.drew = w93 at HO989 HO992 HO1019 BK973 BK994 HI0 HK HB hHeld ⊢
 refine pB_ 0 59 (bb_ 6 1) ?_
 refine pB_ 1 60 (bb_ 6 3) ?_
 refine pB_ 3 2 (bb_ 6 11) ?_
 refine pB_ 4 3 (bb_ 6 27) ?_
 refine tS_ 2 61 (bb_ 6 31) (by kernel_rfl) hHeld ?_
 refine one_ (i := 5) (N := none) (bb_ 6 63) rfl rfl (by kernel_rfl) (by decide) (fun K hK => ?_)
 have hs94 : w93.cell? ⟨gb973, 0, none⟩ = some (.int .i64 0) := (blk_cell BK973.out 0).trans rfl
 have hfs94 := blk_frozen BK973.out 0
 have hns94_1 := NB994_973.out
 have hms94_1 := NB973_994.out
 have hs95 : w93.cell? ⟨gb973, 1, none⟩ = some (.slice none 0 0) := (blk_cell BK973.out 1).trans rfl
 have hfs95 := blk_frozen BK973.out 1
 have hns95_1 := NB994_973.out
 have hms95_1 := NB973_994.out
 have hs96 : w93.cell? ⟨gb973, 2, none⟩ = some (.slice none 0 0) := (blk_cell BK973.out 2).trans rfl
 have hfs96 := blk_frozen BK973.out 2
 have hns96_1 := NB994_973.out
 have hms96_1 := NB973_994.out
 refine skip_ (w1 := ?_) (by rfl) rfl ?_ ?_
 rotate_left
 ·go_simp
  rfl
 refine hK.out _ _ ⟨((cell_far (p := ⟨gb973, _, none⟩) NB994_973.out _).trans (((cell_far (p := ⟨gb973, _, none⟩) NB994_973.out _).trans (((cell_far (p := ⟨gb973, _, none⟩) NB994_973.out _).trans (hHeld.1)))))), ((cell_far (p := ⟨gb973, _, none⟩) NB994_973.out _).trans (((cell_far (p := ⟨gb973, _, none⟩) NB994_973.out _).trans (((cell_far (p := ⟨gb973, _, none⟩) NB994_973.out _).trans (hHeld.2.1)))))), ((cell_far (p := ⟨gb973, _, none⟩) NB994_973.out _).trans (((cell_far (p := ⟨gb973, _, none⟩) NB994_973.out _).trans (((cell_far (p := ⟨gb973, _, none⟩) NB994_973.out _).trans (hHeld.2.2))))))⟩ (fun hHeld => ?_)
 clear hK K
 refine done_ (by kernel_rfl) ?_
 try go_wp2
 refine bodyPost_ret (results_list (rs := [.tmp 2, .tmp 3, .cell 4 42]) rfl (by simp) (.tmp (.tmp (.cell gb973 42 #[.int .i64 t986, .slice Ao82 t987.length co82, .slice (some ⟨go71, 0, none⟩) t990.length co83] (0, 0) _ rfl (by refine kK_ ?_; refine blk_put (cs := #[.int .i64 t986, .slice Ao82 t987.length co82, .slice none 0 0]) ?_ 2 _ rfl; refine kK_ ?_; refine blk_put (cs := #[.int .i64 t986, .slice none 0 0, .slice none 0 0]) ?_ 1 _ rfl; refine kK_ ?_; refine blk_put (cs := #[.int .i64 0, .slice none 0 0, .slice none 0 0]) ?_ 0 _ rfl; exact rK_ BK973.out) Tryd.underlying42 rfl (by kernel_rfl) .nil)))) rfl ?_
 exact ⟨_, _, by first | rfl | (simp [errW_none, errW_some] <;> rfl) | (simp [*, errW_none, errW_some] <;> rfl), by refine kR_ ?_; exact Kd.R_mono (Kd.R_far (Kd.R_far (Kd.R_far (Kd.R_types HO989.out BK973.out (by decide)) (fun _ hk => hk.2) _) (fun _ hk => hk.2) _) (fun _ hk => hk.2) _) (fun _ hk => hk.1), Kd.Q_of_R (by refine kR_ ?_; exact Kd.R_mono (Kd.R_far (Kd.R_far (Kd.R_far (Kd.R_types HO992.out BK973.out (by decide)) (fun _ hk => hk.2) _) (fun _ hk => hk.2) _) (fun _ hk => hk.2) _) (fun _ hk => hk.1)), (u6_ NB0_973.out NB0_994.out), (u7_ (IsS103.ge HI0.out) GE973.out GE994.out), (u8_ GW973.out GW994.out)⟩

end Go.Proofs.YtjcmafoepabpkaaDoor.P
