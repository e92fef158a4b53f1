-- printed texts of this session, regrouped
import Derived.Test.YtjcmafoepabpkaaDoorMW7
import Derived.Test.YtjcmafoepabpkaaDoorMW6
import Derived.Test.YtjcmafoepabpkaaDoorPx0
import Derived.Test.YtjcmafoepabpkaaDoorPx1
import Derived.Test.YtjcmafoepabpkaaDoorPx4
import Derived.Test.YtjcmafoepabpkaaDoorPx9
namespace Go.Proofs.YtjcmafoepabpkaaDoor.P
open Go.RowKit Go.Proofs.YtjcmafoepabpkaaDoorW.PrintWords Go.Proofs.YtjcmafoepabpkaaDoorW.PrintLast Go.Proofs.YtjcmafoepabpkaaDoorW.PrintMore
attribute [local go_sem] max2_int min2_int max_two min_two max_three min_three max_four min_four   -- for this text's walks alone
set_option linter.unusedVariables false
set_option linter.unusedSimpArgs false
set_option maxHeartbeats 8000000
set_option maxRecDepth 100000

/-! ### spec_OnceFound: function 16 -/
def spec_OnceFound.l0 : Nat → List ByteArray → Int → List Int → ByteArray → Int → Option (ByteArray)
 | 0, _, _, _, _, _ => none
 | k + 1, x0, x1, x7, x8, x9 => if x9 < 10 then (if 0 ≤ x9 then (if x9 < (x0.length : Int) then (if x9 < (x7.length : Int) then ((spec_ChainOf.f k (rdOf ByteArray.empty x0 x9) x1 x9 (rd x7 x9) (wrap64 (15 - (rd x7 x9)))).bind fun t234 => (if x8.size + t234.size ≤ 9223372036854775807 then (spec_OnceFound.l0 k x0 x1 x7 (x8 ++ t234) (wrap64 (x9 + 1))) else (none))) else (none)) else (none)) else (none)) else ((spec_Chop.f k x8).bind fun t235 => (some t235))
def spec_OnceFound.f (k : Nat) (l0 : List ByteArray) (a1 : Int) (a2 : ByteArray) : Option (ByteArray) := if (l0.length : Int) = 10 then ((spec_DigitsOf.f k a2).bind fun t228 => (spec_OnceFound.l0 k l0 a1 t228 (⟨#[]⟩ : ByteArray) 0)) else (some (⟨#[]⟩ : ByteArray))
theorem spec_OnceFound.mono_l : ∀ k, (∀ y0 y1 y2 y3 y4, LeO (spec_OnceFound.l0 k y0 y1 y2 y3 y4) (spec_OnceFound.l0 (k + 1) y0 y1 y2 y3 y4))
 | 0 => fun _ _ _ _ _ r h => by simp [spec_OnceFound.l0] at h
 | k + 1 => by
  have ih0 := spec_OnceFound.mono_l k
  ·intro y0 y1 y2 y3 y4
   unfold spec_OnceFound.l0
   repeat' first
   | (with_reducible exact ih0 _ _ _ _ _)
   | (with_reducible exact spec_ChainOf.mono _ _ _ _ _ _)
   | (with_reducible exact spec_Chop.mono _ _)
   | (with_reducible exact spec_DigitsOf.mono _ _)
   | (with_reducible exact LeO.refl _)
   | (with_reducible exact LeO.none _)
   | (with_reducible refine LeO.ite ?_ ?_)
   | (with_reducible refine LeO.bind ?_ (fun _ => ?_))
   | exact ih0 _ _ _ _ _
   | exact spec_ChainOf.mono _ _ _ _ _ _
   | exact spec_Chop.mono _ _
   | exact spec_DigitsOf.mono _ _
   | exact LeO.none _
   | refine LeO.ite ?_ ?_
   | refine LeO.bind ?_ (fun _ => ?_)
theorem spec_OnceFound.mono : ∀ a0 a1 a2 k, LeO (spec_OnceFound.f k a0 a1 a2) (spec_OnceFound.f (k + 1) a0 a1 a2) := by
 intro a0 a1 a2 k
 have ih0 := spec_OnceFound.mono_l k
 unfold spec_OnceFound.f
 repeat' first
   | (with_reducible exact ih0 _ _ _ _ _)
   | (with_reducible exact spec_ChainOf.mono _ _ _ _ _ _)
   | (with_reducible exact spec_Chop.mono _ _)
   | (with_reducible exact spec_DigitsOf.mono _ _)
   | (with_reducible exact LeO.refl _)
   | (with_reducible exact LeO.none _)
   | (with_reducible refine LeO.ite ?_ ?_)
   | (with_reducible refine LeO.bind ?_ (fun _ => ?_))
   | exact ih0 _ _ _ _ _
   | exact spec_ChainOf.mono _ _ _ _ _ _
   | exact spec_Chop.mono _ _
   | exact spec_DigitsOf.mono _ _
   | exact LeO.none _
   | refine LeO.ite ?_ ?_
   | refine LeO.bind ?_ (fun _ => ?_)
def spec_OnceFound.T8 : Bool × List (List Nat × List Nat) := (true, [([], []), ([], []), ([], []), ([1, 2], [1, 2]), ([3], [3]), ([], []), ([], []), ([], []), ([], []), ([7, 8], [7, 8]), ([9], [9]), ([], []), ([], []), ([11, 12], [11, 12]), ([13], [13]), ([14], [14]), ([4, 5, 6, 10, 15], [4, 5, 6, 10, 15]), ([0, 16], [0, 16]), ([17, 16, 0, 1, 2, 3, 4, 5, 6, 7, 8, 9, 10, 11, 12, 13, 14, 15, 16, 17], [0, 17])])
def spec_OnceFound.B8 : List Nat := [0, 0, 0, 6, 14, 0, 0, 0, 0, 384, 896, 0, 0, 6144, 14336, 30720, 65534, 131071, 262143]
theorem spec_OnceFound.tab8 : rtab .any (opsOf Tryd.f16 8) = spec_OnceFound.T8 := by kernel_rfl
theorem spec_OnceFound.bits8 : waitsOk spec_OnceFound.T8.2 spec_OnceFound.B8 = true := by kernel_rfl
theorem spec_OnceFound.calls (k : Nat) (A0 : Option Addr) (c0 : Nat) (l0 : List ByteArray) (a1 : Int) (a2 : ByteArray) (r : ByteArray) (w : World) (hr0 : Kd.C Kd.string w A0 l0.length l0) (hc0 : l0.length ≤ c0) (h : spec_OnceFound.f k l0 a1 a2 = some r) :
  Calls Tryd.prog 16 #[.slice A0 l0.length c0, .int .i64 a1, .string a2] w fun e w' => e = .returned (.string r) ∧ Below w.heap.size w w' := by
 have HR0 := Aside0.mk hr0
 have HC0 := Aside0.mk hc0
 clear hr0 hc0
 have HB := Aside0.mk (Below.refl w.heap.size w)
 have H : (if (l0.length : Int) = 10 then ((spec_DigitsOf.f k a2).bind fun t228 => (spec_OnceFound.l0 k l0 a1 t228 (⟨#[]⟩ : ByteArray) 0)) else (some (⟨#[]⟩ : ByteArray))) = some r := h
 clear h
 by_cases c4 : (l0.length : Int) = 10
 rotate_left
 ·rw [if_neg c4] at H
  have c4b0 : ((l0.length : Int) == 10) = false := beq_eq_false_iff_ne.mpr c4
  have c4b1 : ((l0.length : Int) != 10) = true := bne_iff_ne.mpr c4
  obtain rfl := Option.some.inj H
  go_enter Tryd.func16, Tryd.ntmps16
  go_wp2
  go_ret
  exact ⟨by first | rfl | (simp [errW_none, errW_some] <;> rfl) | (simp [*, errW_none, errW_some] <;> rfl), hB_⟩
 rw [if_pos c4] at H
 have c4b0 : ((l0.length : Int) == 10) = true := beq_iff_eq.mpr c4
 have c4b1 : ((l0.length : Int) != 10) = false := bne_eq_false_iff_eq.mpr c4
 clear c4
 replace H := Option.bind_eq_some_iff.mp H
 obtain ⟨t228, A50, H⟩ := H
 try dsimp -simprocs only at H
 have A5 := Aside0.mk A50
 clear A50
 have H' := Aside0.mk H
 clear H
 go_enter Tryd.func16, Tryd.ntmps16
 go_wp2_with (first | ((with_reducible refine gate_callee (f := 70) rfl ?_); refine goesL_ (some 14) rfl rfl Tryd.func70 (by kernel_rfl) rfl #[.string a2] rfl aM_ ?_; (with_reducible refine (spec_DigitsOf.calls k a2 t228 _ A5.out).mono ?_); rintro e w6 ⟨v229, rfl, ho0, hb⟩; refine ⟨_, rfl, ?_⟩; have n0_ := Aside0.mk (Kd.R_lower ho0 (below_size (hB_))); have n1_ := Aside0.mk (below_step (hB_) hb); have HO230 := n0_; replace HB := n1_; clear n0_ n1_; (try clear hb); (try clear ho0)))
 go_loopg [8, 9] k (fun kq v8 v9 w' => ∃ (x8_1 : ByteArray) (x9_1 : Int), v8 = .string x8_1 ∧ v9 = .int .i64 x9_1 ∧ Aside0 (spec_OnceFound.l0 kq l0 a1 t228 x8_1 x9_1 = some r) ∧ Aside0 (kq ≤ k) ∧ Aside0 (Kd.R (Kd.int .i64) 3 w' w.heap.size (fun _ => True) v229 t228) ∧ Aside0 (Below w.heap.size w w'))
 case atStart => exact ⟨((⟨#[]⟩ : ByteArray)), (0), (by first | rfl | (simp; done) | (simp [*]; done)), (by first | rfl | (simp; done) | (simp [*]; done)), H', ⟨Nat.le_refl _⟩, ⟨rR_ HO230.out⟩, ⟨hB_⟩⟩
 case round =>
  clear H'
  try clear c1
  try clear p2
  try clear c4
  try clear c4b0
  try clear c4b1
  obtain ⟨x8_1, x9_1, rfl, rfl, HA, HK1, HO_7, HB⟩ := hrel
  cases gk with
  | zero => exact absurd HA.out (by simp [spec_OnceFound.l0])
  | succ k1 =>
   have H := HA.out
   clear HA
   simp only [spec_OnceFound.l0] at H
   by_cases c7 : x9_1 < 10
   rotate_left
   ·rw [if_neg c7] at H
    have c7b0 := decide_eq_false c7
    clear c7
    replace H := Option.bind_eq_some_iff.mp H
    obtain ⟨t235, A160, H⟩ := H
    try dsimp -simprocs only at H
    have A16 := Aside0.mk A160
    clear A160
    obtain rfl := Option.some.inj H
    go_wp2_with (first | ((with_reducible refine gate_callee (f := 72) rfl ?_); refine goesL_ (some 38) rfl rfl Tryd.func72 (by kernel_rfl) rfl #[.string x8_1] rfl aM_ ?_; (with_reducible refine (spec_Chop.calls k1 x8_1 t235 _ A16.out).mono ?_); rintro e w17 ⟨rfl, hb⟩; refine ⟨_, rfl, ?_⟩; have n0_ := Aside0.mk (Kd.R_below (rR_ HO_7.out) hb); have n1_ := Aside0.mk (below_step (hB_) hb); replace HO_7 := n0_; replace HB := n1_; clear n0_ n1_; (try clear hb)))
    go_ret
    exact ⟨by first | rfl | (simp [errW_none, errW_some] <;> rfl) | (simp [*, errW_none, errW_some] <;> rfl), hB_⟩
   rw [if_pos c7] at H
   have c7b0 := decide_eq_true c7
   clear c7
   obtain ⟨c8, H⟩ := iN_ H
   have c8b0 := decide_eq_true c8
   clear c8
   obtain ⟨c9, H⟩ := iN_ H
   have c9b0 := decide_eq_true c9
   clear c9
   obtain ⟨c10, H⟩ := iN_ H
   have c10b0 := decide_eq_true c10
   clear c10
   replace H := Option.bind_eq_some_iff.mp H
   obtain ⟨t234, A110, H⟩ := H
   try dsimp -simprocs only at H
   have A11 := Aside0.mk A110
   clear A110
   obtain ⟨c12, H⟩ := iN_ H
   have c12b0 := eq_true c12
   have c12b1 := decide_eq_true c12
   try have c12b2 : (9223372036854775807 < x8_1.size + t234.size) = False := eq_false (Nat.not_lt.2 c12)
   have H' := Aside0.mk H
   clear H
   try go_wp2
   have n0_ := Aside0.mk (Kd.R_drew HO_7.out)
   have n1_ := Aside0.mk (below_drew1 HB.out)
   clear HO_7
   clear HB
   have HO_7 := n0_
   have HB := n1_
   clear n0_ n1_
   have p231 : 0 ≤ (x9_1 : Int) := of_decide_eq_true (by first | (with_reducible assumption) | assumption)
   have q231 : x9_1 < (l0.length : Int) := of_decide_eq_true (by first | (with_reducible assumption) | assumption)
   obtain ⟨ad231, e231, hx231_0⟩ := Kd.at_string HR0.out x9_1 p231 q231
   have hw231_0 := hx231_0
   cases e231
   replace hx231_0 := (HB.out.cell (World.block_lt_of_cell? w _ hx231_0)).trans hx231_0
   replace p231 := eq_true p231
   replace q231 := eq_true q231
   obtain ⟨Ao14, co14, eo14⟩ := Kd.R_slice HO_7.out
   (first | subst eo14 | (injection eo14 with f1_ f2_ f3_; have f4_ := f1_.symm; have f5_ := f3_.symm; clear f1_ f2_ f3_; subst f4_; subst f5_))
   have p232 : 0 ≤ (x9_1 : Int) := of_decide_eq_true (by first | (with_reducible assumption) | assumption)
   have q232 : x9_1 < (t228.length : Int) := of_decide_eq_true (by first | (with_reducible assumption) | assumption)
   obtain ⟨ad232, e232, hx232_0⟩ := Kd.at_int (Kd.R_reads' HO_7.out).2.2 x9_1 p232 q232
   cases e232
   replace p232 := eq_true p232
   replace q232 := eq_true q232
   have p233 : 0 ≤ (x9_1 : Int) := of_decide_eq_true (by first | (with_reducible assumption) | assumption)
   have q233 : x9_1 < (t228.length : Int) := of_decide_eq_true (by first | (with_reducible assumption) | assumption)
   obtain ⟨ad233, e233, hx233_0⟩ := Kd.at_int (Kd.R_reads' HO_7.out).2.2 x9_1 p233 q233
   obtain rfl : ad232 = ad233 := (by injection e233)
   replace p233 := eq_true p233
   replace q233 := eq_true q233
   refine start_ (n := 19) (S := fun w' => w'.cell? (ad231.add (x9_1).toNat) = some (.string (rdOf ByteArray.empty l0 x9_1)) ∧ w'.cell? (ad232.add (x9_1).toNat) = some (.int .i64 (rd t228 x9_1)) ∧ w'.cell? (ad232.add (x9_1).toNat) = some (.int .i64 (rd t228 x9_1))) (ds := []) (bb_ 19 0) (by kernel_rfl) rfl rfl ⟨((HB.out.cell (World.block_lt_of_cell? w _ hw231_0)).trans hw231_0), hx232_0, hx233_0⟩ (fun hHeld => ?_); refine with_tabW spec_OnceFound.tab8 spec_OnceFound.bits8 (fun HT_ HW_ => ?_)
   generalize wr.drew = w13 at HO_7 HB hx231_0 hx232_0 hx233_0 hHeld ⊢
   refine pS_ 0 19 (bb_ 19 1) HT_.out ?_
   refine pS_ 1 20 (bb_ 19 3) HT_.out ?_
   refine pS_ 2 21 (bb_ 19 7) HT_.out ?_
   refine pS_ 3 22 (bb_ 19 15) HT_.out ?_
   refine pS_ 5 24 (bb_ 19 47) HT_.out ?_
   refine pS_ 6 25 (bb_ 19 111) HT_.out ?_
   refine pS_ 7 26 (bb_ 19 239) HT_.out ?_
   refine pS_ 8 27 (bb_ 19 495) HT_.out ?_
   refine pS_ 9 28 (bb_ 19 1007) HT_.out ?_
   refine pS_ 11 30 (bb_ 19 3055) HT_.out ?_
   refine pS_ 12 31 (bb_ 19 7151) HT_.out ?_
   refine pS_ 13 32 (bb_ 19 15343) HT_.out ?_
   refine tS_ 4 23 (bb_ 19 15359) (take_ofW HT_.out HW_.out (by kernel_rfl)) hHeld ?_
   refine tS_ 10 29 (bb_ 19 16383) (take_ofW HT_.out HW_.out (by kernel_rfl)) hHeld ?_
   refine tS_ 14 33 (bb_ 19 32767) (take_ofW HT_.out HW_.out (by kernel_rfl)) hHeld ?_
   refine pS_ 15 34 (bb_ 19 65535) HT_.out ?_
   refine one_ (i := 16) (N := some 35) (bb_ 19 131071) rfl rfl (one_of HT_.out (by kernel_rfl)) (by decide) (fun K hK => ?_)
   refine goes_ Tryd.func71 (by kernel_rfl) rfl #[.string (rdOf ByteArray.empty l0 x9_1), .int .i64 a1, .int .i64 x9_1, .int .i64 (rd t228 x9_1), .int .i64 (wrap64 (15 - (rd t228 x9_1)))] (by rfl) rfl rfl aM_ ?_
   with_reducible refine (spec_ChainOf.calls k1 (rdOf ByteArray.empty l0 x9_1) a1 x9_1 (rd t228 x9_1) (wrap64 (15 - (rd t228 x9_1))) t234 _ A11.out).mono ?_
   rintro e w15 ⟨rfl, hb⟩
   have HS1_ := (hb.cell (World.block_lt_of_cell? _ _ (hHeld.2.1))).trans (hHeld.2.1)
   have HS2_ := (hb.cell (World.block_lt_of_cell? _ _ (hHeld.2.2))).trans (hHeld.2.2)
   refine ⟨_, rfl, ?_⟩
   have n0_ := Aside0.mk (Kd.R_below (rR_ HO_7.out) hb)
   have n1_ := Aside0.mk (below_step (hB_) hb)
   clear HO_7
   clear HB
   have HO_7 := n0_
   have HB := n1_
   clear n0_ n1_
   (try clear hb)
   (try clear hb2)
   (try clear hk)
   (try clear hi)
   refine hK.out _ _ ⟨((HB.out.cell (World.block_lt_of_cell? w _ hw231_0)).trans hw231_0), HS1_, HS2_⟩ (fun hHeld => ?_)
   clear hK K
   refine norm_ (a' := ?_) ?_ ?_
   rotate_left
   ·show Act.put _ (some 35) _ = _
    simp only [Act.put, List.setIfInBounds_toArray, List.set_cons_zero, List.set_cons_succ, i64_w, i32_w]
    rfl
   refine pS_ 17 36 (bb_ 19 262143) HT_.out ?_
   refine pS_ 18 8 (bb_ 19 524287) HT_.out ?_
   refine done_ (done_of HT_.out (by kernel_rfl)) ?_
   try go_wp2
   go_roundg k1
   case measure => have := HK1.out; omega
   case rel => exact ⟨(x8_1 ++ t234), (wrap64 (x9_1 + 1)), (by first | rfl | (simp; done) | (simp [*]; done)), (by first | rfl | (simp; done) | (simp [*]; done)), H', ⟨by have := HK1.out; omega⟩, ⟨rR_ HO_7.out⟩, ⟨hB_⟩⟩

/-! ### spec_RootBy: function 85 -/
mutual
def spec_RootBy.j0 : Nat → ByteArray → Int → List ByteArray → Bool → Option (ByteArray)
 | 0, _, _, _, _ => none
 | k + 1, x0, x1, x2, x15 => if x15 = true then (some (⟨#[]⟩ : ByteArray)) else (spec_RootBy.l0 k x0 x1 x2 1)
def spec_RootBy.l0 : Nat → ByteArray → Int → List ByteArray → Int → Option (ByteArray)
 | 0, _, _, _, _ => none
 | k + 1, x0, x1, x2, x7 => if x7 ≤ 2 then (if (Int.tmod x1 2) = 1 then (if 0 ≤ (wrap64 (x7 - 1)) then (if (wrap64 (x7 - 1)) < (x2.length : Int) then ((spec_Node.f k x7 (wrap64 (Int.tdiv x1 2)) (rdOf ByteArray.empty x2 (wrap64 (x7 - 1))) x0).bind fun t455 => (spec_RootBy.l0 k t455 (wrap64 (Int.tdiv x1 2)) x2 (wrap64 (x7 + 1)))) else (none)) else (none)) else (if 0 ≤ (wrap64 (x7 - 1)) then (if (wrap64 (x7 - 1)) < (x2.length : Int) then ((spec_Node.f k x7 (wrap64 (Int.tdiv x1 2)) x0 (rdOf ByteArray.empty x2 (wrap64 (x7 - 1)))).bind fun t457 => (spec_RootBy.l0 k t457 (wrap64 (Int.tdiv x1 2)) x2 (wrap64 (x7 + 1)))) else (none)) else (none))) else (some x0)
end
def spec_RootBy.f (k : Nat) (a0 : ByteArray) (a1 : Int) (l2 : List ByteArray) : Option (ByteArray) := if (l2.length : Int) = 2 then ((spec_l01In.f a1 0 3).bind fun t453 => (spec_RootBy.j0 k a0 a1 l2 (!t453))) else (spec_RootBy.j0 k a0 a1 l2 true)
theorem spec_RootBy.mono_l : ∀ k, (∀ y0 y1 y2 y3, LeO (spec_RootBy.j0 k y0 y1 y2 y3) (spec_RootBy.j0 (k + 1) y0 y1 y2 y3)) ∧ (∀ y0 y1 y2 y3, LeO (spec_RootBy.l0 k y0 y1 y2 y3) (spec_RootBy.l0 (k + 1) y0 y1 y2 y3))
 | 0 => ⟨fun _ _ _ _ r h => by simp [spec_RootBy.j0] at h, fun _ _ _ _ r h => by simp [spec_RootBy.l0] at h⟩
 | k + 1 => by
  obtain ⟨ih0, ih1⟩ := spec_RootBy.mono_l k
  refine ⟨?_, ?_⟩
  ·intro y0 y1 y2 y3
   unfold spec_RootBy.j0
   repeat' first
   | (with_reducible exact ih0 _ _ _ _)
   | (with_reducible exact ih1 _ _ _ _)
   | (with_reducible exact spec_Node.mono _ _ _ _ _)
   | (with_reducible exact LeO.refl _)
   | (with_reducible exact LeO.none _)
   | (with_reducible refine LeO.ite ?_ ?_)
   | (with_reducible refine LeO.bind ?_ (fun _ => ?_))
   | exact ih0 _ _ _ _
   | exact ih1 _ _ _ _
   | exact spec_Node.mono _ _ _ _ _
   | exact LeO.none _
   | refine LeO.ite ?_ ?_
   | refine LeO.bind ?_ (fun _ => ?_)
  ·intro y0 y1 y2 y3
   unfold spec_RootBy.l0
   repeat' first
   | (with_reducible exact ih0 _ _ _ _)
   | (with_reducible exact ih1 _ _ _ _)
   | (with_reducible exact spec_Node.mono _ _ _ _ _)
   | (with_reducible exact LeO.refl _)
   | (with_reducible exact LeO.none _)
   | (with_reducible refine LeO.ite ?_ ?_)
   | (with_reducible refine LeO.bind ?_ (fun _ => ?_))
   | exact ih0 _ _ _ _
   | exact ih1 _ _ _ _
   | exact spec_Node.mono _ _ _ _ _
   | exact LeO.none _
   | refine LeO.ite ?_ ?_
   | refine LeO.bind ?_ (fun _ => ?_)
theorem spec_RootBy.mono : ∀ a0 a1 a2 k, LeO (spec_RootBy.f k a0 a1 a2) (spec_RootBy.f (k + 1) a0 a1 a2) := by
 intro a0 a1 a2 k
 obtain ⟨ih0, ih1⟩ := spec_RootBy.mono_l k
 unfold spec_RootBy.f
 repeat' first
   | (with_reducible exact ih0 _ _ _ _)
   | (with_reducible exact ih1 _ _ _ _)
   | (with_reducible exact spec_Node.mono _ _ _ _ _)
   | (with_reducible exact LeO.refl _)
   | (with_reducible exact LeO.none _)
   | (with_reducible refine LeO.ite ?_ ?_)
   | (with_reducible refine LeO.bind ?_ (fun _ => ?_))
   | exact ih0 _ _ _ _
   | exact ih1 _ _ _ _
   | exact spec_Node.mono _ _ _ _ _
   | exact LeO.none _
   | refine LeO.ite ?_ ?_
   | refine LeO.bind ?_ (fun _ => ?_)
theorem spec_RootBy.calls (k : Nat) (a0 : ByteArray) (a1 : Int) (A2 : Option Addr) (c2 : Nat) (l2 : List ByteArray) (r : ByteArray) (w : World) (hr2 : Kd.C Kd.string w A2 l2.length l2) (hc2 : l2.length ≤ c2) (h : spec_RootBy.f k a0 a1 l2 = some r) :
  Calls Tryd.prog 85 #[.string a0, .int .i64 a1, .slice A2 l2.length c2] w fun e w' => e = .returned (.string r) ∧ Below w.heap.size w w' := by
 have HR2 := Aside0.mk hr2
 have HC2 := Aside0.mk hc2
 clear hr2 hc2
 have HB := Aside0.mk (Below.refl w.heap.size w)
 have H : (if (l2.length : Int) = 2 then ((spec_l01In.f a1 0 3).bind fun t453 => (spec_RootBy.j0 k a0 a1 l2 (!t453))) else (spec_RootBy.j0 k a0 a1 l2 true)) = some r := h
 clear h
 have HC4 := Aside0.mk H
 clear H
 go_enter Tryd.func85, Tryd.ntmps85
 go_upto_region 1 with (fail)
 go_cut [15] (fun v15 wc => ∃ (kq : Nat) (x15_3 : Bool), v15 = .bool x15_3 ∧ Aside0 (spec_RootBy.j0 kq a0 a1 l2 x15_3 = some r) ∧ Aside0 (kq ≤ k) ∧ Aside0 (Below w.heap.size w wc))
 case first =>
  have H := HC4.out
  clear HC4
  by_cases c5 : (l2.length : Int) = 2
  ·rw [if_pos c5] at H
   have c5b0 : ((l2.length : Int) == 2) = true := beq_iff_eq.mpr c5
   have c5b1 : ((l2.length : Int) != 2) = false := bne_eq_false_iff_eq.mpr c5
   clear c5
   (first | rw [c5b0] | (simp only [i64_w, i32_w]; rw [c5b0]) | skip)
   replace H := Option.bind_eq_some_iff.mp H
   obtain ⟨t453, A60, H⟩ := H
   try dsimp -simprocs only at H
   have A6 := Aside0.mk A60
   clear A60
   have H' := Aside0.mk H
   clear H
   go_wp2_with (first | (go_at_call 62; (with_reducible refine (spec_l01In.calls a1 0 3 t453 _ A6.out).mono ?_); rintro e w' ⟨rfl, ⟨nd, rfl⟩⟩))
   go_meet
   case rel => exact ⟨_, (!t453), (by first | rfl | (simp; done) | (simp [*]; done)), H', ⟨by first | omega | exact Nat.le_refl _⟩, ⟨hB_⟩⟩
  rw [if_neg c5] at H
  have c5b0 : ((l2.length : Int) == 2) = false := beq_eq_false_iff_ne.mpr c5
  have c5b1 : ((l2.length : Int) != 2) = true := bne_iff_ne.mpr c5
  (first | rw [c5b0] | (simp only [i64_w, i32_w]; rw [c5b0]) | skip)
  have H' := Aside0.mk H
  clear H
  go_wp2
  go_meet
  case rel => exact ⟨_, (true), (by first | rfl | (simp; done) | (simp [*]; done)), H', ⟨by first | omega | exact Nat.le_refl _⟩, ⟨hB_⟩⟩
 case rest =>
  clear HC4
  try clear c2
  try clear p2
  try clear c5
  try clear c5b0
  try clear c5b1
  obtain ⟨kq, x15_3, rfl, HA, HJ3, HB⟩ := hcut
  cases kq with
  | zero => exact absurd HA.out (by simp [spec_RootBy.j0])
  | succ kj3 =>
   have H := HA.out
   clear HA
   simp only [spec_RootBy.j0] at H
   by_cases c7 : x15_3 = true
   ·subst c7
    have H1 : (some (⟨#[]⟩ : ByteArray)) = some r := by rw [if_pos rfl] at H; exact H
    clear H
    have H := H1
    clear H1
    obtain rfl := Option.some.inj H
    go_wp2
    go_ret
    exact ⟨by first | rfl | (simp [errW_none, errW_some] <;> rfl) | (simp [*, errW_none, errW_some] <;> rfl), hB_⟩
   ·replace c7 := Bool.eq_false_iff.mpr c7
    subst c7
    have H1 : (spec_RootBy.l0 kj3 a0 a1 l2 1) = some r := by rw [if_neg (show ¬ (false = true) by decide)] at H; exact H
    clear H
    have H := H1
    clear H1
    have H' := Aside0.mk H
    clear H
    go_wp2
    go_loopg [0, 1, 7] kj3 (fun kq v0 v1 v7 w' => ∃ (x0_2 : ByteArray) (x1_2 : Int) (x7_2 : Int), v0 = .string x0_2 ∧ v1 = .int .i64 x1_2 ∧ v7 = .int .i64 x7_2 ∧ Aside0 (spec_RootBy.l0 kq x0_2 x1_2 l2 x7_2 = some r) ∧ Aside0 (kq ≤ kj3) ∧ Aside0 (Below w.heap.size w w'))
    case atStart => exact ⟨(a0), (a1), (1), (by first | rfl | (simp; done) | (simp [*]; done)), (by first | rfl | (simp; done) | (simp [*]; done)), (by first | rfl | (simp; done) | (simp [*]; done)), H', ⟨Nat.le_refl _⟩, ⟨hB_⟩⟩
    case round =>
     clear H'
     try clear c2
     try clear p2
     try clear c5
     try clear c5b0
     try clear c5b1
     try clear c7
     try clear p2
     obtain ⟨x0_2, x1_2, x7_2, rfl, rfl, rfl, HA, HK2, HB⟩ := hrel
     cases gk with
     | zero => exact absurd HA.out (by simp [spec_RootBy.l0])
     | succ k2 =>
      have H := HA.out
      clear HA
      simp only [spec_RootBy.l0] at H
      by_cases c8 : x7_2 ≤ 2
      rotate_left
      ·rw [if_neg c8] at H
       have c8b0 := decide_eq_false c8
       clear c8
       obtain rfl := Option.some.inj H
       go_wp2
       go_ret
       exact ⟨by first | rfl | (simp [errW_none, errW_some] <;> rfl) | (simp [*, errW_none, errW_some] <;> rfl), hB_⟩
      rw [if_pos c8] at H
      have c8b0 := decide_eq_true c8
      clear c8
      by_cases c9 : (Int.tmod x1_2 2) = 1
      ·rw [if_pos c9] at H
       have c9b0 : ((Int.tmod x1_2 2) == 1) = true := beq_iff_eq.mpr c9
       have c9b1 : ((Int.tmod x1_2 2) != 1) = false := bne_eq_false_iff_eq.mpr c9
       clear c9
       obtain ⟨ji10, hji10⟩ : ∃ j_ : Int, (wrap64 (x7_2 - 1)) = j_ := ⟨_, rfl⟩
       first | rw [hji10] at H | simp only [hji10] at H
       have hji10w : (IntKind.i64.wrap (x7_2 - 1)) = ji10 := (i64_w _).trans hji10
       obtain ⟨c11, H⟩ := iN_ H
       have c11b0 := decide_eq_true c11
       clear c11
       obtain ⟨c12, H⟩ := iN_ H
       have c12b0 := decide_eq_true c12
       clear c12
       replace H := Option.bind_eq_some_iff.mp H
       obtain ⟨t455, A130, H⟩ := H
       try dsimp -simprocs only at H
       have A13 := Aside0.mk A130
       clear A130
       have H' := Aside0.mk H
       clear H
       have p454 : 0 ≤ ((ji10) : Int) := of_decide_eq_true (by first | (with_reducible assumption) | assumption)
       have q454 : (ji10) < (l2.length : Int) := of_decide_eq_true (by first | (with_reducible assumption) | assumption)
       obtain ⟨ad454, e454, hx454_0⟩ := Kd.at_string HR2.out (ji10) p454 q454
       cases e454
       replace hx454_0 := (HB.out.cell (World.block_lt_of_cell? w _ hx454_0)).trans hx454_0
       replace p454 := eq_true p454
       replace q454 := eq_true q454
       go_wp2_with (first | ((with_reducible refine gate_callee (f := 114) rfl ?_); refine goesL_ (some 32) rfl rfl Tryd.func114 (by kernel_rfl) rfl #[.int .i64 x7_2, .int .i64 (wrap64 (Int.tdiv x1_2 2)), .string (rdOf ByteArray.empty l2 (ji10)), .string x0_2] rfl (by (try simp only [List.map_toArray, List.map_cons, List.map_nil]); first | done | (simp only [hji10]; rfl) | rfl | (simp only [List.length_drop, List.length_take]; rfl)) ?_; (with_reducible refine (spec_Node.calls k2 x7_2 (wrap64 (Int.tdiv x1_2 2)) (rdOf ByteArray.empty l2 (ji10)) x0_2 t455 _ A13.out).mono ?_); rintro e w14 ⟨rfl, hb⟩; refine ⟨_, rfl, ?_⟩; have n0_ := Aside0.mk (below_step (hB_) hb); replace HB := n0_; clear n0_; (try clear hb)))
       go_roundg k2
       case measure => have := HJ3.out; have := HK2.out; omega
       case rel => exact ⟨(t455), (wrap64 (Int.tdiv x1_2 2)), (wrap64 (x7_2 + 1)), (by first | rfl | (simp; done) | (simp [*]; done)), (by first | rfl | (simp; done) | (simp [*]; done)), (by first | rfl | (simp; done) | (simp [*]; done)), H', ⟨by have := HJ3.out; have := HK2.out; omega⟩, ⟨hB_⟩⟩
      rw [if_neg c9] at H
      have c9b0 : ((Int.tmod x1_2 2) == 1) = false := beq_eq_false_iff_ne.mpr c9
      have c9b1 : ((Int.tmod x1_2 2) != 1) = true := bne_iff_ne.mpr c9
      obtain ⟨ji15, hji15⟩ : ∃ j_ : Int, (wrap64 (x7_2 - 1)) = j_ := ⟨_, rfl⟩
      first | rw [hji15] at H | simp only [hji15] at H
      have hji15w : (IntKind.i64.wrap (x7_2 - 1)) = ji15 := (i64_w _).trans hji15
      obtain ⟨c16, H⟩ := iN_ H
      have c16b0 := decide_eq_true c16
      clear c16
      obtain ⟨c17, H⟩ := iN_ H
      have c17b0 := decide_eq_true c17
      clear c17
      replace H := Option.bind_eq_some_iff.mp H
      obtain ⟨t457, A180, H⟩ := H
      try dsimp -simprocs only at H
      have A18 := Aside0.mk A180
      clear A180
      have H' := Aside0.mk H
      clear H
      have p456 : 0 ≤ ((ji15) : Int) := of_decide_eq_true (by first | (with_reducible assumption) | assumption)
      have q456 : (ji15) < (l2.length : Int) := of_decide_eq_true (by first | (with_reducible assumption) | assumption)
      obtain ⟨ad456, e456, hx456_0⟩ := Kd.at_string HR2.out (ji15) p456 q456
      cases e456
      replace hx456_0 := (HB.out.cell (World.block_lt_of_cell? w _ hx456_0)).trans hx456_0
      replace p456 := eq_true p456
      replace q456 := eq_true q456
      go_wp2_with (first | ((with_reducible refine gate_callee (f := 114) rfl ?_); refine goesL_ (some 42) rfl rfl Tryd.func114 (by kernel_rfl) rfl #[.int .i64 x7_2, .int .i64 (wrap64 (Int.tdiv x1_2 2)), .string x0_2, .string (rdOf ByteArray.empty l2 (ji15))] rfl (by (try simp only [List.map_toArray, List.map_cons, List.map_nil]); first | done | (simp only [hji15]; rfl) | rfl | (simp only [List.length_drop, List.length_take]; rfl)) ?_; (with_reducible refine (spec_Node.calls k2 x7_2 (wrap64 (Int.tdiv x1_2 2)) x0_2 (rdOf ByteArray.empty l2 (ji15)) t457 _ A18.out).mono ?_); rintro e w19 ⟨rfl, hb⟩; refine ⟨_, rfl, ?_⟩; have n0_ := Aside0.mk (below_step (hB_) hb); replace HB := n0_; clear n0_; (try clear hb)))
      go_roundg k2
      case measure => have := HJ3.out; have := HK2.out; omega
      case rel => exact ⟨(t457), (wrap64 (Int.tdiv x1_2 2)), (wrap64 (x7_2 + 1)), (by first | rfl | (simp; done) | (simp [*]; done)), (by first | rfl | (simp; done) | (simp [*]; done)), (by first | rfl | (simp; done) | (simp [*]; done)), H', ⟨by have := HJ3.out; have := HK2.out; omega⟩, ⟨hB_⟩⟩

/-! ### spec_CheckSig: function 29 -/
def spec_CheckSig.f (k : Nat) (a0 : ByteArray) (a1 : ByteArray) (a2_0 : Int) (l2_1 : List ByteArray) (l2_2 : List ByteArray) : Option (Bool) := (spec_SigOk.f k a2_0 l2_1 l2_2).bind fun t459 => (if t459 = true then ((spec_OnceFound.f k l2_1 a2_0 a1).bind fun t460 => ((spec_RootBy.f k t460 a2_0 l2_2).bind fun t461 => (some (t461.toList == a0.toList)))) else (some false))
theorem spec_CheckSig.mono : ∀ a0 a1 a2 a3 a4 k, LeO (spec_CheckSig.f k a0 a1 a2 a3 a4) (spec_CheckSig.f (k + 1) a0 a1 a2 a3 a4) := by
 intro a0 a1 a2 a3 a4 k
 unfold spec_CheckSig.f
 repeat' first
   | (with_reducible exact spec_OnceFound.mono _ _ _ _)
   | (with_reducible exact spec_RootBy.mono _ _ _ _)
   | (with_reducible exact spec_SigOk.mono _ _ _ _)
   | (with_reducible exact LeO.refl _)
   | (with_reducible exact LeO.none _)
   | (with_reducible refine LeO.ite ?_ ?_)
   | (with_reducible refine LeO.bind ?_ (fun _ => ?_))
   | exact spec_OnceFound.mono _ _ _ _
   | exact spec_RootBy.mono _ _ _ _
   | exact spec_SigOk.mono _ _ _ _
   | exact LeO.none _
   | refine LeO.ite ?_ ?_
   | refine LeO.bind ?_ (fun _ => ?_)
def spec_CheckSig.T1 : Bool × List (List Nat × List Nat) := (true, [([], []), ([0], [0]), ([1, 1], [1]), ([2], [2]), ([3, 2], [2, 3]), ([2], [2]), ([5, 2], [2, 5]), ([2], [2]), ([4, 6, 7, 2, 2], [2, 4, 6, 7]), ([2], [2]), ([9, 2], [2, 9]), ([2], [2]), ([11, 2], [2, 11]), ([8, 10, 12, 8, 2], [2, 8, 10, 12]), ([2], [2]), ([13, 14, 2], [2, 13, 14]), ([2, 15], [2, 15]), ([16, 13, 0, 1, 2, 3, 4, 5, 6, 7, 8, 9, 10, 11, 12, 13, 14, 15, 16], [16])])
def spec_CheckSig.B1 : List Nat := [0, 1, 3, 7, 15, 7, 39, 7, 255, 7, 519, 7, 2055, 8191, 7, 32767, 65535, 131071]
theorem spec_CheckSig.tab1 : rtab .any (opsOf Tryd.f29 1) = spec_CheckSig.T1 := by kernel_rfl
theorem spec_CheckSig.bits1 : waitsOk spec_CheckSig.T1.2 spec_CheckSig.B1 = true := by kernel_rfl
theorem spec_CheckSig.calls (k : Nat) (a0 : ByteArray) (a1 : ByteArray) (a2_0 : Int) (A2_1 : Option Addr) (c2_1 : Nat) (l2_1 : List ByteArray) (A2_2 : Option Addr) (c2_2 : Nat) (l2_2 : List ByteArray) (r : Bool) (w : World) (hr2_1 : Kd.C Kd.string w A2_1 l2_1.length l2_1) (hc2_1 : l2_1.length ≤ c2_1) (hr2_2 : Kd.C Kd.string w A2_2 l2_2.length l2_2) (hc2_2 : l2_2.length ≤ c2_2) (h : spec_CheckSig.f k a0 a1 a2_0 l2_1 l2_2 = some r) :
  Calls Tryd.prog 29 #[.string a0, .string a1, .agg #[.int .i64 a2_0, .slice A2_1 l2_1.length c2_1, .slice A2_2 l2_2.length c2_2]] w fun e w' => e = .returned (.bool r) ∧ Below w.heap.size w w' := by
 have hu42 := Tryd.underlying42
 have HR2_1 := Aside0.mk hr2_1
 have HC2_1 := Aside0.mk hc2_1
 clear hr2_1 hc2_1
 have HR2_2 := Aside0.mk hr2_2
 have HC2_2 := Aside0.mk hc2_2
 clear hr2_2 hc2_2
 have HB := Aside0.mk (Below.refl w.heap.size w)
 have H : ((spec_SigOk.f k a2_0 l2_1 l2_2).bind fun t459 => (if t459 = true then ((spec_OnceFound.f k l2_1 a2_0 a1).bind fun t460 => ((spec_RootBy.f k t460 a2_0 l2_2).bind fun t461 => (some (t461.toList == a0.toList)))) else (some false))) = some r := h
 clear h
 replace H := Option.bind_eq_some_iff.mp H
 obtain ⟨t459, A40, H⟩ := H
 try dsimp -simprocs only at H
 have A4 := Aside0.mk A40
 clear A40
 by_cases c5 : t459 = true
 ·subst c5
  have H1 : ((spec_OnceFound.f k l2_1 a2_0 a1).bind fun t460 => ((spec_RootBy.f k t460 a2_0 l2_2).bind fun t461 => (some (t461.toList == a0.toList)))) = some r := by rw [if_pos rfl] at H; exact H
  clear H
  have H := H1
  clear H1
  replace H := Option.bind_eq_some_iff.mp H
  obtain ⟨t460, A60, H⟩ := H
  try dsimp -simprocs only at H
  have A6 := Aside0.mk A60
  clear A60
  replace H := Option.bind_eq_some_iff.mp H
  obtain ⟨t461, A70, H⟩ := H
  try dsimp -simprocs only at H
  have A7 := Aside0.mk A70
  clear A70
  obtain rfl := Option.some.inj H
  go_enter Tryd.func29, Tryd.ntmps29
  try go_wp2_with (first | ((with_reducible refine gate_dst (N := 5) rfl ?_); refine box_event ?hg (N := 5) ?hd (cs := #[.int .i64 a2_0, .slice A2_1 l2_1.length c2_1, .slice A2_2 l2_2.length c2_2]) (t := 42) ?hr ?_; (case hd => rfl); (case hg => rfl); (case hr => first | (go_simp; done) | (go_simp; rfl)); intro gb458 hg w8 hbox hb; have n0_ := Aside0.mk (below_step (hB_) hb); have n1_ := Aside0.mk (hbox); have n2_ := Aside0.mk ((by rw [hg]; exact (below_size (hB_)) : w.heap.size ≤ gb458)); have n3_ := Aside0.mk ((by rw [hg]; exact (below_size (hB_)) : w.heap.size ≤ gb458)); replace HB := n0_; have BK458 := n1_; have GW458 := n2_; have GE458 := n3_; clear n0_ n1_ n2_ n3_; clear hb hbox hg))
  have n0_ := Aside0.mk (blk_drew BK458.out)
  have n1_ := Aside0.mk (below_drew1 HB.out)
  clear BK458
  clear HB
  have BK458 := n0_
  have HB := n1_
  clear n0_ n1_
  refine start_ (n := 18) (S := fun w' => w'.cell? ⟨gb458, 0, none⟩ = some (.int .i64 a2_0) ∧ w'.cell? ⟨gb458, 1, none⟩ = some (.slice A2_1 l2_1.length c2_1) ∧ w'.cell? ⟨gb458, 2, none⟩ = some (.slice A2_2 l2_2.length c2_2)) (ds := []) (bb_ 18 0) (by kernel_rfl) rfl rfl ⟨(blk_cell BK458.out 0).trans rfl, (blk_cell BK458.out 1).trans rfl, (blk_cell BK458.out 2).trans rfl⟩ (fun hHeld => ?_); refine with_tabW spec_CheckSig.tab1 spec_CheckSig.bits1 (fun HT_ HW_ => ?_)
  generalize w8.drew = w9 at BK458 HB hHeld ⊢
  refine tS_ 0 7 (bb_ 18 1) (take_ofW HT_.out HW_.out (by kernel_rfl)) hHeld ?_
  refine one_ (i := 1) (N := some 8) (bb_ 18 3) rfl rfl (one_of HT_.out (by kernel_rfl)) (by decide) (fun K hK => ?_)
  refine goes_ Tryd.func53 (by kernel_rfl) rfl #[.agg #[.int .i64 a2_0, .slice A2_1 l2_1.length c2_1, .slice A2_2 l2_2.length c2_2]] (by rfl) rfl rfl aM_ ?_
  with_reducible refine (spec_SigOk.calls k a2_0 _ _ l2_1 _ _ l2_2 true _ ?side1 ?side2 ?side3 ?side4 A4.out).mono ?_
  (case side1 => exact cR_ (Kd.C_below HR2_1.out HB.out))
  (case side2 => exact HC2_1.out)
  (case side3 => exact cR_ (Kd.C_below HR2_2.out HB.out))
  (case side4 => exact HC2_2.out)
  rintro e w10 ⟨rfl, hb⟩
  refine ⟨_, rfl, ?_⟩
  have n0_ := Aside0.mk (blk_below (g := gb458) (o := .cells #[.int .i64 a2_0, .slice A2_1 l2_1.length c2_1, .slice A2_2 l2_2.length c2_2] 42 (0, 0)) (rK_ BK458.out) hb)
  have n1_ := Aside0.mk (below_step (hS_ GE458.out) hb)
  clear BK458
  clear HB
  have BK458 := n0_
  have HB := n1_
  clear n0_ n1_
  (try clear hb)
  (try clear hb2)
  (try clear hk)
  (try clear hi)
  refine hK.out _ _ ⟨(blk_cell BK458.out 0).trans rfl, (blk_cell BK458.out 1).trans rfl, (blk_cell BK458.out 2).trans rfl⟩ (fun hHeld => ?_)
  clear hK K
  refine norm_ (a' := ?_) ?_ ?_
  rotate_left
  ·show Act.put _ (some 8) _ = _
   simp only [Act.put, List.setIfInBounds_toArray, List.set_cons_zero, List.set_cons_succ, i64_w, i32_w]
   rfl
  refine pS_ 2 9 (bb_ 18 7) HT_.out ?_
  refine pS_ 3 10 (bb_ 18 15) HT_.out ?_
  refine pS_ 5 12 (bb_ 18 47) HT_.out ?_
  refine pS_ 7 14 (bb_ 18 175) HT_.out ?_
  refine pS_ 9 16 (bb_ 18 687) HT_.out ?_
  refine pS_ 11 18 (bb_ 18 2735) HT_.out ?_
  refine pS_ 14 21 (bb_ 18 19119) HT_.out ?_
  refine tS_ 4 11 (bb_ 18 19135) (take_ofW HT_.out HW_.out (by kernel_rfl)) hHeld ?_
  refine tS_ 6 13 (bb_ 18 19199) (take_ofW HT_.out HW_.out (by kernel_rfl)) hHeld ?_
  refine tS_ 10 17 (bb_ 18 20223) (take_ofW HT_.out HW_.out (by kernel_rfl)) hHeld ?_
  refine tS_ 12 19 (bb_ 18 24319) (take_ofW HT_.out HW_.out (by kernel_rfl)) hHeld ?_
  refine one_ (i := 8) (N := some 15) (bb_ 18 24575) rfl rfl (one_of HT_.out (by kernel_rfl)) (by decide) (fun K hK => ?_)
  refine goes_ Tryd.func16 (by kernel_rfl) rfl #[.slice A2_1 l2_1.length c2_1, .int .i64 a2_0, .string a1] (by rfl) rfl rfl aM_ ?_
  with_reducible refine (spec_OnceFound.calls k _ _ l2_1 a2_0 a1 t460 _ ?side1 ?side2 A6.out).mono ?_
  (case side1 => exact cR_ (Kd.C_below HR2_1.out HB.out))
  (case side2 => exact HC2_1.out)
  rintro e w11 ⟨rfl, hb⟩
  refine ⟨_, rfl, ?_⟩
  have n0_ := Aside0.mk (blk_below (g := gb458) (o := .cells #[.int .i64 a2_0, .slice A2_1 l2_1.length c2_1, .slice A2_2 l2_2.length c2_2] 42 (0, 0)) (rK_ BK458.out) hb)
  have n1_ := Aside0.mk (below_step (hS_ GE458.out) hb)
  clear BK458
  clear HB
  have BK458 := n0_
  have HB := n1_
  clear n0_ n1_
  (try clear hb)
  (try clear hb2)
  (try clear hk)
  (try clear hi)
  refine hK.out _ _ ⟨(blk_cell BK458.out 0).trans rfl, (blk_cell BK458.out 1).trans rfl, (blk_cell BK458.out 2).trans rfl⟩ (fun hHeld => ?_)
  clear hK K
  refine norm_ (a' := ?_) ?_ ?_
  rotate_left
  ·show Act.put _ (some 15) _ = _
   simp only [Act.put, List.setIfInBounds_toArray, List.set_cons_zero, List.set_cons_succ, i64_w, i32_w]
   rfl
  refine one_ (i := 13) (N := some 20) (bb_ 18 32767) rfl rfl (one_of HT_.out (by kernel_rfl)) (by decide) (fun K hK => ?_)
  refine goes_ Tryd.func85 (by kernel_rfl) rfl #[.string t460, .int .i64 a2_0, .slice A2_2 l2_2.length c2_2] (by rfl) rfl rfl aM_ ?_
  with_reducible refine (spec_RootBy.calls k t460 a2_0 _ _ l2_2 t461 _ ?side1 ?side2 A7.out).mono ?_
  (case side1 => exact cR_ (Kd.C_below HR2_2.out HB.out))
  (case side2 => exact HC2_2.out)
  rintro e w12 ⟨rfl, hb⟩
  refine ⟨_, rfl, ?_⟩
  have n0_ := Aside0.mk (blk_below (g := gb458) (o := .cells #[.int .i64 a2_0, .slice A2_1 l2_1.length c2_1, .slice A2_2 l2_2.length c2_2] 42 (0, 0)) (rK_ BK458.out) hb)
  have n1_ := Aside0.mk (below_step (hS_ GE458.out) hb)
  clear BK458
  clear HB
  have BK458 := n0_
  have HB := n1_
  clear n0_ n1_
  (try clear hb)
  (try clear hb2)
  (try clear hk)
  (try clear hi)
  refine hK.out _ _ ⟨(blk_cell BK458.out 0).trans rfl, (blk_cell BK458.out 1).trans rfl, (blk_cell BK458.out 2).trans rfl⟩ (fun hHeld => ?_)
  clear hK K
  refine norm_ (a' := ?_) ?_ ?_
  rotate_left
  ·show Act.put _ (some 20) _ = _
   simp only [Act.put, List.setIfInBounds_toArray, List.set_cons_zero, List.set_cons_succ, i64_w, i32_w]
   rfl
  refine pS_ 15 22 (bb_ 18 65535) HT_.out ?_
  refine pS_ 16 23 (bb_ 18 131071) HT_.out ?_
  refine pS_ 17 6 (bb_ 18 262143) HT_.out ?_
  refine done_ (done_of HT_.out (by kernel_rfl)) ?_
  try go_wp2
  go_ret
  exact ⟨by first | rfl | (simp [errW_none, errW_some] <;> rfl) | (simp [*, errW_none, errW_some] <;> rfl), hS_ GE458.out⟩
 ·replace c5 := Bool.eq_false_iff.mpr c5
  subst c5
  have H1 : (some false) = some r := by rw [if_neg (show ¬ (false = true) by decide)] at H; exact H
  clear H
  have H := H1
  clear H1
  obtain rfl := Option.some.inj H
  go_enter Tryd.func29, Tryd.ntmps29
  try go_wp2_with (first | ((with_reducible refine gate_dst (N := 5) rfl ?_); refine box_event ?hg (N := 5) ?hd (cs := #[.int .i64 a2_0, .slice A2_1 l2_1.length c2_1, .slice A2_2 l2_2.length c2_2]) (t := 42) ?hr ?_; (case hd => rfl); (case hg => rfl); (case hr => first | (go_simp; done) | (go_simp; rfl)); intro gb458 hg w13 hbox hb; have n0_ := Aside0.mk (below_step (hB_) hb); have n1_ := Aside0.mk (hbox); have n2_ := Aside0.mk ((by rw [hg]; exact (below_size (hB_)) : w.heap.size ≤ gb458)); have n3_ := Aside0.mk ((by rw [hg]; exact (below_size (hB_)) : w.heap.size ≤ gb458)); replace HB := n0_; have BK458 := n1_; have GW458 := n2_; have GE458 := n3_; clear n0_ n1_ n2_ n3_; clear hb hbox hg))
  have n0_ := Aside0.mk (blk_drew BK458.out)
  have n1_ := Aside0.mk (below_drew1 HB.out)
  clear BK458
  clear HB
  have BK458 := n0_
  have HB := n1_
  clear n0_ n1_
  refine start_ (n := 18) (S := fun w' => w'.cell? ⟨gb458, 0, none⟩ = some (.int .i64 a2_0) ∧ w'.cell? ⟨gb458, 1, none⟩ = some (.slice A2_1 l2_1.length c2_1) ∧ w'.cell? ⟨gb458, 2, none⟩ = some (.slice A2_2 l2_2.length c2_2)) (ds := []) (bb_ 18 0) (by kernel_rfl) rfl rfl ⟨(blk_cell BK458.out 0).trans rfl, (blk_cell BK458.out 1).trans rfl, (blk_cell BK458.out 2).trans rfl⟩ (fun hHeld => ?_); refine with_tabW spec_CheckSig.tab1 spec_CheckSig.bits1 (fun HT_ HW_ => ?_)
  generalize w13.drew = w14 at BK458 HB hHeld ⊢
  refine tS_ 0 7 (bb_ 18 1) (take_ofW HT_.out HW_.out (by kernel_rfl)) hHeld ?_
  refine one_ (i := 1) (N := some 8) (bb_ 18 3) rfl rfl (one_of HT_.out (by kernel_rfl)) (by decide) (fun K hK => ?_)
  refine goes_ Tryd.func53 (by kernel_rfl) rfl #[.agg #[.int .i64 a2_0, .slice A2_1 l2_1.length c2_1, .slice A2_2 l2_2.length c2_2]] (by rfl) rfl rfl aM_ ?_
  with_reducible refine (spec_SigOk.calls k a2_0 _ _ l2_1 _ _ l2_2 false _ ?side1 ?side2 ?side3 ?side4 A4.out).mono ?_
  (case side1 => exact cR_ (Kd.C_below HR2_1.out HB.out))
  (case side2 => exact HC2_1.out)
  (case side3 => exact cR_ (Kd.C_below HR2_2.out HB.out))
  (case side4 => exact HC2_2.out)
  rintro e w15 ⟨rfl, hb⟩
  refine ⟨_, rfl, ?_⟩
  have n0_ := Aside0.mk (blk_below (g := gb458) (o := .cells #[.int .i64 a2_0, .slice A2_1 l2_1.length c2_1, .slice A2_2 l2_2.length c2_2] 42 (0, 0)) (rK_ BK458.out) hb)
  have n1_ := Aside0.mk (below_step (hS_ GE458.out) hb)
  clear BK458
  clear HB
  have BK458 := n0_
  have HB := n1_
  clear n0_ n1_
  (try clear hb)
  (try clear hb2)
  (try clear hk)
  (try clear hi)
  refine hK.out _ _ ⟨(blk_cell BK458.out 0).trans rfl, (blk_cell BK458.out 1).trans rfl, (blk_cell BK458.out 2).trans rfl⟩ (fun hHeld => ?_)
  clear hK K
  refine norm_ (a' := ?_) ?_ ?_
  rotate_left
  ·show Act.put _ (some 8) _ = _
   simp only [Act.put, List.setIfInBounds_toArray, List.set_cons_zero, List.set_cons_succ, i64_w, i32_w]
   rfl
  refine pS_ 2 9 (bb_ 18 7) HT_.out ?_
  refine pU_ 3 10 (bb_ 18 15) HT_.out ?_
  refine pU_ 4 11 (bb_ 18 31) HT_.out ?_
  refine pU_ 5 12 (bb_ 18 63) HT_.out ?_
  refine pU_ 6 13 (bb_ 18 127) HT_.out ?_
  refine pU_ 7 14 (bb_ 18 255) HT_.out ?_
  refine pU_ 8 15 (bb_ 18 511) HT_.out ?_
  refine pU_ 9 16 (bb_ 18 1023) HT_.out ?_
  refine pU_ 10 17 (bb_ 18 2047) HT_.out ?_
  refine pU_ 11 18 (bb_ 18 4095) HT_.out ?_
  refine pU_ 12 19 (bb_ 18 8191) HT_.out ?_
  refine pU_ 13 20 (bb_ 18 16383) HT_.out ?_
  refine pU_ 14 21 (bb_ 18 32767) HT_.out ?_
  refine pU_ 15 22 (bb_ 18 65535) HT_.out ?_
  refine pS_ 16 23 (bb_ 18 131071) HT_.out ?_
  refine pS_ 17 6 (bb_ 18 262143) HT_.out ?_
  refine done_ (done_of HT_.out (by kernel_rfl)) ?_
  try go_wp2
  go_ret
  exact ⟨by first | rfl | (simp [errW_none, errW_some] <;> rfl) | (simp [*, errW_none, errW_some] <;> rfl), hS_ GE458.out⟩

end Go.Proofs.YtjcmafoepabpkaaDoor.P
