-- printed texts of this session, regrouped
import Derived.Test.YtjcmafoepabpkaaDoorMW7
import Derived.Test.YtjcmafoepabpkaaDoorMW6
import Derived.Test.YtjcmafoepabpkaaDoorHA4
import Derived.Test.YtjcmafoepabpkaaDoorPx0
import Derived.Test.YtjcmafoepabpkaaDoorPx2
namespace Go.Proofs.YtjcmafoepabpkaaDoor.P
open Go.RowKit Go.Proofs.YtjcmafoepabpkaaDoorW.PrintWords Go.Proofs.YtjcmafoepabpkaaDoorW.PrintLast Go.Proofs.YtjcmafoepabpkaaDoorW.PrintMore
attribute [local go_sem] max2_int min2_int max_two min_two max_three min_three max_four min_four   -- for this text's walks alone
set_option linter.unusedVariables false
set_option linter.unusedSimpArgs false
set_option maxHeartbeats 8000000
set_option maxRecDepth 100000

/-! ### impl_Chop: function 84 -/
def impl_Chop.f (a0 : ByteArray) : Option (ByteArray) := (impl_DigestOf.f a0).bind fun t252 => (if 0 ≤ 4 then (if 4 ≤ (t252.size : Int) then (some (t252.extract 0 4)) else (none)) else (none))
theorem impl_Chop.calls (a0 : ByteArray) (r : ByteArray) (w : World) (h : impl_Chop.f a0 = some r) (hLD : Laid w) :
  Calls Tryd.prog 84 #[.string a0] w fun e w' => e = .returned (.string r) ∧ Below w.heap.size w w' := by
 have HLD := Aside0.mk hLD
 clear hLD
 have HB := Aside0.mk (Below.refl w.heap.size w)
 have H : ((impl_DigestOf.f a0).bind fun t252 => (if 0 ≤ 4 then (if 4 ≤ (t252.size : Int) then (some (t252.extract 0 4)) else (none)) else (none))) = some r := h
 clear h
 replace H := Option.bind_eq_some_iff.mp H
 obtain ⟨t252, A20, H⟩ := H
 try dsimp -simprocs only at H
 have A2 := Aside0.mk A20
 clear A20
 obtain ⟨c3, H⟩ := iN_ H
 have c3b0 := eq_true c3
 have c3b1 := decide_eq_true c3
 clear c3
 obtain ⟨c4, H⟩ := iN_ H
 have c4b0 := eq_true c4
 have c4b1 := decide_eq_true c4
 clear c4
 obtain rfl := Option.some.inj H
 go_enter Tryd.func84, Tryd.ntmps84
 go_wp2_with (first | ((with_reducible refine gate_callee (f := 109) rfl ?_); refine goesL_ (some 4) rfl rfl Tryd.func109 (by kernel_rfl) rfl #[.string a0] rfl aM_ ?_; (with_reducible refine (impl_DigestOf.calls a0 t252 _ A2.out (HLD.out.below HLD.out.pos (hB_))).mono ?_); rintro e w5 ⟨rfl, hb⟩; refine ⟨_, rfl, ?_⟩; have n0_ := Aside0.mk (below_step (hB_) hb); replace HB := n0_; clear n0_; (try clear hb)))
 go_ret
 exact ⟨by first | rfl | (simp [errW_none, errW_some] <;> rfl) | (simp [*, errW_none, errW_some] <;> rfl), hB_⟩

/-! ### impl_DigitsOf: function 73 -/
mutual
def impl_DigitsOf.l0 : Nat → List Int → Int → ByteArray → Int → Option (List Int)
 | 0, _, _, _, _ => none
 | k + 1, x3, x4, x5, x11 => if x11 < 4 then (if 0 ≤ x11 then (if x11 < (x5.size : Int) then ((some (([wrap64 ((bt x5 x11) / 16), wrap64 (Go.bits .and .u8 (bt x5 x11) 15)] : List Int) : List Int)).bind fun y254 => (if x3.length + y254.length < 17592186044416 then (impl_DigitsOf.l0 k (x3 ++ y254) x4 x5 (wrap64 (x11 + 1))) else (none))) else (none)) else (none)) else (impl_DigitsOf.l1 k x3 x4 x3 (x3.length : Int) 0)
def impl_DigitsOf.l1 : Nat → List Int → Int → List Int → Int → Int → Option (List Int)
 | 0, _, _, _, _, _ => none
 | k + 1, x3, x4, x28, x29, x30 => if x30 < x29 then (if 0 ≤ x30 then (if x30 < (x28.length : Int) then (impl_DigitsOf.l1 k x3 (wrap64 (x4 + (wrap64 (15 - (rd x28 x30))))) x28 x29 (wrap64 (x30 + 1))) else (none)) else (none)) else ((some (([wrap64 (Int.tdiv x4 16), Int.tmod x4 16] : List Int) : List Int)).bind fun y261 => (if x3.length + y261.length < 17592186044416 then (some (x3 ++ y261)) else (none)))
end
def impl_DigitsOf.f (k : Nat) (a0 : ByteArray) : Option (List Int) := (impl_Chop.f a0).bind fun t253 => (impl_DigitsOf.l0 k ([] : List Int) 0 t253 0)
theorem impl_DigitsOf.mono_l : ∀ k, (∀ y0 y1 y2 y3, LeO (impl_DigitsOf.l0 k y0 y1 y2 y3) (impl_DigitsOf.l0 (k + 1) y0 y1 y2 y3)) ∧ (∀ y0 y1 y2 y3 y4, LeO (impl_DigitsOf.l1 k y0 y1 y2 y3 y4) (impl_DigitsOf.l1 (k + 1) y0 y1 y2 y3 y4))
 | 0 => ⟨fun _ _ _ _ r h => by simp [impl_DigitsOf.l0] at h, fun _ _ _ _ _ r h => by simp [impl_DigitsOf.l1] at h⟩
 | k + 1 => by
  obtain ⟨ih0, ih1⟩ := impl_DigitsOf.mono_l k
  refine ⟨?_, ?_⟩
  ·intro y0 y1 y2 y3
   unfold impl_DigitsOf.l0
   repeat' first
   | (with_reducible exact ih0 _ _ _ _)
   | (with_reducible exact ih1 _ _ _ _ _)
   | (with_reducible exact LeO.refl _)
   | (with_reducible exact LeO.none _)
   | (with_reducible refine LeO.ite ?_ ?_)
   | (with_reducible refine LeO.bind ?_ (fun _ => ?_))
  ·intro y0 y1 y2 y3 y4
   unfold impl_DigitsOf.l1
   repeat' first
   | (with_reducible exact ih0 _ _ _ _)
   | (with_reducible exact ih1 _ _ _ _ _)
   | (with_reducible exact LeO.refl _)
   | (with_reducible exact LeO.none _)
   | (with_reducible refine LeO.ite ?_ ?_)
   | (with_reducible refine LeO.bind ?_ (fun _ => ?_))
theorem impl_DigitsOf.mono : ∀ a0 k, LeO (impl_DigitsOf.f k a0) (impl_DigitsOf.f (k + 1) a0) := by
 intro a0 k
 obtain ⟨ih0, ih1⟩ := impl_DigitsOf.mono_l k
 unfold impl_DigitsOf.f
 repeat' first
   | (with_reducible exact ih0 _ _ _ _)
   | (with_reducible exact ih1 _ _ _ _ _)
   | (with_reducible exact LeO.refl _)
   | (with_reducible exact LeO.none _)
   | (with_reducible refine LeO.ite ?_ ?_)
   | (with_reducible refine LeO.bind ?_ (fun _ => ?_))
def impl_DigitsOf.T7 : Bool × List (List Nat × List Nat) := (true, [([], []), ([], []), ([], []), ([1, 2], [1, 2]), ([3], [3]), ([4], [4]), ([], []), ([], []), ([6, 7], [6, 7]), ([8], [8]), ([9], [9]), ([5, 10], [5, 10]), ([0, 11], [0, 11]), ([12, 12, 0, 1, 2, 3, 4, 5, 6, 7, 8, 9, 10, 11, 12], [0, 12])])
def impl_DigitsOf.B7 : List Nat := [0, 0, 0, 6, 14, 30, 0, 0, 192, 448, 960, 2046, 4095, 8191]
theorem impl_DigitsOf.tab7 : rtab .any (opsOf Tryd.f73 7) = impl_DigitsOf.T7 := by kernel_rfl
theorem impl_DigitsOf.bits7 : waitsOk impl_DigitsOf.T7.2 impl_DigitsOf.B7 = true := by kernel_rfl
theorem impl_DigitsOf.calls (k : Nat) (a0 : ByteArray) (r : List Int) (w : World) (h : impl_DigitsOf.f k a0 = some r) (hLD : Laid w) :
  Calls Tryd.prog 73 #[.string a0] w fun e w' => ∃ v0_ : Value, e = .returned (v0_) ∧ Kd.R (Kd.int .i64) 3 w' w.heap.size (fun _ => True) v0_ r ∧ Below w.heap.size w w' := by
 have HLD := Aside0.mk hLD
 clear hLD
 have HB := Aside0.mk (Below.refl w.heap.size w)
 have H : ((impl_Chop.f a0).bind fun t253 => (impl_DigitsOf.l0 k ([] : List Int) 0 t253 0)) = some r := h
 clear h
 replace H := Option.bind_eq_some_iff.mp H
 obtain ⟨t253, A20, H⟩ := H
 try dsimp -simprocs only at H
 have A2 := Aside0.mk A20
 clear A20
 have H' := Aside0.mk H
 clear H
 go_enter Tryd.func73, Tryd.ntmps73
 go_wp2_with (first | ((with_reducible refine gate_callee (f := 84) rfl ?_); refine goesL_ (some 10) rfl rfl Tryd.func84 (by kernel_rfl) rfl #[.string a0] rfl aM_ ?_; (with_reducible refine (impl_Chop.calls a0 t253 _ A2.out (HLD.out.below HLD.out.pos (hB_))).mono ?_); rintro e w3 ⟨rfl, hb⟩; refine ⟨_, rfl, ?_⟩; have n0_ := Aside0.mk (below_step (hB_) hb); replace HB := n0_; clear n0_; (try clear hb)))
 go_loopg [3, 11] k (fun kq v3 v11 w' => ∃ (x3_1 : List Int) (x11_1 : Int), v11 = .int .i64 x11_1 ∧ Aside0 (impl_DigitsOf.l0 kq x3_1 0 t253 x11_1 = some r) ∧ Aside0 (kq ≤ k) ∧ Aside0 (Kd.R (Kd.int .i64) 3 w' w.heap.size (fun _ => True) v3 x3_1) ∧ Aside0 (Below w.heap.size w w'))
 case atStart => exact ⟨(([] : List Int)), (0), (by first | rfl | (simp; done) | (simp [*]; done)), H', ⟨Nat.le_refl _⟩, ⟨by first | exact Kd.R_nil _ _ _ _ _ | exact Kd.N_nil _ _ _ _ _ | exact Kd.V_nil _ _ _ _ _ | exact Kd.Q_nil _ _ _ _ _ | exact Kd.S_nil _ _ _ _ _⟩, ⟨hB_⟩⟩
 case round =>
  clear H'
  try clear p2
  obtain ⟨x3_1, x11_1, rfl, HA, HK1, HO_3, HB⟩ := hrel
  cases gk with
  | zero => exact absurd HA.out (by simp [impl_DigitsOf.l0])
  | succ k1 =>
   have H := HA.out
   clear HA
   simp only [impl_DigitsOf.l0] at H
   by_cases c4 : x11_1 < 4
   rotate_left
   ·rw [if_neg c4] at H
    have c4b0 := decide_eq_false c4
    clear c4
    have H' := Aside0.mk H
    clear H
    obtain ⟨Ao15, co15, eo15⟩ := Kd.R_slice HO_3.out
    subst eo15
    go_wp2
    go_loopg [4, 30] k1 (fun kq v4 v30 w' => ∃ (x4_2 : Int) (x30_2 : Int), v4 = .int .i64 x4_2 ∧ v30 = .int .i64 x30_2 ∧ Aside0 (impl_DigitsOf.l1 kq x3_1 x4_2 x3_1 (x3_1.length : Int) x30_2 = some r) ∧ Aside0 (kq ≤ k1) ∧ Aside0 (Kd.R (Kd.int .i64) 3 w' w.heap.size (fun _ => True) (.slice Ao15 x3_1.length co15) x3_1) ∧ Aside0 (Kd.R (Kd.int .i64) 3 w' w.heap.size (fun _ => True) (.slice Ao15 x3_1.length co15) x3_1) ∧ Aside0 (Below w.heap.size w w'))
    case atStart => exact ⟨(0), (0), (by first | rfl | (simp; done) | (simp [*]; done)), (by first | rfl | (simp; done) | (simp [*]; done)), H', ⟨Nat.le_refl _⟩, ⟨rR_ HO_3.out⟩, ⟨rR_ HO_3.out⟩, ⟨hB_⟩⟩
    case round =>
     clear H'
     try clear p2
     try clear c4
     try clear c4b0
     try clear c5
     try clear c5b0
     try clear c6
     try clear c6b0
     try clear p6
     try clear c7
     try clear p7
     try clear q7
     try clear hx7
     try clear c8
     try clear p8
     try clear q8
     try clear hx8
     try clear c9
     try clear p2
     try clear p7
     try clear p8
     try clear q7
     try clear q8
     obtain ⟨x4_2, x30_2, rfl, rfl, HA, HK2, HO_3, HO_28, HB⟩ := hrel
     cases gk with
     | zero => exact absurd HA.out (by simp [impl_DigitsOf.l1])
     | succ k2 =>
      have H := HA.out
      clear HA
      simp only [impl_DigitsOf.l1] at H
      by_cases c16 : x30_2 < (x3_1.length : Int)
      ·rw [if_pos c16] at H
       have c16b0 := decide_eq_true c16
       clear c16
       obtain ⟨c17, H⟩ := iN_ H
       have c17b0 := decide_eq_true c17
       clear c17
       obtain ⟨c18, H⟩ := iN_ H
       have c18b0 := decide_eq_true c18
       clear c18
       have H' := Aside0.mk H
       clear H
       have p260 : 0 ≤ (x30_2 : Int) := of_decide_eq_true (by first | (with_reducible assumption) | assumption)
       have q260 : x30_2 < (x3_1.length : Int) := of_decide_eq_true (by first | (with_reducible assumption) | assumption)
       obtain ⟨ad260, e260, hx260_0⟩ := Kd.at_int (Kd.R_reads' HO_28.out).2.2 x30_2 p260 q260
       cases e260
       replace p260 := eq_true p260
       replace q260 := eq_true q260
       go_wp2
       go_roundg k2
       case measure => have := HK1.out; have := HK2.out; omega
       case rel => exact ⟨(wrap64 (x4_2 + (wrap64 (15 - (rd x3_1 x30_2))))), (wrap64 (x30_2 + 1)), (by first | rfl | (simp; done) | (simp [*]; done)), (by first | rfl | (simp; done) | (simp [*]; done)), H', ⟨by have := HK1.out; have := HK2.out; omega⟩, ⟨rR_ HO_3.out⟩, ⟨rR_ HO_28.out⟩, ⟨hB_⟩⟩
      rw [if_neg c16] at H
      have c16b0 := decide_eq_false c16
      clear c16
      obtain ⟨y261, hy261⟩ : ∃ y_ : List Int, y_ = (([wrap64 (Int.tdiv x4_2 16), Int.tmod x4_2 16] : List Int)) := ⟨_, rfl⟩
      replace H : (if x3_1.length + y261.length < 17592186044416 then (some (x3_1 ++ y261)) else (none)) = some r := by first | (rw [hy261]; with_reducible exact H) | (have H2_ := (Option.bind_some _ _).symm.trans H; rw [hy261]; with_reducible exact H2_) | (have H2_ := (Option.bind_some _ _).symm.trans H; with_reducible exact H2_) | with_reducible exact H | (rw [hy261]; exact H) | exact H
      have Ny261 := Aside0.mk hy261
      clear hy261
      obtain ⟨c19, H⟩ := iN_ H
      have LMc19 := Aside0.mk c19
      clear c19
      obtain ⟨y264, hy264⟩ : ∃ y_ : List Int, y_ = (x3_1 ++ y261) := ⟨_, rfl⟩
      replace H : (some y264) = some r := by first | (rw [hy264]; with_reducible exact H) | (have H2_ := (Option.bind_some _ _).symm.trans H; rw [hy264]; with_reducible exact H2_) | (have H2_ := (Option.bind_some _ _).symm.trans H; with_reducible exact H2_) | with_reducible exact H | (rw [hy264]; exact H) | exact H
      have Ny264 := Aside0.mk hy264
      clear hy264
      obtain rfl := Option.some.inj H
      go_wp2_with (first | ((with_reducible refine gate_dst (N := 44) rfl ?_); refine Kd.R_lit (Kd.int .i64) _ 3 ?hg (N := 44) ?hd (xs := ([wrap64 (Int.tdiv x4_2 16), Int.tmod x4_2 16] : List Int)) (inner := [.int .i64 (wrap64 (Int.tdiv x4_2 16)), .int .i64 (Int.tmod x4_2 16)]) (ok := fun _ => True) (okp := fun _ => True) ?hr ?hp (fun _ hk => hk) trivial (Below.refl _ _) (Nat.le_refl _) (by simp) ?_; (case hd => rfl); (case hg => rfl); (case hr => first | (go_simp; done) | (go_simp; rfl)); (case hp => exact (Reps.one (show Kd.M (Kd.int .i64) _ _ _ (wrap64 (Int.tdiv x4_2 16)) [.int .i64 (wrap64 (Int.tdiv x4_2 16))] from rfl) (Reps.one (show Kd.M (Kd.int .i64) _ _ _ (Int.tmod x4_2 16) [.int .i64 (Int.tmod x4_2 16)] from rfl) (Reps.none _ _)))); intro v262 w20 ho21 hb hg_ hnew_; clear hg_ hnew_; (first | rw [← Ny261.out] at ho21 | (simp only [Int.reduceToNat] at ho21; rw [← Ny261.out] at ho21)); have n0_ := Aside0.mk (Kd.R_elder' (rR_ HO_3.out) (Kd.R_base ho21) hb); have n1_ := Aside0.mk (Kd.R_elder' (rR_ HO_28.out) (Kd.R_base ho21) hb); have n2_ := Aside0.mk (Kd.R_lower (Kd.R_new' (Kd.R_new' ho21 (Kd.R_lt (rR_ HO_3.out))) (Kd.R_lt (rR_ HO_28.out))) (below_size (hB_))); have n3_ := Aside0.mk (below_step (hB_) hb); replace HO_3 := n0_; replace HO_28 := n1_; have HO263 := n2_; replace HB := n3_; clear n0_ n1_ n2_ n3_; clear hb ho21; obtain ⟨Ao23, co23, eo23⟩ := Kd.R_slice HO263.out; subst eo23) | ((with_reducible refine gate_builtin (b := .append) (xs := #[.tmp 39, .tmp 44]) rfl ?_); at_builtin; refine Kd.R_append_rows (Kd.int .i64) (w0 := w) w.heap.size rfl (.tmp 39) (.tmp 44) 61 3 (.int .i64 0) 8 rfl Tryd.underlying61 info3 rfl (by decide) (by omega) (.slice Ao15 x3_1.length co15) x3_1 y261 _ _ _ (fun k_ => some k_ ≠ (.slice Ao23 y261.length co23 : Value).ownBlock) (fun _ => False) rfl rfl ?aO ?aR (fun _ _ h => h) (fun _ h => h.elim) ?aF ?aB ?aS ?aL ?_; (case aR => exact cR_ (Kd.R_reads' HO263.out).2.2); (case aB => exact (hB_)); (case aF => exact (fun k_ hk => Kd.fresh' (Kd.R_lt (rR_ HO263.out)) k_ hk)); (case aO => exact (by refine kR_ ?_; exact Kd.R_mono HO_3.out (fun _ hk => hk.2))); (case aS => exact (below_size (hB_))); (case aL => have := LMc19.out; omega); intro v265 w22 ho hb hg hat; rw [← Ny264.out] at ho; have n0_ := Aside0.mk (Kd.R_after (ok := (fun _ => True)) (by refine kR_ ?_; exact Kd.R_mono HO263.out (fun _ hk => ⟨trivial, hk.1.2⟩)) hg hat); have n1_ := Aside0.mk (hb); have n2_ := Aside0.mk (ho); clear HO_3; replace HO263 := n0_; replace HB := n1_; have HO266 := n2_; clear n0_ n1_ n2_; clear ho hb hg hat))
      go_ret
      exact ⟨_, by first | rfl | (simp [errW_none, errW_some] <;> rfl) | (simp [*, errW_none, errW_some] <;> rfl), by refine kR_ ?_; exact Kd.R_mono HO266.out (fun _ hk => trivial), hB_⟩
   rw [if_pos c4] at H
   have c4b0 := decide_eq_true c4
   clear c4
   obtain ⟨c5, H⟩ := iN_ H
   have c5b0 := decide_eq_true c5
   clear c5
   obtain ⟨c6, H⟩ := iN_ H
   have c6b0 := decide_eq_true c6
   clear c6
   obtain ⟨y254, hy254⟩ : ∃ y_ : List Int, y_ = (([wrap64 ((bt t253 x11_1) / 16), wrap64 (Go.bits .and .u8 (bt t253 x11_1) 15)] : List Int)) := ⟨_, rfl⟩
   replace H : (if x3_1.length + y254.length < 17592186044416 then (impl_DigitsOf.l0 k1 (x3_1 ++ y254) 0 t253 (wrap64 (x11_1 + 1))) else (none)) = some r := by first | (rw [hy254]; with_reducible exact H) | (have H2_ := (Option.bind_some _ _).symm.trans H; rw [hy254]; with_reducible exact H2_) | (have H2_ := (Option.bind_some _ _).symm.trans H; with_reducible exact H2_) | with_reducible exact H | (rw [hy254]; exact H) | exact H
   have Ny254 := Aside0.mk hy254
   clear hy254
   obtain ⟨c9, H⟩ := iN_ H
   have LMc9 := Aside0.mk c9
   clear c9
   obtain ⟨y257, hy257⟩ : ∃ y_ : List Int, y_ = (x3_1 ++ y254) := ⟨_, rfl⟩
   replace H : (impl_DigitsOf.l0 k1 y257 0 t253 (wrap64 (x11_1 + 1))) = some r := by first | (rw [hy257]; with_reducible exact H) | (have H2_ := (Option.bind_some _ _).symm.trans H; rw [hy257]; with_reducible exact H2_) | (have H2_ := (Option.bind_some _ _).symm.trans H; with_reducible exact H2_) | with_reducible exact H | (rw [hy257]; exact H) | exact H
   have Ny257 := Aside0.mk hy257
   clear hy257
   have H' := Aside0.mk H
   clear H
   try go_wp2
   have n0_ := Aside0.mk (Kd.R_drew HO_3.out)
   have n1_ := Aside0.mk (below_drew1 HB.out)
   clear HO_3
   clear HB
   have HO_3 := n0_
   have HB := n1_
   clear n0_ n1_
   have p7 : 0 ≤ (x11_1 : Int) := of_decide_eq_true (by first | (with_reducible assumption) | assumption)
   have q7 : x11_1 < (t253.size : Int) := of_decide_eq_true (by first | (with_reducible assumption) | assumption)
   have hx7 := bt_at t253 x11_1
   replace p7 := eq_true p7
   replace q7 := eq_true q7
   have p8 : 0 ≤ (x11_1 : Int) := of_decide_eq_true (by first | (with_reducible assumption) | assumption)
   have q8 : x11_1 < (t253.size : Int) := of_decide_eq_true (by first | (with_reducible assumption) | assumption)
   have hx8 := bt_at t253 x11_1
   replace p8 := eq_true p8
   replace q8 := eq_true q8
   refine start_ (n := 14) (S := fun w' => True) (ds := []) (bb_ 14 0) (by kernel_rfl) rfl rfl trivial (fun hHeld => ?_); refine with_tabW impl_DigitsOf.tab7 impl_DigitsOf.bits7 (fun HT_ HW_ => ?_)
   generalize wr.drew = w10 at HO_3 HB hHeld ⊢
   refine pS_ 0 14 (bb_ 14 1) HT_.out ?_
   refine pS_ 1 15 (bb_ 14 3) HT_.out ?_
   refine pS_ 2 16 (bb_ 14 7) HT_.out ?_
   refine pS_ 6 20 (bb_ 14 71) HT_.out ?_
   refine pS_ 7 21 (bb_ 14 199) HT_.out ?_
   refine tS_ 3 17 (bb_ 14 207) (take_ofW HT_.out HW_.out (by kernel_rfl)) hHeld ?_
   refine pS_ 4 18 (bb_ 14 223) HT_.out ?_
   refine pS_ 5 19 (bb_ 14 255) HT_.out ?_
   refine tS_ 8 22 (bb_ 14 511) (take_ofW HT_.out HW_.out (by kernel_rfl)) hHeld ?_
   refine pS_ 9 23 (bb_ 14 1023) HT_.out ?_
   refine pS_ 10 24 (bb_ 14 2047) HT_.out ?_
   refine one_ (i := 11) (N := some 25) (bb_ 14 4095) rfl rfl (one_of HT_.out (by kernel_rfl)) (by decide) (fun K hK => ?_)
   refine Kd.R_lit_step (Kd.int .i64) _ 3 ?hg (N := 25) ?hd (xs := ([wrap64 ((bt t253 x11_1) / 16), wrap64 (Go.bits .and .u8 (bt t253 x11_1) 15)] : List Int)) (inner := [.int .i64 (wrap64 ((bt t253 x11_1) / 16)), .int .i64 (wrap64 (Go.bits .and .u8 (bt t253 x11_1) 15))]) (ok := fun _ => True) (okp := fun _ => True) ?hr ?hp (fun _ hk => hk) trivial (Below.refl _ _) (Nat.le_refl _) (by simp) ?_; (case hd => rfl); (case hg => rfl); (case hr => first | (go_simp; done) | (go_simp; rfl)); (case hp => exact (Reps.one (show Kd.M (Kd.int .i64) _ _ _ (wrap64 ((bt t253 x11_1) / 16)) [.int .i64 (wrap64 ((bt t253 x11_1) / 16))] from rfl) (Reps.one (show Kd.M (Kd.int .i64) _ _ _ (wrap64 (Go.bits .and .u8 (bt t253 x11_1) 15)) [.int .i64 (wrap64 (Go.bits .and .u8 (bt t253 x11_1) 15))] from rfl) (Reps.none _ _))))
   intro v255 w11 ho12 hb hg_ hnew_
   clear hg_ hnew_
   (first | rw [← Ny254.out] at ho12 | (simp only [Int.reduceToNat] at ho12; rw [← Ny254.out] at ho12))
   have n0_ := Aside0.mk (Kd.R_elder' (rR_ HO_3.out) (Kd.R_base ho12) hb)
   have n1_ := Aside0.mk (Kd.R_lower (Kd.R_new' ho12 (Kd.R_lt (rR_ HO_3.out))) (below_size (hB_)))
   have n2_ := Aside0.mk (below_step (hB_) hb)
   clear HO_3
   clear HB
   have HO_3 := n0_
   have HO256 := n1_
   have HB := n2_
   clear n0_ n1_ n2_
   clear hb ho12
   obtain ⟨Ao14, co14, eo14⟩ := Kd.R_slice HO256.out
   (first | subst eo14 | (injection eo14 with f1_ f2_ f3_; have f4_ := f1_.symm; have f5_ := f3_.symm; clear f1_ f2_ f3_; subst f4_; subst f5_))
   refine hK.out _ _ trivial (fun hHeld => ?_)
   clear hK K
   refine norm_ (a' := ?_) ?_ ?_
   rotate_left
   ·show Act.put _ (some 25) _ = _
    simp only [Act.put, List.setIfInBounds_toArray, List.set_cons_zero, List.set_cons_succ, i64_w, i32_w]
    rfl
   refine one_ (i := 12) (N := some 26) (bb_ 14 8191) rfl rfl (one_of HT_.out (by kernel_rfl)) (by decide) (fun K hK => ?_)
   refine Kd.R_append_rows_step (Kd.int .i64) (w0 := w) w.heap.size (by rfl) (.tmp 14) (.tmp 25) 61 3 (.int .i64 0) 8 rfl Tryd.underlying61 info3 rfl (by decide) (by omega) u3 x3_1 y254 _ _ _ (fun k_ => some k_ ≠ (.slice Ao14 y254.length co14 : Value).ownBlock) (fun _ => False) rfl rfl ?aO ?aR (fun _ _ h => h) (fun _ h => h.elim) ?aF ?aB ?aS ?aL ?_
   (case aR => exact cR_ (Kd.R_reads' HO256.out).2.2)
   (case aB => exact (hB_))
   (case aF => exact (fun k_ hk => Kd.fresh' (Kd.R_lt (rR_ HO256.out)) k_ hk))
   (case aO => exact (by refine kR_ ?_; exact Kd.R_mono HO_3.out (fun _ hk => hk.2)))
   (case aS => exact (below_size (hB_)))
   (case aL => have := LMc9.out; omega)
   intro v258 w13 ho hb hg hat
   rw [← Ny257.out] at ho
   have n0_ := Aside0.mk (Kd.R_after (ok := (fun _ => True)) (rR_ HO256.out) hg hat)
   have n1_ := Aside0.mk (hb)
   have n2_ := Aside0.mk (ho)
   clear HO256
   clear HB
   clear HO_3
   have HO256 := n0_
   have HB := n1_
   have HO259 := n2_
   clear n0_ n1_ n2_
   clear ho hb hg hat
   refine hK.out _ _ trivial (fun hHeld => ?_)
   clear hK K
   refine norm_ (a' := ?_) ?_ ?_
   rotate_left
   ·show Act.put _ (some 26) _ = _
    simp only [Act.put, List.setIfInBounds_toArray, List.set_cons_zero, List.set_cons_succ, i64_w, i32_w]
    rfl
   refine pS_ 13 3 (bb_ 14 16383) HT_.out ?_
   refine done_ (done_of HT_.out (by kernel_rfl)) ?_
   try go_wp2
   go_roundg k1
   case measure => have := HK1.out; omega
   case rel => exact ⟨(y257), (wrap64 (x11_1 + 1)), (by first | rfl | (simp; done) | (simp [*]; done)), H', ⟨by have := HK1.out; omega⟩, ⟨by refine kR_ ?_; exact Kd.R_mono HO259.out (fun _ hk => trivial)⟩, ⟨hB_⟩⟩

/-! ### impl_ChainOf: function 81 -/
def impl_ChainOf.l0 : Nat → ByteArray → Int → Int → Int → Int → Int → Option (ByteArray)
 | 0, _, _, _, _, _, _ => none
 | k + 1, x0, x1, x2, x3, x13, x14 => if x14 < x13 then ((impl_oneByte.f x1).bind fun t270 => ((impl_oneByte.f x2).bind fun t271 => (if t270.size + t271.size ≤ 9223372036854775807 then ((impl_oneByte.f (wrap64 (x3 + x14))).bind fun t272 => (if (t270 ++ t271).size + t272.size ≤ 9223372036854775807 then (if ((t270 ++ t271) ++ t272).size + x0.size ≤ 9223372036854775807 then ((impl_Chop.f (((t270 ++ t271) ++ t272) ++ x0)).bind fun t273 => (impl_ChainOf.l0 k t273 x1 x2 x3 x13 (wrap64 (x14 + 1)))) else (none)) else (none))) else (none)))) else (some x0)
def impl_ChainOf.f (k : Nat) (a0 : ByteArray) (a1 : Int) (a2 : Int) (a3 : Int) (a4 : Int) : Option (ByteArray) := impl_ChainOf.l0 k a0 a1 a2 a3 (mn a4 15) 0
theorem impl_ChainOf.mono_l : ∀ k, (∀ y0 y1 y2 y3 y4 y5, LeO (impl_ChainOf.l0 k y0 y1 y2 y3 y4 y5) (impl_ChainOf.l0 (k + 1) y0 y1 y2 y3 y4 y5))
 | 0 => fun _ _ _ _ _ _ r h => by simp [impl_ChainOf.l0] at h
 | k + 1 => by
  have ih0 := impl_ChainOf.mono_l k
  ·intro y0 y1 y2 y3 y4 y5
   unfold impl_ChainOf.l0
   repeat' first
   | (with_reducible exact ih0 _ _ _ _ _ _)
   | (with_reducible exact LeO.refl _)
   | (with_reducible exact LeO.none _)
   | (with_reducible refine LeO.ite ?_ ?_)
   | (with_reducible refine LeO.bind ?_ (fun _ => ?_))
theorem impl_ChainOf.mono : ∀ a0 a1 a2 a3 a4 k, LeO (impl_ChainOf.f k a0 a1 a2 a3 a4) (impl_ChainOf.f (k + 1) a0 a1 a2 a3 a4) := by
 intro a0 a1 a2 a3 a4 k
 have ih0 := impl_ChainOf.mono_l k
 unfold impl_ChainOf.f
 repeat' first
   | (with_reducible exact ih0 _ _ _ _ _ _)
   | (with_reducible exact LeO.refl _)
   | (with_reducible exact LeO.none _)
   | (with_reducible refine LeO.ite ?_ ?_)
   | (with_reducible refine LeO.bind ?_ (fun _ => ?_))
theorem impl_ChainOf.calls (k : Nat) (a0 : ByteArray) (a1 : Int) (a2 : Int) (a3 : Int) (a4 : Int) (r : ByteArray) (w : World) (h : impl_ChainOf.f k a0 a1 a2 a3 a4 = some r) (hLD : Laid w) :
  Calls Tryd.prog 81 #[.string a0, .int .i64 a1, .int .i64 a2, .int .i64 a3, .int .i64 a4] w fun e w' => e = .returned (.string r) ∧ Below w.heap.size w w' := by
 have HLD := Aside0.mk hLD
 clear hLD
 have HB := Aside0.mk (Below.refl w.heap.size w)
 have H : (impl_ChainOf.l0 k a0 a1 a2 a3 (mn a4 15) 0) = some r := h
 clear h
 obtain ⟨ji6, hji6⟩ : ∃ j_ : Int, (mn a4 15) = j_ := ⟨_, rfl⟩
 first | rw [hji6] at H | simp only [hji6] at H
 (try (have hji6h : ji6 ≤ 15 := by (rw [← hji6]; unfold mn; (repeat' split) <;> omega)))
 (try (have hji6g : ji6 ≤ 64 := by omega))
 have hji6_ : (if 15 < a4 then 15 else a4) = ji6 := hji6
 have H' := Aside0.mk H
 clear H
 go_enter Tryd.func81, Tryd.ntmps81
 go_wp2
 go_loopg [0, 14] k (fun kq v0 v14 w' => ∃ (x0_1 : ByteArray) (x14_1 : Int), v0 = .string x0_1 ∧ v14 = .int .i64 x14_1 ∧ Aside0 (impl_ChainOf.l0 kq x0_1 a1 a2 a3 ji6 x14_1 = some r) ∧ Aside0 (kq ≤ k) ∧ Aside0 (Below w.heap.size w w'))
 case atStart => exact ⟨(a0), (0), (by first | rfl | (simp; done) | (simp [*]; done)), (by first | rfl | (simp; done) | (simp [*]; done)), H', ⟨Nat.le_refl _⟩, ⟨hB_⟩⟩
 case round =>
  clear H'
  try clear p2
  obtain ⟨x0_1, x14_1, rfl, rfl, HA, HK1, HB⟩ := hrel
  cases gk with
  | zero => exact absurd HA.out (by simp [impl_ChainOf.l0])
  | succ k1 =>
   have H := HA.out
   clear HA
   simp only [impl_ChainOf.l0] at H
   by_cases c7 : x14_1 < ji6
   rotate_left
   ·rw [if_neg c7] at H
    have c7b0 := decide_eq_false c7
    clear c7
    obtain rfl := Option.some.inj H
    go_wp2
    go_ret
    exact ⟨by first | rfl | (simp [errW_none, errW_some] <;> rfl) | (simp only [← hji6]; first | rfl | (simp [errW_none, errW_some] <;> rfl)) | (simp [*, errW_none, errW_some] <;> rfl), hB_⟩
   rw [if_pos c7] at H
   have c7b0 := decide_eq_true c7
   clear c7
   replace H := Option.bind_eq_some_iff.mp H
   obtain ⟨t270, A80, H⟩ := H
   try dsimp -simprocs only at H
   have A8 := Aside0.mk A80
   clear A80
   replace H := Option.bind_eq_some_iff.mp H
   obtain ⟨t271, A90, H⟩ := H
   try dsimp -simprocs only at H
   have A9 := Aside0.mk A90
   clear A90
   obtain ⟨c10, H⟩ := iN_ H
   have c10b0 := eq_true c10
   have c10b1 := decide_eq_true c10
   try have c10b2 : (9223372036854775807 < t270.size + t271.size) = False := eq_false (Nat.not_lt.2 c10)
   replace H := Option.bind_eq_some_iff.mp H
   obtain ⟨t272, A110, H⟩ := H
   try dsimp -simprocs only at H
   have A11 := Aside0.mk A110
   clear A110
   obtain ⟨c12, H⟩ := iN_ H
   have c12b0 := eq_true c12
   have c12b1 := decide_eq_true c12
   try have c12b2 : (9223372036854775807 < (t270 ++ t271).size + t272.size) = False := eq_false (Nat.not_lt.2 c12)
   try (have c12b9 : (9223372036854775807 < (t270 ++ t271).size + t272.size) = False := c12b2; simp only [ByteArray.size_append] at c12b9)
   obtain ⟨c13, H⟩ := iN_ H
   have c13b0 := eq_true c13
   have c13b1 := decide_eq_true c13
   try have c13b2 : (9223372036854775807 < ((t270 ++ t271) ++ t272).size + x0_1.size) = False := eq_false (Nat.not_lt.2 c13)
   try (have c13b9 : (9223372036854775807 < ((t270 ++ t271) ++ t272).size + x0_1.size) = False := c13b2; simp only [ByteArray.size_append] at c13b9)
   replace H := Option.bind_eq_some_iff.mp H
   obtain ⟨t273, A140, H⟩ := H
   try dsimp -simprocs only at H
   have A14 := Aside0.mk A140
   clear A140
   have H' := Aside0.mk H
   clear H
   go_wp2_with (first | ((with_reducible refine gate_callee (f := 69) rfl ?_); refine goesL_ (some 18) rfl rfl Tryd.func69 (by kernel_rfl) rfl #[.int .i64 a1] rfl aM_ ?_; (with_reducible refine (impl_oneByte.calls a1 t270 _ A8.out).mono ?_); rintro e w15 ⟨rfl, hb⟩; refine ⟨_, rfl, ?_⟩; have n0_ := Aside0.mk (below_step (hB_) hb); replace HB := n0_; clear n0_; (try clear hb)) | ((with_reducible refine gate_callee (f := 69) rfl ?_); refine goesL_ (some 20) rfl rfl Tryd.func69 (by kernel_rfl) rfl #[.int .i64 a2] rfl aM_ ?_; (with_reducible refine (impl_oneByte.calls a2 t271 _ A9.out).mono ?_); rintro e w16 ⟨rfl, hb⟩; refine ⟨_, rfl, ?_⟩; have n0_ := Aside0.mk (below_step (hB_) hb); replace HB := n0_; clear n0_; (try clear hb)) | ((with_reducible refine gate_callee (f := 69) rfl ?_); refine goesL_ (some 25) rfl rfl Tryd.func69 (by kernel_rfl) rfl #[.int .i64 (wrap64 (a3 + x14_1))] rfl aM_ ?_; (with_reducible refine (impl_oneByte.calls (wrap64 (a3 + x14_1)) t272 _ A11.out).mono ?_); rintro e w17 ⟨rfl, hb⟩; refine ⟨_, rfl, ?_⟩; have n0_ := Aside0.mk (below_step (hB_) hb); replace HB := n0_; clear n0_; (try clear hb)) | ((with_reducible refine gate_callee (f := 84) rfl ?_); refine goesL_ (some 29) rfl rfl Tryd.func84 (by kernel_rfl) rfl #[.string (((t270 ++ t271) ++ t272) ++ x0_1)] rfl aM_ ?_; (with_reducible refine (impl_Chop.calls (((t270 ++ t271) ++ t272) ++ x0_1) t273 _ A14.out (HLD.out.below HLD.out.pos (hB_))).mono ?_); rintro e w18 ⟨rfl, hb⟩; refine ⟨_, rfl, ?_⟩; have n0_ := Aside0.mk (below_step (hB_) hb); replace HB := n0_; clear n0_; (try clear hb)))
   go_roundg k1
   case measure => have := HK1.out; omega
   case rel => exact ⟨(t273), (wrap64 (x14_1 + 1)), (by first | rfl | (simp; done) | (simp [*]; done)), (by first | rfl | (simp; done) | (simp [*]; done)), H', ⟨by have := HK1.out; omega⟩, ⟨hB_⟩⟩

/-! ### impl_OnceSign: function 22 -/
def impl_OnceSign.l0 : Nat → Int → List Int → List ByteArray → List ByteArray → Int → Int → Option (List ByteArray)
 | 0, _, _, _, _, _, _ => none
 | k + 1, x1, x7, x8, x16, x17, x18 => if x18 < x17 then (if 0 ≤ x18 then (if x18 < (x16.length : Int) then (if x18 < (x7.length : Int) then ((impl_ChainOf.f k (rdOf ByteArray.empty x16 x18) x1 x18 0 (rd x7 x18)).bind fun t403 => (if x8.length < 8796093022208 then (impl_OnceSign.l0 k x1 x7 (x8 ++ [t403]) x16 x17 (wrap64 (x18 + 1))) else (none))) else (none)) else (none)) else (none)) else (some x8)
def impl_OnceSign.f (k : Nat) (l0 : List ByteArray) (a1 : Int) (a2 : ByteArray) : Option (List ByteArray) := if (l0.length : Int) = 10 then ((impl_DigitsOf.f k a2).bind fun t398 => (impl_OnceSign.l0 k a1 t398 ([] : List ByteArray) l0 (l0.length : Int) 0)) else (some ([] : List ByteArray))
theorem impl_OnceSign.mono_l : ∀ k, (∀ y0 y1 y2 y3 y4 y5, LeO (impl_OnceSign.l0 k y0 y1 y2 y3 y4 y5) (impl_OnceSign.l0 (k + 1) y0 y1 y2 y3 y4 y5))
 | 0 => fun _ _ _ _ _ _ r h => by simp [impl_OnceSign.l0] at h
 | k + 1 => by
  have ih0 := impl_OnceSign.mono_l k
  ·intro y0 y1 y2 y3 y4 y5
   unfold impl_OnceSign.l0
   repeat' first
   | (with_reducible exact ih0 _ _ _ _ _ _)
   | (with_reducible exact impl_ChainOf.mono _ _ _ _ _ _)
   | (with_reducible exact impl_DigitsOf.mono _ _)
   | (with_reducible exact LeO.refl _)
   | (with_reducible exact LeO.none _)
   | (with_reducible refine LeO.ite ?_ ?_)
   | (with_reducible refine LeO.bind ?_ (fun _ => ?_))
   | exact ih0 _ _ _ _ _ _
   | exact impl_ChainOf.mono _ _ _ _ _ _
   | exact impl_DigitsOf.mono _ _
   | exact LeO.none _
   | refine LeO.ite ?_ ?_
   | refine LeO.bind ?_ (fun _ => ?_)
theorem impl_OnceSign.mono : ∀ a0 a1 a2 k, LeO (impl_OnceSign.f k a0 a1 a2) (impl_OnceSign.f (k + 1) a0 a1 a2) := by
 intro a0 a1 a2 k
 have ih0 := impl_OnceSign.mono_l k
 unfold impl_OnceSign.f
 repeat' first
   | (with_reducible exact ih0 _ _ _ _ _ _)
   | (with_reducible exact impl_ChainOf.mono _ _ _ _ _ _)
   | (with_reducible exact impl_DigitsOf.mono _ _)
   | (with_reducible exact LeO.refl _)
   | (with_reducible exact LeO.none _)
   | (with_reducible refine LeO.ite ?_ ?_)
   | (with_reducible refine LeO.bind ?_ (fun _ => ?_))
   | exact ih0 _ _ _ _ _ _
   | exact impl_ChainOf.mono _ _ _ _ _ _
   | exact impl_DigitsOf.mono _ _
   | exact LeO.none _
   | refine LeO.ite ?_ ?_
   | refine LeO.bind ?_ (fun _ => ?_)
theorem impl_OnceSign.calls (k : Nat) (A0 : Option Addr) (c0 : Nat) (l0 : List ByteArray) (a1 : Int) (a2 : ByteArray) (r : List ByteArray) (w : World) (hr0 : Kd.C Kd.string w A0 l0.length l0) (hc0 : l0.length ≤ c0) (h : impl_OnceSign.f k l0 a1 a2 = some r) (hLD : Laid w) :
  Calls Tryd.prog 22 #[.slice A0 l0.length c0, .int .i64 a1, .string a2] w fun e w' => ∃ v0_ : Value, e = .returned (v0_) ∧ Kd.R Kd.string 9 w' w.heap.size (fun _ => True) v0_ r ∧ Below w.heap.size w w' := by
 have HLD := Aside0.mk hLD
 clear hLD
 have HR0 := Aside0.mk hr0
 have HC0 := Aside0.mk hc0
 clear hr0 hc0
 have HB := Aside0.mk (Below.refl w.heap.size w)
 have H : (if (l0.length : Int) = 10 then ((impl_DigitsOf.f k a2).bind fun t398 => (impl_OnceSign.l0 k a1 t398 ([] : List ByteArray) l0 (l0.length : Int) 0)) else (some ([] : List ByteArray))) = some r := h
 clear h
 by_cases c4 : (l0.length : Int) = 10
 rotate_left
 ·rw [if_neg c4] at H
  have c4b0 : ((l0.length : Int) == 10) = false := beq_eq_false_iff_ne.mpr c4
  have c4b1 : ((l0.length : Int) != 10) = true := bne_iff_ne.mpr c4
  obtain rfl := Option.some.inj H
  go_enter Tryd.func22, Tryd.ntmps22
  go_wp2
  go_ret
  exact ⟨_, by first | rfl | (simp [errW_none, errW_some] <;> rfl) | (simp [*, errW_none, errW_some] <;> rfl), by first | exact Kd.R_nil _ _ _ _ _ | exact Kd.N_nil _ _ _ _ _ | exact Kd.V_nil _ _ _ _ _ | exact Kd.Q_nil _ _ _ _ _ | exact Kd.S_nil _ _ _ _ _, hB_⟩
 rw [if_pos c4] at H
 have c4b0 : ((l0.length : Int) == 10) = true := beq_iff_eq.mpr c4
 have c4b1 : ((l0.length : Int) != 10) = false := bne_eq_false_iff_eq.mpr c4
 clear c4
 replace H := Option.bind_eq_some_iff.mp H
 obtain ⟨t398, A50, H⟩ := H
 try dsimp -simprocs only at H
 have A5 := Aside0.mk A50
 clear A50
 have H' := Aside0.mk H
 clear H
 go_enter Tryd.func22, Tryd.ntmps22
 go_wp2_with (first | ((with_reducible refine gate_callee (f := 73) rfl ?_); refine goesL_ (some 15) rfl rfl Tryd.func73 (by kernel_rfl) rfl #[.string a2] rfl aM_ ?_; (with_reducible refine (impl_DigitsOf.calls k a2 t398 _ A5.out (HLD.out.below HLD.out.pos (hB_))).mono ?_); rintro e w6 ⟨v399, rfl, ho0, hb⟩; refine ⟨_, rfl, ?_⟩; have n0_ := Aside0.mk (Kd.R_lower ho0 (below_size (hB_))); have n1_ := Aside0.mk (below_step (hB_) hb); have HO400 := n0_; replace HB := n1_; clear n0_ n1_; (try clear hb); (try clear ho0)))
 go_loopg [8, 18] k (fun kq v8 v18 w' => ∃ (x8_1 : List ByteArray) (x18_1 : Int), v18 = .int .i64 x18_1 ∧ Aside0 (impl_OnceSign.l0 kq a1 t398 x8_1 l0 (l0.length : Int) x18_1 = some r) ∧ Aside0 (kq ≤ k) ∧ Aside0 (Kd.R (Kd.int .i64) 3 w' w.heap.size (fun _ => True) v399 t398) ∧ Aside0 (Kd.R Kd.string 9 w' w.heap.size (fun _ => True) v8 x8_1) ∧ Aside0 (Below w.heap.size w w'))
 case atStart => exact ⟨(([] : List ByteArray)), (0), (by first | rfl | (simp; done) | (simp [*]; done)), H', ⟨Nat.le_refl _⟩, ⟨rR_ HO400.out⟩, ⟨by first | exact Kd.R_nil _ _ _ _ _ | exact Kd.N_nil _ _ _ _ _ | exact Kd.V_nil _ _ _ _ _ | exact Kd.Q_nil _ _ _ _ _ | exact Kd.S_nil _ _ _ _ _⟩, ⟨hB_⟩⟩
 case round =>
  clear H'
  try clear c2
  try clear p2
  try clear c4
  try clear c4b0
  try clear c4b1
  obtain ⟨x8_1, x18_1, rfl, HA, HK1, HO_7, HO_8, HB⟩ := hrel
  cases gk with
  | zero => exact absurd HA.out (by simp [impl_OnceSign.l0])
  | succ k1 =>
   have H := HA.out
   clear HA
   simp only [impl_OnceSign.l0] at H
   by_cases c7 : x18_1 < (l0.length : Int)
   rotate_left
   ·rw [if_neg c7] at H
    have c7b0 := decide_eq_false c7
    clear c7
    obtain rfl := Option.some.inj H
    go_wp2
    go_ret
    exact ⟨_, by first | rfl | (simp [errW_none, errW_some] <;> rfl) | (simp [*, errW_none, errW_some] <;> rfl), rR_ HO_8.out, hB_⟩
   rw [if_pos c7] at H
   have c7b0 := decide_eq_true c7
   clear c7
   obtain ⟨c8, H⟩ := iN_ H
   have c8b0 := decide_eq_true c8
   clear c8
   obtain ⟨c9, H⟩ := iN_ H
   have c9b0 := decide_eq_true c9
   clear c9
   obtain ⟨c10, H⟩ := iN_ H
   have c10b0 := decide_eq_true c10
   clear c10
   replace H := Option.bind_eq_some_iff.mp H
   obtain ⟨t403, A110, H⟩ := H
   try dsimp -simprocs only at H
   have A11 := Aside0.mk A110
   clear A110
   obtain ⟨c12, H⟩ := iN_ H
   have LMc12 := Aside0.mk c12
   clear c12
   obtain ⟨y404, hy404⟩ : ∃ y_ : List ByteArray, y_ = (x8_1 ++ [t403]) := ⟨_, rfl⟩
   replace H : (impl_OnceSign.l0 k1 a1 t398 y404 l0 (l0.length : Int) (wrap64 (x18_1 + 1))) = some r := by first | (rw [hy404]; with_reducible exact H) | (have H2_ := (Option.bind_some _ _).symm.trans H; rw [hy404]; with_reducible exact H2_) | (have H2_ := (Option.bind_some _ _).symm.trans H; with_reducible exact H2_) | with_reducible exact H | (rw [hy404]; exact H) | exact H
   have Ny404 := Aside0.mk hy404
   clear hy404
   have H' := Aside0.mk H
   clear H
   have p401 : 0 ≤ (x18_1 : Int) := of_decide_eq_true (by first | (with_reducible assumption) | assumption)
   have q401 : x18_1 < (l0.length : Int) := of_decide_eq_true (by first | (with_reducible assumption) | assumption)
   obtain ⟨ad401, e401, hx401_0⟩ := Kd.at_string HR0.out x18_1 p401 q401
   cases e401
   replace hx401_0 := (HB.out.cell (World.block_lt_of_cell? w _ hx401_0)).trans hx401_0
   replace p401 := eq_true p401
   replace q401 := eq_true q401
   obtain ⟨Ao13, co13, eo13⟩ := Kd.R_slice HO_7.out
   subst eo13
   have p402 : 0 ≤ (x18_1 : Int) := of_decide_eq_true (by first | (with_reducible assumption) | assumption)
   have q402 : x18_1 < (t398.length : Int) := of_decide_eq_true (by first | (with_reducible assumption) | assumption)
   obtain ⟨ad402, e402, hx402_0⟩ := Kd.at_int (Kd.R_reads' HO_7.out).2.2 x18_1 p402 q402
   cases e402
   replace p402 := eq_true p402
   replace q402 := eq_true q402
   go_wp2_with (first | ((with_reducible refine gate_callee (f := 81) rfl ?_); refine goesL_ (some 31) rfl rfl Tryd.func81 (by kernel_rfl) rfl #[.string (rdOf ByteArray.empty l0 x18_1), .int .i64 a1, .int .i64 x18_1, .int .i64 0, .int .i64 (rd t398 x18_1)] rfl aM_ ?_; (with_reducible refine (impl_ChainOf.calls k1 (rdOf ByteArray.empty l0 x18_1) a1 x18_1 0 (rd t398 x18_1) t403 _ A11.out (HLD.out.below HLD.out.pos (hB_))).mono ?_); rintro e w14 ⟨rfl, hb⟩; refine ⟨_, rfl, ?_⟩; have n0_ := Aside0.mk (Kd.R_below (rR_ HO_7.out) hb); have n1_ := Aside0.mk (Kd.R_below (rR_ HO_8.out) hb); have n2_ := Aside0.mk (below_step (hB_) hb); replace HO_7 := n0_; replace HO_8 := n1_; replace HB := n2_; clear n0_ n1_ n2_; (try clear hb)) | ((with_reducible refine gate_builtin (b := .append) (xs := #[.tmp 23, .tmp 32]) rfl ?_); at_builtin; refine Kd.R_append Kd.string (w0 := w) w.heap.size rfl (.tmp 23) (.tmp 32) 25 9 (.string ⟨#[]⟩) 16 rfl Tryd.underlying25 info9 rfl (by decide) (by omega) u8 x8_1 t403 [.string t403] (fun _ => True) (fun _ => False) rfl rfl ?aP (fun _ hk => hk.elim) ?aF ?aO ?aB ?aS ?aL ?_; (case aP => exact rfl); (case aB => exact (hB_)); (case aF => exact (fun _ _ => trivial)); (case aO => exact (rR_ HO_8.out)); (case aS => exact (below_size (hB_))); (case aL => have := LMc12.out; omega); intro v405 w15 ho hb hg hat; rw [← Ny404.out] at ho; have n0_ := Aside0.mk (Kd.R_over' (rR_ HO_7.out) (Kd.R_typed (rR_ HO_8.out)) (by decide) hg); have n1_ := Aside0.mk (hb); have n2_ := Aside0.mk (ho); clear HO_8; replace HO_7 := n0_; replace HB := n1_; have HO406 := n2_; clear n0_ n1_ n2_; clear ho hb hg hat))
   go_roundg k1
   case measure => have := HK1.out; omega
   case rel => exact ⟨(y404), (wrap64 (x18_1 + 1)), (by first | rfl | (simp; done) | (simp [*]; done)), H', ⟨by have := HK1.out; omega⟩, ⟨rR_ HO_7.out⟩, ⟨rR_ HO406.out⟩, ⟨hB_⟩⟩

/-! ### impl_chopped_OncePublic_1_OncePublic_2: function 74 -/
def impl_chopped_OncePublic_1_OncePublic_2.l0 : Nat → Int → ByteArray → List ByteArray → Int → Int → Option (ByteArray)
 | 0, _, _, _, _, _ => none
 | k + 1, x1, x9, x15, x16, x17 => if x17 < x16 then (if 0 ≤ x17 then (if x17 < (x15.length : Int) then ((impl_OncePublic_1.f x17).bind fun t408 => ((impl_OncePublic_2.f x17).bind fun t409 => ((impl_ChainOf.f k (rdOf ByteArray.empty x15 x17) x1 x17 t408 t409).bind fun t410 => (if x9.size + t410.size ≤ 9223372036854775807 then (impl_chopped_OncePublic_1_OncePublic_2.l0 k x1 (x9 ++ t410) x15 x16 (wrap64 (x17 + 1))) else (none))))) else (none)) else (none)) else ((impl_Chop.f x9).bind fun t411 => (some t411))
def impl_chopped_OncePublic_1_OncePublic_2.f (k : Nat) (l0 : List ByteArray) (a1 : Int) : Option (ByteArray) := if (l0.length : Int) = 10 then (impl_chopped_OncePublic_1_OncePublic_2.l0 k a1 (⟨#[]⟩ : ByteArray) l0 (l0.length : Int) 0) else (some (⟨#[]⟩ : ByteArray))
theorem impl_chopped_OncePublic_1_OncePublic_2.mono_l : ∀ k, (∀ y0 y1 y2 y3 y4, LeO (impl_chopped_OncePublic_1_OncePublic_2.l0 k y0 y1 y2 y3 y4) (impl_chopped_OncePublic_1_OncePublic_2.l0 (k + 1) y0 y1 y2 y3 y4))
 | 0 => fun _ _ _ _ _ r h => by simp [impl_chopped_OncePublic_1_OncePublic_2.l0] at h
 | k + 1 => by
  have ih0 := impl_chopped_OncePublic_1_OncePublic_2.mono_l k
  ·intro y0 y1 y2 y3 y4
   unfold impl_chopped_OncePublic_1_OncePublic_2.l0
   repeat' first
   | (with_reducible exact ih0 _ _ _ _ _)
   | (with_reducible exact impl_ChainOf.mono _ _ _ _ _ _)
   | (with_reducible exact LeO.refl _)
   | (with_reducible exact LeO.none _)
   | (with_reducible refine LeO.ite ?_ ?_)
   | (with_reducible refine LeO.bind ?_ (fun _ => ?_))
   | exact ih0 _ _ _ _ _
   | exact impl_ChainOf.mono _ _ _ _ _ _
   | exact LeO.none _
   | refine LeO.ite ?_ ?_
   | refine LeO.bind ?_ (fun _ => ?_)
theorem impl_chopped_OncePublic_1_OncePublic_2.mono : ∀ a0 a1 k, LeO (impl_chopped_OncePublic_1_OncePublic_2.f k a0 a1) (impl_chopped_OncePublic_1_OncePublic_2.f (k + 1) a0 a1) := by
 intro a0 a1 k
 have ih0 := impl_chopped_OncePublic_1_OncePublic_2.mono_l k
 unfold impl_chopped_OncePublic_1_OncePublic_2.f
 repeat' first
   | (with_reducible exact ih0 _ _ _ _ _)
   | (with_reducible exact impl_ChainOf.mono _ _ _ _ _ _)
   | (with_reducible exact LeO.refl _)
   | (with_reducible exact LeO.none _)
   | (with_reducible refine LeO.ite ?_ ?_)
   | (with_reducible refine LeO.bind ?_ (fun _ => ?_))
   | exact ih0 _ _ _ _ _
   | exact impl_ChainOf.mono _ _ _ _ _ _
   | exact LeO.none _
   | refine LeO.ite ?_ ?_
   | refine LeO.bind ?_ (fun _ => ?_)
theorem impl_chopped_OncePublic_1_OncePublic_2.calls (k : Nat) (A0 : Option Addr) (c0 : Nat) (l0 : List ByteArray) (a1 : Int) (r : ByteArray) (w : World) (hr0 : Kd.C Kd.string w A0 l0.length l0) (hc0 : l0.length ≤ c0) (h : impl_chopped_OncePublic_1_OncePublic_2.f k l0 a1 = some r) (hLD : Laid w) :
  Calls Tryd.prog 74 #[.slice A0 l0.length c0, .int .i64 a1, .func (.func 82) #[] #[], .func (.func 83) #[] #[]] w fun e w' => e = .returned (.string r) ∧ Below w.heap.size w w' := by
 have HLD := Aside0.mk hLD
 clear hLD
 have HR0 := Aside0.mk hr0
 have HC0 := Aside0.mk hc0
 clear hr0 hc0
 have HB := Aside0.mk (Below.refl w.heap.size w)
 have H : (if (l0.length : Int) = 10 then (impl_chopped_OncePublic_1_OncePublic_2.l0 k a1 (⟨#[]⟩ : ByteArray) l0 (l0.length : Int) 0) else (some (⟨#[]⟩ : ByteArray))) = some r := h
 clear h
 by_cases c3 : (l0.length : Int) = 10
 rotate_left
 ·rw [if_neg c3] at H
  have c3b0 : ((l0.length : Int) == 10) = false := beq_eq_false_iff_ne.mpr c3
  have c3b1 : ((l0.length : Int) != 10) = true := bne_iff_ne.mpr c3
  obtain rfl := Option.some.inj H
  go_enter Tryd.func74, Tryd.ntmps74
  go_wp2
  go_ret
  exact ⟨by first | rfl | (simp [errW_none, errW_some] <;> rfl) | (simp [*, errW_none, errW_some] <;> rfl), hB_⟩
 rw [if_pos c3] at H
 have c3b0 : ((l0.length : Int) == 10) = true := beq_iff_eq.mpr c3
 have c3b1 : ((l0.length : Int) != 10) = false := bne_eq_false_iff_eq.mpr c3
 clear c3
 have H' := Aside0.mk H
 clear H
 go_enter Tryd.func74, Tryd.ntmps74
 go_wp2
 go_loopg [9, 17] k (fun kq v9 v17 w' => ∃ (x9_1 : ByteArray) (x17_1 : Int), v9 = .string x9_1 ∧ v17 = .int .i64 x17_1 ∧ Aside0 (impl_chopped_OncePublic_1_OncePublic_2.l0 kq a1 x9_1 l0 (l0.length : Int) x17_1 = some r) ∧ Aside0 (kq ≤ k) ∧ Aside0 (Below w.heap.size w w'))
 case atStart => exact ⟨((⟨#[]⟩ : ByteArray)), (0), (by first | rfl | (simp; done) | (simp [*]; done)), (by first | rfl | (simp; done) | (simp [*]; done)), H', ⟨Nat.le_refl _⟩, ⟨hB_⟩⟩
 case round =>
  clear H'
  try clear c1
  try clear p2
  try clear c3
  try clear c3b0
  try clear c3b1
  obtain ⟨x9_1, x17_1, rfl, rfl, HA, HK1, HB⟩ := hrel
  cases gk with
  | zero => exact absurd HA.out (by simp [impl_chopped_OncePublic_1_OncePublic_2.l0])
  | succ k1 =>
   have H := HA.out
   clear HA
   simp only [impl_chopped_OncePublic_1_OncePublic_2.l0] at H
   by_cases c4 : x17_1 < (l0.length : Int)
   rotate_left
   ·rw [if_neg c4] at H
    have c4b0 := decide_eq_false c4
    clear c4
    replace H := Option.bind_eq_some_iff.mp H
    obtain ⟨t411, A120, H⟩ := H
    try dsimp -simprocs only at H
    have A12 := Aside0.mk A120
    clear A120
    obtain rfl := Option.some.inj H
    go_wp2_with (first | ((with_reducible refine gate_callee (f := 84) rfl ?_); refine goesL_ (some 36) rfl rfl Tryd.func84 (by kernel_rfl) rfl #[.string x9_1] rfl aM_ ?_; (with_reducible refine (impl_Chop.calls x9_1 t411 _ A12.out (HLD.out.below HLD.out.pos (hB_))).mono ?_); rintro e w13 ⟨rfl, hb⟩; refine ⟨_, rfl, ?_⟩; have n0_ := Aside0.mk (below_step (hB_) hb); replace HB := n0_; clear n0_; (try clear hb)))
    go_ret
    exact ⟨by first | rfl | (simp [errW_none, errW_some] <;> rfl) | (simp [*, errW_none, errW_some] <;> rfl), hB_⟩
   rw [if_pos c4] at H
   have c4b0 := decide_eq_true c4
   clear c4
   obtain ⟨c5, H⟩ := iN_ H
   have c5b0 := decide_eq_true c5
   clear c5
   obtain ⟨c6, H⟩ := iN_ H
   have c6b0 := decide_eq_true c6
   clear c6
   replace H := Option.bind_eq_some_iff.mp H
   obtain ⟨t408, A70, H⟩ := H
   try dsimp -simprocs only at H
   have A7 := Aside0.mk A70
   clear A70
   replace H := Option.bind_eq_some_iff.mp H
   obtain ⟨t409, A80, H⟩ := H
   try dsimp -simprocs only at H
   have A8 := Aside0.mk A80
   clear A80
   replace H := Option.bind_eq_some_iff.mp H
   obtain ⟨t410, A90, H⟩ := H
   try dsimp -simprocs only at H
   have A9 := Aside0.mk A90
   clear A90
   obtain ⟨c10, H⟩ := iN_ H
   have c10b0 := eq_true c10
   have c10b1 := decide_eq_true c10
   try have c10b2 : (9223372036854775807 < x9_1.size + t410.size) = False := eq_false (Nat.not_lt.2 c10)
   have H' := Aside0.mk H
   clear H
   have p407 : 0 ≤ (x17_1 : Int) := of_decide_eq_true (by first | (with_reducible assumption) | assumption)
   have q407 : x17_1 < (l0.length : Int) := of_decide_eq_true (by first | (with_reducible assumption) | assumption)
   obtain ⟨ad407, e407, hx407_0⟩ := Kd.at_string HR0.out x17_1 p407 q407
   cases e407
   replace hx407_0 := (HB.out.cell (World.block_lt_of_cell? w _ hx407_0)).trans hx407_0
   replace p407 := eq_true p407
   replace q407 := eq_true q407
   go_wp2_with (first | ((with_reducible refine Go.Proofs.YtjcmafoepabpkaaDoor.Kit.gate_value (x := .tmp 26) rfl ?_); refine Go.Proofs.YtjcmafoepabpkaaDoor.Kit.goesV_ (.tmp 26) (some 28) rfl rfl Tryd.func82 (by kernel_rfl) rfl #[.int .i64 x17_1] rfl aM_ (by first | rfl | (simp; done)) ?_; (with_reducible refine (impl_OncePublic_1.calls x17_1 t408 _ A7.out).mono ?_); rintro e w' ⟨rfl, ⟨nd, rfl⟩⟩; refine ⟨_, rfl, ?_⟩) | ((with_reducible refine Go.Proofs.YtjcmafoepabpkaaDoor.Kit.gate_value (x := .tmp 29) rfl ?_); refine Go.Proofs.YtjcmafoepabpkaaDoor.Kit.goesV_ (.tmp 29) (some 31) rfl rfl Tryd.func83 (by kernel_rfl) rfl #[.int .i64 x17_1] rfl aM_ (by first | rfl | (simp; done)) ?_; (with_reducible refine (impl_OncePublic_2.calls x17_1 t409 _ A8.out).mono ?_); rintro e w' ⟨rfl, ⟨nd, rfl⟩⟩; refine ⟨_, rfl, ?_⟩) | ((with_reducible refine gate_callee (f := 81) rfl ?_); refine goesL_ (some 32) rfl rfl Tryd.func81 (by kernel_rfl) rfl #[.string (rdOf ByteArray.empty l0 x17_1), .int .i64 a1, .int .i64 x17_1, .int .i64 t408, .int .i64 t409] rfl aM_ ?_; (with_reducible refine (impl_ChainOf.calls k1 (rdOf ByteArray.empty l0 x17_1) a1 x17_1 t408 t409 t410 _ A9.out (HLD.out.below HLD.out.pos (hB_))).mono ?_); rintro e w11 ⟨rfl, hb⟩; refine ⟨_, rfl, ?_⟩; have n0_ := Aside0.mk (below_step (hB_) hb); replace HB := n0_; clear n0_; (try clear hb)))
   go_roundg k1
   case measure => have := HK1.out; omega
   case rel => exact ⟨(x9_1 ++ t410), (wrap64 (x17_1 + 1)), (by first | rfl | (simp; done) | (simp [*]; done)), (by first | rfl | (simp; done) | (simp [*]; done)), H', ⟨by have := HK1.out; omega⟩, ⟨hB_⟩⟩

/-! ### impl_OncePublic: function 23 -/
def impl_OncePublic.f (k : Nat) (l0 : List ByteArray) (a1 : Int) : Option (ByteArray) := (impl_chopped_OncePublic_1_OncePublic_2.f k l0 a1).bind fun t412 => (some t412)
theorem impl_OncePublic.mono : ∀ a0 a1 k, LeO (impl_OncePublic.f k a0 a1) (impl_OncePublic.f (k + 1) a0 a1) := by
 intro a0 a1 k
 unfold impl_OncePublic.f
 repeat' first
   | (with_reducible exact impl_chopped_OncePublic_1_OncePublic_2.mono _ _ _)
   | (with_reducible exact LeO.refl _)
   | (with_reducible exact LeO.none _)
   | (with_reducible refine LeO.ite ?_ ?_)
   | (with_reducible refine LeO.bind ?_ (fun _ => ?_))
   | exact impl_chopped_OncePublic_1_OncePublic_2.mono _ _ _
   | exact LeO.none _
   | refine LeO.ite ?_ ?_
   | refine LeO.bind ?_ (fun _ => ?_)
theorem impl_OncePublic.calls (k : Nat) (A0 : Option Addr) (c0 : Nat) (l0 : List ByteArray) (a1 : Int) (r : ByteArray) (w : World) (hr0 : Kd.C Kd.string w A0 l0.length l0) (hc0 : l0.length ≤ c0) (h : impl_OncePublic.f k l0 a1 = some r) (hLD : Laid w) :
  Calls Tryd.prog 23 #[.slice A0 l0.length c0, .int .i64 a1] w fun e w' => e = .returned (.string r) ∧ Below w.heap.size w w' := by
 have HLD := Aside0.mk hLD
 clear hLD
 have HR0 := Aside0.mk hr0
 have HC0 := Aside0.mk hc0
 clear hr0 hc0
 have HB := Aside0.mk (Below.refl w.heap.size w)
 have H : ((impl_chopped_OncePublic_1_OncePublic_2.f k l0 a1).bind fun t412 => (some t412)) = some r := h
 clear h
 replace H := Option.bind_eq_some_iff.mp H
 obtain ⟨t412, A30, H⟩ := H
 try dsimp -simprocs only at H
 have A3 := Aside0.mk A30
 clear A30
 obtain rfl := Option.some.inj H
 go_enter Tryd.func23, Tryd.ntmps23
 go_wp2_with (first | ((with_reducible refine gate_callee (f := 74) rfl ?_); refine goesL_ (some 7) rfl rfl Tryd.func74 (by kernel_rfl) rfl #[.slice A0 l0.length c0, .int .i64 a1, .func (.func 82) #[] #[], .func (.func 83) #[] #[]] rfl aM_ ?_; (with_reducible refine (impl_chopped_OncePublic_1_OncePublic_2.calls k _ _ l0 a1 t412 _ ?side1 ?side2 A3.out (HLD.out.below HLD.out.pos (hB_))).mono ?_); (case side1 => exact cR_ HR0.out); (case side2 => exact HC0.out); rintro e w4 ⟨rfl, hb⟩; refine ⟨_, rfl, ?_⟩; have n0_ := Aside0.mk (below_step (hB_) hb); replace HB := n0_; clear n0_; (try clear hb)))
 go_ret
 exact ⟨by first | rfl | (simp [errW_none, errW_some] <;> rfl) | (simp [*, errW_none, errW_some] <;> rfl), hB_⟩

/-! ### impl_OnceKey: function 24 -/
def impl_OnceKey.l0 : Nat → ByteArray → Int → List ByteArray → Int → Option (List ByteArray)
 | 0, _, _, _, _ => none
 | k + 1, x0, x1, x5, x7 => if x7 < 10 then ((impl_oneByte.f x1).bind fun t413 => (if x0.size + t413.size ≤ 9223372036854775807 then ((impl_oneByte.f x7).bind fun t414 => (if (x0 ++ t413).size + t414.size ≤ 9223372036854775807 then (if ((x0 ++ t413) ++ t414).size + 1 ≤ 9223372036854775807 then ((impl_Chop.f (((x0 ++ t413) ++ t414) ++ (⟨#[111]⟩ : ByteArray))).bind fun t415 => (if x5.length < 8796093022208 then (impl_OnceKey.l0 k x0 x1 (x5 ++ [t415]) (wrap64 (x7 + 1))) else (none))) else (none)) else (none))) else (none))) else (some x5)
def impl_OnceKey.f (k : Nat) (a0 : ByteArray) (a1 : Int) : Option (List ByteArray) := impl_OnceKey.l0 k a0 a1 ([] : List ByteArray) 0
theorem impl_OnceKey.mono_l : ∀ k, (∀ y0 y1 y2 y3, LeO (impl_OnceKey.l0 k y0 y1 y2 y3) (impl_OnceKey.l0 (k + 1) y0 y1 y2 y3))
 | 0 => fun _ _ _ _ r h => by simp [impl_OnceKey.l0] at h
 | k + 1 => by
  have ih0 := impl_OnceKey.mono_l k
  ·intro y0 y1 y2 y3
   unfold impl_OnceKey.l0
   repeat' first
   | (with_reducible exact ih0 _ _ _ _)
   | (with_reducible exact LeO.refl _)
   | (with_reducible exact LeO.none _)
   | (with_reducible refine LeO.ite ?_ ?_)
   | (with_reducible refine LeO.bind ?_ (fun _ => ?_))
theorem impl_OnceKey.mono : ∀ a0 a1 k, LeO (impl_OnceKey.f k a0 a1) (impl_OnceKey.f (k + 1) a0 a1) := by
 intro a0 a1 k
 have ih0 := impl_OnceKey.mono_l k
 unfold impl_OnceKey.f
 repeat' first
   | (with_reducible exact ih0 _ _ _ _)
   | (with_reducible exact LeO.refl _)
   | (with_reducible exact LeO.none _)
   | (with_reducible refine LeO.ite ?_ ?_)
   | (with_reducible refine LeO.bind ?_ (fun _ => ?_))
theorem impl_OnceKey.calls (k : Nat) (a0 : ByteArray) (a1 : Int) (r : List ByteArray) (w : World) (h : impl_OnceKey.f k a0 a1 = some r) (hLD : Laid w) :
  Calls Tryd.prog 24 #[.string a0, .int .i64 a1] w fun e w' => ∃ v0_ : Value, e = .returned (v0_) ∧ Kd.R Kd.string 9 w' w.heap.size (fun _ => True) v0_ r ∧ Below w.heap.size w w' := by
 have HLD := Aside0.mk hLD
 clear hLD
 have HB := Aside0.mk (Below.refl w.heap.size w)
 have H : (impl_OnceKey.l0 k a0 a1 ([] : List ByteArray) 0) = some r := h
 clear h
 have H' := Aside0.mk H
 clear H
 go_enter Tryd.func24, Tryd.ntmps24
 go_wp2
 go_loopg [5, 7] k (fun kq v5 v7 w' => ∃ (x5_1 : List ByteArray) (x7_1 : Int), v7 = .int .i64 x7_1 ∧ Aside0 (impl_OnceKey.l0 kq a0 a1 x5_1 x7_1 = some r) ∧ Aside0 (kq ≤ k) ∧ Aside0 (Kd.R Kd.string 9 w' w.heap.size (fun _ => True) v5 x5_1) ∧ Aside0 (Below w.heap.size w w'))
 case atStart => exact ⟨(([] : List ByteArray)), (0), (by first | rfl | (simp; done) | (simp [*]; done)), H', ⟨Nat.le_refl _⟩, ⟨by first | exact Kd.R_nil _ _ _ _ _ | exact Kd.N_nil _ _ _ _ _ | exact Kd.V_nil _ _ _ _ _ | exact Kd.Q_nil _ _ _ _ _ | exact Kd.S_nil _ _ _ _ _⟩, ⟨hB_⟩⟩
 case round =>
  clear H'
  try clear c2
  try clear p2
  obtain ⟨x5_1, x7_1, rfl, HA, HK1, HO_5, HB⟩ := hrel
  cases gk with
  | zero => exact absurd HA.out (by simp [impl_OnceKey.l0])
  | succ k1 =>
   have H := HA.out
   clear HA
   simp only [impl_OnceKey.l0] at H
   by_cases c3 : x7_1 < 10
   rotate_left
   ·rw [if_neg c3] at H
    have c3b0 := decide_eq_false c3
    clear c3
    obtain rfl := Option.some.inj H
    go_wp2
    go_ret
    exact ⟨_, by first | rfl | (simp [errW_none, errW_some] <;> rfl) | (simp [*, errW_none, errW_some] <;> rfl), rR_ HO_5.out, hB_⟩
   rw [if_pos c3] at H
   have c3b0 := decide_eq_true c3
   clear c3
   replace H := Option.bind_eq_some_iff.mp H
   obtain ⟨t413, A40, H⟩ := H
   try dsimp -simprocs only at H
   have A4 := Aside0.mk A40
   clear A40
   obtain ⟨c5, H⟩ := iN_ H
   have c5b0 := eq_true c5
   have c5b1 := decide_eq_true c5
   try have c5b2 : (9223372036854775807 < a0.size + t413.size) = False := eq_false (Nat.not_lt.2 c5)
   replace H := Option.bind_eq_some_iff.mp H
   obtain ⟨t414, A60, H⟩ := H
   try dsimp -simprocs only at H
   have A6 := Aside0.mk A60
   clear A60
   obtain ⟨c7, H⟩ := iN_ H
   have c7b0 := eq_true c7
   have c7b1 := decide_eq_true c7
   try have c7b2 : (9223372036854775807 < (a0 ++ t413).size + t414.size) = False := eq_false (Nat.not_lt.2 c7)
   try (have c7b9 : (9223372036854775807 < (a0 ++ t413).size + t414.size) = False := c7b2; simp only [ByteArray.size_append] at c7b9)
   obtain ⟨c8, H⟩ := iN_ H
   have c8b0 := eq_true c8
   have c8b1 := decide_eq_true c8
   try have c8b2 : (9223372036854775807 < ((a0 ++ t413) ++ t414).size + 1) = False := eq_false (Nat.not_lt.2 c8)
   try (have c8b9 : (9223372036854775807 < ((a0 ++ t413) ++ t414).size + 1) = False := c8b2; simp only [ByteArray.size_append] at c8b9)
   replace H := Option.bind_eq_some_iff.mp H
   obtain ⟨t415, A90, H⟩ := H
   try dsimp -simprocs only at H
   have A9 := Aside0.mk A90
   clear A90
   obtain ⟨c10, H⟩ := iN_ H
   have LMc10 := Aside0.mk c10
   clear c10
   obtain ⟨y416, hy416⟩ : ∃ y_ : List ByteArray, y_ = (x5_1 ++ [t415]) := ⟨_, rfl⟩
   replace H : (impl_OnceKey.l0 k1 a0 a1 y416 (wrap64 (x7_1 + 1))) = some r := by first | (rw [hy416]; with_reducible exact H) | (have H2_ := (Option.bind_some _ _).symm.trans H; rw [hy416]; with_reducible exact H2_) | (have H2_ := (Option.bind_some _ _).symm.trans H; with_reducible exact H2_) | with_reducible exact H | (rw [hy416]; exact H) | exact H
   have Ny416 := Aside0.mk hy416
   clear hy416
   have H' := Aside0.mk H
   clear H
   go_wp2_with (first | ((with_reducible refine gate_callee (f := 69) rfl ?_); refine goesL_ (some 13) rfl rfl Tryd.func69 (by kernel_rfl) rfl #[.int .i64 a1] rfl aM_ ?_; (with_reducible refine (impl_oneByte.calls a1 t413 _ A4.out).mono ?_); rintro e w11 ⟨rfl, hb⟩; refine ⟨_, rfl, ?_⟩; have n0_ := Aside0.mk (Kd.R_below (rR_ HO_5.out) hb); have n1_ := Aside0.mk (below_step (hB_) hb); replace HO_5 := n0_; replace HB := n1_; clear n0_ n1_; (try clear hb)) | ((with_reducible refine gate_callee (f := 69) rfl ?_); refine goesL_ (some 16) rfl rfl Tryd.func69 (by kernel_rfl) rfl #[.int .i64 x7_1] rfl aM_ ?_; (with_reducible refine (impl_oneByte.calls x7_1 t414 _ A6.out).mono ?_); rintro e w12 ⟨rfl, hb⟩; refine ⟨_, rfl, ?_⟩; have n0_ := Aside0.mk (Kd.R_below (rR_ HO_5.out) hb); have n1_ := Aside0.mk (below_step (hB_) hb); replace HO_5 := n0_; replace HB := n1_; clear n0_ n1_; (try clear hb)) | ((with_reducible refine gate_callee (f := 84) rfl ?_); refine goesL_ (some 19) rfl rfl Tryd.func84 (by kernel_rfl) rfl #[.string (((a0 ++ t413) ++ t414) ++ (⟨#[111]⟩ : ByteArray))] rfl aM_ ?_; (with_reducible refine (impl_Chop.calls (((a0 ++ t413) ++ t414) ++ (⟨#[111]⟩ : ByteArray)) t415 _ A9.out (HLD.out.below HLD.out.pos (hB_))).mono ?_); rintro e w13 ⟨rfl, hb⟩; refine ⟨_, rfl, ?_⟩; have n0_ := Aside0.mk (Kd.R_below (rR_ HO_5.out) hb); have n1_ := Aside0.mk (below_step (hB_) hb); replace HO_5 := n0_; replace HB := n1_; clear n0_ n1_; (try clear hb)) | ((with_reducible refine gate_builtin (b := .append) (xs := #[.tmp 10, .tmp 20]) rfl ?_); at_builtin; refine Kd.R_append Kd.string (w0 := w) w.heap.size rfl (.tmp 10) (.tmp 20) 25 9 (.string ⟨#[]⟩) 16 rfl Tryd.underlying25 info9 rfl (by decide) (by omega) u5 x5_1 t415 [.string t415] (fun _ => True) (fun _ => False) rfl rfl ?aP (fun _ hk => hk.elim) ?aF ?aO ?aB ?aS ?aL ?_; (case aP => exact rfl); (case aB => exact (hB_)); (case aF => exact (fun _ _ => trivial)); (case aO => exact (rR_ HO_5.out)); (case aS => exact (below_size (hB_))); (case aL => have := LMc10.out; omega); intro v417 w14 ho hb hg hat; rw [← Ny416.out] at ho; have n0_ := Aside0.mk (hb); have n1_ := Aside0.mk (ho); clear HO_5; replace HB := n0_; have HO418 := n1_; clear n0_ n1_; clear ho hb hg hat))
   go_roundg k1
   case measure => have := HK1.out; omega
   case rel => exact ⟨(y416), (wrap64 (x7_1 + 1)), (by first | rfl | (simp; done) | (simp [*]; done)), H', ⟨by have := HK1.out; omega⟩, ⟨rR_ HO418.out⟩, ⟨hB_⟩⟩

/-! ### impl_Node: function 115 -/
def impl_Node.f (a0 : Int) (a1 : Int) (a2 : ByteArray) (a3 : ByteArray) : Option (ByteArray) := (impl_oneByte.f a0).bind fun t476 => ((impl_oneByte.f a1).bind fun t477 => (if t476.size + t477.size ≤ 9223372036854775807 then (if (t476 ++ t477).size + a2.size ≤ 9223372036854775807 then (if ((t476 ++ t477) ++ a2).size + a3.size ≤ 9223372036854775807 then (if (((t476 ++ t477) ++ a2) ++ a3).size + 1 ≤ 9223372036854775807 then ((impl_Chop.f ((((t476 ++ t477) ++ a2) ++ a3) ++ (⟨#[110]⟩ : ByteArray))).bind fun t478 => (some t478)) else (none)) else (none)) else (none)) else (none)))
theorem impl_Node.calls (a0 : Int) (a1 : Int) (a2 : ByteArray) (a3 : ByteArray) (r : ByteArray) (w : World) (h : impl_Node.f a0 a1 a2 a3 = some r) (hLD : Laid w) :
  Calls Tryd.prog 115 #[.int .i64 a0, .int .i64 a1, .string a2, .string a3] w fun e w' => e = .returned (.string r) ∧ Below w.heap.size w w' := by
 have HLD := Aside0.mk hLD
 clear hLD
 have HB := Aside0.mk (Below.refl w.heap.size w)
 have H : ((impl_oneByte.f a0).bind fun t476 => ((impl_oneByte.f a1).bind fun t477 => (if t476.size + t477.size ≤ 9223372036854775807 then (if (t476 ++ t477).size + a2.size ≤ 9223372036854775807 then (if ((t476 ++ t477) ++ a2).size + a3.size ≤ 9223372036854775807 then (if (((t476 ++ t477) ++ a2) ++ a3).size + 1 ≤ 9223372036854775807 then ((impl_Chop.f ((((t476 ++ t477) ++ a2) ++ a3) ++ (⟨#[110]⟩ : ByteArray))).bind fun t478 => (some t478)) else (none)) else (none)) else (none)) else (none)))) = some r := h
 clear h
 replace H := Option.bind_eq_some_iff.mp H
 obtain ⟨t476, A50, H⟩ := H
 try dsimp -simprocs only at H
 have A5 := Aside0.mk A50
 clear A50
 replace H := Option.bind_eq_some_iff.mp H
 obtain ⟨t477, A60, H⟩ := H
 try dsimp -simprocs only at H
 have A6 := Aside0.mk A60
 clear A60
 obtain ⟨c7, H⟩ := iN_ H
 have c7b0 := eq_true c7
 have c7b1 := decide_eq_true c7
 try have c7b2 : (9223372036854775807 < t476.size + t477.size) = False := eq_false (Nat.not_lt.2 c7)
 obtain ⟨c8, H⟩ := iN_ H
 have c8b0 := eq_true c8
 have c8b1 := decide_eq_true c8
 try have c8b2 : (9223372036854775807 < (t476 ++ t477).size + a2.size) = False := eq_false (Nat.not_lt.2 c8)
 try (have c8b9 : (9223372036854775807 < (t476 ++ t477).size + a2.size) = False := c8b2; simp only [ByteArray.size_append] at c8b9)
 obtain ⟨c9, H⟩ := iN_ H
 have c9b0 := eq_true c9
 have c9b1 := decide_eq_true c9
 try have c9b2 : (9223372036854775807 < ((t476 ++ t477) ++ a2).size + a3.size) = False := eq_false (Nat.not_lt.2 c9)
 try (have c9b9 : (9223372036854775807 < ((t476 ++ t477) ++ a2).size + a3.size) = False := c9b2; simp only [ByteArray.size_append] at c9b9)
 obtain ⟨c10, H⟩ := iN_ H
 have c10b0 := eq_true c10
 have c10b1 := decide_eq_true c10
 try have c10b2 : (9223372036854775807 < (((t476 ++ t477) ++ a2) ++ a3).size + 1) = False := eq_false (Nat.not_lt.2 c10)
 try (have c10b9 : (9223372036854775807 < (((t476 ++ t477) ++ a2) ++ a3).size + 1) = False := c10b2; simp only [ByteArray.size_append] at c10b9)
 replace H := Option.bind_eq_some_iff.mp H
 obtain ⟨t478, A110, H⟩ := H
 try dsimp -simprocs only at H
 have A11 := Aside0.mk A110
 clear A110
 obtain rfl := Option.some.inj H
 go_enter Tryd.func115, Tryd.ntmps115
 go_wp2_with (first | ((with_reducible refine gate_callee (f := 69) rfl ?_); refine goesL_ (some 10) rfl rfl Tryd.func69 (by kernel_rfl) rfl #[.int .i64 a0] rfl aM_ ?_; (with_reducible refine (impl_oneByte.calls a0 t476 _ A5.out).mono ?_); rintro e w12 ⟨rfl, hb⟩; refine ⟨_, rfl, ?_⟩; have n0_ := Aside0.mk (below_step (hB_) hb); replace HB := n0_; clear n0_; (try clear hb)) | ((with_reducible refine gate_callee (f := 69) rfl ?_); refine goesL_ (some 12) rfl rfl Tryd.func69 (by kernel_rfl) rfl #[.int .i64 a1] rfl aM_ ?_; (with_reducible refine (impl_oneByte.calls a1 t477 _ A6.out).mono ?_); rintro e w13 ⟨rfl, hb⟩; refine ⟨_, rfl, ?_⟩; have n0_ := Aside0.mk (below_step (hB_) hb); replace HB := n0_; clear n0_; (try clear hb)) | ((with_reducible refine gate_callee (f := 84) rfl ?_); refine goesL_ (some 19) rfl rfl Tryd.func84 (by kernel_rfl) rfl #[.string ((((t476 ++ t477) ++ a2) ++ a3) ++ (⟨#[110]⟩ : ByteArray))] rfl aM_ ?_; (with_reducible refine (impl_Chop.calls ((((t476 ++ t477) ++ a2) ++ a3) ++ (⟨#[110]⟩ : ByteArray)) t478 _ A11.out (HLD.out.below HLD.out.pos (hB_))).mono ?_); rintro e w14 ⟨rfl, hb⟩; refine ⟨_, rfl, ?_⟩; have n0_ := Aside0.mk (below_step (hB_) hb); replace HB := n0_; clear n0_; (try clear hb)))
 go_ret
 exact ⟨by first | rfl | (simp [errW_none, errW_some] <;> rfl) | (simp [*, errW_none, errW_some] <;> rfl), hB_⟩

/-! ### impl_LevelUp: function 117 -/
def impl_LevelUp.l0 : Nat → Int → List ByteArray → List ByteArray → Int → Option (List ByteArray)
 | 0, _, _, _, _ => none
 | k + 1, x0, x1, x5, x6 => if (wrap64 (x6 + 1)) < (x1.length : Int) then (if 0 ≤ x6 then (if x6 < (x1.length : Int) then (if 0 ≤ (wrap64 (x6 + 1)) then ((impl_Node.f x0 (wrap64 (Int.tdiv x6 2)) (rdOf ByteArray.empty x1 x6) (rdOf ByteArray.empty x1 (wrap64 (x6 + 1)))).bind fun t664 => (if x5.length < 8796093022208 then (impl_LevelUp.l0 k x0 x1 (x5 ++ [t664]) (wrap64 (x6 + 2))) else (none))) else (none)) else (none)) else (none)) else (some x5)
def impl_LevelUp.f (k : Nat) (a0 : Int) (l1 : List ByteArray) : Option (List ByteArray) := impl_LevelUp.l0 k a0 l1 ([] : List ByteArray) 0
theorem impl_LevelUp.mono_l : ∀ k, (∀ y0 y1 y2 y3, LeO (impl_LevelUp.l0 k y0 y1 y2 y3) (impl_LevelUp.l0 (k + 1) y0 y1 y2 y3))
 | 0 => fun _ _ _ _ r h => by simp [impl_LevelUp.l0] at h
 | k + 1 => by
  have ih0 := impl_LevelUp.mono_l k
  ·intro y0 y1 y2 y3
   unfold impl_LevelUp.l0
   repeat' first
   | (with_reducible exact ih0 _ _ _ _)
   | (with_reducible exact LeO.refl _)
   | (with_reducible exact LeO.none _)
   | (with_reducible refine LeO.ite ?_ ?_)
   | (with_reducible refine LeO.bind ?_ (fun _ => ?_))
theorem impl_LevelUp.mono : ∀ a0 a1 k, LeO (impl_LevelUp.f k a0 a1) (impl_LevelUp.f (k + 1) a0 a1) := by
 intro a0 a1 k
 have ih0 := impl_LevelUp.mono_l k
 unfold impl_LevelUp.f
 repeat' first
   | (with_reducible exact ih0 _ _ _ _)
   | (with_reducible exact LeO.refl _)
   | (with_reducible exact LeO.none _)
   | (with_reducible refine LeO.ite ?_ ?_)
   | (with_reducible refine LeO.bind ?_ (fun _ => ?_))
def impl_LevelUp.T5 : Bool × List (List Nat × List Nat) := (true, [([], []), ([], []), ([], []), ([2], [2]), ([], []), ([], []), ([4, 5], [4, 5]), ([6], [6]), ([], []), ([], []), ([9], [9]), ([8, 10], [8, 10]), ([11], [11]), ([1, 3, 7, 12], [1, 3, 7, 12]), ([13], [13]), ([0, 14, 13], [0, 14]), ([15, 15, 0, 1, 2, 3, 4, 5, 6, 7, 8, 9, 10, 11, 12, 13, 14, 15], [0, 15])])
def impl_LevelUp.B5 : List Nat := [0, 0, 0, 4, 0, 0, 48, 112, 0, 0, 512, 1792, 3840, 8190, 16382, 32767, 65535]
theorem impl_LevelUp.tab5 : rtab .any (opsOf Tryd.f117 5) = impl_LevelUp.T5 := by kernel_rfl
theorem impl_LevelUp.bits5 : waitsOk impl_LevelUp.T5.2 impl_LevelUp.B5 = true := by kernel_rfl
theorem impl_LevelUp.calls (k : Nat) (a0 : Int) (A1 : Option Addr) (c1 : Nat) (l1 : List ByteArray) (r : List ByteArray) (w : World) (hr1 : Kd.C Kd.string w A1 l1.length l1) (hc1 : l1.length ≤ c1) (h : impl_LevelUp.f k a0 l1 = some r) (hLD : Laid w) :
  Calls Tryd.prog 117 #[.int .i64 a0, .slice A1 l1.length c1] w fun e w' => ∃ v0_ : Value, e = .returned (v0_) ∧ Kd.R Kd.string 9 w' w.heap.size (fun _ => True) v0_ r ∧ Below w.heap.size w w' := by
 have HLD := Aside0.mk hLD
 clear hLD
 have HR1 := Aside0.mk hr1
 have HC1 := Aside0.mk hc1
 clear hr1 hc1
 have HB := Aside0.mk (Below.refl w.heap.size w)
 have H : (impl_LevelUp.l0 k a0 l1 ([] : List ByteArray) 0) = some r := h
 clear h
 have H' := Aside0.mk H
 clear H
 go_enter Tryd.func117, Tryd.ntmps117
 go_wp2
 go_loopg [5, 6] k (fun kq v5 v6 w' => ∃ (x5_1 : List ByteArray) (x6_1 : Int), v6 = .int .i64 x6_1 ∧ Aside0 (impl_LevelUp.l0 kq a0 l1 x5_1 x6_1 = some r) ∧ Aside0 (kq ≤ k) ∧ Aside0 (Kd.R Kd.string 9 w' w.heap.size (fun _ => True) v5 x5_1) ∧ Aside0 (Below w.heap.size w w'))
 case atStart => exact ⟨(([] : List ByteArray)), (0), (by first | rfl | (simp; done) | (simp [*]; done)), H', ⟨Nat.le_refl _⟩, ⟨by first | exact Kd.R_nil _ _ _ _ _ | exact Kd.N_nil _ _ _ _ _ | exact Kd.V_nil _ _ _ _ _ | exact Kd.Q_nil _ _ _ _ _ | exact Kd.S_nil _ _ _ _ _⟩, ⟨hB_⟩⟩
 case round =>
  clear H'
  try clear c1
  try clear p2
  obtain ⟨x5_1, x6_1, rfl, HA, HK1, HO_5, HB⟩ := hrel
  cases gk with
  | zero => exact absurd HA.out (by simp [impl_LevelUp.l0])
  | succ k1 =>
   have H := HA.out
   clear HA
   simp only [impl_LevelUp.l0] at H
   by_cases c3 : (wrap64 (x6_1 + 1)) < (l1.length : Int)
   rotate_left
   ·rw [if_neg c3] at H
    have c3b0 := decide_eq_false c3
    clear c3
    obtain rfl := Option.some.inj H
    go_wp2
    go_ret
    exact ⟨_, by first | rfl | (simp [errW_none, errW_some] <;> rfl) | (simp [*, errW_none, errW_some] <;> rfl), rR_ HO_5.out, hB_⟩
   rw [if_pos c3] at H
   have c3b0 := decide_eq_true c3
   clear c3
   obtain ⟨c4, H⟩ := iN_ H
   have c4b0 := decide_eq_true c4
   clear c4
   obtain ⟨c5, H⟩ := iN_ H
   have c5b0 := decide_eq_true c5
   clear c5
   obtain ⟨ji6, hji6⟩ : ∃ j_ : Int, (wrap64 (x6_1 + 1)) = j_ := ⟨_, rfl⟩
   first | rw [hji6] at H | simp only [hji6] at H
   (try rw [hji6] at c3b0)
   have hji6w : (IntKind.i64.wrap (x6_1 + 1)) = ji6 := (i64_w _).trans hji6
   obtain ⟨c7, H⟩ := iN_ H
   have c7b0 := decide_eq_true c7
   clear c7
   replace H := Option.bind_eq_some_iff.mp H
   obtain ⟨t664, A80, H⟩ := H
   try dsimp -simprocs only at H
   have A8 := Aside0.mk A80
   clear A80
   obtain ⟨c9, H⟩ := iN_ H
   have LMc9 := Aside0.mk c9
   clear c9
   obtain ⟨y665, hy665⟩ : ∃ y_ : List ByteArray, y_ = (x5_1 ++ [t664]) := ⟨_, rfl⟩
   replace H : (impl_LevelUp.l0 k1 a0 l1 y665 (wrap64 (x6_1 + 2))) = some r := by first | (rw [hy665]; with_reducible exact H) | (have H2_ := (Option.bind_some _ _).symm.trans H; rw [hy665]; with_reducible exact H2_) | (have H2_ := (Option.bind_some _ _).symm.trans H; with_reducible exact H2_) | with_reducible exact H | (rw [hy665]; exact H) | exact H
   have Ny665 := Aside0.mk hy665
   clear hy665
   have H' := Aside0.mk H
   clear H
   try go_wp2
   have n0_ := Aside0.mk (Kd.R_drew HO_5.out)
   have n1_ := Aside0.mk (below_drew1 HB.out)
   clear HO_5
   clear HB
   have HO_5 := n0_
   have HB := n1_
   clear n0_ n1_
   have p662 : 0 ≤ (x6_1 : Int) := of_decide_eq_true (by first | (with_reducible assumption) | assumption)
   have q662 : x6_1 < (l1.length : Int) := of_decide_eq_true (by first | (with_reducible assumption) | assumption)
   obtain ⟨ad662, e662, hx662_0⟩ := Kd.at_string HR1.out x6_1 p662 q662
   have hw662_0 := hx662_0
   cases e662
   replace hx662_0 := (HB.out.cell (World.block_lt_of_cell? w _ hx662_0)).trans hx662_0
   replace p662 := eq_true p662
   replace q662 := eq_true q662
   have p663 : 0 ≤ ((ji6) : Int) := of_decide_eq_true (by first | (with_reducible assumption) | assumption)
   have q663 : (ji6) < (l1.length : Int) := of_decide_eq_true (by first | (with_reducible assumption) | assumption)
   obtain ⟨ad663, e663, hx663_0⟩ := Kd.at_string HR1.out (ji6) p663 q663
   have hw663_0 := hx663_0
   obtain rfl : ad662 = ad663 := (by injection e663)
   replace hx663_0 := (HB.out.cell (World.block_lt_of_cell? w _ hx663_0)).trans hx663_0
   replace p663 := eq_true p663
   replace q663 := eq_true q663
   refine start_ (n := 17) (S := fun w' => w'.cell? (ad662.add (x6_1).toNat) = some (.string (rdOf ByteArray.empty l1 x6_1)) ∧ w'.cell? (ad662.add ((ji6)).toNat) = some (.string (rdOf ByteArray.empty l1 (ji6)))) (ds := []) (bb_ 17 0) (by kernel_rfl) rfl rfl ⟨((HB.out.cell (World.block_lt_of_cell? w _ hw662_0)).trans hw662_0), ((HB.out.cell (World.block_lt_of_cell? w _ hw663_0)).trans hw663_0)⟩ (fun hHeld => ?_); refine with_tabW impl_LevelUp.tab5 impl_LevelUp.bits5 (fun HT_ HW_ => ?_)
   generalize wr.drew = w10 at HO_5 HB hx662_0 hx663_0 hHeld ⊢
   refine pS_ 0 14 (bb_ 17 1) HT_.out ?_
   refine pS_ 1 15 (bb_ 17 3) HT_.out ?_
   refine pS_ 2 16 (bb_ 17 7) HT_.out ?_
   refine pS_ 3 17 (bb_ 17 15) HT_.out ?_
   refine pS_ 4 18 (bb_ 17 31) HT_.out ?_
   refine pS_ 5 19 (bb_ 17 63) HT_.out ?_
   refine pS_ 6 20 (bb_ 17 127) HT_.out ?_
   refine pS_ 8 22 (bb_ 17 383) HT_.out ?_
   refine pS_ 9 23 (bb_ 17 895) HT_.out ?_
   refine pS_ 10 24 (bb_ 17 1919) HT_.out ?_
   refine pS_ 11 25 (bb_ 17 3967) HT_.out ?_
   refine tS_ 7 21 (bb_ 17 4095) (take_ofW HT_.out HW_.out (by kernel_rfl)) hHeld ?_
   refine tS_ 12 26 (bb_ 17 8191) (take_ofW HT_.out HW_.out (by kernel_rfl)) hHeld ?_
   refine one_ (i := 13) (N := some 27) (bb_ 17 16383) rfl rfl (one_of HT_.out (by kernel_rfl)) (by decide) (fun K hK => ?_)
   refine goes_ Tryd.func115 (by kernel_rfl) rfl #[.int .i64 a0, .int .i64 (wrap64 (Int.tdiv x6_1 2)), .string (rdOf ByteArray.empty l1 x6_1), .string (rdOf ByteArray.empty l1 (ji6))] (by rfl) rfl rfl (by (try simp only [List.map_toArray, List.map_cons, List.map_nil]); first | done | (simp only [hji6]; rfl) | rfl | (simp only [List.length_drop, List.length_take]; rfl)) ?_
   with_reducible refine (impl_Node.calls a0 (wrap64 (Int.tdiv x6_1 2)) (rdOf ByteArray.empty l1 x6_1) (rdOf ByteArray.empty l1 (ji6)) t664 _ A8.out (HLD.out.below HLD.out.pos (hB_))).mono ?_
   rintro e w11 ⟨rfl, hb⟩
   refine ⟨_, rfl, ?_⟩
   have n0_ := Aside0.mk (Kd.R_below (rR_ HO_5.out) hb)
   have n1_ := Aside0.mk (below_step (hB_) hb)
   clear HO_5
   clear HB
   have HO_5 := n0_
   have HB := n1_
   clear n0_ n1_
   (try clear hb)
   (try clear hb2)
   (try clear hk)
   (try clear hi)
   refine hK.out _ _ ⟨((HB.out.cell (World.block_lt_of_cell? w _ hw662_0)).trans hw662_0), ((HB.out.cell (World.block_lt_of_cell? w _ hw663_0)).trans hw663_0)⟩ (fun hHeld => ?_)
   clear hK K
   refine norm_ (a' := ?_) ?_ ?_
   rotate_left
   ·show Act.put _ (some 27) _ = _
    simp only [Act.put, List.setIfInBounds_toArray, List.set_cons_zero, List.set_cons_succ, i64_w, i32_w]
    rfl
   refine one_ (i := 14) (N := some 28) (bb_ 17 32767) rfl rfl (one_of HT_.out (by kernel_rfl)) (by decide) (fun K hK => ?_)
   refine value_ (w1 := ?_) (v := ?_) (by rfl) rfl ?_ ?_
   rotate_left 2
   ·go_simp
    constructor
    ·rfl
    ·rfl
   refine hK.out _ _ ⟨(World.cell?_alloc_lt _ _ _ (World.block_lt_of_cell? _ _ (((HB.out.cell (World.block_lt_of_cell? w _ hw662_0)).trans hw662_0)))).trans (((HB.out.cell (World.block_lt_of_cell? w _ hw662_0)).trans hw662_0)), (World.cell?_alloc_lt _ _ _ (World.block_lt_of_cell? _ _ (((HB.out.cell (World.block_lt_of_cell? w _ hw663_0)).trans hw663_0)))).trans (((HB.out.cell (World.block_lt_of_cell? w _ hw663_0)).trans hw663_0))⟩ (fun hHeld => ?_)
   clear hK K
   refine norm_ (a' := ?_) ?_ ?_
   rotate_left
   ·show Act.put _ (some 28) _ = _
    simp only [Act.put, List.setIfInBounds_toArray, List.set_cons_zero, List.set_cons_succ, i64_w, i32_w]
    rfl
   refine one_ (i := 15) (N := some 29) (bb_ 17 65535) rfl rfl (one_of HT_.out (by kernel_rfl)) (by decide) (fun K hK => ?_)
   refine Kd.R_append_step Kd.string (w0 := w) w.heap.size (by rfl) (.tmp 14) (.tmp 28) 25 9 (.string ⟨#[]⟩) 16 rfl Tryd.underlying25 info9 rfl (by decide) (by omega) u5 x5_1 t664 [.string t664] (fun _ => True) (fun _ => False) rfl rfl ?aP (fun _ hk => hk.elim) ?aF ?aO ?aB ?aS ?aL ?_
   (case aP => exact rfl)
   (case aB => exact (hB_))
   (case aF => exact (fun _ _ => trivial))
   (case aO => exact (rR_ HO_5.out))
   (case aS => exact (below_size (hB_)))
   (case aL => have := LMc9.out; omega)
   intro v666 w12 ho hb hg hat
   rw [← Ny665.out] at ho
   have n0_ := Aside0.mk (hb)
   have n1_ := Aside0.mk (ho)
   clear HB
   clear HO_5
   have HB := n0_
   have HO667 := n1_
   clear n0_ n1_
   clear ho hb hg hat
   refine hK.out _ _ ⟨((HB.out.cell (World.block_lt_of_cell? w _ hw662_0)).trans hw662_0), ((HB.out.cell (World.block_lt_of_cell? w _ hw663_0)).trans hw663_0)⟩ (fun hHeld => ?_)
   clear hK K
   refine norm_ (a' := ?_) ?_ ?_
   rotate_left
   ·show Act.put _ (some 29) _ = _
    simp only [Act.put, List.setIfInBounds_toArray, List.set_cons_zero, List.set_cons_succ, i64_w, i32_w]
    rfl
   refine pS_ 16 5 (bb_ 17 131071) HT_.out ?_
   refine done_ (done_of HT_.out (by kernel_rfl)) ?_
   try go_wp2
   go_roundg k1
   case measure => have := HK1.out; omega
   case rel => exact ⟨(y665), (wrap64 (x6_1 + 2)), (by first | rfl | (simp; done) | (simp [*]; done)), H', ⟨by have := HK1.out; omega⟩, ⟨rR_ HO667.out⟩, ⟨hB_⟩⟩

/-! ### impl_PathOf: function 90 -/
mutual
def impl_PathOf.j0 : Nat → List ByteArray → Int → Bool → Option (List ByteArray)
 | 0, _, _, _ => none
 | k + 1, x0, x1, x14 => if x14 = true then (some ([] : List ByteArray)) else (impl_PathOf.l0 k x0 x1 ([] : List ByteArray) 1)
def impl_PathOf.l0 : Nat → List ByteArray → Int → List ByteArray → Int → Option (List ByteArray)
 | 0, _, _, _, _ => none
 | k + 1, x0, x1, x5, x6 => if (x0.length : Int) > 1 then (if 0 ≤ (Go.bits .xor .i64 x1 1) then (if (Go.bits .xor .i64 x1 1) < (x0.length : Int) then (if x5.length < 8796093022208 then ((impl_LevelUp.f k x6 x0).bind fun t673 => (impl_PathOf.l0 k t673 (wrap64 (Int.tdiv x1 2)) (x5 ++ [rdOf ByteArray.empty x0 (Go.bits .xor .i64 x1 1)]) (wrap64 (x6 + 1)))) else (none)) else (none)) else (none)) else (some x5)
end
def impl_PathOf.f (k : Nat) (l0 : List ByteArray) (a1 : Int) : Option (List ByteArray) := if (l0.length : Int) = 4 then ((impl_in.f a1 0 3).bind fun t668 => (impl_PathOf.j0 k l0 a1 (!t668))) else (impl_PathOf.j0 k l0 a1 true)
theorem impl_PathOf.mono_l : ∀ k, (∀ y0 y1 y2, LeO (impl_PathOf.j0 k y0 y1 y2) (impl_PathOf.j0 (k + 1) y0 y1 y2)) ∧ (∀ y0 y1 y2 y3, LeO (impl_PathOf.l0 k y0 y1 y2 y3) (impl_PathOf.l0 (k + 1) y0 y1 y2 y3))
 | 0 => ⟨fun _ _ _ r h => by simp [impl_PathOf.j0] at h, fun _ _ _ _ r h => by simp [impl_PathOf.l0] at h⟩
 | k + 1 => by
  obtain ⟨ih0, ih1⟩ := impl_PathOf.mono_l k
  refine ⟨?_, ?_⟩
  ·intro y0 y1 y2
   unfold impl_PathOf.j0
   repeat' first
   | (with_reducible exact ih0 _ _ _)
   | (with_reducible exact ih1 _ _ _ _)
   | (with_reducible exact impl_LevelUp.mono _ _ _)
   | (with_reducible exact LeO.refl _)
   | (with_reducible exact LeO.none _)
   | (with_reducible refine LeO.ite ?_ ?_)
   | (with_reducible refine LeO.bind ?_ (fun _ => ?_))
   | exact ih0 _ _ _
   | exact ih1 _ _ _ _
   | exact impl_LevelUp.mono _ _ _
   | exact LeO.none _
   | refine LeO.ite ?_ ?_
   | refine LeO.bind ?_ (fun _ => ?_)
  ·intro y0 y1 y2 y3
   unfold impl_PathOf.l0
   repeat' first
   | (with_reducible exact ih0 _ _ _)
   | (with_reducible exact ih1 _ _ _ _)
   | (with_reducible exact impl_LevelUp.mono _ _ _)
   | (with_reducible exact LeO.refl _)
   | (with_reducible exact LeO.none _)
   | (with_reducible refine LeO.ite ?_ ?_)
   | (with_reducible refine LeO.bind ?_ (fun _ => ?_))
   | exact ih0 _ _ _
   | exact ih1 _ _ _ _
   | exact impl_LevelUp.mono _ _ _
   | exact LeO.none _
   | refine LeO.ite ?_ ?_
   | refine LeO.bind ?_ (fun _ => ?_)
theorem impl_PathOf.mono : ∀ a0 a1 k, LeO (impl_PathOf.f k a0 a1) (impl_PathOf.f (k + 1) a0 a1) := by
 intro a0 a1 k
 obtain ⟨ih0, ih1⟩ := impl_PathOf.mono_l k
 unfold impl_PathOf.f
 repeat' first
   | (with_reducible exact ih0 _ _ _)
   | (with_reducible exact ih1 _ _ _ _)
   | (with_reducible exact impl_LevelUp.mono _ _ _)
   | (with_reducible exact LeO.refl _)
   | (with_reducible exact LeO.none _)
   | (with_reducible refine LeO.ite ?_ ?_)
   | (with_reducible refine LeO.bind ?_ (fun _ => ?_))
   | exact ih0 _ _ _
   | exact ih1 _ _ _ _
   | exact impl_LevelUp.mono _ _ _
   | exact LeO.none _
   | refine LeO.ite ?_ ?_
   | refine LeO.bind ?_ (fun _ => ?_)
theorem impl_PathOf.calls (k : Nat) (P0_ : Nat → Prop) (A0 : Option Addr) (c0 : Nat) (l0 : List ByteArray) (a1 : Int) (r : List ByteArray) (w : World) (hs0 : Kd.V Kd.string 9 w w.heap.size (fun k_ => P0_ k_) (.slice A0 l0.length c0) l0) (h : impl_PathOf.f k l0 a1 = some r) (hLD : Laid w) :
  Calls Tryd.prog 90 #[.slice A0 l0.length c0, .int .i64 a1] w fun e w' => ∃ v0_ : Value, e = .returned (v0_) ∧ Kd.R Kd.string 9 w' w.heap.size (fun k_ => (w.heap.size ≤ k_)) v0_ r ∧ Below w.heap.size w w' := by
 have HLD := Aside0.mk hLD
 clear hLD
 have HO0 := Aside0.mk (show Kd.V Kd.string 9 w w.heap.size (fun k_ => (P0_ k_ ∨ w.heap.size ≤ k_)) (.slice A0 l0.length c0) l0 from Kd.V_mono hs0 (fun k_ hk => .inl hk))
 have HB := Aside0.mk (Below.refl w.heap.size w)
 have H : (if (l0.length : Int) = 4 then ((impl_in.f a1 0 3).bind fun t668 => (impl_PathOf.j0 k l0 a1 (!t668))) else (impl_PathOf.j0 k l0 a1 true)) = some r := h
 clear h
 have HC3 := Aside0.mk H
 clear H
 go_enter Tryd.func90, Tryd.ntmps90
 go_upto_region 1 with (fail)
 go_cut [14] (fun v14 wc => ∃ (kq : Nat) (x14_2 : Bool), v14 = .bool x14_2 ∧ Aside0 (impl_PathOf.j0 kq l0 a1 x14_2 = some r) ∧ Aside0 (kq ≤ k) ∧ Aside0 (Kd.V Kd.string 9 wc w.heap.size (fun k_ => (P0_ k_ ∨ w.heap.size ≤ k_)) (.slice A0 l0.length c0) l0) ∧ Aside0 (Below w.heap.size w wc))
 case first =>
  have H := HC3.out
  clear HC3
  by_cases c4 : (l0.length : Int) = 4
  ·rw [if_pos c4] at H
   have c4b0 : ((l0.length : Int) == 4) = true := beq_iff_eq.mpr c4
   have c4b1 : ((l0.length : Int) != 4) = false := bne_eq_false_iff_eq.mpr c4
   clear c4
   (first | rw [c4b0] | (simp only [i64_w, i32_w]; rw [c4b0]) | skip)
   replace H := Option.bind_eq_some_iff.mp H
   obtain ⟨t668, A50, H⟩ := H
   try dsimp -simprocs only at H
   have A5 := Aside0.mk A50
   clear A50
   have H' := Aside0.mk H
   clear H
   go_wp2_with (first | (go_at_call 67; (with_reducible refine (impl_in.calls a1 0 3 t668 _ A5.out).mono ?_); rintro e w' ⟨rfl, ⟨nd, rfl⟩⟩))
   go_meet
   case rel => exact ⟨_, (!t668), (by first | rfl | (simp; done) | (simp [*]; done)), H', ⟨by first | omega | exact Nat.le_refl _⟩, ⟨rV_ HO0.out⟩, ⟨hB_⟩⟩
  rw [if_neg c4] at H
  have c4b0 : ((l0.length : Int) == 4) = false := beq_eq_false_iff_ne.mpr c4
  have c4b1 : ((l0.length : Int) != 4) = true := bne_iff_ne.mpr c4
  (first | rw [c4b0] | (simp only [i64_w, i32_w]; rw [c4b0]) | skip)
  have H' := Aside0.mk H
  clear H
  go_wp2
  go_meet
  case rel => exact ⟨_, (true), (by first | rfl | (simp; done) | (simp [*]; done)), H', ⟨by first | omega | exact Nat.le_refl _⟩, ⟨rV_ HO0.out⟩, ⟨hB_⟩⟩
 case rest =>
  clear HC3
  try clear p2
  try clear c4
  try clear c4b0
  try clear c4b1
  obtain ⟨kq, x14_2, rfl, HA, HJ2, HO_0, HB⟩ := hcut
  cases kq with
  | zero => exact absurd HA.out (by simp [impl_PathOf.j0])
  | succ kj2 =>
   have H := HA.out
   clear HA
   simp only [impl_PathOf.j0] at H
   by_cases c6 : x14_2 = true
   ·subst c6
    have H1 : (some ([] : List ByteArray)) = some r := by rw [if_pos rfl] at H; exact H
    clear H
    have H := H1
    clear H1
    obtain rfl := Option.some.inj H
    go_wp2
    go_ret
    exact ⟨_, by first | rfl | (simp [errW_none, errW_some] <;> rfl) | (simp [*, errW_none, errW_some] <;> rfl), by first | exact Kd.R_nil _ _ _ _ _ | exact Kd.N_nil _ _ _ _ _ | exact Kd.V_nil _ _ _ _ _ | exact Kd.Q_nil _ _ _ _ _ | exact Kd.S_nil _ _ _ _ _, hB_⟩
   ·replace c6 := Bool.eq_false_iff.mpr c6
    subst c6
    have H1 : (impl_PathOf.l0 kj2 l0 a1 ([] : List ByteArray) 1) = some r := by rw [if_neg (show ¬ (false = true) by decide)] at H; exact H
    clear H
    have H := H1
    clear H1
    have H' := Aside0.mk H
    clear H
    go_wp2
    go_loopg [0, 1, 5, 6] kj2 (fun kq v0 v1 v5 v6 w' => ∃ (x0_2 : List ByteArray) (x1_2 : Int) (x5_2 : List ByteArray) (x6_2 : Int), v1 = .int .i64 x1_2 ∧ v6 = .int .i64 x6_2 ∧ Aside0 (impl_PathOf.l0 kq x0_2 x1_2 x5_2 x6_2 = some r) ∧ Aside0 (kq ≤ kj2) ∧ Aside0 (Kd.V Kd.string 9 w' w.heap.size (fun k_ => (P0_ k_ ∨ w.heap.size ≤ k_) ∧ some k_ ≠ (v5 : Value).ownBlock) v0 x0_2) ∧ Aside0 (Kd.R Kd.string 9 w' w.heap.size (fun k_ => (w.heap.size ≤ k_)) v5 x5_2) ∧ Aside0 (Below w.heap.size w w'))
    case atStart => exact ⟨(l0), (a1), (([] : List ByteArray)), (1), (by first | rfl | (simp; done) | (simp [*]; done)), (by first | rfl | (simp; done) | (simp [*]; done)), H', ⟨Nat.le_refl _⟩, ⟨by refine kV_ ?_; exact Kd.V_mono HO_0.out (fun _ hk => ⟨hk, (by simp [Value.ownBlock])⟩)⟩, ⟨by first | exact Kd.R_nil _ _ _ _ _ | exact Kd.N_nil _ _ _ _ _ | exact Kd.V_nil _ _ _ _ _ | exact Kd.Q_nil _ _ _ _ _ | exact Kd.S_nil _ _ _ _ _⟩, ⟨hB_⟩⟩
    case round =>
     clear H'
     try clear p2
     try clear c4
     try clear c4b0
     try clear c4b1
     try clear c6
     try clear p2
     obtain ⟨x0_2, x1_2, x5_2, x6_2, rfl, rfl, HA, HK2, HO_0, HO_5, HB⟩ := hrel
     cases gk with
     | zero => exact absurd HA.out (by simp [impl_PathOf.l0])
     | succ k2 =>
      have H := HA.out
      clear HA
      simp only [impl_PathOf.l0] at H
      by_cases c7 : (x0_2.length : Int) > 1
      rotate_left
      ·rw [if_neg c7] at H
       have c7b0 := decide_eq_false c7
       have c7b1 : decide (1 < x0_2.length) = false := decide_eq_false (by omega)
       clear c7
       obtain rfl := Option.some.inj H
       obtain ⟨Ao15, co15, eo15⟩ := Kd.V_slice HO_0.out
       subst eo15
       go_wp2
       go_ret
       exact ⟨_, by first | rfl | (simp [errW_none, errW_some] <;> rfl) | (simp [*, errW_none, errW_some] <;> rfl), rR_ HO_5.out, hB_⟩
      rw [if_pos c7] at H
      have c7b0 := decide_eq_true c7
      have c7b1 : decide (1 < x0_2.length) = true := decide_eq_true (by omega)
      clear c7
      obtain ⟨c8, H⟩ := iN_ H
      have c8b0 := decide_eq_true c8
      clear c8
      obtain ⟨c9, H⟩ := iN_ H
      have c9b0 := decide_eq_true c9
      clear c9
      obtain ⟨c10, H⟩ := iN_ H
      have LMc10 := Aside0.mk c10
      clear c10
      obtain ⟨y670, hy670⟩ : ∃ y_ : List ByteArray, y_ = (x5_2 ++ [rdOf ByteArray.empty x0_2 (Go.bits .xor .i64 x1_2 1)]) := ⟨_, rfl⟩
      replace H : ((impl_LevelUp.f k2 x6_2 x0_2).bind fun t673 => (impl_PathOf.l0 k2 t673 (wrap64 (Int.tdiv x1_2 2)) y670 (wrap64 (x6_2 + 1)))) = some r := by first | (rw [hy670]; with_reducible exact H) | (have H2_ := (Option.bind_some _ _).symm.trans H; rw [hy670]; with_reducible exact H2_) | (have H2_ := (Option.bind_some _ _).symm.trans H; with_reducible exact H2_) | with_reducible exact H | (rw [hy670]; exact H) | exact H
      have Ny670 := Aside0.mk hy670
      clear hy670
      replace H := Option.bind_eq_some_iff.mp H
      obtain ⟨t673, A110, H⟩ := H
      try dsimp -simprocs only at H
      have A11 := Aside0.mk A110
      clear A110
      have H' := Aside0.mk H
      clear H
      obtain ⟨Ao12, co12, eo12⟩ := Kd.V_slice HO_0.out
      subst eo12
      have p669 : 0 ≤ ((Go.bits .xor .i64 x1_2 1) : Int) := of_decide_eq_true (by first | (with_reducible assumption) | assumption)
      have q669 : (Go.bits .xor .i64 x1_2 1) < (x0_2.length : Int) := of_decide_eq_true (by first | (with_reducible assumption) | assumption)
      obtain ⟨ad669, e669, hx669_0⟩ := Kd.at_string (Kd.V_reads' HO_0.out).2.2 (Go.bits .xor .i64 x1_2 1) p669 q669
      cases e669
      replace p669 := eq_true p669
      replace q669 := eq_true q669
      go_wp2_with (first | ((with_reducible refine gate_builtin (b := .append) (xs := #[.tmp 20, .tmp 26]) rfl ?_); at_builtin; refine Kd.R_append Kd.string (w0 := w) w.heap.size rfl (.tmp 20) (.tmp 26) 25 9 (.string ⟨#[]⟩) 16 rfl Tryd.underlying25 info9 rfl (by decide) (by omega) u5 x5_2 (rdOf ByteArray.empty x0_2 (Go.bits .xor .i64 x1_2 1)) [.string (rdOf ByteArray.empty x0_2 (Go.bits .xor .i64 x1_2 1))] (fun k_ => (w.heap.size ≤ k_)) (fun _ => False) rfl rfl ?aP (fun _ hk => hk.elim) ?aF ?aO ?aB ?aS ?aL ?_; (case aP => exact rfl); (case aB => exact (hB_)); (case aF => exact (fun k_ hk => (Nat.le_trans (below_size (hB_)) hk))); (case aO => exact (rR_ HO_5.out)); (case aS => exact (below_size (hB_))); (case aL => have := LMc10.out; omega); intro v671 w13 ho hb hg hat; rw [← Ny670.out] at ho; have n0_ := Aside0.mk (Kd.V_afterv (ok := (fun k_ => (P0_ k_ ∨ w.heap.size ≤ k_))) (rV_ HO_0.out) hg hat); have n1_ := Aside0.mk (hb); have n2_ := Aside0.mk (ho); clear HO_5; replace HO_0 := n0_; replace HB := n1_; have HO672 := n2_; clear n0_ n1_ n2_; clear ho hb hg hat) | ((with_reducible refine gate_callee (f := 117) rfl ?_); refine goesL_ (some 30) rfl rfl Tryd.func117 (by kernel_rfl) rfl #[.int .i64 x6_2, .slice (some ad669) x0_2.length co12] rfl aM_ ?_; (with_reducible refine (impl_LevelUp.calls k2 x6_2 _ _ x0_2 t673 _ ?side1 ?side2 A11.out (HLD.out.below HLD.out.pos (hB_))).mono ?_); (case side1 => exact cR_ (Kd.V_reads' HO_0.out).2.2); (case side2 => exact (Kd.V_reads' HO_0.out).2.1); rintro e w14 ⟨v674, rfl, ho0, hb⟩; refine ⟨_, rfl, ?_⟩; have n0_ := Aside0.mk (Kd.V_elder' (rV_ HO_0.out) (Kd.R_base ho0) hb); have n1_ := Aside0.mk (Kd.R_elder' (rR_ HO672.out) (Kd.R_base ho0) hb); have n2_ := Aside0.mk (Kd.R_lower (Kd.R_new' (Kd.R_newM (M := fun k_ => (w.heap.size ≤ k_)) ho0 (below_size (hB_)) (fun k_ h_ => h_)) (Kd.R_lt (rR_ HO672.out))) (below_size (hB_))); have n3_ := Aside0.mk (below_step (hB_) hb); replace HO_0 := n0_; replace HO672 := n1_; have HO675 := n2_; replace HB := n3_; clear n0_ n1_ n2_ n3_; (try clear hb); (try clear ho0)))
      go_roundg k2
      case measure => have := HJ2.out; have := HK2.out; omega
      case rel => exact ⟨(t673), (wrap64 (Int.tdiv x1_2 2)), (y670), (wrap64 (x6_2 + 1)), (by first | rfl | (simp; done) | (simp [*]; done)), (by first | rfl | (simp; done) | (simp [*]; done)), H', ⟨by have := HJ2.out; have := HK2.out; omega⟩, ⟨by first | exact Kd.V_mono (Kd.R_V HO675.out) (fun k_ hk => ⟨.inr hk.1.1, hk.2⟩) | exact Kd.V_mono (Kd.R_V (Kd.R_drewN HO675.out _)) (fun k_ hk => ⟨.inr hk.1.1, hk.2⟩) | exact Kd.V_mono (Kd.R_V (Kd.R_drew HO675.out)) (fun k_ hk => ⟨.inr hk.1.1, hk.2⟩)⟩, ⟨by refine kR_ ?_; exact Kd.R_mono HO672.out (fun _ hk => hk.1)⟩, ⟨hB_⟩⟩

/-! ### impl_leavesOf: function 91 -/
def impl_leavesOf.l0 : Nat → ByteArray → List ByteArray → Int → Option (List ByteArray)
 | 0, _, _, _ => none
 | k + 1, x0, x3, x5 => if x5 < 4 then ((impl_OnceKey.f k x0 x5).bind fun t676 => ((impl_OncePublic.f k t676 x5).bind fun t679 => (if x3.length < 8796093022208 then (impl_leavesOf.l0 k x0 (x3 ++ [t679]) (wrap64 (x5 + 1))) else (none)))) else (some x3)
def impl_leavesOf.f (k : Nat) (a0 : ByteArray) : Option (List ByteArray) := impl_leavesOf.l0 k a0 ([] : List ByteArray) 0
theorem impl_leavesOf.mono_l : ∀ k, (∀ y0 y1 y2, LeO (impl_leavesOf.l0 k y0 y1 y2) (impl_leavesOf.l0 (k + 1) y0 y1 y2))
 | 0 => fun _ _ _ r h => by simp [impl_leavesOf.l0] at h
 | k + 1 => by
  have ih0 := impl_leavesOf.mono_l k
  ·intro y0 y1 y2
   unfold impl_leavesOf.l0
   repeat' first
   | (with_reducible exact ih0 _ _ _)
   | (with_reducible exact impl_OnceKey.mono _ _ _)
   | (with_reducible exact impl_OncePublic.mono _ _ _)
   | (with_reducible exact LeO.refl _)
   | (with_reducible exact LeO.none _)
   | (with_reducible refine LeO.ite ?_ ?_)
   | (with_reducible refine LeO.bind ?_ (fun _ => ?_))
   | exact ih0 _ _ _
   | exact impl_OnceKey.mono _ _ _
   | exact impl_OncePublic.mono _ _ _
   | exact LeO.none _
   | refine LeO.ite ?_ ?_
   | refine LeO.bind ?_ (fun _ => ?_)
theorem impl_leavesOf.mono : ∀ a0 k, LeO (impl_leavesOf.f k a0) (impl_leavesOf.f (k + 1) a0) := by
 intro a0 k
 have ih0 := impl_leavesOf.mono_l k
 unfold impl_leavesOf.f
 repeat' first
   | (with_reducible exact ih0 _ _ _)
   | (with_reducible exact impl_OnceKey.mono _ _ _)
   | (with_reducible exact impl_OncePublic.mono _ _ _)
   | (with_reducible exact LeO.refl _)
   | (with_reducible exact LeO.none _)
   | (with_reducible refine LeO.ite ?_ ?_)
   | (with_reducible refine LeO.bind ?_ (fun _ => ?_))
   | exact ih0 _ _ _
   | exact impl_OnceKey.mono _ _ _
   | exact impl_OncePublic.mono _ _ _
   | exact LeO.none _
   | refine LeO.ite ?_ ?_
   | refine LeO.bind ?_ (fun _ => ?_)
theorem impl_leavesOf.calls (k : Nat) (a0 : ByteArray) (r : List ByteArray) (w : World) (h : impl_leavesOf.f k a0 = some r) (hLD : Laid w) :
  Calls Tryd.prog 91 #[.string a0] w fun e w' => ∃ v0_ : Value, e = .returned (v0_) ∧ Kd.R Kd.string 9 w' w.heap.size (fun _ => True) v0_ r ∧ Below w.heap.size w w' := by
 have HLD := Aside0.mk hLD
 clear hLD
 have HB := Aside0.mk (Below.refl w.heap.size w)
 have H : (impl_leavesOf.l0 k a0 ([] : List ByteArray) 0) = some r := h
 clear h
 have H' := Aside0.mk H
 clear H
 go_enter Tryd.func91, Tryd.ntmps91
 go_wp2
 go_loopg [3, 5] k (fun kq v3 v5 w' => ∃ (x3_1 : List ByteArray) (x5_1 : Int), v5 = .int .i64 x5_1 ∧ Aside0 (impl_leavesOf.l0 kq a0 x3_1 x5_1 = some r) ∧ Aside0 (kq ≤ k) ∧ Aside0 (Kd.R Kd.string 9 w' w.heap.size (fun _ => True) v3 x3_1) ∧ Aside0 (Below w.heap.size w w'))
 case atStart => exact ⟨(([] : List ByteArray)), (0), (by first | rfl | (simp; done) | (simp [*]; done)), H', ⟨Nat.le_refl _⟩, ⟨by first | exact Kd.R_nil _ _ _ _ _ | exact Kd.N_nil _ _ _ _ _ | exact Kd.V_nil _ _ _ _ _ | exact Kd.Q_nil _ _ _ _ _ | exact Kd.S_nil _ _ _ _ _⟩, ⟨hB_⟩⟩
 case round =>
  clear H'
  obtain ⟨x3_1, x5_1, rfl, HA, HK1, HO_3, HB⟩ := hrel
  cases gk with
  | zero => exact absurd HA.out (by simp [impl_leavesOf.l0])
  | succ k1 =>
   have H := HA.out
   clear HA
   simp only [impl_leavesOf.l0] at H
   by_cases c2 : x5_1 < 4
   ·rw [if_pos c2] at H
    have c2b0 := decide_eq_true c2
    clear c2
    replace H := Option.bind_eq_some_iff.mp H
    obtain ⟨t676, A30, H⟩ := H
    try dsimp -simprocs only at H
    have A3 := Aside0.mk A30
    clear A30
    replace H := Option.bind_eq_some_iff.mp H
    obtain ⟨t679, A40, H⟩ := H
    try dsimp -simprocs only at H
    have A4 := Aside0.mk A40
    clear A40
    obtain ⟨c5, H⟩ := iN_ H
    have LMc5 := Aside0.mk c5
    clear c5
    obtain ⟨y680, hy680⟩ : ∃ y_ : List ByteArray, y_ = (x3_1 ++ [t679]) := ⟨_, rfl⟩
    replace H : (impl_leavesOf.l0 k1 a0 y680 (wrap64 (x5_1 + 1))) = some r := by first | (rw [hy680]; with_reducible exact H) | (have H2_ := (Option.bind_some _ _).symm.trans H; rw [hy680]; with_reducible exact H2_) | (have H2_ := (Option.bind_some _ _).symm.trans H; with_reducible exact H2_) | with_reducible exact H | (rw [hy680]; exact H) | exact H
    have Ny680 := Aside0.mk hy680
    clear hy680
    have H' := Aside0.mk H
    clear H
    go_wp2_with (first | ((with_reducible refine gate_callee (f := 24) rfl ?_); refine goesL_ (some 11) rfl rfl Tryd.func24 (by kernel_rfl) rfl #[.string a0, .int .i64 x5_1] rfl aM_ ?_; (with_reducible refine (impl_OnceKey.calls k1 a0 x5_1 t676 _ A3.out (HLD.out.below HLD.out.pos (hB_))).mono ?_); rintro e w6 ⟨v677, rfl, ho0, hb⟩; refine ⟨_, rfl, ?_⟩; have n0_ := Aside0.mk (Kd.R_elder' (rR_ HO_3.out) (Kd.R_base ho0) hb); have n1_ := Aside0.mk (Kd.R_lower (Kd.R_new' ho0 (Kd.R_lt (rR_ HO_3.out))) (below_size (hB_))); have n2_ := Aside0.mk (below_step (hB_) hb); replace HO_3 := n0_; have HO678 := n1_; replace HB := n2_; clear n0_ n1_ n2_; (try clear hb); (try clear ho0); obtain ⟨Ao7, co7, eo7⟩ := Kd.R_slice HO678.out; subst eo7) | ((with_reducible refine gate_callee (f := 23) rfl ?_); refine goesL_ (some 13) rfl rfl Tryd.func23 (by kernel_rfl) rfl #[.slice Ao7 t676.length co7, .int .i64 x5_1] rfl aM_ ?_; (with_reducible refine (impl_OncePublic.calls k1 _ _ t676 x5_1 t679 _ ?side1 ?side2 A4.out (HLD.out.below HLD.out.pos (hB_))).mono ?_); (case side1 => exact cR_ (Kd.R_reads' HO678.out).2.2); (case side2 => exact (Kd.R_reads' HO678.out).2.1); rintro e w8 ⟨rfl, hb⟩; refine ⟨_, rfl, ?_⟩; have n0_ := Aside0.mk (Kd.R_below (rR_ HO_3.out) hb); have n1_ := Aside0.mk (Kd.R_below (rR_ HO678.out) hb); have n2_ := Aside0.mk (below_step (hB_) hb); replace HO_3 := n0_; replace HO678 := n1_; replace HB := n2_; clear n0_ n1_ n2_; (try clear hb)) | ((with_reducible refine gate_builtin (b := .append) (xs := #[.tmp 8, .tmp 14]) rfl ?_); at_builtin; refine Kd.R_append Kd.string (w0 := w) w.heap.size rfl (.tmp 8) (.tmp 14) 25 9 (.string ⟨#[]⟩) 16 rfl Tryd.underlying25 info9 rfl (by decide) (by omega) u3 x3_1 t679 [.string t679] (fun k_ => some k_ ≠ (.slice Ao7 t676.length co7 : Value).ownBlock) (fun _ => False) rfl rfl ?aP (fun _ hk => hk.elim) ?aF ?aO ?aB ?aS ?aL ?_; (case aP => exact rfl); (case aB => exact (hB_)); (case aF => exact (fun k_ hk => Kd.fresh' (Kd.R_lt (rR_ HO678.out)) k_ hk)); (case aO => exact (by refine kR_ ?_; exact Kd.R_mono HO_3.out (fun _ hk => hk.2))); (case aS => exact (below_size (hB_))); (case aL => have := LMc5.out; omega); intro v681 w9 ho hb hg hat; rw [← Ny680.out] at ho; have n0_ := Aside0.mk (Kd.R_after (ok := (fun _ => True)) (rR_ HO678.out) hg hat); have n1_ := Aside0.mk (hb); have n2_ := Aside0.mk (ho); clear HO_3; replace HO678 := n0_; replace HB := n1_; have HO682 := n2_; clear n0_ n1_ n2_; clear ho hb hg hat))
    go_roundg k1
    case measure => have := HK1.out; omega
    case rel => exact ⟨(y680), (wrap64 (x5_1 + 1)), (by first | rfl | (simp; done) | (simp [*]; done)), H', ⟨by have := HK1.out; omega⟩, ⟨by refine kR_ ?_; exact Kd.R_mono HO682.out (fun _ hk => trivial)⟩, ⟨hB_⟩⟩
   rw [if_neg c2] at H
   have c2b0 := decide_eq_false c2
   clear c2
   obtain rfl := Option.some.inj H
   go_wp2
   go_ret
   exact ⟨_, by first | rfl | (simp [errW_none, errW_some] <;> rfl) | (simp [*, errW_none, errW_some] <;> rfl), rR_ HO_3.out, hB_⟩

/-! ### impl_SignAt: function 39 -/
def impl_SignAt.f (k : Nat) (a0 : ByteArray) (a1 : Int) (a2 : ByteArray) : Option (Int × List ByteArray × List ByteArray × Bool) := (impl_in.f a1 0 3).bind fun t684 => (if t684 = true then ((impl_OnceKey.f k a0 a1).bind fun t685 => ((impl_OnceSign.f k t685 a1 a2).bind fun t688 => ((impl_leavesOf.f k a0).bind fun t691 => ((impl_PathOf.f k t691 a1).bind fun t694 => (some (a1, t688, t694, true)))))) else (some (0, ([] : List ByteArray), ([] : List ByteArray), false)))
theorem impl_SignAt.mono : ∀ a0 a1 a2 k, LeO (impl_SignAt.f k a0 a1 a2) (impl_SignAt.f (k + 1) a0 a1 a2) := by
 intro a0 a1 a2 k
 unfold impl_SignAt.f
 repeat' first
   | (with_reducible exact impl_OnceKey.mono _ _ _)
   | (with_reducible exact impl_OnceSign.mono _ _ _ _)
   | (with_reducible exact impl_PathOf.mono _ _ _)
   | (with_reducible exact impl_leavesOf.mono _ _)
   | (with_reducible exact LeO.refl _)
   | (with_reducible exact LeO.none _)
   | (with_reducible refine LeO.ite ?_ ?_)
   | (with_reducible refine LeO.bind ?_ (fun _ => ?_))
   | exact impl_OnceKey.mono _ _ _
   | exact impl_OnceSign.mono _ _ _ _
   | exact impl_PathOf.mono _ _ _
   | exact impl_leavesOf.mono _ _
   | exact LeO.none _
   | refine LeO.ite ?_ ?_
   | refine LeO.bind ?_ (fun _ => ?_)
theorem impl_SignAt.calls (k : Nat) (a0 : ByteArray) (a1 : Int) (a2 : ByteArray) (r1 : Int) (r2 : List ByteArray) (r3 : List ByteArray) (r4 : Bool) (w : World) (h : impl_SignAt.f k a0 a1 a2 = some (r1, r2, r3, r4)) (hLD : Laid w) :
  Calls Tryd.prog 39 #[.string a0, .int .i64 a1, .string a2] w fun e w' => ∃ v1_ v2_ : Value, e = .returned (.tuple #[.agg #[.int .i64 r1, v1_, v2_], .bool r4]) ∧ Kd.R Kd.string 9 w' w.heap.size (fun k_ => some k_ ≠ (v2_ : Value).ownBlock) v1_ r2 ∧ Kd.R Kd.string 9 w' w.heap.size (fun k_ => some k_ ≠ (v1_ : Value).ownBlock) v2_ r3 ∧ Below w.heap.size w w' := by
 have HLD := Aside0.mk hLD
 clear hLD
 have hu42 := Tryd.underlying42
 have HB := Aside0.mk (Below.refl w.heap.size w)
 have H : ((impl_in.f a1 0 3).bind fun t684 => (if t684 = true then ((impl_OnceKey.f k a0 a1).bind fun t685 => ((impl_OnceSign.f k t685 a1 a2).bind fun t688 => ((impl_leavesOf.f k a0).bind fun t691 => ((impl_PathOf.f k t691 a1).bind fun t694 => (some (a1, t688, t694, true)))))) else (some (0, ([] : List ByteArray), ([] : List ByteArray), false)))) = some (r1, r2, r3, r4) := h
 clear h
 replace H := Option.bind_eq_some_iff.mp H
 obtain ⟨t684, A40, H⟩ := H
 try dsimp -simprocs only at H
 have A4 := Aside0.mk A40
 clear A40
 by_cases c5 : t684 = true
 ·subst c5
  have H1 : ((impl_OnceKey.f k a0 a1).bind fun t685 => ((impl_OnceSign.f k t685 a1 a2).bind fun t688 => ((impl_leavesOf.f k a0).bind fun t691 => ((impl_PathOf.f k t691 a1).bind fun t694 => (some (a1, t688, t694, true)))))) = some (r1, r2, r3, r4) := by rw [if_pos rfl] at H; exact H
  clear H
  have H := H1
  clear H1
  replace H := Option.bind_eq_some_iff.mp H
  obtain ⟨t685, A60, H⟩ := H
  try dsimp -simprocs only at H
  have A6 := Aside0.mk A60
  clear A60
  replace H := Option.bind_eq_some_iff.mp H
  obtain ⟨t688, A70, H⟩ := H
  try dsimp -simprocs only at H
  have A7 := Aside0.mk A70
  clear A70
  replace H := Option.bind_eq_some_iff.mp H
  obtain ⟨t691, A80, H⟩ := H
  try dsimp -simprocs only at H
  have A8 := Aside0.mk A80
  clear A80
  replace H := Option.bind_eq_some_iff.mp H
  obtain ⟨t694, A90, H⟩ := H
  try dsimp -simprocs only at H
  have A9 := Aside0.mk A90
  clear A90
  simp only [Option.some.injEq, Prod.mk.injEq] at H
  obtain ⟨rfl, rfl, rfl, rfl⟩ := H
  go_enter Tryd.func39, Tryd.ntmps39
  go_wp2_with (first | ((with_reducible refine gate_dst (N := 6) rfl ?_); refine box_event ?hg (N := 6) ?hd (cs := #[.int .i64 0, .slice none 0 0, .slice none 0 0]) (t := 42) ?hr ?_; (case hd => rfl); (case hg => rfl); (case hr => first | (go_simp; done) | (go_simp; rfl)); intro gb683 hg w10 hbox hb; have n0_ := Aside0.mk (below_step (hB_) hb); have n1_ := Aside0.mk (hbox); have n2_ := Aside0.mk ((by rw [hg]; exact (below_size (hB_)) : w.heap.size ≤ gb683)); have n3_ := Aside0.mk ((by rw [hg]; exact (below_size (hB_)) : w.heap.size ≤ gb683)); replace HB := n0_; have BK683 := n1_; have GW683 := n2_; have GE683 := n3_; clear n0_ n1_ n2_ n3_; clear hb hbox hg) | ((with_reducible refine gate_callee (f := 67) rfl ?_); refine goesL_ (some 9) rfl rfl Tryd.func67 (by kernel_rfl) rfl #[.int .i64 a1, .int .i64 0, .int .i64 3] rfl aM_ ?_; (with_reducible refine (impl_in.calls a1 0 3 true _ A4.out).mono ?_); rintro e w' ⟨rfl, ⟨nd, rfl⟩⟩; refine ⟨_, rfl, ?_⟩; (try (rw [drewN_self w10]; generalize hq_ : World.drewN w10 _ = w10; have n0_ : Aside0 (w10.heap[gb683]? = some (.cells #[.int .i64 0, .slice none 0 0, .slice none 0 0] 42 (0, 0))) := ⟨by rw [← hq_]; exact (rK_ BK683.out)⟩; have n1_ : Aside0 (Below w.heap.size w w10) := ⟨by rw [← hq_]; exact (hS_ GE683.out)⟩; clear BK683 HB hq_; have BK683 := n0_; have HB := n1_; clear n0_ n1_))) | ((with_reducible refine gate_callee (f := 24) rfl ?_); refine goesL_ (some 15) rfl rfl Tryd.func24 (by kernel_rfl) rfl #[.string a0, .int .i64 a1] rfl aM_ ?_; (with_reducible refine (impl_OnceKey.calls k a0 a1 t685 _ A6.out (HLD.out.below HLD.out.pos (hS_ GE683.out))).mono ?_); rintro e w11 ⟨v686, rfl, ho0, hb⟩; refine ⟨_, rfl, ?_⟩; have n0_ := Aside0.mk (Kd.R_lower ho0 (below_size (hS_ GE683.out))); have n1_ := Aside0.mk (blk_below (g := gb683) (o := .cells #[.int .i64 0, .slice none 0 0, .slice none 0 0] 42 (0, 0)) (rK_ BK683.out) hb); have n2_ := Aside0.mk (below_step (hS_ GE683.out) hb); have HO687 := n0_; replace BK683 := n1_; replace HB := n2_; clear n0_ n1_ n2_; (try clear hb); (try clear ho0); obtain ⟨Ao12, co12, eo12⟩ := Kd.R_slice HO687.out; subst eo12) | ((with_reducible refine gate_callee (f := 22) rfl ?_); refine goesL_ (some 18) rfl rfl Tryd.func22 (by kernel_rfl) rfl #[.slice Ao12 t685.length co12, .int .i64 a1, .string a2] rfl aM_ ?_; (with_reducible refine (impl_OnceSign.calls k _ _ t685 a1 a2 t688 _ ?side1 ?side2 A7.out (HLD.out.below HLD.out.pos (hS_ GE683.out))).mono ?_); (case side1 => exact cR_ (Kd.R_reads' HO687.out).2.2); (case side2 => exact (Kd.R_reads' HO687.out).2.1); rintro e w13 ⟨v689, rfl, ho0, hb⟩; refine ⟨_, rfl, ?_⟩; have n0_ := Aside0.mk (Kd.R_elder' (rR_ HO687.out) (Kd.R_base ho0) hb); have n1_ := Aside0.mk (Kd.R_lower (Kd.R_new' ho0 (Kd.R_lt (rR_ HO687.out))) (below_size (hS_ GE683.out))); have n2_ := Aside0.mk (blk_below (g := gb683) (o := .cells #[.int .i64 0, .slice none 0 0, .slice none 0 0] 42 (0, 0)) (rK_ BK683.out) hb); have n3_ := Aside0.mk (below_step (hS_ GE683.out) hb); replace HO687 := n0_; have HO690 := n1_; replace BK683 := n2_; replace HB := n3_; clear n0_ n1_ n2_ n3_; (try clear hb); (try clear ho0)) | ((with_reducible refine gate_callee (f := 91) rfl ?_); refine goesL_ (some 20) rfl rfl Tryd.func91 (by kernel_rfl) rfl #[.string a0] rfl aM_ ?_; (with_reducible refine (impl_leavesOf.calls k a0 t691 _ A8.out (HLD.out.below HLD.out.pos (hS_ GE683.out))).mono ?_); rintro e w14 ⟨v692, rfl, ho0, hb⟩; refine ⟨_, rfl, ?_⟩; have n0_ := Aside0.mk (Kd.R_elder' (rR_ HO687.out) (Kd.R_base ho0) hb); have n1_ := Aside0.mk (Kd.R_elder' (rR_ HO690.out) (Kd.R_base ho0) hb); have n2_ := Aside0.mk (Kd.R_lower (Kd.R_new' (Kd.R_new' ho0 (Kd.R_lt (rR_ HO687.out))) (Kd.R_lt (rR_ HO690.out))) (below_size (hS_ GE683.out))); have n3_ := Aside0.mk (blk_below (g := gb683) (o := .cells #[.int .i64 0, .slice none 0 0, .slice none 0 0] 42 (0, 0)) (rK_ BK683.out) hb); have n4_ := Aside0.mk (below_step (hS_ GE683.out) hb); replace HO687 := n0_; replace HO690 := n1_; have HO693 := n2_; replace BK683 := n3_; replace HB := n4_; clear n0_ n1_ n2_ n3_ n4_; (try clear hb); (try clear ho0); obtain ⟨Ao15, co15, eo15⟩ := Kd.R_slice HO693.out; subst eo15) | ((with_reducible refine gate_callee (f := 90) rfl ?_); refine goesL_ (some 22) rfl rfl Tryd.func90 (by kernel_rfl) rfl #[.slice Ao15 t691.length co15, .int .i64 a1] rfl aM_ ?_; (with_reducible refine (impl_PathOf.calls k (fun k_ => some k_ = (.slice Ao15 t691.length co15 : Value).ownBlock) _ _ t691 a1 t694 _ ?side1 A9.out (HLD.out.below HLD.out.pos (hS_ GE683.out))).mono ?_); (case side1 => exact Kd.R_V (Kd.R_tight rfl (Kd.R_types (HO693.out) BK683.out (by decide)))); rintro e w16 ⟨v695, rfl, ho0, hb⟩; refine ⟨_, rfl, ?_⟩; have n0_ := Aside0.mk (Kd.R_elder' (rR_ HO687.out) (Kd.R_base ho0) hb); have n1_ := Aside0.mk (Kd.R_elder' (rR_ HO690.out) (Kd.R_base ho0) hb); have n2_ := Aside0.mk (Kd.R_elder' (rR_ HO693.out) (Kd.R_base ho0) hb); have n3_ := Aside0.mk (Kd.R_lower (Kd.R_new' (Kd.R_new' (Kd.R_new' (Kd.R_mono (ok' := fun k_ => True) ho0 (fun _ hk_ => trivial)) (Kd.R_lt (rR_ HO687.out))) (Kd.R_lt (rR_ HO690.out))) (Kd.R_lt (rR_ HO693.out))) (below_size (hS_ GE683.out))); have n4_ := Aside0.mk (blk_below (g := gb683) (o := .cells #[.int .i64 0, .slice none 0 0, .slice none 0 0] 42 (0, 0)) (rK_ BK683.out) hb); have n5_ := Aside0.mk (below_step (hS_ GE683.out) hb); replace HO687 := n0_; replace HO690 := n1_; replace HO693 := n2_; have HO696 := n3_; replace BK683 := n4_; replace HB := n5_; clear n0_ n1_ n2_ n3_ n4_ n5_; (try clear hb); (try clear ho0); obtain ⟨Ao17, co17, eo17⟩ := Kd.R_slice HO696.out; subst eo17; obtain ⟨Ao18, co18, eo18⟩ := Kd.R_slice HO690.out; subst eo18; have hcz19_0 : w16.cell? ⟨gb683, 0, none⟩ = some (.int .i64 0) := (blk_cell BK683.out 0).trans rfl; have hcz19_1 : w16.cell? ⟨gb683, 1, none⟩ = some (.slice none 0 0) := (blk_cell BK683.out 1).trans rfl; have hcz19_2 : w16.cell? ⟨gb683, 2, none⟩ = some (.slice none 0 0) := (blk_cell BK683.out 2).trans rfl; have hfz19_0 := blk_frozen BK683.out 0; have hfz19_1 := blk_frozen BK683.out 1; have hfz19_2 := blk_frozen BK683.out 2))
  refine bodyPost_ret (results_ct rfl _ _ gb683 42 #[.int .i64 a1, .slice Ao18 t688.length co18, .slice Ao17 t694.length co17] (0, 0) _ rfl (by refine kK_ ?_; refine blk_put (cs := #[.int .i64 a1, .slice Ao18 t688.length co18, .slice none 0 0]) ?_ 2 _ rfl; refine kK_ ?_; refine blk_put (cs := #[.int .i64 a1, .slice none 0 0, .slice none 0 0]) ?_ 1 _ rfl; refine kK_ ?_; refine blk_put (cs := #[.int .i64 0, .slice none 0 0, .slice none 0 0]) ?_ 0 _ rfl; exact rK_ BK683.out) Tryd.underlying42 rfl (by kernel_rfl)) rfl ?_
  exact ⟨_, _, by first | rfl | (simp [errW_none, errW_some] <;> rfl) | (simp [*, errW_none, errW_some] <;> rfl), by refine kR_ ?_; exact Kd.R_mono (Kd.R_far (Kd.R_far (Kd.R_far (Kd.R_types HO690.out BK683.out (by decide)) (fun _ hk => hk.2) _) (fun _ hk => hk.2) _) (fun _ hk => hk.2) _) (fun _ hk => hk.1.2), by refine kR_ ?_; exact Kd.R_mono (Kd.R_far (Kd.R_far (Kd.R_far (Kd.R_types HO696.out BK683.out (by decide)) (fun _ hk => hk.2) _) (fun _ hk => hk.2) _) (fun _ hk => hk.2) _) (fun _ hk => hk.1.1.2), hS_ GE683.out⟩
 ·replace c5 := Bool.eq_false_iff.mpr c5
  subst c5
  have H1 : (some (0, ([] : List ByteArray), ([] : List ByteArray), false)) = some (r1, r2, r3, r4) := by rw [if_neg (show ¬ (false = true) by decide)] at H; exact H
  clear H
  have H := H1
  clear H1
  simp only [Option.some.injEq, Prod.mk.injEq] at H
  obtain ⟨rfl, rfl, rfl, rfl⟩ := H
  go_enter Tryd.func39, Tryd.ntmps39
  go_wp2_with (first | ((with_reducible refine gate_dst (N := 6) rfl ?_); refine box_event ?hg (N := 6) ?hd (cs := #[.int .i64 0, .slice none 0 0, .slice none 0 0]) (t := 42) ?hr ?_; (case hd => rfl); (case hg => rfl); (case hr => first | (go_simp; done) | (go_simp; rfl)); intro gb683 hg w20 hbox hb; have n0_ := Aside0.mk (below_step (hB_) hb); have n1_ := Aside0.mk (hbox); have n2_ := Aside0.mk ((by rw [hg]; exact (below_size (hB_)) : w.heap.size ≤ gb683)); have n3_ := Aside0.mk ((by rw [hg]; exact (below_size (hB_)) : w.heap.size ≤ gb683)); replace HB := n0_; have BK683 := n1_; have GW683 := n2_; have GE683 := n3_; clear n0_ n1_ n2_ n3_; clear hb hbox hg) | ((with_reducible refine gate_callee (f := 67) rfl ?_); refine goesL_ (some 9) rfl rfl Tryd.func67 (by kernel_rfl) rfl #[.int .i64 a1, .int .i64 0, .int .i64 3] rfl aM_ ?_; (with_reducible refine (impl_in.calls a1 0 3 false _ A4.out).mono ?_); rintro e w' ⟨rfl, ⟨nd, rfl⟩⟩; refine ⟨_, rfl, ?_⟩; (try (rw [drewN_self w20]; generalize hq_ : World.drewN w20 _ = w20; have n0_ : Aside0 (w20.heap[gb683]? = some (.cells #[.int .i64 0, .slice none 0 0, .slice none 0 0] 42 (0, 0))) := ⟨by rw [← hq_]; exact (rK_ BK683.out)⟩; have n1_ : Aside0 (Below w.heap.size w w20) := ⟨by rw [← hq_]; exact (hS_ GE683.out)⟩; clear BK683 HB hq_; have BK683 := n0_; have HB := n1_; clear n0_ n1_)); have hcz21_0 : w20.cell? ⟨gb683, 0, none⟩ = some (.int .i64 0) := (blk_cell BK683.out 0).trans rfl; have hcz21_1 : w20.cell? ⟨gb683, 1, none⟩ = some (.slice none 0 0) := (blk_cell BK683.out 1).trans rfl; have hcz21_2 : w20.cell? ⟨gb683, 2, none⟩ = some (.slice none 0 0) := (blk_cell BK683.out 2).trans rfl; have hfz21_0 := blk_frozen BK683.out 0; have hfz21_1 := blk_frozen BK683.out 1; have hfz21_2 := blk_frozen BK683.out 2))
  refine bodyPost_ret (results_ct rfl _ _ gb683 42 #[.int .i64 0, .slice none 0 0, .slice none 0 0] (0, 0) _ rfl (by refine kK_ ?_; refine blk_put (cs := #[.int .i64 0, .slice none 0 0, .slice none 0 0]) ?_ 2 _ rfl; refine kK_ ?_; refine blk_put (cs := #[.int .i64 0, .slice none 0 0, .slice none 0 0]) ?_ 1 _ rfl; refine kK_ ?_; refine blk_put (cs := #[.int .i64 0, .slice none 0 0, .slice none 0 0]) ?_ 0 _ rfl; exact rK_ BK683.out) Tryd.underlying42 rfl (by kernel_rfl)) rfl ?_
  exact ⟨_, _, by first | rfl | (simp [errW_none, errW_some] <;> rfl) | (simp [*, errW_none, errW_some] <;> rfl), by first | exact Kd.R_nil _ _ _ _ _ | exact Kd.N_nil _ _ _ _ _ | exact Kd.V_nil _ _ _ _ _ | exact Kd.Q_nil _ _ _ _ _ | exact Kd.S_nil _ _ _ _ _, by first | exact Kd.R_nil _ _ _ _ _ | exact Kd.N_nil _ _ _ _ _ | exact Kd.V_nil _ _ _ _ _ | exact Kd.Q_nil _ _ _ _ _ | exact Kd.S_nil _ _ _ _ _, hS_ GE683.out⟩

/-! ### impl_RootOf: function 98 -/
def impl_RootOf.l0 : Nat → List ByteArray → Int → Option (ByteArray)
 | 0, _, _ => none
 | k + 1, x0, x3 => if (x0.length : Int) > 1 then ((impl_LevelUp.f k x3 x0).bind fun t788 => (impl_RootOf.l0 k t788 (wrap64 (x3 + 1)))) else (if 0 < (x0.length : Int) then (some (rdOf ByteArray.empty x0 0)) else (none))
def impl_RootOf.f (k : Nat) (l0 : List ByteArray) : Option (ByteArray) := if (l0.length : Int) = 4 then (impl_RootOf.l0 k l0 1) else (some (⟨#[]⟩ : ByteArray))
theorem impl_RootOf.mono_l : ∀ k, (∀ y0 y1, LeO (impl_RootOf.l0 k y0 y1) (impl_RootOf.l0 (k + 1) y0 y1))
 | 0 => fun _ _ r h => by simp [impl_RootOf.l0] at h
 | k + 1 => by
  have ih0 := impl_RootOf.mono_l k
  ·intro y0 y1
   unfold impl_RootOf.l0
   repeat' first
   | (with_reducible exact ih0 _ _)
   | (with_reducible exact impl_LevelUp.mono _ _ _)
   | (with_reducible exact LeO.refl _)
   | (with_reducible exact LeO.none _)
   | (with_reducible refine LeO.ite ?_ ?_)
   | (with_reducible refine LeO.bind ?_ (fun _ => ?_))
   | exact ih0 _ _
   | exact impl_LevelUp.mono _ _ _
   | exact LeO.none _
   | refine LeO.ite ?_ ?_
   | refine LeO.bind ?_ (fun _ => ?_)
theorem impl_RootOf.mono : ∀ a0 k, LeO (impl_RootOf.f k a0) (impl_RootOf.f (k + 1) a0) := by
 intro a0 k
 have ih0 := impl_RootOf.mono_l k
 unfold impl_RootOf.f
 repeat' first
   | (with_reducible exact ih0 _ _)
   | (with_reducible exact impl_LevelUp.mono _ _ _)
   | (with_reducible exact LeO.refl _)
   | (with_reducible exact LeO.none _)
   | (with_reducible refine LeO.ite ?_ ?_)
   | (with_reducible refine LeO.bind ?_ (fun _ => ?_))
   | exact ih0 _ _
   | exact impl_LevelUp.mono _ _ _
   | exact LeO.none _
   | refine LeO.ite ?_ ?_
   | refine LeO.bind ?_ (fun _ => ?_)
theorem impl_RootOf.calls (k : Nat) (P0_ : Nat → Prop) (A0 : Option Addr) (c0 : Nat) (l0 : List ByteArray) (r : ByteArray) (w : World) (hs0 : Kd.V Kd.string 9 w w.heap.size (fun k_ => P0_ k_) (.slice A0 l0.length c0) l0) (h : impl_RootOf.f k l0 = some r) (hLD : Laid w) :
  Calls Tryd.prog 98 #[.slice A0 l0.length c0] w fun e w' => e = .returned (.string r) ∧ Below w.heap.size w w' := by
 have HLD := Aside0.mk hLD
 clear hLD
 have HO0 := Aside0.mk (show Kd.V Kd.string 9 w w.heap.size (fun k_ => (P0_ k_ ∨ w.heap.size ≤ k_)) (.slice A0 l0.length c0) l0 from Kd.V_mono hs0 (fun k_ hk => .inl hk))
 have HB := Aside0.mk (Below.refl w.heap.size w)
 have H : (if (l0.length : Int) = 4 then (impl_RootOf.l0 k l0 1) else (some (⟨#[]⟩ : ByteArray))) = some r := h
 clear h
 by_cases c2 : (l0.length : Int) = 4
 rotate_left
 ·rw [if_neg c2] at H
  have c2b0 : ((l0.length : Int) == 4) = false := beq_eq_false_iff_ne.mpr c2
  have c2b1 : ((l0.length : Int) != 4) = true := bne_iff_ne.mpr c2
  obtain rfl := Option.some.inj H
  go_enter Tryd.func98, Tryd.ntmps98
  go_wp2
  go_ret
  exact ⟨by first | rfl | (simp [errW_none, errW_some] <;> rfl) | (simp [*, errW_none, errW_some] <;> rfl), hB_⟩
 rw [if_pos c2] at H
 have c2b0 : ((l0.length : Int) == 4) = true := beq_iff_eq.mpr c2
 have c2b1 : ((l0.length : Int) != 4) = false := bne_eq_false_iff_eq.mpr c2
 clear c2
 have H' := Aside0.mk H
 clear H
 go_enter Tryd.func98, Tryd.ntmps98
 go_wp2
 go_loopg [0, 3] k (fun kq v0 v3 w' => ∃ (x0_1 : List ByteArray) (x3_1 : Int), v3 = .int .i64 x3_1 ∧ Aside0 (impl_RootOf.l0 kq x0_1 x3_1 = some r) ∧ Aside0 (kq ≤ k) ∧ Aside0 (Kd.V Kd.string 9 w' w.heap.size (fun k_ => (P0_ k_ ∨ w.heap.size ≤ k_)) v0 x0_1) ∧ Aside0 (Below w.heap.size w w'))
 case atStart => exact ⟨(l0), (1), (by first | rfl | (simp; done) | (simp [*]; done)), H', ⟨Nat.le_refl _⟩, ⟨rV_ HO0.out⟩, ⟨hB_⟩⟩
 case round =>
  clear H'
  try clear c2
  try clear c2b0
  try clear c2b1
  try clear p2
  obtain ⟨x0_1, x3_1, rfl, HA, HK1, HO_0, HB⟩ := hrel
  cases gk with
  | zero => exact absurd HA.out (by simp [impl_RootOf.l0])
  | succ k1 =>
   have H := HA.out
   clear HA
   simp only [impl_RootOf.l0] at H
   by_cases c3 : (x0_1.length : Int) > 1
   ·rw [if_pos c3] at H
    have c3b0 := decide_eq_true c3
    have c3b1 : decide (1 < x0_1.length) = true := decide_eq_true (by omega)
    clear c3
    replace H := Option.bind_eq_some_iff.mp H
    obtain ⟨t788, A40, H⟩ := H
    try dsimp -simprocs only at H
    have A4 := Aside0.mk A40
    clear A40
    have H' := Aside0.mk H
    clear H
    obtain ⟨Ao5, co5, eo5⟩ := Kd.V_slice HO_0.out
    subst eo5
    go_wp2_with (first | ((with_reducible refine gate_callee (f := 117) rfl ?_); refine goesL_ (some 14) rfl rfl Tryd.func117 (by kernel_rfl) rfl #[.int .i64 x3_1, .slice Ao5 x0_1.length co5] rfl aM_ ?_; (with_reducible refine (impl_LevelUp.calls k1 x3_1 _ _ x0_1 t788 _ ?side1 ?side2 A4.out (HLD.out.below HLD.out.pos (hB_))).mono ?_); (case side1 => exact cR_ (Kd.V_reads' HO_0.out).2.2); (case side2 => exact (Kd.V_reads' HO_0.out).2.1); rintro e w6 ⟨v789, rfl, ho0, hb⟩; refine ⟨_, rfl, ?_⟩; have n0_ := Aside0.mk (Kd.V_elder' (rV_ HO_0.out) (Kd.R_base ho0) hb); have n1_ := Aside0.mk (Kd.R_lower (Kd.R_newM (M := fun k_ => (w.heap.size ≤ k_)) ho0 (below_size (hB_)) (fun k_ h_ => h_)) (below_size (hB_))); have n2_ := Aside0.mk (below_step (hB_) hb); replace HO_0 := n0_; have HO790 := n1_; replace HB := n2_; clear n0_ n1_ n2_; (try clear hb); (try clear ho0)))
    go_roundg k1
    case measure => have := HK1.out; omega
    case rel => exact ⟨(t788), (wrap64 (x3_1 + 1)), (by first | rfl | (simp; done) | (simp [*]; done)), H', ⟨by have := HK1.out; omega⟩, ⟨Kd.V_mono (Kd.R_V (by refine kR_ ?_; exact Kd.R_mono HO790.out (fun _ hk => hk.1))) (fun k_ hk => by first | exact ⟨(.inr (hk.1)), hk.2⟩ | exact (.inr (hk)))⟩, ⟨hB_⟩⟩
   rw [if_neg c3] at H
   have c3b0 := decide_eq_false c3
   have c3b1 : decide (1 < x0_1.length) = false := decide_eq_false (by omega)
   clear c3
   obtain ⟨c7, H⟩ := iN_ H
   have c7b0 := decide_eq_true c7
   have c7b1 : decide (0 < x0_1.length) = true := decide_eq_true (by omega)
   clear c7
   obtain rfl := Option.some.inj H
   obtain ⟨Ao8, co8, eo8⟩ := Kd.V_slice HO_0.out
   subst eo8
   have p791 : 0 ≤ (0 : Int) := (by omega)
   have q791 : 0 < (x0_1.length : Int) := of_decide_eq_true (by first | (with_reducible assumption) | assumption)
   obtain ⟨ad791, e791, hx791_0⟩ := Kd.at_string (Kd.V_reads' HO_0.out).2.2 0 p791 q791
   cases e791
   have qi791 : (0 < x0_1.length) = True := eq_true (by omega)
   (try rw [show ((0 : Int)).toNat = 0 from rfl] at hx791_0)
   (try rw [Addr.add_zero'] at hx791_0)
   replace p791 := eq_true p791
   replace q791 := eq_true q791
   go_wp2
   go_ret
   exact ⟨by first | rfl | (simp [errW_none, errW_some] <;> rfl) | (simp [*, errW_none, errW_some] <;> rfl), hB_⟩

/-! ### impl_PublicOf: function 44 -/
def impl_PublicOf.f (k : Nat) (a0 : ByteArray) : Option (ByteArray) := (impl_leavesOf.f k a0).bind fun t792 => ((impl_RootOf.f k t792).bind fun t795 => (some t795))
theorem impl_PublicOf.mono : ∀ a0 k, LeO (impl_PublicOf.f k a0) (impl_PublicOf.f (k + 1) a0) := by
 intro a0 k
 unfold impl_PublicOf.f
 repeat' first
   | (with_reducible exact impl_RootOf.mono _ _)
   | (with_reducible exact impl_leavesOf.mono _ _)
   | (with_reducible exact LeO.refl _)
   | (with_reducible exact LeO.none _)
   | (with_reducible refine LeO.ite ?_ ?_)
   | (with_reducible refine LeO.bind ?_ (fun _ => ?_))
   | exact impl_RootOf.mono _ _
   | exact impl_leavesOf.mono _ _
   | exact LeO.none _
   | refine LeO.ite ?_ ?_
   | refine LeO.bind ?_ (fun _ => ?_)
theorem impl_PublicOf.calls (k : Nat) (a0 : ByteArray) (r : ByteArray) (w : World) (h : impl_PublicOf.f k a0 = some r) (hLD : Laid w) :
  Calls Tryd.prog 44 #[.string a0] w fun e w' => e = .returned (.string r) ∧ Below w.heap.size w w' := by
 have HLD := Aside0.mk hLD
 clear hLD
 have HB := Aside0.mk (Below.refl w.heap.size w)
 have H : ((impl_leavesOf.f k a0).bind fun t792 => ((impl_RootOf.f k t792).bind fun t795 => (some t795))) = some r := h
 clear h
 replace H := Option.bind_eq_some_iff.mp H
 obtain ⟨t792, A20, H⟩ := H
 try dsimp -simprocs only at H
 have A2 := Aside0.mk A20
 clear A20
 replace H := Option.bind_eq_some_iff.mp H
 obtain ⟨t795, A30, H⟩ := H
 try dsimp -simprocs only at H
 have A3 := Aside0.mk A30
 clear A30
 obtain rfl := Option.some.inj H
 go_enter Tryd.func44, Tryd.ntmps44
 go_wp2_with (first | ((with_reducible refine gate_callee (f := 91) rfl ?_); refine goesL_ (some 4) rfl rfl Tryd.func91 (by kernel_rfl) rfl #[.string a0] rfl aM_ ?_; (with_reducible refine (impl_leavesOf.calls k a0 t792 _ A2.out (HLD.out.below HLD.out.pos (hB_))).mono ?_); rintro e w4 ⟨v793, rfl, ho0, hb⟩; refine ⟨_, rfl, ?_⟩; have n0_ := Aside0.mk (Kd.R_lower ho0 (below_size (hB_))); have n1_ := Aside0.mk (below_step (hB_) hb); have HO794 := n0_; replace HB := n1_; clear n0_ n1_; (try clear hb); (try clear ho0); obtain ⟨Ao5, co5, eo5⟩ := Kd.R_slice HO794.out; subst eo5) | ((with_reducible refine gate_callee (f := 98) rfl ?_); refine goesL_ (some 5) rfl rfl Tryd.func98 (by kernel_rfl) rfl #[.slice Ao5 t792.length co5] rfl aM_ ?_; (with_reducible refine (impl_RootOf.calls k (fun k_ => some k_ = (.slice Ao5 t792.length co5 : Value).ownBlock) _ _ t792 t795 _ ?side1 A3.out (HLD.out.below HLD.out.pos (hB_))).mono ?_); (case side1 => exact Kd.R_V (Kd.R_tight rfl (HO794.out))); rintro e w6 ⟨rfl, hb⟩; refine ⟨_, rfl, ?_⟩; have n0_ := Aside0.mk (Kd.R_below (rR_ HO794.out) hb); have n1_ := Aside0.mk (below_step (hB_) hb); replace HO794 := n0_; replace HB := n1_; clear n0_ n1_; (try clear hb)))
 go_ret
 exact ⟨by first | rfl | (simp [errW_none, errW_some] <;> rfl) | (simp [*, errW_none, errW_some] <;> rfl), hB_⟩

end Go.Proofs.YtjcmafoepabpkaaDoor.P
