-- printed texts of this session, regrouped
import Derived.Test.YthdjmbbkenbeiaaDoorMWC
import Derived.Test.YthdjmbbkenbeiaaDoorMWA
import Derived.Test.YthdjmbbkenbeiaaDoorMW7
import Derived.Test.YthdjmbbkenbeiaaDoorMW8
import Derived.Test.YthdjmbbkenbeiaaDoorMW6
import Derived.Test.YthdjmbbkenbeiaaDoorPx0
import Derived.Test.YthdjmbbkenbeiaaDoorPx3
namespace Go.Proofs.YthdjmbbkenbeiaaDoor.P
open Go.RowKit Go.Proofs.YthdjmbbkenbeiaaDoorW.PrintWords Go.Proofs.YthdjmbbkenbeiaaDoorW.PrintLast Go.Proofs.YthdjmbbkenbeiaaDoorW.PrintMore
attribute [local go_sem] max2_int min2_int max_two min_two max_three min_three max_four min_four   -- for this text's walks alone
set_option linter.unusedVariables false
set_option linter.unusedSimpArgs false
set_option maxHeartbeats 8000000
set_option maxRecDepth 100000

/-! ### impl_Ntt: function 36 -/
theorem impl_Ntt.cell_setCell_drewN (w : World) (n : Nat) (a b : Addr) (v : Value) : ((w.drewN n).setCell a v).cell? b = (w.setCell a v).cell? b := rfl
theorem impl_Ntt.frozen_setCell (w : World) (a b : Addr) (v : Value) : (w.setCell a v).frozen? b = w.frozen? b := World.frozen?_setCell w a b v
attribute [local go_sem] impl_Ntt.cell_setCell_drewN
mutual
def impl_Ntt.l0 : Nat → List Int → Int → Int → Option (List Int)
 | 0, _, _, _ => none
 | k + 1, x3, x4, x5 => if x5 ≥ 2 then (impl_Ntt.l1 k x3 x4 x5 0) else (some x3)
def impl_Ntt.l1 : Nat → List Int → Int → Int → Int → Option (List Int)
 | 0, _, _, _, _ => none
 | k + 1, x3, x4, x5, x6 => if x6 < 256 then ((impl_Turn7.f k x4).bind fun t469 => ((impl_PowQ.f k 17 t469).bind fun t470 => (impl_Ntt.l2 k x3 (wrap64 (x4 + 1)) x5 x6 t470 x6))) else (impl_Ntt.l0 k x3 x4 (wrap64 (Int.tdiv x5 2)))
def impl_Ntt.l2 : Nat → List Int → Int → Int → Int → Int → Int → Option (List Int)
 | 0, _, _, _, _, _, _ => none
 | k + 1, x3, x4, x5, x6, x7, x8 => if x8 < (wrap64 (x6 + x5)) then (if 0 ≤ (wrap64 (x8 + x5)) then (if (wrap64 (x8 + x5)) < (x3.length : Int) then (if 0 ≤ x8 then (if x8 < (x3.length : Int) then ((impl_modQ.f (wrap64 ((rd x3 x8) + (wrap64 (x7 * (rd x3 (wrap64 (x8 + x5)))))))).bind fun t473 => ((impl_modQ.f (wrap64 ((rd x3 x8) - (wrap64 (x7 * (rd x3 (wrap64 (x8 + x5)))))))).bind fun t475 => (impl_Ntt.l2 k ((x3.set (x8 : Int).toNat t473).set ((wrap64 (x8 + x5)) : Int).toNat t475) x4 x5 x6 x7 (wrap64 (x8 + 1))))) else (none)) else (none)) else (none)) else (none)) else (impl_Ntt.l1 k x3 x4 x5 (wrap64 (x6 + (wrap64 (2 * x5)))))
end
def impl_Ntt.f (k : Nat) (l0 : List Int) : Option (List Int) := (impl_PolyOk.f k l0).bind fun t465 => (if t465 = true then ((impl_copyInts.f l0).bind fun t466 => (impl_Ntt.l0 k t466 1 128)) else (some ([] : List Int)))
theorem impl_Ntt.mono_l : ∀ k, (∀ y0 y1 y2, LeO (impl_Ntt.l0 k y0 y1 y2) (impl_Ntt.l0 (k + 1) y0 y1 y2)) ∧ (∀ y0 y1 y2 y3, LeO (impl_Ntt.l1 k y0 y1 y2 y3) (impl_Ntt.l1 (k + 1) y0 y1 y2 y3)) ∧ (∀ y0 y1 y2 y3 y4 y5, LeO (impl_Ntt.l2 k y0 y1 y2 y3 y4 y5) (impl_Ntt.l2 (k + 1) y0 y1 y2 y3 y4 y5))
 | 0 => ⟨fun _ _ _ r h => by simp [impl_Ntt.l0] at h, fun _ _ _ _ r h => by simp [impl_Ntt.l1] at h, fun _ _ _ _ _ _ r h => by simp [impl_Ntt.l2] at h⟩
 | k + 1 => by
  obtain ⟨ih0, ih1, ih2⟩ := impl_Ntt.mono_l k
  refine ⟨?_, ?_, ?_⟩ <;> (intros; (first | unfold impl_Ntt.l0 | unfold impl_Ntt.l1 | unfold impl_Ntt.l2); exact o6_ ih0 ih1 ih2 impl_PolyOk.mono impl_PowQ.mono impl_Turn7.mono)
theorem impl_Ntt.mono : ∀ a0 k, LeO (impl_Ntt.f k a0) (impl_Ntt.f (k + 1) a0) := by
 intro a0 k
 obtain ⟨ih0, ih1, ih2⟩ := impl_Ntt.mono_l k
 unfold impl_Ntt.f
 exact o6_ ih0 ih1 ih2 impl_PolyOk.mono impl_PowQ.mono impl_Turn7.mono
def impl_Ntt.T17 : Bool × List (List Nat × List Nat) := (true, [([], []), ([], []), ([], []), ([], []), ([], []), ([3, 4], [3, 4]), ([], []), ([], []), ([6, 7], [6, 7]), ([8], [8]), ([], []), ([9, 10], [9, 10]), ([11], [11]), ([], []), ([], []), ([13, 14], [13, 14]), ([15], [15]), ([], []), ([16, 17], [16, 17]), ([18, 12], [18]), ([0, 1, 0, 1, 6, 7, 8, 9, 10, 11, 12, 16, 19], [0, 1]), ([20, 12, 19, 0, 1, 6, 7, 8, 9, 10, 11, 12, 16, 19], [12, 20]), ([2, 5, 0, 1, 2, 3, 4, 5, 6, 7, 8, 9, 10, 11, 12, 13, 14, 15, 16, 17, 18, 19, 20, 21], [2, 5]), ([22, 19, 21, 0, 1, 2, 3, 4, 5, 6, 7, 8, 9, 10, 11, 12, 13, 14, 15, 16, 17, 18, 19, 20, 21], [19, 22])])
def impl_Ntt.B17 : List Nat := [0, 0, 0, 0, 0, 24, 0, 0, 192, 448, 0, 1984, 4032, 0, 0, 24576, 57344, 0, 253952, 524224, 1048515, 2097091, 4194303, 8388607]
theorem impl_Ntt.tab17 : rtab .any (opsOf Tryd.f36 17) = impl_Ntt.T17 := by kernel_rfl
theorem impl_Ntt.bits17 : waitsOk impl_Ntt.T17.2 impl_Ntt.B17 = true := by kernel_rfl
theorem impl_Ntt.calls (k : Nat) (A0 : Option Addr) (c0 : Nat) (l0 : List Int) (r : List Int) (w : World) (hr0 : Kd.C (Kd.int .i64) w A0 l0.length l0) (hc0 : l0.length ≤ c0) (h : impl_Ntt.f k l0 = some r) :
  Calls Tryd.prog 36 #[.slice A0 l0.length c0] w fun e w' => ∃ v0_ : Value, e = .returned (v0_) ∧ Kd.R (Kd.int .i64) 3 w' w.heap.size (fun _ => True) v0_ r ∧ Below w.heap.size w w' := by
 have HR0 := Aside0.mk hr0
 have HC0 := Aside0.mk hc0
 clear hr0 hc0
 have HB := Aside0.mk (Below.refl w.heap.size w)
 delta impl_Ntt.f at h
 have H := h
 clear h
 obtain ⟨t465, A2, H⟩ := bN_ H
 by_cases c3 : t465 = true
 ·subst c3
  replace H := iT_ H
  obtain ⟨t466, A4, H⟩ := bN_ H
  have H' := Aside0.mk H
  clear H
  go_enter Tryd.func36, Tryd.ntmps36
  go_wp2_with (first | ((with_reducible refine gate_callee (f := 38) rfl ?_); refine goesL_ (some 11) rfl rfl Tryd.func38 (by kernel_rfl) rfl #[.slice A0 l0.length c0] rfl aM_ ?_; (with_reducible refine (impl_PolyOk.calls k _ _ l0 true _ ?side1 ?side2 A2.out).mono ?_); (case side1 => exact cR_ HR0.out); (case side2 => exact HC0.out); rintro e w' ⟨rfl, ⟨nd, rfl⟩⟩; refine ⟨_, rfl, ?_⟩) | ((with_reducible refine gate_callee (f := 58) rfl ?_); refine goesL_ (some 14) rfl rfl Tryd.func58 (by kernel_rfl) rfl #[.slice A0 l0.length c0] rfl aM_ ?_; (with_reducible refine (impl_copyInts.calls _ _ l0 t466 _ ?side1 ?side2 A4.out).mono ?_); (case side1 => exact cR_ HR0.out); (case side2 => exact HC0.out); rintro e w5 ⟨v467, rfl, ho0, hb⟩; refine ⟨_, rfl, ?_⟩; have n_ := b_ (Kd.R_lower ho0 (below_size (hB_))) <| c_ (below_step (hB_) hb); clear HB; obtain ⟨HO468, HB⟩ := n_; (try clear ho0)))
  go_loopg [4, 5] k (fun kq v4 v5 w' => ∃ (x3_1 : List Int) (x4_1 : Int) (x5_1 : Int), v4 = .int .i64 x4_1 ∧ v5 = .int .i64 x5_1 ∧ Aside0 (impl_Ntt.l0 kq x3_1 x4_1 x5_1 = some r) ∧ Aside0 (kq ≤ k) ∧ Aside0 (Kd.R (Kd.int .i64) 3 w' w.heap.size (fun _ => True) v467 x3_1) ∧ Aside0 (Below w.heap.size w w'))
  case atStart => exact ⟨(t466), (1), (128), f0_, f0_, H', ⟨Nat.le_refl _⟩, ⟨rR_ HO468.out⟩, ⟨hB_⟩⟩
  case round =>
   clear H'
   obtain ⟨x3_1, x4_1, x5_1, rfl, rfl, HA, HK1, HO_3, HB⟩ := hrel
   cases gk with
   | zero => exact absurd HA.out (by simp [impl_Ntt.l0])
   | succ k1 =>
    have H := HA.out
    clear HA
    simp only [impl_Ntt.l0] at H
    by_cases c6 : x5_1 ≥ 2
    rotate_left
    ·rw [if_neg c6] at H
     have c6b0 := decide_eq_false c6
     clear c6
     obtain rfl := Option.some.inj H
     go_wp2
     go_ret
     exact ⟨_, f1_, rR_ HO_3.out, hB_⟩
    rw [if_pos c6] at H
    have c6b0 := decide_eq_true c6
    clear c6
    have H' := Aside0.mk H
    clear H
    go_wp2
    go_loopg [4, 6] k1 (fun kq v4 v6 w' => ∃ (x3_2 : List Int) (x4_2 : Int) (x6_2 : Int), v4 = .int .i64 x4_2 ∧ v6 = .int .i64 x6_2 ∧ Aside0 (impl_Ntt.l1 kq x3_2 x4_2 x5_1 x6_2 = some r) ∧ Aside0 (kq ≤ k1) ∧ Aside0 (Kd.R (Kd.int .i64) 3 w' w.heap.size (fun _ => True) v467 x3_2) ∧ Aside0 (Below w.heap.size w w'))
    case atStart => exact ⟨(x3_1), (x4_1), (0), f0_, f0_, H', ⟨Nat.le_refl _⟩, ⟨rR_ HO_3.out⟩, ⟨hB_⟩⟩
    case round =>
     clear H'
     obtain ⟨x3_2, x4_2, x6_2, rfl, rfl, HA, HK2, HO_3, HB⟩ := hrel
     cases gk with
     | zero => exact absurd HA.out (by simp [impl_Ntt.l1])
     | succ k2 =>
      have H := HA.out
      clear HA
      simp only [impl_Ntt.l1] at H
      by_cases c7 : x6_2 < 256
      rotate_left
      ·rw [if_neg c7] at H
       have c7b0 := decide_eq_false c7
       clear c7
       have H' := Aside0.mk H
       clear H
       go_wp2
       go_roundg k2
       case measure => have := HK1.out; have := HK2.out; omega
       case rel => exact ⟨(x3_2), (x4_2), (wrap64 (Int.tdiv x5_1 2)), f0_, f0_, H', ⟨by have := HK1.out; have := HK2.out; omega⟩, ⟨rR_ HO_3.out⟩, ⟨hB_⟩⟩
      rw [if_pos c7] at H
      have c7b0 := decide_eq_true c7
      clear c7
      obtain ⟨t469, A8, H⟩ := bN_ H
      obtain ⟨t470, A9, H⟩ := bN_ H
      have H' := Aside0.mk H
      clear H
      go_wp2_with (first | ((with_reducible refine gate_callee (f := 60) rfl ?_); refine goesL_ (some 26) rfl rfl Tryd.func60 (by kernel_rfl) rfl #[.int .i64 x4_2] rfl aM_ ?_; (with_reducible refine (impl_Turn7.calls k2 x4_2 t469 _ A8.out).mono ?_); rintro e w' ⟨rfl, ⟨nd, rfl⟩⟩; refine ⟨_, rfl, ?_⟩) | ((with_reducible refine gate_callee (f := 59) rfl ?_); refine goesL_ (some 27) rfl rfl Tryd.func59 (by kernel_rfl) rfl #[.int .i64 17, .int .i64 t469] rfl aM_ ?_; (with_reducible refine (impl_PowQ.calls k2 17 t469 t470 _ A9.out).mono ?_); rintro e w' ⟨rfl, ⟨nd, rfl⟩⟩; refine ⟨_, rfl, ?_⟩))
      go_loopg [8] k2 (fun kq v8 w' => ∃ (x3_3 : List Int) (x8_3 : Int), v8 = .int .i64 x8_3 ∧ Aside0 (impl_Ntt.l2 kq x3_3 (wrap64 (x4_2 + 1)) x5_1 x6_2 t470 x8_3 = some r) ∧ Aside0 (kq ≤ k2) ∧ Aside0 (Kd.R (Kd.int .i64) 3 w' w.heap.size (fun _ => True) v467 x3_3) ∧ Aside0 (Below w.heap.size w w'))
      case atStart => exact ⟨(x3_2), (x6_2), f0_, H', ⟨Nat.le_refl _⟩, ⟨rR_ HO_3.out⟩, ⟨hB_⟩⟩
      case round =>
       clear H'
       obtain ⟨x3_3, x8_3, rfl, HA, HK3, HO_3, HB⟩ := hrel
       cases gk with
       | zero => exact absurd HA.out (by simp [impl_Ntt.l2])
       | succ k3 =>
        have H := HA.out
        clear HA
        simp only [impl_Ntt.l2] at H
        by_cases c10 : x8_3 < (wrap64 (x6_2 + x5_1))
        rotate_left
        ·rw [if_neg c10] at H
         have c10b0 := decide_eq_false c10
         clear c10
         have H' := Aside0.mk H
         clear H
         go_wp2
         go_roundg k3
         case measure => have := HK1.out; have := HK2.out; have := HK3.out; omega
         case rel => exact ⟨(x3_3), ((wrap64 (x4_2 + 1))), (wrap64 (x6_2 + (wrap64 (2 * x5_1)))), f0_, f0_, H', ⟨by have := HK1.out; have := HK2.out; have := HK3.out; omega⟩, ⟨rR_ HO_3.out⟩, ⟨hB_⟩⟩
        rw [if_pos c10] at H
        have c10b0 := decide_eq_true c10
        clear c10
        obtain ⟨ji11, hji11⟩ : ∃ j_ : Int, (wrap64 (x8_3 + x5_1)) = j_ := ⟨_, rfl⟩
        first | rw [hji11] at H | simp only [hji11] at H
        have hji11w : (IntKind.i64.wrap (x8_3 + x5_1)) = ji11 := (i64_w _).trans hji11
        obtain ⟨c12b0, H⟩ := iD_ H
        obtain ⟨c13b0, H⟩ := iD_ H
        obtain ⟨c14b0, H⟩ := iD_ H
        obtain ⟨c15b0, H⟩ := iD_ H
        obtain ⟨t473, A16, H⟩ := bN_ H
        obtain ⟨t475, A17, H⟩ := bN_ H
        obtain ⟨y476, hy476⟩ : ∃ y_ : List Int, y_ = (x3_3.set (x8_3 : Int).toNat t473) := ⟨_, rfl⟩
        first | replace H := yb_ hy476 H | rw [← hy476] at H
        have Ny476 := Aside0.mk hy476
        clear hy476
        obtain ⟨y477, hy477⟩ : ∃ y_ : List Int, y_ = (y476.set ((ji11) : Int).toNat t475) := ⟨_, rfl⟩
        first | replace H := yb_ hy477 H | rw [← hy477] at H
        have Ny477 := Aside0.mk hy477
        clear hy477
        have H' := Aside0.mk H
        clear H
        obtain ⟨Ao20, co20, eo20⟩ := Kd.R_slice HO_3.out
        subst eo20
        have p471 : 0 ≤ ((ji11) : Int) := oD_
        have q471 : (ji11) < (x3_3.length : Int) := oD_
        obtain ⟨ad471, e471, hx471_0⟩ := Kd.at_int (Kd.R_reads' HO_3.out).2.2 (ji11) p471 q471
        cases e471
        replace p471 := eq_true p471
        replace q471 := eq_true q471
        try go_wp2
        have n_ := b_ (Kd.R_drew HO_3.out) <| c_ (below_drew1 HB.out)
        clear HO_3 HB
        obtain ⟨HO_3, HB⟩ := n_
        have p472 : 0 ≤ (x8_3 : Int) := oD_
        have q472 : x8_3 < (x3_3.length : Int) := oD_
        obtain ⟨ad472, e472, hx472_0⟩ := Kd.at_int (Kd.R_reads' HO_3.out).2.2 x8_3 p472 q472
        obtain rfl : ad471 = ad472 := (by injection e472)
        replace p472 := eq_true p472
        replace q472 := eq_true q472
        have p474 : 0 ≤ (x8_3 : Int) := oD_
        have q474 : x8_3 < (x3_3.length : Int) := oD_
        obtain ⟨ad474, e474, hx474_0⟩ := Kd.at_int (Kd.R_reads' HO_3.out).2.2 x8_3 p474 q474
        obtain rfl : ad471 = ad474 := (by injection e474)
        replace p474 := eq_true p474
        replace q474 := eq_true q474
        refine start_ (n := 24) (S := fun w' => w'.cell? (ad471.add (x8_3).toNat) = some (.int .i64 (rd x3_3 x8_3)) ∧ w'.cell? (ad471.add (x8_3).toNat) = some (.int .i64 (rd x3_3 x8_3))) (ds := [21, 23]) (bb_ 24 0) (by kernel_rfl) rfl rfl ⟨hx472_0, hx474_0⟩ (fun hHeld => ?_); refine with_tabW impl_Ntt.tab17 impl_Ntt.bits17 (fun HT_ HW_ => ?_)
        generalize wr.drew = w21 at HO_3 HB hx472_0 hx474_0 hHeld ⊢
        refine pS_ 0 46 (bb_ 24 1) HT_.out ?_
        refine pS_ 1 47 (bb_ 24 3) HT_.out ?_
        refine pS_ 2 48 (bb_ 24 7) HT_.out ?_
        refine pS_ 3 49 (bb_ 24 15) HT_.out ?_
        refine pS_ 4 50 (bb_ 24 31) HT_.out ?_
        refine pS_ 5 51 (bb_ 24 63) HT_.out ?_
        refine pS_ 6 52 (bb_ 24 127) HT_.out ?_
        refine pS_ 7 53 (bb_ 24 255) HT_.out ?_
        refine pS_ 8 54 (bb_ 24 511) HT_.out ?_
        refine pS_ 10 56 (bb_ 24 1535) HT_.out ?_
        refine pS_ 13 59 (bb_ 24 9727) HT_.out ?_
        refine pS_ 14 60 (bb_ 24 26111) HT_.out ?_
        refine pS_ 15 61 (bb_ 24 58879) HT_.out ?_
        refine pS_ 17 63 (bb_ 24 189951) HT_.out ?_
        refine tS_ 9 55 (bb_ 24 190463) (take_ofW HT_.out HW_.out (by kernel_rfl)) hHeld ?_
        refine pS_ 11 57 (bb_ 24 192511) HT_.out ?_
        refine tS_ 16 62 (bb_ 24 258047) (take_ofW HT_.out HW_.out (by kernel_rfl)) hHeld ?_
        refine pS_ 18 64 (bb_ 24 520191) HT_.out ?_
        refine one_ (i := 12) (N := some 58) (bb_ 24 524287) rfl rfl (one_of HT_.out (by kernel_rfl)) (by decide) (fun K hK => ?_)
        refine goes_ Tryd.func61 (by kernel_rfl) rfl #[.int .i64 (wrap64 ((rd x3_3 x8_3) + (wrap64 (t470 * (rd x3_3 (ji11))))))] (by rfl) rfl rfl (by (try simp only [List.map_toArray, List.map_cons, List.map_nil]); first | done | (simp only [hji11]; rfl) | rfl | (simp only [List.length_drop, List.length_take]; rfl)) ?_
        with_reducible refine (impl_modQ.calls (wrap64 ((rd x3_3 x8_3) + (wrap64 (t470 * (rd x3_3 (ji11)))))) t473 _ A16.out).mono ?_
        rintro e w' ⟨rfl, ⟨nd, rfl⟩⟩
        refine ⟨_, rfl, ?_⟩
        refine hK.out _ _ ⟨hHeld.1, hHeld.2⟩ (fun hHeld => ?_)
        clear hK K
        refine norm_ (a' := ?_) ?_ ?_
        rotate_left
        ·show Act.put _ (some 58) _ = _
         simp only [Act.put, List.setIfInBounds_toArray, List.set_cons_zero, List.set_cons_succ, i64_w, i32_w]
         rfl
        refine one_ (i := 19) (N := some 65) (bb_ 24 1048575) rfl rfl (one_of HT_.out (by kernel_rfl)) (by decide) (fun K hK => ?_)
        refine goes_ Tryd.func61 (by kernel_rfl) rfl #[.int .i64 (wrap64 ((rd x3_3 x8_3) - (wrap64 (t470 * (rd x3_3 (ji11))))))] (by rfl) rfl rfl (by (try simp only [List.map_toArray, List.map_cons, List.map_nil]); first | done | (simp only [hji11]; rfl) | rfl | (simp only [List.length_drop, List.length_take]; rfl)) ?_
        with_reducible refine (impl_modQ.calls (wrap64 ((rd x3_3 x8_3) - (wrap64 (t470 * (rd x3_3 (ji11)))))) t475 _ A17.out).mono ?_
        rintro e w' ⟨rfl, ⟨nd, rfl⟩⟩
        refine ⟨_, rfl, ?_⟩
        have p18 : 0 ≤ (x8_3 : Int) := oD_
        have q18 : (x8_3 : Int) < ((x3_3.length : Int) : Int) := oD_
        obtain ⟨go18, co18, eo18, gb18, gl18, cl18, HG18⟩ := Kd.R_form HO_3.out (by omega)
        (first | cases eo18 | (injection eo18 with ea_ en_ ec_; (first | subst ea_ | (injection ea_ with ea_; subst ea_)); subst ec_; clear en_))
        have GB18 := Aside0.mk gb18
        have GG18 := Aside0.mk HG18
        clear gb18 gl18 HG18
        (first | simp only [add_plain] at hx471_0 | skip)
        (first | simp only [add_plain] at hx472_0 | skip)
        (first | simp only [add_plain] at hx474_0 | skip)
        obtain ⟨hx18_0, hf18_0⟩ := Kd.R_celln 0 HO_3.out (x8_3 : Int) p18 q18
        replace p18 := eq_true p18
        replace q18 := eq_true q18
        have HP22 := Kd.R_putn HO_3.out (x8_3 : Int) t473
        rw [← Ny476.out] at HP22
        have HQ22 := Aside0.mk HP22
        clear HP22
        have p19 : 0 ≤ ((ji11) : Int) := oD_
        have q19 : ((ji11) : Int) < ((x3_3.length : Int) : Int) := oD_
        obtain ⟨hx19_0, hf19_0⟩ := Kd.R_celln 0 HQ22.out ((ji11) : Int) p19 q19
        (first | simp only [impl_Ntt.frozen_setCell] at hf19_0 | skip)
        replace p19 := eq_true p19
        replace q19 := eq_true q19
        have HP23 := Kd.R_putn HQ22.out ((ji11) : Int) t475
        rw [← Ny477.out] at HP23
        have HQ23 := Aside0.mk HP23
        clear HP23
        refine hK.out _ _ ⟨hHeld.1, hHeld.2⟩ (fun hHeld => ?_)
        clear hK K
        refine norm_ (a' := ?_) ?_ ?_
        rotate_left
        ·show Act.put _ (some 65) _ = _
         simp only [Act.put, List.setIfInBounds_toArray, List.set_cons_zero, List.set_cons_succ, i64_w, i32_w]
         rfl
        refine pS_ 20 66 (bb_ 24 2097151) HT_.out ?_
        refine last_ (i := 21) (N := none) (bb_ 24 4194303) rfl rfl (one_of HT_.out (by kernel_rfl)) (by decide) (fun K hK => ?_)
        refine skip_ (w1 := ?_) (by rfl) rfl ?_ ?_
        rotate_left
        ·go_simp
         rfl
        refine hK.out _ _ ?_
        clear hK K
        refine pS_ 22 67 (bb_ 24 8388607) HT_.out ?_
        refine last_ (i := 23) (N := none) (bb_ 24 16777215) rfl rfl (one_of HT_.out (by kernel_rfl)) (by decide) (fun K hK => ?_)
        refine skip_ (w1 := ?_) (by rfl) rfl ?_ ?_
        rotate_left
        ·go_simp
         rfl
        refine hK.out _ _ ?_
        clear hK K
        refine done_ (done_of HT_.out (by kernel_rfl)) ?_
        try go_wp2
        go_roundg k3
        case measure => have := HK1.out; have := HK2.out; have := HK3.out; omega
        case rel => exact ⟨(y477), (wrap64 (x8_3 + 1)), f0_, H', ⟨by have := HK1.out; have := HK2.out; have := HK3.out; omega⟩, ⟨rR_ HQ23.out⟩, ⟨(u0_ GB18.out GB18.out)⟩⟩
 ·replace c3 := Bool.eq_false_iff.mpr c3
  subst c3
  replace H := iF_ H
  obtain rfl := Option.some.inj H
  go_enter Tryd.func36, Tryd.ntmps36
  go_wp2_with (first | ((with_reducible refine gate_callee (f := 38) rfl ?_); refine goesL_ (some 11) rfl rfl Tryd.func38 (by kernel_rfl) rfl #[.slice A0 l0.length c0] rfl aM_ ?_; (with_reducible refine (impl_PolyOk.calls k _ _ l0 false _ ?side1 ?side2 A2.out).mono ?_); (case side1 => exact cR_ HR0.out); (case side2 => exact HC0.out); rintro e w' ⟨rfl, ⟨nd, rfl⟩⟩; refine ⟨_, rfl, ?_⟩))
  go_ret
  exact ⟨_, f1_, by first | exact Kd.R_nil _ _ _ _ _ | exact Kd.N_nil _ _ _ _ _ | exact Kd.V_nil _ _ _ _ _ | exact Kd.Q_nil _ _ _ _ _ | exact Kd.S_nil _ _ _ _ _, hB_⟩

/-! ### impl_ntts: function 15 -/
def impl_ntts.l0 : Nat → List (List Int) → List (List Int) → Int → Int → Option ((List (List Int)))
 | 0, _, _, _, _ => none
 | k + 1, x3, x6, x7, x8 => if x8 < x7 then (if 0 ≤ x8 then (if x8 < (x6.length : Int) then ((impl_Ntt.f k (rd_L4 x6 x8)).bind fun t479 => (if x3.length < 5864062014805 then (impl_ntts.l0 k (x3 ++ [t479]) x6 x7 (wrap64 (x8 + 1))) else (none))) else (none)) else (none)) else (some x3)
def impl_ntts.f (k : Nat) (l0 : List (List Int)) : Option ((List (List Int))) := impl_ntts.l0 k ([] : List (List Int)) l0 (l0.length : Int) 0
theorem impl_ntts.mono_l : ∀ k, (∀ y0 y1 y2 y3, LeO (impl_ntts.l0 k y0 y1 y2 y3) (impl_ntts.l0 (k + 1) y0 y1 y2 y3))
 | 0 => fun _ _ _ _ r h => by simp [impl_ntts.l0] at h
 | k + 1 => by
  have ih0 := impl_ntts.mono_l k
  intros; unfold impl_ntts.l0; exact o2_ ih0 impl_Ntt.mono
theorem impl_ntts.mono : ∀ a0 k, LeO (impl_ntts.f k a0) (impl_ntts.f (k + 1) a0) := by
 intro a0 k
 have ih0 := impl_ntts.mono_l k
 unfold impl_ntts.f
 exact o2_ ih0 impl_Ntt.mono
theorem impl_ntts.calls (k : Nat) (A0 : Option Addr) (c0 : Nat) (l0 : List (List Int)) (r : List (List Int)) (w : World) (hr0 : Kd.C (Kd.slice 3 (Kd.int .i64)) w A0 l0.length l0) (hc0 : l0.length ≤ c0) (h : impl_ntts.f k l0 = some r) :
  Calls Tryd.prog 15 #[.slice A0 l0.length c0] w fun e w' => ∃ v0_ : Value, e = .returned (v0_) ∧ Kd.S (Kd.slice 3 (Kd.int .i64)) 31 w' w.heap.size (fun _ => True) v0_ r ∧ Below w.heap.size w w' := by
 have HR0 := Aside0.mk hr0
 have HC0 := Aside0.mk hc0
 clear hr0 hc0
 have HB := Aside0.mk (Below.refl w.heap.size w)
 delta impl_ntts.f at h
 have H := h
 clear h
 have H' := Aside0.mk H
 clear H
 go_enter Tryd.func15, Tryd.ntmps15
 go_wp2
 go_loopg [3, 8] k (fun kq v3 v8 w' => ∃ (x3_1 : List (List Int)) (x8_1 : Int), v8 = .int .i64 x8_1 ∧ Aside0 (impl_ntts.l0 kq x3_1 l0 (l0.length : Int) x8_1 = some r) ∧ Aside0 (kq ≤ k) ∧ Aside0 (Kd.S (Kd.slice 3 (Kd.int .i64)) 31 w' w.heap.size (fun _ => True) v3 x3_1) ∧ Aside0 (Below w.heap.size w w'))
 case atStart => exact ⟨(([] : List (List Int))), (0), f0_, H', ⟨Nat.le_refl _⟩, ⟨by first | exact Kd.S_nil _ _ _ _ _ | exact Kd.N_nil _ _ _ _ _ | exact Kd.V_nil _ _ _ _ _ | exact Kd.Q_nil _ _ _ _ _ | exact Kd.R_nil _ _ _ _ _⟩, ⟨hB_⟩⟩
 case round =>
  clear H'
  obtain ⟨x3_1, x8_1, rfl, HA, HK1, HO_3, HB⟩ := hrel
  cases gk with
  | zero => exact absurd HA.out (by simp [impl_ntts.l0])
  | succ k1 =>
   have H := HA.out
   clear HA
   simp only [impl_ntts.l0] at H
   by_cases c2 : x8_1 < (l0.length : Int)
   rotate_left
   ·rw [if_neg c2] at H
    have c2b0 := decide_eq_false c2
    clear c2
    obtain rfl := Option.some.inj H
    go_wp2
    go_ret
    exact ⟨_, f1_, by refine kS_ ?_; exact HO_3.out, hB_⟩
   rw [if_pos c2] at H
   have c2b0 := decide_eq_true c2
   clear c2
   obtain ⟨c3b0, H⟩ := iD_ H
   obtain ⟨c4b0, H⟩ := iD_ H
   obtain ⟨t479, A5, H⟩ := bN_ H
   obtain ⟨c6, H⟩ := iN_ H
   have LMc6 := Aside0.mk c6
   clear c6
   obtain ⟨y482, hy482⟩ : ∃ y_ : List (List Int), y_ = (x3_1 ++ [t479]) := ⟨_, rfl⟩
   first | replace H := yb_ hy482 H | rw [← hy482] at H
   have Ny482 := Aside0.mk hy482
   clear hy482
   have H' := Aside0.mk H
   clear H
   have p478 : 0 ≤ (x8_1 : Int) := oD_
   have q478 : x8_1 < (l0.length : Int) := oD_
   obtain ⟨ad478, A478_0, c478_0, e478, hx478_0, hl478_0, hi478_0⟩ := at_L4 HR0.out x8_1 p478 q478
   cases e478
   replace hx478_0 := (HB.out.cell (World.block_lt_of_cell? w _ hx478_0)).trans hx478_0
   have HR478_0 := Aside0.mk hi478_0
   have HC478_0 := Aside0.mk hl478_0
   clear hi478_0 hl478_0
   replace p478 := eq_true p478
   replace q478 := eq_true q478
   go_wp2_with (first | ((with_reducible refine gate_callee (f := 36) rfl ?_); refine goesL_ (some 14) rfl rfl Tryd.func36 (by kernel_rfl) rfl #[.slice A478_0 (rd_L4 l0 x8_1).length c478_0] rfl aM_ ?_; (with_reducible refine (impl_Ntt.calls k1 _ _ (rd_L4 l0 x8_1) t479 _ ?side1 ?side2 A5.out).mono ?_); (case side1 => exact cR_ (Kd.C_below HR478_0.out HB.out)); (case side2 => exact HC478_0.out); rintro e w7 ⟨v480, rfl, ho0, hb⟩; refine ⟨_, rfl, ?_⟩; have n_ := b_ (Kd.S_elder' (rS_ HO_3.out) (Kd.R_base ho0) hb) <| b_ (Kd.R_lower ho0 (below_size (hB_))) <| c_ (below_step (hB_) hb); clear HO_3 HB; obtain ⟨HO_3, HO481, HB⟩ := n_; obtain ⟨Ao9, co9, eo9⟩ := Kd.R_slice HO481.out; subst eo9) | ((with_reducible refine gate_builtin (b := .append) (xs := #[.tmp 12, .tmp 15]) rfl ?_); at_builtin; refine Kd.S_append (Kd.slice 3 (Kd.int .i64)) (w0 := w) w.heap.size rfl (.tmp 12) (.tmp 15) 29 31 (.slice none 0 0) 24 rfl Tryd.underlying29 info31 rfl (by decide) (by omega) u3 x3_1 t479 [.slice Ao9 t479.length co9] (fun _ => True) (fun k_ => some k_ = (.slice Ao9 t479.length co9 : Value).ownBlock) rfl rfl ?aP (fun k_ hk_ => ((Kd.R_mono (ok' := fun k_ => ((fun _ => True)) k_ ∧ some k_ ≠ (u3 : Value).ownBlock) (Kd.R_apart' (HO481.out) (Kd.S_typed HO_3.out) (by decide)) (fun k_ hk => ⟨trivial, hk.2⟩))).1 k_ hk_.symm) ?aF ?aO ?aB ?aS ?aL ?_; (case aP => exact Kd.M_row (Kd.R_mono (Kd.R_tight rfl (Kd.R_mono (ok' := fun k_ => ((fun _ => True)) k_ ∧ some k_ ≠ (u3 : Value).ownBlock) (Kd.R_apart' (HO481.out) (Kd.S_typed HO_3.out) (by decide)) (fun k_ hk => ⟨trivial, hk.2⟩))) (fun _ h_ => h_))); (case aB => exact (hB_)); (case aF => exact (fun _ _ => trivial)); (case aO => exact (by refine kS_ ?_; exact Kd.S_mono HO_3.out (fun k_ hk => ⟨trivial, fun e_ => hk.2 e_⟩))); (case aS => exact (below_size (hB_))); (case aL => have := LMc6.out; omega); intro v483 w8 ho hb hg hat; rw [← Ny482.out] at ho; have n_ := b_ (hb) <| c_ (ho); clear HO_3 HO481 HB; obtain ⟨HB, HO484⟩ := n_; clear ho hb hg hat))
   go_roundg k1
   case measure => have := HK1.out; omega
   case rel => exact ⟨(y482), (wrap64 (x8_1 + 1)), f0_, H', ⟨by have := HK1.out; omega⟩, ⟨rS_ HO484.out⟩, ⟨hB_⟩⟩

/-! ### impl_roundBit: function 92 -/
def impl_roundBit.l0 : Nat → Int → Int → Int → Option (Int)
 | 0, _, _, _ => none
 | k + 1, x3, x4, x5 => if x5 < x4 then (if (wrap64 (x3 * 2)) ≥ 256 then (impl_roundBit.l0 k (Go.bits .and .i64 (Go.bits .xor .i64 (wrap64 (x3 * 2)) 113) 255) x4 (wrap64 (x5 + 1))) else (impl_roundBit.l0 k (wrap64 (x3 * 2)) x4 (wrap64 (x5 + 1)))) else (some (IntKind.u64.wrap (Go.bits .and .i64 x3 1)))
def impl_roundBit.f (k : Nat) (a0 : Int) : Option (Int) := impl_roundBit.l0 k 1 a0 0
theorem impl_roundBit.mono_l : ∀ k, (∀ y0 y1 y2, LeO (impl_roundBit.l0 k y0 y1 y2) (impl_roundBit.l0 (k + 1) y0 y1 y2))
 | 0 => fun _ _ _ r h => by simp [impl_roundBit.l0] at h
 | k + 1 => by
  have ih0 := impl_roundBit.mono_l k
  intros; unfold impl_roundBit.l0; exact o1_ ih0
theorem impl_roundBit.mono : ∀ a0 k, LeO (impl_roundBit.f k a0) (impl_roundBit.f (k + 1) a0) := by
 intro a0 k
 have ih0 := impl_roundBit.mono_l k
 unfold impl_roundBit.f
 exact o1_ ih0
theorem impl_roundBit.calls (k : Nat) (a0 : Int) (r : Int) (w : World) (h : impl_roundBit.f k a0 = some r) :
  Calls Tryd.prog 92 #[.int .i64 a0] w fun e w' => e = .returned (.int .u64 r) ∧ Drawn0 w w' := by
 delta impl_roundBit.f at h
 have H := h
 clear h
 have H' := Aside0.mk H
 clear H
 go_enter Tryd.func92, Tryd.ntmps92
 go_wp2
 go_loopg [3, 5] k (fun kq v3 v5 w' => ∃ (x3_1 : Int) (x5_1 : Int), v3 = .int .i64 x3_1 ∧ v5 = .int .i64 x5_1 ∧ Aside0 (impl_roundBit.l0 kq x3_1 a0 x5_1 = some r) ∧ Aside0 (kq ≤ k) ∧ Drawn0 w w')
 case atStart => exact ⟨(1), (0), f0_, f0_, H', ⟨Nat.le_refl _⟩, d0_⟩
 case round =>
  clear H'
  obtain ⟨x3_1, x5_1, rfl, rfl, HA, HK1, ⟨m1, rfl⟩⟩ := hrel
  cases gk with
  | zero => exact absurd HA.out (by simp [impl_roundBit.l0])
  | succ k1 =>
   have H := HA.out
   clear HA
   simp only [impl_roundBit.l0] at H
   by_cases c2 : x5_1 < a0
   ·rw [if_pos c2] at H
    have c2b0 := decide_eq_true c2
    clear c2
    by_cases c3 : (wrap64 (x3_1 * 2)) ≥ 256
    ·rw [if_pos c3] at H
     have c3b0 := decide_eq_true c3
     clear c3
     have H' := Aside0.mk H
     clear H
     go_wp2
     go_roundg k1
     case measure => have := HK1.out; omega
     case rel => exact ⟨(Go.bits .and .i64 (Go.bits .xor .i64 (wrap64 (x3_1 * 2)) 113) 255), (wrap64 (x5_1 + 1)), f0_, f0_, H', ⟨by have := HK1.out; omega⟩, d0_⟩
    rw [if_neg c3] at H
    have c3b0 := decide_eq_false c3
    clear c3
    have H' := Aside0.mk H
    clear H
    go_wp2
    go_roundg k1
    case measure => have := HK1.out; omega
    case rel => exact ⟨(wrap64 (x3_1 * 2)), (wrap64 (x5_1 + 1)), f0_, f0_, H', ⟨by have := HK1.out; omega⟩, d0_⟩
   rw [if_neg c2] at H
   have c2b0 := decide_eq_false c2
   clear c2
   obtain rfl := Option.some.inj H
   go_wp2
   go_ret
   exact ⟨f0_, d0_⟩

/-! ### impl_roundLane: function 89 -/
def impl_roundLane.l0 : Nat → Int → Int → Int → Option (Int)
 | 0, _, _, _ => none
 | k + 1, x0, x3, x5 => if x5 < 7 then ((impl_roundBit.f k (wrap64 (x5 + (wrap64 (7 * x0))))).bind fun t485 => (if 0 ≤ x5 then (if 0 ≤ (IntKind.u64.wrap ((shl .u64 1 x5) - 1)) then (impl_roundLane.l0 k x0 (Go.bits .or .u64 x3 (shl .u64 t485 (IntKind.u64.wrap ((shl .u64 1 x5) - 1)))) (wrap64 (x5 + 1))) else (none)) else (none))) else (some x3)
def impl_roundLane.f (k : Nat) (a0 : Int) : Option (Int) := impl_roundLane.l0 k a0 0 0
theorem impl_roundLane.mono_l : ∀ k, (∀ y0 y1 y2, LeO (impl_roundLane.l0 k y0 y1 y2) (impl_roundLane.l0 (k + 1) y0 y1 y2))
 | 0 => fun _ _ _ r h => by simp [impl_roundLane.l0] at h
 | k + 1 => by
  have ih0 := impl_roundLane.mono_l k
  intros; unfold impl_roundLane.l0; exact o2_ ih0 impl_roundBit.mono
theorem impl_roundLane.mono : ∀ a0 k, LeO (impl_roundLane.f k a0) (impl_roundLane.f (k + 1) a0) := by
 intro a0 k
 have ih0 := impl_roundLane.mono_l k
 unfold impl_roundLane.f
 exact o2_ ih0 impl_roundBit.mono
theorem impl_roundLane.calls (k : Nat) (a0 : Int) (r : Int) (w : World) (h : impl_roundLane.f k a0 = some r) :
  Calls Tryd.prog 89 #[.int .i64 a0] w fun e w' => e = .returned (.int .u64 r) ∧ Drawn0 w w' := by
 delta impl_roundLane.f at h
 have H := h
 clear h
 have H' := Aside0.mk H
 clear H
 go_enter Tryd.func89, Tryd.ntmps89
 go_wp2
 repeat (go_quiet (fail); try go_wp2)
 go_loopg [3, 5] k (fun kq v3 v5 w' => ∃ (x3_1 : Int) (x5_1 : Int), v3 = .int .u64 x3_1 ∧ v5 = .int .i64 x5_1 ∧ Aside0 (impl_roundLane.l0 kq a0 x3_1 x5_1 = some r) ∧ Aside0 (kq ≤ k) ∧ Drawn0 w w')
 case atStart => exact ⟨(0), (0), f0_, f0_, H', ⟨Nat.le_refl _⟩, d0_⟩
 case round =>
  clear H'
  obtain ⟨x3_1, x5_1, rfl, rfl, HA, HK1, ⟨m1, rfl⟩⟩ := hrel
  cases gk with
  | zero => exact absurd HA.out (by simp [impl_roundLane.l0])
  | succ k1 =>
   have H := HA.out
   clear HA
   simp only [impl_roundLane.l0] at H
   by_cases c2 : x5_1 < 7
   rotate_left
   ·rw [if_neg c2] at H
    have c2b0 := decide_eq_false c2
    clear c2
    obtain rfl := Option.some.inj H
    go_wp2
    repeat (go_quiet (fail); try go_wp2)
    go_ret
    exact ⟨f0_, d0_⟩
   rw [if_pos c2] at H
   have c2b0 := decide_eq_true c2
   clear c2
   obtain ⟨t485, A3, H⟩ := bN_ H
   obtain ⟨c4, H⟩ := iN_ H
   have c4b0 := eq_true c4
   have c4b1 := decide_eq_true c4
   clear c4
   obtain ⟨ji5, hji5⟩ : ∃ j_ : Int, (shl .u64 1 x5_1) = j_ := ⟨_, rfl⟩
   first | rw [hji5] at H | simp only [hji5] at H
   (try rw [hji5] at A3)
   have hji5_ : (IntKind.u64.wrap (1 * 2 ^ min x5_1.toNat 64)) = ji5 := hji5
   have hji5z : x5_1 ≤ 64 → (IntKind.u64.wrap (1 * 2 ^ x5_1.toNat)) = ji5 := shl_small hji5
   have hji5u : (IntKind.u64.wrap (2 ^ min x5_1.toNat 64)) = ji5 := by have h_ := hji5_; rw [Int.one_mul] at h_; exact h_
   have hji5v : x5_1 ≤ 64 → (IntKind.u64.wrap (2 ^ x5_1.toNat)) = ji5 := fun hle_ => by have h_ := hji5z hle_; rw [Int.one_mul] at h_; exact h_
   obtain ⟨ji6, hji6⟩ : ∃ j_ : Int, (IntKind.u64.wrap ((ji5) - 1)) = j_ := ⟨_, rfl⟩
   first | rw [hji6] at H | simp only [hji6] at H
   (try rw [hji6] at A3)
   obtain ⟨c7, H⟩ := iN_ H
   have c7b0 := eq_true c7
   have c7b1 := decide_eq_true c7
   clear c7
   obtain ⟨ji8, hji8⟩ : ∃ j_ : Int, (shl .u64 t485 (ji6)) = j_ := ⟨_, rfl⟩
   first | rw [hji8] at H | simp only [hji8] at H
   (try rw [hji8] at A3)
   have hji8_ : (IntKind.u64.wrap (t485 * 2 ^ min (ji6).toNat 64)) = ji8 := hji8
   have hji8z : (ji6) ≤ 64 → (IntKind.u64.wrap (t485 * 2 ^ (ji6).toNat)) = ji8 := shl_small hji8
   have H' := Aside0.mk H
   clear H
   go_wp2_with (first | (go_at_call 92; (with_reducible refine (impl_roundBit.calls k1 (wrap64 (x5_1 + (wrap64 (7 * a0)))) t485 _ A3.out).mono ?_); rintro e w' ⟨rfl, ⟨nd, rfl⟩⟩; (try first | exact ⟨rfl, _, World.drewN_drewN _ _ _⟩ | exact ⟨rfl, _, Eq.trans (World.drewN_drewN _ _ _) (congrArg (World.drewN _) (Nat.add_assoc _ _ _))⟩)))
   repeat (go_quiet (first | (go_at_call 92; (with_reducible refine (impl_roundBit.calls k1 (wrap64 (x5_1 + (wrap64 (7 * a0)))) t485 _ A3.out).mono ?_); rintro e w' ⟨rfl, ⟨nd, rfl⟩⟩; (try first | exact ⟨rfl, _, World.drewN_drewN _ _ _⟩ | exact ⟨rfl, _, Eq.trans (World.drewN_drewN _ _ _) (congrArg (World.drewN _) (Nat.add_assoc _ _ _))⟩))); try go_wp2)
   go_roundg k1
   case measure => have := HK1.out; omega
   case rel => exact ⟨(Go.bits .or .u64 x3_1 (ji8)), (wrap64 (x5_1 + 1)), (by first | rfl | (simp; done) | (simp only [← hji8] <;> (first | rfl | simp)) | (simp [*]; done)), f0_, H', ⟨by have := HK1.out; omega⟩, d0_⟩

-- NOT PRINTED: function 80 (impl_permuted)

-- NOT PRINTED: function 81 (impl_lanesOf)

-- NOT PRINTED: function 82 (impl_lanes_text)

-- GIVEN: function 74 (impl_Permute)

-- GIVEN: function 73 (impl_absorbed)

/-! ### impl_oneByte: function 63 -/
def impl_oneByte.f (a0 : Int) : Option (ByteArray) := some (strOfNums (([(a0) % 256] : List Int)))
theorem impl_oneByte.calls (a0 : Int) (r : ByteArray) (w : World) (h : impl_oneByte.f a0 = some r) :
  Calls Tryd.prog 63 #[.int .i64 a0] w fun e w' => e = .returned (.string r) ∧ Below w.heap.size w w' := by
 have HB := Aside0.mk (Below.refl w.heap.size w)
 delta impl_oneByte.f at h
 have H := h
 clear h
 obtain ⟨y500, hy500⟩ : ∃ y_ : List Int, y_ = (([(a0) % 256] : List Int)) := ⟨_, rfl⟩
 first | replace H := yb_ hy500 H | rw [← hy500] at H
 have Ny500 := Aside0.mk hy500
 clear hy500
 obtain rfl := Option.some.inj H
 go_enter Tryd.func63, Tryd.ntmps63
 go_wp2_with (first | ((with_reducible refine gate_dst (N := 5) rfl ?_); refine Kd.R_lit (Kd.int .u8) _ 5 ?hg (N := 5) ?hd (xs := ([(a0) % 256] : List Int)) (inner := [.int .u8 ((a0) % 256)]) (ok := fun _ => True) (okp := fun _ => True) ?hr ?hp (fun _ hk => hk) trivial (Below.refl _ _) (Nat.le_refl _) (by simp) ?_; (case hd => rfl); (case hg => rfl); (case hr => first | (go_simp; done) | (go_simp; rfl)); (case hp => exact (Reps.one (show Kd.M (Kd.int .u8) _ _ _ ((a0) % 256) [.int .u8 ((a0) % 256)] from rfl) (Reps.none _ _))); intro v501 w2 ho3 hb hg_ hnew_; clear hg_ hnew_; (first | rw [← Ny500.out] at ho3 | (simp only [Int.reduceToNat] at ho3; rw [← Ny500.out] at ho3)); have n_ := b_ (Kd.R_lower ho3 (below_size (hB_))) <| c_ (below_step (hB_) hb); clear HB; obtain ⟨HO502, HB⟩ := n_; clear hb ho3; have hcv4 := own_string (P := Tryd.prog) Tryd.underlying62 Tryd.underlying5 Tryd.underlying9 (Kd.own_of_R HO502.out)))
 go_ret
 exact ⟨f1_, hB_⟩

/-! ### impl_packed: function 39 -/
mutual
def impl_packed.l0 : Nat → Int → List Int → List Int → Int → Int → Option (ByteArray)
 | 0, _, _, _, _, _ => none
 | k + 1, x1, x5, x17, x18, x19 => if x19 < x18 then (if 0 ≤ x19 then (if x19 < (x17.length : Int) then (impl_packed.l1 k x1 x5 x19 (rd x17 x19) x17 x18 x19 x1 0) else (none)) else (none)) else (some (strOfNums x5))
def impl_packed.l1 : Nat → Int → List Int → Int → Int → List Int → Int → Int → Int → Int → Option (ByteArray)
 | 0, _, _, _, _, _, _, _, _, _ => none
 | k + 1, x1, x5, x6, x7, x17, x18, x19, x24, x25 => if x25 < x24 then (if 0 ≤ (wrap64 (Int.tdiv (wrap64 ((wrap64 (x6 * x1)) + x25)) 8)) then (if (wrap64 (Int.tdiv (wrap64 ((wrap64 (x6 * x1)) + x25)) 8)) < (x5.length : Int) then (if 0 ≤ x25 then (if 0 ≤ (Int.tmod (wrap64 ((wrap64 (x6 * x1)) + x25)) 8) then (impl_packed.l1 k x1 (x5.set ((wrap64 (Int.tdiv (wrap64 ((wrap64 (x6 * x1)) + x25)) 8)) : Int).toNat (Go.bits .or .u8 (rd x5 (wrap64 (Int.tdiv (wrap64 ((wrap64 (x6 * x1)) + x25)) 8))) (shl .u8 ((Go.bits .and .i64 (shr .i64 x7 x25) 1) % 256) (Int.tmod (wrap64 ((wrap64 (x6 * x1)) + x25)) 8)))) x6 x7 x17 x18 x19 x24 (wrap64 (x25 + 1))) else (none)) else (none)) else (none)) else (none)) else (impl_packed.l0 k x1 x5 x17 x18 (wrap64 (x19 + 1)))
end
def impl_packed.f (k : Nat) (l0 : List Int) (a1 : Int) : Option (ByteArray) := if 0 ≤ (wrap64 (Int.tdiv (wrap64 ((wrap64 ((l0.length : Int) * a1)) + 7)) 8)) then (if (wrap64 (Int.tdiv (wrap64 ((wrap64 ((l0.length : Int) * a1)) + 7)) 8) : Int).toNat ≤ 281474976710656 then (impl_packed.l0 k a1 (List.replicate (wrap64 (Int.tdiv (wrap64 ((wrap64 ((l0.length : Int) * a1)) + 7)) 8) : Int).toNat 0) l0 (l0.length : Int) 0) else (none)) else (none)
theorem impl_packed.mono_l : ∀ k, (∀ y0 y1 y2 y3 y4, LeO (impl_packed.l0 k y0 y1 y2 y3 y4) (impl_packed.l0 (k + 1) y0 y1 y2 y3 y4)) ∧ (∀ y0 y1 y2 y3 y4 y5 y6 y7 y8, LeO (impl_packed.l1 k y0 y1 y2 y3 y4 y5 y6 y7 y8) (impl_packed.l1 (k + 1) y0 y1 y2 y3 y4 y5 y6 y7 y8))
 | 0 => ⟨fun _ _ _ _ _ r h => by simp [impl_packed.l0] at h, fun _ _ _ _ _ _ _ _ _ r h => by simp [impl_packed.l1] at h⟩
 | k + 1 => by
  obtain ⟨ih0, ih1⟩ := impl_packed.mono_l k
  refine ⟨?_, ?_⟩ <;> (intros; (first | unfold impl_packed.l0 | unfold impl_packed.l1); exact o2_ ih0 ih1)
theorem impl_packed.mono : ∀ a0 a1 k, LeO (impl_packed.f k a0 a1) (impl_packed.f (k + 1) a0 a1) := by
 intro a0 a1 k
 obtain ⟨ih0, ih1⟩ := impl_packed.mono_l k
 unfold impl_packed.f
 exact o2_ ih0 ih1
def impl_packed.T9 : Bool × List (List Nat × List Nat) := (true, [([], []), ([], []), ([1], [1]), ([0, 2], [0, 2]), ([3], [3]), ([], []), ([], []), ([5, 6], [5, 6]), ([7], [7]), ([8], [8]), ([], []), ([10], [10]), ([9, 11], [9, 11]), ([4, 12], [4, 12]), ([0, 2, 0, 1, 2, 3, 4, 5, 6, 7, 8, 9, 10, 11, 12, 13], [0, 2]), ([14, 13, 0, 1, 2, 3, 4, 5, 6, 7, 8, 9, 10, 11, 12, 13], [13, 14])])
def impl_packed.B9 : List Nat := [0, 0, 2, 7, 15, 0, 0, 96, 224, 480, 0, 1024, 4064, 8191, 16383, 32767]
theorem impl_packed.tab9 : rtab .any (opsOf Tryd.f39 9) = impl_packed.T9 := by kernel_rfl
theorem impl_packed.bits9 : waitsOk impl_packed.T9.2 impl_packed.B9 = true := by kernel_rfl
theorem impl_packed.calls (k : Nat) (A0 : Option Addr) (c0 : Nat) (l0 : List Int) (a1 : Int) (r : ByteArray) (w : World) (hr0 : Kd.C (Kd.int .i64) w A0 l0.length l0) (hc0 : l0.length ≤ c0) (h : impl_packed.f k l0 a1 = some r) :
  Calls Tryd.prog 39 #[.slice A0 l0.length c0, .int .i64 a1] w fun e w' => e = .returned (.string r) ∧ Below w.heap.size w w' := by
 have HR0 := Aside0.mk hr0
 have HC0 := Aside0.mk hc0
 clear hr0 hc0
 have HB := Aside0.mk (Below.refl w.heap.size w)
 delta impl_packed.f at h
 have H := h
 clear h
 obtain ⟨ji3, hji3⟩ : ∃ j_ : Int, (wrap64 (Int.tdiv (wrap64 ((wrap64 ((l0.length : Int) * a1)) + 7)) 8)) = j_ := ⟨_, rfl⟩
 first | rw [hji3] at H | simp only [hji3] at H
 have hji3w : (IntKind.i64.wrap (Int.tdiv (wrap64 ((wrap64 ((l0.length : Int) * a1)) + 7)) 8)) = ji3 := (i64_w _).trans hji3
 obtain ⟨c4, H⟩ := iN_ H
 have c4b0 := eq_true c4
 have c4b1 := decide_eq_true c4
 clear c4
 obtain ⟨c5, H⟩ := iN_ H
 have c5b0 := eq_true c5
 have c5b1 := decide_eq_true c5
 clear c5
 obtain ⟨y517, hy517⟩ : ∃ y_ : List Int, y_ = (List.replicate (ji3 : Int).toNat 0) := ⟨_, rfl⟩
 first | replace H := yb_ hy517 H | rw [← hy517] at H
 have Ny517 := Aside0.mk hy517
 clear hy517
 have H' := Aside0.mk H
 clear H
 go_enter Tryd.func39, Tryd.ntmps39
 go_wp2_with (first | ((with_reducible refine gate_dst (N := 16) rfl ?_); refine Kd.R_make (Kd.int .u8) _ 5 rfl (N := 16) rfl 62 _ _ rfl ji3 rfl rfl Tryd.underlying62 (.int .u8 0) 1 info5 rfl (by decide) (by omega) 0 (ok := fun _ => True) (okp := fun _ => True) rfl (fun _ hk => hk) trivial oD_ (Nat.le_trans (Nat.mul_le_mul_right _ (oD_ : ji3.toNat ≤ 281474976710656)) (by omega)) (Below.refl _ _) (Nat.le_refl _) ?_; intro v518 w6 ho7 hb hg_ hnew_; clear hg_ hnew_; (first | rw [← Ny517.out] at ho7 | (simp only [Int.reduceToNat] at ho7; rw [← Ny517.out] at ho7)); have n_ := b_ (Kd.R_lower ho7 (below_size (hB_))) <| c_ (below_step (hB_) hb); clear HB; obtain ⟨HO519, HB⟩ := n_; clear hb ho7))
 go_loopg [19] k (fun kq v19 w' => ∃ (x5_1 : List Int) (x19_1 : Int), v19 = .int .i64 x19_1 ∧ Aside0 (impl_packed.l0 kq a1 x5_1 l0 (l0.length : Int) x19_1 = some r) ∧ Aside0 (kq ≤ k) ∧ Aside0 (Kd.R (Kd.int .u8) 5 w' w.heap.size (fun _ => True) v518 x5_1) ∧ Aside0 (Below w.heap.size w w'))
 case atStart => exact ⟨(y517), (0), f0_, H', ⟨Nat.le_refl _⟩, ⟨rR_ HO519.out⟩, ⟨hB_⟩⟩
 case round =>
  clear H'
  obtain ⟨x5_1, x19_1, rfl, HA, HK1, HO_5, HB⟩ := hrel
  cases gk with
  | zero => exact absurd HA.out (by simp [impl_packed.l0])
  | succ k1 =>
   have H := HA.out
   clear HA
   simp only [impl_packed.l0] at H
   by_cases c8 : x19_1 < (l0.length : Int)
   rotate_left
   ·rw [if_neg c8] at H
    have c8b0 := decide_eq_false c8
    clear c8
    obtain rfl := Option.some.inj H
    have hcv24 := own_string (P := Tryd.prog) Tryd.underlying62 Tryd.underlying5 Tryd.underlying9 (Kd.own_of_R HO_5.out)
    go_wp2
    go_ret
    exact ⟨by first | rfl | (simp [errW_none, errW_some] <;> rfl) | (simp only [← hji3]; first | rfl | (simp [errW_none, errW_some] <;> rfl)) | (simp [*, errW_none, errW_some] <;> rfl), hB_⟩
   rw [if_pos c8] at H
   have c8b0 := decide_eq_true c8
   clear c8
   obtain ⟨c9b0, H⟩ := iD_ H
   obtain ⟨c10b0, H⟩ := iD_ H
   have H' := Aside0.mk H
   clear H
   have p520 : 0 ≤ (x19_1 : Int) := oD_
   have q520 : x19_1 < (l0.length : Int) := oD_
   obtain ⟨ad520, e520, hx520_0⟩ := Kd.at_int HR0.out x19_1 p520 q520
   cases e520
   replace hx520_0 := (HB.out.cell (World.block_lt_of_cell? w _ hx520_0)).trans hx520_0
   replace p520 := eq_true p520
   replace q520 := eq_true q520
   go_wp2
   go_loopg [25] k1 (fun kq v25 w' => ∃ (x5_2 : List Int) (x25_2 : Int), v25 = .int .i64 x25_2 ∧ Aside0 (impl_packed.l1 kq a1 x5_2 x19_1 (rd l0 x19_1) l0 (l0.length : Int) x19_1 a1 x25_2 = some r) ∧ Aside0 (kq ≤ k1) ∧ Aside0 (Kd.R (Kd.int .u8) 5 w' w.heap.size (fun _ => True) v518 x5_2) ∧ Aside0 (Below w.heap.size w w'))
   case atStart => exact ⟨(x5_1), (0), f0_, H', ⟨Nat.le_refl _⟩, ⟨rR_ HO_5.out⟩, ⟨hB_⟩⟩
   case round =>
    clear H'
    obtain ⟨x5_2, x25_2, rfl, HA, HK2, HO_5, HB⟩ := hrel
    cases gk with
    | zero => exact absurd HA.out (by simp [impl_packed.l1])
    | succ k2 =>
     have H := HA.out
     clear HA
     simp only [impl_packed.l1] at H
     by_cases c11 : x25_2 < a1
     rotate_left
     ·rw [if_neg c11] at H
      have c11b0 := decide_eq_false c11
      clear c11
      have H' := Aside0.mk H
      clear H
      go_wp2
      go_roundg k2
      case measure => have := HK1.out; have := HK2.out; omega
      case rel => exact ⟨(x5_2), (wrap64 (x19_1 + 1)), f0_, H', ⟨by have := HK1.out; have := HK2.out; omega⟩, ⟨rR_ HO_5.out⟩, ⟨hB_⟩⟩
     rw [if_pos c11] at H
     have c11b0 := decide_eq_true c11
     clear c11
     obtain ⟨ji12, hji12⟩ : ∃ j_ : Int, (wrap64 (Int.tdiv (wrap64 ((wrap64 (x19_1 * a1)) + x25_2)) 8)) = j_ := ⟨_, rfl⟩
     first | rw [hji12] at H | simp only [hji12] at H
     have hji12w : (IntKind.i64.wrap (Int.tdiv (wrap64 ((wrap64 (x19_1 * a1)) + x25_2)) 8)) = ji12 := (i64_w _).trans hji12
     obtain ⟨c13b0, H⟩ := iD_ H
     obtain ⟨c14b0, H⟩ := iD_ H
     obtain ⟨c15, H⟩ := iN_ H
     have c15b0 := eq_true c15
     have c15b1 := decide_eq_true c15
     clear c15
     obtain ⟨ji16, hji16⟩ : ∃ j_ : Int, (shr .i64 (rd l0 x19_1) x25_2) = j_ := ⟨_, rfl⟩
     first | rw [hji16] at H | simp only [hji16] at H
     have hji16_ : ((rd l0 x19_1) / 2 ^ min x25_2.toNat 64) = ji16 := hji16
     have hji16z : x25_2 ≤ 64 → ((rd l0 x19_1) / 2 ^ x25_2.toNat) = ji16 := shr_small hji16
     obtain ⟨ji17, hji17⟩ : ∃ j_ : Int, (Int.tmod (wrap64 ((wrap64 (x19_1 * a1)) + x25_2)) 8) = j_ := ⟨_, rfl⟩
     first | rw [hji17] at H | simp only [hji17] at H
     obtain ⟨c18, H⟩ := iN_ H
     have c18b0 := eq_true c18
     have c18b1 := decide_eq_true c18
     clear c18
     obtain ⟨ji19, hji19⟩ : ∃ j_ : Int, (shl .u8 ((Go.bits .and .i64 (ji16) 1) % 256) (ji17)) = j_ := ⟨_, rfl⟩
     first | rw [hji19] at H | simp only [hji19] at H
     have hji19_ : (IntKind.u8.wrap (((Go.bits .and .i64 (ji16) 1) % 256) * 2 ^ min (ji17).toNat 8)) = ji19 := hji19
     have hji19z : (ji17) ≤ 8 → (IntKind.u8.wrap (((Go.bits .and .i64 (ji16) 1) % 256) * 2 ^ (ji17).toNat)) = ji19 := shl_small hji19
     have hji19k : ((((Go.bits .and .i64 (ji16) 1) % 256) * 2 ^ min (ji17).toNat 8) % 256) = ji19 := (IntKind.wrap_u8 _).symm.trans hji19_
     have hji19n : (ji17) ≤ 8 → ((((Go.bits .and .i64 (ji16) 1) % 256) * 2 ^ (ji17).toNat) % 256) = ji19 := fun h_ => (IntKind.wrap_u8 _).symm.trans (hji19z h_)
     obtain ⟨y522, hy522⟩ : ∃ y_ : List Int, y_ = (x5_2.set ((ji12) : Int).toNat (Go.bits .or .u8 (rd x5_2 (ji12)) (ji19))) := ⟨_, rfl⟩
     first | replace H := yb_ hy522 H | rw [← hy522] at H
     have Ny522 := Aside0.mk hy522
     clear hy522
     have H' := Aside0.mk H
     clear H
     try go_wp2
     have n_ := b_ (Kd.R_drew HO_5.out) <| c_ (below_drew1 HB.out)
     clear HO_5 HB
     obtain ⟨HO_5, HB⟩ := n_
     obtain ⟨Ao22, co22, eo22⟩ := Kd.R_slice HO_5.out
     (first | subst eo22 | (injection eo22 with f1_ f2_ f3_; have f4_ := f1_.symm; have f5_ := f3_.symm; clear f1_ f2_ f3_; subst f4_; subst f5_))
     have p521 : 0 ≤ ((ji12) : Int) := oD_
     have q521 : (ji12) < (x5_2.length : Int) := oD_
     obtain ⟨ad521, e521, hx521_0⟩ := Kd.at_int (Kd.R_reads' HO_5.out).2.2 (ji12) p521 q521
     cases e521
     replace p521 := eq_true p521
     replace q521 := eq_true q521
     have p20 : 0 ≤ ((ji12) : Int) := oD_
     have q20 : ((ji12) : Int) < ((x5_2.length : Int) : Int) := oD_
     obtain ⟨go20, co20, eo20, gb20, gl20, cl20, HG20⟩ := Kd.R_form HO_5.out (by omega)
     (first | cases eo20 | (injection eo20 with ea_ en_ ec_; (first | subst ea_ | (injection ea_ with ea_; subst ea_)); subst ec_; clear en_))
     have GB20 := Aside0.mk gb20
     have GG20 := Aside0.mk HG20
     clear gb20 gl20 HG20
     (first | simp only [add_plain] at hx521_0 | skip)
     obtain ⟨hx20_0, hf20_0⟩ := Kd.R_celln 0 HO_5.out ((ji12) : Int) p20 q20
     replace p20 := eq_true p20
     replace q20 := eq_true q20
     have HP23 := Kd.R_putn HO_5.out ((ji12) : Int) (Go.bits .or .u8 (rd x5_2 (ji12)) (ji19))
     rw [← Ny522.out] at HP23
     have HQ23 := Aside0.mk HP23
     clear HP23
     refine start_ (n := 16) (S := fun w' => w'.cell? ⟨go20, ((ji12)).toNat, none⟩ = some (.int .u8 (rd x5_2 (ji12)))) (ds := [15]) (bb_ 16 0) (by kernel_rfl) rfl rfl (hx521_0) (fun hHeld => ?_); refine with_tabW impl_packed.tab9 impl_packed.bits9 (fun HT_ HW_ => ?_)
     generalize wr.drew = w21 at HO_5 HB GG20 HQ23 hf20_0 hx20_0 hx521_0 hHeld ⊢
     refine pS_ 0 33 (bb_ 16 1) HT_.out ?_
     refine pS_ 1 34 (bb_ 16 3) HT_.out ?_
     refine pS_ 2 35 (bb_ 16 7) HT_.out ?_
     refine pS_ 3 36 (bb_ 16 15) HT_.out ?_
     refine pS_ 5 38 (bb_ 16 47) HT_.out ?_
     refine pS_ 6 39 (bb_ 16 111) HT_.out ?_
     refine pS_ 7 40 (bb_ 16 239) HT_.out ?_
     refine pS_ 8 41 (bb_ 16 495) HT_.out ?_
     refine pS_ 9 42 (bb_ 16 1007) HT_.out ?_
     refine pS_ 10 43 (bb_ 16 2031) HT_.out ?_
     refine pS_ 11 44 (bb_ 16 4079) HT_.out ?_
     refine pS_ 12 45 (bb_ 16 8175) HT_.out ?_
     refine tS_ 4 37 (bb_ 16 8191) (take_ofW HT_.out HW_.out (by kernel_rfl)) hHeld ?_
     refine pS_ 13 46 (bb_ 16 16383) HT_.out ?_
     refine pS_ 14 47 (bb_ 16 32767) HT_.out ?_
     refine last_ (i := 15) (N := none) (bb_ 16 65535) rfl rfl (one_of HT_.out (by kernel_rfl)) (by decide) (fun K hK => ?_)
     refine skip_ (w1 := ?_) (by rfl) rfl ?_ ?_
     rotate_left
     ·go_simp
      rfl
     refine hK.out _ _ ?_
     clear hK K
     refine done_ (done_of HT_.out (by kernel_rfl)) ?_
     try go_wp2
     (try simp only [hji19k])
     go_roundg k2
     case measure => have := HK1.out; have := HK2.out; omega
     case rel => exact ⟨(y522), (wrap64 (x25_2 + 1)), f0_, H', ⟨by have := HK1.out; have := HK2.out; omega⟩, ⟨rR_ HQ23.out⟩, ⟨hS_ GB20.out⟩⟩

/-! ### impl_PolyBytes: function 17 -/
def impl_PolyBytes.f (k : Nat) (l0 : List Int) : Option (ByteArray) := (impl_PolyOk.f k l0).bind fun t523 => (if t523 = true then ((impl_packed.f k l0 12).bind fun t524 => (some t524)) else (some (⟨#[]⟩ : ByteArray)))
theorem impl_PolyBytes.mono : ∀ a0 k, LeO (impl_PolyBytes.f k a0) (impl_PolyBytes.f (k + 1) a0) := by
 intro a0 k
 unfold impl_PolyBytes.f
 exact o2_ impl_PolyOk.mono impl_packed.mono
theorem impl_PolyBytes.calls (k : Nat) (A0 : Option Addr) (c0 : Nat) (l0 : List Int) (r : ByteArray) (w : World) (hr0 : Kd.C (Kd.int .i64) w A0 l0.length l0) (hc0 : l0.length ≤ c0) (h : impl_PolyBytes.f k l0 = some r) :
  Calls Tryd.prog 17 #[.slice A0 l0.length c0] w fun e w' => e = .returned (.string r) ∧ Below w.heap.size w w' := by
 have HR0 := Aside0.mk hr0
 have HC0 := Aside0.mk hc0
 clear hr0 hc0
 have HB := Aside0.mk (Below.refl w.heap.size w)
 delta impl_PolyBytes.f at h
 have H := h
 clear h
 obtain ⟨t523, A2, H⟩ := bN_ H
 by_cases c3 : t523 = true
 ·subst c3
  replace H := iT_ H
  obtain ⟨t524, A4, H⟩ := bN_ H
  obtain rfl := Option.some.inj H
  go_enter Tryd.func17, Tryd.ntmps17
  go_wp2_with (first | ((with_reducible refine gate_callee (f := 38) rfl ?_); refine goesL_ (some 4) rfl rfl Tryd.func38 (by kernel_rfl) rfl #[.slice A0 l0.length c0] rfl aM_ ?_; (with_reducible refine (impl_PolyOk.calls k _ _ l0 true _ ?side1 ?side2 A2.out).mono ?_); (case side1 => exact cR_ HR0.out); (case side2 => exact HC0.out); rintro e w' ⟨rfl, ⟨nd, rfl⟩⟩; refine ⟨_, rfl, ?_⟩) | ((with_reducible refine gate_callee (f := 39) rfl ?_); refine goesL_ (some 7) rfl rfl Tryd.func39 (by kernel_rfl) rfl #[.slice A0 l0.length c0, .int .i64 12] rfl aM_ ?_; (with_reducible refine (impl_packed.calls k _ _ l0 12 t524 _ ?side1 ?side2 A4.out).mono ?_); (case side1 => exact cR_ HR0.out); (case side2 => exact HC0.out); rintro e w5 ⟨rfl, hb⟩; refine ⟨_, rfl, ?_⟩; replace HB := Aside0.mk (below_step (hB_) hb); (try clear hb)))
  go_ret
  exact ⟨f1_, hB_⟩
 ·replace c3 := Bool.eq_false_iff.mpr c3
  subst c3
  replace H := iF_ H
  obtain rfl := Option.some.inj H
  go_enter Tryd.func17, Tryd.ntmps17
  go_wp2_with (first | ((with_reducible refine gate_callee (f := 38) rfl ?_); refine goesL_ (some 4) rfl rfl Tryd.func38 (by kernel_rfl) rfl #[.slice A0 l0.length c0] rfl aM_ ?_; (with_reducible refine (impl_PolyOk.calls k _ _ l0 false _ ?side1 ?side2 A2.out).mono ?_); (case side1 => exact cR_ HR0.out); (case side2 => exact HC0.out); rintro e w' ⟨rfl, ⟨nd, rfl⟩⟩; refine ⟨_, rfl, ?_⟩))
  go_ret
  exact ⟨f1_, hB_⟩

/-! ### impl_PolyAdd_1: function 41 -/
def impl_PolyAdd_1.f (a0 : Int) (a1 : Int) : Option (Int) := some (wrap64 (a0 + a1))
theorem impl_PolyAdd_1.calls (a0 : Int) (a1 : Int) (r : Int) (w : World) (h : impl_PolyAdd_1.f a0 a1 = some r) :
  Calls Tryd.prog 41 #[.int .i64 a0, .int .i64 a1] w fun e w' => e = .returned (.int .i64 r) ∧ Drawn0 w w' := by
 delta impl_PolyAdd_1.f at h
 have H := h
 clear h
 obtain rfl := Option.some.inj H
 go_enter Tryd.func41, Tryd.ntmps41
 go_wp2
 go_ret
 exact ⟨f0_, d0_⟩

/-! ### impl_each_PolyAdd_1: function 40 -/
mutual
def impl_each_PolyAdd_1.j0 : Nat → List Int → List Int → Bool → Option (List Int)
 | 0, _, _, _ => none
 | k + 1, x0, x1, x16 => if x16 = true then (some ([] : List Int)) else (if 256 ≤ 35184372088832 then ((some (List.replicate 256 0 : List Int)).bind fun y527 => (impl_each_PolyAdd_1.l0 k x0 x1 y527 (y527.length : Int) 0)) else (none))
def impl_each_PolyAdd_1.l0 : Nat → List Int → List Int → List Int → Int → Int → Option (List Int)
 | 0, _, _, _, _, _ => none
 | k + 1, x0, x1, x7, x19, x20 => if x20 < x19 then (if 0 ≤ x20 then (if x20 < (x0.length : Int) then (if x20 < (x1.length : Int) then ((impl_PolyAdd_1.f (rd x0 x20) (rd x1 x20)).bind fun t532 => ((impl_modQ.f t532).bind fun t533 => (if x20 < (x7.length : Int) then (impl_each_PolyAdd_1.l0 k x0 x1 (x7.set (x20 : Int).toNat t533) x19 (wrap64 (x20 + 1))) else (none)))) else (none)) else (none)) else (none)) else (some x7)
end
def impl_each_PolyAdd_1.f (k : Nat) (l0 : List Int) (l1 : List Int) : Option (List Int) := (impl_PolyOk.f k l0).bind fun t525 => (if t525 = true then ((impl_PolyOk.f k l1).bind fun t526 => (impl_each_PolyAdd_1.j0 k l0 l1 (!t526))) else (impl_each_PolyAdd_1.j0 k l0 l1 true))
theorem impl_each_PolyAdd_1.mono_l : ∀ k, (∀ y0 y1 y2, LeO (impl_each_PolyAdd_1.j0 k y0 y1 y2) (impl_each_PolyAdd_1.j0 (k + 1) y0 y1 y2)) ∧ (∀ y0 y1 y2 y3 y4, LeO (impl_each_PolyAdd_1.l0 k y0 y1 y2 y3 y4) (impl_each_PolyAdd_1.l0 (k + 1) y0 y1 y2 y3 y4))
 | 0 => ⟨fun _ _ _ r h => by simp [impl_each_PolyAdd_1.j0] at h, fun _ _ _ _ _ r h => by simp [impl_each_PolyAdd_1.l0] at h⟩
 | k + 1 => by
  obtain ⟨ih0, ih1⟩ := impl_each_PolyAdd_1.mono_l k
  refine ⟨?_, ?_⟩ <;> (intros; (first | unfold impl_each_PolyAdd_1.j0 | unfold impl_each_PolyAdd_1.l0); exact o3_ ih0 ih1 impl_PolyOk.mono)
theorem impl_each_PolyAdd_1.mono : ∀ a0 a1 k, LeO (impl_each_PolyAdd_1.f k a0 a1) (impl_each_PolyAdd_1.f (k + 1) a0 a1) := by
 intro a0 a1 k
 obtain ⟨ih0, ih1⟩ := impl_each_PolyAdd_1.mono_l k
 unfold impl_each_PolyAdd_1.f
 exact o3_ ih0 ih1 impl_PolyOk.mono
def impl_each_PolyAdd_1.T7 : Bool × List (List Nat × List Nat) := (true, [([], []), ([], []), ([], []), ([], []), ([], []), ([3, 4], [3, 4]), ([5], [5]), ([], []), ([], []), ([7, 8], [7, 8]), ([9], [9]), ([2, 6, 10], [2, 6, 10]), ([11, 11], [11]), ([0, 1, 0, 1, 2, 3, 4, 5, 6, 7, 8, 9, 10, 11, 12], [0, 1]), ([13, 12, 12, 0, 1, 2, 3, 4, 5, 6, 7, 8, 9, 10, 11, 12], [12, 13])])
def impl_each_PolyAdd_1.B7 : List Nat := [0, 0, 0, 0, 0, 24, 56, 0, 0, 384, 896, 2044, 4092, 8191, 16383]
theorem impl_each_PolyAdd_1.tab7 : rtab .any (opsOf Tryd.f40 7) = impl_each_PolyAdd_1.T7 := by kernel_rfl
theorem impl_each_PolyAdd_1.bits7 : waitsOk impl_each_PolyAdd_1.T7.2 impl_each_PolyAdd_1.B7 = true := by kernel_rfl
theorem impl_each_PolyAdd_1.calls (k : Nat) (A0 : Option Addr) (c0 : Nat) (l0 : List Int) (A1 : Option Addr) (c1 : Nat) (l1 : List Int) (r : List Int) (w : World) (hr0 : Kd.C (Kd.int .i64) w A0 l0.length l0) (hc0 : l0.length ≤ c0) (hr1 : Kd.C (Kd.int .i64) w A1 l1.length l1) (hc1 : l1.length ≤ c1) (h : impl_each_PolyAdd_1.f k l0 l1 = some r) :
  Calls Tryd.prog 40 #[.slice A0 l0.length c0, .slice A1 l1.length c1, .func (.func 41) #[] #[]] w fun e w' => ∃ v0_ : Value, e = .returned (v0_) ∧ Kd.R (Kd.int .i64) 3 w' w.heap.size (fun _ => True) v0_ r ∧ Below w.heap.size w w' := by
 have HR0 := Aside0.mk hr0
 have HC0 := Aside0.mk hc0
 clear hr0 hc0
 have HR1 := Aside0.mk hr1
 have HC1 := Aside0.mk hc1
 clear hr1 hc1
 have HB := Aside0.mk (Below.refl w.heap.size w)
 delta impl_each_PolyAdd_1.f at h
 have H := h
 clear h
 have HC3 := Aside0.mk H
 clear H
 go_enter Tryd.func40, Tryd.ntmps40
 go_upto_region 1 with (fail)
 go_cut [16] (fun v16 wc => ∃ (kq : Nat) (x16_2 : Bool), v16 = .bool x16_2 ∧ Aside0 (impl_each_PolyAdd_1.j0 kq l0 l1 x16_2 = some r) ∧ Aside0 (kq ≤ k) ∧ Aside0 (Below w.heap.size w wc))
 case first =>
  have H := HC3.out
  clear HC3
  obtain ⟨t525, A4, H⟩ := bN_ H
  by_cases c5 : t525 = true
  ·subst c5
   replace H := iT_ H
   obtain ⟨t526, A6, H⟩ := bN_ H
   have H' := Aside0.mk H
   clear H
   go_wp2_with (first | ((with_reducible refine gate_callee (f := 38) rfl ?_); refine goesL_ (some 10) rfl rfl Tryd.func38 (by kernel_rfl) rfl #[.slice A0 l0.length c0] rfl aM_ ?_; (with_reducible refine (impl_PolyOk.calls k _ _ l0 true _ ?side1 ?side2 A4.out).mono ?_); (case side1 => exact cR_ (Kd.C_below HR0.out HB.out)); (case side2 => exact HC0.out); rintro e w' ⟨rfl, ⟨nd, rfl⟩⟩; refine ⟨_, rfl, ?_⟩) | (go_at_call 38; (with_reducible refine (impl_PolyOk.calls k _ _ l1 t526 _ ?side1 ?side2 A6.out).mono ?_); (case side1 => exact cR_ (Kd.C_below HR1.out (hB_))); (case side2 => exact HC1.out); rintro e w' ⟨rfl, ⟨nd, rfl⟩⟩))
   go_meet
   case rel => exact ⟨_, (!t526), f0_, H', ⟨by first | omega | exact Nat.le_refl _⟩, ⟨hB_⟩⟩
  ·replace c5 := Bool.eq_false_iff.mpr c5
   subst c5
   replace H := iF_ H
   have H' := Aside0.mk H
   clear H
   go_wp2_with (first | ((with_reducible refine gate_callee (f := 38) rfl ?_); refine goesL_ (some 10) rfl rfl Tryd.func38 (by kernel_rfl) rfl #[.slice A0 l0.length c0] rfl aM_ ?_; (with_reducible refine (impl_PolyOk.calls k _ _ l0 false _ ?side1 ?side2 A4.out).mono ?_); (case side1 => exact cR_ (Kd.C_below HR0.out HB.out)); (case side2 => exact HC0.out); rintro e w' ⟨rfl, ⟨nd, rfl⟩⟩; refine ⟨_, rfl, ?_⟩))
   go_meet
   case rel => exact ⟨_, (true), f0_, H', ⟨by first | omega | exact Nat.le_refl _⟩, ⟨hB_⟩⟩
 case rest =>
  clear HC3
  obtain ⟨kq, x16_2, rfl, HA, HJ2, HB⟩ := hcut
  cases kq with
  | zero => exact absurd HA.out (by simp [impl_each_PolyAdd_1.j0])
  | succ kj2 =>
   have H := HA.out
   clear HA
   simp only [impl_each_PolyAdd_1.j0] at H
   by_cases c7 : x16_2 = true
   ·subst c7
    replace H := iT_ H
    obtain rfl := Option.some.inj H
    go_wp2
    go_ret
    exact ⟨_, f1_, by first | exact Kd.R_nil _ _ _ _ _ | exact Kd.N_nil _ _ _ _ _ | exact Kd.V_nil _ _ _ _ _ | exact Kd.Q_nil _ _ _ _ _ | exact Kd.S_nil _ _ _ _ _, hB_⟩
   ·replace c7 := Bool.eq_false_iff.mpr c7
    subst c7
    replace H := iF_ H
    obtain ⟨c8, H⟩ := iN_ H
    have c8b0 := eq_true c8
    have c8b1 := decide_eq_true c8
    clear c8
    obtain ⟨y527, hy527⟩ : ∃ y_ : List Int, y_ = (List.replicate 256 0) := ⟨_, rfl⟩
    first | replace H := yb_ hy527 H | rw [← hy527] at H
    have Ny527 := Aside0.mk hy527
    clear hy527
    have H' := Aside0.mk H
    clear H
    go_wp2_with (first | ((with_reducible refine gate_dst (N := 17) rfl ?_); refine Kd.R_make (Kd.int .i64) _ 3 rfl (N := 17) rfl 31 _ _ rfl 256 rfl rfl Tryd.underlying31 (.int .i64 0) 8 info3 rfl (by decide) (by omega) 0 (ok := fun _ => True) (okp := fun _ => True) rfl (fun _ hk => hk) trivial (by omega) (by omega) (Below.refl _ _) (Nat.le_refl _) ?_; intro v528 w9 ho10 hb hg_ hnew_; clear hg_ hnew_; (first | rw [← Ny527.out] at ho10 | (simp only [Int.reduceToNat] at ho10; rw [← Ny527.out] at ho10)); have n_ := b_ (Kd.R_lower ho10 (below_size (hB_))) <| c_ (below_step (hB_) hb); clear HB; obtain ⟨HO529, HB⟩ := n_; clear hb ho10; obtain ⟨Ao11, co11, eo11⟩ := Kd.R_slice HO529.out; subst eo11))
    go_loopg [20] kj2 (fun kq v20 w' => ∃ (x7_2 : List Int) (x20_2 : Int), v20 = .int .i64 x20_2 ∧ Aside0 (impl_each_PolyAdd_1.l0 kq l0 l1 x7_2 (y527.length : Int) x20_2 = some r) ∧ Aside0 (kq ≤ kj2) ∧ Aside0 (Kd.R (Kd.int .i64) 3 w' w.heap.size (fun _ => True) (.slice Ao11 y527.length co11) x7_2) ∧ Aside0 (Below w.heap.size w w'))
    case atStart => exact ⟨(y527), (0), f0_, H', ⟨Nat.le_refl _⟩, ⟨rR_ HO529.out⟩, ⟨hB_⟩⟩
    case round =>
     clear H'
     obtain ⟨x7_2, x20_2, rfl, HA, HK2, HO_7, HB⟩ := hrel
     have hl7_2 := (Kd.R_reads' HO_7.out).1
     rw [hl7_2] at HO_7
     (try simp only [hl7_2])
     cases gk with
     | zero => exact absurd HA.out (by simp [impl_each_PolyAdd_1.l0])
     | succ k2 =>
      have H := HA.out
      clear HA
      simp only [impl_each_PolyAdd_1.l0] at H
      by_cases c12 : x20_2 < (y527.length : Int)
      rotate_left
      ·rw [if_neg c12] at H
       have c12b0 := decide_eq_false c12
       (try simp only [hl7_2] at c12b0)
       clear c12
       obtain rfl := Option.some.inj H
       go_wp2
       go_ret
       exact ⟨_, f1_, rR_ HO_7.out, hB_⟩
      rw [if_pos c12] at H
      have c12b0 := decide_eq_true c12
      (try simp only [hl7_2] at c12b0)
      clear c12
      obtain ⟨c13b0, H⟩ := iD_ H
      obtain ⟨c14, H⟩ := iN_ H
      have c14b0 := decide_eq_true c14
      (try simp only [hl7_2] at c14b0)
      clear c14
      obtain ⟨c15, H⟩ := iN_ H
      have c15b0 := decide_eq_true c15
      (try simp only [hl7_2] at c15b0)
      clear c15
      obtain ⟨t532, A16, H⟩ := bN_ H
      obtain ⟨t533, A17, H⟩ := bN_ H
      obtain ⟨c18, H⟩ := iN_ H
      have c18b0 := decide_eq_true c18
      (try simp only [hl7_2] at c18b0)
      clear c18
      obtain ⟨y534, hy534⟩ : ∃ y_ : List Int, y_ = (x7_2.set (x20_2 : Int).toNat t533) := ⟨_, rfl⟩
      first | replace H := yb_ hy534 H | rw [← hy534] at H
      have Ny534 := Aside0.mk hy534
      clear hy534
      have H' := Aside0.mk H
      clear H
      try go_wp2
      have n_ := b_ (Kd.R_drew HO_7.out) <| c_ (below_drew1 HB.out)
      clear HO_7 HB
      obtain ⟨HO_7, HB⟩ := n_
      have p530 : 0 ≤ (x20_2 : Int) := oD_
      have q530 : x20_2 < (l0.length : Int) := oD_
      obtain ⟨ad530, e530, hx530_0⟩ := Kd.at_int HR0.out x20_2 p530 q530
      have hw530_0 := hx530_0
      cases e530
      replace hx530_0 := (HB.out.cell (World.block_lt_of_cell? w _ hx530_0)).trans hx530_0
      replace p530 := eq_true p530
      replace q530 := eq_true q530
      have p531 : 0 ≤ (x20_2 : Int) := oD_
      have q531 : x20_2 < (l1.length : Int) := oD_
      obtain ⟨ad531, e531, hx531_0⟩ := Kd.at_int HR1.out x20_2 p531 q531
      have hw531_0 := hx531_0
      cases e531
      replace hx531_0 := (HB.out.cell (World.block_lt_of_cell? w _ hx531_0)).trans hx531_0
      replace p531 := eq_true p531
      replace q531 := eq_true q531
      refine start_ (n := 15) (S := fun w' => w'.cell? (ad530.add (x20_2).toNat) = some (.int .i64 (rd l0 x20_2)) ∧ w'.cell? (ad531.add (x20_2).toNat) = some (.int .i64 (rd l1 x20_2))) (ds := [14]) (bb_ 15 0) (by kernel_rfl) rfl rfl ⟨((HB.out.cell (World.block_lt_of_cell? w _ hw530_0)).trans hw530_0), ((HB.out.cell (World.block_lt_of_cell? w _ hw531_0)).trans hw531_0)⟩ (fun hHeld => ?_); refine with_tabW impl_each_PolyAdd_1.tab7 impl_each_PolyAdd_1.bits7 (fun HT_ HW_ => ?_)
      generalize wr.drew = w20 at HO_7 HB hx530_0 hx531_0 hHeld ⊢
      refine pS_ 0 23 (bb_ 15 1) HT_.out ?_
      refine pS_ 1 24 (bb_ 15 3) HT_.out ?_
      refine pS_ 2 25 (bb_ 15 7) HT_.out ?_
      refine pS_ 3 26 (bb_ 15 15) HT_.out ?_
      refine pS_ 4 27 (bb_ 15 31) HT_.out ?_
      refine pS_ 5 28 (bb_ 15 63) HT_.out ?_
      refine pS_ 7 30 (bb_ 15 191) HT_.out ?_
      refine pS_ 8 31 (bb_ 15 447) HT_.out ?_
      refine pS_ 9 32 (bb_ 15 959) HT_.out ?_
      refine tS_ 6 29 (bb_ 15 1023) (take_ofW HT_.out HW_.out (by kernel_rfl)) hHeld ?_
      refine tS_ 10 33 (bb_ 15 2047) (take_ofW HT_.out HW_.out (by kernel_rfl)) hHeld ?_
      refine one_ (i := 11) (N := some 34) (bb_ 15 4095) rfl rfl (one_of HT_.out (by kernel_rfl)) (by decide) (fun K hK => ?_)
      refine Go.Proofs.YthdjmbbkenbeiaaDoor.Kit.goesW_ (.tmp 25) Tryd.func41 (by kernel_rfl) rfl #[.int .i64 (rd l0 x20_2), .int .i64 (rd l1 x20_2)] (by rfl) rfl rfl aM_ (by first | rfl | (simp; done)) ?_
      with_reducible refine (impl_PolyAdd_1.calls (rd l0 x20_2) (rd l1 x20_2) t532 _ A16.out).mono ?_
      rintro e w' ⟨rfl, ⟨nd, rfl⟩⟩
      refine ⟨_, rfl, ?_⟩
      refine hK.out _ _ ⟨((HB.out.cell (World.block_lt_of_cell? w _ hw530_0)).trans hw530_0), ((HB.out.cell (World.block_lt_of_cell? w _ hw531_0)).trans hw531_0)⟩ (fun hHeld => ?_)
      clear hK K
      refine norm_ (a' := ?_) ?_ ?_
      rotate_left
      ·show Act.put _ (some 34) _ = _
       simp only [Act.put, List.setIfInBounds_toArray, List.set_cons_zero, List.set_cons_succ, i64_w, i32_w]
       rfl
      refine one_ (i := 12) (N := some 35) (bb_ 15 8191) rfl rfl (one_of HT_.out (by kernel_rfl)) (by decide) (fun K hK => ?_)
      refine goes_ Tryd.func61 (by kernel_rfl) rfl #[.int .i64 t532] (by rfl) rfl rfl aM_ ?_
      with_reducible refine (impl_modQ.calls t532 t533 _ A17.out).mono ?_
      rintro e w' ⟨rfl, ⟨nd, rfl⟩⟩
      refine ⟨_, rfl, ?_⟩
      have p19 : 0 ≤ (x20_2 : Int) := oD_
      have q19 : (x20_2 : Int) < ((x7_2.length : Int) : Int) := oD_
      obtain ⟨go19, co19, eo19, gb19, gl19, cl19, HG19⟩ := Kd.R_form HO_7.out (by omega)
      (first | cases eo19 | (injection eo19 with ea_ en_ ec_; (first | subst ea_ | (injection ea_ with ea_; subst ea_)); subst ec_; clear en_))
      have GB19 := Aside0.mk gb19
      have GG19 := Aside0.mk HG19
      clear gb19 gl19 HG19
      obtain ⟨hx19_0, hf19_0⟩ := Kd.R_celln 0 HO_7.out (x20_2 : Int) p19 q19
      replace p19 := eq_true p19
      replace q19 := eq_true q19
      have HP21 := Kd.R_putn HO_7.out (x20_2 : Int) t533
      rw [← Ny534.out] at HP21
      have HQ21 := Aside0.mk HP21
      clear HP21
      refine hK.out _ _ ⟨((HB.out.cell (World.block_lt_of_cell? w _ hw530_0)).trans hw530_0), ((HB.out.cell (World.block_lt_of_cell? w _ hw531_0)).trans hw531_0)⟩ (fun hHeld => ?_)
      clear hK K
      refine norm_ (a' := ?_) ?_ ?_
      rotate_left
      ·show Act.put _ (some 35) _ = _
       simp only [Act.put, List.setIfInBounds_toArray, List.set_cons_zero, List.set_cons_succ, i64_w, i32_w]
       rfl
      refine pS_ 13 36 (bb_ 15 16383) HT_.out ?_
      refine last_ (i := 14) (N := none) (bb_ 15 32767) rfl rfl (one_of HT_.out (by kernel_rfl)) (by decide) (fun K hK => ?_)
      refine skip_ (w1 := ?_) (by rfl) rfl ?_ ?_
      rotate_left
      ·go_simp
       rfl
      refine hK.out _ _ ?_
      clear hK K
      refine done_ (done_of HT_.out (by kernel_rfl)) ?_
      try go_wp2
      (try simp only [← hl7_2])
      go_roundg k2
      case measure => have := HJ2.out; have := HK2.out; omega
      case rel => exact ⟨(y534), (wrap64 (x20_2 + 1)), f0_, H', ⟨by have := HJ2.out; have := HK2.out; omega⟩, ⟨by (try simp only [hl7_2]); refine kR_ ?_; exact HQ21.out⟩, ⟨hS_ GB19.out⟩⟩

/-! ### impl_PolyAdd: function 18 -/
def impl_PolyAdd.f (k : Nat) (l0 : List Int) (l1 : List Int) : Option (List Int) := (impl_each_PolyAdd_1.f k l0 l1).bind fun t535 => (some t535)
theorem impl_PolyAdd.mono : ∀ a0 a1 k, LeO (impl_PolyAdd.f k a0 a1) (impl_PolyAdd.f (k + 1) a0 a1) := by
 intro a0 a1 k
 unfold impl_PolyAdd.f
 exact o1_ impl_each_PolyAdd_1.mono
theorem impl_PolyAdd.calls (k : Nat) (A0 : Option Addr) (c0 : Nat) (l0 : List Int) (A1 : Option Addr) (c1 : Nat) (l1 : List Int) (r : List Int) (w : World) (hr0 : Kd.C (Kd.int .i64) w A0 l0.length l0) (hc0 : l0.length ≤ c0) (hr1 : Kd.C (Kd.int .i64) w A1 l1.length l1) (hc1 : l1.length ≤ c1) (h : impl_PolyAdd.f k l0 l1 = some r) :
  Calls Tryd.prog 18 #[.slice A0 l0.length c0, .slice A1 l1.length c1] w fun e w' => ∃ v0_ : Value, e = .returned (v0_) ∧ Kd.R (Kd.int .i64) 3 w' w.heap.size (fun _ => True) v0_ r ∧ Below w.heap.size w w' := by
 have HR0 := Aside0.mk hr0
 have HC0 := Aside0.mk hc0
 clear hr0 hc0
 have HR1 := Aside0.mk hr1
 have HC1 := Aside0.mk hc1
 clear hr1 hc1
 have HB := Aside0.mk (Below.refl w.heap.size w)
 delta impl_PolyAdd.f at h
 have H := h
 clear h
 obtain ⟨t535, A3, H⟩ := bN_ H
 obtain rfl := Option.some.inj H
 go_enter Tryd.func18, Tryd.ntmps18
 go_wp2_with (first | ((with_reducible refine gate_callee (f := 40) rfl ?_); refine goesL_ (some 7) rfl rfl Tryd.func40 (by kernel_rfl) rfl #[.slice A0 l0.length c0, .slice A1 l1.length c1, .func (.func 41) #[] #[]] rfl aM_ ?_; (with_reducible refine (impl_each_PolyAdd_1.calls k _ _ l0 _ _ l1 t535 _ ?side1 ?side2 ?side3 ?side4 A3.out).mono ?_); (case side1 => exact cR_ HR0.out); (case side2 => exact HC0.out); (case side3 => exact cR_ HR1.out); (case side4 => exact HC1.out); rintro e w4 ⟨v536, rfl, ho0, hb⟩; refine ⟨_, rfl, ?_⟩; have n_ := b_ (Kd.R_lower ho0 (below_size (hB_))) <| c_ (below_step (hB_) hb); clear HB; obtain ⟨HO537, HB⟩ := n_; (try clear ho0)))
 go_ret
 exact ⟨_, f1_, rR_ HO537.out, hB_⟩

/-! ### impl_MulNtt: function 42 -/
mutual
def impl_MulNtt.j0 : Nat → List Int → List Int → Bool → Option (List Int)
 | 0, _, _, _ => none
 | k + 1, x0, x1, x19 => if x19 = true then (some ([] : List Int)) else (if 256 ≤ 35184372088832 then (impl_MulNtt.l0 k x0 x1 (List.replicate 256 0) 0) else (none))
def impl_MulNtt.l0 : Nat → List Int → List Int → List Int → Int → Option (List Int)
 | 0, _, _, _, _ => none
 | k + 1, x0, x1, x5, x21 => if x21 < 128 then ((impl_Turn7.f k x21).bind fun t543 => ((impl_PowQ.f k 17 (wrap64 ((wrap64 (2 * t543)) + 1))).bind fun t544 => (if 0 ≤ (wrap64 (2 * x21)) then (if (wrap64 (2 * x21)) < (x0.length : Int) then (if 0 ≤ (wrap64 ((wrap64 (2 * x21)) + 1)) then (if (wrap64 ((wrap64 (2 * x21)) + 1)) < (x0.length : Int) then (if (wrap64 (2 * x21)) < (x1.length : Int) then (if (wrap64 ((wrap64 (2 * x21)) + 1)) < (x1.length : Int) then ((impl_modQ.f (wrap64 ((wrap64 ((rd x0 (wrap64 (2 * x21))) * (rd x1 (wrap64 (2 * x21))))) + (wrap64 ((Int.tmod (wrap64 ((rd x0 (wrap64 ((wrap64 (2 * x21)) + 1))) * (rd x1 (wrap64 ((wrap64 (2 * x21)) + 1))))) 3329) * t544))))).bind fun t549 => (if (wrap64 (2 * x21)) < (x5.length : Int) then ((impl_modQ.f (wrap64 ((wrap64 ((rd x0 (wrap64 (2 * x21))) * (rd x1 (wrap64 ((wrap64 (2 * x21)) + 1))))) + (wrap64 ((rd x0 (wrap64 ((wrap64 (2 * x21)) + 1))) * (rd x1 (wrap64 (2 * x21)))))))).bind fun t551 => (if (wrap64 ((wrap64 (2 * x21)) + 1)) < (x5.length : Int) then (impl_MulNtt.l0 k x0 x1 ((x5.set ((wrap64 (2 * x21)) : Int).toNat t549).set ((wrap64 ((wrap64 (2 * x21)) + 1)) : Int).toNat t551) (wrap64 (x21 + 1))) else (none))) else (none))) else (none)) else (none)) else (none)) else (none)) else (none)) else (none)))) else (some x5)
end
def impl_MulNtt.f (k : Nat) (l0 : List Int) (l1 : List Int) : Option (List Int) := (impl_PolyOk.f k l0).bind fun t538 => (if t538 = true then ((impl_PolyOk.f k l1).bind fun t539 => (impl_MulNtt.j0 k l0 l1 (!t539))) else (impl_MulNtt.j0 k l0 l1 true))
theorem impl_MulNtt.mono_l : ∀ k, (∀ y0 y1 y2, LeO (impl_MulNtt.j0 k y0 y1 y2) (impl_MulNtt.j0 (k + 1) y0 y1 y2)) ∧ (∀ y0 y1 y2 y3, LeO (impl_MulNtt.l0 k y0 y1 y2 y3) (impl_MulNtt.l0 (k + 1) y0 y1 y2 y3))
 | 0 => ⟨fun _ _ _ r h => by simp [impl_MulNtt.j0] at h, fun _ _ _ _ r h => by simp [impl_MulNtt.l0] at h⟩
 | k + 1 => by
  obtain ⟨ih0, ih1⟩ := impl_MulNtt.mono_l k
  refine ⟨?_, ?_⟩ <;> (intros; (first | unfold impl_MulNtt.j0 | unfold impl_MulNtt.l0); exact o5_ ih0 ih1 impl_PolyOk.mono impl_PowQ.mono impl_Turn7.mono)
theorem impl_MulNtt.mono : ∀ a0 a1 k, LeO (impl_MulNtt.f k a0 a1) (impl_MulNtt.f (k + 1) a0 a1) := by
 intro a0 a1 k
 obtain ⟨ih0, ih1⟩ := impl_MulNtt.mono_l k
 unfold impl_MulNtt.f
 exact o5_ ih0 ih1 impl_PolyOk.mono impl_PowQ.mono impl_Turn7.mono
theorem impl_MulNtt.calls (k : Nat) (A0 : Option Addr) (c0 : Nat) (l0 : List Int) (A1 : Option Addr) (c1 : Nat) (l1 : List Int) (r : List Int) (w : World) (hr0 : Kd.C (Kd.int .i64) w A0 l0.length l0) (hc0 : l0.length ≤ c0) (hr1 : Kd.C (Kd.int .i64) w A1 l1.length l1) (hc1 : l1.length ≤ c1) (h : impl_MulNtt.f k l0 l1 = some r) :
  Calls Tryd.prog 42 #[.slice A0 l0.length c0, .slice A1 l1.length c1] w fun e w' => ∃ v0_ : Value, e = .returned (v0_) ∧ Kd.R (Kd.int .i64) 3 w' w.heap.size (fun _ => True) v0_ r ∧ Below w.heap.size w w' := by
 have HR0 := Aside0.mk hr0
 have HC0 := Aside0.mk hc0
 clear hr0 hc0
 have HR1 := Aside0.mk hr1
 have HC1 := Aside0.mk hc1
 clear hr1 hc1
 have HB := Aside0.mk (Below.refl w.heap.size w)
 delta impl_MulNtt.f at h
 have H := h
 clear h
 have HC3 := Aside0.mk H
 clear H
 go_enter Tryd.func42, Tryd.ntmps42
 go_upto_region 1 with (fail)
 repeat (go_quiet (fail); go_upto_region 1 with (fail))
 go_cut [19] (fun v19 wc => ∃ (kq : Nat) (x19_2 : Bool), v19 = .bool x19_2 ∧ Aside0 (impl_MulNtt.j0 kq l0 l1 x19_2 = some r) ∧ Aside0 (kq ≤ k) ∧ Aside0 (Below w.heap.size w wc))
 case first =>
  have H := HC3.out
  clear HC3
  obtain ⟨t538, A4, H⟩ := bN_ H
  by_cases c5 : t538 = true
  ·subst c5
   replace H := iT_ H
   obtain ⟨t539, A6, H⟩ := bN_ H
   have H' := Aside0.mk H
   clear H
   go_wp2_with (first | (go_at_call 38; (with_reducible refine (impl_PolyOk.calls k _ _ l0 true _ ?side1 ?side2 A4.out).mono ?_); (case side1 => exact cR_ (Kd.C_below HR0.out HB.out)); (case side2 => exact HC0.out); rintro e w' ⟨rfl, ⟨nd, rfl⟩⟩; (try first | exact ⟨rfl, _, World.drewN_drewN _ _ _⟩ | exact ⟨rfl, _, Eq.trans (World.drewN_drewN _ _ _) (congrArg (World.drewN _) (Nat.add_assoc _ _ _))⟩)) | (go_at_call 38; (with_reducible refine (impl_PolyOk.calls k _ _ l1 t539 _ ?side1 ?side2 A6.out).mono ?_); (case side1 => exact cR_ (Kd.C_below HR1.out (hB_))); (case side2 => exact HC1.out); rintro e w' ⟨rfl, ⟨nd, rfl⟩⟩; (try first | exact ⟨rfl, _, World.drewN_drewN _ _ _⟩ | exact ⟨rfl, _, Eq.trans (World.drewN_drewN _ _ _) (congrArg (World.drewN _) (Nat.add_assoc _ _ _))⟩)))
   repeat (go_quiet (first | (go_at_call 38; (with_reducible refine (impl_PolyOk.calls k _ _ l0 true _ ?side1 ?side2 A4.out).mono ?_); (case side1 => exact cR_ (Kd.C_below HR0.out HB.out)); (case side2 => exact HC0.out); rintro e w' ⟨rfl, ⟨nd, rfl⟩⟩; (try first | exact ⟨rfl, _, World.drewN_drewN _ _ _⟩ | exact ⟨rfl, _, Eq.trans (World.drewN_drewN _ _ _) (congrArg (World.drewN _) (Nat.add_assoc _ _ _))⟩)) | (go_at_call 38; (with_reducible refine (impl_PolyOk.calls k _ _ l1 t539 _ ?side1 ?side2 A6.out).mono ?_); (case side1 => exact cR_ (Kd.C_below HR1.out (hB_))); (case side2 => exact HC1.out); rintro e w' ⟨rfl, ⟨nd, rfl⟩⟩; (try first | exact ⟨rfl, _, World.drewN_drewN _ _ _⟩ | exact ⟨rfl, _, Eq.trans (World.drewN_drewN _ _ _) (congrArg (World.drewN _) (Nat.add_assoc _ _ _))⟩))); try go_wp2_with (first | (go_at_call 38; (with_reducible refine (impl_PolyOk.calls k _ _ l0 true _ ?side1 ?side2 A4.out).mono ?_); (case side1 => exact cR_ (Kd.C_below HR0.out HB.out)); (case side2 => exact HC0.out); rintro e w' ⟨rfl, ⟨nd, rfl⟩⟩; (try first | exact ⟨rfl, _, World.drewN_drewN _ _ _⟩ | exact ⟨rfl, _, Eq.trans (World.drewN_drewN _ _ _) (congrArg (World.drewN _) (Nat.add_assoc _ _ _))⟩)) | (go_at_call 38; (with_reducible refine (impl_PolyOk.calls k _ _ l1 t539 _ ?side1 ?side2 A6.out).mono ?_); (case side1 => exact cR_ (Kd.C_below HR1.out (hB_))); (case side2 => exact HC1.out); rintro e w' ⟨rfl, ⟨nd, rfl⟩⟩; (try first | exact ⟨rfl, _, World.drewN_drewN _ _ _⟩ | exact ⟨rfl, _, Eq.trans (World.drewN_drewN _ _ _) (congrArg (World.drewN _) (Nat.add_assoc _ _ _))⟩))))
   go_meet
   case rel => exact ⟨_, (!t539), f0_, H', ⟨by first | omega | exact Nat.le_refl _⟩, ⟨hB_⟩⟩
  ·replace c5 := Bool.eq_false_iff.mpr c5
   subst c5
   replace H := iF_ H
   have H' := Aside0.mk H
   clear H
   go_wp2_with (first | (go_at_call 38; (with_reducible refine (impl_PolyOk.calls k _ _ l0 false _ ?side1 ?side2 A4.out).mono ?_); (case side1 => exact cR_ (Kd.C_below HR0.out HB.out)); (case side2 => exact HC0.out); rintro e w' ⟨rfl, ⟨nd, rfl⟩⟩; (try first | exact ⟨rfl, _, World.drewN_drewN _ _ _⟩ | exact ⟨rfl, _, Eq.trans (World.drewN_drewN _ _ _) (congrArg (World.drewN _) (Nat.add_assoc _ _ _))⟩)))
   repeat (go_quiet (first | (go_at_call 38; (with_reducible refine (impl_PolyOk.calls k _ _ l0 false _ ?side1 ?side2 A4.out).mono ?_); (case side1 => exact cR_ (Kd.C_below HR0.out HB.out)); (case side2 => exact HC0.out); rintro e w' ⟨rfl, ⟨nd, rfl⟩⟩; (try first | exact ⟨rfl, _, World.drewN_drewN _ _ _⟩ | exact ⟨rfl, _, Eq.trans (World.drewN_drewN _ _ _) (congrArg (World.drewN _) (Nat.add_assoc _ _ _))⟩))); try go_wp2_with (first | (go_at_call 38; (with_reducible refine (impl_PolyOk.calls k _ _ l0 false _ ?side1 ?side2 A4.out).mono ?_); (case side1 => exact cR_ (Kd.C_below HR0.out HB.out)); (case side2 => exact HC0.out); rintro e w' ⟨rfl, ⟨nd, rfl⟩⟩; (try first | exact ⟨rfl, _, World.drewN_drewN _ _ _⟩ | exact ⟨rfl, _, Eq.trans (World.drewN_drewN _ _ _) (congrArg (World.drewN _) (Nat.add_assoc _ _ _))⟩))))
   go_meet
   case rel => exact ⟨_, (true), f0_, H', ⟨by first | omega | exact Nat.le_refl _⟩, ⟨hB_⟩⟩
 case rest =>
  clear HC3
  obtain ⟨kq, x19_2, rfl, HA, HJ2, HB⟩ := hcut
  cases kq with
  | zero => exact absurd HA.out (by simp [impl_MulNtt.j0])
  | succ kj2 =>
   have H := HA.out
   clear HA
   simp only [impl_MulNtt.j0] at H
   by_cases c7 : x19_2 = true
   ·subst c7
    replace H := iT_ H
    obtain rfl := Option.some.inj H
    go_wp2
    repeat (go_quiet (fail); try go_wp2)
    go_ret
    exact ⟨_, f1_, by first | exact Kd.R_nil _ _ _ _ _ | exact Kd.N_nil _ _ _ _ _ | exact Kd.V_nil _ _ _ _ _ | exact Kd.Q_nil _ _ _ _ _ | exact Kd.S_nil _ _ _ _ _, hB_⟩
   ·replace c7 := Bool.eq_false_iff.mpr c7
    subst c7
    replace H := iF_ H
    obtain ⟨c8, H⟩ := iN_ H
    have c8b0 := eq_true c8
    have c8b1 := decide_eq_true c8
    clear c8
    obtain ⟨y540, hy540⟩ : ∃ y_ : List Int, y_ = (List.replicate 256 0) := ⟨_, rfl⟩
    first | replace H := yb_ hy540 H | rw [← hy540] at H
    have Ny540 := Aside0.mk hy540
    clear hy540
    have H' := Aside0.mk H
    clear H
    go_wp2_with (first | ((with_reducible refine gate_dst (N := 20) rfl ?_); refine Kd.R_make (Kd.int .i64) _ 3 rfl (N := 20) rfl 31 _ _ rfl 256 rfl rfl Tryd.underlying31 (.int .i64 0) 8 info3 rfl (by decide) (by omega) 0 (ok := fun _ => True) (okp := fun _ => True) rfl (fun _ hk => hk) trivial (by omega) (by omega) (Below.refl _ _) (Nat.le_refl _) ?_; intro v541 w9 ho10 hb hg_ hnew_; clear hg_ hnew_; (first | rw [← Ny540.out] at ho10 | (simp only [Int.reduceToNat] at ho10; rw [← Ny540.out] at ho10)); have n_ := b_ (Kd.R_lower ho10 (below_size (hB_))) <| c_ (below_step (hB_) hb); clear HB; obtain ⟨HO542, HB⟩ := n_; clear hb ho10))
    repeat (go_quiet (first | ((with_reducible refine gate_dst (N := 20) rfl ?_); refine Kd.R_make (Kd.int .i64) _ 3 rfl (N := 20) rfl 31 _ _ rfl 256 rfl rfl Tryd.underlying31 (.int .i64 0) 8 info3 rfl (by decide) (by omega) 0 (ok := fun _ => True) (okp := fun _ => True) rfl (fun _ hk => hk) trivial (by omega) (by omega) (Below.refl _ _) (Nat.le_refl _) ?_; intro v541 w9 ho10 hb hg_ hnew_; clear hg_ hnew_; (first | rw [← Ny540.out] at ho10 | (simp only [Int.reduceToNat] at ho10; rw [← Ny540.out] at ho10)); have n_ := b_ (Kd.R_lower ho10 (below_size (hB_))) <| c_ (below_step (hB_) hb); clear HB; obtain ⟨HO542, HB⟩ := n_; clear hb ho10)); try go_wp2_with (first | ((with_reducible refine gate_dst (N := 20) rfl ?_); refine Kd.R_make (Kd.int .i64) _ 3 rfl (N := 20) rfl 31 _ _ rfl 256 rfl rfl Tryd.underlying31 (.int .i64 0) 8 info3 rfl (by decide) (by omega) 0 (ok := fun _ => True) (okp := fun _ => True) rfl (fun _ hk => hk) trivial (by omega) (by omega) (Below.refl _ _) (Nat.le_refl _) ?_; intro v541 w9 ho10 hb hg_ hnew_; clear hg_ hnew_; (first | rw [← Ny540.out] at ho10 | (simp only [Int.reduceToNat] at ho10; rw [← Ny540.out] at ho10)); have n_ := b_ (Kd.R_lower ho10 (below_size (hB_))) <| c_ (below_step (hB_) hb); clear HB; obtain ⟨HO542, HB⟩ := n_; clear hb ho10)))
    go_loopg [21] kj2 (fun kq v21 w' => ∃ (x5_2 : List Int) (x21_2 : Int), v21 = .int .i64 x21_2 ∧ Aside0 (impl_MulNtt.l0 kq l0 l1 x5_2 x21_2 = some r) ∧ Aside0 (kq ≤ kj2) ∧ Aside0 (Kd.R (Kd.int .i64) 3 w' w.heap.size (fun _ => True) v541 x5_2) ∧ Aside0 (Below w.heap.size w w'))
    case atStart => exact ⟨(y540), (0), f0_, H', ⟨Nat.le_refl _⟩, ⟨rR_ HO542.out⟩, ⟨hB_⟩⟩
    case round =>
     clear H'
     obtain ⟨x5_2, x21_2, rfl, HA, HK2, HO_5, HB⟩ := hrel
     cases gk with
     | zero => exact absurd HA.out (by simp [impl_MulNtt.l0])
     | succ k2 =>
      have H := HA.out
      clear HA
      simp only [impl_MulNtt.l0] at H
      by_cases c11 : x21_2 < 128
      rotate_left
      ·rw [if_neg c11] at H
       have c11b0 := decide_eq_false c11
       clear c11
       obtain rfl := Option.some.inj H
       go_wp2
       repeat (go_quiet (fail); try go_wp2)
       go_ret
       exact ⟨_, f1_, rR_ HO_5.out, hB_⟩
      rw [if_pos c11] at H
      have c11b0 := decide_eq_true c11
      clear c11
      obtain ⟨t543, A12, H⟩ := bN_ H
      obtain ⟨t544, A13, H⟩ := bN_ H
      obtain ⟨ji14, hji14⟩ : ∃ j_ : Int, (wrap64 (2 * x21_2)) = j_ := ⟨_, rfl⟩
      first | rw [hji14] at H | simp only [hji14] at H
      (try rw [hji14] at A12)
      (try rw [hji14] at A13)
      have hji14w : (IntKind.i64.wrap (2 * x21_2)) = ji14 := (i64_w _).trans hji14
      obtain ⟨c15b0, H⟩ := iD_ H
      obtain ⟨c16b0, H⟩ := iD_ H
      obtain ⟨ji17, hji17⟩ : ∃ j_ : Int, (wrap64 ((ji14) + 1)) = j_ := ⟨_, rfl⟩
      first | rw [hji17] at H | simp only [hji17] at H
      (try rw [hji17] at A12)
      (try rw [hji17] at A13)
      have hji17w : (IntKind.i64.wrap ((ji14) + 1)) = ji17 := (i64_w _).trans hji17
      obtain ⟨c18b0, H⟩ := iD_ H
      obtain ⟨c19b0, H⟩ := iD_ H
      obtain ⟨c20b0, H⟩ := iD_ H
      obtain ⟨c21b0, H⟩ := iD_ H
      obtain ⟨t549, A22, H⟩ := bN_ H
      obtain ⟨c23b0, H⟩ := iD_ H
      obtain ⟨y550, hy550⟩ : ∃ y_ : List Int, y_ = (x5_2.set ((ji14) : Int).toNat t549) := ⟨_, rfl⟩
      first | replace H := yb_ hy550 H | rw [← hy550] at H
      have Ny550 := Aside0.mk hy550
      clear hy550
      obtain ⟨t551, A25, H⟩ := bN_ H
      obtain ⟨c26b0, H⟩ := iD_ H
      obtain ⟨y552, hy552⟩ : ∃ y_ : List Int, y_ = (y550.set ((ji17) : Int).toNat t551) := ⟨_, rfl⟩
      first | replace H := yb_ hy552 H | rw [← hy552] at H
      have Ny552 := Aside0.mk hy552
      clear hy552
      have H' := Aside0.mk H
      clear H
      go_wp2_with (first | (go_at_call 60; (with_reducible refine (impl_Turn7.calls k2 x21_2 t543 _ A12.out).mono ?_); rintro e w' ⟨rfl, ⟨nd, rfl⟩⟩; (try first | exact ⟨rfl, _, World.drewN_drewN _ _ _⟩ | exact ⟨rfl, _, Eq.trans (World.drewN_drewN _ _ _) (congrArg (World.drewN _) (Nat.add_assoc _ _ _))⟩)) | (go_at_call 59; (with_reducible refine (impl_PowQ.calls k2 17 (wrap64 ((wrap64 (2 * t543)) + 1)) t544 _ A13.out).mono ?_); rintro e w' ⟨rfl, ⟨nd, rfl⟩⟩; (try first | exact ⟨rfl, _, World.drewN_drewN _ _ _⟩ | exact ⟨rfl, _, Eq.trans (World.drewN_drewN _ _ _) (congrArg (World.drewN _) (Nat.add_assoc _ _ _))⟩); have p545 : 0 ≤ ((ji14) : Int) := oD_; have q545 : (ji14) < (l0.length : Int) := oD_; obtain ⟨ad545, e545, hx545_0⟩ := Kd.at_int HR0.out (ji14) p545 q545; cases e545; replace hx545_0 := (HB.out.cell (World.block_lt_of_cell? w _ hx545_0)).trans hx545_0; replace p545 := eq_true p545; replace q545 := eq_true q545; have p546 : 0 ≤ ((ji17) : Int) := oD_; have q546 : (ji17) < (l0.length : Int) := oD_; obtain ⟨ad546, e546, hx546_0⟩ := Kd.at_int HR0.out (ji17) p546 q546; obtain rfl : ad545 = ad546 := (by injection e546); replace hx546_0 := (HB.out.cell (World.block_lt_of_cell? w _ hx546_0)).trans hx546_0; replace p546 := eq_true p546; replace q546 := eq_true q546; have p547 : 0 ≤ ((ji14) : Int) := oD_; have q547 : (ji14) < (l1.length : Int) := oD_; obtain ⟨ad547, e547, hx547_0⟩ := Kd.at_int HR1.out (ji14) p547 q547; cases e547; replace hx547_0 := (HB.out.cell (World.block_lt_of_cell? w _ hx547_0)).trans hx547_0; replace p547 := eq_true p547; replace q547 := eq_true q547; have p548 : 0 ≤ ((ji17) : Int) := oD_; have q548 : (ji17) < (l1.length : Int) := oD_; obtain ⟨ad548, e548, hx548_0⟩ := Kd.at_int HR1.out (ji17) p548 q548; obtain rfl : ad547 = ad548 := (by injection e548); replace hx548_0 := (HB.out.cell (World.block_lt_of_cell? w _ hx548_0)).trans hx548_0; replace p548 := eq_true p548; replace q548 := eq_true q548) | (go_at_call 61; (with_reducible refine (impl_modQ.calls (wrap64 ((wrap64 ((rd l0 (ji14)) * (rd l1 (ji14)))) + (wrap64 ((Int.tmod (wrap64 ((rd l0 (ji17)) * (rd l1 (ji17)))) 3329) * t544)))) t549 _ A22.out).mono ?_); rintro e w' ⟨rfl, ⟨nd, rfl⟩⟩; (try first | exact ⟨rfl, _, World.drewN_drewN _ _ _⟩ | exact ⟨rfl, _, Eq.trans (World.drewN_drewN _ _ _) (congrArg (World.drewN _) (Nat.add_assoc _ _ _))⟩); have p24 : 0 ≤ ((ji14) : Int) := oD_; have q24 : ((ji14) : Int) < ((x5_2.length : Int) : Int) := oD_; obtain ⟨go24, co24, eo24, gb24, gl24, cl24, HG24⟩ := Kd.R_form HO_5.out (by omega); (first | cases eo24 | (injection eo24 with ea_ en_ ec_; (first | subst ea_ | (injection ea_ with ea_; subst ea_)); subst ec_; clear en_)); have GB24 := Aside0.mk gb24; have GG24 := Aside0.mk HG24; clear gb24 gl24 HG24; obtain ⟨hx24_0, hf24_0⟩ := Kd.R_celln 0 HO_5.out ((ji14) : Int) p24 q24; replace p24 := eq_true p24; replace q24 := eq_true q24; obtain ⟨hy28_, hz28_⟩ := Kd.R_celln 0 HO_5.out ((ji14) : Int) oD_ oD_; have HP28 := Kd.R_putg HO_5.out ((ji14) : Int) t549) | ((with_reducible refine gate_store (t := 3) (p := 65) rfl ?_); (try (rw [drewN_self wr]; generalize hq_ : World.drewN wr _ = wr; have n_ := b_ (Kd.R_at hq_ HO_5.out) <| c_ (below_at hq_ HB.out); clear hq_ HO_5 HB; obtain ⟨HO_5, HB⟩ := n_; (try (obtain ⟨hy28_, hz28_⟩ := Kd.R_celln 0 HO_5.out ((ji14) : Int) oD_ oD_)); (try (have HP28 := Kd.R_putg HO_5.out ((ji14) : Int) t549)))); refine store_event (t := 3) (p := 65) (v := ?vo_w29) (w1 := (wr.setCell ⟨go24, ((ji14) : Int).toNat, none⟩ (.int .i64 t549))) ?hg ?ho ?hn ?hr ?_; (case ho => rfl); (case hg => rfl); (case hn => rfl); (case hr => first | (go_simp; done) | (go_simp; rfl)); intro w29 hw; have hg : wr.grownBy w29 (some go24) := (by rw [hw]; exact HP28.2); have hp_ : Kd.R (Kd.int .i64) 3 w29 w.heap.size (fun _ => True) (.slice (some ⟨go24, 0, none⟩) x5_2.length co24) y550 := (by rw [hw, Ny550.out]; exact HP28.1); clear HP28; have n0_ := Aside0.mk (hp_); have n1_ := Aside0.mk ((by rw [hw]; exact below_set (HB.out) GB24.out : Below w.heap.size w w29)); replace HO_5 := n0_; replace HB := n1_; clear n0_ n1_; clear hg hw hp_) | (go_at_call 61; (with_reducible refine (impl_modQ.calls (wrap64 ((wrap64 ((rd l0 (ji14)) * (rd l1 (ji17)))) + (wrap64 ((rd l0 (ji17)) * (rd l1 (ji14)))))) t551 _ A25.out).mono ?_); rintro e w' ⟨rfl, ⟨nd, rfl⟩⟩; (try first | exact ⟨rfl, _, World.drewN_drewN _ _ _⟩ | exact ⟨rfl, _, Eq.trans (World.drewN_drewN _ _ _) (congrArg (World.drewN _) (Nat.add_assoc _ _ _))⟩); have p27 : 0 ≤ ((ji17) : Int) := oD_; have q27 : ((ji17) : Int) < ((x5_2.length : Int) : Int) := oD_; obtain ⟨hx27_0, hf27_0⟩ := Kd.R_celln 0 HO_5.out ((ji17) : Int) p27 q27; replace p27 := eq_true p27; replace q27 := eq_true q27; obtain ⟨hy30_, hz30_⟩ := Kd.R_celln 0 HO_5.out ((ji17) : Int) oD_ oD_; have HP30 := Kd.R_putg HO_5.out ((ji17) : Int) t551) | ((with_reducible refine gate_store (t := 3) (p := 78) rfl ?_); (try (rw [drewN_self w29]; generalize hq_ : World.drewN w29 _ = w29; have n_ := b_ (Kd.R_at hq_ HO_5.out) <| c_ (below_at hq_ HB.out); clear hq_ HO_5 HB; obtain ⟨HO_5, HB⟩ := n_; (try (obtain ⟨hy30_, hz30_⟩ := Kd.R_celln 0 HO_5.out ((ji17) : Int) oD_ oD_)); (try (have HP30 := Kd.R_putg HO_5.out ((ji17) : Int) t551)))); refine store_event (t := 3) (p := 78) (v := ?vo_w31) (w1 := (w29.setCell ⟨go24, ((ji17) : Int).toNat, none⟩ (.int .i64 t551))) ?hg ?ho ?hn ?hr ?_; (case ho => rfl); (case hg => rfl); (case hn => rfl); (case hr => first | (go_simp; done) | (go_simp; rfl)); intro w31 hw; have hg : w29.grownBy w31 (some go24) := (by rw [hw]; exact HP30.2); have hp_ : Kd.R (Kd.int .i64) 3 w31 w.heap.size (fun _ => True) (.slice (some ⟨go24, 0, none⟩) x5_2.length co24) y552 := (by rw [hw, Ny552.out]; exact HP30.1); clear HP30; have n0_ := Aside0.mk (hp_); have n1_ := Aside0.mk ((by rw [hw]; exact below_set (HB.out) GB24.out : Below w.heap.size w w31)); replace HO_5 := n0_; replace HB := n1_; clear n0_ n1_; clear hg hw hp_))
      repeat (go_quiet (first | (go_at_call 60; (with_reducible refine (impl_Turn7.calls k2 x21_2 t543 _ A12.out).mono ?_); rintro e w' ⟨rfl, ⟨nd, rfl⟩⟩; (try first | exact ⟨rfl, _, World.drewN_drewN _ _ _⟩ | exact ⟨rfl, _, Eq.trans (World.drewN_drewN _ _ _) (congrArg (World.drewN _) (Nat.add_assoc _ _ _))⟩)) | (go_at_call 59; (with_reducible refine (impl_PowQ.calls k2 17 (wrap64 ((wrap64 (2 * t543)) + 1)) t544 _ A13.out).mono ?_); rintro e w' ⟨rfl, ⟨nd, rfl⟩⟩; (try first | exact ⟨rfl, _, World.drewN_drewN _ _ _⟩ | exact ⟨rfl, _, Eq.trans (World.drewN_drewN _ _ _) (congrArg (World.drewN _) (Nat.add_assoc _ _ _))⟩); have p545 : 0 ≤ ((ji14) : Int) := oD_; have q545 : (ji14) < (l0.length : Int) := oD_; obtain ⟨ad545, e545, hx545_0⟩ := Kd.at_int HR0.out (ji14) p545 q545; cases e545; replace hx545_0 := (HB.out.cell (World.block_lt_of_cell? w _ hx545_0)).trans hx545_0; replace p545 := eq_true p545; replace q545 := eq_true q545; have p546 : 0 ≤ ((ji17) : Int) := oD_; have q546 : (ji17) < (l0.length : Int) := oD_; obtain ⟨ad546, e546, hx546_0⟩ := Kd.at_int HR0.out (ji17) p546 q546; obtain rfl : ad545 = ad546 := (by injection e546); replace hx546_0 := (HB.out.cell (World.block_lt_of_cell? w _ hx546_0)).trans hx546_0; replace p546 := eq_true p546; replace q546 := eq_true q546; have p547 : 0 ≤ ((ji14) : Int) := oD_; have q547 : (ji14) < (l1.length : Int) := oD_; obtain ⟨ad547, e547, hx547_0⟩ := Kd.at_int HR1.out (ji14) p547 q547; cases e547; replace hx547_0 := (HB.out.cell (World.block_lt_of_cell? w _ hx547_0)).trans hx547_0; replace p547 := eq_true p547; replace q547 := eq_true q547; have p548 : 0 ≤ ((ji17) : Int) := oD_; have q548 : (ji17) < (l1.length : Int) := oD_; obtain ⟨ad548, e548, hx548_0⟩ := Kd.at_int HR1.out (ji17) p548 q548; obtain rfl : ad547 = ad548 := (by injection e548); replace hx548_0 := (HB.out.cell (World.block_lt_of_cell? w _ hx548_0)).trans hx548_0; replace p548 := eq_true p548; replace q548 := eq_true q548) | (go_at_call 61; (with_reducible refine (impl_modQ.calls (wrap64 ((wrap64 ((rd l0 (ji14)) * (rd l1 (ji14)))) + (wrap64 ((Int.tmod (wrap64 ((rd l0 (ji17)) * (rd l1 (ji17)))) 3329) * t544)))) t549 _ A22.out).mono ?_); rintro e w' ⟨rfl, ⟨nd, rfl⟩⟩; (try first | exact ⟨rfl, _, World.drewN_drewN _ _ _⟩ | exact ⟨rfl, _, Eq.trans (World.drewN_drewN _ _ _) (congrArg (World.drewN _) (Nat.add_assoc _ _ _))⟩); have p24 : 0 ≤ ((ji14) : Int) := oD_; have q24 : ((ji14) : Int) < ((x5_2.length : Int) : Int) := oD_; obtain ⟨go24, co24, eo24, gb24, gl24, cl24, HG24⟩ := Kd.R_form HO_5.out (by omega); (first | cases eo24 | (injection eo24 with ea_ en_ ec_; (first | subst ea_ | (injection ea_ with ea_; subst ea_)); subst ec_; clear en_)); have GB24 := Aside0.mk gb24; have GG24 := Aside0.mk HG24; clear gb24 gl24 HG24; obtain ⟨hx24_0, hf24_0⟩ := Kd.R_celln 0 HO_5.out ((ji14) : Int) p24 q24; replace p24 := eq_true p24; replace q24 := eq_true q24; obtain ⟨hy28_, hz28_⟩ := Kd.R_celln 0 HO_5.out ((ji14) : Int) oD_ oD_; have HP28 := Kd.R_putg HO_5.out ((ji14) : Int) t549) | ((with_reducible refine gate_store (t := 3) (p := 65) rfl ?_); (try (rw [drewN_self wr]; generalize hq_ : World.drewN wr _ = wr; have n_ := b_ (Kd.R_at hq_ HO_5.out) <| c_ (below_at hq_ HB.out); clear hq_ HO_5 HB; obtain ⟨HO_5, HB⟩ := n_; (try (obtain ⟨hy28_, hz28_⟩ := Kd.R_celln 0 HO_5.out ((ji14) : Int) oD_ oD_)); (try (have HP28 := Kd.R_putg HO_5.out ((ji14) : Int) t549)))); refine store_event (t := 3) (p := 65) (v := ?vo_w29) (w1 := (wr.setCell ⟨go24, ((ji14) : Int).toNat, none⟩ (.int .i64 t549))) ?hg ?ho ?hn ?hr ?_; (case ho => rfl); (case hg => rfl); (case hn => rfl); (case hr => first | (go_simp; done) | (go_simp; rfl)); intro w29 hw; have hg : wr.grownBy w29 (some go24) := (by rw [hw]; exact HP28.2); have hp_ : Kd.R (Kd.int .i64) 3 w29 w.heap.size (fun _ => True) (.slice (some ⟨go24, 0, none⟩) x5_2.length co24) y550 := (by rw [hw, Ny550.out]; exact HP28.1); clear HP28; have n0_ := Aside0.mk (hp_); have n1_ := Aside0.mk ((by rw [hw]; exact below_set (HB.out) GB24.out : Below w.heap.size w w29)); replace HO_5 := n0_; replace HB := n1_; clear n0_ n1_; clear hg hw hp_) | (go_at_call 61; (with_reducible refine (impl_modQ.calls (wrap64 ((wrap64 ((rd l0 (ji14)) * (rd l1 (ji17)))) + (wrap64 ((rd l0 (ji17)) * (rd l1 (ji14)))))) t551 _ A25.out).mono ?_); rintro e w' ⟨rfl, ⟨nd, rfl⟩⟩; (try first | exact ⟨rfl, _, World.drewN_drewN _ _ _⟩ | exact ⟨rfl, _, Eq.trans (World.drewN_drewN _ _ _) (congrArg (World.drewN _) (Nat.add_assoc _ _ _))⟩); have p27 : 0 ≤ ((ji17) : Int) := oD_; have q27 : ((ji17) : Int) < ((x5_2.length : Int) : Int) := oD_; obtain ⟨hx27_0, hf27_0⟩ := Kd.R_celln 0 HO_5.out ((ji17) : Int) p27 q27; replace p27 := eq_true p27; replace q27 := eq_true q27; obtain ⟨hy30_, hz30_⟩ := Kd.R_celln 0 HO_5.out ((ji17) : Int) oD_ oD_; have HP30 := Kd.R_putg HO_5.out ((ji17) : Int) t551) | ((with_reducible refine gate_store (t := 3) (p := 78) rfl ?_); (try (rw [drewN_self w29]; generalize hq_ : World.drewN w29 _ = w29; have n_ := b_ (Kd.R_at hq_ HO_5.out) <| c_ (below_at hq_ HB.out); clear hq_ HO_5 HB; obtain ⟨HO_5, HB⟩ := n_; (try (obtain ⟨hy30_, hz30_⟩ := Kd.R_celln 0 HO_5.out ((ji17) : Int) oD_ oD_)); (try (have HP30 := Kd.R_putg HO_5.out ((ji17) : Int) t551)))); refine store_event (t := 3) (p := 78) (v := ?vo_w31) (w1 := (w29.setCell ⟨go24, ((ji17) : Int).toNat, none⟩ (.int .i64 t551))) ?hg ?ho ?hn ?hr ?_; (case ho => rfl); (case hg => rfl); (case hn => rfl); (case hr => first | (go_simp; done) | (go_simp; rfl)); intro w31 hw; have hg : w29.grownBy w31 (some go24) := (by rw [hw]; exact HP30.2); have hp_ : Kd.R (Kd.int .i64) 3 w31 w.heap.size (fun _ => True) (.slice (some ⟨go24, 0, none⟩) x5_2.length co24) y552 := (by rw [hw, Ny552.out]; exact HP30.1); clear HP30; have n0_ := Aside0.mk (hp_); have n1_ := Aside0.mk ((by rw [hw]; exact below_set (HB.out) GB24.out : Below w.heap.size w w31)); replace HO_5 := n0_; replace HB := n1_; clear n0_ n1_; clear hg hw hp_)); try go_wp2_with (first | (go_at_call 60; (with_reducible refine (impl_Turn7.calls k2 x21_2 t543 _ A12.out).mono ?_); rintro e w' ⟨rfl, ⟨nd, rfl⟩⟩; (try first | exact ⟨rfl, _, World.drewN_drewN _ _ _⟩ | exact ⟨rfl, _, Eq.trans (World.drewN_drewN _ _ _) (congrArg (World.drewN _) (Nat.add_assoc _ _ _))⟩)) | (go_at_call 59; (with_reducible refine (impl_PowQ.calls k2 17 (wrap64 ((wrap64 (2 * t543)) + 1)) t544 _ A13.out).mono ?_); rintro e w' ⟨rfl, ⟨nd, rfl⟩⟩; (try first | exact ⟨rfl, _, World.drewN_drewN _ _ _⟩ | exact ⟨rfl, _, Eq.trans (World.drewN_drewN _ _ _) (congrArg (World.drewN _) (Nat.add_assoc _ _ _))⟩); have p545 : 0 ≤ ((ji14) : Int) := oD_; have q545 : (ji14) < (l0.length : Int) := oD_; obtain ⟨ad545, e545, hx545_0⟩ := Kd.at_int HR0.out (ji14) p545 q545; cases e545; replace hx545_0 := (HB.out.cell (World.block_lt_of_cell? w _ hx545_0)).trans hx545_0; replace p545 := eq_true p545; replace q545 := eq_true q545; have p546 : 0 ≤ ((ji17) : Int) := oD_; have q546 : (ji17) < (l0.length : Int) := oD_; obtain ⟨ad546, e546, hx546_0⟩ := Kd.at_int HR0.out (ji17) p546 q546; obtain rfl : ad545 = ad546 := (by injection e546); replace hx546_0 := (HB.out.cell (World.block_lt_of_cell? w _ hx546_0)).trans hx546_0; replace p546 := eq_true p546; replace q546 := eq_true q546; have p547 : 0 ≤ ((ji14) : Int) := oD_; have q547 : (ji14) < (l1.length : Int) := oD_; obtain ⟨ad547, e547, hx547_0⟩ := Kd.at_int HR1.out (ji14) p547 q547; cases e547; replace hx547_0 := (HB.out.cell (World.block_lt_of_cell? w _ hx547_0)).trans hx547_0; replace p547 := eq_true p547; replace q547 := eq_true q547; have p548 : 0 ≤ ((ji17) : Int) := oD_; have q548 : (ji17) < (l1.length : Int) := oD_; obtain ⟨ad548, e548, hx548_0⟩ := Kd.at_int HR1.out (ji17) p548 q548; obtain rfl : ad547 = ad548 := (by injection e548); replace hx548_0 := (HB.out.cell (World.block_lt_of_cell? w _ hx548_0)).trans hx548_0; replace p548 := eq_true p548; replace q548 := eq_true q548) | (go_at_call 61; (with_reducible refine (impl_modQ.calls (wrap64 ((wrap64 ((rd l0 (ji14)) * (rd l1 (ji14)))) + (wrap64 ((Int.tmod (wrap64 ((rd l0 (ji17)) * (rd l1 (ji17)))) 3329) * t544)))) t549 _ A22.out).mono ?_); rintro e w' ⟨rfl, ⟨nd, rfl⟩⟩; (try first | exact ⟨rfl, _, World.drewN_drewN _ _ _⟩ | exact ⟨rfl, _, Eq.trans (World.drewN_drewN _ _ _) (congrArg (World.drewN _) (Nat.add_assoc _ _ _))⟩); have p24 : 0 ≤ ((ji14) : Int) := oD_; have q24 : ((ji14) : Int) < ((x5_2.length : Int) : Int) := oD_; obtain ⟨go24, co24, eo24, gb24, gl24, cl24, HG24⟩ := Kd.R_form HO_5.out (by omega); (first | cases eo24 | (injection eo24 with ea_ en_ ec_; (first | subst ea_ | (injection ea_ with ea_; subst ea_)); subst ec_; clear en_)); have GB24 := Aside0.mk gb24; have GG24 := Aside0.mk HG24; clear gb24 gl24 HG24; obtain ⟨hx24_0, hf24_0⟩ := Kd.R_celln 0 HO_5.out ((ji14) : Int) p24 q24; replace p24 := eq_true p24; replace q24 := eq_true q24; obtain ⟨hy28_, hz28_⟩ := Kd.R_celln 0 HO_5.out ((ji14) : Int) oD_ oD_; have HP28 := Kd.R_putg HO_5.out ((ji14) : Int) t549) | ((with_reducible refine gate_store (t := 3) (p := 65) rfl ?_); (try (rw [drewN_self wr]; generalize hq_ : World.drewN wr _ = wr; have n_ := b_ (Kd.R_at hq_ HO_5.out) <| c_ (below_at hq_ HB.out); clear hq_ HO_5 HB; obtain ⟨HO_5, HB⟩ := n_; (try (obtain ⟨hy28_, hz28_⟩ := Kd.R_celln 0 HO_5.out ((ji14) : Int) oD_ oD_)); (try (have HP28 := Kd.R_putg HO_5.out ((ji14) : Int) t549)))); refine store_event (t := 3) (p := 65) (v := ?vo_w29) (w1 := (wr.setCell ⟨go24, ((ji14) : Int).toNat, none⟩ (.int .i64 t549))) ?hg ?ho ?hn ?hr ?_; (case ho => rfl); (case hg => rfl); (case hn => rfl); (case hr => first | (go_simp; done) | (go_simp; rfl)); intro w29 hw; have hg : wr.grownBy w29 (some go24) := (by rw [hw]; exact HP28.2); have hp_ : Kd.R (Kd.int .i64) 3 w29 w.heap.size (fun _ => True) (.slice (some ⟨go24, 0, none⟩) x5_2.length co24) y550 := (by rw [hw, Ny550.out]; exact HP28.1); clear HP28; have n0_ := Aside0.mk (hp_); have n1_ := Aside0.mk ((by rw [hw]; exact below_set (HB.out) GB24.out : Below w.heap.size w w29)); replace HO_5 := n0_; replace HB := n1_; clear n0_ n1_; clear hg hw hp_) | (go_at_call 61; (with_reducible refine (impl_modQ.calls (wrap64 ((wrap64 ((rd l0 (ji14)) * (rd l1 (ji17)))) + (wrap64 ((rd l0 (ji17)) * (rd l1 (ji14)))))) t551 _ A25.out).mono ?_); rintro e w' ⟨rfl, ⟨nd, rfl⟩⟩; (try first | exact ⟨rfl, _, World.drewN_drewN _ _ _⟩ | exact ⟨rfl, _, Eq.trans (World.drewN_drewN _ _ _) (congrArg (World.drewN _) (Nat.add_assoc _ _ _))⟩); have p27 : 0 ≤ ((ji17) : Int) := oD_; have q27 : ((ji17) : Int) < ((x5_2.length : Int) : Int) := oD_; obtain ⟨hx27_0, hf27_0⟩ := Kd.R_celln 0 HO_5.out ((ji17) : Int) p27 q27; replace p27 := eq_true p27; replace q27 := eq_true q27; obtain ⟨hy30_, hz30_⟩ := Kd.R_celln 0 HO_5.out ((ji17) : Int) oD_ oD_; have HP30 := Kd.R_putg HO_5.out ((ji17) : Int) t551) | ((with_reducible refine gate_store (t := 3) (p := 78) rfl ?_); (try (rw [drewN_self w29]; generalize hq_ : World.drewN w29 _ = w29; have n_ := b_ (Kd.R_at hq_ HO_5.out) <| c_ (below_at hq_ HB.out); clear hq_ HO_5 HB; obtain ⟨HO_5, HB⟩ := n_; (try (obtain ⟨hy30_, hz30_⟩ := Kd.R_celln 0 HO_5.out ((ji17) : Int) oD_ oD_)); (try (have HP30 := Kd.R_putg HO_5.out ((ji17) : Int) t551)))); refine store_event (t := 3) (p := 78) (v := ?vo_w31) (w1 := (w29.setCell ⟨go24, ((ji17) : Int).toNat, none⟩ (.int .i64 t551))) ?hg ?ho ?hn ?hr ?_; (case ho => rfl); (case hg => rfl); (case hn => rfl); (case hr => first | (go_simp; done) | (go_simp; rfl)); intro w31 hw; have hg : w29.grownBy w31 (some go24) := (by rw [hw]; exact HP30.2); have hp_ : Kd.R (Kd.int .i64) 3 w31 w.heap.size (fun _ => True) (.slice (some ⟨go24, 0, none⟩) x5_2.length co24) y552 := (by rw [hw, Ny552.out]; exact HP30.1); clear HP30; have n0_ := Aside0.mk (hp_); have n1_ := Aside0.mk ((by rw [hw]; exact below_set (HB.out) GB24.out : Below w.heap.size w w31)); replace HO_5 := n0_; replace HB := n1_; clear n0_ n1_; clear hg hw hp_)))
      go_roundg k2
      case measure => have := HJ2.out; have := HK2.out; omega
      case rel => exact ⟨(y552), (wrap64 (x21_2 + 1)), f0_, H', ⟨by have := HJ2.out; have := HK2.out; omega⟩, ⟨rR_ HO_5.out⟩, ⟨hB_⟩⟩

/-! ### impl_dot: function 19 -/
def impl_dot.l0 : Nat → List (List Int) → List (List Int) → List Int → Int → Int → Option (List Int)
 | 0, _, _, _, _, _ => none
 | k + 1, x0, x1, x5, x9, x10 => if x10 < x9 then (if 0 ≤ x10 then (if x10 < (x0.length : Int) then (if x10 < (x1.length : Int) then ((impl_MulNtt.f k (rd_L4 x0 x10) (rd_L4 x1 x10)).bind fun t558 => ((impl_PolyAdd.f k x5 t558).bind fun t561 => (impl_dot.l0 k x0 x1 t561 x9 (wrap64 (x10 + 1))))) else (none)) else (none)) else (none)) else (some x5)
def impl_dot.f (k : Nat) (l0 : List (List Int)) (l1 : List (List Int)) : Option (List Int) := if 256 ≤ 35184372088832 then (impl_dot.l0 k l0 l1 (List.replicate 256 0) (l0.length : Int) 0) else (none)
theorem impl_dot.mono_l : ∀ k, (∀ y0 y1 y2 y3 y4, LeO (impl_dot.l0 k y0 y1 y2 y3 y4) (impl_dot.l0 (k + 1) y0 y1 y2 y3 y4))
 | 0 => fun _ _ _ _ _ r h => by simp [impl_dot.l0] at h
 | k + 1 => by
  have ih0 := impl_dot.mono_l k
  intros; unfold impl_dot.l0; exact o3_ ih0 impl_MulNtt.mono impl_PolyAdd.mono
theorem impl_dot.mono : ∀ a0 a1 k, LeO (impl_dot.f k a0 a1) (impl_dot.f (k + 1) a0 a1) := by
 intro a0 a1 k
 have ih0 := impl_dot.mono_l k
 unfold impl_dot.f
 exact o3_ ih0 impl_MulNtt.mono impl_PolyAdd.mono
def impl_dot.T5 : Bool × List (List Nat × List Nat) := (true, [([], []), ([], []), ([], []), ([1, 2], [1, 2]), ([3], [3]), ([], []), ([], []), ([5, 6], [5, 6]), ([7], [7]), ([4, 8], [4, 8]), ([0, 9, 9], [0, 9]), ([10, 10, 0, 1, 2, 3, 4, 5, 6, 7, 8, 9, 10], [0, 10])])
def impl_dot.B5 : List Nat := [0, 0, 0, 6, 14, 0, 0, 96, 224, 510, 1023, 2047]
theorem impl_dot.tab5 : rtab .any (opsOf Tryd.f19 5) = impl_dot.T5 := by kernel_rfl
theorem impl_dot.bits5 : waitsOk impl_dot.T5.2 impl_dot.B5 = true := by kernel_rfl
theorem impl_dot.calls (k : Nat) (A0 : Option Addr) (c0 : Nat) (l0 : List (List Int)) (A1 : Option Addr) (c1 : Nat) (l1 : List (List Int)) (r : List Int) (w : World) (hr0 : Kd.C (Kd.slice 3 (Kd.int .i64)) w A0 l0.length l0) (hc0 : l0.length ≤ c0) (hr1 : Kd.C (Kd.slice 3 (Kd.int .i64)) w A1 l1.length l1) (hc1 : l1.length ≤ c1) (h : impl_dot.f k l0 l1 = some r) :
  Calls Tryd.prog 19 #[.slice A0 l0.length c0, .slice A1 l1.length c1] w fun e w' => ∃ v0_ : Value, e = .returned (v0_) ∧ Kd.R (Kd.int .i64) 3 w' w.heap.size (fun _ => True) v0_ r ∧ Below w.heap.size w w' := by
 have HR0 := Aside0.mk hr0
 have HC0 := Aside0.mk hc0
 clear hr0 hc0
 have HR1 := Aside0.mk hr1
 have HC1 := Aside0.mk hc1
 clear hr1 hc1
 have HB := Aside0.mk (Below.refl w.heap.size w)
 delta impl_dot.f at h
 have H := h
 clear h
 obtain ⟨c3, H⟩ := iN_ H
 have c3b0 := eq_true c3
 have c3b1 := decide_eq_true c3
 clear c3
 obtain ⟨y553, hy553⟩ : ∃ y_ : List Int, y_ = (List.replicate 256 0) := ⟨_, rfl⟩
 first | replace H := yb_ hy553 H | rw [← hy553] at H
 have Ny553 := Aside0.mk hy553
 clear hy553
 have H' := Aside0.mk H
 clear H
 go_enter Tryd.func19, Tryd.ntmps19
 go_wp2_with (first | ((with_reducible refine gate_dst (N := 7) rfl ?_); refine Kd.R_make (Kd.int .i64) _ 3 rfl (N := 7) rfl 31 _ _ rfl 256 rfl rfl Tryd.underlying31 (.int .i64 0) 8 info3 rfl (by decide) (by omega) 0 (ok := fun _ => True) (okp := fun _ => True) rfl (fun _ hk => hk) trivial (by omega) (by omega) (Below.refl _ _) (Nat.le_refl _) ?_; intro v554 w4 ho5 hb hg_ hnew_; clear hg_ hnew_; (first | rw [← Ny553.out] at ho5 | (simp only [Int.reduceToNat] at ho5; rw [← Ny553.out] at ho5)); have n_ := b_ (Kd.R_lower ho5 (below_size (hB_))) <| c_ (below_step (hB_) hb); clear HB; obtain ⟨HO555, HB⟩ := n_; clear hb ho5))
 go_loopg [5, 10] k (fun kq v5 v10 w' => ∃ (x5_1 : List Int) (x10_1 : Int), v10 = .int .i64 x10_1 ∧ Aside0 (impl_dot.l0 kq l0 l1 x5_1 (l0.length : Int) x10_1 = some r) ∧ Aside0 (kq ≤ k) ∧ Aside0 (Kd.R (Kd.int .i64) 3 w' w.heap.size (fun _ => True) v5 x5_1) ∧ Aside0 (Below w.heap.size w w'))
 case atStart => exact ⟨(y553), (0), f0_, H', ⟨Nat.le_refl _⟩, ⟨rR_ HO555.out⟩, ⟨hB_⟩⟩
 case round =>
  clear H'
  obtain ⟨x5_1, x10_1, rfl, HA, HK1, HO_5, HB⟩ := hrel
  cases gk with
  | zero => exact absurd HA.out (by simp [impl_dot.l0])
  | succ k1 =>
   have H := HA.out
   clear HA
   simp only [impl_dot.l0] at H
   by_cases c6 : x10_1 < (l0.length : Int)
   rotate_left
   ·rw [if_neg c6] at H
    have c6b0 := decide_eq_false c6
    clear c6
    obtain rfl := Option.some.inj H
    go_wp2
    go_ret
    exact ⟨_, f1_, rR_ HO_5.out, hB_⟩
   rw [if_pos c6] at H
   have c6b0 := decide_eq_true c6
   clear c6
   obtain ⟨c7b0, H⟩ := iD_ H
   obtain ⟨c8b0, H⟩ := iD_ H
   obtain ⟨c9b0, H⟩ := iD_ H
   obtain ⟨t558, A10, H⟩ := bN_ H
   obtain ⟨t561, A11, H⟩ := bN_ H
   have H' := Aside0.mk H
   clear H
   try go_wp2
   have n_ := b_ (Kd.R_drew HO_5.out) <| c_ (below_drew1 HB.out)
   clear HO_5 HB
   obtain ⟨HO_5, HB⟩ := n_
   have p556 : 0 ≤ (x10_1 : Int) := oD_
   have q556 : x10_1 < (l0.length : Int) := oD_
   obtain ⟨ad556, A556_0, c556_0, e556, hx556_0, hl556_0, hi556_0⟩ := at_L4 HR0.out x10_1 p556 q556
   have hw556_0 := hx556_0
   cases e556
   replace hx556_0 := (HB.out.cell (World.block_lt_of_cell? w _ hx556_0)).trans hx556_0
   have HR556_0 := Aside0.mk hi556_0
   have HC556_0 := Aside0.mk hl556_0
   clear hi556_0 hl556_0
   replace p556 := eq_true p556
   replace q556 := eq_true q556
   have p557 : 0 ≤ (x10_1 : Int) := oD_
   have q557 : x10_1 < (l1.length : Int) := oD_
   obtain ⟨ad557, A557_0, c557_0, e557, hx557_0, hl557_0, hi557_0⟩ := at_L4 HR1.out x10_1 p557 q557
   have hw557_0 := hx557_0
   cases e557
   replace hx557_0 := (HB.out.cell (World.block_lt_of_cell? w _ hx557_0)).trans hx557_0
   have HR557_0 := Aside0.mk hi557_0
   have HC557_0 := Aside0.mk hl557_0
   clear hi557_0 hl557_0
   replace p557 := eq_true p557
   replace q557 := eq_true q557
   refine start_ (n := 12) (S := fun w' => w'.cell? (ad556.add (x10_1).toNat) = some (.slice A556_0 (rd_L4 l0 x10_1).length c556_0) ∧ w'.cell? (ad557.add (x10_1).toNat) = some (.slice A557_0 (rd_L4 l1 x10_1).length c557_0)) (ds := []) (bb_ 12 0) (by kernel_rfl) rfl rfl ⟨((HB.out.cell (World.block_lt_of_cell? w _ hw556_0)).trans hw556_0), ((HB.out.cell (World.block_lt_of_cell? w _ hw557_0)).trans hw557_0)⟩ (fun hHeld => ?_); refine with_tabW impl_dot.tab5 impl_dot.bits5 (fun HT_ HW_ => ?_)
   generalize wr.drew = w12 at HO_5 HB HR556_0 HR557_0 hx556_0 hx557_0 hHeld ⊢
   refine pS_ 0 13 (bb_ 12 1) HT_.out ?_
   refine pS_ 1 14 (bb_ 12 3) HT_.out ?_
   refine pS_ 2 15 (bb_ 12 7) HT_.out ?_
   refine pS_ 3 16 (bb_ 12 15) HT_.out ?_
   refine pS_ 5 18 (bb_ 12 47) HT_.out ?_
   refine pS_ 6 19 (bb_ 12 111) HT_.out ?_
   refine pS_ 7 20 (bb_ 12 239) HT_.out ?_
   refine tS_ 4 17 (bb_ 12 255) (take_ofW HT_.out HW_.out (by kernel_rfl)) hHeld ?_
   refine tS_ 8 21 (bb_ 12 511) (take_ofW HT_.out HW_.out (by kernel_rfl)) hHeld ?_
   refine one_ (i := 9) (N := some 22) (bb_ 12 1023) rfl rfl (one_of HT_.out (by kernel_rfl)) (by decide) (fun K hK => ?_)
   refine goes_ Tryd.func42 (by kernel_rfl) rfl #[.slice A556_0 (rd_L4 l0 x10_1).length c556_0, .slice A557_0 (rd_L4 l1 x10_1).length c557_0] (by rfl) rfl rfl aM_ ?_
   with_reducible refine (impl_MulNtt.calls k1 _ _ (rd_L4 l0 x10_1) _ _ (rd_L4 l1 x10_1) t558 _ ?side1 ?side2 ?side3 ?side4 A10.out).mono ?_
   (case side1 => exact cR_ (Kd.C_below HR556_0.out HB.out))
   (case side2 => exact HC556_0.out)
   (case side3 => exact cR_ (Kd.C_below HR557_0.out HB.out))
   (case side4 => exact HC557_0.out)
   rintro e w13 ⟨v559, rfl, ho0, hb⟩
   refine ⟨_, rfl, ?_⟩
   have n_ := b_ (Kd.R_elder' (rR_ HO_5.out) (Kd.R_base ho0) hb) <| b_ (Kd.R_lower (Kd.R_new' ho0 (Kd.R_lt (rR_ HO_5.out))) (below_size (hB_))) <| c_ (below_step (hB_) hb)
   clear HO_5 HB
   obtain ⟨HO_5, HO560, HB⟩ := n_
   obtain ⟨Ao14, co14, eo14⟩ := Kd.R_slice HO_5.out
   (first | subst eo14 | (injection eo14 with f1_ f2_ f3_; have f4_ := f1_.symm; have f5_ := f3_.symm; clear f1_ f2_ f3_; subst f4_; subst f5_))
   obtain ⟨Ao15, co15, eo15⟩ := Kd.R_slice HO560.out
   (first | subst eo15 | (injection eo15 with f1_ f2_ f3_; have f4_ := f1_.symm; have f5_ := f3_.symm; clear f1_ f2_ f3_; subst f4_; subst f5_))
   refine hK.out _ _ ⟨((HB.out.cell (World.block_lt_of_cell? w _ hw556_0)).trans hw556_0), ((HB.out.cell (World.block_lt_of_cell? w _ hw557_0)).trans hw557_0)⟩ (fun hHeld => ?_)
   clear hK K
   refine norm_ (a' := ?_) ?_ ?_
   rotate_left
   ·show Act.put _ (some 22) _ = _
    simp only [Act.put, List.setIfInBounds_toArray, List.set_cons_zero, List.set_cons_succ, i64_w, i32_w]
    rfl
   refine one_ (i := 10) (N := some 23) (bb_ 12 2047) rfl rfl (one_of HT_.out (by kernel_rfl)) (by decide) (fun K hK => ?_)
   refine goes_ Tryd.func18 (by kernel_rfl) rfl #[.slice Ao14 x5_1.length co14, .slice Ao15 t558.length co15] (by rfl) rfl rfl aM_ ?_
   with_reducible refine (impl_PolyAdd.calls k1 _ _ x5_1 _ _ t558 t561 _ ?side1 ?side2 ?side3 ?side4 A11.out).mono ?_
   (case side1 => exact cR_ (Kd.R_reads' HO_5.out).2.2)
   (case side2 => exact (Kd.R_reads' HO_5.out).2.1)
   (case side3 => exact cR_ (Kd.R_reads' HO560.out).2.2)
   (case side4 => exact (Kd.R_reads' HO560.out).2.1)
   rintro e w16 ⟨v562, rfl, ho0, hb⟩
   refine ⟨_, rfl, ?_⟩
   have n_ := b_ (Kd.R_elder' (rR_ HO_5.out) (Kd.R_base ho0) hb) <| b_ (Kd.R_elder' (rR_ HO560.out) (Kd.R_base ho0) hb) <| b_ (Kd.R_lower (Kd.R_new' (Kd.R_new' ho0 (Kd.R_lt (rR_ HO_5.out))) (Kd.R_lt (rR_ HO560.out))) (below_size (hB_))) <| c_ (below_step (hB_) hb)
   clear HO_5 HO560 HB
   obtain ⟨HO_5, HO560, HO563, HB⟩ := n_
   refine hK.out _ _ ⟨((HB.out.cell (World.block_lt_of_cell? w _ hw556_0)).trans hw556_0), ((HB.out.cell (World.block_lt_of_cell? w _ hw557_0)).trans hw557_0)⟩ (fun hHeld => ?_)
   clear hK K
   refine norm_ (a' := ?_) ?_ ?_
   rotate_left
   ·show Act.put _ (some 23) _ = _
    simp only [Act.put, List.setIfInBounds_toArray, List.set_cons_zero, List.set_cons_succ, i64_w, i32_w]
    rfl
   refine pS_ 11 5 (bb_ 12 4095) HT_.out ?_
   refine done_ (done_of HT_.out (by kernel_rfl)) ?_
   try go_wp2
   go_roundg k1
   case measure => have := HK1.out; omega
   case rel => exact ⟨(t561), (wrap64 (x10_1 + 1)), f0_, H', ⟨by have := HK1.out; omega⟩, ⟨by refine kR_ ?_; exact Kd.R_mono HO563.out (fun _ hk => trivial)⟩, ⟨hB_⟩⟩

/-! ### laws_eqPair: function 6 -/
def laws_eqPair.f (a0_0 : ByteArray) (a0_1 : ByteArray) (a1_0 : ByteArray) (a1_1 : ByteArray) : Option (Bool) := if a0_0.toList = a1_0.toList then (if a0_1.toList = a1_1.toList then (some true) else (some false)) else (some false)
theorem laws_eqPair.calls (a0_0 : ByteArray) (a0_1 : ByteArray) (a1_0 : ByteArray) (a1_1 : ByteArray) (r : Bool) (w : World) (h : laws_eqPair.f a0_0 a0_1 a1_0 a1_1 = some r) :
  Calls Tryd.prog 6 #[.agg #[.string a0_0, .string a0_1], .agg #[.string a1_0, .string a1_1]] w fun e w' => e = .returned (.bool r) ∧ Below w.heap.size w w' := by
 have hu23 := Tryd.underlying23
 have HB := Aside0.mk (Below.refl w.heap.size w)
 delta laws_eqPair.f at h
 have H := h
 clear h
 by_cases c3 : a0_0.toList = a1_0.toList
 ·rw [if_pos c3] at H
  have c3b0 : (a0_0.toList == a1_0.toList) = true := beq_iff_eq.mpr c3
  have c3b1 : (a0_0.toList != a1_0.toList) = false := bne_eq_false_iff_eq.mpr c3
  clear c3
  by_cases c4 : a0_1.toList = a1_1.toList
  ·rw [if_pos c4] at H
   have c4b0 : (a0_1.toList == a1_1.toList) = true := beq_iff_eq.mpr c4
   have c4b1 : (a0_1.toList != a1_1.toList) = false := bne_eq_false_iff_eq.mpr c4
   clear c4
   obtain rfl := Option.some.inj H
   go_enter Tryd.func6, Tryd.ntmps6
   go_wp2_with (first | ((with_reducible refine gate_dst (N := 2) rfl ?_); refine box_event ?hg (N := 2) ?hd (cs := #[.string a0_0, .string a0_1]) (t := 23) ?hr ?_; (case hd => rfl); (case hg => rfl); (case hr => first | (go_simp; done) | (go_simp; rfl)); intro gb624 hg w5 hbox hb; have n_ := b_ (below_step (hB_) hb) <| b_ (hbox) <| b_ (by rw [hg]; exact (below_size (hB_)) : w.heap.size ≤ gb624) <| c_ (by rw [hg]; exact (below_size (hB_)) : w.heap.size ≤ gb624); clear HB; obtain ⟨HB, BK624, GW624, GE624⟩ := n_; clear hb hbox hg) | ((with_reducible refine gate_dst (N := 3) rfl ?_); refine box_event ?hg (N := 3) ?hd (cs := #[.string a1_0, .string a1_1]) (t := 23) ?hr ?_; (case hd => rfl); (case hg => rfl); (case hr => first | (go_simp; done) | (go_simp; rfl)); intro gb625 hg w6 hbox hb; have n_ := b_ (blk_below (g := gb624) (o := .cells #[.string a0_0, .string a0_1] 23 (0, 0)) (rK_ BK624.out) hb) <| b_ (below_step (hS_ GE624.out) hb) <| b_ (hbox) <| b_ (by rw [hg]; exact (below_size (hS_ GE624.out)) : w.heap.size ≤ gb625) <| b_ (by rw [hg]; exact (below_size (hS_ GE624.out)) : w.heap.size ≤ gb625) <| b_ (by rw [hg]; exact Nat.ne_of_lt (blk_lt (g := gb624) (o := .cells #[.string a0_0, .string a0_1] 23 (0, 0)) (rK_ BK624.out)) : gb624 ≠ gb625) <| c_ (by rw [hg]; exact Nat.ne_of_gt (blk_lt (g := gb624) (o := .cells #[.string a0_0, .string a0_1] 23 (0, 0)) (rK_ BK624.out)) : gb625 ≠ gb624); clear BK624 HB; obtain ⟨BK624, HB, BK625, GW625, GE625, NB624_625, NB625_624⟩ := n_; clear hb hbox hg; have hnb7 := NB624_625.out; have hnc7 := NB625_624.out; have hcz8_0 : w6.cell? ⟨gb624, 0, none⟩ = some (.string a0_0) := (blk_cell BK624.out 0).trans rfl; have hcz8_1 : w6.cell? ⟨gb624, 1, none⟩ = some (.string a0_1) := (blk_cell BK624.out 1).trans rfl; have hfz8_0 := blk_frozen BK624.out 0; have hfz8_1 := blk_frozen BK624.out 1; have hcz9_0 : w6.cell? ⟨gb625, 0, none⟩ = some (.string a1_0) := (blk_cell BK625.out 0).trans rfl; have hcz9_1 : w6.cell? ⟨gb625, 1, none⟩ = some (.string a1_1) := (blk_cell BK625.out 1).trans rfl; have hfz9_0 := blk_frozen BK625.out 0; have hfz9_1 := blk_frozen BK625.out 1))
   go_ret
   exact ⟨f1_, (u0_ GE624.out GE625.out)⟩
  rw [if_neg c4] at H
  have c4b0 : (a0_1.toList == a1_1.toList) = false := beq_eq_false_iff_ne.mpr c4
  have c4b1 : (a0_1.toList != a1_1.toList) = true := bne_iff_ne.mpr c4
  obtain rfl := Option.some.inj H
  go_enter Tryd.func6, Tryd.ntmps6
  go_wp2_with (first | ((with_reducible refine gate_dst (N := 2) rfl ?_); refine box_event ?hg (N := 2) ?hd (cs := #[.string a0_0, .string a0_1]) (t := 23) ?hr ?_; (case hd => rfl); (case hg => rfl); (case hr => first | (go_simp; done) | (go_simp; rfl)); intro gb624 hg w10 hbox hb; have n_ := b_ (below_step (hB_) hb) <| b_ (hbox) <| b_ (by rw [hg]; exact (below_size (hB_)) : w.heap.size ≤ gb624) <| c_ (by rw [hg]; exact (below_size (hB_)) : w.heap.size ≤ gb624); clear HB; obtain ⟨HB, BK624, GW624, GE624⟩ := n_; clear hb hbox hg) | ((with_reducible refine gate_dst (N := 3) rfl ?_); refine box_event ?hg (N := 3) ?hd (cs := #[.string a1_0, .string a1_1]) (t := 23) ?hr ?_; (case hd => rfl); (case hg => rfl); (case hr => first | (go_simp; done) | (go_simp; rfl)); intro gb625 hg w11 hbox hb; have n_ := b_ (blk_below (g := gb624) (o := .cells #[.string a0_0, .string a0_1] 23 (0, 0)) (rK_ BK624.out) hb) <| b_ (below_step (hS_ GE624.out) hb) <| b_ (hbox) <| b_ (by rw [hg]; exact (below_size (hS_ GE624.out)) : w.heap.size ≤ gb625) <| b_ (by rw [hg]; exact (below_size (hS_ GE624.out)) : w.heap.size ≤ gb625) <| b_ (by rw [hg]; exact Nat.ne_of_lt (blk_lt (g := gb624) (o := .cells #[.string a0_0, .string a0_1] 23 (0, 0)) (rK_ BK624.out)) : gb624 ≠ gb625) <| c_ (by rw [hg]; exact Nat.ne_of_gt (blk_lt (g := gb624) (o := .cells #[.string a0_0, .string a0_1] 23 (0, 0)) (rK_ BK624.out)) : gb625 ≠ gb624); clear BK624 HB; obtain ⟨BK624, HB, BK625, GW625, GE625, NB624_625, NB625_624⟩ := n_; clear hb hbox hg; have hnb12 := NB624_625.out; have hnc12 := NB625_624.out; have hcz13_0 : w11.cell? ⟨gb624, 0, none⟩ = some (.string a0_0) := (blk_cell BK624.out 0).trans rfl; have hcz13_1 : w11.cell? ⟨gb624, 1, none⟩ = some (.string a0_1) := (blk_cell BK624.out 1).trans rfl; have hfz13_0 := blk_frozen BK624.out 0; have hfz13_1 := blk_frozen BK624.out 1; have hcz14_0 : w11.cell? ⟨gb625, 0, none⟩ = some (.string a1_0) := (blk_cell BK625.out 0).trans rfl; have hcz14_1 : w11.cell? ⟨gb625, 1, none⟩ = some (.string a1_1) := (blk_cell BK625.out 1).trans rfl; have hfz14_0 := blk_frozen BK625.out 0; have hfz14_1 := blk_frozen BK625.out 1))
  go_ret
  exact ⟨f1_, (u0_ GE624.out GE625.out)⟩
 rw [if_neg c3] at H
 have c3b0 : (a0_0.toList == a1_0.toList) = false := beq_eq_false_iff_ne.mpr c3
 have c3b1 : (a0_0.toList != a1_0.toList) = true := bne_iff_ne.mpr c3
 obtain rfl := Option.some.inj H
 go_enter Tryd.func6, Tryd.ntmps6
 go_wp2_with (first | ((with_reducible refine gate_dst (N := 2) rfl ?_); refine box_event ?hg (N := 2) ?hd (cs := #[.string a0_0, .string a0_1]) (t := 23) ?hr ?_; (case hd => rfl); (case hg => rfl); (case hr => first | (go_simp; done) | (go_simp; rfl)); intro gb624 hg w15 hbox hb; have n_ := b_ (below_step (hB_) hb) <| b_ (hbox) <| b_ (by rw [hg]; exact (below_size (hB_)) : w.heap.size ≤ gb624) <| c_ (by rw [hg]; exact (below_size (hB_)) : w.heap.size ≤ gb624); clear HB; obtain ⟨HB, BK624, GW624, GE624⟩ := n_; clear hb hbox hg) | ((with_reducible refine gate_dst (N := 3) rfl ?_); refine box_event ?hg (N := 3) ?hd (cs := #[.string a1_0, .string a1_1]) (t := 23) ?hr ?_; (case hd => rfl); (case hg => rfl); (case hr => first | (go_simp; done) | (go_simp; rfl)); intro gb625 hg w16 hbox hb; have n_ := b_ (blk_below (g := gb624) (o := .cells #[.string a0_0, .string a0_1] 23 (0, 0)) (rK_ BK624.out) hb) <| b_ (below_step (hS_ GE624.out) hb) <| b_ (hbox) <| b_ (by rw [hg]; exact (below_size (hS_ GE624.out)) : w.heap.size ≤ gb625) <| b_ (by rw [hg]; exact (below_size (hS_ GE624.out)) : w.heap.size ≤ gb625) <| b_ (by rw [hg]; exact Nat.ne_of_lt (blk_lt (g := gb624) (o := .cells #[.string a0_0, .string a0_1] 23 (0, 0)) (rK_ BK624.out)) : gb624 ≠ gb625) <| c_ (by rw [hg]; exact Nat.ne_of_gt (blk_lt (g := gb624) (o := .cells #[.string a0_0, .string a0_1] 23 (0, 0)) (rK_ BK624.out)) : gb625 ≠ gb624); clear BK624 HB; obtain ⟨BK624, HB, BK625, GW625, GE625, NB624_625, NB625_624⟩ := n_; clear hb hbox hg; have hnb17 := NB624_625.out; have hnc17 := NB625_624.out; have hcz18_0 : w16.cell? ⟨gb624, 0, none⟩ = some (.string a0_0) := (blk_cell BK624.out 0).trans rfl; have hcz18_1 : w16.cell? ⟨gb624, 1, none⟩ = some (.string a0_1) := (blk_cell BK624.out 1).trans rfl; have hfz18_0 := blk_frozen BK624.out 0; have hfz18_1 := blk_frozen BK624.out 1; have hcz19_0 : w16.cell? ⟨gb625, 0, none⟩ = some (.string a1_0) := (blk_cell BK625.out 0).trans rfl; have hcz19_1 : w16.cell? ⟨gb625, 1, none⟩ = some (.string a1_1) := (blk_cell BK625.out 1).trans rfl; have hfz19_0 := blk_frozen BK625.out 0; have hfz19_1 := blk_frozen BK625.out 1))
 go_ret
 exact ⟨f1_, (u0_ GE624.out GE625.out)⟩

end Go.Proofs.YthdjmbbkenbeiaaDoor.P
