-- printed texts of this session, regrouped
import Derived.Test.YtjcmafoepabpkaaDoorMW7
import Derived.Test.YtjcmafoepabpkaaDoorMW6
import Derived.Test.YtjcmafoepabpkaaDoorPx0
import Derived.Test.YtjcmafoepabpkaaDoorPx9
namespace Go.Proofs.YtjcmafoepabpkaaDoor.P
open Go.RowKit Go.Proofs.YtjcmafoepabpkaaDoorW.PrintWords Go.Proofs.YtjcmafoepabpkaaDoorW.PrintLast Go.Proofs.YtjcmafoepabpkaaDoorW.PrintMore
attribute [local go_sem] max2_int min2_int max_two min_two max_three min_three max_four min_four   -- for this text's walks alone
set_option linter.unusedVariables false
set_option linter.unusedSimpArgs false
set_option maxHeartbeats 8000000
set_option maxRecDepth 100000

/-! ### spec_RootOf: function 120 -/
def spec_RootOf.l0 : Nat → List ByteArray → Int → Option (ByteArray)
 | 0, _, _ => none
 | k + 1, x0, x3 => if x3 ≤ 2 then ((spec_LevelUp.f k x3 x0).bind fun t853 => (spec_RootOf.l0 k t853 (wrap64 (x3 + 1)))) else (if 0 < (x0.length : Int) then (some (rdOf ByteArray.empty x0 0)) else (none))
def spec_RootOf.f (k : Nat) (l0 : List ByteArray) : Option (ByteArray) := if (l0.length : Int) = 4 then (spec_RootOf.l0 k l0 1) else (some (⟨#[]⟩ : ByteArray))
theorem spec_RootOf.mono_l : ∀ k, (∀ y0 y1, LeO (spec_RootOf.l0 k y0 y1) (spec_RootOf.l0 (k + 1) y0 y1))
 | 0 => fun _ _ r h => by simp [spec_RootOf.l0] at h
 | k + 1 => by
  have ih0 := spec_RootOf.mono_l k
  ·intro y0 y1
   unfold spec_RootOf.l0
   repeat' first
   | (with_reducible exact ih0 _ _)
   | (with_reducible exact spec_LevelUp.mono _ _ _)
   | (with_reducible exact LeO.refl _)
   | (with_reducible exact LeO.none _)
   | (with_reducible refine LeO.ite ?_ ?_)
   | (with_reducible refine LeO.bind ?_ (fun _ => ?_))
   | exact ih0 _ _
   | exact spec_LevelUp.mono _ _ _
   | exact LeO.none _
   | refine LeO.ite ?_ ?_
   | refine LeO.bind ?_ (fun _ => ?_)
theorem spec_RootOf.mono : ∀ a0 k, LeO (spec_RootOf.f k a0) (spec_RootOf.f (k + 1) a0) := by
 intro a0 k
 have ih0 := spec_RootOf.mono_l k
 unfold spec_RootOf.f
 repeat' first
   | (with_reducible exact ih0 _ _)
   | (with_reducible exact spec_LevelUp.mono _ _ _)
   | (with_reducible exact LeO.refl _)
   | (with_reducible exact LeO.none _)
   | (with_reducible refine LeO.ite ?_ ?_)
   | (with_reducible refine LeO.bind ?_ (fun _ => ?_))
   | exact ih0 _ _
   | exact spec_LevelUp.mono _ _ _
   | exact LeO.none _
   | refine LeO.ite ?_ ?_
   | refine LeO.bind ?_ (fun _ => ?_)
theorem spec_RootOf.calls (k : Nat) (P0_ : Nat → Prop) (A0 : Option Addr) (c0 : Nat) (l0 : List ByteArray) (r : ByteArray) (w : World) (hs0 : Kd.V Kd.string 9 w w.heap.size (fun k_ => P0_ k_) (.slice A0 l0.length c0) l0) (h : spec_RootOf.f k l0 = some r) :
  Calls Tryd.prog 120 #[.slice A0 l0.length c0] w fun e w' => e = .returned (.string r) ∧ Below w.heap.size w w' := by
 have HO0 := Aside0.mk (show Kd.V Kd.string 9 w w.heap.size (fun k_ => (P0_ k_ ∨ w.heap.size ≤ k_)) (.slice A0 l0.length c0) l0 from Kd.V_mono hs0 (fun k_ hk => .inl hk))
 have HB := Aside0.mk (Below.refl w.heap.size w)
 have H : (if (l0.length : Int) = 4 then (spec_RootOf.l0 k l0 1) else (some (⟨#[]⟩ : ByteArray))) = some r := h
 clear h
 by_cases c2 : (l0.length : Int) = 4
 rotate_left
 ·rw [if_neg c2] at H
  have c2b0 : ((l0.length : Int) == 4) = false := beq_eq_false_iff_ne.mpr c2
  have c2b1 : ((l0.length : Int) != 4) = true := bne_iff_ne.mpr c2
  obtain rfl := Option.some.inj H
  go_enter Tryd.func120, Tryd.ntmps120
  go_wp2
  go_ret
  exact ⟨by first | rfl | (simp [errW_none, errW_some] <;> rfl) | (simp [*, errW_none, errW_some] <;> rfl), hB_⟩
 rw [if_pos c2] at H
 have c2b0 : ((l0.length : Int) == 4) = true := beq_iff_eq.mpr c2
 have c2b1 : ((l0.length : Int) != 4) = false := bne_eq_false_iff_eq.mpr c2
 clear c2
 have H' := Aside0.mk H
 clear H
 go_enter Tryd.func120, Tryd.ntmps120
 go_wp2
 go_loopg [0, 3] k (fun kq v0 v3 w' => ∃ (x0_1 : List ByteArray) (x3_1 : Int), v3 = .int .i64 x3_1 ∧ Aside0 (spec_RootOf.l0 kq x0_1 x3_1 = some r) ∧ Aside0 (kq ≤ k) ∧ Aside0 (Kd.V Kd.string 9 w' w.heap.size (fun k_ => (P0_ k_ ∨ w.heap.size ≤ k_)) v0 x0_1) ∧ Aside0 (Below w.heap.size w w'))
 case atStart => exact ⟨(l0), (1), (by first | rfl | (simp; done) | (simp [*]; done)), H', ⟨Nat.le_refl _⟩, ⟨rV_ HO0.out⟩, ⟨hB_⟩⟩
 case round =>
  clear H'
  try clear c1
  try clear c2
  try clear c2b0
  try clear c2b1
  try clear p2
  obtain ⟨x0_1, x3_1, rfl, HA, HK1, HO_0, HB⟩ := hrel
  cases gk with
  | zero => exact absurd HA.out (by simp [spec_RootOf.l0])
  | succ k1 =>
   have H := HA.out
   clear HA
   simp only [spec_RootOf.l0] at H
   by_cases c3 : x3_1 ≤ 2
   ·rw [if_pos c3] at H
    have c3b0 := decide_eq_true c3
    clear c3
    replace H := Option.bind_eq_some_iff.mp H
    obtain ⟨t853, A40, H⟩ := H
    try dsimp -simprocs only at H
    have A4 := Aside0.mk A40
    clear A40
    have H' := Aside0.mk H
    clear H
    obtain ⟨Ao5, co5, eo5⟩ := Kd.V_slice HO_0.out
    subst eo5
    go_wp2_with (first | ((with_reducible refine gate_callee (f := 116) rfl ?_); refine goesL_ (some 13) rfl rfl Tryd.func116 (by kernel_rfl) rfl #[.int .i64 x3_1, .slice Ao5 x0_1.length co5] rfl aM_ ?_; (with_reducible refine (spec_LevelUp.calls k1 x3_1 _ _ x0_1 t853 _ ?side1 ?side2 A4.out).mono ?_); (case side1 => exact cR_ (Kd.V_reads' HO_0.out).2.2); (case side2 => exact (Kd.V_reads' HO_0.out).2.1); rintro e w6 ⟨v854, rfl, ho0, hb⟩; refine ⟨_, rfl, ?_⟩; have n0_ := Aside0.mk (Kd.V_elder' (rV_ HO_0.out) (Kd.R_base ho0) hb); have n1_ := Aside0.mk (Kd.R_lower (Kd.R_newM (M := fun k_ => (w.heap.size ≤ k_)) ho0 (below_size (hB_)) (fun k_ h_ => h_)) (below_size (hB_))); have n2_ := Aside0.mk (below_step (hB_) hb); replace HO_0 := n0_; have HO855 := n1_; replace HB := n2_; clear n0_ n1_ n2_; (try clear hb); (try clear ho0)))
    go_roundg k1
    case measure => have := HK1.out; omega
    case rel => exact ⟨(t853), (wrap64 (x3_1 + 1)), (by first | rfl | (simp; done) | (simp [*]; done)), H', ⟨by have := HK1.out; omega⟩, ⟨Kd.V_mono (Kd.R_V (by refine kR_ ?_; exact Kd.R_mono HO855.out (fun _ hk => hk.1))) (fun k_ hk => by first | exact ⟨(.inr (hk.1)), hk.2⟩ | exact (.inr (hk)))⟩, ⟨hB_⟩⟩
   rw [if_neg c3] at H
   have c3b0 := decide_eq_false c3
   clear c3
   obtain ⟨c7, H⟩ := iN_ H
   have c7b0 := decide_eq_true c7
   have c7b1 : decide (0 < x0_1.length) = true := decide_eq_true (by omega)
   clear c7
   obtain rfl := Option.some.inj H
   obtain ⟨Ao8, co8, eo8⟩ := Kd.V_slice HO_0.out
   subst eo8
   have p856 : 0 ≤ (0 : Int) := (by omega)
   have q856 : 0 < (x0_1.length : Int) := of_decide_eq_true (by first | (with_reducible assumption) | assumption)
   obtain ⟨ad856, e856, hx856_0⟩ := Kd.at_string (Kd.V_reads' HO_0.out).2.2 0 p856 q856
   cases e856
   have qi856 : (0 < x0_1.length) = True := eq_true (by omega)
   (try rw [show ((0 : Int)).toNat = 0 from rfl] at hx856_0)
   (try rw [Addr.add_zero'] at hx856_0)
   replace p856 := eq_true p856
   replace q856 := eq_true q856
   go_wp2
   go_ret
   exact ⟨by first | rfl | (simp [errW_none, errW_some] <;> rfl) | (simp [*, errW_none, errW_some] <;> rfl), hB_⟩

/-! ### spec_PublicOf: function 101 -/
def spec_PublicOf.f (k : Nat) (a0 : ByteArray) : Option (ByteArray) := (spec_l16Leaves.f k a0).bind fun t857 => ((spec_RootOf.f k t857).bind fun t860 => (some t860))
theorem spec_PublicOf.mono : ∀ a0 k, LeO (spec_PublicOf.f k a0) (spec_PublicOf.f (k + 1) a0) := by
 intro a0 k
 unfold spec_PublicOf.f
 repeat' first
   | (with_reducible exact spec_RootOf.mono _ _)
   | (with_reducible exact spec_l16Leaves.mono _ _)
   | (with_reducible exact LeO.refl _)
   | (with_reducible exact LeO.none _)
   | (with_reducible refine LeO.ite ?_ ?_)
   | (with_reducible refine LeO.bind ?_ (fun _ => ?_))
   | exact spec_RootOf.mono _ _
   | exact spec_l16Leaves.mono _ _
   | exact LeO.none _
   | refine LeO.ite ?_ ?_
   | refine LeO.bind ?_ (fun _ => ?_)
theorem spec_PublicOf.calls (k : Nat) (a0 : ByteArray) (r : ByteArray) (w : World) (h : spec_PublicOf.f k a0 = some r) :
  Calls Tryd.prog 101 #[.string a0] w fun e w' => e = .returned (.string r) ∧ Below w.heap.size w w' := by
 have HB := Aside0.mk (Below.refl w.heap.size w)
 have H : ((spec_l16Leaves.f k a0).bind fun t857 => ((spec_RootOf.f k t857).bind fun t860 => (some t860))) = some r := h
 clear h
 replace H := Option.bind_eq_some_iff.mp H
 obtain ⟨t857, A20, H⟩ := H
 try dsimp -simprocs only at H
 have A2 := Aside0.mk A20
 clear A20
 replace H := Option.bind_eq_some_iff.mp H
 obtain ⟨t860, A30, H⟩ := H
 try dsimp -simprocs only at H
 have A3 := Aside0.mk A30
 clear A30
 obtain rfl := Option.some.inj H
 go_enter Tryd.func101, Tryd.ntmps101
 go_wp2_with (first | ((with_reducible refine gate_callee (f := 89) rfl ?_); refine goesL_ (some 4) rfl rfl Tryd.func89 (by kernel_rfl) rfl #[.string a0] rfl aM_ ?_; (with_reducible refine (spec_l16Leaves.calls k a0 t857 _ A2.out).mono ?_); rintro e w4 ⟨v858, rfl, ho0, hb⟩; refine ⟨_, rfl, ?_⟩; have n0_ := Aside0.mk (Kd.R_lower ho0 (below_size (hB_))); have n1_ := Aside0.mk (below_step (hB_) hb); have HO859 := n0_; replace HB := n1_; clear n0_ n1_; (try clear hb); (try clear ho0); obtain ⟨Ao5, co5, eo5⟩ := Kd.R_slice HO859.out; subst eo5) | ((with_reducible refine gate_callee (f := 120) rfl ?_); refine goesL_ (some 5) rfl rfl Tryd.func120 (by kernel_rfl) rfl #[.slice Ao5 t857.length co5] rfl aM_ ?_; (with_reducible refine (spec_RootOf.calls k (fun k_ => some k_ = (.slice Ao5 t857.length co5 : Value).ownBlock) _ _ t857 t860 _ ?side1 A3.out).mono ?_); (case side1 => exact Kd.R_V (Kd.R_tight rfl (HO859.out))); rintro e w6 ⟨rfl, hb⟩; refine ⟨_, rfl, ?_⟩; have n0_ := Aside0.mk (Kd.R_below (rR_ HO859.out) hb); have n1_ := Aside0.mk (below_step (hB_) hb); replace HO859 := n0_; replace HB := n1_; clear n0_ n1_; (try clear hb)))
 go_ret
 exact ⟨by first | rfl | (simp [errW_none, errW_some] <;> rfl) | (simp [*, errW_none, errW_some] <;> rfl), hB_⟩

end Go.Proofs.YtjcmafoepabpkaaDoor.P
