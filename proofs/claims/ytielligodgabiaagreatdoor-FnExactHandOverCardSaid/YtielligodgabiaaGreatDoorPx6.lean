-- printed texts of this session, regrouped
import Derived.Test.YtielligodgabiaaGreatDoorMWC
import Derived.Test.YtielligodgabiaaGreatDoorMWA
import Derived.Test.YtielligodgabiaaGreatDoorMW7
import Derived.Test.YtielligodgabiaaGreatDoorMW6
import Derived.Test.YtielligodgabiaaGreatDoorPx0
import Derived.Test.YtielligodgabiaaGreatDoorPx4
import Derived.Test.YtielligodgabiaaGreatDoorPx5
namespace Go.Proofs.YtielligodgabiaaGreatDoor.P
open Go.RowKit YtielligodgabiaaGreatDoorW.PrintWords YtielligodgabiaaGreatDoorW.PrintLast YtielligodgabiaaGreatDoorW.PrintMore
attribute [local go_sem] dJ dC ej eh dh di dB dK   -- for this text's walks alone
set_option linter.unusedVariables false
set_option linter.unusedSimpArgs false
set_option maxHeartbeats 8000000
set_option maxRecDepth 100000

/-! ### aZ: function 69 -/
mutual
def aZ.j0 : Nat → List Int → List Int → Bool → Option (List Int)
 | 0, _, _, _ => none
 | k + 1, x0, x1, x19 => if x19 = true then (some ([] : List Int)) else (if 256 ≤ 35184372088832 then (aZ.l0 k x0 x1 (List.replicate 256 0) 0) else (none))
def aZ.l0 : Nat → List Int → List Int → List Int → Int → Option (List Int)
 | 0, _, _, _, _ => none
 | k + 1, x0, x1, x5, x21 => if x21 < 128 then ((bp.f k x21).bind fun t688 => ((bs.f k 17 (wrap64 ((wrap64 (2 * t688)) + 1))).bind fun t689 => (if 0 ≤ (wrap64 (2 * x21)) then (if (wrap64 (2 * x21)) < (x0.length : Int) then (if 0 ≤ (wrap64 ((wrap64 (2 * x21)) + 1)) then (if (wrap64 ((wrap64 (2 * x21)) + 1)) < (x0.length : Int) then (if (wrap64 (2 * x21)) < (x1.length : Int) then (if (wrap64 ((wrap64 (2 * x21)) + 1)) < (x1.length : Int) then ((bS.f (wrap64 ((wrap64 ((rd x0 (wrap64 (2 * x21))) * (rd x1 (wrap64 (2 * x21))))) + (wrap64 ((Int.tmod (wrap64 ((rd x0 (wrap64 ((wrap64 (2 * x21)) + 1))) * (rd x1 (wrap64 ((wrap64 (2 * x21)) + 1))))) 3329) * t689))))).bind fun t694 => (if (wrap64 (2 * x21)) < (x5.length : Int) then ((bS.f (wrap64 ((wrap64 ((rd x0 (wrap64 (2 * x21))) * (rd x1 (wrap64 ((wrap64 (2 * x21)) + 1))))) + (wrap64 ((rd x0 (wrap64 ((wrap64 (2 * x21)) + 1))) * (rd x1 (wrap64 (2 * x21)))))))).bind fun t696 => (if (wrap64 ((wrap64 (2 * x21)) + 1)) < (x5.length : Int) then (aZ.l0 k x0 x1 ((x5.set ((wrap64 (2 * x21)) : Int).toNat t694).set ((wrap64 ((wrap64 (2 * x21)) + 1)) : Int).toNat t696) (wrap64 (x21 + 1))) else (none))) else (none))) else (none)) else (none)) else (none)) else (none)) else (none)) else (none)))) else (some x5)
end
def aZ.f (k : Nat) (l0 : List Int) (l1 : List Int) : Option (List Int) := (aG.f k l0).bind fun t683 => (if t683 = true then ((aG.f k l1).bind fun t684 => (aZ.j0 k l0 l1 (!t684))) else (aZ.j0 k l0 l1 true))
theorem aZ.mono_l : ∀ k, (∀ y0 y1 y2, LeO (aZ.j0 k y0 y1 y2) (aZ.j0 (k + 1) y0 y1 y2)) ∧ (∀ y0 y1 y2 y3, LeO (aZ.l0 k y0 y1 y2 y3) (aZ.l0 (k + 1) y0 y1 y2 y3))
 | 0 => ⟨fun _ _ _ r h => by simp [aZ.j0] at h, fun _ _ _ _ r h => by simp [aZ.l0] at h⟩
 | k + 1 => by
  obtain ⟨ih0, ih1⟩ := aZ.mono_l k
  refine ⟨?_, ?_⟩ <;> (intros; (first | unfold aZ.j0 | unfold aZ.l0); exact o5_ ih0 ih1 aG.mono bs.mono bp.mono)
theorem aZ.mono : ∀ a0 a1 k, LeO (aZ.f k a0 a1) (aZ.f (k + 1) a0 a1) := by
 intro a0 a1 k
 obtain ⟨ih0, ih1⟩ := aZ.mono_l k
 unfold aZ.f
 exact o5_ ih0 ih1 aG.mono bs.mono bp.mono
theorem aZ.calls (k : Nat) (A0 : Option Addr) (c0 : Nat) (l0 : List Int) (A1 : Option Addr) (c1 : Nat) (l1 : List Int) (r : List Int) (w : World) (hr0 : Kd.C (Kd.int .i64) w A0 l0.length l0) (hc0 : l0.length ≤ c0) (hr1 : Kd.C (Kd.int .i64) w A1 l1.length l1) (hc1 : l1.length ≤ c1) (h : aZ.f k l0 l1 = some r) :
  Calls Tryz.prog 69 #[.slice A0 l0.length c0, .slice A1 l1.length c1] w fun e w' => ∃ U1 : Value, e = .returned (U1) ∧ Kd.R (Kd.int .i64) 3 w' w.heap.size (fun _ => True) U1 r ∧ Below w.heap.size w w' := by
 have d1 := aa.mk hr0
 have H1 := aa.mk hc0
 clear hr0 hc0
 have C1 := aa.mk hr1
 have M1 := aa.mk hc1
 clear hr1 hc1
 have HB := aa.mk (xa w.heap.size w)
 delta aZ.f at h
 have H := h
 clear h
 have N1 := aa.mk H
 clear H
 go_enter Tryz.func69, Tryz.ntmps69
 go_upto_region 1 with (fail)
 repeat (go_quiet (fail); go_upto_region 1 with (fail))
 go_cut [19] (fun l2 wc => ∃ (kq : Nat) (V0 : Bool), l2 = .bool V0 ∧ aa (aZ.j0 kq l0 l1 V0 = some r) ∧ aa (kq ≤ k) ∧ aa (Below w.heap.size w wc))
 case first =>
  have H := N1.out
  clear N1
  obtain ⟨O1, A4, H⟩ := bN_ H
  by_cases c5 : O1 = true
  ·subst c5
   replace H := iT_ H
   obtain ⟨D1, A6, H⟩ := bN_ H
   have H' := aa.mk H
   clear H
   go_wp2_with (first | (go_at_call 64; (with_reducible refine (aG.calls k _ _ l0 true _ ?side1 ?side2 A4.out).mono ?_); (case side1 => exact cR_ (Kd.C_below d1.out HB.out)); (case side2 => exact H1.out); rintro e w' ⟨rfl, ⟨nd, rfl⟩⟩; (try first | exact ⟨rfl, _, World.drewN_drewN _ _ _⟩ | exact ⟨rfl, _, Eq.trans (World.drewN_drewN _ _ _) (congrArg (World.drewN _) (Nat.add_assoc _ _ _))⟩)) | (go_at_call 64; (with_reducible refine (aG.calls k _ _ l1 D1 _ ?side1 ?side2 A6.out).mono ?_); (case side1 => exact cR_ (Kd.C_below C1.out (hB_))); (case side2 => exact M1.out); rintro e w' ⟨rfl, ⟨nd, rfl⟩⟩; (try first | exact ⟨rfl, _, World.drewN_drewN _ _ _⟩ | exact ⟨rfl, _, Eq.trans (World.drewN_drewN _ _ _) (congrArg (World.drewN _) (Nat.add_assoc _ _ _))⟩)))
   repeat (go_quiet (first | (go_at_call 64; (with_reducible refine (aG.calls k _ _ l0 true _ ?side1 ?side2 A4.out).mono ?_); (case side1 => exact cR_ (Kd.C_below d1.out HB.out)); (case side2 => exact H1.out); rintro e w' ⟨rfl, ⟨nd, rfl⟩⟩; (try first | exact ⟨rfl, _, World.drewN_drewN _ _ _⟩ | exact ⟨rfl, _, Eq.trans (World.drewN_drewN _ _ _) (congrArg (World.drewN _) (Nat.add_assoc _ _ _))⟩)) | (go_at_call 64; (with_reducible refine (aG.calls k _ _ l1 D1 _ ?side1 ?side2 A6.out).mono ?_); (case side1 => exact cR_ (Kd.C_below C1.out (hB_))); (case side2 => exact M1.out); rintro e w' ⟨rfl, ⟨nd, rfl⟩⟩; (try first | exact ⟨rfl, _, World.drewN_drewN _ _ _⟩ | exact ⟨rfl, _, Eq.trans (World.drewN_drewN _ _ _) (congrArg (World.drewN _) (Nat.add_assoc _ _ _))⟩))); try go_wp2_with (first | (go_at_call 64; (with_reducible refine (aG.calls k _ _ l0 true _ ?side1 ?side2 A4.out).mono ?_); (case side1 => exact cR_ (Kd.C_below d1.out HB.out)); (case side2 => exact H1.out); rintro e w' ⟨rfl, ⟨nd, rfl⟩⟩; (try first | exact ⟨rfl, _, World.drewN_drewN _ _ _⟩ | exact ⟨rfl, _, Eq.trans (World.drewN_drewN _ _ _) (congrArg (World.drewN _) (Nat.add_assoc _ _ _))⟩)) | (go_at_call 64; (with_reducible refine (aG.calls k _ _ l1 D1 _ ?side1 ?side2 A6.out).mono ?_); (case side1 => exact cR_ (Kd.C_below C1.out (hB_))); (case side2 => exact M1.out); rintro e w' ⟨rfl, ⟨nd, rfl⟩⟩; (try first | exact ⟨rfl, _, World.drewN_drewN _ _ _⟩ | exact ⟨rfl, _, Eq.trans (World.drewN_drewN _ _ _) (congrArg (World.drewN _) (Nat.add_assoc _ _ _))⟩))))
   go_meet
   case rel => exact ⟨_, (!D1), f0_, H', ⟨by first | omega | exact wa _⟩, ⟨hB_⟩⟩
  ·replace c5 := ya c5
   subst c5
   replace H := iF_ H
   have H' := aa.mk H
   clear H
   go_wp2_with (first | (go_at_call 64; (with_reducible refine (aG.calls k _ _ l0 false _ ?side1 ?side2 A4.out).mono ?_); (case side1 => exact cR_ (Kd.C_below d1.out HB.out)); (case side2 => exact H1.out); rintro e w' ⟨rfl, ⟨nd, rfl⟩⟩; (try first | exact ⟨rfl, _, World.drewN_drewN _ _ _⟩ | exact ⟨rfl, _, Eq.trans (World.drewN_drewN _ _ _) (congrArg (World.drewN _) (Nat.add_assoc _ _ _))⟩)))
   repeat (go_quiet (first | (go_at_call 64; (with_reducible refine (aG.calls k _ _ l0 false _ ?side1 ?side2 A4.out).mono ?_); (case side1 => exact cR_ (Kd.C_below d1.out HB.out)); (case side2 => exact H1.out); rintro e w' ⟨rfl, ⟨nd, rfl⟩⟩; (try first | exact ⟨rfl, _, World.drewN_drewN _ _ _⟩ | exact ⟨rfl, _, Eq.trans (World.drewN_drewN _ _ _) (congrArg (World.drewN _) (Nat.add_assoc _ _ _))⟩))); try go_wp2_with (first | (go_at_call 64; (with_reducible refine (aG.calls k _ _ l0 false _ ?side1 ?side2 A4.out).mono ?_); (case side1 => exact cR_ (Kd.C_below d1.out HB.out)); (case side2 => exact H1.out); rintro e w' ⟨rfl, ⟨nd, rfl⟩⟩; (try first | exact ⟨rfl, _, World.drewN_drewN _ _ _⟩ | exact ⟨rfl, _, Eq.trans (World.drewN_drewN _ _ _) (congrArg (World.drewN _) (Nat.add_assoc _ _ _))⟩))))
   go_meet
   case rel => exact ⟨_, (true), f0_, H', ⟨by first | omega | exact wa _⟩, ⟨hB_⟩⟩
 clear N1
 obtain ⟨kq, V0, rfl, HA, V1, HB⟩ := hcut
 rcases kq with _ | X1
 ·exact absurd HA.out (by simp [aZ.j0])
 have H := HA.out
 clear HA
 simp only [aZ.j0] at H
 by_cases c7 : V0 = true
 ·subst c7
  replace H := iT_ H
  obtain rfl := sI H
  go_wp2
  repeat (go_quiet (fail); try go_wp2)
  go_ret
  exact ⟨_, f1_, by first | exact Kd.R_nil _ _ _ _ _ | exact Kd.N_nil _ _ _ _ _ | exact Kd.V_nil _ _ _ _ _ | exact Kd.Q_nil _ _ _ _ _ | exact Kd.S_nil _ _ _ _ _, hB_⟩
 ·replace c7 := ya c7
  subst c7
  replace H := iF_ H
  obtain ⟨c8, H⟩ := iN_ H
  have m2 := va c8
  have n2 := ta c8
  clear c8
  obtain ⟨P1, W0⟩ : ∃ y_ : List Int, y_ = (List.replicate 256 0) := ⟨_, rfl⟩
  first | replace H := yb_ W0 H | rw [← W0] at H
  have I0 := aa.mk W0
  clear W0
  have H' := aa.mk H
  clear H
  go_wp2_with (first | ((with_reducible refine aI (N := 20) rfl ?_); refine Kd.R_make (Kd.int .i64) _ 3 rfl (N := 20) rfl 38 _ _ rfl 256 rfl rfl Tryz.underlying38 (.int .i64 0) 8 cS rfl (by decide) (by omega) 0 (ok := fun _ => True) (okp := fun _ => True) rfl (fun _ hk => hk) trivial (by omega) (by omega) (xa _ _) (wa _) ?_; intro G1 w9 q0 hb hg_ hnew_; clear hg_ hnew_; (first | rw [← I0.out] at q0 | (simp only [Int.reduceToNat] at q0; rw [← I0.out] at q0)); have n_ := b_ (Kd.R_lower q0 (ab (hB_))) <| c_ (ac (hB_) hb); clear HB; obtain ⟨e1, HB⟩ := n_; clear hb q0))
  repeat (go_quiet (first | ((with_reducible refine aI (N := 20) rfl ?_); refine Kd.R_make (Kd.int .i64) _ 3 rfl (N := 20) rfl 38 _ _ rfl 256 rfl rfl Tryz.underlying38 (.int .i64 0) 8 cS rfl (by decide) (by omega) 0 (ok := fun _ => True) (okp := fun _ => True) rfl (fun _ hk => hk) trivial (by omega) (by omega) (xa _ _) (wa _) ?_; intro G1 w9 q0 hb hg_ hnew_; clear hg_ hnew_; (first | rw [← I0.out] at q0 | (simp only [Int.reduceToNat] at q0; rw [← I0.out] at q0)); have n_ := b_ (Kd.R_lower q0 (ab (hB_))) <| c_ (ac (hB_) hb); clear HB; obtain ⟨e1, HB⟩ := n_; clear hb q0)); try go_wp2_with (first | ((with_reducible refine aI (N := 20) rfl ?_); refine Kd.R_make (Kd.int .i64) _ 3 rfl (N := 20) rfl 38 _ _ rfl 256 rfl rfl Tryz.underlying38 (.int .i64 0) 8 cS rfl (by decide) (by omega) 0 (ok := fun _ => True) (okp := fun _ => True) rfl (fun _ hk => hk) trivial (by omega) (by omega) (xa _ _) (wa _) ?_; intro G1 w9 q0 hb hg_ hnew_; clear hg_ hnew_; (first | rw [← I0.out] at q0 | (simp only [Int.reduceToNat] at q0; rw [← I0.out] at q0)); have n_ := b_ (Kd.R_lower q0 (ab (hB_))) <| c_ (ac (hB_) hb); clear HB; obtain ⟨e1, HB⟩ := n_; clear hb q0)))
  go_loopg [21] X1 (fun kq p2 w' => ∃ (r0 : List Int) (t0 : Int), p2 = .int .i64 t0 ∧ aa (aZ.l0 kq l0 l1 r0 t0 = some r) ∧ aa (kq ≤ X1) ∧ aa (Kd.R (Kd.int .i64) 3 w' w.heap.size (fun _ => True) G1 r0) ∧ aa (Below w.heap.size w w'))
  case atStart => exact ⟨(P1), (0), f0_, H', ⟨wa _⟩, ⟨rR_ e1.out⟩, ⟨hB_⟩⟩
  clear H'
  obtain ⟨r0, t0, rfl, HA, Y1, a0, HB⟩ := hrel
  rcases gk with _ | k2
  ·exact absurd HA.out (by simp [aZ.l0])
  have H := HA.out
  clear HA
  simp only [aZ.l0] at H
  by_cases I1 : t0 < 128
  rotate_left
  ·rw [Aa I1] at H
   have J1 := ua I1
   clear I1
   obtain rfl := sI H
   go_wp2
   repeat (go_quiet (fail); try go_wp2)
   go_ret
   exact ⟨_, f1_, rR_ a0.out, hB_⟩
  rw [za I1] at H
  have J1 := ta I1
  clear I1
  obtain ⟨Z0, K1, H⟩ := bN_ H
  obtain ⟨b1, L1, H⟩ := bN_ H
  obtain ⟨b0, J0⟩ : ∃ j_ : Int, (wrap64 (2 * t0)) = j_ := ⟨_, rfl⟩
  first | rw [J0] at H | simp only [J0] at H
  (try rw [J0] at K1)
  (try rw [J0] at L1)
  have Q1 : (IntKind.i64.wrap (2 * t0)) = b0 := (bB _).trans J0
  obtain ⟨Z1, H⟩ := iD_ H
  obtain ⟨b2, H⟩ := iD_ H
  obtain ⟨d0, K0⟩ : ∃ j_ : Int, (wrap64 ((b0) + 1)) = j_ := ⟨_, rfl⟩
  first | rw [K0] at H | simp only [K0] at H
  (try rw [K0] at K1)
  (try rw [K0] at L1)
  have R1 : (IntKind.i64.wrap ((b0) + 1)) = d0 := (bB _).trans K0
  obtain ⟨c2, H⟩ := iD_ H
  obtain ⟨e2, H⟩ := iD_ H
  obtain ⟨f2, H⟩ := iD_ H
  obtain ⟨g2, H⟩ := iD_ H
  obtain ⟨u0, S1, H⟩ := bN_ H
  obtain ⟨i2, H⟩ := iD_ H
  obtain ⟨E1, X0⟩ : ∃ y_ : List Int, y_ = (r0.set ((b0) : Int).toNat u0) := ⟨_, rfl⟩
  first | replace H := yb_ X0 H | rw [← X0] at H
  have f1 := aa.mk X0
  clear X0
  obtain ⟨v0, T1, H⟩ := bN_ H
  obtain ⟨j2, H⟩ := iD_ H
  obtain ⟨F1, Y0⟩ : ∃ y_ : List Int, y_ = (E1.set ((d0) : Int).toNat v0) := ⟨_, rfl⟩
  first | replace H := yb_ Y0 H | rw [← Y0] at H
  have g1 := aa.mk Y0
  clear Y0
  have H' := aa.mk H
  clear H
  go_wp2_with (first | (go_at_call 67; (with_reducible refine (bp.calls k2 t0 Z0 _ K1.out).mono ?_); rintro e w' ⟨rfl, ⟨nd, rfl⟩⟩; (try first | exact ⟨rfl, _, World.drewN_drewN _ _ _⟩ | exact ⟨rfl, _, Eq.trans (World.drewN_drewN _ _ _) (congrArg (World.drewN _) (Nat.add_assoc _ _ _))⟩)) | (go_at_call 66; (with_reducible refine (bs.calls k2 17 (wrap64 ((wrap64 (2 * Z0)) + 1)) b1 _ L1.out).mono ?_); rintro e w' ⟨rfl, ⟨nd, rfl⟩⟩; (try first | exact ⟨rfl, _, World.drewN_drewN _ _ _⟩ | exact ⟨rfl, _, Eq.trans (World.drewN_drewN _ _ _) (congrArg (World.drewN _) (Nat.add_assoc _ _ _))⟩); have y0 : 0 ≤ ((b0) : Int) := oD_; have B0 : (b0) < (l0.length : Int) := oD_; obtain ⟨L0, i1, e0⟩ := Kd.at_int d1.out (b0) y0 B0; cases i1; replace e0 := (HB.out.cell (World.block_lt_of_cell? w _ e0)).trans e0; replace y0 := va y0; replace B0 := va B0; have C0 : 0 ≤ ((d0) : Int) := oD_; have D0 : (d0) < (l0.length : Int) := oD_; obtain ⟨M0, j1, f0⟩ := Kd.at_int d1.out (d0) C0 D0; obtain rfl : L0 = M0 := (by injection j1); replace f0 := (HB.out.cell (World.block_lt_of_cell? w _ f0)).trans f0; replace C0 := va C0; replace D0 := va D0; have E0 : 0 ≤ ((b0) : Int) := oD_; have F0 : (b0) < (l1.length : Int) := oD_; obtain ⟨N0, m1, k0⟩ := Kd.at_int C1.out (b0) E0 F0; cases m1; replace k0 := (HB.out.cell (World.block_lt_of_cell? w _ k0)).trans k0; replace E0 := va E0; replace F0 := va F0; have G0 : 0 ≤ ((d0) : Int) := oD_; have H0 : (d0) < (l1.length : Int) := oD_; obtain ⟨O0, n1, p0⟩ := Kd.at_int C1.out (d0) G0 H0; obtain rfl : N0 = O0 := (by injection n1); replace p0 := (HB.out.cell (World.block_lt_of_cell? w _ p0)).trans p0; replace G0 := va G0; replace H0 := va H0) | (go_at_call 68; (with_reducible refine (bS.calls (wrap64 ((wrap64 ((rd l0 (b0)) * (rd l1 (b0)))) + (wrap64 ((Int.tmod (wrap64 ((rd l0 (d0)) * (rd l1 (d0)))) 3329) * b1)))) u0 _ S1.out).mono ?_); rintro e w' ⟨rfl, ⟨nd, rfl⟩⟩; (try first | exact ⟨rfl, _, World.drewN_drewN _ _ _⟩ | exact ⟨rfl, _, Eq.trans (World.drewN_drewN _ _ _) (congrArg (World.drewN _) (Nat.add_assoc _ _ _))⟩); have p1 : 0 ≤ ((b0) : Int) := oD_; have q1 : ((b0) : Int) < ((r0.length : Int) : Int) := oD_; obtain ⟨go24, P0, Q0, R0, gl24, cl24, HG24⟩ := Kd.R_form a0.out (by omega); (first | cases Q0 | (injection Q0 with ea_ en_ ec_; (first | subst ea_ | (injection ea_ with ea_; subst ea_)); subst ec_; clear en_)); have S0 := aa.mk R0; have GG24 := aa.mk HG24; clear R0 gl24 HG24; obtain ⟨r1, hf24_0⟩ := Kd.R_celln 0 a0.out ((b0) : Int) p1 q1; replace p1 := va p1; replace q1 := va q1; obtain ⟨T0, hz28_⟩ := Kd.R_celln 0 a0.out ((b0) : Int) oD_ oD_; have HP28 := Kd.R_putg a0.out ((b0) : Int) u0) | ((with_reducible refine cm (t := 3) (p := 65) rfl ?_); (try (rw [cU wr]; generalize hq_ : World.drewN wr _ = wr; have n_ := b_ (Kd.R_at hq_ a0.out) <| c_ (fe hq_ HB.out); clear hq_ a0 HB; obtain ⟨a0, HB⟩ := n_; (try (obtain ⟨T0, hz28_⟩ := Kd.R_celln 0 a0.out ((b0) : Int) oD_ oD_)); (try (have HP28 := Kd.R_putg a0.out ((b0) : Int) u0)))); refine b9 (t := 3) (p := 65) (v := ?vo_w29) (w1 := (wr.setCell ⟨go24, ((b0) : Int).toNat, none⟩ (.int .i64 u0))) ?hg ?ho ?hn ?hr ?_; (case ho => rfl); (case hg => rfl); (case hn => rfl); (case hr => first | (go_simp; done) | (go_simp; rfl)); intro x0 hw; have hg : wr.grownBy x0 (some go24) := (by rw [hw]; exact HP28.2); have hp_ : Kd.R (Kd.int .i64) 3 x0 w.heap.size (fun _ => True) (.slice (some ⟨go24, 0, none⟩) r0.length P0) E1 := (by rw [hw, f1.out]; exact HP28.1); clear HP28; have n0_ := aa.mk (hp_); have n1_ := aa.mk ((by rw [hw]; exact co (HB.out) S0.out : Below w.heap.size w x0)); replace a0 := n0_; replace HB := n1_; clear n0_ n1_; clear hg hw hp_) | (go_at_call 68; (with_reducible refine (bS.calls (wrap64 ((wrap64 ((rd l0 (b0)) * (rd l1 (d0)))) + (wrap64 ((rd l0 (d0)) * (rd l1 (b0)))))) v0 _ T1.out).mono ?_); rintro e w' ⟨rfl, ⟨nd, rfl⟩⟩; (try first | exact ⟨rfl, _, World.drewN_drewN _ _ _⟩ | exact ⟨rfl, _, Eq.trans (World.drewN_drewN _ _ _) (congrArg (World.drewN _) (Nat.add_assoc _ _ _))⟩); have t1 : 0 ≤ ((d0) : Int) := oD_; have y1 : ((d0) : Int) < ((r0.length : Int) : Int) := oD_; obtain ⟨z1, hf27_0⟩ := Kd.R_celln 0 a0.out ((d0) : Int) t1 y1; replace t1 := va t1; replace y1 := va y1; obtain ⟨U0, hz30_⟩ := Kd.R_celln 0 a0.out ((d0) : Int) oD_ oD_; have HP30 := Kd.R_putg a0.out ((d0) : Int) v0) | ((with_reducible refine cm (t := 3) (p := 78) rfl ?_); (try (rw [cU x0]; generalize hq_ : World.drewN x0 _ = x0; have n_ := b_ (Kd.R_at hq_ a0.out) <| c_ (fe hq_ HB.out); clear hq_ a0 HB; obtain ⟨a0, HB⟩ := n_; (try (obtain ⟨U0, hz30_⟩ := Kd.R_celln 0 a0.out ((d0) : Int) oD_ oD_)); (try (have HP30 := Kd.R_putg a0.out ((d0) : Int) v0)))); refine b9 (t := 3) (p := 78) (v := ?vo_w31) (w1 := (x0.setCell ⟨go24, ((d0) : Int).toNat, none⟩ (.int .i64 v0))) ?hg ?ho ?hn ?hr ?_; (case ho => rfl); (case hg => rfl); (case hn => rfl); (case hr => first | (go_simp; done) | (go_simp; rfl)); intro B1 hw; have hg : x0.grownBy B1 (some go24) := (by rw [hw]; exact HP30.2); have hp_ : Kd.R (Kd.int .i64) 3 B1 w.heap.size (fun _ => True) (.slice (some ⟨go24, 0, none⟩) r0.length P0) F1 := (by rw [hw, g1.out]; exact HP30.1); clear HP30; have n0_ := aa.mk (hp_); have n1_ := aa.mk ((by rw [hw]; exact co (HB.out) S0.out : Below w.heap.size w B1)); replace a0 := n0_; replace HB := n1_; clear n0_ n1_; clear hg hw hp_))
  repeat (go_quiet (first | (go_at_call 67; (with_reducible refine (bp.calls k2 t0 Z0 _ K1.out).mono ?_); rintro e w' ⟨rfl, ⟨nd, rfl⟩⟩; (try first | exact ⟨rfl, _, World.drewN_drewN _ _ _⟩ | exact ⟨rfl, _, Eq.trans (World.drewN_drewN _ _ _) (congrArg (World.drewN _) (Nat.add_assoc _ _ _))⟩)) | (go_at_call 66; (with_reducible refine (bs.calls k2 17 (wrap64 ((wrap64 (2 * Z0)) + 1)) b1 _ L1.out).mono ?_); rintro e w' ⟨rfl, ⟨nd, rfl⟩⟩; (try first | exact ⟨rfl, _, World.drewN_drewN _ _ _⟩ | exact ⟨rfl, _, Eq.trans (World.drewN_drewN _ _ _) (congrArg (World.drewN _) (Nat.add_assoc _ _ _))⟩); have y0 : 0 ≤ ((b0) : Int) := oD_; have B0 : (b0) < (l0.length : Int) := oD_; obtain ⟨L0, i1, e0⟩ := Kd.at_int d1.out (b0) y0 B0; cases i1; replace e0 := (HB.out.cell (World.block_lt_of_cell? w _ e0)).trans e0; replace y0 := va y0; replace B0 := va B0; have C0 : 0 ≤ ((d0) : Int) := oD_; have D0 : (d0) < (l0.length : Int) := oD_; obtain ⟨M0, j1, f0⟩ := Kd.at_int d1.out (d0) C0 D0; obtain rfl : L0 = M0 := (by injection j1); replace f0 := (HB.out.cell (World.block_lt_of_cell? w _ f0)).trans f0; replace C0 := va C0; replace D0 := va D0; have E0 : 0 ≤ ((b0) : Int) := oD_; have F0 : (b0) < (l1.length : Int) := oD_; obtain ⟨N0, m1, k0⟩ := Kd.at_int C1.out (b0) E0 F0; cases m1; replace k0 := (HB.out.cell (World.block_lt_of_cell? w _ k0)).trans k0; replace E0 := va E0; replace F0 := va F0; have G0 : 0 ≤ ((d0) : Int) := oD_; have H0 : (d0) < (l1.length : Int) := oD_; obtain ⟨O0, n1, p0⟩ := Kd.at_int C1.out (d0) G0 H0; obtain rfl : N0 = O0 := (by injection n1); replace p0 := (HB.out.cell (World.block_lt_of_cell? w _ p0)).trans p0; replace G0 := va G0; replace H0 := va H0) | (go_at_call 68; (with_reducible refine (bS.calls (wrap64 ((wrap64 ((rd l0 (b0)) * (rd l1 (b0)))) + (wrap64 ((Int.tmod (wrap64 ((rd l0 (d0)) * (rd l1 (d0)))) 3329) * b1)))) u0 _ S1.out).mono ?_); rintro e w' ⟨rfl, ⟨nd, rfl⟩⟩; (try first | exact ⟨rfl, _, World.drewN_drewN _ _ _⟩ | exact ⟨rfl, _, Eq.trans (World.drewN_drewN _ _ _) (congrArg (World.drewN _) (Nat.add_assoc _ _ _))⟩); have p1 : 0 ≤ ((b0) : Int) := oD_; have q1 : ((b0) : Int) < ((r0.length : Int) : Int) := oD_; obtain ⟨go24, P0, Q0, R0, gl24, cl24, HG24⟩ := Kd.R_form a0.out (by omega); (first | cases Q0 | (injection Q0 with ea_ en_ ec_; (first | subst ea_ | (injection ea_ with ea_; subst ea_)); subst ec_; clear en_)); have S0 := aa.mk R0; have GG24 := aa.mk HG24; clear R0 gl24 HG24; obtain ⟨r1, hf24_0⟩ := Kd.R_celln 0 a0.out ((b0) : Int) p1 q1; replace p1 := va p1; replace q1 := va q1; obtain ⟨T0, hz28_⟩ := Kd.R_celln 0 a0.out ((b0) : Int) oD_ oD_; have HP28 := Kd.R_putg a0.out ((b0) : Int) u0) | ((with_reducible refine cm (t := 3) (p := 65) rfl ?_); (try (rw [cU wr]; generalize hq_ : World.drewN wr _ = wr; have n_ := b_ (Kd.R_at hq_ a0.out) <| c_ (fe hq_ HB.out); clear hq_ a0 HB; obtain ⟨a0, HB⟩ := n_; (try (obtain ⟨T0, hz28_⟩ := Kd.R_celln 0 a0.out ((b0) : Int) oD_ oD_)); (try (have HP28 := Kd.R_putg a0.out ((b0) : Int) u0)))); refine b9 (t := 3) (p := 65) (v := ?vo_w29) (w1 := (wr.setCell ⟨go24, ((b0) : Int).toNat, none⟩ (.int .i64 u0))) ?hg ?ho ?hn ?hr ?_; (case ho => rfl); (case hg => rfl); (case hn => rfl); (case hr => first | (go_simp; done) | (go_simp; rfl)); intro x0 hw; have hg : wr.grownBy x0 (some go24) := (by rw [hw]; exact HP28.2); have hp_ : Kd.R (Kd.int .i64) 3 x0 w.heap.size (fun _ => True) (.slice (some ⟨go24, 0, none⟩) r0.length P0) E1 := (by rw [hw, f1.out]; exact HP28.1); clear HP28; have n0_ := aa.mk (hp_); have n1_ := aa.mk ((by rw [hw]; exact co (HB.out) S0.out : Below w.heap.size w x0)); replace a0 := n0_; replace HB := n1_; clear n0_ n1_; clear hg hw hp_) | (go_at_call 68; (with_reducible refine (bS.calls (wrap64 ((wrap64 ((rd l0 (b0)) * (rd l1 (d0)))) + (wrap64 ((rd l0 (d0)) * (rd l1 (b0)))))) v0 _ T1.out).mono ?_); rintro e w' ⟨rfl, ⟨nd, rfl⟩⟩; (try first | exact ⟨rfl, _, World.drewN_drewN _ _ _⟩ | exact ⟨rfl, _, Eq.trans (World.drewN_drewN _ _ _) (congrArg (World.drewN _) (Nat.add_assoc _ _ _))⟩); have t1 : 0 ≤ ((d0) : Int) := oD_; have y1 : ((d0) : Int) < ((r0.length : Int) : Int) := oD_; obtain ⟨z1, hf27_0⟩ := Kd.R_celln 0 a0.out ((d0) : Int) t1 y1; replace t1 := va t1; replace y1 := va y1; obtain ⟨U0, hz30_⟩ := Kd.R_celln 0 a0.out ((d0) : Int) oD_ oD_; have HP30 := Kd.R_putg a0.out ((d0) : Int) v0) | ((with_reducible refine cm (t := 3) (p := 78) rfl ?_); (try (rw [cU x0]; generalize hq_ : World.drewN x0 _ = x0; have n_ := b_ (Kd.R_at hq_ a0.out) <| c_ (fe hq_ HB.out); clear hq_ a0 HB; obtain ⟨a0, HB⟩ := n_; (try (obtain ⟨U0, hz30_⟩ := Kd.R_celln 0 a0.out ((d0) : Int) oD_ oD_)); (try (have HP30 := Kd.R_putg a0.out ((d0) : Int) v0)))); refine b9 (t := 3) (p := 78) (v := ?vo_w31) (w1 := (x0.setCell ⟨go24, ((d0) : Int).toNat, none⟩ (.int .i64 v0))) ?hg ?ho ?hn ?hr ?_; (case ho => rfl); (case hg => rfl); (case hn => rfl); (case hr => first | (go_simp; done) | (go_simp; rfl)); intro B1 hw; have hg : x0.grownBy B1 (some go24) := (by rw [hw]; exact HP30.2); have hp_ : Kd.R (Kd.int .i64) 3 B1 w.heap.size (fun _ => True) (.slice (some ⟨go24, 0, none⟩) r0.length P0) F1 := (by rw [hw, g1.out]; exact HP30.1); clear HP30; have n0_ := aa.mk (hp_); have n1_ := aa.mk ((by rw [hw]; exact co (HB.out) S0.out : Below w.heap.size w B1)); replace a0 := n0_; replace HB := n1_; clear n0_ n1_; clear hg hw hp_)); try go_wp2_with (first | (go_at_call 67; (with_reducible refine (bp.calls k2 t0 Z0 _ K1.out).mono ?_); rintro e w' ⟨rfl, ⟨nd, rfl⟩⟩; (try first | exact ⟨rfl, _, World.drewN_drewN _ _ _⟩ | exact ⟨rfl, _, Eq.trans (World.drewN_drewN _ _ _) (congrArg (World.drewN _) (Nat.add_assoc _ _ _))⟩)) | (go_at_call 66; (with_reducible refine (bs.calls k2 17 (wrap64 ((wrap64 (2 * Z0)) + 1)) b1 _ L1.out).mono ?_); rintro e w' ⟨rfl, ⟨nd, rfl⟩⟩; (try first | exact ⟨rfl, _, World.drewN_drewN _ _ _⟩ | exact ⟨rfl, _, Eq.trans (World.drewN_drewN _ _ _) (congrArg (World.drewN _) (Nat.add_assoc _ _ _))⟩); have y0 : 0 ≤ ((b0) : Int) := oD_; have B0 : (b0) < (l0.length : Int) := oD_; obtain ⟨L0, i1, e0⟩ := Kd.at_int d1.out (b0) y0 B0; cases i1; replace e0 := (HB.out.cell (World.block_lt_of_cell? w _ e0)).trans e0; replace y0 := va y0; replace B0 := va B0; have C0 : 0 ≤ ((d0) : Int) := oD_; have D0 : (d0) < (l0.length : Int) := oD_; obtain ⟨M0, j1, f0⟩ := Kd.at_int d1.out (d0) C0 D0; obtain rfl : L0 = M0 := (by injection j1); replace f0 := (HB.out.cell (World.block_lt_of_cell? w _ f0)).trans f0; replace C0 := va C0; replace D0 := va D0; have E0 : 0 ≤ ((b0) : Int) := oD_; have F0 : (b0) < (l1.length : Int) := oD_; obtain ⟨N0, m1, k0⟩ := Kd.at_int C1.out (b0) E0 F0; cases m1; replace k0 := (HB.out.cell (World.block_lt_of_cell? w _ k0)).trans k0; replace E0 := va E0; replace F0 := va F0; have G0 : 0 ≤ ((d0) : Int) := oD_; have H0 : (d0) < (l1.length : Int) := oD_; obtain ⟨O0, n1, p0⟩ := Kd.at_int C1.out (d0) G0 H0; obtain rfl : N0 = O0 := (by injection n1); replace p0 := (HB.out.cell (World.block_lt_of_cell? w _ p0)).trans p0; replace G0 := va G0; replace H0 := va H0) | (go_at_call 68; (with_reducible refine (bS.calls (wrap64 ((wrap64 ((rd l0 (b0)) * (rd l1 (b0)))) + (wrap64 ((Int.tmod (wrap64 ((rd l0 (d0)) * (rd l1 (d0)))) 3329) * b1)))) u0 _ S1.out).mono ?_); rintro e w' ⟨rfl, ⟨nd, rfl⟩⟩; (try first | exact ⟨rfl, _, World.drewN_drewN _ _ _⟩ | exact ⟨rfl, _, Eq.trans (World.drewN_drewN _ _ _) (congrArg (World.drewN _) (Nat.add_assoc _ _ _))⟩); have p1 : 0 ≤ ((b0) : Int) := oD_; have q1 : ((b0) : Int) < ((r0.length : Int) : Int) := oD_; obtain ⟨go24, P0, Q0, R0, gl24, cl24, HG24⟩ := Kd.R_form a0.out (by omega); (first | cases Q0 | (injection Q0 with ea_ en_ ec_; (first | subst ea_ | (injection ea_ with ea_; subst ea_)); subst ec_; clear en_)); have S0 := aa.mk R0; have GG24 := aa.mk HG24; clear R0 gl24 HG24; obtain ⟨r1, hf24_0⟩ := Kd.R_celln 0 a0.out ((b0) : Int) p1 q1; replace p1 := va p1; replace q1 := va q1; obtain ⟨T0, hz28_⟩ := Kd.R_celln 0 a0.out ((b0) : Int) oD_ oD_; have HP28 := Kd.R_putg a0.out ((b0) : Int) u0) | ((with_reducible refine cm (t := 3) (p := 65) rfl ?_); (try (rw [cU wr]; generalize hq_ : World.drewN wr _ = wr; have n_ := b_ (Kd.R_at hq_ a0.out) <| c_ (fe hq_ HB.out); clear hq_ a0 HB; obtain ⟨a0, HB⟩ := n_; (try (obtain ⟨T0, hz28_⟩ := Kd.R_celln 0 a0.out ((b0) : Int) oD_ oD_)); (try (have HP28 := Kd.R_putg a0.out ((b0) : Int) u0)))); refine b9 (t := 3) (p := 65) (v := ?vo_w29) (w1 := (wr.setCell ⟨go24, ((b0) : Int).toNat, none⟩ (.int .i64 u0))) ?hg ?ho ?hn ?hr ?_; (case ho => rfl); (case hg => rfl); (case hn => rfl); (case hr => first | (go_simp; done) | (go_simp; rfl)); intro x0 hw; have hg : wr.grownBy x0 (some go24) := (by rw [hw]; exact HP28.2); have hp_ : Kd.R (Kd.int .i64) 3 x0 w.heap.size (fun _ => True) (.slice (some ⟨go24, 0, none⟩) r0.length P0) E1 := (by rw [hw, f1.out]; exact HP28.1); clear HP28; have n0_ := aa.mk (hp_); have n1_ := aa.mk ((by rw [hw]; exact co (HB.out) S0.out : Below w.heap.size w x0)); replace a0 := n0_; replace HB := n1_; clear n0_ n1_; clear hg hw hp_) | (go_at_call 68; (with_reducible refine (bS.calls (wrap64 ((wrap64 ((rd l0 (b0)) * (rd l1 (d0)))) + (wrap64 ((rd l0 (d0)) * (rd l1 (b0)))))) v0 _ T1.out).mono ?_); rintro e w' ⟨rfl, ⟨nd, rfl⟩⟩; (try first | exact ⟨rfl, _, World.drewN_drewN _ _ _⟩ | exact ⟨rfl, _, Eq.trans (World.drewN_drewN _ _ _) (congrArg (World.drewN _) (Nat.add_assoc _ _ _))⟩); have t1 : 0 ≤ ((d0) : Int) := oD_; have y1 : ((d0) : Int) < ((r0.length : Int) : Int) := oD_; obtain ⟨z1, hf27_0⟩ := Kd.R_celln 0 a0.out ((d0) : Int) t1 y1; replace t1 := va t1; replace y1 := va y1; obtain ⟨U0, hz30_⟩ := Kd.R_celln 0 a0.out ((d0) : Int) oD_ oD_; have HP30 := Kd.R_putg a0.out ((d0) : Int) v0) | ((with_reducible refine cm (t := 3) (p := 78) rfl ?_); (try (rw [cU x0]; generalize hq_ : World.drewN x0 _ = x0; have n_ := b_ (Kd.R_at hq_ a0.out) <| c_ (fe hq_ HB.out); clear hq_ a0 HB; obtain ⟨a0, HB⟩ := n_; (try (obtain ⟨U0, hz30_⟩ := Kd.R_celln 0 a0.out ((d0) : Int) oD_ oD_)); (try (have HP30 := Kd.R_putg a0.out ((d0) : Int) v0)))); refine b9 (t := 3) (p := 78) (v := ?vo_w31) (w1 := (x0.setCell ⟨go24, ((d0) : Int).toNat, none⟩ (.int .i64 v0))) ?hg ?ho ?hn ?hr ?_; (case ho => rfl); (case hg => rfl); (case hn => rfl); (case hr => first | (go_simp; done) | (go_simp; rfl)); intro B1 hw; have hg : x0.grownBy B1 (some go24) := (by rw [hw]; exact HP30.2); have hp_ : Kd.R (Kd.int .i64) 3 B1 w.heap.size (fun _ => True) (.slice (some ⟨go24, 0, none⟩) r0.length P0) F1 := (by rw [hw, g1.out]; exact HP30.1); clear HP30; have n0_ := aa.mk (hp_); have n1_ := aa.mk ((by rw [hw]; exact co (HB.out) S0.out : Below w.heap.size w B1)); replace a0 := n0_; replace HB := n1_; clear n0_ n1_; clear hg hw hp_)))
  go_roundg k2
  case measure => have := V1.out; have := Y1.out; omega
  case rel => exact ⟨(F1), (wrap64 (t0 + 1)), f0_, H', ⟨by have := V1.out; have := Y1.out; omega⟩, ⟨rR_ a0.out⟩, ⟨hB_⟩⟩

/-! ### bK: function 33 -/
def bK.l0 : Nat → List (List Int) → List (List Int) → List Int → Int → Int → Option (List Int)
 | 0, _, _, _, _, _ => none
 | k + 1, x0, x1, x5, x9, x10 => if x10 < x9 then (if 0 ≤ x10 then (if x10 < (x0.length : Int) then (if x10 < (x1.length : Int) then ((aZ.f k (dg x0 x10) (dg x1 x10)).bind fun t703 => ((bF.f k x5 t703).bind fun t706 => (bK.l0 k x0 x1 t706 x9 (wrap64 (x10 + 1))))) else (none)) else (none)) else (none)) else (some x5)
def bK.f (k : Nat) (l0 : List (List Int)) (l1 : List (List Int)) : Option (List Int) := if 256 ≤ 35184372088832 then (bK.l0 k l0 l1 (List.replicate 256 0) (l0.length : Int) 0) else (none)
theorem bK.mono_l : ∀ k, (∀ y0 y1 y2 y3 y4, LeO (bK.l0 k y0 y1 y2 y3 y4) (bK.l0 (k + 1) y0 y1 y2 y3 y4))
 | 0 => fun _ _ _ _ _ r h => by simp [bK.l0] at h
 | k + 1 => by
  have ih0 := bK.mono_l k
  intros; unfold bK.l0; exact o3_ ih0 aZ.mono bF.mono
theorem bK.mono : ∀ a0 a1 k, LeO (bK.f k a0 a1) (bK.f (k + 1) a0 a1) := by
 intro a0 a1 k
 have ih0 := bK.mono_l k
 unfold bK.f
 exact o3_ ih0 aZ.mono bF.mono
def bK.T5 : Bool × List (List Nat × List Nat) := (true, [([], []), ([], []), ([], []), ([1, 2], [1, 2]), ([3], [3]), ([], []), ([], []), ([5, 6], [5, 6]), ([7], [7]), ([4, 8], [4, 8]), ([0, 9, 9], [0, 9]), ([10, 10, 0, 1, 2, 3, 4, 5, 6, 7, 8, 9, 10], [0, 10])])
def bK.B5 : List Nat := [0, 0, 0, 6, 14, 0, 0, 96, 224, 510, 1023, 2047]
theorem bK.tab5 : dW .any (eW Tryz.f33 5) = bK.T5 := by kernel_rfl
theorem bK.bits5 : cZ bK.T5.2 bK.B5 = true := by kernel_rfl
theorem bK.calls (k : Nat) (A0 : Option Addr) (c0 : Nat) (l0 : List (List Int)) (A1 : Option Addr) (c1 : Nat) (l1 : List (List Int)) (r : List Int) (w : World) (hr0 : Kd.C (Kd.slice 3 (Kd.int .i64)) w A0 l0.length l0) (hc0 : l0.length ≤ c0) (hr1 : Kd.C (Kd.slice 3 (Kd.int .i64)) w A1 l1.length l1) (hc1 : l1.length ≤ c1) (h : bK.f k l0 l1 = some r) :
  Calls Tryz.prog 33 #[.slice A0 l0.length c0, .slice A1 l1.length c1] w fun e w' => ∃ g1 : Value, e = .returned (g1) ∧ Kd.R (Kd.int .i64) 3 w' w.heap.size (fun _ => True) g1 r ∧ Below w.heap.size w w' := by
 have j1 := aa.mk hr0
 have F1 := aa.mk hc0
 clear hr0 hc0
 have m1 := aa.mk hr1
 have G1 := aa.mk hc1
 clear hr1 hc1
 have HB := aa.mk (xa w.heap.size w)
 delta bK.f at h
 have H := h
 clear h
 obtain ⟨c3, H⟩ := iN_ H
 have n1 := va c3
 have p1 := ta c3
 clear c3
 obtain ⟨W0, p0⟩ : ∃ y_ : List Int, y_ = (List.replicate 256 0) := ⟨_, rfl⟩
 first | replace H := yb_ p0 H | rw [← p0] at H
 have H0 := aa.mk p0
 clear p0
 have H' := aa.mk H
 clear H
 go_enter Tryz.func33, Tryz.ntmps33
 go_wp2_with (first | ((with_reducible refine aI (N := 7) rfl ?_); refine Kd.R_make (Kd.int .i64) _ 3 rfl (N := 7) rfl 38 _ _ rfl 256 rfl rfl Tryz.underlying38 (.int .i64 0) 8 cS rfl (by decide) (by omega) 0 (ok := fun _ => True) (okp := fun _ => True) rfl (fun _ hk => hk) trivial (by omega) (by omega) (xa _ _) (wa _) ?_; intro q1 w4 O0 hb hg_ hnew_; clear hg_ hnew_; (first | rw [← H0.out] at O0 | (simp only [Int.reduceToNat] at O0; rw [← H0.out] at O0)); have n_ := b_ (Kd.R_lower O0 (ab (hB_))) <| c_ (ac (hB_) hb); clear HB; obtain ⟨P0, HB⟩ := n_; clear hb O0))
 go_loopg [5, 10] k (fun kq v5 r1 w' => ∃ (y0 : List Int) (a0 : Int), r1 = .int .i64 a0 ∧ aa (bK.l0 kq l0 l1 y0 (l0.length : Int) a0 = some r) ∧ aa (kq ≤ k) ∧ aa (Kd.R (Kd.int .i64) 3 w' w.heap.size (fun _ => True) v5 y0) ∧ aa (Below w.heap.size w w'))
 case atStart => exact ⟨(W0), (0), f0_, H', ⟨wa _⟩, ⟨rR_ P0.out⟩, ⟨hB_⟩⟩
 clear H'
 obtain ⟨y0, a0, rfl, HA, i1, e0, HB⟩ := hrel
 rcases gk with _ | k1
 ·exact absurd HA.out (by simp [bK.l0])
 have H := HA.out
 clear HA
 simp only [bK.l0] at H
 by_cases c6 : a0 < (l0.length : Int)
 rotate_left
 ·rw [Aa c6] at H
  have X0 := ua c6
  clear c6
  obtain rfl := sI H
  go_wp2
  go_ret
  exact ⟨_, f1_, rR_ e0.out, hB_⟩
 rw [za c6] at H
 have X0 := ta c6
 clear c6
 obtain ⟨t1, H⟩ := iD_ H
 obtain ⟨y1, H⟩ := iD_ H
 obtain ⟨z1, H⟩ := iD_ H
 obtain ⟨I0, B1, H⟩ := bN_ H
 obtain ⟨Q0, C1, H⟩ := bN_ H
 have H' := aa.mk H
 clear H
 try go_wp2
 have n_ := b_ (Kd.R_drew e0.out) <| c_ (bX HB.out)
 clear e0 HB
 obtain ⟨e0, HB⟩ := n_
 have J0 : 0 ≤ (a0 : Int) := oD_
 have K0 : a0 < (l0.length : Int) := oD_
 obtain ⟨R0, B0, C0, Y0, f0, q0, r0⟩ := k9 j1.out a0 J0 K0
 have b0 := f0
 cases Y0
 replace f0 := (HB.out.cell (World.block_lt_of_cell? w _ f0)).trans f0
 have t0 := aa.mk r0
 have F0 := aa.mk q0
 clear r0 q0
 replace J0 := va J0
 replace K0 := va K0
 have L0 : 0 ≤ (a0 : Int) := oD_
 have M0 : a0 < (l1.length : Int) := oD_
 obtain ⟨S0, D0, E0, Z0, j0, u0, v0⟩ := k9 m1.out a0 L0 M0
 have d0 := j0
 cases Z0
 replace j0 := (HB.out.cell (World.block_lt_of_cell? w _ j0)).trans j0
 have x0 := aa.mk v0
 have G0 := aa.mk u0
 clear v0 u0
 replace L0 := va L0
 replace M0 := va M0
 refine dY (n := 12) (S := fun w' => w'.cell? (R0.add (a0).toNat) = some (.slice B0 (dg l0 a0).length C0) ∧ w'.cell? (S0.add (a0).toNat) = some (.slice D0 (dg l1 a0).length E0)) (ds := []) (bb_ 12 0) (by kernel_rfl) rfl rfl ⟨((HB.out.cell (World.block_lt_of_cell? w _ b0)).trans b0), ((HB.out.cell (World.block_lt_of_cell? w _ d0)).trans d0)⟩ (fun hHeld => ?_); refine cM bK.tab5 bK.bits5 (fun HT_ HW_ => ?_)
 generalize wr.drew = H1 at e0 HB t0 x0 f0 j0 hHeld ⊢
 refine pS_ 0 13 (bb_ 12 1) HT_.out ?_
 refine pS_ 1 14 (bb_ 12 3) HT_.out ?_
 refine pS_ 2 15 (bb_ 12 7) HT_.out ?_
 refine pS_ 3 16 (bb_ 12 15) HT_.out ?_
 refine pS_ 5 18 (bb_ 12 47) HT_.out ?_
 refine pS_ 6 19 (bb_ 12 111) HT_.out ?_
 refine pS_ 7 20 (bb_ 12 239) HT_.out ?_
 refine tS_ 4 17 (bb_ 12 255) (bA HT_.out HW_.out (by kernel_rfl)) hHeld ?_
 refine tS_ 8 21 (bb_ 12 511) (bA HT_.out HW_.out (by kernel_rfl)) hHeld ?_
 refine fC (i := 9) (N := some 22) (bb_ 12 1023) rfl rfl (cC HT_.out (by kernel_rfl)) (by decide) (fun K hK => ?_)
 refine fj Tryz.func69 (by kernel_rfl) rfl #[.slice B0 (dg l0 a0).length C0, .slice D0 (dg l1 a0).length E0] (by rfl) rfl rfl aM_ ?_
 with_reducible refine (aZ.calls k1 _ _ (dg l0 a0) _ _ (dg l1 a0) I0 _ ?side1 ?side2 ?side3 ?side4 B1.out).mono ?_
 (case side1 => exact cR_ (Kd.C_below t0.out HB.out))
 (case side2 => exact F0.out)
 (case side3 => exact cR_ (Kd.C_below x0.out HB.out))
 (case side4 => exact G0.out)
 rintro e I1 ⟨D1, rfl, N0, hb⟩
 refine ⟨_, rfl, ?_⟩
 have n_ := b_ (Kd.R_elder' (rR_ e0.out) (Kd.R_base N0) hb) <| b_ (Kd.R_lower (Kd.R_new' N0 (Kd.R_lt (rR_ e0.out))) (ab (hB_))) <| c_ (ac (hB_) hb)
 clear e0 HB
 obtain ⟨e0, k0, HB⟩ := n_
 obtain ⟨b1, d1, T0⟩ := Kd.R_slice e0.out
 (first | subst T0 | (injection T0 with f1_ f2_ f3_; have f4_ := f1_.symm; have f5_ := f3_.symm; clear f1_ f2_ f3_; subst f4_; subst f5_))
 obtain ⟨e1, f1, U0⟩ := Kd.R_slice k0.out
 (first | subst U0 | (injection U0 with f1_ f2_ f3_; have f4_ := f1_.symm; have f5_ := f3_.symm; clear f1_ f2_ f3_; subst f4_; subst f5_))
 refine hK.out _ _ ⟨((HB.out.cell (World.block_lt_of_cell? w _ b0)).trans b0), ((HB.out.cell (World.block_lt_of_cell? w _ d0)).trans d0)⟩ (fun hHeld => ?_)
 clear hK K
 refine dV (a' := ?_) ?_ ?_
 rotate_left
 ·show Act.put _ (some 22) _ = _
  simp only [Act.put, List.setIfInBounds_toArray, List.set_cons_zero, List.set_cons_succ, bB, cJ]
  rfl
 refine fC (i := 10) (N := some 23) (bb_ 12 2047) rfl rfl (cC HT_.out (by kernel_rfl)) (by decide) (fun K hK => ?_)
 refine fj Tryz.func31 (by kernel_rfl) rfl #[.slice b1 y0.length d1, .slice e1 I0.length f1] (by rfl) rfl rfl aM_ ?_
 with_reducible refine (bF.calls k1 _ _ y0 _ _ I0 Q0 _ ?side1 ?side2 ?side3 ?side4 C1.out).mono ?_
 (case side1 => exact cR_ (Kd.R_reads' e0.out).2.2)
 (case side2 => exact (Kd.R_reads' e0.out).2.1)
 (case side3 => exact cR_ (Kd.R_reads' k0.out).2.2)
 (case side4 => exact (Kd.R_reads' k0.out).2.1)
 rintro e J1 ⟨E1, rfl, N0, hb⟩
 refine ⟨_, rfl, ?_⟩
 have n_ := b_ (Kd.R_elder' (rR_ e0.out) (Kd.R_base N0) hb) <| b_ (Kd.R_elder' (rR_ k0.out) (Kd.R_base N0) hb) <| b_ (Kd.R_lower (Kd.R_new' (Kd.R_new' N0 (Kd.R_lt (rR_ e0.out))) (Kd.R_lt (rR_ k0.out))) (ab (hB_))) <| c_ (ac (hB_) hb)
 clear e0 k0 HB
 obtain ⟨e0, k0, V0, HB⟩ := n_
 refine hK.out _ _ ⟨((HB.out.cell (World.block_lt_of_cell? w _ b0)).trans b0), ((HB.out.cell (World.block_lt_of_cell? w _ d0)).trans d0)⟩ (fun hHeld => ?_)
 clear hK K
 refine dV (a' := ?_) ?_ ?_
 rotate_left
 ·show Act.put _ (some 23) _ = _
  simp only [Act.put, List.setIfInBounds_toArray, List.set_cons_zero, List.set_cons_succ, bB, cJ]
  rfl
 refine pS_ 11 5 (bb_ 12 4095) HT_.out ?_
 refine eT (dn HT_.out (by kernel_rfl)) ?_
 try go_wp2
 go_roundg k1
 case measure => have := i1.out; omega
 case rel => exact ⟨(Q0), (wrap64 (a0 + 1)), f0_, H', ⟨by have := i1.out; omega⟩, ⟨by refine kR_ ?_; exact Kd.R_mono V0.out (fun _ hk => trivial)⟩, ⟨hB_⟩⟩

/-! ### dT: function 71 -/
def dT.f (a0 : Int) (a1 : Int) : Option (Int) := (bO.f a0 0 3328).bind fun t738 => (if t738 = true then ((bO.f a1 1 11).bind fun t739 => (if t739 = true then (if 0 ≤ a1 then (if (shl .i64 1 a1) = 0 then (none) else (some (Int.tmod (wrap64 (Int.tdiv (wrap64 ((shl .i64 a0 a1) + 1664)) 3329)) (shl .i64 1 a1)))) else (none)) else (some 0))) else (some 0))
theorem dT.calls (a0 : Int) (a1 : Int) (r : Int) (w : World) (h : dT.f a0 a1 = some r) :
  Calls Tryz.prog 71 #[.int .i64 a0, .int .i64 a1] w fun e w' => e = .returned (.int .i64 r) ∧ cp w w' := by
 delta dT.f at h
 have H := h
 clear h
 obtain ⟨t0, A3, H⟩ := bN_ H
 by_cases c4 : t0 = true
 ·subst c4
  replace H := iT_ H
  obtain ⟨u0, A5, H⟩ := bN_ H
  by_cases c6 : u0 = true
  ·subst c6
   replace H := iT_ H
   obtain ⟨c7, H⟩ := iN_ H
   have y0 := va c7
   have B0 := ta c7
   clear c7
   obtain ⟨q0, e0⟩ : ∃ j_ : Int, (shl .i64 a0 a1) = j_ := ⟨_, rfl⟩
   first | rw [e0] at H | simp only [e0] at H
   (try rw [e0] at A3)
   (try rw [e0] at A5)
   have k0 : (IntKind.i64.wrap (a0 * 2 ^ min a1.toNat 64)) = q0 := e0
   have p0 : a1 ≤ 64 → (IntKind.i64.wrap (a0 * 2 ^ a1.toNat)) = q0 := eE e0
   have hji8y : (wrap64 (a0 * 2 ^ min a1.toNat 64)) = q0 := (bB _).symm.trans k0
   have hji8x : a1 ≤ 64 → (wrap64 (a0 * 2 ^ a1.toNat)) = q0 := fun h_ => (bB _).symm.trans (p0 h_)
   have C0 := va (oD_ : 0 ≤ a1)
   obtain ⟨d0, b0⟩ : ∃ j_ : Int, (shl .i64 1 a1) = j_ := ⟨_, rfl⟩
   first | rw [b0] at H | simp only [b0] at H
   (try rw [b0] at A3)
   (try rw [b0] at A5)
   have f0 : (IntKind.i64.wrap (1 * 2 ^ min a1.toNat 64)) = d0 := b0
   have j0 : a1 ≤ 64 → (IntKind.i64.wrap (1 * 2 ^ a1.toNat)) = d0 := eE b0
   have hji10u : (IntKind.i64.wrap (2 ^ min a1.toNat 64)) = d0 := by have h_ := f0; rw [Int.one_mul] at h_; exact h_
   have hji10v : a1 ≤ 64 → (IntKind.i64.wrap (2 ^ a1.toNat)) = d0 := fun hle_ => by have h_ := j0 hle_; rw [Int.one_mul] at h_; exact h_
   have hji10y : (wrap64 (1 * 2 ^ min a1.toNat 64)) = d0 := (bB _).symm.trans f0
   have hji10x : a1 ≤ 64 → (wrap64 (1 * 2 ^ a1.toNat)) = d0 := fun h_ => (bB _).symm.trans (j0 h_)
   by_cases r0 : (d0) = 0
   ·rw [za r0] at H
    exact absurd H (by simp)
   rw [Aa r0] at H
   have v0 : ((d0) == 0) = false := beq_eq_false_iff_ne.mpr r0
   have x0 : ((d0) != 0) = true := bne_iff_ne.mpr r0
   obtain rfl := sI H
   go_enter Tryz.func71, Tryz.ntmps71
   go_wp2_with (first | (go_at_call 85; (with_reducible refine (bO.calls a0 0 3328 true _ A3.out).mono ?_); rintro e w' ⟨rfl, ⟨nd, rfl⟩⟩; (try first | exact ⟨rfl, _, World.drewN_drewN _ _ _⟩ | exact ⟨rfl, _, Eq.trans (World.drewN_drewN _ _ _) (congrArg (World.drewN _) (Nat.add_assoc _ _ _))⟩)) | (go_at_call 85; (with_reducible refine (bO.calls a1 1 11 true _ A5.out).mono ?_); rintro e w' ⟨rfl, ⟨nd, rfl⟩⟩; (try first | exact ⟨rfl, _, World.drewN_drewN _ _ _⟩ | exact ⟨rfl, _, Eq.trans (World.drewN_drewN _ _ _) (congrArg (World.drewN _) (Nat.add_assoc _ _ _))⟩)))
   repeat (go_quiet (first | (go_at_call 85; (with_reducible refine (bO.calls a0 0 3328 true _ A3.out).mono ?_); rintro e w' ⟨rfl, ⟨nd, rfl⟩⟩; (try first | exact ⟨rfl, _, World.drewN_drewN _ _ _⟩ | exact ⟨rfl, _, Eq.trans (World.drewN_drewN _ _ _) (congrArg (World.drewN _) (Nat.add_assoc _ _ _))⟩)) | (go_at_call 85; (with_reducible refine (bO.calls a1 1 11 true _ A5.out).mono ?_); rintro e w' ⟨rfl, ⟨nd, rfl⟩⟩; (try first | exact ⟨rfl, _, World.drewN_drewN _ _ _⟩ | exact ⟨rfl, _, Eq.trans (World.drewN_drewN _ _ _) (congrArg (World.drewN _) (Nat.add_assoc _ _ _))⟩))); try go_wp2)
   go_ret
   exact ⟨by first | rfl | (simp; done) | (simp only [← e0, ← b0] <;> (first | rfl | simp)) | (simp [*]; done), d0_⟩
  ·replace c6 := ya c6
   subst c6
   replace H := iF_ H
   obtain rfl := sI H
   go_enter Tryz.func71, Tryz.ntmps71
   go_wp2_with (first | (go_at_call 85; (with_reducible refine (bO.calls a0 0 3328 true _ A3.out).mono ?_); rintro e w' ⟨rfl, ⟨nd, rfl⟩⟩; (try first | exact ⟨rfl, _, World.drewN_drewN _ _ _⟩ | exact ⟨rfl, _, Eq.trans (World.drewN_drewN _ _ _) (congrArg (World.drewN _) (Nat.add_assoc _ _ _))⟩)) | (go_at_call 85; (with_reducible refine (bO.calls a1 1 11 false _ A5.out).mono ?_); rintro e w' ⟨rfl, ⟨nd, rfl⟩⟩; (try first | exact ⟨rfl, _, World.drewN_drewN _ _ _⟩ | exact ⟨rfl, _, Eq.trans (World.drewN_drewN _ _ _) (congrArg (World.drewN _) (Nat.add_assoc _ _ _))⟩)))
   repeat (go_quiet (first | (go_at_call 85; (with_reducible refine (bO.calls a0 0 3328 true _ A3.out).mono ?_); rintro e w' ⟨rfl, ⟨nd, rfl⟩⟩; (try first | exact ⟨rfl, _, World.drewN_drewN _ _ _⟩ | exact ⟨rfl, _, Eq.trans (World.drewN_drewN _ _ _) (congrArg (World.drewN _) (Nat.add_assoc _ _ _))⟩)) | (go_at_call 85; (with_reducible refine (bO.calls a1 1 11 false _ A5.out).mono ?_); rintro e w' ⟨rfl, ⟨nd, rfl⟩⟩; (try first | exact ⟨rfl, _, World.drewN_drewN _ _ _⟩ | exact ⟨rfl, _, Eq.trans (World.drewN_drewN _ _ _) (congrArg (World.drewN _) (Nat.add_assoc _ _ _))⟩))); try go_wp2)
   go_ret
   exact ⟨f0_, d0_⟩
 ·replace c4 := ya c4
  subst c4
  replace H := iF_ H
  obtain rfl := sI H
  go_enter Tryz.func71, Tryz.ntmps71
  go_wp2_with (first | (go_at_call 85; (with_reducible refine (bO.calls a0 0 3328 false _ A3.out).mono ?_); rintro e w' ⟨rfl, ⟨nd, rfl⟩⟩; (try first | exact ⟨rfl, _, World.drewN_drewN _ _ _⟩ | exact ⟨rfl, _, Eq.trans (World.drewN_drewN _ _ _) (congrArg (World.drewN _) (Nat.add_assoc _ _ _))⟩)))
  repeat (go_quiet (first | (go_at_call 85; (with_reducible refine (bO.calls a0 0 3328 false _ A3.out).mono ?_); rintro e w' ⟨rfl, ⟨nd, rfl⟩⟩; (try first | exact ⟨rfl, _, World.drewN_drewN _ _ _⟩ | exact ⟨rfl, _, Eq.trans (World.drewN_drewN _ _ _) (congrArg (World.drewN _) (Nat.add_assoc _ _ _))⟩))); try go_wp2)
  go_ret
  exact ⟨f0_, d0_⟩

/-! ### bk: function 36 -/
def bk.l0 : Nat → Int → List Int → List Int → Int → Int → Option (List Int)
 | 0, _, _, _, _, _ => none
 | k + 1, x1, x5, x8, x9, x10 => if x10 < x9 then (if 0 ≤ x10 then (if x10 < (x8.length : Int) then ((dT.f (rd x8 x10) x1).bind fun t741 => (if x5.length < 17592186044416 then (bk.l0 k x1 (x5 ++ [t741]) x8 x9 (wrap64 (x10 + 1))) else (none))) else (none)) else (none)) else (some x5)
def bk.f (k : Nat) (l0 : List Int) (a1 : Int) : Option (List Int) := bk.l0 k a1 ([] : List Int) l0 (l0.length : Int) 0
theorem bk.mono_l : ∀ k, (∀ y0 y1 y2 y3 y4, LeO (bk.l0 k y0 y1 y2 y3 y4) (bk.l0 (k + 1) y0 y1 y2 y3 y4))
 | 0 => fun _ _ _ _ _ r h => by simp [bk.l0] at h
 | k + 1 => by
  have ih0 := bk.mono_l k
  intros; unfold bk.l0; exact o1_ ih0
theorem bk.mono : ∀ a0 a1 k, LeO (bk.f k a0 a1) (bk.f (k + 1) a0 a1) := by
 intro a0 a1 k
 have ih0 := bk.mono_l k
 unfold bk.f
 exact o1_ ih0
theorem bk.calls (k : Nat) (A0 : Option Addr) (c0 : Nat) (l0 : List Int) (a1 : Int) (r : List Int) (w : World) (hr0 : Kd.C (Kd.int .i64) w A0 l0.length l0) (hc0 : l0.length ≤ c0) (h : bk.f k l0 a1 = some r) :
  Calls Tryz.prog 36 #[.slice A0 l0.length c0, .int .i64 a1] w fun e w' => ∃ y0 : Value, e = .returned (y0) ∧ Kd.R (Kd.int .i64) 3 w' w.heap.size (fun _ => True) y0 r ∧ Below w.heap.size w w' := by
 have D0 := aa.mk hr0
 have I0 := aa.mk hc0
 clear hr0 hc0
 have HB := aa.mk (xa w.heap.size w)
 delta bk.f at h
 have H := h
 clear h
 have H' := aa.mk H
 clear H
 go_enter Tryz.func36, Tryz.ntmps36
 go_wp2
 go_loopg [5, 10] k (fun kq v5 E0 w' => ∃ (e0 : List Int) (a0 : Int), E0 = .int .i64 a0 ∧ aa (bk.l0 kq a1 e0 l0 (l0.length : Int) a0 = some r) ∧ aa (kq ≤ k) ∧ aa (Kd.R (Kd.int .i64) 3 w' w.heap.size (fun _ => True) v5 e0) ∧ aa (Below w.heap.size w w'))
 case atStart => exact ⟨(([] : List Int)), (0), f0_, H', ⟨wa _⟩, ⟨by first | exact Kd.R_nil _ _ _ _ _ | exact Kd.N_nil _ _ _ _ _ | exact Kd.V_nil _ _ _ _ _ | exact Kd.Q_nil _ _ _ _ _ | exact Kd.S_nil _ _ _ _ _⟩, ⟨hB_⟩⟩
 clear H'
 obtain ⟨e0, a0, rfl, HA, B0, j0, HB⟩ := hrel
 rcases gk with _ | k1
 ·exact absurd HA.out (by simp [bk.l0])
 have H := HA.out
 clear HA
 simp only [bk.l0] at H
 by_cases c3 : a0 < (l0.length : Int)
 rotate_left
 ·rw [Aa c3] at H
  have t0 := ua c3
  clear c3
  obtain rfl := sI H
  go_wp2
  go_ret
  exact ⟨_, f1_, rR_ j0.out, hB_⟩
 rw [za c3] at H
 have t0 := ta c3
 clear c3
 obtain ⟨F0, H⟩ := iD_ H
 obtain ⟨G0, H⟩ := iD_ H
 obtain ⟨f0, A6, H⟩ := bN_ H
 obtain ⟨c7, H⟩ := iN_ H
 have u0 := aa.mk c7
 clear c7
 obtain ⟨v0, d0⟩ : ∃ y_ : List Int, y_ = (e0 ++ [f0]) := ⟨_, rfl⟩
 first | replace H := yb_ d0 H | rw [← d0] at H
 have q0 := aa.mk d0
 clear d0
 have H' := aa.mk H
 clear H
 have k0 : 0 ≤ (a0 : Int) := oD_
 have p0 : a0 < (l0.length : Int) := oD_
 obtain ⟨C0, x0, b0⟩ := Kd.at_int D0.out a0 k0 p0
 cases x0
 replace b0 := (HB.out.cell (World.block_lt_of_cell? w _ b0)).trans b0
 replace k0 := va k0
 replace p0 := va p0
 go_wp2_with (first | ((with_reducible refine ae (f := 71) rfl ?_); refine aq (some 17) rfl rfl Tryz.func71 (by kernel_rfl) rfl #[.int .i64 (rd l0 a0), .int .i64 a1] rfl aM_ ?_; (with_reducible refine (dT.calls (rd l0 a0) a1 f0 _ A6.out).mono ?_); rintro e w' ⟨rfl, ⟨nd, rfl⟩⟩; refine ⟨_, rfl, ?_⟩) | ((with_reducible refine aV (b := .append) (xs := #[.tmp 14, .tmp 18]) rfl ?_); at_builtin; refine Kd.R_append (Kd.int .i64) (w0 := w) w.heap.size rfl (.tmp 14) (.tmp 18) 38 3 (.int .i64 0) 8 rfl Tryz.underlying38 cS rfl (by decide) (by omega) u5 e0 f0 [.int .i64 f0] (fun _ => True) (fun _ => False) rfl rfl ?aP (fun _ hk => hk.elim) ?aF ?aO ?aB ?aS ?aL ?_; (case aP => exact rfl); (case aB => exact (hB_)); (case aF => exact (fun _ _ => trivial)); (case aO => exact (rR_ j0.out)); (case aS => exact (ab (hB_))); (case aL => have := u0.out; omega); intro H0 w8 ho hb hg hat; rw [← q0.out] at ho; have n_ := b_ (hb) <| c_ (ho); clear j0 HB; obtain ⟨HB, r0⟩ := n_; clear ho hb hg hat))
 go_roundg k1
 case measure => have := B0.out; omega
 case rel => exact ⟨(v0), (wrap64 (a0 + 1)), f0_, H', ⟨by have := B0.out; omega⟩, ⟨rR_ r0.out⟩, ⟨hB_⟩⟩

/-! ### dR: function 74 -/
def dR.f (a0 : Int) (a1 : Int) : Option (Int) := (bO.f a1 1 11).bind fun t745 => (if t745 = true then (if 0 ≤ a1 then ((bO.f a0 0 (wrap64 ((shl .i64 1 a1) - 1))).bind fun t746 => (if t746 = true then (if 0 ≤ (wrap64 (a1 - 1)) then (some (shr .i64 (wrap64 ((wrap64 (3329 * a0)) + (shl .i64 1 (wrap64 (a1 - 1))))) a1)) else (none)) else (some 0))) else (none)) else (some 0))
theorem dR.calls (a0 : Int) (a1 : Int) (r : Int) (w : World) (h : dR.f a0 a1 = some r) :
  Calls Tryz.prog 74 #[.int .i64 a0, .int .i64 a1] w fun e w' => e = .returned (.int .i64 r) ∧ cp w w' := by
 delta dR.f at h
 have H := h
 clear h
 obtain ⟨x0, A3, H⟩ := bN_ H
 by_cases c4 : x0 = true
 ·subst c4
  replace H := iT_ H
  obtain ⟨c5, H⟩ := iN_ H
  have I0 := va c5
  have J0 := ta c5
  clear c5
  obtain ⟨r0, f0⟩ : ∃ j_ : Int, (shl .i64 1 a1) = j_ := ⟨_, rfl⟩
  first | rw [f0] at H | simp only [f0] at H
  (try rw [f0] at A3)
  have t0 : (IntKind.i64.wrap (1 * 2 ^ min a1.toNat 64)) = r0 := f0
  have u0 : a1 ≤ 64 → (IntKind.i64.wrap (1 * 2 ^ a1.toNat)) = r0 := eE f0
  have hji6u : (IntKind.i64.wrap (2 ^ min a1.toNat 64)) = r0 := by have h_ := t0; rw [Int.one_mul] at h_; exact h_
  have hji6v : a1 ≤ 64 → (IntKind.i64.wrap (2 ^ a1.toNat)) = r0 := fun hle_ => by have h_ := u0 hle_; rw [Int.one_mul] at h_; exact h_
  have hji6y : (wrap64 (1 * 2 ^ min a1.toNat 64)) = r0 := (bB _).symm.trans t0
  have hji6x : a1 ≤ 64 → (wrap64 (1 * 2 ^ a1.toNat)) = r0 := fun h_ => (bB _).symm.trans (u0 h_)
  obtain ⟨y0, A7, H⟩ := bN_ H
  by_cases c8 : y0 = true
  ·subst c8
   replace H := iT_ H
   obtain ⟨k0, j0⟩ : ∃ j_ : Int, (wrap64 (a1 - 1)) = j_ := ⟨_, rfl⟩
   first | rw [j0] at H | simp only [j0] at H
   (try rw [j0] at A3)
   (try rw [j0] at A7)
   have E0 : (IntKind.i64.wrap (a1 - 1)) = k0 := (bB _).trans j0
   obtain ⟨B0, H⟩ := iN_ H
   have F0 := va B0
   have G0 := ta B0
   clear B0
   obtain ⟨e0, b0⟩ : ∃ j_ : Int, (shl .i64 1 (k0)) = j_ := ⟨_, rfl⟩
   first | rw [b0] at H | simp only [b0] at H
   (try rw [b0] at A3)
   (try rw [b0] at A7)
   have p0 : (IntKind.i64.wrap (1 * 2 ^ min (k0).toNat 64)) = e0 := b0
   have q0 : (k0) ≤ 64 → (IntKind.i64.wrap (1 * 2 ^ (k0).toNat)) = e0 := eE b0
   have hji11u : (IntKind.i64.wrap (2 ^ min (k0).toNat 64)) = e0 := by have h_ := p0; rw [Int.one_mul] at h_; exact h_
   have hji11v : (k0) ≤ 64 → (IntKind.i64.wrap (2 ^ (k0).toNat)) = e0 := fun hle_ => by have h_ := q0 hle_; rw [Int.one_mul] at h_; exact h_
   have hji11y : (wrap64 (1 * 2 ^ min (k0).toNat 64)) = e0 := (bB _).symm.trans p0
   have hji11x : (k0) ≤ 64 → (wrap64 (1 * 2 ^ (k0).toNat)) = e0 := fun h_ => (bB _).symm.trans (q0 h_)
   have H0 := va (oD_ : 0 ≤ a1)
   obtain ⟨v0, d0⟩ : ∃ j_ : Int, (shr .i64 (wrap64 ((wrap64 (3329 * a0)) + (e0))) a1) = j_ := ⟨_, rfl⟩
   first | rw [d0] at H | simp only [d0] at H
   (try rw [d0] at A3)
   (try rw [d0] at A7)
   have C0 : ((wrap64 ((wrap64 (3329 * a0)) + (e0))) / 2 ^ min a1.toNat 64) = v0 := d0
   have D0 : a1 ≤ 64 → ((wrap64 ((wrap64 (3329 * a0)) + (e0))) / 2 ^ a1.toNat) = v0 := fv d0
   obtain rfl := sI H
   go_enter Tryz.func74, Tryz.ntmps74
   go_wp2_with (first | ((with_reducible refine ae (f := 85) rfl ?_); refine aq (some 6) rfl rfl Tryz.func85 (by kernel_rfl) rfl #[.int .i64 a1, .int .i64 1, .int .i64 11] rfl aM_ ?_; (with_reducible refine (bO.calls a1 1 11 true _ A3.out).mono ?_); rintro e w' ⟨rfl, ⟨nd, rfl⟩⟩; refine ⟨_, rfl, ?_⟩) | (go_at_call 85; (with_reducible refine (bO.calls a0 0 (wrap64 ((r0) - 1)) true _ A7.out).mono ?_); rintro e w' ⟨rfl, ⟨nd, rfl⟩⟩))
   go_ret
   exact ⟨by first | rfl | (simp; done) | (simp only [← f0, ← j0, ← b0, ← d0] <;> (first | rfl | simp)) | (simp [*]; done), d0_⟩
  ·replace c8 := ya c8
   subst c8
   replace H := iF_ H
   obtain rfl := sI H
   go_enter Tryz.func74, Tryz.ntmps74
   go_wp2_with (first | ((with_reducible refine ae (f := 85) rfl ?_); refine aq (some 6) rfl rfl Tryz.func85 (by kernel_rfl) rfl #[.int .i64 a1, .int .i64 1, .int .i64 11] rfl aM_ ?_; (with_reducible refine (bO.calls a1 1 11 true _ A3.out).mono ?_); rintro e w' ⟨rfl, ⟨nd, rfl⟩⟩; refine ⟨_, rfl, ?_⟩) | (go_at_call 85; (with_reducible refine (bO.calls a0 0 (wrap64 ((r0) - 1)) false _ A7.out).mono ?_); rintro e w' ⟨rfl, ⟨nd, rfl⟩⟩))
   go_ret
   exact ⟨by first | rfl | (simp; done) | (simp only [← f0] <;> (first | rfl | simp)) | (simp [*]; done), d0_⟩
 ·replace c4 := ya c4
  subst c4
  replace H := iF_ H
  obtain rfl := sI H
  go_enter Tryz.func74, Tryz.ntmps74
  go_wp2_with (first | ((with_reducible refine ae (f := 85) rfl ?_); refine aq (some 6) rfl rfl Tryz.func85 (by kernel_rfl) rfl #[.int .i64 a1, .int .i64 1, .int .i64 11] rfl aM_ ?_; (with_reducible refine (bO.calls a1 1 11 false _ A3.out).mono ?_); rintro e w' ⟨rfl, ⟨nd, rfl⟩⟩; refine ⟨_, rfl, ?_⟩))
  go_ret
  exact ⟨f0_, d0_⟩

/-! ### bH: function 38 -/
def bH.l0 : Nat → ByteArray → List Int → Int → Int → Option (List Int)
 | 0, _, _, _, _ => none
 | k + 1, x0, x3, x7, x8 => if x8 < x7 then (if 0 ≤ (wrap64 (Int.tdiv x8 8)) then (if (wrap64 (Int.tdiv x8 8)) < (x0.size : Int) then (if 0 ≤ (Int.tmod x8 8) then ((dR.f (wrap64 (Go.bits .and .u8 (shr .u8 (bt x0 (wrap64 (Int.tdiv x8 8))) (Int.tmod x8 8)) 1)) 1).bind fun t750 => (if 0 ≤ x8 then (if x8 < (x3.length : Int) then (bH.l0 k x0 (x3.set (x8 : Int).toNat t750) x7 (wrap64 (x8 + 1))) else (none)) else (none))) else (none)) else (none)) else (none)) else (some x3)
def bH.f (k : Nat) (a0 : ByteArray) : Option (List Int) := if 256 ≤ 35184372088832 then ((some (List.replicate 256 0 : List Int)).bind fun y747 => (bH.l0 k a0 y747 (y747.length : Int) 0)) else (none)
theorem bH.mono_l : ∀ k, (∀ y0 y1 y2 y3, LeO (bH.l0 k y0 y1 y2 y3) (bH.l0 (k + 1) y0 y1 y2 y3))
 | 0 => fun _ _ _ _ r h => by simp [bH.l0] at h
 | k + 1 => by
  have ih0 := bH.mono_l k
  intros; unfold bH.l0; exact o1_ ih0
theorem bH.mono : ∀ a0 k, LeO (bH.f k a0) (bH.f (k + 1) a0) := by
 intro a0 k
 have ih0 := bH.mono_l k
 unfold bH.f
 exact o1_ ih0
theorem bH.calls (k : Nat) (a0 : ByteArray) (r : List Int) (w : World) (h : bH.f k a0 = some r) :
  Calls Tryz.prog 38 #[.string a0] w fun e w' => ∃ T0 : Value, e = .returned (T0) ∧ Kd.R (Kd.int .i64) 3 w' w.heap.size (fun _ => True) T0 r ∧ Below w.heap.size w w' := by
 have HB := aa.mk (xa w.heap.size w)
 delta bH.f at h
 have H := h
 clear h
 obtain ⟨c2, H⟩ := iN_ H
 have d1 := va c2
 have e1 := ta c2
 clear c2
 obtain ⟨q0, k0⟩ : ∃ y_ : List Int, y_ = (List.replicate 256 0) := ⟨_, rfl⟩
 first | replace H := yb_ k0 H | rw [← k0] at H
 have v0 := aa.mk k0
 clear k0
 have H' := aa.mk H
 clear H
 go_enter Tryz.func38, Tryz.ntmps38
 go_wp2_with (first | ((with_reducible refine aI (N := 5) rfl ?_); refine Kd.R_make (Kd.int .i64) _ 3 rfl (N := 5) rfl 38 _ _ rfl 256 rfl rfl Tryz.underlying38 (.int .i64 0) 8 cS rfl (by decide) (by omega) 0 (ok := fun _ => True) (okp := fun _ => True) rfl (fun _ hk => hk) trivial (by omega) (by omega) (xa _ _) (wa _) ?_; intro f1 w3 E0 hb hg_ hnew_; clear hg_ hnew_; (first | rw [← v0.out] at E0 | (simp only [Int.reduceToNat] at E0; rw [← v0.out] at E0)); have n_ := b_ (Kd.R_lower E0 (ab (hB_))) <| c_ (ac (hB_) hb); clear HB; obtain ⟨x0, HB⟩ := n_; clear hb E0; obtain ⟨U0, K0, g1⟩ := Kd.R_slice x0.out; subst g1))
 go_loopg [8] k (fun kq v8 w' => ∃ (f0 : List Int) (b0 : Int), v8 = .int .i64 b0 ∧ aa (bH.l0 kq a0 f0 (q0.length : Int) b0 = some r) ∧ aa (kq ≤ k) ∧ aa (Kd.R (Kd.int .i64) 3 w' w.heap.size (fun _ => True) (.slice U0 q0.length K0) f0) ∧ aa (Below w.heap.size w w'))
 case atStart => exact ⟨(q0), (0), f0_, H', ⟨wa _⟩, ⟨rR_ x0.out⟩, ⟨hB_⟩⟩
 clear H'
 obtain ⟨f0, b0, rfl, HA, V0, d0, HB⟩ := hrel
 have e0 := (Kd.R_reads' d0.out).1
 rw [e0] at d0
 (try simp only [e0])
 rcases gk with _ | k1
 ·exact absurd HA.out (by simp [bH.l0])
 have H := HA.out
 clear HA
 simp only [bH.l0] at H
 by_cases c6 : b0 < (q0.length : Int)
 rotate_left
 ·rw [Aa c6] at H
  have B0 := ua c6
  (try simp only [e0] at B0)
  clear c6
  obtain rfl := sI H
  go_wp2
  go_ret
  exact ⟨_, f1_, rR_ d0.out, hB_⟩
 rw [za c6] at H
 have B0 := ta c6
 (try simp only [e0] at B0)
 clear c6
 obtain ⟨C0, D0⟩ : ∃ j_ : Int, (wrap64 (Int.tdiv b0 8)) = j_ := ⟨_, rfl⟩
 first | rw [D0] at H | simp only [D0] at H
 have W0 : (IntKind.i64.wrap (Int.tdiv b0 8)) = C0 := (bB _).trans D0
 obtain ⟨i1, H⟩ := iD_ H
 obtain ⟨j1, H⟩ := iD_ H
 obtain ⟨r0, y0⟩ : ∃ j_ : Int, (Int.tmod b0 8) = j_ := ⟨_, rfl⟩
 first | rw [y0] at H | simp only [y0] at H
 obtain ⟨L0, H⟩ := iN_ H
 have X0 := va L0
 have Y0 := ta L0
 clear L0
 obtain ⟨t0, j0⟩ : ∃ j_ : Int, (shr .u8 (bt a0 (C0)) (r0)) = j_ := ⟨_, rfl⟩
 first | rw [j0] at H | simp only [j0] at H
 have M0 : ((bt a0 (C0)) / 2 ^ min (r0).toNat 8) = t0 := j0
 have N0 : (r0) ≤ 8 → ((bt a0 (C0)) / 2 ^ (r0).toNat) = t0 := fv j0
 obtain ⟨u0, l1, H⟩ := bN_ H
 obtain ⟨Z0, H⟩ := iD_ H
 obtain ⟨b1, H⟩ := iN_ H
 have F0 := ta b1
 (try simp only [e0] at F0)
 clear b1
 obtain ⟨G0, p0⟩ : ∃ y_ : List Int, y_ = (f0.set (b0 : Int).toNat u0) := ⟨_, rfl⟩
 first | replace H := yb_ p0 H | rw [← p0] at H
 have H0 := aa.mk p0
 clear p0
 have H' := aa.mk H
 clear H
 have p1 := va (oD_ : 0 ≤ ((C0) : Int))
 have q1 := va (oD_ : (C0) < (a0.size : Int))
 have m1 := cB a0 (C0)
 go_wp2_with (first | ((with_reducible refine ae (f := 74) rfl ?_); refine aq (some 22) rfl rfl Tryz.func74 (by kernel_rfl) rfl #[.int .i64 (wrap64 (Go.bits .and .u8 (t0) 1)), .int .i64 1] rfl (by (try simp only [List.map_toArray, List.map_cons, List.map_nil]); first | done | (simp only [j0]; rfl) | rfl | (simp only [List.length_drop, List.length_take]; rfl)) ?_; (with_reducible refine (dR.calls (wrap64 (Go.bits .and .u8 (t0) 1)) 1 u0 _ l1.out).mono ?_); rintro e w' ⟨rfl, ⟨nd, rfl⟩⟩; refine ⟨_, rfl, ?_⟩; (try (rw [cU wr]; generalize hq_ : World.drewN wr _ = wr; have n_ := b_ (show Kd.R (Kd.int .i64) 3 wr w.heap.size (fun _ => True) (.slice U0 f0.length K0) f0 from by rw [← hq_]; exact (rR_ d0.out)) <| c_ (show Below w.heap.size w wr from by rw [← hq_]; exact (hB_)); clear d0 HB hq_; obtain ⟨d0, HB⟩ := n_)); have O0 : 0 ≤ (b0 : Int) := oD_; have P0 : (b0 : Int) < ((f0.length : Int) : Int) := oD_; obtain ⟨go17, n1, I0, J0, gl17, cl17, HG17⟩ := Kd.R_form d0.out (by omega); (first | cases I0 | (injection I0 with ea_ en_ ec_; (first | subst ea_ | (injection ea_ with ea_; subst ea_)); subst ec_; clear en_)); have Q0 := aa.mk J0; have GG17 := aa.mk HG17; clear J0 gl17 HG17; obtain ⟨R0, hf17_0⟩ := Kd.R_celln 0 d0.out (b0 : Int) O0 P0; replace O0 := va O0; replace P0 := va P0; obtain ⟨c1, hz18_⟩ := Kd.R_celln 0 d0.out (b0 : Int) oD_ oD_; have HP18 := Kd.R_putg d0.out (b0 : Int) u0) | ((with_reducible refine cm (t := 3) (p := 23) rfl ?_); refine b9 (t := 3) (p := 23) (v := ?vo_w19) (w1 := (wr.setCell ⟨go17, (b0 : Int).toNat, none⟩ (.int .i64 u0))) ?hg ?ho ?hn ?hr ?_; (case ho => rfl); (case hg => rfl); (case hn => rfl); (case hr => first | (go_simp; done) | (go_simp; rfl)); intro S0 hw; have hg : wr.grownBy S0 (some go17) := (by rw [hw]; exact HP18.2); have hp_ : Kd.R (Kd.int .i64) 3 S0 w.heap.size (fun _ => True) (.slice (some ⟨go17, 0, none⟩) f0.length K0) G0 := (by rw [hw, H0.out]; exact HP18.1); clear HP18; have n_ := b_ (hp_) <| c_ (by rw [hw]; exact co (HB.out) Q0.out : Below w.heap.size w S0); clear d0 HB; obtain ⟨d0, HB⟩ := n_; clear hg hw hp_))
 (try simp only [← e0])
 go_roundg k1
 case measure => have := V0.out; omega
 case rel => exact ⟨(G0), (wrap64 (b0 + 1)), f0_, H', ⟨by have := V0.out; omega⟩, ⟨by (try simp only [e0]); refine kR_ ?_; exact d0.out⟩, ⟨hB_⟩⟩

end Go.Proofs.YtielligodgabiaaGreatDoor.P
