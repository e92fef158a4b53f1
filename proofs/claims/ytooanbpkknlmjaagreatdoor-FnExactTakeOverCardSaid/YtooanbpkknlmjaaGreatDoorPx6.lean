-- printed texts of this session, regrouped
import Derived.Test.YtooanbpkknlmjaaGreatDoorMWB
import Derived.Test.YtooanbpkknlmjaaGreatDoorPx5
namespace Go.Proofs.YtooanbpkknlmjaaGreatDoor.P
open Go.RowKit YtooanbpkknlmjaaGreatDoorW.PrintWords YtooanbpkknlmjaaGreatDoorW.PrintLast YtooanbpkknlmjaaGreatDoorW.PrintMore
open Kd
attribute [local go_sem] dZ d4 eE ev dx dy dV dX
set_option linter.unusedVariables false
set_option linter.unusedSimpArgs false
set_option maxHeartbeats 8000000
set_option maxRecDepth 100000
mutual
def bg.j0 : Nat → List Int → List Int → Bool → Option (List Int)
 | 0, _, _, _ => none
 | k + 1, x0, x1, x19 => if x19 = true then (some ([] : List Int)) else (if 256 ≤ 35184372088832 then (bg.l0 k x0 x1 (List.replicate 256 0) 0) else (none))
def bg.l0 : Nat → List Int → List Int → List Int → Int → Option (List Int)
 | 0, _, _, _, _ => none
 | k + 1, x0, x1, x5, x21 => if x21 < 128 then ((bw.f k x21).bind fun t717 => ((bB.f k 17 (wrap64 ((wrap64 (2 * t717)) + 1))).bind fun t718 => (if 0 ≤ (wrap64 (2 * x21)) then (if (wrap64 (2 * x21)) < (x0.length : Int) then (if 0 ≤ (wrap64 ((wrap64 (2 * x21)) + 1)) then (if (wrap64 ((wrap64 (2 * x21)) + 1)) < (x0.length : Int) then (if (wrap64 (2 * x21)) < (x1.length : Int) then (if (wrap64 ((wrap64 (2 * x21)) + 1)) < (x1.length : Int) then ((bW.f (wrap64 ((wrap64 ((rd x0 (wrap64 (2 * x21))) * (rd x1 (wrap64 (2 * x21))))) + (wrap64 ((Int.tmod (wrap64 ((rd x0 (wrap64 ((wrap64 (2 * x21)) + 1))) * (rd x1 (wrap64 ((wrap64 (2 * x21)) + 1))))) 3329) * t718))))).bind fun t723 => (if (wrap64 (2 * x21)) < (x5.length : Int) then ((bW.f (wrap64 ((wrap64 ((rd x0 (wrap64 (2 * x21))) * (rd x1 (wrap64 ((wrap64 (2 * x21)) + 1))))) + (wrap64 ((rd x0 (wrap64 ((wrap64 (2 * x21)) + 1))) * (rd x1 (wrap64 (2 * x21)))))))).bind fun t725 => (if (wrap64 ((wrap64 (2 * x21)) + 1)) < (x5.length : Int) then (bg.l0 k x0 x1 ((x5.set ((wrap64 (2 * x21)) : Int).toNat t723).set ((wrap64 ((wrap64 (2 * x21)) + 1)) : Int).toNat t725) (wrap64 (x21 + 1))) else (none))) else (none))) else (none)) else (none)) else (none)) else (none)) else (none)) else (none)))) else (some x5)
end
def bg.f (k : Nat) (l0 : List Int) (l1 : List Int) : Option (List Int) := (ax.f k l0).bind fun t712 => (if t712 = true then ((ax.f k l1).bind fun t713 => (bg.j0 k l0 l1 (!t713))) else (bg.j0 k l0 l1 true))
theorem bg.mono_l : ∀ k, (∀ y0 y1 y2, LeO (bg.j0 k y0 y1 y2) (bg.j0 (k + 1) y0 y1 y2)) ∧ (∀ y0 y1 y2 y3, LeO (bg.l0 k y0 y1 y2 y3) (bg.l0 (k + 1) y0 y1 y2 y3))
 | 0 => ⟨fun _ _ _ r h => by simp [bg.j0] at h, fun _ _ _ _ r h => by simp [bg.l0] at h⟩
 | k + 1 => by
  obtain ⟨ih0, ih1⟩ := bg.mono_l k
  refine ⟨?_, ?_⟩ <;> (intros; (first | unfold bg.j0 | unfold bg.l0); exact o5_ ih0 ih1 ax.mono bB.mono bw.mono)
theorem bg.mono : ∀ a0 a1 k, LeO (bg.f k a0 a1) (bg.f (k + 1) a0 a1) := by
 intro a0 a1 k
 obtain ⟨ih0, ih1⟩ := bg.mono_l k
 unfold bg.f
 exact o5_ ih0 ih1 ax.mono bB.mono bw.mono
theorem bg.calls (k : Nat) (A0 : Option Addr) (c0 : Nat) (l0 : List Int) (A1 : Option Addr) (c1 : Nat) (l1 : List Int) (r : List Int) (w : World) (hr0 : Kd.C (Kd.int .i64) w A0 l0.length l0) (hc0 : l0.length ≤ c0) (hr1 : Kd.C (Kd.int .i64) w A1 l1.length l1) (hc1 : l1.length ≤ c1) (h : bg.f k l0 l1 = some r) :
  Calls Tryz.prog 88 #[.slice A0 l0.length c0, .slice A1 l1.length c1] w fun e w' => ∃ T1 : Value, e = .returned (T1) ∧ Kd.R (Kd.int .i64) 3 w' w.heap.size (fun _ => True) T1 r ∧ Below w.heap.size w w' := by
 have b1 := c_ hr0
 have G1 := c_ hc0
 clear hr0 hc0
 have B1 := c_ hr1
 have L1 := c_ hc1
 clear hr1 hc1
 have HB := c_ (Ba w.heap.size w)
 delta bg.f at h
 have H := h
 clear h
 have M1 := c_ H
 clear H
 go_enter Tryz.func88, Tryz.ntmps88
 go_upto_region 1 with (fail)
 repeat (go_quiet (fail); go_upto_region 1 with (fail))
 go_cut [19] (fun i2 wc => ∃ (kq : Nat) (U0 : Bool), i2 = .bool U0 ∧ aa (bg.j0 kq l0 l1 U0 = some r) ∧ aa (kq ≤ k) ∧ aa (Below w.heap.size w wc))
 case first =>
  have H := M1.o
  clear M1
  obtain ⟨N1, A4, H⟩ := bN_ H
  by_cases c5 : N1 = true
  ·subst c5
   replace H := iT_ H
   obtain ⟨C1, A6, H⟩ := bN_ H
   have H' := c_ H
   clear H
   go_wp2_with (first | (go_at_call 80; (with_reducible refine (ax.calls k _ _ l0 true _ ?side1 ?side2 A4.o).mono ?_); (case side1 => exact cR_ (tg b1.o HB.o)); (case side2 => exact G1.o); rintro e w' ⟨rfl, ⟨nd, rfl⟩⟩; (try first | exact ⟨rfl, _, World.drewN_drewN _ _ _⟩ | exact ⟨rfl, _, Eq.trans (World.drewN_drewN _ _ _) (congrArg (World.drewN _) (Nat.add_assoc _ _ _))⟩)) | (go_at_call 80; (with_reducible refine (ax.calls k _ _ l1 C1 _ ?side1 ?side2 A6.o).mono ?_); (case side1 => exact cR_ (tg B1.o (hB_))); (case side2 => exact L1.o); rintro e w' ⟨rfl, ⟨nd, rfl⟩⟩; (try first | exact ⟨rfl, _, World.drewN_drewN _ _ _⟩ | exact ⟨rfl, _, Eq.trans (World.drewN_drewN _ _ _) (congrArg (World.drewN _) (Nat.add_assoc _ _ _))⟩)))
   repeat (go_quiet (first | (go_at_call 80; (with_reducible refine (ax.calls k _ _ l0 true _ ?side1 ?side2 A4.o).mono ?_); (case side1 => exact cR_ (tg b1.o HB.o)); (case side2 => exact G1.o); rintro e w' ⟨rfl, ⟨nd, rfl⟩⟩; (try first | exact ⟨rfl, _, World.drewN_drewN _ _ _⟩ | exact ⟨rfl, _, Eq.trans (World.drewN_drewN _ _ _) (congrArg (World.drewN _) (Nat.add_assoc _ _ _))⟩)) | (go_at_call 80; (with_reducible refine (ax.calls k _ _ l1 C1 _ ?side1 ?side2 A6.o).mono ?_); (case side1 => exact cR_ (tg B1.o (hB_))); (case side2 => exact L1.o); rintro e w' ⟨rfl, ⟨nd, rfl⟩⟩; (try first | exact ⟨rfl, _, World.drewN_drewN _ _ _⟩ | exact ⟨rfl, _, Eq.trans (World.drewN_drewN _ _ _) (congrArg (World.drewN _) (Nat.add_assoc _ _ _))⟩))); try go_wp2_with (first | (go_at_call 80; (with_reducible refine (ax.calls k _ _ l0 true _ ?side1 ?side2 A4.o).mono ?_); (case side1 => exact cR_ (tg b1.o HB.o)); (case side2 => exact G1.o); rintro e w' ⟨rfl, ⟨nd, rfl⟩⟩; (try first | exact ⟨rfl, _, World.drewN_drewN _ _ _⟩ | exact ⟨rfl, _, Eq.trans (World.drewN_drewN _ _ _) (congrArg (World.drewN _) (Nat.add_assoc _ _ _))⟩)) | (go_at_call 80; (with_reducible refine (ax.calls k _ _ l1 C1 _ ?side1 ?side2 A6.o).mono ?_); (case side1 => exact cR_ (tg B1.o (hB_))); (case side2 => exact L1.o); rintro e w' ⟨rfl, ⟨nd, rfl⟩⟩; (try first | exact ⟨rfl, _, World.drewN_drewN _ _ _⟩ | exact ⟨rfl, _, Eq.trans (World.drewN_drewN _ _ _) (congrArg (World.drewN _) (Nat.add_assoc _ _ _))⟩))))
   go_meet
   case rel => exact ⟨_, (!C1), f0_, H', ⟨by first | omega | exact Aa _⟩, ⟨hB_⟩⟩
  ·replace c5 := Ca c5
   subst c5
   replace H := iF_ H
   have H' := c_ H
   clear H
   go_wp2_with (first | (go_at_call 80; (with_reducible refine (ax.calls k _ _ l0 false _ ?side1 ?side2 A4.o).mono ?_); (case side1 => exact cR_ (tg b1.o HB.o)); (case side2 => exact G1.o); rintro e w' ⟨rfl, ⟨nd, rfl⟩⟩; (try first | exact ⟨rfl, _, World.drewN_drewN _ _ _⟩ | exact ⟨rfl, _, Eq.trans (World.drewN_drewN _ _ _) (congrArg (World.drewN _) (Nat.add_assoc _ _ _))⟩)))
   repeat (go_quiet (first | (go_at_call 80; (with_reducible refine (ax.calls k _ _ l0 false _ ?side1 ?side2 A4.o).mono ?_); (case side1 => exact cR_ (tg b1.o HB.o)); (case side2 => exact G1.o); rintro e w' ⟨rfl, ⟨nd, rfl⟩⟩; (try first | exact ⟨rfl, _, World.drewN_drewN _ _ _⟩ | exact ⟨rfl, _, Eq.trans (World.drewN_drewN _ _ _) (congrArg (World.drewN _) (Nat.add_assoc _ _ _))⟩))); try go_wp2_with (first | (go_at_call 80; (with_reducible refine (ax.calls k _ _ l0 false _ ?side1 ?side2 A4.o).mono ?_); (case side1 => exact cR_ (tg b1.o HB.o)); (case side2 => exact G1.o); rintro e w' ⟨rfl, ⟨nd, rfl⟩⟩; (try first | exact ⟨rfl, _, World.drewN_drewN _ _ _⟩ | exact ⟨rfl, _, Eq.trans (World.drewN_drewN _ _ _) (congrArg (World.drewN _) (Nat.add_assoc _ _ _))⟩))))
   go_meet
   case rel => exact ⟨_, (true), f0_, H', ⟨by first | omega | exact Aa _⟩, ⟨hB_⟩⟩
 clear M1
 obtain ⟨kq, U0, rfl, HA, U1, HB⟩ := hcut
 rcases kq with _ | V1
 ·exact absurd HA.o (by simp [bg.j0])
 have H := HA.o
 clear HA
 simp only [bg.j0] at H
 by_cases c7 : U0 = true
 ·subst c7
  replace H := iT_ H
  obtain rfl := za H
  go_wp2
  repeat (go_quiet (fail); try go_wp2)
  go_ret
  exact ⟨_, f1_, by first | exact tH _ _ _ _ _ | exact Kd.N_nil _ _ _ _ _ | exact Kd.V_nil _ _ _ _ _ | exact Kd.Q_nil _ _ _ _ _ | exact tJ _ _ _ _ _, hB_⟩
 ·replace c7 := Ca c7
  subst c7
  replace H := iF_ H
  obtain ⟨c8, H⟩ := iN_ H
  have j2 := ya c8
  have l2 := wa c8
  clear c8
  obtain ⟨O1, V0⟩ : ∃ y_ : List Int, y_ = (List.replicate 256 0) := ⟨_, rfl⟩
  first | replace H := yb_ V0 H | rw [← V0] at H
  have H0 := c_ V0
  clear V0
  have H' := c_ H
  clear H
  go_wp2_with (first | ((refine aI (N := 20) rfl ?_); refine tw (Kd.int .i64) _ 3 rfl (N := 20) rfl 28 _ _ rfl 256 rfl rfl Tryz.underlying28 (.int .i64 0) 8 cY rfl (by decide) (by omega) 0 (ok := fun _ => True) (okp := fun _ => True) rfl (fun _ hk => hk) trivial (by omega) (by omega) (Ba _ _) (Aa _) ?_; intro F1 w9 p0 hb hg_ hnew_; clear hg_ hnew_; (first | rw [← H0.o] at p0 | (simp only [Int.reduceToNat] at p0; rw [← H0.o] at p0)); obtain ⟨d1, HB⟩ := b_ (sZ p0 (ac (hB_))) <| c_ (ab (hB_) hb); clear hb p0))
  repeat (go_quiet (first | ((refine aI (N := 20) rfl ?_); refine tw (Kd.int .i64) _ 3 rfl (N := 20) rfl 28 _ _ rfl 256 rfl rfl Tryz.underlying28 (.int .i64 0) 8 cY rfl (by decide) (by omega) 0 (ok := fun _ => True) (okp := fun _ => True) rfl (fun _ hk => hk) trivial (by omega) (by omega) (Ba _ _) (Aa _) ?_; intro F1 w9 p0 hb hg_ hnew_; clear hg_ hnew_; (first | rw [← H0.o] at p0 | (simp only [Int.reduceToNat] at p0; rw [← H0.o] at p0)); obtain ⟨d1, HB⟩ := b_ (sZ p0 (ac (hB_))) <| c_ (ab (hB_) hb); clear hb p0)); try go_wp2_with (first | ((refine aI (N := 20) rfl ?_); refine tw (Kd.int .i64) _ 3 rfl (N := 20) rfl 28 _ _ rfl 256 rfl rfl Tryz.underlying28 (.int .i64 0) 8 cY rfl (by decide) (by omega) 0 (ok := fun _ => True) (okp := fun _ => True) rfl (fun _ hk => hk) trivial (by omega) (by omega) (Ba _ _) (Aa _) ?_; intro F1 w9 p0 hb hg_ hnew_; clear hg_ hnew_; (first | rw [← H0.o] at p0 | (simp only [Int.reduceToNat] at p0; rw [← H0.o] at p0)); obtain ⟨d1, HB⟩ := b_ (sZ p0 (ac (hB_))) <| c_ (ab (hB_) hb); clear hb p0)))
  go_loopg [21] V1 (fun kq m2 w' => ∃ (q0 : List Int) (r0 : Int), m2 = .int .i64 r0 ∧ aa (bg.l0 kq l0 l1 q0 r0 = some r) ∧ aa (kq ≤ V1) ∧ aa (Kd.R (Kd.int .i64) 3 w' w.heap.size (fun _ => True) F1 q0) ∧ aa (Below w.heap.size w w'))
  case atStart => exact ⟨(O1), (0), f0_, H', ⟨Aa _⟩, ⟨rR_ d1.o⟩, ⟨hB_⟩⟩
  clear H'
  obtain ⟨q0, r0, rfl, HA, X1, d0, HB⟩ := hrel
  rcases gk with _ | k2
  ·exact absurd HA.o (by simp [bg.l0])
  have H := HA.o
  clear HA
  simp only [bg.l0] at H
  by_cases H1 : r0 < 128
  rotate_left
  ·rw [Ea H1] at H
   have I1 := xa H1
   clear H1
   obtain rfl := za H
   go_wp2
   repeat (go_quiet (fail); try go_wp2)
   go_ret
   exact ⟨_, f1_, rR_ d0.o, hB_⟩
  rw [Da H1] at H
  have I1 := wa H1
  clear H1
  obtain ⟨Y0, J1, H⟩ := bN_ H
  obtain ⟨Z0, K1, H⟩ := bN_ H
  obtain ⟨a0, I0⟩ : ∃ j_ : Int, (wrap64 (2 * r0)) = j_ := ⟨_, rfl⟩
  first | rw [I0] at H | simp only [I0] at H
  (try rw [I0] at J1)
  (try rw [I0] at K1)
  have P1 : (IntKind.i64.wrap (2 * r0)) = a0 := (bv _).trans I0
  obtain ⟨Y1, H⟩ := iD_ H
  obtain ⟨Z1, H⟩ := iD_ H
  obtain ⟨b0, J0⟩ : ∃ j_ : Int, (wrap64 ((a0) + 1)) = j_ := ⟨_, rfl⟩
  first | rw [J0] at H | simp only [J0] at H
  (try rw [J0] at J1)
  (try rw [J0] at K1)
  have Q1 : (IntKind.i64.wrap ((a0) + 1)) = b0 := (bv _).trans J0
  obtain ⟨b2, H⟩ := iD_ H
  obtain ⟨c2, H⟩ := iD_ H
  obtain ⟨d2, H⟩ := iD_ H
  obtain ⟨e2, H⟩ := iD_ H
  obtain ⟨t0, R1, H⟩ := bN_ H
  obtain ⟨f2, H⟩ := iD_ H
  obtain ⟨D1, W0⟩ : ∃ y_ : List Int, y_ = (q0.set ((a0) : Int).toNat t0) := ⟨_, rfl⟩
  first | replace H := yb_ W0 H | rw [← W0] at H
  have e1 := c_ W0
  clear W0
  obtain ⟨u0, S1, H⟩ := bN_ H
  obtain ⟨g2, H⟩ := iD_ H
  obtain ⟨E1, X0⟩ : ∃ y_ : List Int, y_ = (D1.set ((b0) : Int).toNat u0) := ⟨_, rfl⟩
  first | replace H := yb_ X0 H | rw [← X0] at H
  have f1 := c_ X0
  clear X0
  have H' := c_ H
  clear H
  go_wp2_with (first | (go_at_call 83; (with_reducible refine (bw.calls k2 r0 Y0 _ J1.o).mono ?_); rintro e w' ⟨rfl, ⟨nd, rfl⟩⟩; (try first | exact ⟨rfl, _, World.drewN_drewN _ _ _⟩ | exact ⟨rfl, _, Eq.trans (World.drewN_drewN _ _ _) (congrArg (World.drewN _) (Nat.add_assoc _ _ _))⟩)) | (go_at_call 82; (with_reducible refine (bB.calls k2 17 (wrap64 ((wrap64 (2 * Y0)) + 1)) Z0 _ K1.o).mono ?_); rintro e w' ⟨rfl, ⟨nd, rfl⟩⟩; (try first | exact ⟨rfl, _, World.drewN_drewN _ _ _⟩ | exact ⟨rfl, _, Eq.trans (World.drewN_drewN _ _ _) (congrArg (World.drewN _) (Nat.add_assoc _ _ _))⟩); have x0 : 0 ≤ ((a0) : Int) := oD_; have y0 : (a0) < (l0.length : Int) := oD_; obtain ⟨K0, g1, e0⟩ := tb b1.o (a0) x0 y0; cases g1; replace e0 := hc_ e0; replace x0 := ya x0; replace y0 := ya y0; have B0 : 0 ≤ ((b0) : Int) := oD_; have C0 : (b0) < (l0.length : Int) := oD_; obtain ⟨L0, i1, f0⟩ := tb b1.o (b0) B0 C0; obtain rfl : K0 = L0 := (by injection i1); replace f0 := hc_ f0; replace B0 := ya B0; replace C0 := ya C0; have D0 : 0 ≤ ((a0) : Int) := oD_; have E0 : (a0) < (l1.length : Int) := oD_; obtain ⟨M0, j1, k0⟩ := tb B1.o (a0) D0 E0; cases j1; replace k0 := hc_ k0; replace D0 := ya D0; replace E0 := ya E0; have F0 : 0 ≤ ((b0) : Int) := oD_; have G0 : (b0) < (l1.length : Int) := oD_; obtain ⟨N0, m1, n0⟩ := tb B1.o (b0) F0 G0; obtain rfl : M0 = N0 := (by injection m1); replace n0 := hc_ n0; replace F0 := ya F0; replace G0 := ya G0) | (go_at_call 84; (with_reducible refine (bW.calls (wrap64 ((wrap64 ((rd l0 (a0)) * (rd l1 (a0)))) + (wrap64 ((Int.tmod (wrap64 ((rd l0 (b0)) * (rd l1 (b0)))) 3329) * Z0)))) t0 _ R1.o).mono ?_); rintro e w' ⟨rfl, ⟨nd, rfl⟩⟩; (try first | exact ⟨rfl, _, World.drewN_drewN _ _ _⟩ | exact ⟨rfl, _, Eq.trans (World.drewN_drewN _ _ _) (congrArg (World.drewN _) (Nat.add_assoc _ _ _))⟩); have n1 : 0 ≤ ((a0) : Int) := oD_; have p1 : ((a0) : Int) < ((q0.length : Int) : Int) := oD_; obtain ⟨go24, O0, P0, Q0, gl24, cl24, HG24⟩ := tt d0.o (by omega); (first | cases P0 | (injection P0 with ea_ en_ ec_; (first | subst ea_ | (injection ea_ with ea_; subst ea_)); subst ec_; clear en_)); have R0 := c_ Q0; have GG24 := c_ HG24; clear Q0 gl24 HG24; obtain ⟨q1, hf24_0⟩ := te 0 d0.o ((a0) : Int) n1 p1; replace n1 := ya n1; replace p1 := ya p1; obtain ⟨S0, hz28_⟩ := te 0 d0.o ((a0) : Int) oD_ oD_; have HP28 := tm d0.o ((a0) : Int) t0) | ((refine cn (t := 3) (p := 65) rfl ?_); (try (rw [da wr]; generalize hq_ : World.drewN wr _ = wr; obtain ⟨d0, HB⟩ := b_ (uA hq_ d0.o) <| c_ (fF hq_ HB.o); (try (obtain ⟨S0, hz28_⟩ := te 0 d0.o ((a0) : Int) oD_ oD_)); (try (have HP28 := tm d0.o ((a0) : Int) t0)))); refine ce (t := 3) (p := 65) (v := ?vo_w29) (w1 := (wr.setCell ⟨go24, ((a0) : Int).toNat, none⟩ (.int .i64 t0))) ?hg ?ho ?hn ?hr ?_; (case ho => rfl); (case hg => rfl); (case hn => rfl); (case hr => first | (go_simp; done) | (go_simp; rfl)); intro v0 hw; have hg : wr.grownBy v0 (some go24) := (by rw [hw]; exact HP28.2); have hp_ : Kd.R (Kd.int .i64) 3 v0 w.heap.size (fun _ => True) (.slice (some ⟨go24, 0, none⟩) q0.length O0) D1 := (by rw [hw, e1.o]; exact HP28.1); clear HP28; have n0_ := c_ (hp_); have n1_ := c_ ((by rw [hw]; exact cq (HB.o) R0.o : Below w.heap.size w v0)); replace d0 := n0_; replace HB := n1_; clear n0_ n1_; clear hg hw hp_) | (go_at_call 84; (with_reducible refine (bW.calls (wrap64 ((wrap64 ((rd l0 (a0)) * (rd l1 (b0)))) + (wrap64 ((rd l0 (b0)) * (rd l1 (a0)))))) u0 _ S1.o).mono ?_); rintro e w' ⟨rfl, ⟨nd, rfl⟩⟩; (try first | exact ⟨rfl, _, World.drewN_drewN _ _ _⟩ | exact ⟨rfl, _, Eq.trans (World.drewN_drewN _ _ _) (congrArg (World.drewN _) (Nat.add_assoc _ _ _))⟩); have r1 : 0 ≤ ((b0) : Int) := oD_; have t1 : ((b0) : Int) < ((q0.length : Int) : Int) := oD_; obtain ⟨y1, hf27_0⟩ := te 0 d0.o ((b0) : Int) r1 t1; replace r1 := ya r1; replace t1 := ya t1; obtain ⟨T0, hz30_⟩ := te 0 d0.o ((b0) : Int) oD_ oD_; have HP30 := tm d0.o ((b0) : Int) u0) | ((refine cn (t := 3) (p := 78) rfl ?_); (try (rw [da v0]; generalize hq_ : World.drewN v0 _ = v0; obtain ⟨d0, HB⟩ := b_ (uA hq_ d0.o) <| c_ (fF hq_ HB.o); (try (obtain ⟨T0, hz30_⟩ := te 0 d0.o ((b0) : Int) oD_ oD_)); (try (have HP30 := tm d0.o ((b0) : Int) u0)))); refine ce (t := 3) (p := 78) (v := ?vo_w31) (w1 := (v0.setCell ⟨go24, ((b0) : Int).toNat, none⟩ (.int .i64 u0))) ?hg ?ho ?hn ?hr ?_; (case ho => rfl); (case hg => rfl); (case hn => rfl); (case hr => first | (go_simp; done) | (go_simp; rfl)); intro z1 hw; have hg : v0.grownBy z1 (some go24) := (by rw [hw]; exact HP30.2); have hp_ : Kd.R (Kd.int .i64) 3 z1 w.heap.size (fun _ => True) (.slice (some ⟨go24, 0, none⟩) q0.length O0) E1 := (by rw [hw, f1.o]; exact HP30.1); clear HP30; have n0_ := c_ (hp_); have n1_ := c_ ((by rw [hw]; exact cq (HB.o) R0.o : Below w.heap.size w z1)); replace d0 := n0_; replace HB := n1_; clear n0_ n1_; clear hg hw hp_))
  repeat (go_quiet (first | (go_at_call 83; (with_reducible refine (bw.calls k2 r0 Y0 _ J1.o).mono ?_); rintro e w' ⟨rfl, ⟨nd, rfl⟩⟩; (try first | exact ⟨rfl, _, World.drewN_drewN _ _ _⟩ | exact ⟨rfl, _, Eq.trans (World.drewN_drewN _ _ _) (congrArg (World.drewN _) (Nat.add_assoc _ _ _))⟩)) | (go_at_call 82; (with_reducible refine (bB.calls k2 17 (wrap64 ((wrap64 (2 * Y0)) + 1)) Z0 _ K1.o).mono ?_); rintro e w' ⟨rfl, ⟨nd, rfl⟩⟩; (try first | exact ⟨rfl, _, World.drewN_drewN _ _ _⟩ | exact ⟨rfl, _, Eq.trans (World.drewN_drewN _ _ _) (congrArg (World.drewN _) (Nat.add_assoc _ _ _))⟩); have x0 : 0 ≤ ((a0) : Int) := oD_; have y0 : (a0) < (l0.length : Int) := oD_; obtain ⟨K0, g1, e0⟩ := tb b1.o (a0) x0 y0; cases g1; replace e0 := hc_ e0; replace x0 := ya x0; replace y0 := ya y0; have B0 : 0 ≤ ((b0) : Int) := oD_; have C0 : (b0) < (l0.length : Int) := oD_; obtain ⟨L0, i1, f0⟩ := tb b1.o (b0) B0 C0; obtain rfl : K0 = L0 := (by injection i1); replace f0 := hc_ f0; replace B0 := ya B0; replace C0 := ya C0; have D0 : 0 ≤ ((a0) : Int) := oD_; have E0 : (a0) < (l1.length : Int) := oD_; obtain ⟨M0, j1, k0⟩ := tb B1.o (a0) D0 E0; cases j1; replace k0 := hc_ k0; replace D0 := ya D0; replace E0 := ya E0; have F0 : 0 ≤ ((b0) : Int) := oD_; have G0 : (b0) < (l1.length : Int) := oD_; obtain ⟨N0, m1, n0⟩ := tb B1.o (b0) F0 G0; obtain rfl : M0 = N0 := (by injection m1); replace n0 := hc_ n0; replace F0 := ya F0; replace G0 := ya G0) | (go_at_call 84; (with_reducible refine (bW.calls (wrap64 ((wrap64 ((rd l0 (a0)) * (rd l1 (a0)))) + (wrap64 ((Int.tmod (wrap64 ((rd l0 (b0)) * (rd l1 (b0)))) 3329) * Z0)))) t0 _ R1.o).mono ?_); rintro e w' ⟨rfl, ⟨nd, rfl⟩⟩; (try first | exact ⟨rfl, _, World.drewN_drewN _ _ _⟩ | exact ⟨rfl, _, Eq.trans (World.drewN_drewN _ _ _) (congrArg (World.drewN _) (Nat.add_assoc _ _ _))⟩); have n1 : 0 ≤ ((a0) : Int) := oD_; have p1 : ((a0) : Int) < ((q0.length : Int) : Int) := oD_; obtain ⟨go24, O0, P0, Q0, gl24, cl24, HG24⟩ := tt d0.o (by omega); (first | cases P0 | (injection P0 with ea_ en_ ec_; (first | subst ea_ | (injection ea_ with ea_; subst ea_)); subst ec_; clear en_)); have R0 := c_ Q0; have GG24 := c_ HG24; clear Q0 gl24 HG24; obtain ⟨q1, hf24_0⟩ := te 0 d0.o ((a0) : Int) n1 p1; replace n1 := ya n1; replace p1 := ya p1; obtain ⟨S0, hz28_⟩ := te 0 d0.o ((a0) : Int) oD_ oD_; have HP28 := tm d0.o ((a0) : Int) t0) | ((refine cn (t := 3) (p := 65) rfl ?_); (try (rw [da wr]; generalize hq_ : World.drewN wr _ = wr; obtain ⟨d0, HB⟩ := b_ (uA hq_ d0.o) <| c_ (fF hq_ HB.o); (try (obtain ⟨S0, hz28_⟩ := te 0 d0.o ((a0) : Int) oD_ oD_)); (try (have HP28 := tm d0.o ((a0) : Int) t0)))); refine ce (t := 3) (p := 65) (v := ?vo_w29) (w1 := (wr.setCell ⟨go24, ((a0) : Int).toNat, none⟩ (.int .i64 t0))) ?hg ?ho ?hn ?hr ?_; (case ho => rfl); (case hg => rfl); (case hn => rfl); (case hr => first | (go_simp; done) | (go_simp; rfl)); intro v0 hw; have hg : wr.grownBy v0 (some go24) := (by rw [hw]; exact HP28.2); have hp_ : Kd.R (Kd.int .i64) 3 v0 w.heap.size (fun _ => True) (.slice (some ⟨go24, 0, none⟩) q0.length O0) D1 := (by rw [hw, e1.o]; exact HP28.1); clear HP28; have n0_ := c_ (hp_); have n1_ := c_ ((by rw [hw]; exact cq (HB.o) R0.o : Below w.heap.size w v0)); replace d0 := n0_; replace HB := n1_; clear n0_ n1_; clear hg hw hp_) | (go_at_call 84; (with_reducible refine (bW.calls (wrap64 ((wrap64 ((rd l0 (a0)) * (rd l1 (b0)))) + (wrap64 ((rd l0 (b0)) * (rd l1 (a0)))))) u0 _ S1.o).mono ?_); rintro e w' ⟨rfl, ⟨nd, rfl⟩⟩; (try first | exact ⟨rfl, _, World.drewN_drewN _ _ _⟩ | exact ⟨rfl, _, Eq.trans (World.drewN_drewN _ _ _) (congrArg (World.drewN _) (Nat.add_assoc _ _ _))⟩); have r1 : 0 ≤ ((b0) : Int) := oD_; have t1 : ((b0) : Int) < ((q0.length : Int) : Int) := oD_; obtain ⟨y1, hf27_0⟩ := te 0 d0.o ((b0) : Int) r1 t1; replace r1 := ya r1; replace t1 := ya t1; obtain ⟨T0, hz30_⟩ := te 0 d0.o ((b0) : Int) oD_ oD_; have HP30 := tm d0.o ((b0) : Int) u0) | ((refine cn (t := 3) (p := 78) rfl ?_); (try (rw [da v0]; generalize hq_ : World.drewN v0 _ = v0; obtain ⟨d0, HB⟩ := b_ (uA hq_ d0.o) <| c_ (fF hq_ HB.o); (try (obtain ⟨T0, hz30_⟩ := te 0 d0.o ((b0) : Int) oD_ oD_)); (try (have HP30 := tm d0.o ((b0) : Int) u0)))); refine ce (t := 3) (p := 78) (v := ?vo_w31) (w1 := (v0.setCell ⟨go24, ((b0) : Int).toNat, none⟩ (.int .i64 u0))) ?hg ?ho ?hn ?hr ?_; (case ho => rfl); (case hg => rfl); (case hn => rfl); (case hr => first | (go_simp; done) | (go_simp; rfl)); intro z1 hw; have hg : v0.grownBy z1 (some go24) := (by rw [hw]; exact HP30.2); have hp_ : Kd.R (Kd.int .i64) 3 z1 w.heap.size (fun _ => True) (.slice (some ⟨go24, 0, none⟩) q0.length O0) E1 := (by rw [hw, f1.o]; exact HP30.1); clear HP30; have n0_ := c_ (hp_); have n1_ := c_ ((by rw [hw]; exact cq (HB.o) R0.o : Below w.heap.size w z1)); replace d0 := n0_; replace HB := n1_; clear n0_ n1_; clear hg hw hp_)); try go_wp2_with (first | (go_at_call 83; (with_reducible refine (bw.calls k2 r0 Y0 _ J1.o).mono ?_); rintro e w' ⟨rfl, ⟨nd, rfl⟩⟩; (try first | exact ⟨rfl, _, World.drewN_drewN _ _ _⟩ | exact ⟨rfl, _, Eq.trans (World.drewN_drewN _ _ _) (congrArg (World.drewN _) (Nat.add_assoc _ _ _))⟩)) | (go_at_call 82; (with_reducible refine (bB.calls k2 17 (wrap64 ((wrap64 (2 * Y0)) + 1)) Z0 _ K1.o).mono ?_); rintro e w' ⟨rfl, ⟨nd, rfl⟩⟩; (try first | exact ⟨rfl, _, World.drewN_drewN _ _ _⟩ | exact ⟨rfl, _, Eq.trans (World.drewN_drewN _ _ _) (congrArg (World.drewN _) (Nat.add_assoc _ _ _))⟩); have x0 : 0 ≤ ((a0) : Int) := oD_; have y0 : (a0) < (l0.length : Int) := oD_; obtain ⟨K0, g1, e0⟩ := tb b1.o (a0) x0 y0; cases g1; replace e0 := hc_ e0; replace x0 := ya x0; replace y0 := ya y0; have B0 : 0 ≤ ((b0) : Int) := oD_; have C0 : (b0) < (l0.length : Int) := oD_; obtain ⟨L0, i1, f0⟩ := tb b1.o (b0) B0 C0; obtain rfl : K0 = L0 := (by injection i1); replace f0 := hc_ f0; replace B0 := ya B0; replace C0 := ya C0; have D0 : 0 ≤ ((a0) : Int) := oD_; have E0 : (a0) < (l1.length : Int) := oD_; obtain ⟨M0, j1, k0⟩ := tb B1.o (a0) D0 E0; cases j1; replace k0 := hc_ k0; replace D0 := ya D0; replace E0 := ya E0; have F0 : 0 ≤ ((b0) : Int) := oD_; have G0 : (b0) < (l1.length : Int) := oD_; obtain ⟨N0, m1, n0⟩ := tb B1.o (b0) F0 G0; obtain rfl : M0 = N0 := (by injection m1); replace n0 := hc_ n0; replace F0 := ya F0; replace G0 := ya G0) | (go_at_call 84; (with_reducible refine (bW.calls (wrap64 ((wrap64 ((rd l0 (a0)) * (rd l1 (a0)))) + (wrap64 ((Int.tmod (wrap64 ((rd l0 (b0)) * (rd l1 (b0)))) 3329) * Z0)))) t0 _ R1.o).mono ?_); rintro e w' ⟨rfl, ⟨nd, rfl⟩⟩; (try first | exact ⟨rfl, _, World.drewN_drewN _ _ _⟩ | exact ⟨rfl, _, Eq.trans (World.drewN_drewN _ _ _) (congrArg (World.drewN _) (Nat.add_assoc _ _ _))⟩); have n1 : 0 ≤ ((a0) : Int) := oD_; have p1 : ((a0) : Int) < ((q0.length : Int) : Int) := oD_; obtain ⟨go24, O0, P0, Q0, gl24, cl24, HG24⟩ := tt d0.o (by omega); (first | cases P0 | (injection P0 with ea_ en_ ec_; (first | subst ea_ | (injection ea_ with ea_; subst ea_)); subst ec_; clear en_)); have R0 := c_ Q0; have GG24 := c_ HG24; clear Q0 gl24 HG24; obtain ⟨q1, hf24_0⟩ := te 0 d0.o ((a0) : Int) n1 p1; replace n1 := ya n1; replace p1 := ya p1; obtain ⟨S0, hz28_⟩ := te 0 d0.o ((a0) : Int) oD_ oD_; have HP28 := tm d0.o ((a0) : Int) t0) | ((refine cn (t := 3) (p := 65) rfl ?_); (try (rw [da wr]; generalize hq_ : World.drewN wr _ = wr; obtain ⟨d0, HB⟩ := b_ (uA hq_ d0.o) <| c_ (fF hq_ HB.o); (try (obtain ⟨S0, hz28_⟩ := te 0 d0.o ((a0) : Int) oD_ oD_)); (try (have HP28 := tm d0.o ((a0) : Int) t0)))); refine ce (t := 3) (p := 65) (v := ?vo_w29) (w1 := (wr.setCell ⟨go24, ((a0) : Int).toNat, none⟩ (.int .i64 t0))) ?hg ?ho ?hn ?hr ?_; (case ho => rfl); (case hg => rfl); (case hn => rfl); (case hr => first | (go_simp; done) | (go_simp; rfl)); intro v0 hw; have hg : wr.grownBy v0 (some go24) := (by rw [hw]; exact HP28.2); have hp_ : Kd.R (Kd.int .i64) 3 v0 w.heap.size (fun _ => True) (.slice (some ⟨go24, 0, none⟩) q0.length O0) D1 := (by rw [hw, e1.o]; exact HP28.1); clear HP28; have n0_ := c_ (hp_); have n1_ := c_ ((by rw [hw]; exact cq (HB.o) R0.o : Below w.heap.size w v0)); replace d0 := n0_; replace HB := n1_; clear n0_ n1_; clear hg hw hp_) | (go_at_call 84; (with_reducible refine (bW.calls (wrap64 ((wrap64 ((rd l0 (a0)) * (rd l1 (b0)))) + (wrap64 ((rd l0 (b0)) * (rd l1 (a0)))))) u0 _ S1.o).mono ?_); rintro e w' ⟨rfl, ⟨nd, rfl⟩⟩; (try first | exact ⟨rfl, _, World.drewN_drewN _ _ _⟩ | exact ⟨rfl, _, Eq.trans (World.drewN_drewN _ _ _) (congrArg (World.drewN _) (Nat.add_assoc _ _ _))⟩); have r1 : 0 ≤ ((b0) : Int) := oD_; have t1 : ((b0) : Int) < ((q0.length : Int) : Int) := oD_; obtain ⟨y1, hf27_0⟩ := te 0 d0.o ((b0) : Int) r1 t1; replace r1 := ya r1; replace t1 := ya t1; obtain ⟨T0, hz30_⟩ := te 0 d0.o ((b0) : Int) oD_ oD_; have HP30 := tm d0.o ((b0) : Int) u0) | ((refine cn (t := 3) (p := 78) rfl ?_); (try (rw [da v0]; generalize hq_ : World.drewN v0 _ = v0; obtain ⟨d0, HB⟩ := b_ (uA hq_ d0.o) <| c_ (fF hq_ HB.o); (try (obtain ⟨T0, hz30_⟩ := te 0 d0.o ((b0) : Int) oD_ oD_)); (try (have HP30 := tm d0.o ((b0) : Int) u0)))); refine ce (t := 3) (p := 78) (v := ?vo_w31) (w1 := (v0.setCell ⟨go24, ((b0) : Int).toNat, none⟩ (.int .i64 u0))) ?hg ?ho ?hn ?hr ?_; (case ho => rfl); (case hg => rfl); (case hn => rfl); (case hr => first | (go_simp; done) | (go_simp; rfl)); intro z1 hw; have hg : v0.grownBy z1 (some go24) := (by rw [hw]; exact HP30.2); have hp_ : Kd.R (Kd.int .i64) 3 z1 w.heap.size (fun _ => True) (.slice (some ⟨go24, 0, none⟩) q0.length O0) E1 := (by rw [hw, f1.o]; exact HP30.1); clear HP30; have n0_ := c_ (hp_); have n1_ := c_ ((by rw [hw]; exact cq (HB.o) R0.o : Below w.heap.size w z1)); replace d0 := n0_; replace HB := n1_; clear n0_ n1_; clear hg hw hp_)))
  go_roundg k2
  case measure => have := U1.o; have := X1.o; omega
  case rel => exact ⟨(E1), (wrap64 (r0 + 1)), f0_, H', ⟨by have := U1.o; have := X1.o; omega⟩, ⟨rR_ d0.o⟩, ⟨hB_⟩⟩
def bI.l0 : Nat → List (List Int) → List (List Int) → List Int → Int → Int → Option (List Int)
 | 0, _, _, _, _, _ => none
 | k + 1, x0, x1, x5, x9, x10 => if x10 < x9 then (if 0 ≤ x10 then (if x10 < (x0.length : Int) then (if x10 < (x1.length : Int) then ((bg.f k (dw x0 x10) (dw x1 x10)).bind fun t732 => ((bK.f k x5 t732).bind fun t735 => (bI.l0 k x0 x1 t735 x9 (wrap64 (x10 + 1))))) else (none)) else (none)) else (none)) else (some x5)
def bI.f (k : Nat) (l0 : List (List Int)) (l1 : List (List Int)) : Option (List Int) := if 256 ≤ 35184372088832 then (bI.l0 k l0 l1 (List.replicate 256 0) (l0.length : Int) 0) else (none)
theorem bI.mono_l : ∀ k, (∀ y0 y1 y2 y3 y4, LeO (bI.l0 k y0 y1 y2 y3 y4) (bI.l0 (k + 1) y0 y1 y2 y3 y4))
 | 0 => fun _ _ _ _ _ r h => by simp [bI.l0] at h
 | k + 1 => by
  have ih0 := bI.mono_l k
  intros; unfold bI.l0; exact o3_ ih0 bg.mono bK.mono
theorem bI.mono : ∀ a0 a1 k, LeO (bI.f k a0 a1) (bI.f (k + 1) a0 a1) := by
 intro a0 a1 k
 have ih0 := bI.mono_l k
 unfold bI.f
 exact o3_ ih0 bg.mono bK.mono
def bI.T5 : Bool × List (List Nat × List Nat) := (true, [([], []), ([], []), ([], []), ([1, 2], [1, 2]), ([3], [3]), ([], []), ([], []), ([5, 6], [5, 6]), ([7], [7]), ([4, 8], [4, 8]), ([0, 9, 9], [0, 9]), ([10, 10, 0, 1, 2, 3, 4, 5, 6, 7, 8, 9, 10], [0, 10])])
def bI.B5 : List Nat := [0, 0, 0, 6, 14, 0, 0, 96, 224, 510, 1023, 2047]
theorem bI.tab5 : d8 .any (fb Tryz.f51 5) = bI.T5 := by kernel_rfl
theorem bI.bits5 : db bI.T5.2 bI.B5 = true := by kernel_rfl
theorem bI.calls (k : Nat) (A0 : Option Addr) (c0 : Nat) (l0 : List (List Int)) (A1 : Option Addr) (c1 : Nat) (l1 : List (List Int)) (r : List Int) (w : World) (hr0 : Kd.C (Kd.slice 3 (Kd.int .i64)) w A0 l0.length l0) (hc0 : l0.length ≤ c0) (hr1 : Kd.C (Kd.slice 3 (Kd.int .i64)) w A1 l1.length l1) (hc1 : l1.length ≤ c1) (h : bI.f k l0 l1 = some r) :
  Calls Tryz.prog 51 #[.slice A0 l0.length c0, .slice A1 l1.length c1] w fun e w' => ∃ f1 : Value, e = .returned (f1) ∧ Kd.R (Kd.int .i64) 3 w' w.heap.size (fun _ => True) f1 r ∧ Below w.heap.size w w' := by
 have i1 := c_ hr0
 have E1 := c_ hc0
 clear hr0 hc0
 have j1 := c_ hr1
 have F1 := c_ hc1
 clear hr1 hc1
 have HB := c_ (Ba w.heap.size w)
 delta bI.f at h
 have H := h
 clear h
 obtain ⟨c3, H⟩ := iN_ H
 have m1 := ya c3
 have n1 := wa c3
 clear c3
 obtain ⟨V0, n0⟩ : ∃ y_ : List Int, y_ = (List.replicate 256 0) := ⟨_, rfl⟩
 first | replace H := yb_ n0 H | rw [← n0] at H
 have G0 := c_ n0
 clear n0
 have H' := c_ H
 clear H
 go_enter Tryz.func51, Tryz.ntmps51
 go_wp2_with (first | ((refine aI (N := 7) rfl ?_); refine tw (Kd.int .i64) _ 3 rfl (N := 7) rfl 28 _ _ rfl 256 rfl rfl Tryz.underlying28 (.int .i64 0) 8 cY rfl (by decide) (by omega) 0 (ok := fun _ => True) (okp := fun _ => True) rfl (fun _ hk => hk) trivial (by omega) (by omega) (Ba _ _) (Aa _) ?_; intro p1 w4 N0 hb hg_ hnew_; clear hg_ hnew_; (first | rw [← G0.o] at N0 | (simp only [Int.reduceToNat] at N0; rw [← G0.o] at N0)); obtain ⟨O0, HB⟩ := b_ (sZ N0 (ac (hB_))) <| c_ (ab (hB_) hb); clear hb N0))
 go_loopg [5, 10] k (fun kq v5 q1 w' => ∃ (x0 : List Int) (a0 : Int), q1 = .int .i64 a0 ∧ aa (bI.l0 kq l0 l1 x0 (l0.length : Int) a0 = some r) ∧ aa (kq ≤ k) ∧ aa (Kd.R (Kd.int .i64) 3 w' w.heap.size (fun _ => True) v5 x0) ∧ aa (Below w.heap.size w w'))
 case atStart => exact ⟨(V0), (0), f0_, H', ⟨Aa _⟩, ⟨rR_ O0.o⟩, ⟨hB_⟩⟩
 clear H'
 obtain ⟨x0, a0, rfl, HA, g1, b0, HB⟩ := hrel
 rcases gk with _ | k1
 ·exact absurd HA.o (by simp [bI.l0])
 have H := HA.o
 clear HA
 simp only [bI.l0] at H
 by_cases c6 : a0 < (l0.length : Int)
 rotate_left
 ·rw [Ea c6] at H
  have W0 := xa c6
  clear c6
  obtain rfl := za H
  go_wp2
  go_ret
  exact ⟨_, f1_, rR_ b0.o, hB_⟩
 rw [Da c6] at H
 have W0 := wa c6
 clear c6
 obtain ⟨r1, H⟩ := iD_ H
 obtain ⟨t1, H⟩ := iD_ H
 obtain ⟨y1, H⟩ := iD_ H
 obtain ⟨H0, z1, H⟩ := bN_ H
 obtain ⟨P0, B1, H⟩ := bN_ H
 have H' := c_ H
 clear H
 try go_wp2
 obtain ⟨b0, HB⟩ := b_ (tl b0.o) <| c_ (b8 HB.o)
 have I0 : 0 ≤ (a0 : Int) := oD_
 have J0 : a0 < (l0.length : Int) := oD_
 obtain ⟨Q0, y0, B0, X0, d0, p0, q0⟩ := lC i1.o a0 I0 J0
 have j0 := d0
 cases X0
 replace d0 := hc_ d0
 have r0 := c_ q0
 have E0 := c_ p0
 clear q0 p0
 replace I0 := ya I0
 replace J0 := ya J0
 have K0 : 0 ≤ (a0 : Int) := oD_
 have L0 : a0 < (l1.length : Int) := oD_
 obtain ⟨R0, C0, D0, Y0, e0, t0, u0⟩ := lC j1.o a0 K0 L0
 have k0 := e0
 cases Y0
 replace e0 := hc_ e0
 have v0 := c_ u0
 have F0 := c_ t0
 clear u0 t0
 replace K0 := ya K0
 replace L0 := ya L0
 refine d9 (n := 12) (S := fun w' => w'.cell? (Q0.add (a0).toNat) = some (.slice y0 (dw l0 a0).length B0) ∧ w'.cell? (R0.add (a0).toNat) = some (.slice C0 (dw l1 a0).length D0)) (ds := []) (bb_ 12 0) (by kernel_rfl) rfl rfl ⟨(hc_ j0), (hc_ k0)⟩ (fun hHeld => ?_); refine cN bI.tab5 bI.bits5 (fun HT_ HW_ => ?_)
 generalize wr.drew = G1 at b0 HB r0 v0 d0 e0 hHeld ⊢
 refine pT_ 0 13 12 1 ?_
 refine pT_ 1 14 12 3 ?_
 refine pT_ 2 15 12 7 ?_
 refine pT_ 3 16 12 15 ?_
 refine pT_ 5 18 12 47 ?_
 refine pT_ 6 19 12 111 ?_
 refine pT_ 7 20 12 239 ?_
 refine tS_ 4 17 (bb_ 12 255) (bx HT_.o HW_.o (by kernel_rfl)) hHeld ?_
 refine tS_ 8 21 (bb_ 12 511) (bx HT_.o HW_.o (by kernel_rfl)) hHeld ?_
 refine fC (i := 9) (N := some 22) (bb_ 12 1023) rfl rfl (cD HT_.o (by kernel_rfl)) (by decide) (fun K hK => ?_)
 refine fv Tryz.func88 (by kernel_rfl) rfl #[.slice y0 (dw l0 a0).length B0, .slice C0 (dw l1 a0).length D0] (by rfl) rfl rfl aM_ ?_
 with_reducible refine (bg.calls k1 _ _ (dw l0 a0) _ _ (dw l1 a0) H0 _ ?side1 ?side2 ?side3 ?side4 z1.o).mono ?_
 (case side1 => exact cR_ (tg r0.o HB.o))
 (case side2 => exact E0.o)
 (case side3 => exact cR_ (tg v0.o HB.o))
 (case side4 => exact F0.o)
 rintro e H1 ⟨C1, rfl, M0, hb⟩
 refine ⟨_, rfl, ?_⟩
 obtain ⟨b0, f0, HB⟩ := b_ (s5 (rR_ b0.o) (sY M0) hb) <| b_ (sZ (ta M0 (ti (rR_ b0.o))) (ac (hB_))) <| c_ (ab (hB_) hb)
 obtain ⟨Z0, b1, S0⟩ := s7 b0.o
 (first | subst S0 | (injection S0 with f1_ f2_ f3_; have f4_ := f1_.symm; have f5_ := f3_.symm; clear f1_ f2_ f3_; subst f4_; subst f5_))
 obtain ⟨d1, e1, T0⟩ := s7 f0.o
 (first | subst T0 | (injection T0 with f1_ f2_ f3_; have f4_ := f1_.symm; have f5_ := f3_.symm; clear f1_ f2_ f3_; subst f4_; subst f5_))
 refine hK _ _ ⟨(hc_ j0), (hc_ k0)⟩ (fun hHeld => ?_)
 clear hK K
 refine dL (a' := ?_) ?_ ?_
 rotate_left
 ·show Act.put _ (some 22) _ = _
  simp only [Act.put, List.setIfInBounds_toArray, List.set_cons_zero, List.set_cons_succ, bv, cG]
  rfl
 refine fC (i := 10) (N := some 23) (bb_ 12 2047) rfl rfl (cD HT_.o (by kernel_rfl)) (by decide) (fun K hK => ?_)
 refine fv Tryz.func56 (by kernel_rfl) rfl #[.slice Z0 x0.length b1, .slice d1 H0.length e1] (by rfl) rfl rfl aM_ ?_
 with_reducible refine (bK.calls k1 _ _ x0 _ _ H0 P0 _ ?side1 ?side2 ?side3 ?side4 B1.o).mono ?_
 (case side1 => exact cR_ (sX b0.o).2.2)
 (case side2 => exact (sX b0.o).2.1)
 (case side3 => exact cR_ (sX f0.o).2.2)
 (case side4 => exact (sX f0.o).2.1)
 rintro e I1 ⟨D1, rfl, M0, hb⟩
 refine ⟨_, rfl, ?_⟩
 obtain ⟨b0, f0, U0, HB⟩ := b_ (s5 (rR_ b0.o) (sY M0) hb) <| b_ (s5 (rR_ f0.o) (sY M0) hb) <| b_ (sZ (ta (ta M0 (ti (rR_ b0.o))) (ti (rR_ f0.o))) (ac (hB_))) <| c_ (ab (hB_) hb)
 refine hK _ _ ⟨(hc_ j0), (hc_ k0)⟩ (fun hHeld => ?_)
 clear hK K
 refine dL (a' := ?_) ?_ ?_
 rotate_left
 ·show Act.put _ (some 23) _ = _
  simp only [Act.put, List.setIfInBounds_toArray, List.set_cons_zero, List.set_cons_succ, bv, cG]
  rfl
 refine pT_ 11 5 12 4095 ?_
 refine fc (du HT_.o (by kernel_rfl)) ?_
 try go_wp2
 go_roundg k1
 case measure => have := g1.o; omega
 case rel => exact ⟨(P0), (wrap64 (a0 + 1)), f0_, H', ⟨by have := g1.o; omega⟩, ⟨by refine kR_ ?_; exact s9 U0.o (fun _ hk => trivial)⟩, ⟨hB_⟩⟩
mutual
def bb.j0 : Nat → ByteArray → ByteArray → Bool → Option (List Int × Bool)
 | 0, _, _, _ => none
 | k + 1, x0, x1, x21 => if x21 = true then (some (([] : List Int), false)) else ((bk.f k x0).bind fun bt738 => (if bt738.2 = true then (bb.l0 k x1 bt738.1 ([] : List (List Int)) 0) else (some (([] : List Int), false))))
def bb.l0 : Nat → ByteArray → List (List Int) → List (List Int) → Int → Option (List Int × Bool)
 | 0, _, _, _, _ => none
 | k + 1, x1, x6, x8, x29 => if x29 < 2 then (if 0 ≤ (wrap64 (x29 * 320)) then (if (wrap64 (x29 * 320)) ≤ (wrap64 ((wrap64 (x29 + 1)) * 320)) then (if (wrap64 ((wrap64 (x29 + 1)) * 320)) ≤ (x1.size : Int) then ((av.f k (x1.extract ((wrap64 (x29 * 320)) : Int).toNat ((wrap64 ((wrap64 (x29 + 1)) * 320)) : Int).toNat) 10 256).bind fun bt742 => ((bj.f k bt742.1 10).bind fun t746 => ((aM.f k t746).bind fun t749 => (if x8.length < 5864062014805 then (bb.l0 k x1 x6 (x8 ++ [t749]) (wrap64 (x29 + 1))) else (none))))) else (none)) else (none)) else (none)) else (if 640 ≤ (x1.size : Int) then ((av.f k (x1.extract 640 x1.size) 4 256).bind fun bt755 => ((bj.f k bt755.1 4).bind fun t759 => ((bI.f k x6 x8).bind fun t762 => ((ai.f k t762).bind fun t765 => ((cp.f k t759 t765).bind fun t768 => (some (t768, true))))))) else (none))
end
def bb.f (k : Nat) (a0 : ByteArray) (a1 : ByteArray) : Option (List Int × Bool) := if (a0.size : Int) = 1632 then (bb.j0 k a0 a1 ((a1.size : Int) != 768)) else (bb.j0 k a0 a1 true)
theorem bb.mono_l : ∀ k, (∀ y0 y1 y2, LeO (bb.j0 k y0 y1 y2) (bb.j0 (k + 1) y0 y1 y2)) ∧ (∀ y0 y1 y2 y3, LeO (bb.l0 k y0 y1 y2 y3) (bb.l0 (k + 1) y0 y1 y2 y3))
 | 0 => ⟨fun _ _ _ r h => by simp [bb.j0] at h, fun _ _ _ _ r h => by simp [bb.l0] at h⟩
 | k + 1 => by
  obtain ⟨ih0, ih1⟩ := bb.mono_l k
  refine ⟨?_, ?_⟩ <;> (intros; (first | unfold bb.j0 | unfold bb.l0); exact o9_ ih0 ih1 ai.mono aM.mono cp.mono av.mono bI.mono bk.mono bj.mono)
theorem bb.mono : ∀ a0 a1 k, LeO (bb.f k a0 a1) (bb.f (k + 1) a0 a1) := by
 intro a0 a1 k
 obtain ⟨ih0, ih1⟩ := bb.mono_l k
 unfold bb.f
 exact o9_ ih0 ih1 ai.mono aM.mono cp.mono av.mono bI.mono bk.mono bj.mono
theorem bb.calls (k : Nat) (a0 : ByteArray) (a1 : ByteArray) (r1 : List Int) (r2 : Bool) (w : World) (h : bb.f k a0 a1 = some (r1, r2)) :
  Calls Tryz.prog 18 #[.string a0, .string a1] w fun e w' => ∃ P1 : Value, e = .returned (.tuple #[P1, .bool r2]) ∧ Kd.R (Kd.int .i64) 3 w' w.heap.size (fun _ => True) P1 r1 ∧ Below w.heap.size w w' := by
 have HB := c_ (Ba w.heap.size w)
 delta bb.f at h
 have H := h
 clear h
 have Z0 := c_ H
 clear H
 go_enter Tryz.func18, Tryz.ntmps18
 go_upto_region 1 with (fail)
 go_cut [21] (fun f2 wc => ∃ (kq : Nat) (y0 : Bool), f2 = .bool y0 ∧ aa (bb.j0 kq a0 a1 y0 = some (r1, r2)) ∧ aa (kq ≤ k) ∧ aa (Below w.heap.size w wc))
 case first =>
  have H := Z0.o
  clear Z0
  by_cases c4 : (a0.size : Int) = 1632
  ·rw [Da c4] at H
   have G0 : ((a0.size : Int) == 1632) = true := beq_iff_eq.mpr c4
   have b1 : ((a0.size : Int) != 1632) = false := bne_eq_false_iff_eq.mpr c4
   clear c4
   (first | rw [G0] | (simp only [bv, cG]; rw [G0]) | skip)
   have H' := c_ H
   clear H
   go_wp2
   go_meet
   case rel => exact ⟨_, (((a1.size : Int) != 768)), f0_, H', ⟨by first | omega | exact Aa _⟩, ⟨hB_⟩⟩
  rw [Ea c4] at H
  have G0 : ((a0.size : Int) == 1632) = false := beq_eq_false_iff_ne.mpr c4
  have b1 : ((a0.size : Int) != 1632) = true := bne_iff_ne.mpr c4
  (first | rw [G0] | (simp only [bv, cG]; rw [G0]) | skip)
  have H' := c_ H
  clear H
  go_wp2
  go_meet
  case rel => exact ⟨_, (true), f0_, H', ⟨by first | omega | exact Aa _⟩, ⟨hB_⟩⟩
 clear Z0
 obtain ⟨kq, y0, rfl, HA, Q1, HB⟩ := hcut
 rcases kq with _ | Y0
 ·exact absurd HA.o (by simp [bb.j0])
 have H := HA.o
 clear HA
 simp only [bb.j0] at H
 by_cases c5 : y0 = true
 ·subst c5
  replace H := iT_ H
  simp only [Option.some.injEq, Prod.mk.injEq] at H
  obtain ⟨rfl, rfl⟩ := H
  go_wp2
  go_ret2
  exact ⟨_, f1_, by first | exact tH _ _ _ _ _ | exact Kd.N_nil _ _ _ _ _ | exact Kd.V_nil _ _ _ _ _ | exact Kd.Q_nil _ _ _ _ _ | exact tJ _ _ _ _ _, hB_⟩
 ·replace c5 := Ca c5
  subst c5
  replace H := iF_ H
  obtain ⟨⟨D0, c1⟩, A6, H⟩ := bN_ H
  by_cases c7 : c1 = true
  ·subst c7
   replace H := iT_ H
   have H' := c_ H
   clear H
   go_wp2_with (first | (refine gq_ 45 (some 24) Tryz.func45 #[.string a0] (bk.calls Y0 a0 D0 true _ A6.o) ?_; rintro e w8 ⟨E0, rfl, b0, hb⟩; refine ⟨_, rfl, ?_⟩; obtain ⟨M0, HB⟩ := b_ (tz b0 (ac (hB_))) <| c_ (ab (hB_) hb); (try clear b0)))
   go_loopg [8, 29] Y0 (fun kq v8 g2 w' => ∃ (u0 : List (List Int)) (p0 : Int), g2 = .int .i64 p0 ∧ aa (bb.l0 kq a1 D0 u0 p0 = some (r1, r2)) ∧ aa (kq ≤ Y0) ∧ aa (Kd.S (Kd.slice 3 (Kd.int .i64)) 28 w' w.heap.size (fun k_ => some k_ ≠ (v8 : Value).ownBlock) E0 D0) ∧ aa (Kd.S (Kd.slice 3 (Kd.int .i64)) 28 w' w.heap.size (fun k_ => some k_ ≠ (E0 : Value).ownBlock) v8 u0) ∧ aa (Below w.heap.size w w'))
   case atStart => exact ⟨(([] : List (List Int))), (0), f0_, H', ⟨Aa _⟩, ⟨by refine kS_ ?_; exact tq M0.o (fun _ hk => (by simp [Value.ownBlock]))⟩, ⟨by first | exact tJ _ _ _ _ _ | exact Kd.N_nil _ _ _ _ _ | exact Kd.V_nil _ _ _ _ _ | exact Kd.Q_nil _ _ _ _ _ | exact tH _ _ _ _ _⟩, ⟨hB_⟩⟩
   clear H'
   obtain ⟨u0, p0, rfl, HA, R1, d0, e0, HB⟩ := hrel
   rcases gk with _ | k2
   ·exact absurd HA.o (by simp [bb.l0])
   have H := HA.o
   clear HA
   simp only [bb.l0] at H
   by_cases c9 : p0 < 2
   ·rw [Da c9] at H
    have d1 := wa c9
    clear c9
    obtain ⟨N0, B0⟩ : ∃ j_ : Int, (wrap64 (p0 * 320)) = j_ := ⟨_, rfl⟩
    first | rw [B0] at H | simp only [B0] at H
    have e1 : (IntKind.i64.wrap (p0 * 320)) = N0 := (bv _).trans B0
    obtain ⟨f1, H⟩ := iN_ H
    have S1 := ya f1
    have T1 := wa f1
    clear f1
    obtain ⟨U1, H⟩ := iN_ H
    have V1 := ya U1
    have X1 := wa U1
    obtain ⟨Y1, H⟩ := iN_ H
    have Z1 := ya Y1
    have b2 := wa Y1
    obtain ⟨⟨v0, g1⟩, i2, H⟩ := bN_ H
    obtain ⟨x0, j2, H⟩ := bN_ H
    obtain ⟨F0, l2, H⟩ := bN_ H
    obtain ⟨c2, H⟩ := iN_ H
    have U0 := c_ c2
    clear c2
    obtain ⟨i1, C0⟩ : ∃ y_ : List (List Int), y_ = (u0 ++ [F0]) := ⟨_, rfl⟩
    first | replace H := yb_ C0 H | rw [← C0] at H
    have V0 := c_ C0
    clear C0
    have H' := c_ H
    clear H
    go_wp2_with (first | ((with_reducible refine dM (f := 46) rfl ?_); refine gm (some 40) rfl rfl Tryz.func46 (by kernel_rfl) rfl #[.string (a1.extract ((N0) : Int).toNat ((wrap64 ((wrap64 (p0 + 1)) * 320)) : Int).toNat), .int .i64 10, .int .i64 256] rfl (by (try simp only [List.map_toArray, List.map_cons, List.map_nil]); first | done | (simp only [B0]; rfl) | rfl | (simp only [List.length_drop, List.length_take]; rfl)) ?_; (with_reducible refine (av.calls k2 (a1.extract ((N0) : Int).toNat ((wrap64 ((wrap64 (p0 + 1)) * 320)) : Int).toNat) 10 256 v0 g1 _ i2.o).mono ?_); rintro e F2 ⟨m2, rfl, b0, hb⟩; refine ⟨_, rfl, ?_⟩; obtain ⟨d0, e0, k0, HB⟩ := b_ (s6 (rS_ d0.o) (sY b0) hb) <| b_ (s6 (rS_ e0.o) (sY b0) hb) <| b_ (sZ b0 (ac (hB_))) <| c_ (ab (hB_) hb); obtain ⟨H0, I0, j1⟩ := s7 k0.o; subst j1) | (refine gq_ 48 (some 45) Tryz.func48 #[.slice H0 v0.length I0, .int .i64 10] (bj.calls k2 _ _ v0 10 x0 _ ?side1 ?side2 j2.o) ?_; (case side1 => exact cR_ (sX k0.o).2.2); (case side2 => exact (sX k0.o).2.1); rintro e G2 ⟨n2, rfl, b0, hb⟩; refine ⟨_, rfl, ?_⟩; obtain ⟨d0, e0, k0, q0, HB⟩ := b_ (s6 (rS_ d0.o) (sY b0) hb) <| b_ (s6 (rS_ e0.o) (sY b0) hb) <| b_ (s5 (rR_ k0.o) (sY b0) hb) <| b_ (sZ (ta b0 (ti (rR_ k0.o))) (ac (hB_))) <| c_ (ab (hB_) hb); obtain ⟨J0, K0, l1⟩ := s7 q0.o; subst l1) | (refine gq_ 47 (some 46) Tryz.func47 #[.slice J0 x0.length K0] (aM.calls k2 _ _ x0 F0 _ ?side1 ?side2 l2.o) ?_; (case side1 => exact cR_ (sX q0.o).2.2); (case side2 => exact (sX q0.o).2.1); rintro e H2 ⟨p2, rfl, b0, hb⟩; refine ⟨_, rfl, ?_⟩; obtain ⟨d0, e0, k0, q0, L0, HB⟩ := b_ (s6 (rS_ d0.o) (sY b0) hb) <| b_ (s6 (rS_ e0.o) (sY b0) hb) <| b_ (s5 (rR_ k0.o) (sY b0) hb) <| b_ (s5 (rR_ q0.o) (sY b0) hb) <| b_ (sZ (ta (ta b0 (ti (rR_ k0.o))) (ti (rR_ q0.o))) (ac (hB_))) <| c_ (ab (hB_) hb); obtain ⟨O0, P0, m1⟩ := s7 L0.o; subst m1) | ((refine aU (b := .append) (xs := #[.tmp 43, .tmp 47]) rfl ?_); (try (refine bn (by rfl) ?_; dsimp only)); at_builtin; refine tE (Kd.slice 3 (Kd.int .i64)) (w0 := w) w.heap.size rfl (.tmp 43) (.tmp 47) 46 28 (.slice none 0 0) 24 rfl Tryz.underlying46 gg rfl (by decide) (by omega) u8 u0 F0 [.slice O0 F0.length P0] (fun k_ => some k_ ≠ (E0 : Value).ownBlock ∧ some k_ ≠ (.slice H0 v0.length I0 : Value).ownBlock ∧ some k_ ≠ (.slice J0 x0.length K0 : Value).ownBlock) (fun k_ => some k_ = (.slice O0 F0.length P0 : Value).ownBlock) rfl rfl ?aP (fun k_ hk_ => ((s9 (ok' := fun k_ => ((fun k_ => some k_ ≠ (E0 : Value).ownBlock ∧ some k_ ≠ (.slice H0 v0.length I0 : Value).ownBlock ∧ some k_ ≠ (.slice J0 x0.length K0 : Value).ownBlock)) k_ ∧ some k_ ≠ (u8 : Value).ownBlock) (th (th (L0.o) (tk d0.o) (by decide)) (tk e0.o) (by decide)) (fun k_ hk => ⟨⟨hk.1.2, ⟨hk.1.1.1.2, hk.1.1.2⟩⟩, hk.2⟩))).1 k_ hk_.symm) ?aF ?aO ?aB ?aS ?aL ?_; (case aP => exact t9 (s9 (tG rfl (s9 (ok' := fun k_ => ((fun k_ => some k_ ≠ (E0 : Value).ownBlock ∧ some k_ ≠ (.slice H0 v0.length I0 : Value).ownBlock ∧ some k_ ≠ (.slice J0 x0.length K0 : Value).ownBlock)) k_ ∧ some k_ ≠ (u8 : Value).ownBlock) (th (th (L0.o) (tk d0.o) (by decide)) (tk e0.o) (by decide)) (fun k_ hk => ⟨⟨hk.1.2, ⟨hk.1.1.1.2, hk.1.1.2⟩⟩, hk.2⟩))) (fun _ h_ => h_))); (case aB => exact (hB_)); (case aF => exact (fun k_ hk => ⟨Kd.fresh' (ux (rS_ d0.o)) k_ hk, Kd.fresh' (ti (rR_ k0.o)) k_ hk, Kd.fresh' (ti (rR_ q0.o)) k_ hk⟩)); (case aO => exact (by refine kS_ ?_; exact tq e0.o (fun k_ hk => ⟨⟨hk.1.1.1, ⟨hk.1.1.2, hk.1.2⟩⟩, fun e_ => hk.2 e_⟩))); (case aS => exact (ac (hB_))); (case aL => have := U0.o; omega); intro q2 I2 ho hb hg hat; rw [← V0.o] at ho; obtain ⟨d0, k0, q0, HB, W0⟩ := b_ (uD (ok := (fun k_ => some k_ ≠ (.slice H0 v0.length I0 : Value).ownBlock ∧ some k_ ≠ (.slice J0 x0.length K0 : Value).ownBlock ∧ some k_ ≠ (.slice O0 F0.length P0 : Value).ownBlock)) (by refine kS_ ?_; exact tq d0.o (fun _ hk => ⟨⟨hk.1.1.2, ⟨hk.1.2, hk.2⟩⟩, hk.1.1.1⟩)) hg hat) <| b_ (ua (rR_ k0.o) (tk (rS_ e0.o)) (by decide) hg) <| b_ (ua (rR_ q0.o) (tk (rS_ e0.o)) (by decide) hg) <| b_ (hb) <| c_ (ho); clear ho hb hg hat))
    go_roundg k2
    case measure => have := Q1.o; have := R1.o; omega
    case rel => exact ⟨(i1), (wrap64 (p0 + 1)), f0_, H', ⟨by have := Q1.o; have := R1.o; omega⟩, ⟨by refine kS_ ?_; exact tq d0.o (fun _ hk => hk.2)⟩, ⟨by refine kS_ ?_; exact tq W0.o (fun _ hk => hk.1)⟩, ⟨hB_⟩⟩
   rw [Ea c9] at H
   have d1 := xa c9
   clear c9
   obtain ⟨n1, H⟩ := iN_ H
   have d2 := ya n1
   have e2 := wa n1
   clear n1
   obtain ⟨⟨Q0, p1⟩, t2, H⟩ := bN_ H
   obtain ⟨R0, u2, H⟩ := bN_ H
   obtain ⟨S0, v2, H⟩ := bN_ H
   obtain ⟨T0, y2, H⟩ := bN_ H
   obtain ⟨q1, z2, H⟩ := bN_ H
   simp only [Option.some.injEq, Prod.mk.injEq] at H
   obtain ⟨rfl, rfl⟩ := H
   go_wp2_with (first | (refine gq_ 46 (some 53) Tryz.func46 #[.string (a1.extract 640 a1.size), .int .i64 4, .int .i64 256] (av.calls k2 (a1.extract 640 a1.size) 4 256 Q0 p1 _ t2.o) ?_; rintro e J2 ⟨A2, rfl, b0, hb⟩; refine ⟨_, rfl, ?_⟩; obtain ⟨d0, e0, f0, HB⟩ := b_ (s6 (rS_ d0.o) (sY b0) hb) <| b_ (s6 (rS_ e0.o) (sY b0) hb) <| b_ (sZ b0 (ac (hB_))) <| c_ (ab (hB_) hb); obtain ⟨t1, y1, z1⟩ := s7 f0.o; subst z1) | (refine gq_ 48 (some 57) Tryz.func48 #[.slice t1 Q0.length y1, .int .i64 4] (bj.calls k2 _ _ Q0 4 R0 _ ?side1 ?side2 u2.o) ?_; (case side1 => exact cR_ (sX f0.o).2.2); (case side2 => exact (sX f0.o).2.1); rintro e K2 ⟨B2, rfl, b0, hb⟩; refine ⟨_, rfl, ?_⟩; obtain ⟨d0, e0, f0, n0, HB⟩ := b_ (s6 (rS_ d0.o) (sY b0) hb) <| b_ (s6 (rS_ e0.o) (sY b0) hb) <| b_ (s5 (rR_ f0.o) (sY b0) hb) <| b_ (sZ (ta b0 (ti (rR_ f0.o))) (ac (hB_))) <| c_ (ab (hB_) hb); obtain ⟨A1, B1, C1⟩ := tI d0.o; subst C1; obtain ⟨D1, E1, F1⟩ := tI e0.o; subst F1) | (refine gq_ 51 (some 60) Tryz.func51 #[.slice A1 D0.length B1, .slice D1 u0.length E1] (bI.calls k2 _ _ D0 _ _ u0 S0 _ ?side1 ?side2 ?side3 ?side4 v2.o) ?_; (case side1 => exact cR_ (tj d0.o).2.2); (case side2 => exact (tj d0.o).2.1); (case side3 => exact cR_ (tj e0.o).2.2); (case side4 => exact (tj e0.o).2.1); rintro e L2 ⟨C2, rfl, b0, hb⟩; refine ⟨_, rfl, ?_⟩; obtain ⟨d0, e0, f0, n0, r0, HB⟩ := b_ (s6 (rS_ d0.o) (sY b0) hb) <| b_ (s6 (rS_ e0.o) (sY b0) hb) <| b_ (s5 (rR_ f0.o) (sY b0) hb) <| b_ (s5 (rR_ n0.o) (sY b0) hb) <| b_ (sZ (ta (ta b0 (ti (rR_ f0.o))) (ti (rR_ n0.o))) (ac (hB_))) <| c_ (ab (hB_) hb); obtain ⟨G1, H1, I1⟩ := s7 r0.o; subst I1) | (refine gq_ 50 (some 61) Tryz.func50 #[.slice G1 S0.length H1] (ai.calls k2 _ _ S0 T0 _ ?side1 ?side2 y2.o) ?_; (case side1 => exact cR_ (sX r0.o).2.2); (case side2 => exact (sX r0.o).2.1); rintro e M2 ⟨D2, rfl, b0, hb⟩; refine ⟨_, rfl, ?_⟩; obtain ⟨d0, e0, f0, n0, r0, t0, HB⟩ := b_ (s6 (rS_ d0.o) (sY b0) hb) <| b_ (s6 (rS_ e0.o) (sY b0) hb) <| b_ (s5 (rR_ f0.o) (sY b0) hb) <| b_ (s5 (rR_ n0.o) (sY b0) hb) <| b_ (s5 (rR_ r0.o) (sY b0) hb) <| b_ (sZ (ta (ta (ta b0 (ti (rR_ f0.o))) (ti (rR_ n0.o))) (ti (rR_ r0.o))) (ac (hB_))) <| c_ (ab (hB_) hb); obtain ⟨J1, K1, L1⟩ := s7 n0.o; subst L1; obtain ⟨M1, N1, O1⟩ := s7 t0.o; subst O1) | (refine gq_ 49 (some 62) Tryz.func49 #[.slice J1 R0.length K1, .slice M1 T0.length N1] (cp.calls k2 _ _ R0 _ _ T0 q1 _ ?side1 ?side2 ?side3 ?side4 z2.o) ?_; (case side1 => exact cR_ (sX n0.o).2.2); (case side2 => exact (sX n0.o).2.1); (case side3 => exact cR_ (sX t0.o).2.2); (case side4 => exact (sX t0.o).2.1); rintro e N2 ⟨E2, rfl, b0, hb⟩; refine ⟨_, rfl, ?_⟩; obtain ⟨d0, e0, f0, n0, r0, t0, X0, HB⟩ := b_ (s6 (rS_ d0.o) (sY b0) hb) <| b_ (s6 (rS_ e0.o) (sY b0) hb) <| b_ (s5 (rR_ f0.o) (sY b0) hb) <| b_ (s5 (rR_ n0.o) (sY b0) hb) <| b_ (s5 (rR_ r0.o) (sY b0) hb) <| b_ (s5 (rR_ t0.o) (sY b0) hb) <| b_ (sZ (ta (ta (ta (ta b0 (ti (rR_ f0.o))) (ti (rR_ n0.o))) (ti (rR_ r0.o))) (ti (rR_ t0.o))) (ac (hB_))) <| c_ (ab (hB_) hb); (try clear b0)))
   go_ret2
   exact ⟨_, f1_, by refine kR_ ?_; exact s9 X0.o (fun _ hk => trivial), hB_⟩
  ·replace c7 := Ca c7
   subst c7
   replace H := iF_ H
   simp only [Option.some.injEq, Prod.mk.injEq] at H
   obtain ⟨rfl, rfl⟩ := H
   go_wp2_with (first | (refine gq_ 45 (some 24) Tryz.func45 #[.string a0] (bk.calls Y0 a0 D0 false _ A6.o) ?_; rintro e O2 ⟨E0, rfl, b0, hb⟩; refine ⟨_, rfl, ?_⟩; obtain ⟨M0, HB⟩ := b_ (tz b0 (ac (hB_))) <| c_ (ab (hB_) hb); (try clear b0)))
   go_ret2
   exact ⟨_, f1_, by first | exact tH _ _ _ _ _ | exact Kd.N_nil _ _ _ _ _ | exact Kd.V_nil _ _ _ _ _ | exact Kd.Q_nil _ _ _ _ _ | exact tJ _ _ _ _ _, hB_⟩
def eh.f (a0 : Int) (a1 : Int) : Option (Int) := (bV.f a0 0 3328).bind fun t771 => (if t771 = true then ((bV.f a1 1 11).bind fun t772 => (if t772 = true then (if 0 ≤ a1 then (if (shl .i64 1 a1) = 0 then (none) else (some (Int.tmod (wrap64 (Int.tdiv (wrap64 ((shl .i64 a0 a1) + 1664)) 3329)) (shl .i64 1 a1)))) else (none)) else (some 0))) else (some 0))
theorem eh.calls (a0 : Int) (a1 : Int) (r : Int) (w : World) (h : eh.f a0 a1 = some r) :
  Calls Tryz.prog 52 #[.int .i64 a0, .int .i64 a1] w fun e w' => e = .returned (.int .i64 r) ∧ cx w w' := by
 delta eh.f at h
 have H := h
 clear h
 obtain ⟨r0, A3, H⟩ := bN_ H
 by_cases c4 : r0 = true
 ·subst c4
  replace H := iT_ H
  obtain ⟨t0, A5, H⟩ := bN_ H
  by_cases c6 : t0 = true
  ·subst c6
   replace H := iT_ H
   obtain ⟨c7, H⟩ := iN_ H
   have x0 := ya c7
   have y0 := wa c7
   clear c7
   obtain ⟨p0, e0⟩ : ∃ j_ : Int, (shl .i64 a0 a1) = j_ := ⟨_, rfl⟩
   first | rw [e0] at H | simp only [e0] at H
   (try rw [e0] at A3)
   (try rw [e0] at A5)
   have k0 : (IntKind.i64.wrap (a0 * 2 ^ min a1.toNat 64)) = p0 := e0
   have n0 : a1 ≤ 64 → (IntKind.i64.wrap (a0 * 2 ^ a1.toNat)) = p0 := eX e0
   have hji8y : (wrap64 (a0 * 2 ^ min a1.toNat 64)) = p0 := (bv _).symm.trans k0
   have hji8x : a1 ≤ 64 → (wrap64 (a0 * 2 ^ a1.toNat)) = p0 := fun h_ => (bv _).symm.trans (n0 h_)
   have B0 := ya (oD_ : 0 ≤ a1)
   obtain ⟨d0, b0⟩ : ∃ j_ : Int, (shl .i64 1 a1) = j_ := ⟨_, rfl⟩
   first | rw [b0] at H | simp only [b0] at H
   (try rw [b0] at A3)
   (try rw [b0] at A5)
   have f0 : (IntKind.i64.wrap (1 * 2 ^ min a1.toNat 64)) = d0 := b0
   have j0 : a1 ≤ 64 → (IntKind.i64.wrap (1 * 2 ^ a1.toNat)) = d0 := eX b0
   have hji10u : (IntKind.i64.wrap (2 ^ min a1.toNat 64)) = d0 := by have h_ := f0; rw [Int.one_mul] at h_; exact h_
   have hji10v : a1 ≤ 64 → (IntKind.i64.wrap (2 ^ a1.toNat)) = d0 := fun hle_ => by have h_ := j0 hle_; rw [Int.one_mul] at h_; exact h_
   have hji10y : (wrap64 (1 * 2 ^ min a1.toNat 64)) = d0 := (bv _).symm.trans f0
   have hji10x : a1 ≤ 64 → (wrap64 (1 * 2 ^ a1.toNat)) = d0 := fun h_ => (bv _).symm.trans (j0 h_)
   by_cases q0 : (d0) = 0
   ·rw [Da q0] at H
    exact absurd H (by simp)
   rw [Ea q0] at H
   have u0 : ((d0) == 0) = false := beq_eq_false_iff_ne.mpr q0
   have v0 : ((d0) != 0) = true := bne_iff_ne.mpr q0
   obtain rfl := za H
   go_enter Tryz.func52, Tryz.ntmps52
   go_wp2_with (first | (go_at_call 79; (with_reducible refine (bV.calls a0 0 3328 true _ A3.o).mono ?_); rintro e w' ⟨rfl, ⟨nd, rfl⟩⟩; (try first | exact ⟨rfl, _, World.drewN_drewN _ _ _⟩ | exact ⟨rfl, _, Eq.trans (World.drewN_drewN _ _ _) (congrArg (World.drewN _) (Nat.add_assoc _ _ _))⟩)) | (go_at_call 79; (with_reducible refine (bV.calls a1 1 11 true _ A5.o).mono ?_); rintro e w' ⟨rfl, ⟨nd, rfl⟩⟩; (try first | exact ⟨rfl, _, World.drewN_drewN _ _ _⟩ | exact ⟨rfl, _, Eq.trans (World.drewN_drewN _ _ _) (congrArg (World.drewN _) (Nat.add_assoc _ _ _))⟩)))
   repeat (go_quiet (first | (go_at_call 79; (with_reducible refine (bV.calls a0 0 3328 true _ A3.o).mono ?_); rintro e w' ⟨rfl, ⟨nd, rfl⟩⟩; (try first | exact ⟨rfl, _, World.drewN_drewN _ _ _⟩ | exact ⟨rfl, _, Eq.trans (World.drewN_drewN _ _ _) (congrArg (World.drewN _) (Nat.add_assoc _ _ _))⟩)) | (go_at_call 79; (with_reducible refine (bV.calls a1 1 11 true _ A5.o).mono ?_); rintro e w' ⟨rfl, ⟨nd, rfl⟩⟩; (try first | exact ⟨rfl, _, World.drewN_drewN _ _ _⟩ | exact ⟨rfl, _, Eq.trans (World.drewN_drewN _ _ _) (congrArg (World.drewN _) (Nat.add_assoc _ _ _))⟩))); try go_wp2)
   go_ret
   exact ⟨by first | rfl | (simp; done) | (simp only [← e0, ← b0] <;> (first | rfl | simp)) | (simp [*]; done), d0_⟩
  ·replace c6 := Ca c6
   subst c6
   replace H := iF_ H
   obtain rfl := za H
   go_enter Tryz.func52, Tryz.ntmps52
   go_wp2_with (first | (go_at_call 79; (with_reducible refine (bV.calls a0 0 3328 true _ A3.o).mono ?_); rintro e w' ⟨rfl, ⟨nd, rfl⟩⟩; (try first | exact ⟨rfl, _, World.drewN_drewN _ _ _⟩ | exact ⟨rfl, _, Eq.trans (World.drewN_drewN _ _ _) (congrArg (World.drewN _) (Nat.add_assoc _ _ _))⟩)) | (go_at_call 79; (with_reducible refine (bV.calls a1 1 11 false _ A5.o).mono ?_); rintro e w' ⟨rfl, ⟨nd, rfl⟩⟩; (try first | exact ⟨rfl, _, World.drewN_drewN _ _ _⟩ | exact ⟨rfl, _, Eq.trans (World.drewN_drewN _ _ _) (congrArg (World.drewN _) (Nat.add_assoc _ _ _))⟩)))
   repeat (go_quiet (first | (go_at_call 79; (with_reducible refine (bV.calls a0 0 3328 true _ A3.o).mono ?_); rintro e w' ⟨rfl, ⟨nd, rfl⟩⟩; (try first | exact ⟨rfl, _, World.drewN_drewN _ _ _⟩ | exact ⟨rfl, _, Eq.trans (World.drewN_drewN _ _ _) (congrArg (World.drewN _) (Nat.add_assoc _ _ _))⟩)) | (go_at_call 79; (with_reducible refine (bV.calls a1 1 11 false _ A5.o).mono ?_); rintro e w' ⟨rfl, ⟨nd, rfl⟩⟩; (try first | exact ⟨rfl, _, World.drewN_drewN _ _ _⟩ | exact ⟨rfl, _, Eq.trans (World.drewN_drewN _ _ _) (congrArg (World.drewN _) (Nat.add_assoc _ _ _))⟩))); try go_wp2)
   go_ret
   exact ⟨f0_, d0_⟩
 ·replace c4 := Ca c4
  subst c4
  replace H := iF_ H
  obtain rfl := za H
  go_enter Tryz.func52, Tryz.ntmps52
  go_wp2_with (first | (go_at_call 79; (with_reducible refine (bV.calls a0 0 3328 false _ A3.o).mono ?_); rintro e w' ⟨rfl, ⟨nd, rfl⟩⟩; (try first | exact ⟨rfl, _, World.drewN_drewN _ _ _⟩ | exact ⟨rfl, _, Eq.trans (World.drewN_drewN _ _ _) (congrArg (World.drewN _) (Nat.add_assoc _ _ _))⟩)))
  repeat (go_quiet (first | (go_at_call 79; (with_reducible refine (bV.calls a0 0 3328 false _ A3.o).mono ?_); rintro e w' ⟨rfl, ⟨nd, rfl⟩⟩; (try first | exact ⟨rfl, _, World.drewN_drewN _ _ _⟩ | exact ⟨rfl, _, Eq.trans (World.drewN_drewN _ _ _) (congrArg (World.drewN _) (Nat.add_assoc _ _ _))⟩))); try go_wp2)
  go_ret
  exact ⟨f0_, d0_⟩
def bp.l0 : Nat → Int → List Int → List Int → Int → Int → Option (List Int)
 | 0, _, _, _, _, _ => none
 | k + 1, x1, x5, x8, x9, x10 => if x10 < x9 then (if 0 ≤ x10 then (if x10 < (x8.length : Int) then ((eh.f (rd x8 x10) x1).bind fun t774 => (if x5.length < 17592186044416 then (bp.l0 k x1 (x5 ++ [t774]) x8 x9 (wrap64 (x10 + 1))) else (none))) else (none)) else (none)) else (some x5)
def bp.f (k : Nat) (l0 : List Int) (a1 : Int) : Option (List Int) := bp.l0 k a1 ([] : List Int) l0 (l0.length : Int) 0
theorem bp.mono_l : ∀ k, (∀ y0 y1 y2 y3 y4, LeO (bp.l0 k y0 y1 y2 y3 y4) (bp.l0 (k + 1) y0 y1 y2 y3 y4))
 | 0 => fun _ _ _ _ _ r h => by simp [bp.l0] at h
 | k + 1 => by
  have ih0 := bp.mono_l k
  intros; unfold bp.l0; exact o1_ ih0
theorem bp.mono : ∀ a0 a1 k, LeO (bp.f k a0 a1) (bp.f (k + 1) a0 a1) := by
 intro a0 a1 k
 have ih0 := bp.mono_l k
 unfold bp.f
 exact o1_ ih0
theorem bp.calls (k : Nat) (A0 : Option Addr) (c0 : Nat) (l0 : List Int) (a1 : Int) (r : List Int) (w : World) (hr0 : Kd.C (Kd.int .i64) w A0 l0.length l0) (hc0 : l0.length ≤ c0) (h : bp.f k l0 a1 = some r) :
  Calls Tryz.prog 20 #[.slice A0 l0.length c0, .int .i64 a1] w fun e w' => ∃ x0 : Value, e = .returned (x0) ∧ Kd.R (Kd.int .i64) 3 w' w.heap.size (fun _ => True) x0 r ∧ Below w.heap.size w w' := by
 have C0 := c_ hr0
 have H0 := c_ hc0
 clear hr0 hc0
 have HB := c_ (Ba w.heap.size w)
 delta bp.f at h
 have H := h
 clear h
 have H' := c_ H
 clear H
 go_enter Tryz.func20, Tryz.ntmps20
 go_wp2
 go_loopg [5, 10] k (fun kq v5 D0 w' => ∃ (e0 : List Int) (a0 : Int), D0 = .int .i64 a0 ∧ aa (bp.l0 kq a1 e0 l0 (l0.length : Int) a0 = some r) ∧ aa (kq ≤ k) ∧ aa (Kd.R (Kd.int .i64) 3 w' w.heap.size (fun _ => True) v5 e0) ∧ aa (Below w.heap.size w w'))
 case atStart => exact ⟨(([] : List Int)), (0), f0_, H', ⟨Aa _⟩, ⟨by first | exact tH _ _ _ _ _ | exact Kd.N_nil _ _ _ _ _ | exact Kd.V_nil _ _ _ _ _ | exact Kd.Q_nil _ _ _ _ _ | exact tJ _ _ _ _ _⟩, ⟨hB_⟩⟩
 clear H'
 obtain ⟨e0, a0, rfl, HA, y0, n0, HB⟩ := hrel
 rcases gk with _ | k1
 ·exact absurd HA.o (by simp [bp.l0])
 have H := HA.o
 clear HA
 simp only [bp.l0] at H
 by_cases c3 : a0 < (l0.length : Int)
 rotate_left
 ·rw [Ea c3] at H
  have r0 := xa c3
  clear c3
  obtain rfl := za H
  go_wp2
  go_ret
  exact ⟨_, f1_, rR_ n0.o, hB_⟩
 rw [Da c3] at H
 have r0 := wa c3
 clear c3
 obtain ⟨E0, H⟩ := iD_ H
 obtain ⟨F0, H⟩ := iD_ H
 obtain ⟨f0, A6, H⟩ := bN_ H
 obtain ⟨c7, H⟩ := iN_ H
 have t0 := c_ c7
 clear c7
 obtain ⟨u0, b0⟩ : ∃ y_ : List Int, y_ = (e0 ++ [f0]) := ⟨_, rfl⟩
 first | replace H := yb_ b0 H | rw [← b0] at H
 have p0 := c_ b0
 clear b0
 have H' := c_ H
 clear H
 have j0 : 0 ≤ (a0 : Int) := oD_
 have k0 : a0 < (l0.length : Int) := oD_
 obtain ⟨B0, v0, d0⟩ := tb C0.o a0 j0 k0
 cases v0
 replace d0 := hc_ d0
 replace j0 := ya j0
 replace k0 := ya k0
 go_wp2_with (first | (refine gq_ 52 (some 17) Tryz.func52 #[.int .i64 (rd l0 a0), .int .i64 a1] (eh.calls (rd l0 a0) a1 f0 _ A6.o) ?_; rintro e w' ⟨rfl, ⟨nd, rfl⟩⟩; refine ⟨_, rfl, ?_⟩) | ((refine aU (b := .append) (xs := #[.tmp 14, .tmp 18]) rfl ?_); at_builtin; refine tf (Kd.int .i64) (w0 := w) w.heap.size rfl (.tmp 14) (.tmp 18) 28 3 (.int .i64 0) 8 rfl Tryz.underlying28 cY rfl (by decide) (by omega) u5 e0 f0 [.int .i64 f0] (fun _ => True) (fun _ => False) rfl rfl ?aP (fun _ hk => hk.elim) ?aF ?aO ?aB ?aS ?aL ?_; (case aP => exact rfl); (case aB => exact (hB_)); (case aF => exact (fun _ _ => trivial)); (case aO => exact (rR_ n0.o)); (case aS => exact (ac (hB_))); (case aL => have := t0.o; omega); intro G0 w8 ho hb hg hat; rw [← p0.o] at ho; obtain ⟨HB, q0⟩ := b_ (hb) <| c_ (ho); clear ho hb hg hat))
 go_roundg k1
 case measure => have := y0.o; omega
 case rel => exact ⟨(u0), (wrap64 (a0 + 1)), f0_, H', ⟨by have := y0.o; omega⟩, ⟨rR_ q0.o⟩, ⟨hB_⟩⟩
def cA.f (k : Nat) (a0 : ByteArray) (a1 : ByteArray) : Option (ByteArray × Bool) := (bb.f k a0 a1).bind fun bt778 => (if bt778.2 = true then ((bp.f k bt778.1 1).bind fun t782 => ((ay.f k t782 1).bind fun t785 => (some (t785, true)))) else (some ((⟨#[]⟩ : ByteArray), false)))
theorem cA.mono : ∀ a0 a1 k, LeO (cA.f k a0 a1) (cA.f (k + 1) a0 a1) := by
 intro a0 a1 k
 unfold cA.f
 exact o3_ bb.mono ay.mono bp.mono
theorem cA.calls (k : Nat) (a0 : ByteArray) (a1 : ByteArray) (r1 : ByteArray) (r2 : Bool) (w : World) (h : cA.f k a0 a1 = some (r1, r2)) :
  Calls Tryz.prog 9 #[.string a0, .string a1] w fun e w' => e = .returned (.tuple #[.string r1, .bool r2]) ∧ Below w.heap.size w w' := by
 have HB := c_ (Ba w.heap.size w)
 delta cA.f at h
 have H := h
 clear h
 obtain ⟨⟨e0, k0⟩, A3, H⟩ := bN_ H
 by_cases c4 : k0 = true
 ·subst c4
  replace H := iT_ H
  obtain ⟨f0, A5, H⟩ := bN_ H
  obtain ⟨n0, A6, H⟩ := bN_ H
  simp only [Option.some.injEq, Prod.mk.injEq] at H
  obtain ⟨rfl, rfl⟩ := H
  go_enter Tryz.func9, Tryz.ntmps9
  go_wp2_with (first | (refine gq_ 18 (some 11) Tryz.func18 #[.string a0, .string a1] (bb.calls k a0 a1 e0 true _ A3.o) ?_; rintro e w7 ⟨p0, rfl, j0, hb⟩; refine ⟨_, rfl, ?_⟩; obtain ⟨b0, HB⟩ := b_ (sZ j0 (ac (hB_))) <| c_ (ab (hB_) hb); obtain ⟨u0, v0, x0⟩ := s7 b0.o; subst x0) | (refine gq_ 20 (some 17) Tryz.func20 #[.slice u0 e0.length v0, .int .i64 1] (bp.calls k _ _ e0 1 f0 _ ?side1 ?side2 A5.o) ?_; (case side1 => exact cR_ (sX b0.o).2.2); (case side2 => exact (sX b0.o).2.1); rintro e w9 ⟨y0, rfl, j0, hb⟩; refine ⟨_, rfl, ?_⟩; obtain ⟨b0, d0, HB⟩ := b_ (s5 (rR_ b0.o) (sY j0) hb) <| b_ (sZ (ta j0 (ti (rR_ b0.o))) (ac (hB_))) <| c_ (ab (hB_) hb); obtain ⟨q0, r0, t0⟩ := s7 d0.o; subst t0) | (refine gq_ 19 (some 18) Tryz.func19 #[.slice q0 f0.length r0, .int .i64 1] (ay.calls k _ _ f0 1 n0 _ ?side1 ?side2 A6.o) ?_; (case side1 => exact cR_ (sX d0.o).2.2); (case side2 => exact (sX d0.o).2.1); rintro e B0 ⟨rfl, hb⟩; refine ⟨_, rfl, ?_⟩; obtain ⟨b0, d0, HB⟩ := b_ (tc (rR_ b0.o) hb) <| b_ (tc (rR_ d0.o) hb) <| c_ (ab (hB_) hb); (try clear hb)))
  go_ret2
  exact ⟨f1_, hB_⟩
 ·replace c4 := Ca c4
  subst c4
  replace H := iF_ H
  simp only [Option.some.injEq, Prod.mk.injEq] at H
  obtain ⟨rfl, rfl⟩ := H
  go_enter Tryz.func9, Tryz.ntmps9
  go_wp2_with (first | (refine gq_ 18 (some 11) Tryz.func18 #[.string a0, .string a1] (bb.calls k a0 a1 e0 false _ A3.o) ?_; rintro e C0 ⟨p0, rfl, j0, hb⟩; refine ⟨_, rfl, ?_⟩; obtain ⟨b0, HB⟩ := b_ (sZ j0 (ac (hB_))) <| c_ (ab (hB_) hb); (try clear j0)))
  go_ret2
  exact ⟨f1_, hB_⟩
def dq.f (a0 : Int) (a1 : Int) : Option (Int) := if 0 ≤ (Go.bits .and .u64 (IntKind.u64.wrap (a1)) 31) then (if 0 ≤ (IntKind.u64.wrap (32 - (Go.bits .and .u64 (IntKind.u64.wrap (a1)) 31))) then (some (Go.bits .or .u32 (shl .u32 a0 (Go.bits .and .u64 (IntKind.u64.wrap (a1)) 31)) (shr .u32 a0 (IntKind.u64.wrap (32 - (Go.bits .and .u64 (IntKind.u64.wrap (a1)) 31)))))) else (none)) else (none)
theorem dq.calls (a0 : Int) (a1 : Int) (r : Int) (w : World) (h : dq.f a0 a1 = some r) :
  Calls Tryz.prog 100 #[.int .u32 a0, .int .i64 a1] w fun e w' => e = .returned (.int .u32 r) ∧ cx w w' := by
 delta dq.f at h
 have H := h
 clear h
 obtain ⟨e0, f0⟩ : ∃ j_ : Int, (Go.bits .and .u64 (IntKind.u64.wrap (a1)) 31) = j_ := ⟨_, rfl⟩
 first | rw [f0] at H | simp only [f0] at H
 obtain ⟨c4, H⟩ := iN_ H
 have v0 := ya c4
 have x0 := wa c4
 clear c4
 obtain ⟨p0, b0⟩ : ∃ j_ : Int, (shl .u32 a0 (e0)) = j_ := ⟨_, rfl⟩
 first | rw [b0] at H | simp only [b0] at H
 have k0 : (IntKind.u32.wrap (a0 * 2 ^ min (e0).toNat 32)) = p0 := b0
 have n0 : (e0) ≤ 32 → (IntKind.u32.wrap (a0 * 2 ^ (e0).toNat)) = p0 := eX b0
 have hji5k : ((a0 * 2 ^ min (e0).toNat 32) % 4294967296) = p0 := (IntKind.wrap_u32 _).symm.trans k0
 have hji5n : (e0) ≤ 32 → ((a0 * 2 ^ (e0).toNat) % 4294967296) = p0 := fun h_ => (IntKind.wrap_u32 _).symm.trans (n0 h_)
 obtain ⟨q0, j0⟩ : ∃ j_ : Int, (IntKind.u64.wrap (32 - (e0))) = j_ := ⟨_, rfl⟩
 first | rw [j0] at H | simp only [j0] at H
 obtain ⟨c7, H⟩ := iN_ H
 have y0 := ya c7
 have B0 := wa c7
 clear c7
 obtain ⟨r0, d0⟩ : ∃ j_ : Int, (shr .u32 a0 (q0)) = j_ := ⟨_, rfl⟩
 first | rw [d0] at H | simp only [d0] at H
 have t0 : (a0 / 2 ^ min (q0).toNat 32) = r0 := d0
 have u0 : (q0) ≤ 32 → (a0 / 2 ^ (q0).toNat) = r0 := fN d0
 obtain rfl := za H
 go_enter Tryz.func100, Tryz.ntmps100
 go_wp2
 go_ret
 exact ⟨by first | rfl | (simp; done) | (simp only [← f0, ← b0, ← j0, ← d0] <;> (first | rfl | simp)) | (simp [*]; done), d0_⟩
def cg.f (a0 : Int) (a1 : Int) : Option (Int) := (dq.f a0 (wrap64 (-a1))).bind fun t786 => (some t786)
theorem cg.calls (a0 : Int) (a1 : Int) (r : Int) (w : World) (h : cg.f a0 a1 = some r) :
  Calls Tryz.prog 94 #[.int .u32 a0, .int .i64 a1] w fun e w' => e = .returned (.int .u32 r) ∧ cx w w' := by
 delta cg.f at h
 have H := h
 clear h
 obtain ⟨b0, A3, H⟩ := bN_ H
 obtain rfl := za H
 go_enter Tryz.func94, Tryz.ntmps94
 go_wp2_with (first | (refine gq_ 100 (some 8) Tryz.func100 #[.int .u32 a0, .int .i64 (wrap64 (-a1))] (dq.calls a0 (wrap64 (-a1)) b0 _ A3.o) ?_; rintro e w' ⟨rfl, ⟨nd, rfl⟩⟩; refine ⟨_, rfl, ?_⟩))
 go_ret
 exact ⟨f0_, d0_⟩
-- NOT PRINTED: function 93 (bU)
-- NOT PRINTED: function 60 (ct)
-- NOT PRINTED: function 22 (jZ)
-- NOT PRINTED: function 23 (bP)
def eW.f (a0 : Int) : Option (ByteArray) := if 0 ≤ a0 then (if (a0 : Int).toNat ≤ 281474976710656 then (some (strOfNums (List.replicate (a0 : Int).toNat 0))) else (none)) else (none)
theorem eW.calls (a0 : Int) (r : ByteArray) (w : World) (h : eW.f a0 = some r) :
  Calls Tryz.prog 61 #[.int .i64 a0] w fun e w' => e = .returned (.string r) ∧ Below w.heap.size w w' := by
 have HB := c_ (Ba w.heap.size w)
 delta eW.f at h
 have H := h
 clear h
 obtain ⟨c2, H⟩ := iN_ H
 have j0 := ya c2
 have k0 := wa c2
 clear c2
 obtain ⟨c3, H⟩ := iN_ H
 have n0 := ya c3
 have p0 := wa c3
 clear c3
 obtain ⟨q0, b0⟩ : ∃ y_ : List Int, y_ = (List.replicate (a0 : Int).toNat 0) := ⟨_, rfl⟩
 first | replace H := yb_ b0 H | rw [← b0] at H
 have d0 := c_ b0
 clear b0
 obtain rfl := za H
 go_enter Tryz.func61, Tryz.ntmps61
 go_wp2_with (first | ((refine aI (N := 4) rfl ?_); refine tw (Kd.int .u8) _ 5 rfl (N := 4) rfl 59 _ _ rfl a0 rfl rfl Tryz.underlying59 (.int .u8 0) 1 iX rfl (by decide) (by omega) 0 (ok := fun _ => True) (okp := fun _ => True) rfl (fun _ hk => hk) trivial oD_ (Nat.le_trans (Nat.mul_le_mul_right _ (oD_ : a0.toNat ≤ 281474976710656)) (by omega)) (Ba _ _) (Aa _) ?_; intro r0 w4 e0 hb hg_ hnew_; clear hg_ hnew_; (first | rw [← d0.o] at e0 | (simp only [Int.reduceToNat] at e0; rw [← d0.o] at e0)); obtain ⟨f0, HB⟩ := b_ (sZ e0 (ac (hB_))) <| c_ (ab (hB_) hb); clear hb e0; have t0 := dW (P := Tryz.prog) Tryz.underlying59 Tryz.underlying5 Tryz.underlying9 (tr f0.o)))
 go_ret
 exact ⟨f1_, hB_⟩
def cW.f (a0 : Int) : Option (ByteArray) := some (strOfNums (([(a0 / 16777216) % 256, (a0 / 65536) % 256, (a0 / 256) % 256, (a0) % 256] : List Int)))
theorem cW.calls (a0 : Int) (r : ByteArray) (w : World) (h : cW.f a0 = some r) :
  Calls Tryz.prog 63 #[.int .u32 a0] w fun e w' => e = .returned (.string r) ∧ Below w.heap.size w w' := by
 have HB := c_ (Ba w.heap.size w)
 delta cW.f at h
 have H := h
 clear h
 obtain ⟨j0, b0⟩ : ∃ y_ : List Int, y_ = (([(a0 / 16777216) % 256, (a0 / 65536) % 256, (a0 / 256) % 256, (a0) % 256] : List Int)) := ⟨_, rfl⟩
 first | replace H := yb_ b0 H | rw [← b0] at H
 have d0 := c_ b0
 clear b0
 obtain rfl := za H
 go_enter Tryz.func63, Tryz.ntmps63
 go_wp2_with (first | ((refine aI (N := 14) rfl ?_); refine tn (Kd.int .u8) _ 5 ?hg (N := 14) ?hd (xs := ([(a0 / 16777216) % 256, (a0 / 65536) % 256, (a0 / 256) % 256, (a0) % 256] : List Int)) (inner := [.int .u8 ((a0 / 16777216) % 256), .int .u8 ((a0 / 65536) % 256), .int .u8 ((a0 / 256) % 256), .int .u8 ((a0) % 256)]) (ok := fun _ => True) (okp := fun _ => True) ?hr ?hp (fun _ hk => hk) trivial (Ba _ _) (Aa _) (by simp) ?_; (case hd => rfl); (case hg => rfl); (case hr => first | (go_simp; done) | (go_simp; rfl)); (case hp => exact (bA.one (show Kd.M (Kd.int .u8) _ _ _ ((a0 / 16777216) % 256) [.int .u8 ((a0 / 16777216) % 256)] from rfl) (bA.one (show Kd.M (Kd.int .u8) _ _ _ ((a0 / 65536) % 256) [.int .u8 ((a0 / 65536) % 256)] from rfl) (bA.one (show Kd.M (Kd.int .u8) _ _ _ ((a0 / 256) % 256) [.int .u8 ((a0 / 256) % 256)] from rfl) (bA.one (show Kd.M (Kd.int .u8) _ _ _ ((a0) % 256) [.int .u8 ((a0) % 256)] from rfl) (bA.none _ _)))))); intro k0 w2 e0 hb hg_ hnew_; clear hg_ hnew_; (first | rw [← d0.o] at e0 | (simp only [Int.reduceToNat] at e0; rw [← d0.o] at e0)); obtain ⟨f0, HB⟩ := b_ (sZ e0 (ac (hB_))) <| c_ (ab (hB_) hb); clear hb e0; have n0 := dW (P := Tryz.prog) Tryz.underlying59 Tryz.underlying5 Tryz.underlying9 (tr f0.o)))
 go_ret
 exact ⟨f1_, hB_⟩
def dH.f (a0 : Int) : Option (ByteArray) := (cW.f ((a0 / 4294967296) % 4294967296)).bind fun t793 => ((cW.f ((a0) % 4294967296)).bind fun t794 => (if t793.size + t794.size ≤ 9223372036854775807 then (some (t793 ++ t794)) else (none)))
theorem dH.calls (a0 : Int) (r : ByteArray) (w : World) (h : dH.f a0 = some r) :
  Calls Tryz.prog 62 #[.int .i64 a0] w fun e w' => e = .returned (.string r) ∧ Below w.heap.size w w' := by
 have HB := c_ (Ba w.heap.size w)
 delta dH.f at h
 have H := h
 clear h
 obtain ⟨b0, A2, H⟩ := bN_ H
 obtain ⟨d0, A3, H⟩ := bN_ H
 obtain ⟨c4, H⟩ := iN_ H
 have e0 := ya c4
 have f0 := wa c4
 try have j0 : (9223372036854775807 < b0.size + d0.size) = False := eq_false (Nat.not_lt.2 c4)
 obtain rfl := za H
 go_enter Tryz.func62, Tryz.ntmps62
 go_wp2_with (first | (refine gq_ 63 (some 6) Tryz.func63 #[.int .u32 ((a0 / 4294967296) % 4294967296)] (cW.calls ((a0 / 4294967296) % 4294967296) b0 _ A2.o) ?_; rintro e w5 ⟨rfl, hb⟩; refine ⟨_, rfl, ?_⟩; replace HB := c_ (ab (hB_) hb); (try clear hb)) | (refine gq_ 63 (some 9) Tryz.func63 #[.int .u32 ((a0) % 4294967296)] (cW.calls ((a0) % 4294967296) d0 _ A3.o) ?_; rintro e w6 ⟨rfl, hb⟩; refine ⟨_, rfl, ?_⟩; replace HB := c_ (ab (hB_) hb); (try clear hb)))
 go_ret
 exact ⟨f1_, hB_⟩
def et.f (a0 : Int) : Option (ByteArray) := (eW.f (Int.tmod (wrap64 (119 - (Int.tmod a0 64))) 64)).bind fun t795 => (if 1 + t795.size ≤ 9223372036854775807 then ((dH.f (wrap64 (8 * a0))).bind fun t796 => (if ((⟨#[128]⟩ : ByteArray) ++ t795).size + t796.size ≤ 9223372036854775807 then (some (((⟨#[128]⟩ : ByteArray) ++ t795) ++ t796)) else (none))) else (none))
theorem et.calls (a0 : Int) (r : ByteArray) (w : World) (h : et.f a0 = some r) :
  Calls Tryz.prog 24 #[.int .i64 a0] w fun e w' => e = .returned (.string r) ∧ Below w.heap.size w w' := by
 have HB := c_ (Ba w.heap.size w)
 delta et.f at h
 have H := h
 clear h
 obtain ⟨b0, A2, H⟩ := bN_ H
 obtain ⟨c3, H⟩ := iN_ H
 have f0 := ya c3
 have j0 := wa c3
 try have k0 : (9223372036854775807 < 1 + b0.size) = False := eq_false (Nat.not_lt.2 c3)
 obtain ⟨d0, A4, H⟩ := bN_ H
 obtain ⟨c5, H⟩ := iN_ H
 have n0 := ya c5
 have p0 := wa c5
 try have e0 : (9223372036854775807 < ((⟨#[128]⟩ : ByteArray) ++ b0).size + d0.size) = False := eq_false (Nat.not_lt.2 c5)
 try have q0 : (9223372036854775807 < 1 + b0.size + d0.size) = False := (show ((⟨#[128]⟩ : ByteArray) ++ b0).size = 1 + b0.size from (by rw [ByteArray.size_append]; rfl)) ▸ e0
 obtain rfl := za H
 go_enter Tryz.func24, Tryz.ntmps24
 go_wp2_with (first | (refine gq_ 61 (some 7) Tryz.func61 #[.int .i64 (Int.tmod (wrap64 (119 - (Int.tmod a0 64))) 64)] (eW.calls (Int.tmod (wrap64 (119 - (Int.tmod a0 64))) 64) b0 _ A2.o) ?_; rintro e w6 ⟨rfl, hb⟩; refine ⟨_, rfl, ?_⟩; replace HB := c_ (ab (hB_) hb); (try clear hb)) | (refine gq_ 62 (some 11) Tryz.func62 #[.int .i64 (wrap64 (8 * a0))] (dH.calls (wrap64 (8 * a0)) d0 _ A4.o) ?_; rintro e w7 ⟨rfl, hb⟩; refine ⟨_, rfl, ?_⟩; replace HB := c_ (ab (hB_) hb); (try clear hb)))
 go_ret
 exact ⟨f1_, hB_⟩
-- NOT PRINTED: function 25 (bR)
-- GIVEN: function 11 (cj)
def cr.f (k : Nat) (a0 : ByteArray) : Option (Bool) := if (a0.size : Int) = 800 then ((bk.f k a0).bind fun bt797 => (some bt797.2)) else (some false)
theorem cr.mono : ∀ a0 k, LeO (cr.f k a0) (cr.f (k + 1) a0) := by
 intro a0 k
 unfold cr.f
 exact o1_ bk.mono
theorem cr.calls (k : Nat) (a0 : ByteArray) (r : Bool) (w : World) (h : cr.f k a0 = some r) :
  Calls Tryz.prog 53 #[.string a0] w fun e w' => e = .returned (.bool r) ∧ Below w.heap.size w w' := by
 have HB := c_ (Ba w.heap.size w)
 delta cr.f at h
 have H := h
 clear h
 by_cases c2 : (a0.size : Int) = 800
 ·rw [Da c2] at H
  have b0 : ((a0.size : Int) == 800) = true := beq_iff_eq.mpr c2
  have d0 : ((a0.size : Int) != 800) = false := bne_eq_false_iff_eq.mpr c2
  clear c2
  obtain ⟨⟨e0, f0⟩, A3, H⟩ := bN_ H
  obtain rfl := za H
  go_enter Tryz.func53, Tryz.ntmps53
  go_wp2_with (first | (refine gq_ 45 (some 10) Tryz.func45 #[.string a0] (bk.calls k a0 e0 f0 _ A3.o) ?_; rintro e w4 ⟨n0, rfl, j0, hb⟩; refine ⟨_, rfl, ?_⟩; obtain ⟨k0, HB⟩ := b_ (tz j0 (ac (hB_))) <| c_ (ab (hB_) hb); (try clear j0)))
  go_ret
  exact ⟨f1_, hB_⟩
 rw [Ea c2] at H
 have b0 : ((a0.size : Int) == 800) = false := beq_eq_false_iff_ne.mpr c2
 have d0 : ((a0.size : Int) != 800) = true := bne_iff_ne.mpr c2
 obtain rfl := za H
 go_enter Tryz.func53, Tryz.ntmps53
 go_wp2
 go_ret
 exact ⟨f1_, hB_⟩
def ca.l0 : Nat → List (List Int) → List (List Int) → Int → Int → Option ((List (List Int)))
 | 0, _, _, _, _ => none
 | k + 1, x3, x6, x7, x8 => if x8 < x7 then (if 0 ≤ x8 then (if x8 < (x6.length : Int) then ((aM.f k (dw x6 x8)).bind fun t802 => (if x3.length < 5864062014805 then (ca.l0 k (x3 ++ [t802]) x6 x7 (wrap64 (x8 + 1))) else (none))) else (none)) else (none)) else (some x3)
def ca.f (k : Nat) (l0 : List (List Int)) : Option ((List (List Int))) := ca.l0 k ([] : List (List Int)) l0 (l0.length : Int) 0
theorem ca.mono_l : ∀ k, (∀ y0 y1 y2 y3, LeO (ca.l0 k y0 y1 y2 y3) (ca.l0 (k + 1) y0 y1 y2 y3))
 | 0 => fun _ _ _ _ r h => by simp [ca.l0] at h
 | k + 1 => by
  have ih0 := ca.mono_l k
  intros; unfold ca.l0; exact o2_ ih0 aM.mono
theorem ca.mono : ∀ a0 k, LeO (ca.f k a0) (ca.f (k + 1) a0) := by
 intro a0 k
 have ih0 := ca.mono_l k
 unfold ca.f
 exact o2_ ih0 aM.mono
theorem ca.calls (k : Nat) (A0 : Option Addr) (c0 : Nat) (l0 : List (List Int)) (r : List (List Int)) (w : World) (hr0 : Kd.C (Kd.slice 3 (Kd.int .i64)) w A0 l0.length l0) (hc0 : l0.length ≤ c0) (h : ca.f k l0 = some r) :
  Calls Tryz.prog 54 #[.slice A0 l0.length c0] w fun e w' => ∃ G0 : Value, e = .returned (G0) ∧ Kd.S (Kd.slice 3 (Kd.int .i64)) 28 w' w.heap.size (fun _ => True) G0 r ∧ Below w.heap.size w w' := by
 have M0 := c_ hr0
 have S0 := c_ hc0
 clear hr0 hc0
 have HB := c_ (Ba w.heap.size w)
 delta ca.f at h
 have H := h
 clear h
 have H' := c_ H
 clear H
 go_enter Tryz.func54, Tryz.ntmps54
 go_wp2
 go_loopg [3, 8] k (fun kq v3 v8 w' => ∃ (k0 : List (List Int)) (a0 : Int), v8 = .int .i64 a0 ∧ aa (ca.l0 kq k0 l0 (l0.length : Int) a0 = some r) ∧ aa (kq ≤ k) ∧ aa (Kd.S (Kd.slice 3 (Kd.int .i64)) 28 w' w.heap.size (fun _ => True) v3 k0) ∧ aa (Below w.heap.size w w'))
 case atStart => exact ⟨(([] : List (List Int))), (0), f0_, H', ⟨Aa _⟩, ⟨by first | exact tJ _ _ _ _ _ | exact Kd.N_nil _ _ _ _ _ | exact Kd.V_nil _ _ _ _ _ | exact Kd.Q_nil _ _ _ _ _ | exact tH _ _ _ _ _⟩, ⟨hB_⟩⟩
 clear H'
 obtain ⟨k0, a0, rfl, HA, H0, j0, HB⟩ := hrel
 rcases gk with _ | k1
 ·exact absurd HA.o (by simp [ca.l0])
 have H := HA.o
 clear HA
 simp only [ca.l0] at H
 by_cases c2 : a0 < (l0.length : Int)
 rotate_left
 ·rw [Ea c2] at H
  have C0 := xa c2
  clear c2
  obtain rfl := za H
  go_wp2
  go_ret
  exact ⟨_, f1_, by refine kS_ ?_; exact j0.o, hB_⟩
 rw [Da c2] at H
 have C0 := wa c2
 clear c2
 obtain ⟨N0, H⟩ := iD_ H
 obtain ⟨O0, H⟩ := iD_ H
 obtain ⟨n0, A5, H⟩ := bN_ H
 obtain ⟨c6, H⟩ := iN_ H
 have D0 := c_ c6
 clear c6
 obtain ⟨E0, b0⟩ : ∃ y_ : List (List Int), y_ = (k0 ++ [n0]) := ⟨_, rfl⟩
 first | replace H := yb_ b0 H | rw [← b0] at H
 have y0 := c_ b0
 clear b0
 have H' := c_ H
 clear H
 have t0 : 0 ≤ (a0 : Int) := oD_
 have u0 : a0 < (l0.length : Int) := oD_
 obtain ⟨I0, v0, x0, F0, d0, e0, f0⟩ := lC M0.o a0 t0 u0
 cases F0
 replace d0 := hc_ d0
 have q0 := c_ f0
 have r0 := c_ e0
 clear f0 e0
 replace t0 := ya t0
 replace u0 := ya u0
 go_wp2_with (first | (refine gq_ 47 (some 14) Tryz.func47 #[.slice v0 (dw l0 a0).length x0] (aM.calls k1 _ _ (dw l0 a0) n0 _ ?side1 ?side2 A5.o) ?_; (case side1 => exact cR_ (tg q0.o HB.o)); (case side2 => exact r0.o); rintro e w7 ⟨P0, rfl, J0, hb⟩; refine ⟨_, rfl, ?_⟩; obtain ⟨j0, p0, HB⟩ := b_ (s6 (rS_ j0.o) (sY J0) hb) <| b_ (sZ J0 (ac (hB_))) <| c_ (ab (hB_) hb); obtain ⟨K0, L0, Q0⟩ := s7 p0.o; subst Q0) | ((refine aU (b := .append) (xs := #[.tmp 12, .tmp 15]) rfl ?_); at_builtin; refine tE (Kd.slice 3 (Kd.int .i64)) (w0 := w) w.heap.size rfl (.tmp 12) (.tmp 15) 46 28 (.slice none 0 0) 24 rfl Tryz.underlying46 gg rfl (by decide) (by omega) u3 k0 n0 [.slice K0 n0.length L0] (fun _ => True) (fun k_ => some k_ = (.slice K0 n0.length L0 : Value).ownBlock) rfl rfl ?aP (fun k_ hk_ => ((s9 (ok' := fun k_ => ((fun _ => True)) k_ ∧ some k_ ≠ (u3 : Value).ownBlock) (th (p0.o) (tk j0.o) (by decide)) (fun k_ hk => ⟨trivial, hk.2⟩))).1 k_ hk_.symm) ?aF ?aO ?aB ?aS ?aL ?_; (case aP => exact t9 (s9 (tG rfl (s9 (ok' := fun k_ => ((fun _ => True)) k_ ∧ some k_ ≠ (u3 : Value).ownBlock) (th (p0.o) (tk j0.o) (by decide)) (fun k_ hk => ⟨trivial, hk.2⟩))) (fun _ h_ => h_))); (case aB => exact (hB_)); (case aF => exact (fun _ _ => trivial)); (case aO => exact (by refine kS_ ?_; exact tq j0.o (fun k_ hk => ⟨trivial, fun e_ => hk.2 e_⟩))); (case aS => exact (ac (hB_))); (case aL => have := D0.o; omega); intro R0 w8 ho hb hg hat; rw [← y0.o] at ho; obtain ⟨HB, B0⟩ := b_ (hb) <| c_ (ho); clear ho hb hg hat))
 go_roundg k1
 case measure => have := H0.o; omega
 case rel => exact ⟨(E0), (wrap64 (a0 + 1)), f0_, H', ⟨by have := H0.o; omega⟩, ⟨rS_ B0.o⟩, ⟨hB_⟩⟩
def bH.l0 : Nat → Int → Int → Int → Option (Int)
 | 0, _, _, _ => none
 | k + 1, x3, x4, x5 => if x5 < x4 then (if (wrap64 (x3 * 2)) ≥ 256 then (bH.l0 k (Go.bits .and .i64 (Go.bits .xor .i64 (wrap64 (x3 * 2)) 113) 255) x4 (wrap64 (x5 + 1))) else (bH.l0 k (wrap64 (x3 * 2)) x4 (wrap64 (x5 + 1)))) else (some (IntKind.u64.wrap (Go.bits .and .i64 x3 1)))
def bH.f (k : Nat) (a0 : Int) : Option (Int) := bH.l0 k 1 a0 0
theorem bH.mono_l : ∀ k, (∀ y0 y1 y2, LeO (bH.l0 k y0 y1 y2) (bH.l0 (k + 1) y0 y1 y2))
 | 0 => fun _ _ _ r h => by simp [bH.l0] at h
 | k + 1 => by
  have ih0 := bH.mono_l k
  intros; unfold bH.l0; exact o1_ ih0
theorem bH.mono : ∀ a0 k, LeO (bH.f k a0) (bH.f (k + 1) a0) := by
 intro a0 k
 have ih0 := bH.mono_l k
 unfold bH.f
 exact o1_ ih0
theorem bH.calls (k : Nat) (a0 : Int) (r : Int) (w : World) (h : bH.f k a0 = some r) :
  Calls Tryz.prog 120 #[.int .i64 a0] w fun e w' => e = .returned (.int .u64 r) ∧ cx w w' := by
 delta bH.f at h
 have H := h
 clear h
 have H' := c_ H
 clear H
 go_enter Tryz.func120, Tryz.ntmps120
 go_wp2
 go_loopg [3, 5] k (fun kq v3 v5 w' => ∃ (b0 : Int) (d0 : Int), v3 = .int .i64 b0 ∧ v5 = .int .i64 d0 ∧ aa (bH.l0 kq b0 a0 d0 = some r) ∧ aa (kq ≤ k) ∧ cx w w')
 case atStart => exact ⟨(1), (0), f0_, f0_, H', ⟨Aa _⟩, d0_⟩
 clear H'
 obtain ⟨b0, d0, rfl, rfl, HA, e0, ⟨m1, rfl⟩⟩ := hrel
 rcases gk with _ | k1
 ·exact absurd HA.o (by simp [bH.l0])
 have H := HA.o
 clear HA
 simp only [bH.l0] at H
 by_cases c2 : d0 < a0
 ·rw [Da c2] at H
  have f0 := wa c2
  clear c2
  by_cases c3 : (wrap64 (b0 * 2)) ≥ 256
  ·rw [Da c3] at H
   have j0 := wa c3
   clear c3
   have H' := c_ H
   clear H
   go_wp2
   go_roundg k1
   case measure => have := e0.o; omega
   case rel => exact ⟨(Go.bits .and .i64 (Go.bits .xor .i64 (wrap64 (b0 * 2)) 113) 255), (wrap64 (d0 + 1)), f0_, f0_, H', ⟨by have := e0.o; omega⟩, d0_⟩
  rw [Ea c3] at H
  have j0 := xa c3
  clear c3
  have H' := c_ H
  clear H
  go_wp2
  go_roundg k1
  case measure => have := e0.o; omega
  case rel => exact ⟨(wrap64 (b0 * 2)), (wrap64 (d0 + 1)), f0_, f0_, H', ⟨by have := e0.o; omega⟩, d0_⟩
 rw [Ea c2] at H
 have f0 := xa c2
 clear c2
 obtain rfl := za H
 go_wp2
 go_ret
 exact ⟨f0_, d0_⟩
def bC.l0 : Nat → Int → Int → Int → Option (Int)
 | 0, _, _, _ => none
 | k + 1, x0, x3, x5 => if x5 < 7 then ((bH.f k (wrap64 (x5 + (wrap64 (7 * x0))))).bind fun t808 => (if 0 ≤ x5 then (if 0 ≤ (IntKind.u64.wrap ((shl .u64 1 x5) - 1)) then (bC.l0 k x0 (Go.bits .or .u64 x3 (shl .u64 t808 (IntKind.u64.wrap ((shl .u64 1 x5) - 1)))) (wrap64 (x5 + 1))) else (none)) else (none))) else (some x3)
def bC.f (k : Nat) (a0 : Int) : Option (Int) := bC.l0 k a0 0 0
theorem bC.mono_l : ∀ k, (∀ y0 y1 y2, LeO (bC.l0 k y0 y1 y2) (bC.l0 (k + 1) y0 y1 y2))
 | 0 => fun _ _ _ r h => by simp [bC.l0] at h
 | k + 1 => by
  have ih0 := bC.mono_l k
  intros; unfold bC.l0; exact o2_ ih0 bH.mono
theorem bC.mono : ∀ a0 k, LeO (bC.f k a0) (bC.f (k + 1) a0) := by
 intro a0 k
 have ih0 := bC.mono_l k
 unfold bC.f
 exact o2_ ih0 bH.mono
theorem bC.calls (k : Nat) (a0 : Int) (r : Int) (w : World) (h : bC.f k a0 = some r) :
  Calls Tryz.prog 117 #[.int .i64 a0] w fun e w' => e = .returned (.int .u64 r) ∧ cx w w' := by
 delta bC.f at h
 have H := h
 clear h
 have H' := c_ H
 clear H
 go_enter Tryz.func117, Tryz.ntmps117
 go_wp2
 repeat (go_quiet (fail); try go_wp2)
 go_loopg [3, 5] k (fun kq v3 v5 w' => ∃ (j0 : Int) (b0 : Int), v3 = .int .u64 j0 ∧ v5 = .int .i64 b0 ∧ aa (bC.l0 kq a0 j0 b0 = some r) ∧ aa (kq ≤ k) ∧ cx w w')
 case atStart => exact ⟨(0), (0), f0_, f0_, H', ⟨Aa _⟩, d0_⟩
 clear H'
 obtain ⟨j0, b0, rfl, rfl, HA, v0, ⟨m1, rfl⟩⟩ := hrel
 rcases gk with _ | k1
 ·exact absurd HA.o (by simp [bC.l0])
 have H := HA.o
 clear HA
 simp only [bC.l0] at H
 by_cases c2 : b0 < 7
 rotate_left
 ·rw [Ea c2] at H
  have t0 := xa c2
  clear c2
  obtain rfl := za H
  go_wp2
  repeat (go_quiet (fail); try go_wp2)
  go_ret
  exact ⟨f0_, d0_⟩
 rw [Da c2] at H
 have t0 := wa c2
 clear c2
 obtain ⟨e0, A3, H⟩ := bN_ H
 obtain ⟨c4, H⟩ := iN_ H
 have B0 := ya c4
 have C0 := wa c4
 clear c4
 obtain ⟨n0, f0⟩ : ∃ j_ : Int, (shl .u64 1 b0) = j_ := ⟨_, rfl⟩
 first | rw [f0] at H | simp only [f0] at H
 (try rw [f0] at A3)
 have p0 : (IntKind.u64.wrap (1 * 2 ^ min b0.toNat 64)) = n0 := f0
 have q0 : b0 ≤ 64 → (IntKind.u64.wrap (1 * 2 ^ b0.toNat)) = n0 := eX f0
 have hji5u : (IntKind.u64.wrap (2 ^ min b0.toNat 64)) = n0 := by have h_ := p0; rw [Int.one_mul] at h_; exact h_
 have hji5v : b0 ≤ 64 → (IntKind.u64.wrap (2 ^ b0.toNat)) = n0 := fun hle_ => by have h_ := q0 hle_; rw [Int.one_mul] at h_; exact h_
 obtain ⟨r0, k0⟩ : ∃ j_ : Int, (IntKind.u64.wrap ((n0) - 1)) = j_ := ⟨_, rfl⟩
 first | rw [k0] at H | simp only [k0] at H
 (try rw [k0] at A3)
 obtain ⟨c7, H⟩ := iN_ H
 have D0 := ya c7
 have E0 := wa c7
 clear c7
 obtain ⟨u0, d0⟩ : ∃ j_ : Int, (shl .u64 e0 (r0)) = j_ := ⟨_, rfl⟩
 first | rw [d0] at H | simp only [d0] at H
 (try rw [d0] at A3)
 have x0 : (IntKind.u64.wrap (e0 * 2 ^ min (r0).toNat 64)) = u0 := d0
 have y0 : (r0) ≤ 64 → (IntKind.u64.wrap (e0 * 2 ^ (r0).toNat)) = u0 := eX d0
 have H' := c_ H
 clear H
 go_wp2_with (first | (go_at_call 120; (with_reducible refine (bH.calls k1 (wrap64 (b0 + (wrap64 (7 * a0)))) e0 _ A3.o).mono ?_); rintro e w' ⟨rfl, ⟨nd, rfl⟩⟩; (try first | exact ⟨rfl, _, World.drewN_drewN _ _ _⟩ | exact ⟨rfl, _, Eq.trans (World.drewN_drewN _ _ _) (congrArg (World.drewN _) (Nat.add_assoc _ _ _))⟩)))
 repeat (go_quiet (first | (go_at_call 120; (with_reducible refine (bH.calls k1 (wrap64 (b0 + (wrap64 (7 * a0)))) e0 _ A3.o).mono ?_); rintro e w' ⟨rfl, ⟨nd, rfl⟩⟩; (try first | exact ⟨rfl, _, World.drewN_drewN _ _ _⟩ | exact ⟨rfl, _, Eq.trans (World.drewN_drewN _ _ _) (congrArg (World.drewN _) (Nat.add_assoc _ _ _))⟩))); try go_wp2)
 go_roundg k1
 case measure => have := v0.o; omega
 case rel => exact ⟨(Go.bits .or .u64 j0 (u0)), (wrap64 (b0 + 1)), (by first | rfl | (simp; done) | (simp only [← d0] <;> (first | rfl | simp)) | (simp [*]; done)), f0_, H', ⟨by have := v0.o; omega⟩, d0_⟩
-- NOT PRINTED: function 108 (cC)
-- NOT PRINTED: function 109 (cZ)
-- NOT PRINTED: function 110 (impl_lanes_text)
-- GIVEN: function 104 (dz)
-- GIVEN: function 103 (cX)
def cO.f (a0 : Int) : Option (ByteArray) := some (strOfNums (([(a0) % 256] : List Int)))
theorem cO.calls (a0 : Int) (r : ByteArray) (w : World) (h : cO.f a0 = some r) :
  Calls Tryz.prog 92 #[.int .i64 a0] w fun e w' => e = .returned (.string r) ∧ Below w.heap.size w w' := by
 have HB := c_ (Ba w.heap.size w)
 delta cO.f at h
 have H := h
 clear h
 obtain ⟨j0, b0⟩ : ∃ y_ : List Int, y_ = (([(a0) % 256] : List Int)) := ⟨_, rfl⟩
 first | replace H := yb_ b0 H | rw [← b0] at H
 have d0 := c_ b0
 clear b0
 obtain rfl := za H
 go_enter Tryz.func92, Tryz.ntmps92
 go_wp2_with (first | ((refine aI (N := 5) rfl ?_); refine tn (Kd.int .u8) _ 5 ?hg (N := 5) ?hd (xs := ([(a0) % 256] : List Int)) (inner := [.int .u8 ((a0) % 256)]) (ok := fun _ => True) (okp := fun _ => True) ?hr ?hp (fun _ hk => hk) trivial (Ba _ _) (Aa _) (by simp) ?_; (case hd => rfl); (case hg => rfl); (case hr => first | (go_simp; done) | (go_simp; rfl)); (case hp => exact (bA.one (show Kd.M (Kd.int .u8) _ _ _ ((a0) % 256) [.int .u8 ((a0) % 256)] from rfl) (bA.none _ _))); intro k0 w2 e0 hb hg_ hnew_; clear hg_ hnew_; (first | rw [← d0.o] at e0 | (simp only [Int.reduceToNat] at e0; rw [← d0.o] at e0)); obtain ⟨f0, HB⟩ := b_ (sZ e0 (ac (hB_))) <| c_ (ab (hB_) hb); clear hb e0; have n0 := dW (P := Tryz.prog) Tryz.underlying59 Tryz.underlying5 Tryz.underlying9 (tr f0.o)))
 go_ret
 exact ⟨f1_, hB_⟩
def bN.l0 : Nat → ByteArray → List Int → Int → Int → Option (List Int)
 | 0, _, _, _, _ => none
 | k + 1, x0, x3, x7, x8 => if x8 < x7 then (if 0 ≤ (wrap64 (Int.tdiv x8 8)) then (if (wrap64 (Int.tdiv x8 8)) < (x0.size : Int) then (if 0 ≤ (Int.tmod x8 8) then ((dA.f (wrap64 (Go.bits .and .u8 (shr .u8 (bt x0 (wrap64 (Int.tdiv x8 8))) (Int.tmod x8 8)) 1)) 1).bind fun t872 => (if 0 ≤ x8 then (if x8 < (x3.length : Int) then (bN.l0 k x0 (x3.set (x8 : Int).toNat t872) x7 (wrap64 (x8 + 1))) else (none)) else (none))) else (none)) else (none)) else (none)) else (some x3)
def bN.f (k : Nat) (a0 : ByteArray) : Option (List Int) := if 256 ≤ 35184372088832 then ((some (List.replicate 256 0 : List Int)).bind fun y869 => (bN.l0 k a0 y869 (y869.length : Int) 0)) else (none)
theorem bN.mono_l : ∀ k, (∀ y0 y1 y2 y3, LeO (bN.l0 k y0 y1 y2 y3) (bN.l0 (k + 1) y0 y1 y2 y3))
 | 0 => fun _ _ _ _ r h => by simp [bN.l0] at h
 | k + 1 => by
  have ih0 := bN.mono_l k
  intros; unfold bN.l0; exact o1_ ih0
theorem bN.mono : ∀ a0 k, LeO (bN.f k a0) (bN.f (k + 1) a0) := by
 intro a0 k
 have ih0 := bN.mono_l k
 unfold bN.f
 exact o1_ ih0
theorem bN.calls (k : Nat) (a0 : ByteArray) (r : List Int) (w : World) (h : bN.f k a0 = some r) :
  Calls Tryz.prog 59 #[.string a0] w fun e w' => ∃ S0 : Value, e = .returned (S0) ∧ Kd.R (Kd.int .i64) 3 w' w.heap.size (fun _ => True) S0 r ∧ Below w.heap.size w w' := by
 have HB := c_ (Ba w.heap.size w)
 delta bN.f at h
 have H := h
 clear h
 obtain ⟨c2, H⟩ := iN_ H
 have c1 := ya c2
 have d1 := wa c2
 clear c2
 obtain ⟨p0, k0⟩ : ∃ y_ : List Int, y_ = (List.replicate 256 0) := ⟨_, rfl⟩
 first | replace H := yb_ k0 H | rw [← k0] at H
 have u0 := c_ k0
 clear k0
 have H' := c_ H
 clear H
 go_enter Tryz.func59, Tryz.ntmps59
 go_wp2_with (first | ((refine aI (N := 5) rfl ?_); refine tw (Kd.int .i64) _ 3 rfl (N := 5) rfl 28 _ _ rfl 256 rfl rfl Tryz.underlying28 (.int .i64 0) 8 cY rfl (by decide) (by omega) 0 (ok := fun _ => True) (okp := fun _ => True) rfl (fun _ hk => hk) trivial (by omega) (by omega) (Ba _ _) (Aa _) ?_; intro e1 w3 D0 hb hg_ hnew_; clear hg_ hnew_; (first | rw [← u0.o] at D0 | (simp only [Int.reduceToNat] at D0; rw [← u0.o] at D0)); obtain ⟨v0, HB⟩ := b_ (sZ D0 (ac (hB_))) <| c_ (ab (hB_) hb); clear hb D0; obtain ⟨T0, J0, f1⟩ := s7 v0.o; subst f1))
 go_loopg [8] k (fun kq v8 w' => ∃ (f0 : List Int) (b0 : Int), v8 = .int .i64 b0 ∧ aa (bN.l0 kq a0 f0 (p0.length : Int) b0 = some r) ∧ aa (kq ≤ k) ∧ aa (Kd.R (Kd.int .i64) 3 w' w.heap.size (fun _ => True) (.slice T0 p0.length J0) f0) ∧ aa (Below w.heap.size w w'))
 case atStart => exact ⟨(p0), (0), f0_, H', ⟨Aa _⟩, ⟨rR_ v0.o⟩, ⟨hB_⟩⟩
 clear H'
 obtain ⟨f0, b0, rfl, HA, U0, d0, HB⟩ := hrel
 have e0 := (sX d0.o).1
 rw [e0] at d0
 (try simp only [e0])
 rcases gk with _ | k1
 ·exact absurd HA.o (by simp [bN.l0])
 have H := HA.o
 clear HA
 simp only [bN.l0] at H
 by_cases c6 : b0 < (p0.length : Int)
 rotate_left
 ·rw [Ea c6] at H
  have y0 := xa c6
  (try simp only [e0] at y0)
  clear c6
  obtain rfl := za H
  go_wp2
  go_ret
  exact ⟨_, f1_, rR_ d0.o, hB_⟩
 rw [Da c6] at H
 have y0 := wa c6
 (try simp only [e0] at y0)
 clear c6
 obtain ⟨B0, C0⟩ : ∃ j_ : Int, (wrap64 (Int.tdiv b0 8)) = j_ := ⟨_, rfl⟩
 first | rw [C0] at H | simp only [C0] at H
 have V0 : (IntKind.i64.wrap (Int.tdiv b0 8)) = B0 := (bv _).trans C0
 obtain ⟨g1, H⟩ := iD_ H
 obtain ⟨i1, H⟩ := iD_ H
 obtain ⟨q0, x0⟩ : ∃ j_ : Int, (Int.tmod b0 8) = j_ := ⟨_, rfl⟩
 first | rw [x0] at H | simp only [x0] at H
 obtain ⟨K0, H⟩ := iN_ H
 have W0 := ya K0
 have X0 := wa K0
 clear K0
 obtain ⟨r0, j0⟩ : ∃ j_ : Int, (shr .u8 (bt a0 (B0)) (q0)) = j_ := ⟨_, rfl⟩
 first | rw [j0] at H | simp only [j0] at H
 have L0 : ((bt a0 (B0)) / 2 ^ min (q0).toNat 8) = r0 := j0
 have M0 : (q0) ≤ 8 → ((bt a0 (B0)) / 2 ^ (q0).toNat) = r0 := fN j0
 obtain ⟨t0, j1, H⟩ := bN_ H
 obtain ⟨Y0, H⟩ := iD_ H
 obtain ⟨Z0, H⟩ := iN_ H
 have E0 := wa Z0
 (try simp only [e0] at E0)
 clear Z0
 obtain ⟨F0, n0⟩ : ∃ y_ : List Int, y_ = (f0.set (b0 : Int).toNat t0) := ⟨_, rfl⟩
 first | replace H := yb_ n0 H | rw [← n0] at H
 have G0 := c_ n0
 clear n0
 have H' := c_ H
 clear H
 have n1 := ya (oD_ : 0 ≤ ((B0) : Int))
 have p1 := ya (oD_ : (B0) < (a0.size : Int))
 have l1 := cP a0 (B0)
 go_wp2_with (first | ((with_reducible refine dM (f := 85) rfl ?_); refine gm (some 22) rfl rfl Tryz.func85 (by kernel_rfl) rfl #[.int .i64 (wrap64 (Go.bits .and .u8 (r0) 1)), .int .i64 1] rfl (by (try simp only [List.map_toArray, List.map_cons, List.map_nil]); first | done | (simp only [j0]; rfl) | rfl | (simp only [List.length_drop, List.length_take]; rfl)) ?_; (with_reducible refine (dA.calls (wrap64 (Go.bits .and .u8 (r0) 1)) 1 t0 _ j1.o).mono ?_); rintro e w' ⟨rfl, ⟨nd, rfl⟩⟩; refine ⟨_, rfl, ?_⟩; (try (rw [da wr]; generalize hq_ : World.drewN wr _ = wr; obtain ⟨d0, HB⟩ := b_ (show Kd.R (Kd.int .i64) 3 wr w.heap.size (fun _ => True) (.slice T0 f0.length J0) f0 from by rw [← hq_]; exact (rR_ d0.o)) <| c_ (show Below w.heap.size w wr from by rw [← hq_]; exact (hB_)))); have N0 : 0 ≤ (b0 : Int) := oD_; have O0 : (b0 : Int) < ((f0.length : Int) : Int) := oD_; obtain ⟨go17, m1, H0, I0, gl17, cl17, HG17⟩ := tt d0.o (by omega); (first | cases H0 | (injection H0 with ea_ en_ ec_; (first | subst ea_ | (injection ea_ with ea_; subst ea_)); subst ec_; clear en_)); have P0 := c_ I0; have GG17 := c_ HG17; clear I0 gl17 HG17; obtain ⟨Q0, hf17_0⟩ := te 0 d0.o (b0 : Int) N0 O0; replace N0 := ya N0; replace O0 := ya O0; obtain ⟨b1, hz18_⟩ := te 0 d0.o (b0 : Int) oD_ oD_; have HP18 := tm d0.o (b0 : Int) t0) | ((refine cn (t := 3) (p := 23) rfl ?_); refine ce (t := 3) (p := 23) (v := ?vo_w19) (w1 := (wr.setCell ⟨go17, (b0 : Int).toNat, none⟩ (.int .i64 t0))) ?hg ?ho ?hn ?hr ?_; (case ho => rfl); (case hg => rfl); (case hn => rfl); (case hr => first | (go_simp; done) | (go_simp; rfl)); intro R0 hw; have hg : wr.grownBy R0 (some go17) := (by rw [hw]; exact HP18.2); have hp_ : Kd.R (Kd.int .i64) 3 R0 w.heap.size (fun _ => True) (.slice (some ⟨go17, 0, none⟩) f0.length J0) F0 := (by rw [hw, G0.o]; exact HP18.1); clear HP18; obtain ⟨d0, HB⟩ := b_ (hp_) <| c_ (by rw [hw]; exact cq (HB.o) P0.o : Below w.heap.size w R0); clear hg hw hp_))
 (try simp only [← e0])
 go_roundg k1
 case measure => have := U0.o; omega
 case rel => exact ⟨(F0), (wrap64 (b0 + 1)), f0_, H', ⟨by have := U0.o; omega⟩, ⟨by (try simp only [e0]); refine kR_ ?_; exact d0.o⟩, ⟨hB_⟩⟩
end Go.Proofs.YtooanbpkknlmjaaGreatDoor.P
