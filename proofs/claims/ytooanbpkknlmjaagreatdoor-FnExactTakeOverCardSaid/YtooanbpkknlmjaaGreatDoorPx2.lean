-- printed texts of this session, regrouped
import Derived.Test.YtooanbpkknlmjaaGreatDoorPx1
namespace Go.Proofs.YtooanbpkknlmjaaGreatDoor.P
open Go.RowKit YtooanbpkknlmjaaGreatDoorW.PrintWords YtooanbpkknlmjaaGreatDoorW.PrintLast YtooanbpkknlmjaaGreatDoorW.PrintMore
open Kd
attribute [local go_sem] dZ d4 eE ev dx dy dV dX
set_option linter.unusedVariables false
set_option linter.unusedSimpArgs false
set_option maxHeartbeats 8000000
set_option maxRecDepth 100000
mutual
def az.j0 : Nat → List Int → List Int → List Int → Bool → Option (List Int)
 | 0, _, _, _, _ => none
 | k + 1, x0, x1, x5, x17 => if x17 = true then (some x5) else (az.l0 k x0 x1 x5 0)
def az.l0 : Nat → List Int → List Int → List Int → Int → Option (List Int)
 | 0, _, _, _, _ => none
 | k + 1, x0, x1, x5, x6 => if x6 < 128 then ((bi.f k x6).bind fun t215 => ((br.f k 17 (wrap64 ((wrap64 (2 * t215)) + 1))).bind fun t216 => (if 0 ≤ (wrap64 ((wrap64 (2 * x6)) + 1)) then (if (wrap64 ((wrap64 (2 * x6)) + 1)) < (x0.length : Int) then (if (wrap64 ((wrap64 (2 * x6)) + 1)) < (x1.length : Int) then (if 0 ≤ (wrap64 (2 * x6)) then (if (wrap64 (2 * x6)) < (x0.length : Int) then (if (wrap64 (2 * x6)) < (x1.length : Int) then ((some (([Int.tmod (wrap64 ((wrap64 ((rd x0 (wrap64 (2 * x6))) * (rd x1 (wrap64 (2 * x6))))) + (wrap64 ((Int.tmod (wrap64 ((rd x0 (wrap64 ((wrap64 (2 * x6)) + 1))) * (rd x1 (wrap64 ((wrap64 (2 * x6)) + 1))))) 3329) * t216)))) 3329, Int.tmod (wrap64 ((wrap64 ((rd x0 (wrap64 (2 * x6))) * (rd x1 (wrap64 ((wrap64 (2 * x6)) + 1))))) + (wrap64 ((rd x0 (wrap64 ((wrap64 (2 * x6)) + 1))) * (rd x1 (wrap64 (2 * x6))))))) 3329] : List Int) : List Int)).bind fun y225 => (if x5.length + y225.length < 17592186044416 then (az.l0 k x0 x1 (x5 ++ y225) (wrap64 (x6 + 1))) else (none))) else (none)) else (none)) else (none)) else (none)) else (none)) else (none)))) else (some x5)
end
def az.f (k : Nat) (l0 : List Int) (l1 : List Int) : Option (List Int) := (some (([] : List Int) : List Int)).bind fun y210 => ((ao.f k l0).bind fun t213 => (if t213 = true then ((ao.f k l1).bind fun t214 => (az.j0 k l0 l1 y210 (!t214))) else (az.j0 k l0 l1 y210 true)))
theorem az.mono_l : ∀ k, (∀ y0 y1 y2 y3, LeO (az.j0 k y0 y1 y2 y3) (az.j0 (k + 1) y0 y1 y2 y3)) ∧ (∀ y0 y1 y2 y3, LeO (az.l0 k y0 y1 y2 y3) (az.l0 (k + 1) y0 y1 y2 y3))
 | 0 => ⟨fun _ _ _ _ r h => by simp [az.j0] at h, fun _ _ _ _ r h => by simp [az.l0] at h⟩
 | k + 1 => by
  obtain ⟨ih0, ih1⟩ := az.mono_l k
  refine ⟨?_, ?_⟩ <;> (intros; (first | unfold az.j0 | unfold az.l0); exact o5_ ih0 ih1 ao.mono br.mono bi.mono)
theorem az.mono : ∀ a0 a1 k, LeO (az.f k a0 a1) (az.f (k + 1) a0 a1) := by
 intro a0 a1 k
 obtain ⟨ih0, ih1⟩ := az.mono_l k
 unfold az.f
 exact o5_ ih0 ih1 ao.mono br.mono bi.mono
def az.T8 : Bool × List (List Nat × List Nat) := (true, [([], []), ([], []), ([1], [1]), ([2], [2]), ([0, 3], [0, 3]), ([4], [4]), ([], []), ([], []), ([7], [7]), ([8], [8]), ([6, 9], [6, 9]), ([10], [10]), ([5, 11], [5, 11]), ([12], [12]), ([], []), ([13, 14], [13, 14]), ([15, 0, 1, 2, 3, 4, 5, 6, 7, 8, 9, 10, 11, 12, 13, 14, 15], [15])])
def az.B8 : List Nat := [0, 0, 2, 6, 15, 31, 0, 0, 128, 384, 960, 1984, 4095, 8191, 0, 32767, 65535]
theorem az.tab8 : d8 .any (fb Tryz.f70 8) = az.T8 := by kernel_rfl
theorem az.bits8 : db az.T8.2 az.B8 = true := by kernel_rfl
def az.T9 : Bool × List (List Nat × List Nat) := (true, [([], []), ([], []), ([], []), ([2], [2]), ([1, 3], [1, 3]), ([4], [4]), ([], []), ([], []), ([7], [7]), ([6, 8], [6, 8]), ([9], [9]), ([5, 10], [5, 10]), ([], []), ([11, 12], [11, 12]), ([13], [13]), ([], []), ([], []), ([16], [16]), ([15, 17], [15, 17]), ([18], [18]), ([], []), ([], []), ([21], [21]), ([22], [22]), ([20, 23], [20, 23]), ([24], [24]), ([19, 25], [19, 25]), ([], []), ([], []), ([28], [28]), ([29], [29]), ([27, 30], [27, 30]), ([31], [31]), ([], []), ([], []), ([34], [34]), ([33, 35], [33, 35]), ([36], [36]), ([32, 37], [32, 37]), ([26, 38], [26, 38]), ([39], [39]), ([14, 40], [14, 40]), ([0, 41], [0, 41]), ([42, 42, 0, 1, 2, 3, 4, 5, 6, 7, 8, 9, 10, 11, 12, 13, 14, 15, 16, 17, 18, 19, 20, 21, 22, 23, 24, 25, 26, 27, 28, 29, 30, 31, 32, 33, 34, 35, 36, 37, 38, 39, 40, 41, 42], [0, 42])])
def az.B9 : List Nat := [0, 0, 0, 4, 14, 30, 0, 0, 128, 448, 960, 2046, 0, 8190, 16382, 0, 0, 65536, 229376, 491520, 0, 0, 2097152, 6291456, 15728640, 32505856, 67076096, 0, 0, 268435456, 805306368, 2013265920, 4160749568, 0, 0, 17179869184, 60129542144, 128849018880, 274743689216, 549755781120, 1099511595008, 2199023255550, 4398046511103, 8796093022207]
theorem az.tab9 : d8 .any (fb Tryz.f70 9) = az.T9 := by kernel_rfl
theorem az.bits9 : db az.T9.2 az.B9 = true := by kernel_rfl
theorem az.calls (k : Nat) (A0 : Option Addr) (c0 : Nat) (l0 : List Int) (A1 : Option Addr) (c1 : Nat) (l1 : List Int) (r : List Int) (w : World) (hr0 : Kd.C (Kd.int .i64) w A0 l0.length l0) (hc0 : l0.length ≤ c0) (hr1 : Kd.C (Kd.int .i64) w A1 l1.length l1) (hc1 : l1.length ≤ c1) (h : az.f k l0 l1 = some r) :
  Calls Tryz.prog 70 #[.slice A0 l0.length c0, .slice A1 l1.length c1] w fun e w' => ∃ m2 : Value, e = .returned (m2) ∧ Kd.R (Kd.int .i64) 3 w' w.heap.size (fun _ => True) m2 r ∧ Below w.heap.size w w' := by
 have z1 := c_ hr0
 have n2 := c_ hc0
 clear hr0 hc0
 have C1 := c_ hr1
 have C2 := c_ hc1
 clear hr1 hc1
 have HB := c_ (Ba w.heap.size w)
 delta az.f at h
 have H := h
 clear h
 obtain ⟨V0, J0⟩ : ∃ y_ : List Int, y_ = (([] : List Int)) := ⟨_, rfl⟩
 first | replace H := yb_ J0 H | rw [← J0] at H
 have S0 := c_ J0
 clear J0
 have Q1 := c_ H
 clear H
 go_enter Tryz.func70, Tryz.ntmps70
 go_upto_region 2 with (first | ((refine aI (N := 9) rfl ?_); refine tn (Kd.int .i64) _ 3 ?hg (N := 9) ?hd (xs := ([] : List Int)) (inner := []) (ok := fun _ => True) (okp := fun _ => True) ?hr ?hp (fun _ hk => hk) trivial (Ba _ _) (Aa _) (by simp) ?_; (case hd => rfl); (case hg => rfl); (case hr => first | (go_simp; done) | (go_simp; rfl)); (case hp => exact (bA.none _ _)); intro R1 w4 D1 hb hg_ hnew_; clear hg_ hnew_; (first | rw [← S0.o] at D1 | (simp only [Int.reduceToNat] at D1; rw [← S0.o] at D1)); obtain ⟨T0, HB⟩ := b_ (sZ D1 (ac (hB_))) <| c_ (ab (hB_) hb); clear hb D1))
 (try simp only [Act.put, List.setIfInBounds_toArray, List.set_cons_zero, List.set_cons_succ])
 go_cut [17] (fun D2 wc => ∃ (kq : Nat) (K0 : Bool), D2 = .bool K0 ∧ aa (az.j0 kq l0 l1 V0 K0 = some r) ∧ aa (kq ≤ k) ∧ aa (Kd.R (Kd.int .i64) 3 wc w.heap.size (fun _ => True) R1 V0) ∧ aa (Below w.heap.size w wc))
 case first =>
  have H := Q1.o
  clear Q1
  obtain ⟨S1, A6, H⟩ := bN_ H
  by_cases c7 : S1 = true
  ·subst c7
   replace H := iT_ H
   obtain ⟨E1, A8, H⟩ := bN_ H
   have H' := c_ H
   clear H
   go_wp2_with (first | (refine gq_ 65 (some 11) Tryz.func65 #[.slice A0 l0.length c0] (ao.calls k _ _ l0 true _ ?side1 ?side2 A6.o) ?_; (case side1 => exact cR_ (tg z1.o HB.o)); (case side2 => exact n2.o); rintro e w' ⟨rfl, ⟨nd, rfl⟩⟩; refine ⟨_, rfl, ?_⟩) | (go_at_call 65; (with_reducible refine (ao.calls k _ _ l1 E1 _ ?side1 ?side2 A8.o).mono ?_); (case side1 => exact cR_ (tg C1.o (hB_))); (case side2 => exact C2.o); rintro e w' ⟨rfl, ⟨nd, rfl⟩⟩))
   go_meet
   case rel => exact ⟨_, (!E1), f0_, H', ⟨by first | omega | exact Aa _⟩, ⟨rR_ T0.o⟩, ⟨hB_⟩⟩
  ·replace c7 := Ca c7
   subst c7
   replace H := iF_ H
   have H' := c_ H
   clear H
   go_wp2_with (first | (refine gq_ 65 (some 11) Tryz.func65 #[.slice A0 l0.length c0] (ao.calls k _ _ l0 false _ ?side1 ?side2 A6.o) ?_; (case side1 => exact cR_ (tg z1.o HB.o)); (case side2 => exact n2.o); rintro e w' ⟨rfl, ⟨nd, rfl⟩⟩; refine ⟨_, rfl, ?_⟩))
   go_meet
   case rel => exact ⟨_, (true), f0_, H', ⟨by first | omega | exact Aa _⟩, ⟨rR_ T0.o⟩, ⟨hB_⟩⟩
 clear Q1
 obtain ⟨kq, K0, rfl, HA, p2, d0, HB⟩ := hcut
 rcases kq with _ | q2
 ·exact absurd HA.o (by simp [az.j0])
 have H := HA.o
 clear HA
 simp only [az.j0] at H
 by_cases c9 : K0 = true
 ·subst c9
  replace H := iT_ H
  obtain rfl := za H
  go_wp2
  go_ret
  exact ⟨_, f1_, rR_ d0.o, hB_⟩
 ·replace c9 := Ca c9
  subst c9
  replace H := iF_ H
  have H' := c_ H
  clear H
  go_wp2
  go_loopg [5, 6] q2 (fun kq v5 v6 w' => ∃ (N0 : List Int) (u0 : Int), v6 = .int .i64 u0 ∧ aa (az.l0 kq l0 l1 N0 u0 = some r) ∧ aa (kq ≤ q2) ∧ aa (Kd.R (Kd.int .i64) 3 w' w.heap.size (fun _ => True) v5 N0) ∧ aa (Below w.heap.size w w'))
  case atStart => exact ⟨(V0), (0), f0_, H', ⟨Aa _⟩, ⟨rR_ d0.o⟩, ⟨hB_⟩⟩
  clear H'
  obtain ⟨N0, u0, rfl, HA, r2, d0, HB⟩ := hrel
  rcases gk with _ | k2
  ·exact absurd HA.o (by simp [az.l0])
  have H := HA.o
  clear HA
  simp only [az.l0] at H
  by_cases B1 : u0 < 128
  rotate_left
  ·rw [Ea B1] at H
   have F1 := xa B1
   clear B1
   obtain rfl := za H
   go_wp2
   go_ret
   exact ⟨_, f1_, rR_ d0.o, hB_⟩
  rw [Da B1] at H
  have F1 := wa B1
  clear B1
  obtain ⟨W0, T1, H⟩ := bN_ H
  obtain ⟨O0, U1, H⟩ := bN_ H
  obtain ⟨a0, y0⟩ : ∃ j_ : Int, (wrap64 ((wrap64 (2 * u0)) + 1)) = j_ := ⟨_, rfl⟩
  first | rw [y0] at H | simp only [y0] at H
  (try rw [y0] at T1)
  (try rw [y0] at U1)
  have V1 : (IntKind.i64.wrap ((wrap64 (2 * u0)) + 1)) = a0 := (bv _).trans y0
  obtain ⟨t2, H⟩ := iD_ H
  obtain ⟨u2, H⟩ := iD_ H
  obtain ⟨v2, H⟩ := iD_ H
  obtain ⟨b0, B0⟩ : ∃ j_ : Int, (wrap64 (2 * u0)) = j_ := ⟨_, rfl⟩
  first | rw [B0] at H | simp only [B0] at H
  (try rw [B0] at T1)
  (try rw [B0] at U1)
  have X1 : (IntKind.i64.wrap (2 * u0)) = b0 := (bv _).trans B0
  have hji13_ji17 : wrap64 (b0 + 1) = a0 := by rw [← B0]; exact y0
  have hji13_ji17w : IntKind.i64.wrap (b0 + 1) = a0 := (bv _).trans hji13_ji17
  obtain ⟨y2, H⟩ := iD_ H
  obtain ⟨z2, H⟩ := iD_ H
  obtain ⟨A2, H⟩ := iD_ H
  obtain ⟨X0, L0⟩ : ∃ y_ : List Int, y_ = (([Int.tmod (wrap64 ((wrap64 ((rd l0 (b0)) * (rd l1 (b0)))) + (wrap64 ((Int.tmod (wrap64 ((rd l0 (a0)) * (rd l1 (a0)))) 3329) * O0)))) 3329, Int.tmod (wrap64 ((wrap64 ((rd l0 (b0)) * (rd l1 (a0)))) + (wrap64 ((rd l0 (a0)) * (rd l1 (b0)))))) 3329] : List Int)) := ⟨_, rfl⟩
  first | replace H := yb_ L0 H | rw [← L0] at H
  have U0 := c_ L0
  clear L0
  obtain ⟨B2, H⟩ := iN_ H
  have G1 := c_ B2
  clear B2
  obtain ⟨Y1, M0⟩ : ∃ y_ : List Int, y_ = (N0 ++ X0) := ⟨_, rfl⟩
  first | replace H := yb_ M0 H | rw [← M0] at H
  have H1 := c_ M0
  clear M0
  have H' := c_ H
  clear H
  try go_wp2_with (first | (refine gq_ 67 (some 24) Tryz.func67 #[.int .i64 u0] (bi.calls k2 u0 W0 _ T1.o) ?_; rintro e w' ⟨rfl, ⟨nd, rfl⟩⟩; refine ⟨_, rfl, ?_⟩) | (refine gq_ 66 (some 27) Tryz.func66 #[.int .i64 17, .int .i64 (wrap64 ((wrap64 (2 * W0)) + 1))] (br.calls k2 17 (wrap64 ((wrap64 (2 * W0)) + 1)) O0 _ U1.o) ?_; rintro e w' ⟨rfl, ⟨nd, rfl⟩⟩; refine ⟨_, rfl, ?_⟩))
  (try (rw [da wr]; generalize hq_ : World.drewN wr _ = wr; obtain ⟨d0, HB⟩ := b_ (show Kd.R (Kd.int .i64) 3 wr w.heap.size (fun _ => True) u5 N0 from by rw [← hq_]; exact (rR_ d0.o)) <| c_ (show Below w.heap.size w wr from by rw [← hq_]; exact (hB_))))
  obtain ⟨d0, HB⟩ := b_ (tl d0.o) <| c_ (b8 HB.o)
  have Y0 : 0 ≤ ((a0) : Int) := oD_
  have Z0 : (a0) < (l0.length : Int) := oD_
  obtain ⟨v0, Z1, e0⟩ := tb z1.o (a0) Y0 Z0
  have Q0 := e0
  cases Z1
  replace e0 := hc_ e0
  replace Y0 := ya Y0
  replace Z0 := ya Z0
  have b1 : 0 ≤ ((a0) : Int) := oD_
  have d1 : (a0) < (l1.length : Int) := oD_
  obtain ⟨x0, b2, f0⟩ := tb C1.o (a0) b1 d1
  have R0 := f0
  cases b2
  replace f0 := hc_ f0
  replace b1 := ya b1
  replace d1 := ya d1
  refine d9 (n := 17) (S := fun w' => w'.cell? (v0.add ((a0)).toNat) = some (.int .i64 (rd l0 (a0))) ∧ w'.cell? (x0.add ((a0)).toNat) = some (.int .i64 (rd l1 (a0)))) (ds := []) (bb_ 17 0) (by kernel_rfl) rfl rfl ⟨(hc_ Q0), (hc_ R0)⟩ (fun hHeld => ?_); refine cN az.tab8 az.bits8 (fun HT_ HW_ => ?_)
  generalize wr.drew = E2 at d0 HB e0 f0 hHeld ⊢
  refine pT_ 0 28 17 1 ?_
  refine pT_ 1 29 17 3 ?_
  refine pT_ 2 30 17 7 ?_
  refine pT_ 3 31 17 15 ?_
  refine pT_ 4 32 17 31 ?_
  refine pT_ 6 34 17 95 ?_
  refine pT_ 7 35 17 223 ?_
  refine pT_ 8 36 17 479 ?_
  refine pT_ 9 37 17 991 ?_
  refine pT_ 10 38 17 2015 ?_
  refine pT_ 14 42 17 18399 ?_
  refine tS_ 5 33 (bb_ 17 18431) (bx HT_.o HW_.o (by kernel_rfl)) hHeld ?_
  refine tS_ 11 39 (bb_ 17 20479) (bx HT_.o HW_.o (by kernel_rfl)) hHeld ?_
  refine pT_ 12 40 17 24575 ?_
  refine pT_ 13 41 17 32767 ?_
  refine pT_ 15 43 17 65535 ?_
  refine pT_ 16 8 17 131071 ?_
  refine fc (du HT_.o (by kernel_rfl)) ?_
  try go_wp2
  obtain ⟨d0, HB⟩ := b_ (tl d0.o) <| c_ (b8 HB.o)
  have e1 : 0 ≤ ((b0) : Int) := oD_
  have f1 : (b0) < (l0.length : Int) := oD_
  obtain ⟨I1, c2, k0⟩ := tb z1.o (b0) e1 f1
  have C0 := k0
  obtain rfl : v0 = I1 := (by injection c2)
  replace k0 := hc_ k0
  replace e1 := ya e1
  replace f1 := ya f1
  have g1 : 0 ≤ ((b0) : Int) := oD_
  have i1 : (b0) < (l1.length : Int) := oD_
  obtain ⟨J1, d2, n0⟩ := tb C1.o (b0) g1 i1
  have D0 := n0
  obtain rfl : x0 = J1 := (by injection d2)
  replace n0 := hc_ n0
  replace g1 := ya g1
  replace i1 := ya i1
  have j1 : 0 ≤ ((b0) : Int) := oD_
  have m1 : (b0) < (l0.length : Int) := oD_
  obtain ⟨K1, e2, p0⟩ := tb z1.o (b0) j1 m1
  have E0 := p0
  obtain rfl : v0 = K1 := (by injection e2)
  replace p0 := hc_ p0
  replace j1 := ya j1
  replace m1 := ya m1
  have n1 : 0 ≤ ((a0) : Int) := oD_
  have p1 : (a0) < (l1.length : Int) := oD_
  obtain ⟨L1, f2, q0⟩ := tb C1.o (a0) n1 p1
  have F0 := q0
  obtain rfl : x0 = L1 := (by injection f2)
  replace q0 := hc_ q0
  replace n1 := ya n1
  replace p1 := ya p1
  have q1 : 0 ≤ ((a0) : Int) := oD_
  have r1 : (a0) < (l0.length : Int) := oD_
  obtain ⟨M1, g2, r0⟩ := tb z1.o (a0) q1 r1
  have G0 := r0
  obtain rfl : v0 = M1 := (by injection g2)
  replace r0 := hc_ r0
  replace q1 := ya q1
  replace r1 := ya r1
  have t1 : 0 ≤ ((b0) : Int) := oD_
  have y1 : (b0) < (l1.length : Int) := oD_
  obtain ⟨N1, i2, t0⟩ := tb C1.o (b0) t1 y1
  have H0 := t0
  obtain rfl : x0 = N1 := (by injection i2)
  replace t0 := hc_ t0
  replace t1 := ya t1
  replace y1 := ya y1
  refine d9 (n := 44) (S := fun w' => w'.cell? (v0.add ((b0)).toNat) = some (.int .i64 (rd l0 (b0))) ∧ w'.cell? (x0.add ((b0)).toNat) = some (.int .i64 (rd l1 (b0))) ∧ w'.cell? (v0.add ((b0)).toNat) = some (.int .i64 (rd l0 (b0))) ∧ w'.cell? (x0.add ((a0)).toNat) = some (.int .i64 (rd l1 (a0))) ∧ w'.cell? (v0.add ((a0)).toNat) = some (.int .i64 (rd l0 (a0))) ∧ w'.cell? (x0.add ((b0)).toNat) = some (.int .i64 (rd l1 (b0)))) (ds := []) (bb_ 44 0) (by kernel_rfl) rfl rfl ⟨(hc_ C0), (hc_ D0), (hc_ E0), (hc_ F0), (hc_ G0), (hc_ H0)⟩ (fun hHeld => ?_); refine cN az.tab9 az.bits9 (fun HT_ HW_ => ?_)
  generalize E2.drew = H2 at d0 HB k0 n0 p0 q0 r0 t0 hHeld ⊢
  refine pT_ 0 44 44 1 ?_
  refine pT_ 1 45 44 3 ?_
  refine pT_ 2 46 44 7 ?_
  refine pT_ 3 47 44 15 ?_
  refine pT_ 4 48 44 31 ?_
  refine pT_ 6 50 44 95 ?_
  refine pT_ 7 51 44 223 ?_
  refine pT_ 8 52 44 479 ?_
  refine pT_ 9 53 44 991 ?_
  refine pT_ 12 56 44 5087 ?_
  refine pT_ 15 59 44 37855 ?_
  refine pT_ 16 60 44 103391 ?_
  refine pT_ 17 61 44 234463 ?_
  refine pT_ 18 62 44 496607 ?_
  refine pT_ 20 64 44 1545183 ?_
  refine pT_ 21 65 44 3642335 ?_
  refine pT_ 22 66 44 7836639 ?_
  refine pT_ 23 67 44 16225247 ?_
  refine pT_ 24 68 44 33002463 ?_
  refine pT_ 27 71 44 167220191 ?_
  refine pT_ 28 72 44 435655647 ?_
  refine pT_ 29 73 44 972526559 ?_
  refine pT_ 30 74 44 2046268383 ?_
  refine pT_ 31 75 44 4193752031 ?_
  refine pT_ 33 77 44 12783686623 ?_
  refine pT_ 34 78 44 29963555807 ?_
  refine pT_ 35 79 44 64323294175 ?_
  refine pT_ 36 80 44 133042770911 ?_
  refine tS_ 5 49 (bb_ 44 133042770943) (bx HT_.o HW_.o (by kernel_rfl)) hHeld ?_
  refine tS_ 10 54 (bb_ 44 133042771967) (bx HT_.o HW_.o (by kernel_rfl)) hHeld ?_
  refine pT_ 11 55 44 133042774015 ?_
  refine pT_ 13 57 44 133042782207 ?_
  refine pT_ 14 58 44 133042798591 ?_
  refine tS_ 19 63 (bb_ 44 133043322879) (bx HT_.o HW_.o (by kernel_rfl)) hHeld ?_
  refine tS_ 25 69 (bb_ 44 133076877311) (bx HT_.o HW_.o (by kernel_rfl)) hHeld ?_
  refine pT_ 26 70 44 133143986175 ?_
  refine tS_ 32 76 (bb_ 44 137438953471) (bx HT_.o HW_.o (by kernel_rfl)) hHeld ?_
  refine tS_ 37 81 (bb_ 44 274877906943) (bx HT_.o HW_.o (by kernel_rfl)) hHeld ?_
  refine pT_ 38 82 44 549755813887 ?_
  refine pT_ 39 83 44 1099511627775 ?_
  refine pT_ 40 84 44 2199023255551 ?_
  refine fC (i := 41) (N := some 85) (bb_ 44 4398046511103) rfl rfl (cD HT_.o (by kernel_rfl)) (by decide) (fun K hK => ?_)
  refine uw (Kd.int .i64) _ 3 ?hg (N := 85) ?hd (xs := ([Int.tmod (wrap64 ((wrap64 ((rd l0 (b0)) * (rd l1 (b0)))) + (wrap64 ((Int.tmod (wrap64 ((rd l0 (a0)) * (rd l1 (a0)))) 3329) * O0)))) 3329, Int.tmod (wrap64 ((wrap64 ((rd l0 (b0)) * (rd l1 (a0)))) + (wrap64 ((rd l0 (a0)) * (rd l1 (b0)))))) 3329] : List Int)) (inner := [.int .i64 (Int.tmod (wrap64 ((wrap64 ((rd l0 (b0)) * (rd l1 (b0)))) + (wrap64 ((Int.tmod (wrap64 ((rd l0 (a0)) * (rd l1 (a0)))) 3329) * O0)))) 3329), .int .i64 (Int.tmod (wrap64 ((wrap64 ((rd l0 (b0)) * (rd l1 (a0)))) + (wrap64 ((rd l0 (a0)) * (rd l1 (b0)))))) 3329)]) (ok := fun _ => True) (okp := fun _ => True) ?hr ?hp (fun _ hk => hk) trivial (Ba _ _) (Aa _) (by simp) ?_; (case hd => rfl); (case hg => rfl); (case hr => first | (go_simp; done) | (go_simp; rfl)); (case hp => exact (bA.one (show Kd.M (Kd.int .i64) _ _ _ (Int.tmod (wrap64 ((wrap64 ((rd l0 (b0)) * (rd l1 (b0)))) + (wrap64 ((Int.tmod (wrap64 ((rd l0 (a0)) * (rd l1 (a0)))) 3329) * O0)))) 3329) [.int .i64 (Int.tmod (wrap64 ((wrap64 ((rd l0 (b0)) * (rd l1 (b0)))) + (wrap64 ((Int.tmod (wrap64 ((rd l0 (a0)) * (rd l1 (a0)))) 3329) * O0)))) 3329)] from rfl) (bA.one (show Kd.M (Kd.int .i64) _ _ _ (Int.tmod (wrap64 ((wrap64 ((rd l0 (b0)) * (rd l1 (a0)))) + (wrap64 ((rd l0 (a0)) * (rd l1 (b0)))))) 3329) [.int .i64 (Int.tmod (wrap64 ((wrap64 ((rd l0 (b0)) * (rd l1 (a0)))) + (wrap64 ((rd l0 (a0)) * (rd l1 (b0)))))) 3329)] from rfl) (bA.none _ _))))
  intro F2 I2 P0 hb hg_ hnew_
  clear hg_ hnew_
  (first | rw [← U0.o] at P0 | (simp only [Int.reduceToNat] at P0; rw [← U0.o] at P0))
  obtain ⟨d0, I0, HB⟩ := b_ (s5 (rR_ d0.o) (sY P0) hb) <| b_ (sZ (ta P0 (ti (rR_ d0.o))) (ac (hB_))) <| c_ (ab (hB_) hb)
  clear hb P0
  obtain ⟨j2, l2, O1⟩ := s7 I0.o
  (first | subst O1 | (injection O1 with f1_ f2_ f3_; have f4_ := f1_.symm; have f5_ := f3_.symm; clear f1_ f2_ f3_; subst f4_; subst f5_))
  refine hK _ _ ⟨(hc_ C0), (hc_ D0), (hc_ E0), (hc_ F0), (hc_ G0), (hc_ H0)⟩ (fun hHeld => ?_)
  clear hK K
  refine dL (a' := ?_) ?_ ?_
  rotate_left
  ·show Act.put _ (some 85) _ = _
   simp only [Act.put, List.setIfInBounds_toArray, List.set_cons_zero, List.set_cons_succ, bv, cG]
   rfl
  refine fC (i := 42) (N := some 86) (bb_ 44 8796093022207) rfl rfl (cD HT_.o (by kernel_rfl)) (by decide) (fun K hK => ?_)
  refine tQ (Kd.int .i64) (w0 := w) w.heap.size (by rfl) (.tmp 44) (.tmp 85) 28 3 (.int .i64 0) 8 rfl Tryz.underlying28 cY rfl (by decide) (by omega) u5 N0 X0 _ _ _ (fun k_ => some k_ ≠ (.slice j2 X0.length l2 : Value).ownBlock) (fun _ => False) rfl rfl ?aO ?aR (fun _ _ h => h) (fun _ h => h.elim) ?aF ?aB ?aS ?aL ?_
  (case aR => exact cR_ (sX I0.o).2.2)
  (case aB => exact (hB_))
  (case aF => exact (fun k_ hk => Kd.fresh' (ti (rR_ I0.o)) k_ hk))
  (case aO => exact (by refine kR_ ?_; exact s9 d0.o (fun _ hk => hk.2)))
  (case aS => exact (ac (hB_)))
  (case aL => have := G1.o; omega)
  intro G2 J2 ho hb hg hat
  rw [← H1.o] at ho
  obtain ⟨I0, HB, P1⟩ := b_ (tC (ok := (fun _ => True)) (rR_ I0.o) hg hat) <| b_ (hb) <| c_ (ho)
  clear ho hb hg hat
  refine hK _ _ ⟨(hc_ C0), (hc_ D0), (hc_ E0), (hc_ F0), (hc_ G0), (hc_ H0)⟩ (fun hHeld => ?_)
  clear hK K
  refine dL (a' := ?_) ?_ ?_
  rotate_left
  ·show Act.put _ (some 86) _ = _
   simp only [Act.put, List.setIfInBounds_toArray, List.set_cons_zero, List.set_cons_succ, bv, cG]
   rfl
  refine pT_ 43 5 44 17592186044415 ?_
  refine fc (du HT_.o (by kernel_rfl)) ?_
  try go_wp2
  go_roundg k2
  case measure => have := p2.o; have := r2.o; omega
  case rel => exact ⟨(Y1), (wrap64 (u0 + 1)), f0_, H', ⟨by have := p2.o; have := r2.o; omega⟩, ⟨by refine kR_ ?_; exact s9 P1.o (fun _ hk => trivial)⟩, ⟨hB_⟩⟩
def bf.l0 : Nat → List (List Int) → List (List Int) → List Int → Int → Option (List Int)
 | 0, _, _, _, _ => none
 | k + 1, x0, x1, x5, x6 => if x6 < (x0.length : Int) then (if 0 ≤ x6 then (if x6 < (x1.length : Int) then ((az.f k (dw x0 x6) (dw x1 x6)).bind fun t236 => ((aH.f k x5 t236).bind fun t239 => (bf.l0 k x0 x1 t239 (wrap64 (x6 + 1))))) else (none)) else (none)) else (some x5)
def bf.f (k : Nat) (l0 : List (List Int)) (l1 : List (List Int)) : Option (List Int) := if 256 ≤ 35184372088832 then (bf.l0 k l0 l1 (List.replicate 256 0) 0) else (none)
theorem bf.mono_l : ∀ k, (∀ y0 y1 y2 y3, LeO (bf.l0 k y0 y1 y2 y3) (bf.l0 (k + 1) y0 y1 y2 y3))
 | 0 => fun _ _ _ _ r h => by simp [bf.l0] at h
 | k + 1 => by
  have ih0 := bf.mono_l k
  intros; unfold bf.l0; exact o3_ ih0 az.mono aH.mono
theorem bf.mono : ∀ a0 a1 k, LeO (bf.f k a0 a1) (bf.f (k + 1) a0 a1) := by
 intro a0 a1 k
 have ih0 := bf.mono_l k
 unfold bf.f
 exact o3_ ih0 az.mono aH.mono
def bf.T5 : Bool × List (List Nat × List Nat) := (true, [([], []), ([], []), ([], []), ([1, 2], [1, 2]), ([3], [3]), ([], []), ([], []), ([5, 6], [5, 6]), ([7], [7]), ([4, 8], [4, 8]), ([0, 9, 9], [0, 9]), ([10, 10, 0, 1, 2, 3, 4, 5, 6, 7, 8, 9, 10], [0, 10])])
def bf.B5 : List Nat := [0, 0, 0, 6, 14, 0, 0, 96, 224, 510, 1023, 2047]
theorem bf.tab5 : d8 .any (fb Tryz.f31 5) = bf.T5 := by kernel_rfl
theorem bf.bits5 : db bf.T5.2 bf.B5 = true := by kernel_rfl
theorem bf.calls (k : Nat) (A0 : Option Addr) (c0 : Nat) (l0 : List (List Int)) (A1 : Option Addr) (c1 : Nat) (l1 : List (List Int)) (r : List Int) (w : World) (hr0 : Kd.C (Kd.slice 3 (Kd.int .i64)) w A0 l0.length l0) (hc0 : l0.length ≤ c0) (hr1 : Kd.C (Kd.slice 3 (Kd.int .i64)) w A1 l1.length l1) (hc1 : l1.length ≤ c1) (h : bf.f k l0 l1 = some r) :
  Calls Tryz.prog 31 #[.slice A0 l0.length c0, .slice A1 l1.length c1] w fun e w' => ∃ f1 : Value, e = .returned (f1) ∧ Kd.R (Kd.int .i64) 3 w' w.heap.size (fun _ => True) f1 r ∧ Below w.heap.size w w' := by
 have i1 := c_ hr0
 have B1 := c_ hc0
 clear hr0 hc0
 have j1 := c_ hr1
 have C1 := c_ hc1
 clear hr1 hc1
 have HB := c_ (Ba w.heap.size w)
 delta bf.f at h
 have H := h
 clear h
 obtain ⟨c3, H⟩ := iN_ H
 have m1 := ya c3
 have n1 := wa c3
 clear c3
 obtain ⟨V0, n0⟩ : ∃ y_ : List Int, y_ = (List.replicate 256 0) := ⟨_, rfl⟩
 first | replace H := yb_ n0 H | rw [← n0] at H
 have G0 := c_ n0
 clear n0
 have H' := c_ H
 clear H
 go_enter Tryz.func31, Tryz.ntmps31
 go_wp2_with (first | ((refine aI (N := 7) rfl ?_); refine tw (Kd.int .i64) _ 3 rfl (N := 7) rfl 28 _ _ rfl 256 rfl rfl Tryz.underlying28 (.int .i64 0) 8 cY rfl (by decide) (by omega) 0 (ok := fun _ => True) (okp := fun _ => True) rfl (fun _ hk => hk) trivial (by omega) (by omega) (Ba _ _) (Aa _) ?_; intro p1 w4 N0 hb hg_ hnew_; clear hg_ hnew_; (first | rw [← G0.o] at N0 | (simp only [Int.reduceToNat] at N0; rw [← G0.o] at N0)); obtain ⟨O0, HB⟩ := b_ (sZ N0 (ac (hB_))) <| c_ (ab (hB_) hb); clear hb N0))
 go_loopg [5, 6] k (fun kq v5 v6 w' => ∃ (x0 : List Int) (a0 : Int), v6 = .int .i64 a0 ∧ aa (bf.l0 kq l0 l1 x0 a0 = some r) ∧ aa (kq ≤ k) ∧ aa (Kd.R (Kd.int .i64) 3 w' w.heap.size (fun _ => True) v5 x0) ∧ aa (Below w.heap.size w w'))
 case atStart => exact ⟨(V0), (0), f0_, H', ⟨Aa _⟩, ⟨rR_ O0.o⟩, ⟨hB_⟩⟩
 clear H'
 obtain ⟨x0, a0, rfl, HA, g1, b0, HB⟩ := hrel
 rcases gk with _ | k1
 ·exact absurd HA.o (by simp [bf.l0])
 have H := HA.o
 clear HA
 simp only [bf.l0] at H
 by_cases c6 : a0 < (l0.length : Int)
 rotate_left
 ·rw [Ea c6] at H
  have W0 := xa c6
  clear c6
  obtain rfl := za H
  go_wp2
  go_ret
  exact ⟨_, f1_, rR_ b0.o, hB_⟩
 rw [Da c6] at H
 have W0 := wa c6
 clear c6
 obtain ⟨q1, H⟩ := iD_ H
 obtain ⟨r1, H⟩ := iD_ H
 obtain ⟨H0, A9, H⟩ := bN_ H
 obtain ⟨P0, t1, H⟩ := bN_ H
 have H' := c_ H
 clear H
 try go_wp2
 obtain ⟨b0, HB⟩ := b_ (tl b0.o) <| c_ (b8 HB.o)
 have I0 : 0 ≤ (a0 : Int) := oD_
 have J0 : a0 < (l0.length : Int) := oD_
 obtain ⟨Q0, y0, B0, X0, d0, p0, q0⟩ := lC i1.o a0 I0 J0
 have j0 := d0
 cases X0
 replace d0 := hc_ d0
 have r0 := c_ q0
 have E0 := c_ p0
 clear q0 p0
 replace I0 := ya I0
 replace J0 := ya J0
 have K0 : 0 ≤ (a0 : Int) := oD_
 have L0 : a0 < (l1.length : Int) := oD_
 obtain ⟨R0, C0, D0, Y0, e0, t0, u0⟩ := lC j1.o a0 K0 L0
 have k0 := e0
 cases Y0
 replace e0 := hc_ e0
 have v0 := c_ u0
 have F0 := c_ t0
 clear u0 t0
 replace K0 := ya K0
 replace L0 := ya L0
 refine d9 (n := 12) (S := fun w' => w'.cell? (Q0.add (a0).toNat) = some (.slice y0 (dw l0 a0).length B0) ∧ w'.cell? (R0.add (a0).toNat) = some (.slice C0 (dw l1 a0).length D0)) (ds := []) (bb_ 12 0) (by kernel_rfl) rfl rfl ⟨(hc_ j0), (hc_ k0)⟩ (fun hHeld => ?_); refine cN bf.tab5 bf.bits5 (fun HT_ HW_ => ?_)
 generalize wr.drew = D1 at b0 HB r0 v0 d0 e0 hHeld ⊢
 refine pT_ 0 14 12 1 ?_
 refine pT_ 1 15 12 3 ?_
 refine pT_ 2 16 12 7 ?_
 refine pT_ 3 17 12 15 ?_
 refine pT_ 5 19 12 47 ?_
 refine pT_ 6 20 12 111 ?_
 refine pT_ 7 21 12 239 ?_
 refine tS_ 4 18 (bb_ 12 255) (bx HT_.o HW_.o (by kernel_rfl)) hHeld ?_
 refine tS_ 8 22 (bb_ 12 511) (bx HT_.o HW_.o (by kernel_rfl)) hHeld ?_
 refine fC (i := 9) (N := some 23) (bb_ 12 1023) rfl rfl (cD HT_.o (by kernel_rfl)) (by decide) (fun K hK => ?_)
 refine fv Tryz.func70 (by kernel_rfl) rfl #[.slice y0 (dw l0 a0).length B0, .slice C0 (dw l1 a0).length D0] (by rfl) rfl rfl aM_ ?_
 with_reducible refine (az.calls k1 _ _ (dw l0 a0) _ _ (dw l1 a0) H0 _ ?side1 ?side2 ?side3 ?side4 A9.o).mono ?_
 (case side1 => exact cR_ (tg r0.o HB.o))
 (case side2 => exact E0.o)
 (case side3 => exact cR_ (tg v0.o HB.o))
 (case side4 => exact F0.o)
 rintro e E1 ⟨y1, rfl, M0, hb⟩
 refine ⟨_, rfl, ?_⟩
 obtain ⟨b0, f0, HB⟩ := b_ (s5 (rR_ b0.o) (sY M0) hb) <| b_ (sZ (ta M0 (ti (rR_ b0.o))) (ac (hB_))) <| c_ (ab (hB_) hb)
 obtain ⟨Z0, b1, S0⟩ := s7 b0.o
 (first | subst S0 | (injection S0 with f1_ f2_ f3_; have f4_ := f1_.symm; have f5_ := f3_.symm; clear f1_ f2_ f3_; subst f4_; subst f5_))
 obtain ⟨d1, e1, T0⟩ := s7 f0.o
 (first | subst T0 | (injection T0 with f1_ f2_ f3_; have f4_ := f1_.symm; have f5_ := f3_.symm; clear f1_ f2_ f3_; subst f4_; subst f5_))
 refine hK _ _ ⟨(hc_ j0), (hc_ k0)⟩ (fun hHeld => ?_)
 clear hK K
 refine dL (a' := ?_) ?_ ?_
 rotate_left
 ·show Act.put _ (some 23) _ = _
  simp only [Act.put, List.setIfInBounds_toArray, List.set_cons_zero, List.set_cons_succ, bv, cG]
  rfl
 refine fC (i := 10) (N := some 24) (bb_ 12 2047) rfl rfl (cD HT_.o (by kernel_rfl)) (by decide) (fun K hK => ?_)
 refine fv Tryz.func37 (by kernel_rfl) rfl #[.slice Z0 x0.length b1, .slice d1 H0.length e1] (by rfl) rfl rfl aM_ ?_
 with_reducible refine (aH.calls k1 _ _ x0 _ _ H0 P0 _ ?side1 ?side2 ?side3 ?side4 t1.o).mono ?_
 (case side1 => exact cR_ (sX b0.o).2.2)
 (case side2 => exact (sX b0.o).2.1)
 (case side3 => exact cR_ (sX f0.o).2.2)
 (case side4 => exact (sX f0.o).2.1)
 rintro e F1 ⟨z1, rfl, M0, hb⟩
 refine ⟨_, rfl, ?_⟩
 obtain ⟨b0, f0, U0, HB⟩ := b_ (s5 (rR_ b0.o) (sY M0) hb) <| b_ (s5 (rR_ f0.o) (sY M0) hb) <| b_ (sZ (ta (ta M0 (ti (rR_ b0.o))) (ti (rR_ f0.o))) (ac (hB_))) <| c_ (ab (hB_) hb)
 refine hK _ _ ⟨(hc_ j0), (hc_ k0)⟩ (fun hHeld => ?_)
 clear hK K
 refine dL (a' := ?_) ?_ ?_
 rotate_left
 ·show Act.put _ (some 24) _ = _
  simp only [Act.put, List.setIfInBounds_toArray, List.set_cons_zero, List.set_cons_succ, bv, cG]
  rfl
 refine pT_ 11 5 12 4095 ?_
 refine fc (du HT_.o (by kernel_rfl)) ?_
 try go_wp2
 go_roundg k1
 case measure => have := g1.o; omega
 case rel => exact ⟨(P0), (wrap64 (a0 + 1)), f0_, H', ⟨by have := g1.o; omega⟩, ⟨by refine kR_ ?_; exact s9 U0.o (fun _ hk => trivial)⟩, ⟨hB_⟩⟩
mutual
def aV.j0 : Nat → ByteArray → ByteArray → Bool → Option (List Int × Bool)
 | 0, _, _, _ => none
 | k + 1, x0, x1, x18 => if x18 = true then (some ((([] : List Int)), false)) else ((ba.f k x0).bind fun bt245 => (if bt245.2 = true then (aV.l0 k x1 bt245.1 (([] : List (List Int))) 0) else (some ((([] : List Int)), false))))
def aV.l0 : Nat → ByteArray → List (List Int) → List (List Int) → Int → Option (List Int × Bool)
 | 0, _, _, _, _ => none
 | k + 1, x1, x6, x8, x9 => if x9 < 2 then (if 0 ≤ (wrap64 (x9 * 320)) then (if (wrap64 (x9 * 320)) ≤ (wrap64 ((wrap64 (x9 + 1)) * 320)) then (if (wrap64 ((wrap64 (x9 + 1)) * 320)) ≤ (x1.size : Int) then ((aJ.f k (x1.extract ((wrap64 (x9 * 320)) : Int).toNat ((wrap64 ((wrap64 (x9 + 1)) * 320)) : Int).toNat) 10).bind fun t255 => ((bh.f k t255).bind fun t258 => (if x8.length < 5864062014805 then (aV.l0 k x1 x6 (x8 ++ [t258]) (wrap64 (x9 + 1))) else (none)))) else (none)) else (none)) else (none)) else (if 640 ≤ (x1.size : Int) then ((aJ.f k (x1.extract 640 x1.size) 4).bind fun t264 => ((bf.f k x6 x8).bind fun t267 => ((am.f k t267).bind fun t270 => ((aC.f k t264 t270).bind fun t273 => (some (t273, true)))))) else (none))
end
def aV.f (k : Nat) (a0 : ByteArray) (a1 : ByteArray) : Option (List Int × Bool) := if (a0.size : Int) = 1632 then (aV.j0 k a0 a1 ((a1.size : Int) != 768)) else (aV.j0 k a0 a1 true)
theorem aV.mono_l : ∀ k, (∀ y0 y1 y2, LeO (aV.j0 k y0 y1 y2) (aV.j0 (k + 1) y0 y1 y2)) ∧ (∀ y0 y1 y2 y3, LeO (aV.l0 k y0 y1 y2 y3) (aV.l0 (k + 1) y0 y1 y2 y3))
 | 0 => ⟨fun _ _ _ r h => by simp [aV.j0] at h, fun _ _ _ _ r h => by simp [aV.l0] at h⟩
 | k + 1 => by
  obtain ⟨ih0, ih1⟩ := aV.mono_l k
  refine ⟨?_, ?_⟩ <;> (intros; (first | unfold aV.j0 | unfold aV.l0); exact o8_ ih0 ih1 am.mono bh.mono aC.mono ba.mono aJ.mono bf.mono)
theorem aV.mono : ∀ a0 a1 k, LeO (aV.f k a0 a1) (aV.f (k + 1) a0 a1) := by
 intro a0 a1 k
 obtain ⟨ih0, ih1⟩ := aV.mono_l k
 unfold aV.f
 exact o8_ ih0 ih1 am.mono bh.mono aC.mono ba.mono aJ.mono bf.mono
theorem aV.calls (k : Nat) (a0 : ByteArray) (a1 : ByteArray) (r1 : List Int) (r2 : Bool) (w : World) (h : aV.f k a0 a1 = some (r1, r2)) :
  Calls Tryz.prog 12 #[.string a0, .string a1] w fun e w' => ∃ R1 : Value, e = .returned (.tuple #[R1, .bool r2]) ∧ Kd.R (Kd.int .i64) 3 w' w.heap.size (fun _ => True) R1 r1 ∧ Below w.heap.size w w' := by
 have HB := c_ (Ba w.heap.size w)
 delta aV.f at h
 have H := h
 clear h
 have j1 := c_ H
 clear H
 go_enter Tryz.func12, Tryz.ntmps12
 go_upto_region 1 with (fail)
 go_cut [18] (fun i2 wc => ∃ (kq : Nat) (v0 : Bool), i2 = .bool v0 ∧ aa (aV.j0 kq a0 a1 v0 = some (r1, r2)) ∧ aa (kq ≤ k) ∧ aa (Below w.heap.size w wc))
 case first =>
  have H := j1.o
  clear j1
  by_cases c4 : (a0.size : Int) = 1632
  ·rw [Da c4] at H
   have J0 : ((a0.size : Int) == 1632) = true := beq_iff_eq.mpr c4
   have l1 : ((a0.size : Int) != 1632) = false := bne_eq_false_iff_eq.mpr c4
   clear c4
   (first | rw [J0] | (simp only [bv, cG]; rw [J0]) | skip)
   have H' := c_ H
   clear H
   go_wp2
   go_meet
   case rel => exact ⟨_, (((a1.size : Int) != 768)), f0_, H', ⟨by first | omega | exact Aa _⟩, ⟨hB_⟩⟩
  rw [Ea c4] at H
  have J0 : ((a0.size : Int) == 1632) = false := beq_eq_false_iff_ne.mpr c4
  have l1 : ((a0.size : Int) != 1632) = true := bne_iff_ne.mpr c4
  (first | rw [J0] | (simp only [bv, cG]; rw [J0]) | skip)
  have H' := c_ H
  clear H
  go_wp2
  go_meet
  case rel => exact ⟨_, (true), f0_, H', ⟨by first | omega | exact Aa _⟩, ⟨hB_⟩⟩
 clear j1
 obtain ⟨kq, v0, rfl, HA, S1, HB⟩ := hcut
 rcases kq with _ | i1
 ·exact absurd HA.o (by simp [aV.j0])
 have H := HA.o
 clear HA
 simp only [aV.j0] at H
 by_cases c5 : v0 = true
 ·subst c5
  replace H := iT_ H
  obtain ⟨j2, x0⟩ : ∃ y_ : List Int, y_ = (([] : List Int)) := ⟨_, rfl⟩
  first | replace H := yb_ x0 H | rw [← x0] at H
  have N0 := c_ x0
  clear x0
  simp only [Option.some.injEq, Prod.mk.injEq] at H
  obtain ⟨rfl, rfl⟩ := H
  go_wp2_with (first | ((refine aI (N := 19) rfl ?_); (try (refine bn (by rfl) ?_; dsimp only)); refine tn (Kd.int .i64) _ 3 ?hg (N := 19) ?hd (xs := ([] : List Int)) (inner := []) (ok := fun _ => True) (okp := fun _ => True) ?hr ?hp (fun _ hk => hk) trivial (Ba _ _) (Aa _) (by simp) ?_; (case hd => rfl); (case hg => rfl); (case hr => first | (go_simp; done) | (go_simp; rfl)); (case hp => exact (bA.none _ _)); intro l2 w6 X0 hb hg_ hnew_; clear hg_ hnew_; (first | rw [← N0.o] at X0 | (simp only [Int.reduceToNat] at X0; rw [← N0.o] at X0)); obtain ⟨Y0, HB⟩ := b_ (sZ X0 (ac (hB_))) <| c_ (ab (hB_) hb); clear hb X0))
  go_ret2
  exact ⟨_, f1_, rR_ Y0.o, hB_⟩
 ·replace c5 := Ca c5
  subst c5
  replace H := iF_ H
  obtain ⟨⟨E0, m1⟩, A8, H⟩ := bN_ H
  by_cases c9 : m1 = true
  ·subst c9
   replace H := iT_ H
   obtain ⟨n1, y0⟩ : ∃ y_ : List (List Int), y_ = (([] : List (List Int))) := ⟨_, rfl⟩
   first | replace H := yb_ y0 H | rw [← y0] at H
   have O0 := c_ y0
   clear y0
   have H' := c_ H
   clear H
   go_wp2_with (first | (refine gq_ 26 (some 22) Tryz.func26 #[.string a0] (ba.calls i1 a0 E0 true _ A8.o) ?_; rintro e H2 ⟨F0, rfl, f0, hb⟩; refine ⟨_, rfl, ?_⟩; obtain ⟨p0, HB⟩ := b_ (tz f0 (ac (hB_))) <| c_ (ab (hB_) hb); (try clear f0)) | ((refine aI (N := 28) rfl ?_); (try (refine bn (by rfl) ?_; dsimp only)); refine uM (Kd.slice 3 (Kd.int .i64)) _ 28 ?hg (N := 28) ?hd (xs := ([] : List (List Int))) (inner := []) (ok := fun _ => True) (okp := fun _ => True) ?hr ?hp (fun _ hk => hk) trivial (Ba _ _) (Aa _) (by simp) ?_; (case hd => rfl); (case hg => rfl); (case hr => first | (go_simp; done) | (go_simp; rfl)); (case hp => exact (bA.none _ _)); intro m2 I2 G0 hb hg_ hnew_; clear hg_ hnew_; (first | rw [← O0.o] at G0 | (simp only [Int.reduceToNat] at G0; rw [← O0.o] at G0)); obtain ⟨p0, Z0, HB⟩ := b_ (s6 (rS_ p0.o) (tL G0) hb) <| b_ (tz (tK G0 (ux (rS_ p0.o))) (ac (hB_))) <| c_ (ab (hB_) hb); clear hb G0))
   go_loopg [8, 9] i1 (fun kq v8 v9 w' => ∃ (t0 : List (List Int)) (r0 : Int), v9 = .int .i64 r0 ∧ aa (aV.l0 kq a1 E0 t0 r0 = some (r1, r2)) ∧ aa (kq ≤ i1) ∧ aa (Kd.S (Kd.slice 3 (Kd.int .i64)) 28 w' w.heap.size (fun k_ => some k_ ≠ (v8 : Value).ownBlock) F0 E0) ∧ aa (Kd.S (Kd.slice 3 (Kd.int .i64)) 28 w' w.heap.size (fun k_ => some k_ ≠ (F0 : Value).ownBlock) v8 t0) ∧ aa (Below w.heap.size w w'))
   case atStart => exact ⟨(n1), (0), f0_, H', ⟨Aa _⟩, ⟨by refine kS_ ?_; exact tq p0.o (fun _ hk => hk.2)⟩, ⟨by refine kS_ ?_; exact tq Z0.o (fun _ hk => hk.2)⟩, ⟨hB_⟩⟩
   clear H'
   obtain ⟨t0, r0, rfl, HA, T1, b0, d0, HB⟩ := hrel
   rcases gk with _ | k2
   ·exact absurd HA.o (by simp [aV.l0])
   have H := HA.o
   clear HA
   simp only [aV.l0] at H
   by_cases W0 : r0 < 2
   ·rw [Da W0] at H
    have b1 := wa W0
    clear W0
    obtain ⟨Q0, B0⟩ : ∃ j_ : Int, (wrap64 (r0 * 320)) = j_ := ⟨_, rfl⟩
    first | rw [B0] at H | simp only [B0] at H
    have p1 : (IntKind.i64.wrap (r0 * 320)) = Q0 := (bv _).trans B0
    obtain ⟨q1, H⟩ := iN_ H
    have U1 := ya q1
    have V1 := wa q1
    clear q1
    obtain ⟨X1, H⟩ := iN_ H
    have Y1 := ya X1
    have Z1 := wa X1
    obtain ⟨b2, H⟩ := iN_ H
    have c2 := ya b2
    have d2 := wa b2
    obtain ⟨u0, n2, H⟩ := bN_ H
    obtain ⟨H0, p2, H⟩ := bN_ H
    obtain ⟨e2, H⟩ := iN_ H
    have c1 := c_ e2
    clear e2
    obtain ⟨t1, C0⟩ : ∃ y_ : List (List Int), y_ = (t0 ++ [H0]) := ⟨_, rfl⟩
    first | replace H := yb_ C0 H | rw [← C0] at H
    have d1 := c_ C0
    clear C0
    have H' := c_ H
    clear H
    go_wp2_with (first | ((with_reducible refine dM (f := 28) rfl ?_); refine gm (some 41) rfl rfl Tryz.func28 (by kernel_rfl) rfl #[.string (a1.extract ((Q0) : Int).toNat ((wrap64 ((wrap64 (r0 + 1)) * 320)) : Int).toNat), .int .i64 10] rfl (by (try simp only [List.map_toArray, List.map_cons, List.map_nil]); first | done | (simp only [B0]; rfl) | rfl | (simp only [List.length_drop, List.length_take]; rfl)) ?_; (with_reducible refine (aJ.calls k2 (a1.extract ((Q0) : Int).toNat ((wrap64 ((wrap64 (r0 + 1)) * 320)) : Int).toNat) 10 u0 _ n2.o).mono ?_); rintro e J2 ⟨q2, rfl, f0, hb⟩; refine ⟨_, rfl, ?_⟩; obtain ⟨b0, d0, k0, HB⟩ := b_ (s6 (rS_ b0.o) (sY f0) hb) <| b_ (s6 (rS_ d0.o) (sY f0) hb) <| b_ (sZ f0 (ac (hB_))) <| c_ (ab (hB_) hb); obtain ⟨K0, L0, y1⟩ := s7 k0.o; subst y1) | (refine gq_ 27 (some 42) Tryz.func27 #[.slice K0 u0.length L0] (bh.calls k2 _ _ u0 H0 _ ?side1 ?side2 p2.o) ?_; (case side1 => exact cR_ (sX k0.o).2.2); (case side2 => exact (sX k0.o).2.1); rintro e K2 ⟨t2, rfl, f0, hb⟩; refine ⟨_, rfl, ?_⟩; obtain ⟨b0, d0, k0, M0, HB⟩ := b_ (s6 (rS_ b0.o) (sY f0) hb) <| b_ (s6 (rS_ d0.o) (sY f0) hb) <| b_ (s5 (rR_ k0.o) (sY f0) hb) <| b_ (sZ (ta f0 (ti (rR_ k0.o))) (ac (hB_))) <| c_ (ab (hB_) hb); obtain ⟨R0, S0, z1⟩ := s7 M0.o; subst z1) | ((refine aU (b := .append) (xs := #[.tmp 33, .tmp 43]) rfl ?_); (try (refine bn (by rfl) ?_; dsimp only)); at_builtin; refine tE (Kd.slice 3 (Kd.int .i64)) (w0 := w) w.heap.size rfl (.tmp 33) (.tmp 43) 46 28 (.slice none 0 0) 24 rfl Tryz.underlying46 gg rfl (by decide) (by omega) u8 t0 H0 [.slice R0 H0.length S0] (fun k_ => some k_ ≠ (F0 : Value).ownBlock ∧ some k_ ≠ (.slice K0 u0.length L0 : Value).ownBlock) (fun k_ => some k_ = (.slice R0 H0.length S0 : Value).ownBlock) rfl rfl ?aP (fun k_ hk_ => ((s9 (ok' := fun k_ => ((fun k_ => some k_ ≠ (F0 : Value).ownBlock ∧ some k_ ≠ (.slice K0 u0.length L0 : Value).ownBlock)) k_ ∧ some k_ ≠ (u8 : Value).ownBlock) (th (th (M0.o) (tk b0.o) (by decide)) (tk d0.o) (by decide)) (fun k_ hk => ⟨⟨hk.1.2, hk.1.1.2⟩, hk.2⟩))).1 k_ hk_.symm) ?aF ?aO ?aB ?aS ?aL ?_; (case aP => exact t9 (s9 (tG rfl (s9 (ok' := fun k_ => ((fun k_ => some k_ ≠ (F0 : Value).ownBlock ∧ some k_ ≠ (.slice K0 u0.length L0 : Value).ownBlock)) k_ ∧ some k_ ≠ (u8 : Value).ownBlock) (th (th (M0.o) (tk b0.o) (by decide)) (tk d0.o) (by decide)) (fun k_ hk => ⟨⟨hk.1.2, hk.1.1.2⟩, hk.2⟩))) (fun _ h_ => h_))); (case aB => exact (hB_)); (case aF => exact (fun k_ hk => ⟨Kd.fresh' (ux (rS_ b0.o)) k_ hk, Kd.fresh' (ti (rR_ k0.o)) k_ hk⟩)); (case aO => exact (by refine kS_ ?_; exact tq d0.o (fun k_ hk => ⟨⟨hk.1.1, hk.1.2⟩, fun e_ => hk.2 e_⟩))); (case aS => exact (ac (hB_))); (case aL => have := c1.o; omega); intro u2 L2 ho hb hg hat; rw [← d1.o] at ho; obtain ⟨b0, k0, HB, e1⟩ := b_ (uD (ok := (fun k_ => some k_ ≠ (.slice K0 u0.length L0 : Value).ownBlock ∧ some k_ ≠ (.slice R0 H0.length S0 : Value).ownBlock)) (by refine kS_ ?_; exact tq b0.o (fun _ hk => ⟨⟨hk.1.2, hk.2⟩, hk.1.1⟩)) hg hat) <| b_ (ua (rR_ k0.o) (tk (rS_ d0.o)) (by decide) hg) <| b_ (hb) <| c_ (ho); clear ho hb hg hat))
    go_roundg k2
    case measure => have := S1.o; have := T1.o; omega
    case rel => exact ⟨(t1), (wrap64 (r0 + 1)), f0_, H', ⟨by have := S1.o; have := T1.o; omega⟩, ⟨by refine kS_ ?_; exact tq b0.o (fun _ hk => hk.2)⟩, ⟨by refine kS_ ?_; exact tq e1.o (fun _ hk => hk.1)⟩, ⟨hB_⟩⟩
   rw [Ea W0] at H
   have b1 := xa W0
   clear W0
   obtain ⟨A1, H⟩ := iN_ H
   have f2 := ya A1
   have g2 := wa A1
   clear A1
   obtain ⟨T0, v2, H⟩ := bN_ H
   obtain ⟨U0, y2, H⟩ := bN_ H
   obtain ⟨V0, z2, H⟩ := bN_ H
   obtain ⟨B1, A2, H⟩ := bN_ H
   simp only [Option.some.injEq, Prod.mk.injEq] at H
   obtain ⟨rfl, rfl⟩ := H
   go_wp2_with (first | (refine gq_ 28 (some 47) Tryz.func28 #[.string (a1.extract 640 a1.size), .int .i64 4] (aJ.calls k2 (a1.extract 640 a1.size) 4 T0 _ v2.o) ?_; rintro e M2 ⟨B2, rfl, f0, hb⟩; refine ⟨_, rfl, ?_⟩; obtain ⟨b0, d0, e0, HB⟩ := b_ (s6 (rS_ b0.o) (sY f0) hb) <| b_ (s6 (rS_ d0.o) (sY f0) hb) <| b_ (sZ f0 (ac (hB_))) <| c_ (ab (hB_) hb); obtain ⟨C1, D1, E1⟩ := tI b0.o; subst E1; obtain ⟨F1, G1, H1⟩ := tI d0.o; subst H1) | (refine gq_ 31 (some 51) Tryz.func31 #[.slice C1 E0.length D1, .slice F1 t0.length G1] (bf.calls k2 _ _ E0 _ _ t0 U0 _ ?side1 ?side2 ?side3 ?side4 y2.o) ?_; (case side1 => exact cR_ (tj b0.o).2.2); (case side2 => exact (tj b0.o).2.1); (case side3 => exact cR_ (tj d0.o).2.2); (case side4 => exact (tj d0.o).2.1); rintro e N2 ⟨C2, rfl, f0, hb⟩; refine ⟨_, rfl, ?_⟩; obtain ⟨b0, d0, e0, n0, HB⟩ := b_ (s6 (rS_ b0.o) (sY f0) hb) <| b_ (s6 (rS_ d0.o) (sY f0) hb) <| b_ (s5 (rR_ e0.o) (sY f0) hb) <| b_ (sZ (ta f0 (ti (rR_ e0.o))) (ac (hB_))) <| c_ (ab (hB_) hb); obtain ⟨I1, J1, K1⟩ := s7 n0.o; subst K1) | (refine gq_ 30 (some 52) Tryz.func30 #[.slice I1 U0.length J1] (am.calls k2 _ _ U0 V0 _ ?side1 ?side2 z2.o) ?_; (case side1 => exact cR_ (sX n0.o).2.2); (case side2 => exact (sX n0.o).2.1); rintro e O2 ⟨D2, rfl, f0, hb⟩; refine ⟨_, rfl, ?_⟩; obtain ⟨b0, d0, e0, n0, q0, HB⟩ := b_ (s6 (rS_ b0.o) (sY f0) hb) <| b_ (s6 (rS_ d0.o) (sY f0) hb) <| b_ (s5 (rR_ e0.o) (sY f0) hb) <| b_ (s5 (rR_ n0.o) (sY f0) hb) <| b_ (sZ (ta (ta f0 (ti (rR_ e0.o))) (ti (rR_ n0.o))) (ac (hB_))) <| c_ (ab (hB_) hb); obtain ⟨L1, M1, N1⟩ := s7 e0.o; subst N1; obtain ⟨O1, P1, Q1⟩ := s7 q0.o; subst Q1) | (refine gq_ 29 (some 53) Tryz.func29 #[.slice L1 T0.length M1, .slice O1 V0.length P1] (aC.calls k2 _ _ T0 _ _ V0 B1 _ ?side1 ?side2 ?side3 ?side4 A2.o) ?_; (case side1 => exact cR_ (sX e0.o).2.2); (case side2 => exact (sX e0.o).2.1); (case side3 => exact cR_ (sX q0.o).2.2); (case side4 => exact (sX q0.o).2.1); rintro e P2 ⟨E2, rfl, f0, hb⟩; refine ⟨_, rfl, ?_⟩; obtain ⟨b0, d0, e0, n0, q0, f1, HB⟩ := b_ (s6 (rS_ b0.o) (sY f0) hb) <| b_ (s6 (rS_ d0.o) (sY f0) hb) <| b_ (s5 (rR_ e0.o) (sY f0) hb) <| b_ (s5 (rR_ n0.o) (sY f0) hb) <| b_ (s5 (rR_ q0.o) (sY f0) hb) <| b_ (sZ (ta (ta (ta f0 (ti (rR_ e0.o))) (ti (rR_ n0.o))) (ti (rR_ q0.o))) (ac (hB_))) <| c_ (ab (hB_) hb); (try clear f0)))
   go_ret2
   exact ⟨_, f1_, by refine kR_ ?_; exact s9 f1.o (fun _ hk => trivial), hB_⟩
  ·replace c9 := Ca c9
   subst c9
   replace H := iF_ H
   obtain ⟨F2, D0⟩ : ∃ y_ : List Int, y_ = (([] : List Int)) := ⟨_, rfl⟩
   first | replace H := yb_ D0 H | rw [← D0] at H
   have P0 := c_ D0
   clear D0
   simp only [Option.some.injEq, Prod.mk.injEq] at H
   obtain ⟨rfl, rfl⟩ := H
   go_wp2_with (first | (refine gq_ 26 (some 22) Tryz.func26 #[.string a0] (ba.calls i1 a0 E0 false _ A8.o) ?_; rintro e Q2 ⟨F0, rfl, f0, hb⟩; refine ⟨_, rfl, ?_⟩; obtain ⟨p0, HB⟩ := b_ (tz f0 (ac (hB_))) <| c_ (ab (hB_) hb); (try clear f0)) | ((refine aI (N := 27) rfl ?_); (try (refine bn (by rfl) ?_; dsimp only)); refine tn (Kd.int .i64) _ 3 ?hg (N := 27) ?hd (xs := ([] : List Int)) (inner := []) (ok := fun _ => True) (okp := fun _ => True) ?hr ?hp (fun _ hk => hk) trivial (Ba _ _) (Aa _) (by simp) ?_; (case hd => rfl); (case hg => rfl); (case hr => first | (go_simp; done) | (go_simp; rfl)); (case hp => exact (bA.none _ _)); intro G2 R2 I0 hb hg_ hnew_; clear hg_ hnew_; (first | rw [← P0.o] at I0 | (simp only [Int.reduceToNat] at I0; rw [← P0.o] at I0)); obtain ⟨p0, g1, HB⟩ := b_ (s6 (rS_ p0.o) (sY I0) hb) <| b_ (sZ I0 (ac (hB_))) <| c_ (ab (hB_) hb); clear hb I0))
   go_ret2
   exact ⟨_, f1_, rR_ g1.o, hB_⟩
def bD.j0 : Nat → Int → Int → Bool → Option (Int)
 | 0, _, _, _ => none
 | k + 1, x0, x1, x12 => if x12 = true then (some 0) else ((au.f k x1).bind fun t278 => ((au.f k x1).bind fun t279 => (if t279 = 0 then (none) else (some (Int.tmod (wrap64 (Int.tdiv (wrap64 ((wrap64 (t278 * x0)) + 1664)) 3329)) t279)))))
def bD.f (k : Nat) (a0 : Int) (a1 : Int) : Option (Int) := (aY.f a0 0 3328).bind fun t276 => (if t276 = true then ((aY.f a1 1 11).bind fun t277 => (bD.j0 k a0 a1 (!t277))) else (bD.j0 k a0 a1 true))
theorem bD.mono_l : ∀ k, (∀ y0 y1 y2, LeO (bD.j0 k y0 y1 y2) (bD.j0 (k + 1) y0 y1 y2))
 | 0 => fun _ _ _ r h => by simp [bD.j0] at h
 | k + 1 => by
  have ih0 := bD.mono_l k
  intros; unfold bD.j0; exact o2_ ih0 au.mono
theorem bD.mono : ∀ a0 a1 k, LeO (bD.f k a0 a1) (bD.f (k + 1) a0 a1) := by
 intro a0 a1 k
 have ih0 := bD.mono_l k
 unfold bD.f
 exact o2_ ih0 au.mono
theorem bD.calls (k : Nat) (a0 : Int) (a1 : Int) (r : Int) (w : World) (h : bD.f k a0 a1 = some r) :
  Calls Tryz.prog 32 #[.int .i64 a0, .int .i64 a1] w fun e w' => e = .returned (.int .i64 r) ∧ cx w w' := by
 delta bD.f at h
 have H := h
 clear h
 have k0 := c_ H
 clear H
 go_enter Tryz.func32, Tryz.ntmps32
 go_upto_region 1 with (fail)
 go_cut [12] (fun u0 wc => ∃ (kq : Nat) (b0 : Bool), u0 = .bool b0 ∧ aa (bD.j0 kq a0 a1 b0 = some r) ∧ aa (kq ≤ k) ∧ cx w wc)
 case first =>
  have H := k0.o
  clear k0
  obtain ⟨n0, A4, H⟩ := bN_ H
  by_cases c5 : n0 = true
  ·subst c5
   replace H := iT_ H
   obtain ⟨e0, A6, H⟩ := bN_ H
   have H' := c_ H
   clear H
   go_wp2_with (first | (refine gq_ 71 (some 6) Tryz.func71 #[.int .i64 a0, .int .i64 0, .int .i64 3328] (aY.calls a0 0 3328 true _ A4.o) ?_; rintro e w' ⟨rfl, ⟨nd, rfl⟩⟩; refine ⟨_, rfl, ?_⟩) | (go_at_call 71; (with_reducible refine (aY.calls a1 1 11 e0 _ A6.o).mono ?_); rintro e w' ⟨rfl, ⟨nd, rfl⟩⟩))
   go_meet
   case rel => exact ⟨_, (!e0), f0_, H', ⟨by first | omega | exact Aa _⟩, d0_⟩
  ·replace c5 := Ca c5
   subst c5
   replace H := iF_ H
   have H' := c_ H
   clear H
   go_wp2_with (first | (refine gq_ 71 (some 6) Tryz.func71 #[.int .i64 a0, .int .i64 0, .int .i64 3328] (aY.calls a0 0 3328 false _ A4.o) ?_; rintro e w' ⟨rfl, ⟨nd, rfl⟩⟩; refine ⟨_, rfl, ?_⟩))
   go_meet
   case rel => exact ⟨_, (true), f0_, H', ⟨by first | omega | exact Aa _⟩, d0_⟩
 clear k0
 obtain ⟨kq, b0, rfl, HA, v0, ⟨mc2, rfl⟩⟩ := hcut
 rcases kq with _ | q0
 ·exact absurd HA.o (by simp [bD.j0])
 have H := HA.o
 clear HA
 simp only [bD.j0] at H
 by_cases c7 : b0 = true
 ·subst c7
  replace H := iT_ H
  obtain rfl := za H
  go_wp2
  go_ret
  exact ⟨f0_, d0_⟩
 ·replace c7 := Ca c7
  subst c7
  replace H := iF_ H
  obtain ⟨p0, A8, H⟩ := bN_ H
  obtain ⟨d0, A9, H⟩ := bN_ H
  have QA9 := c_ (za (A8.o.symm.trans A9.o))
  by_cases f0 : d0 = 0
  ·rw [Da f0] at H
   exact absurd H (by simp)
  rw [Ea f0] at H
  have r0 : (d0 == 0) = false := beq_eq_false_iff_ne.mpr f0
  have t0 : (d0 != 0) = true := bne_iff_ne.mpr f0
  obtain rfl := za H
  go_wp2_with (first | (refine gq_ 72 (some 14) Tryz.func72 #[.int .i64 a1] (au.calls q0 a1 p0 _ A8.o) ?_; rintro e w' ⟨rfl, ⟨nd, rfl⟩⟩; refine ⟨_, rfl, ?_⟩) | (refine gq_ 72 (some 20) Tryz.func72 #[.int .i64 a1] (au.calls q0 a1 d0 _ A9.o) ?_; rintro e w' ⟨rfl, ⟨nd, rfl⟩⟩; refine ⟨_, rfl, ?_⟩))
  go_ret
  exact ⟨by first | rfl | (simp only [QA9.o]; done) | (simp; done) | (simp [*]; done), d0_⟩
mutual
def aZ.l0 : Nat → List Int → Int → Int → Option (ByteArray × Bool)
 | 0, _, _, _ => none
 | k + 1, x0, x1, x6 => if x6 < (x0.length : Int) then (if 0 ≤ x6 then ((au.f k x1).bind fun t282 => ((aY.f (rd x0 x6) 0 (wrap64 (t282 - 1))).bind fun t283 => (if t283 = true then (aZ.l0 k x0 x1 (wrap64 (x6 + 1))) else (some ((⟨#[]⟩ : ByteArray), false))))) else (none)) else (aZ.l1 k x0 x1 (([] : List Int)) 0 0 0)
def aZ.l1 : Nat → List Int → Int → List Int → Int → Int → Int → Option (ByteArray × Bool)
 | 0, _, _, _, _, _, _ => none
 | k + 1, x0, x1, x7, x8, x9, x10 => if x10 < (x0.length : Int) then (if 0 ≤ x10 then ((au.f k x9).bind fun t291 => (aZ.l2 k x0 x1 x7 (wrap64 (x8 + (wrap64 ((rd x0 x10) * t291)))) (wrap64 (x9 + x1)) x10)) else (none)) else (if x9 > 0 then (if x7.length < 140737488355328 then (some (strOfNums (x7 ++ [(x8) % 256]), true)) else (none)) else (some (strOfNums x7, true)))
def aZ.l2 : Nat → List Int → Int → List Int → Int → Int → Int → Option (ByteArray × Bool)
 | 0, _, _, _, _, _, _ => none
 | k + 1, x0, x1, x7, x8, x9, x10 => if x9 ≥ 8 then (if x7.length < 140737488355328 then (aZ.l2 k x0 x1 (x7 ++ [(Int.tmod x8 256) % 256]) (wrap64 (Int.tdiv x8 256)) (wrap64 (x9 - 8)) x10) else (none)) else (aZ.l1 k x0 x1 x7 x8 x9 (wrap64 (x10 + 1)))
end
def aZ.f (k : Nat) (l0 : List Int) (a1 : Int) : Option (ByteArray × Bool) := (aY.f a1 1 12).bind fun t280 => (if t280 = true then (aZ.l0 k l0 a1 0) else (some ((⟨#[]⟩ : ByteArray), false)))
theorem aZ.mono_l : ∀ k, (∀ y0 y1 y2, LeO (aZ.l0 k y0 y1 y2) (aZ.l0 (k + 1) y0 y1 y2)) ∧ (∀ y0 y1 y2 y3 y4 y5, LeO (aZ.l1 k y0 y1 y2 y3 y4 y5) (aZ.l1 (k + 1) y0 y1 y2 y3 y4 y5)) ∧ (∀ y0 y1 y2 y3 y4 y5, LeO (aZ.l2 k y0 y1 y2 y3 y4 y5) (aZ.l2 (k + 1) y0 y1 y2 y3 y4 y5))
 | 0 => ⟨fun _ _ _ r h => by simp [aZ.l0] at h, fun _ _ _ _ _ _ r h => by simp [aZ.l1] at h, fun _ _ _ _ _ _ r h => by simp [aZ.l2] at h⟩
 | k + 1 => by
  obtain ⟨ih0, ih1, ih2⟩ := aZ.mono_l k
  refine ⟨?_, ?_, ?_⟩ <;> (intros; (first | unfold aZ.l0 | unfold aZ.l1 | unfold aZ.l2); exact o4_ ih0 ih1 ih2 au.mono)
theorem aZ.mono : ∀ a0 a1 k, LeO (aZ.f k a0 a1) (aZ.f (k + 1) a0 a1) := by
 intro a0 a1 k
 obtain ⟨ih0, ih1, ih2⟩ := aZ.mono_l k
 unfold aZ.f
 exact o4_ ih0 ih1 ih2 au.mono
theorem aZ.calls (k : Nat) (A0 : Option Addr) (c0 : Nat) (l0 : List Int) (a1 : Int) (r1 : ByteArray) (r2 : Bool) (w : World) (hr0 : Kd.C (Kd.int .i64) w A0 l0.length l0) (hc0 : l0.length ≤ c0) (h : aZ.f k l0 a1 = some (r1, r2)) :
  Calls Tryz.prog 33 #[.slice A0 l0.length c0, .int .i64 a1] w fun e w' => e = .returned (.tuple #[.string r1, .bool r2]) ∧ Below w.heap.size w w' := by
 have b1 := c_ hr0
 have H1 := c_ hc0
 clear hr0 hc0
 have HB := c_ (Ba w.heap.size w)
 delta aZ.f at h
 have H := h
 clear h
 obtain ⟨c1, A3, H⟩ := bN_ H
 by_cases c4 : c1 = true
 ·subst c4
  replace H := iT_ H
  have H' := c_ H
  clear H
  go_enter Tryz.func33, Tryz.ntmps33
  go_wp2_with (first | (go_at_call 71; (with_reducible refine (aY.calls a1 1 12 true _ A3.o).mono ?_); rintro e w' ⟨rfl, ⟨nd, rfl⟩⟩; (try first | exact ⟨rfl, _, World.drewN_drewN _ _ _⟩ | exact ⟨rfl, _, Eq.trans (World.drewN_drewN _ _ _) (congrArg (World.drewN _) (Nat.add_assoc _ _ _))⟩)))
  repeat (go_quiet (first | (go_at_call 71; (with_reducible refine (aY.calls a1 1 12 true _ A3.o).mono ?_); rintro e w' ⟨rfl, ⟨nd, rfl⟩⟩; (try first | exact ⟨rfl, _, World.drewN_drewN _ _ _⟩ | exact ⟨rfl, _, Eq.trans (World.drewN_drewN _ _ _) (congrArg (World.drewN _) (Nat.add_assoc _ _ _))⟩))); try go_wp2)
  go_loopg [6] k (fun kq v6 w' => ∃ (b0 : Int), v6 = .int .i64 b0 ∧ aa (aZ.l0 kq l0 a1 b0 = some (r1, r2)) ∧ aa (kq ≤ k) ∧ aa (Below w.heap.size w w'))
  case atStart => exact ⟨(0), f0_, H', ⟨Aa _⟩, ⟨hB_⟩⟩
  clear H'
  obtain ⟨b0, rfl, HA, P0, HB⟩ := hrel
  rcases gk with _ | k1
  ·exact absurd HA.o (by simp [aZ.l0])
  have H := HA.o
  clear HA
  simp only [aZ.l0] at H
  by_cases c5 : b0 < (l0.length : Int)
  ·rw [Da c5] at H
   have d1 := wa c5
   clear c5
   obtain ⟨B1, H⟩ := iD_ H
   obtain ⟨k0, A7, H⟩ := bN_ H
   obtain ⟨e1, A8, H⟩ := bN_ H
   by_cases c9 : e1 = true
   ·subst c9
    replace H := iT_ H
    have H' := c_ H
    clear H
    have p0 : 0 ≤ (b0 : Int) := oD_
    have q0 : b0 < (l0.length : Int) := oD_
    obtain ⟨T0, L0, d0⟩ := tb b1.o b0 p0 q0
    cases L0
    replace d0 := hc_ d0
    replace p0 := ya p0
    replace q0 := ya q0
    go_wp2_with (first | (go_at_call 72; (with_reducible refine (au.calls k1 a1 k0 _ A7.o).mono ?_); rintro e w' ⟨rfl, ⟨nd, rfl⟩⟩; (try first | exact ⟨rfl, _, World.drewN_drewN _ _ _⟩ | exact ⟨rfl, _, Eq.trans (World.drewN_drewN _ _ _) (congrArg (World.drewN _) (Nat.add_assoc _ _ _))⟩)) | (go_at_call 71; (with_reducible refine (aY.calls (rd l0 b0) 0 (wrap64 (k0 - 1)) true _ A8.o).mono ?_); rintro e w' ⟨rfl, ⟨nd, rfl⟩⟩; (try first | exact ⟨rfl, _, World.drewN_drewN _ _ _⟩ | exact ⟨rfl, _, Eq.trans (World.drewN_drewN _ _ _) (congrArg (World.drewN _) (Nat.add_assoc _ _ _))⟩)))
    repeat (go_quiet (first | (go_at_call 72; (with_reducible refine (au.calls k1 a1 k0 _ A7.o).mono ?_); rintro e w' ⟨rfl, ⟨nd, rfl⟩⟩; (try first | exact ⟨rfl, _, World.drewN_drewN _ _ _⟩ | exact ⟨rfl, _, Eq.trans (World.drewN_drewN _ _ _) (congrArg (World.drewN _) (Nat.add_assoc _ _ _))⟩)) | (go_at_call 71; (with_reducible refine (aY.calls (rd l0 b0) 0 (wrap64 (k0 - 1)) true _ A8.o).mono ?_); rintro e w' ⟨rfl, ⟨nd, rfl⟩⟩; (try first | exact ⟨rfl, _, World.drewN_drewN _ _ _⟩ | exact ⟨rfl, _, Eq.trans (World.drewN_drewN _ _ _) (congrArg (World.drewN _) (Nat.add_assoc _ _ _))⟩))); try go_wp2)
    go_roundg k1
    case measure => have := P0.o; omega
    case rel => exact ⟨(wrap64 (b0 + 1)), f0_, H', ⟨by have := P0.o; omega⟩, ⟨hB_⟩⟩
   ·replace c9 := Ca c9
    subst c9
    replace H := iF_ H
    simp only [Option.some.injEq, Prod.mk.injEq] at H
    obtain ⟨rfl, rfl⟩ := H
    have p0 : 0 ≤ (b0 : Int) := oD_
    have q0 : b0 < (l0.length : Int) := oD_
    obtain ⟨T0, L0, d0⟩ := tb b1.o b0 p0 q0
    cases L0
    replace d0 := hc_ d0
    replace p0 := ya p0
    replace q0 := ya q0
    go_wp2_with (first | (go_at_call 72; (with_reducible refine (au.calls k1 a1 k0 _ A7.o).mono ?_); rintro e w' ⟨rfl, ⟨nd, rfl⟩⟩; (try first | exact ⟨rfl, _, World.drewN_drewN _ _ _⟩ | exact ⟨rfl, _, Eq.trans (World.drewN_drewN _ _ _) (congrArg (World.drewN _) (Nat.add_assoc _ _ _))⟩)) | (go_at_call 71; (with_reducible refine (aY.calls (rd l0 b0) 0 (wrap64 (k0 - 1)) false _ A8.o).mono ?_); rintro e w' ⟨rfl, ⟨nd, rfl⟩⟩; (try first | exact ⟨rfl, _, World.drewN_drewN _ _ _⟩ | exact ⟨rfl, _, Eq.trans (World.drewN_drewN _ _ _) (congrArg (World.drewN _) (Nat.add_assoc _ _ _))⟩)))
    repeat (go_quiet (first | (go_at_call 72; (with_reducible refine (au.calls k1 a1 k0 _ A7.o).mono ?_); rintro e w' ⟨rfl, ⟨nd, rfl⟩⟩; (try first | exact ⟨rfl, _, World.drewN_drewN _ _ _⟩ | exact ⟨rfl, _, Eq.trans (World.drewN_drewN _ _ _) (congrArg (World.drewN _) (Nat.add_assoc _ _ _))⟩)) | (go_at_call 71; (with_reducible refine (aY.calls (rd l0 b0) 0 (wrap64 (k0 - 1)) false _ A8.o).mono ?_); rintro e w' ⟨rfl, ⟨nd, rfl⟩⟩; (try first | exact ⟨rfl, _, World.drewN_drewN _ _ _⟩ | exact ⟨rfl, _, Eq.trans (World.drewN_drewN _ _ _) (congrArg (World.drewN _) (Nat.add_assoc _ _ _))⟩))); try go_wp2)
    go_ret2
    exact ⟨f1_, hB_⟩
  rw [Ea c5] at H
  have d1 := xa c5
  clear c5
  obtain ⟨f1, v0⟩ : ∃ y_ : List Int, y_ = (([] : List Int)) := ⟨_, rfl⟩
  first | replace H := yb_ v0 H | rw [← v0] at H
  have x0 := c_ v0
  clear v0
  have H' := c_ H
  clear H
  go_wp2_with (first | ((refine aI (N := 29) rfl ?_); refine tn (Kd.int .u8) _ 5 ?hg (N := 29) ?hd (xs := ([] : List Int)) (inner := []) (ok := fun _ => True) (okp := fun _ => True) ?hr ?hp (fun _ hk => hk) trivial (Ba _ _) (Aa _) (by simp) ?_; (case hd => rfl); (case hg => rfl); (case hr => first | (go_simp; done) | (go_simp; rfl)); (case hp => exact (bA.none _ _)); intro g1 C1 e0 hb hg_ hnew_; clear hg_ hnew_; (first | rw [← x0.o] at e0 | (simp only [Int.reduceToNat] at e0; rw [← x0.o] at e0)); obtain ⟨F0, HB⟩ := b_ (sZ e0 (ac (hB_))) <| c_ (ab (hB_) hb); clear hb e0))
  repeat (go_quiet (first | ((refine aI (N := 29) rfl ?_); refine tn (Kd.int .u8) _ 5 ?hg (N := 29) ?hd (xs := ([] : List Int)) (inner := []) (ok := fun _ => True) (okp := fun _ => True) ?hr ?hp (fun _ hk => hk) trivial (Ba _ _) (Aa _) (by simp) ?_; (case hd => rfl); (case hg => rfl); (case hr => first | (go_simp; done) | (go_simp; rfl)); (case hp => exact (bA.none _ _)); intro g1 C1 e0 hb hg_ hnew_; clear hg_ hnew_; (first | rw [← x0.o] at e0 | (simp only [Int.reduceToNat] at e0; rw [← x0.o] at e0)); obtain ⟨F0, HB⟩ := b_ (sZ e0 (ac (hB_))) <| c_ (ab (hB_) hb); clear hb e0)); try go_wp2)
  go_loopg [7, 8, 9, 10] k1 (fun kq v7 v8 v9 D1 w' => ∃ (r0 : List Int) (j0 : Int) (t0 : Int) (a0 : Int), v8 = .int .i64 j0 ∧ v9 = .int .i64 t0 ∧ D1 = .int .i64 a0 ∧ aa (aZ.l1 kq l0 a1 r0 j0 t0 a0 = some (r1, r2)) ∧ aa (kq ≤ k1) ∧ aa (Kd.R (Kd.int .u8) 5 w' w.heap.size (fun _ => True) v7 r0) ∧ aa (Below w.heap.size w w'))
  case atStart => exact ⟨(f1), (0), (0), (0), f0_, f0_, f0_, H', ⟨Aa _⟩, ⟨rR_ F0.o⟩, ⟨hB_⟩⟩
  clear H'
  obtain ⟨r0, j0, t0, a0, rfl, rfl, rfl, HA, Y0, n0, HB⟩ := hrel
  rcases gk with _ | k2
  ·exact absurd HA.o (by simp [aZ.l1])
  have H := HA.o
  clear HA
  simp only [aZ.l1] at H
  by_cases Q0 : a0 < (l0.length : Int)
  rotate_left
  ·rw [Ea Q0] at H
   have U0 := xa Q0
   clear Q0
   by_cases R0 : t0 > 0
   ·rw [Da R0] at H
    have V0 := wa R0
    clear R0
    obtain ⟨p1, H⟩ := iN_ H
    have G0 := c_ p1
    clear p1
    obtain ⟨E1, y0⟩ : ∃ y_ : List Int, y_ = (r0 ++ [(j0) % 256]) := ⟨_, rfl⟩
    first | replace H := yb_ y0 H | rw [← y0] at H
    have H0 := c_ y0
    clear y0
    simp only [Option.some.injEq, Prod.mk.injEq] at H
    obtain ⟨rfl, rfl⟩ := H
    go_wp2_with (first | ((refine aU (b := .append) (xs := #[.tmp 62, .tmp 65]) rfl ?_); at_builtin; refine tf (Kd.int .u8) (w0 := w) w.heap.size rfl (.tmp 62) (.tmp 65) 59 5 (.int .u8 0) 1 rfl Tryz.underlying59 iX rfl (by decide) (by omega) u7 r0 ((j0) % 256) [.int .u8 ((j0) % 256)] (fun _ => True) (fun _ => False) rfl rfl ?aP (fun _ hk => hk.elim) ?aF ?aO ?aB ?aS ?aL ?_; (case aP => exact rfl); (case aB => exact (hB_)); (case aF => exact (fun _ _ => trivial)); (case aO => exact (rR_ n0.o)); (case aS => exact (ac (hB_))); (case aL => have := G0.o; omega); intro i1 F1 ho hb hg hat; rw [← H0.o] at ho; obtain ⟨HB, E0⟩ := b_ (hb) <| c_ (ho); clear ho hb hg hat; have W0 := dW (P := Tryz.prog) Tryz.underlying59 Tryz.underlying5 Tryz.underlying9 (tr E0.o)))
    repeat (go_quiet (first | ((refine aU (b := .append) (xs := #[.tmp 62, .tmp 65]) rfl ?_); at_builtin; refine tf (Kd.int .u8) (w0 := w) w.heap.size rfl (.tmp 62) (.tmp 65) 59 5 (.int .u8 0) 1 rfl Tryz.underlying59 iX rfl (by decide) (by omega) u7 r0 ((j0) % 256) [.int .u8 ((j0) % 256)] (fun _ => True) (fun _ => False) rfl rfl ?aP (fun _ hk => hk.elim) ?aF ?aO ?aB ?aS ?aL ?_; (case aP => exact rfl); (case aB => exact (hB_)); (case aF => exact (fun _ _ => trivial)); (case aO => exact (rR_ n0.o)); (case aS => exact (ac (hB_))); (case aL => have := G0.o; omega); intro i1 F1 ho hb hg hat; rw [← H0.o] at ho; obtain ⟨HB, E0⟩ := b_ (hb) <| c_ (ho); clear ho hb hg hat; have W0 := dW (P := Tryz.prog) Tryz.underlying59 Tryz.underlying5 Tryz.underlying9 (tr E0.o))); try go_wp2)
    go_ret2
    exact ⟨f1_, hB_⟩
   rw [Ea R0] at H
   have V0 := xa R0
   clear R0
   simp only [Option.some.injEq, Prod.mk.injEq] at H
   obtain ⟨rfl, rfl⟩ := H
   have q1 := dW (P := Tryz.prog) Tryz.underlying59 Tryz.underlying5 Tryz.underlying9 (tr n0.o)
   go_wp2
   repeat (go_quiet (fail); try go_wp2)
   go_ret2
   exact ⟨f1_, hB_⟩
  rw [Da Q0] at H
  have U0 := wa Q0
  clear Q0
  obtain ⟨t1, H⟩ := iD_ H
  obtain ⟨M0, y1, H⟩ := bN_ H
  have H' := c_ H
  clear H
  have N0 : 0 ≤ (a0 : Int) := oD_
  have O0 : a0 < (l0.length : Int) := oD_
  obtain ⟨z1, j1, B0⟩ := tb b1.o a0 N0 O0
  cases j1
  replace B0 := hc_ B0
  replace N0 := ya N0
  replace O0 := ya O0
  go_wp2_with (first | (go_at_call 72; (with_reducible refine (au.calls k2 t0 M0 _ y1.o).mono ?_); rintro e w' ⟨rfl, ⟨nd, rfl⟩⟩; (try first | exact ⟨rfl, _, World.drewN_drewN _ _ _⟩ | exact ⟨rfl, _, Eq.trans (World.drewN_drewN _ _ _) (congrArg (World.drewN _) (Nat.add_assoc _ _ _))⟩)))
  repeat (go_quiet (first | (go_at_call 72; (with_reducible refine (au.calls k2 t0 M0 _ y1.o).mono ?_); rintro e w' ⟨rfl, ⟨nd, rfl⟩⟩; (try first | exact ⟨rfl, _, World.drewN_drewN _ _ _⟩ | exact ⟨rfl, _, Eq.trans (World.drewN_drewN _ _ _) (congrArg (World.drewN _) (Nat.add_assoc _ _ _))⟩))); try go_wp2)
  go_loopg [7, 8, 9] k2 (fun kq v7 v8 v9 w' => ∃ (u0 : List Int) (f0 : Int) (D0 : Int), v8 = .int .i64 f0 ∧ v9 = .int .i64 D0 ∧ aa (aZ.l2 kq l0 a1 u0 f0 D0 a0 = some (r1, r2)) ∧ aa (kq ≤ k2) ∧ aa (Kd.R (Kd.int .u8) 5 w' w.heap.size (fun _ => True) v7 u0) ∧ aa (Below w.heap.size w w'))
  case atStart => exact ⟨(r0), (wrap64 (j0 + (wrap64 ((rd l0 a0) * M0)))), (wrap64 (t0 + a1)), f0_, f0_, H', ⟨Aa _⟩, ⟨rR_ n0.o⟩, ⟨hB_⟩⟩
  clear H'
  obtain ⟨u0, f0, D0, rfl, rfl, HA, Z0, n0, HB⟩ := hrel
  rcases gk with _ | k3
  ·exact absurd HA.o (by simp [aZ.l2])
  have H := HA.o
  clear HA
  simp only [aZ.l2] at H
  by_cases S0 : D0 ≥ 8
  ·rw [Da S0] at H
   have X0 := wa S0
   clear S0
   obtain ⟨A1, H⟩ := iN_ H
   have I0 := c_ A1
   clear A1
   obtain ⟨m1, C0⟩ : ∃ y_ : List Int, y_ = (u0 ++ [(Int.tmod f0 256) % 256]) := ⟨_, rfl⟩
   first | replace H := yb_ C0 H | rw [← C0] at H
   have J0 := c_ C0
   clear C0
   have H' := c_ H
   clear H
   go_wp2_with (first | ((refine aU (b := .append) (xs := #[.tmp 50, .tmp 54]) rfl ?_); at_builtin; refine tf (Kd.int .u8) (w0 := w) w.heap.size rfl (.tmp 50) (.tmp 54) 59 5 (.int .u8 0) 1 rfl Tryz.underlying59 iX rfl (by decide) (by omega) u7 u0 ((Int.tmod f0 256) % 256) [.int .u8 ((Int.tmod f0 256) % 256)] (fun _ => True) (fun _ => False) rfl rfl ?aP (fun _ hk => hk.elim) ?aF ?aO ?aB ?aS ?aL ?_; (case aP => exact rfl); (case aB => exact (hB_)); (case aF => exact (fun _ _ => trivial)); (case aO => exact (rR_ n0.o)); (case aS => exact (ac (hB_))); (case aL => have := I0.o; omega); intro n1 G1 ho hb hg hat; rw [← J0.o] at ho; obtain ⟨HB, K0⟩ := b_ (hb) <| c_ (ho); clear ho hb hg hat))
   repeat (go_quiet (first | ((refine aU (b := .append) (xs := #[.tmp 50, .tmp 54]) rfl ?_); at_builtin; refine tf (Kd.int .u8) (w0 := w) w.heap.size rfl (.tmp 50) (.tmp 54) 59 5 (.int .u8 0) 1 rfl Tryz.underlying59 iX rfl (by decide) (by omega) u7 u0 ((Int.tmod f0 256) % 256) [.int .u8 ((Int.tmod f0 256) % 256)] (fun _ => True) (fun _ => False) rfl rfl ?aP (fun _ hk => hk.elim) ?aF ?aO ?aB ?aS ?aL ?_; (case aP => exact rfl); (case aB => exact (hB_)); (case aF => exact (fun _ _ => trivial)); (case aO => exact (rR_ n0.o)); (case aS => exact (ac (hB_))); (case aL => have := I0.o; omega); intro n1 G1 ho hb hg hat; rw [← J0.o] at ho; obtain ⟨HB, K0⟩ := b_ (hb) <| c_ (ho); clear ho hb hg hat)); try go_wp2)
   go_roundg k3
   case measure => have := P0.o; have := Y0.o; have := Z0.o; omega
   case rel => exact ⟨(m1), (wrap64 (Int.tdiv f0 256)), (wrap64 (D0 - 8)), f0_, f0_, H', ⟨by have := P0.o; have := Y0.o; have := Z0.o; omega⟩, ⟨rR_ K0.o⟩, ⟨hB_⟩⟩
  rw [Ea S0] at H
  have X0 := xa S0
  clear S0
  have H' := c_ H
  clear H
  go_wp2
  repeat (go_quiet (fail); try go_wp2)
  go_roundg k3
  case measure => have := P0.o; have := Y0.o; have := Z0.o; omega
  case rel => exact ⟨(u0), (f0), (D0), (wrap64 (a0 + 1)), f0_, f0_, f0_, H', ⟨by have := P0.o; have := Y0.o; have := Z0.o; omega⟩, ⟨rR_ n0.o⟩, ⟨hB_⟩⟩
 ·replace c4 := Ca c4
  subst c4
  replace H := iF_ H
  simp only [Option.some.injEq, Prod.mk.injEq] at H
  obtain ⟨rfl, rfl⟩ := H
  go_enter Tryz.func33, Tryz.ntmps33
  go_wp2_with (first | (go_at_call 71; (with_reducible refine (aY.calls a1 1 12 false _ A3.o).mono ?_); rintro e w' ⟨rfl, ⟨nd, rfl⟩⟩; (try first | exact ⟨rfl, _, World.drewN_drewN _ _ _⟩ | exact ⟨rfl, _, Eq.trans (World.drewN_drewN _ _ _) (congrArg (World.drewN _) (Nat.add_assoc _ _ _))⟩)))
  repeat (go_quiet (first | (go_at_call 71; (with_reducible refine (aY.calls a1 1 12 false _ A3.o).mono ?_); rintro e w' ⟨rfl, ⟨nd, rfl⟩⟩; (try first | exact ⟨rfl, _, World.drewN_drewN _ _ _⟩ | exact ⟨rfl, _, Eq.trans (World.drewN_drewN _ _ _) (congrArg (World.drewN _) (Nat.add_assoc _ _ _))⟩))); try go_wp2)
  go_ret2
  exact ⟨f1_, hB_⟩
def aK.l0 : Nat → List Int → Int → List Int → Int → Option (ByteArray)
 | 0, _, _, _, _ => none
 | k + 1, x0, x1, x5, x6 => if x6 < (x0.length : Int) then (if 0 ≤ x6 then ((bD.f k (rd x0 x6) x1).bind fun t299 => (if x5.length < 17592186044416 then (aK.l0 k x0 x1 (x5 ++ [t299]) (wrap64 (x6 + 1))) else (none))) else (none)) else ((aZ.f k x5 x1).bind fun bt303 => (some bt303.1))
def aK.f (k : Nat) (l0 : List Int) (a1 : Int) : Option (ByteArray) := aK.l0 k l0 a1 (([] : List Int)) 0
theorem aK.mono_l : ∀ k, (∀ y0 y1 y2 y3, LeO (aK.l0 k y0 y1 y2 y3) (aK.l0 (k + 1) y0 y1 y2 y3))
 | 0 => fun _ _ _ _ r h => by simp [aK.l0] at h
 | k + 1 => by
  have ih0 := aK.mono_l k
  intros; unfold aK.l0; exact o3_ ih0 aZ.mono bD.mono
theorem aK.mono : ∀ a0 a1 k, LeO (aK.f k a0 a1) (aK.f (k + 1) a0 a1) := by
 intro a0 a1 k
 have ih0 := aK.mono_l k
 unfold aK.f
 exact o3_ ih0 aZ.mono bD.mono
theorem aK.calls (k : Nat) (A0 : Option Addr) (c0 : Nat) (l0 : List Int) (a1 : Int) (r : ByteArray) (w : World) (hr0 : Kd.C (Kd.int .i64) w A0 l0.length l0) (hc0 : l0.length ≤ c0) (h : aK.f k l0 a1 = some r) :
  Calls Tryz.prog 13 #[.slice A0 l0.length c0, .int .i64 a1] w fun e w' => e = .returned (.string r) ∧ Below w.heap.size w w' := by
 have L0 := c_ hr0
 have Q0 := c_ hc0
 clear hr0 hc0
 have HB := c_ (Ba w.heap.size w)
 delta aK.f at h
 have H := h
 clear h
 obtain ⟨x0, d0⟩ : ∃ y_ : List Int, y_ = (([] : List Int)) := ⟨_, rfl⟩
 first | replace H := yb_ d0 H | rw [← d0] at H
 have n0 := c_ d0
 clear d0
 have H' := c_ H
 clear H
 go_enter Tryz.func13, Tryz.ntmps13
 go_wp2_with (first | ((refine aI (N := 9) rfl ?_); refine tn (Kd.int .i64) _ 3 ?hg (N := 9) ?hd (xs := ([] : List Int)) (inner := []) (ok := fun _ => True) (okp := fun _ => True) ?hr ?hp (fun _ hk => hk) trivial (Ba _ _) (Aa _) (by simp) ?_; (case hd => rfl); (case hg => rfl); (case hr => first | (go_simp; done) | (go_simp; rfl)); (case hp => exact (bA.none _ _)); intro M0 w3 r0 hb hg_ hnew_; clear hg_ hnew_; (first | rw [← n0.o] at r0 | (simp only [Int.reduceToNat] at r0; rw [← n0.o] at r0)); obtain ⟨t0, HB⟩ := b_ (sZ r0 (ac (hB_))) <| c_ (ab (hB_) hb); clear hb r0))
 go_loopg [5, 6] k (fun kq v5 v6 w' => ∃ (b0 : List Int) (a0 : Int), v6 = .int .i64 a0 ∧ aa (aK.l0 kq l0 a1 b0 a0 = some r) ∧ aa (kq ≤ k) ∧ aa (Kd.R (Kd.int .i64) 3 w' w.heap.size (fun _ => True) v5 b0) ∧ aa (Below w.heap.size w w'))
 case atStart => exact ⟨(x0), (0), f0_, H', ⟨Aa _⟩, ⟨rR_ t0.o⟩, ⟨hB_⟩⟩
 clear H'
 obtain ⟨b0, a0, rfl, HA, J0, j0, HB⟩ := hrel
 rcases gk with _ | k1
 ·exact absurd HA.o (by simp [aK.l0])
 have H := HA.o
 clear HA
 simp only [aK.l0] at H
 by_cases c5 : a0 < (l0.length : Int)
 ·rw [Da c5] at H
  have y0 := wa c5
  clear c5
  obtain ⟨N0, H⟩ := iD_ H
  obtain ⟨k0, A7, H⟩ := bN_ H
  obtain ⟨c8, H⟩ := iN_ H
  have B0 := c_ c8
  clear c8
  obtain ⟨C0, e0⟩ : ∃ y_ : List Int, y_ = (b0 ++ [k0]) := ⟨_, rfl⟩
  first | replace H := yb_ e0 H | rw [← e0] at H
  have u0 := c_ e0
  clear e0
  have H' := c_ H
  clear H
  have p0 : 0 ≤ (a0 : Int) := oD_
  have q0 : a0 < (l0.length : Int) := oD_
  obtain ⟨K0, D0, f0⟩ := tb L0.o a0 p0 q0
  cases D0
  replace f0 := hc_ f0
  replace p0 := ya p0
  replace q0 := ya q0
  go_wp2_with (first | (refine gq_ 32 (some 22) Tryz.func32 #[.int .i64 (rd l0 a0), .int .i64 a1] (bD.calls k1 (rd l0 a0) a1 k0 _ A7.o) ?_; rintro e w' ⟨rfl, ⟨nd, rfl⟩⟩; refine ⟨_, rfl, ?_⟩) | ((refine aU (b := .append) (xs := #[.tmp 16, .tmp 23]) rfl ?_); at_builtin; refine tf (Kd.int .i64) (w0 := w) w.heap.size rfl (.tmp 16) (.tmp 23) 28 3 (.int .i64 0) 8 rfl Tryz.underlying28 cY rfl (by decide) (by omega) u5 b0 k0 [.int .i64 k0] (fun _ => True) (fun _ => False) rfl rfl ?aP (fun _ hk => hk.elim) ?aF ?aO ?aB ?aS ?aL ?_; (case aP => exact rfl); (case aB => exact (hB_)); (case aF => exact (fun _ _ => trivial)); (case aO => exact (rR_ j0.o)); (case aS => exact (ac (hB_))); (case aL => have := B0.o; omega); intro O0 w9 ho hb hg hat; rw [← u0.o] at ho; obtain ⟨HB, v0⟩ := b_ (hb) <| c_ (ho); clear ho hb hg hat))
  go_roundg k1
  case measure => have := J0.o; omega
  case rel => exact ⟨(C0), (wrap64 (a0 + 1)), f0_, H', ⟨by have := J0.o; omega⟩, ⟨rR_ v0.o⟩, ⟨hB_⟩⟩
 rw [Ea c5] at H
 have y0 := xa c5
 clear c5
 obtain ⟨⟨E0, F0⟩, P0, H⟩ := bN_ H
 obtain rfl := za H
 obtain ⟨G0, H0, I0⟩ := s7 j0.o
 subst I0
 go_wp2_with (first | (refine gq_ 33 (some 28) Tryz.func33 #[.slice G0 b0.length H0, .int .i64 a1] (aZ.calls k1 _ _ b0 a1 E0 F0 _ ?side1 ?side2 P0.o) ?_; (case side1 => exact cR_ (sX j0.o).2.2); (case side2 => exact (sX j0.o).2.1); rintro e R0 ⟨rfl, hb⟩; refine ⟨_, rfl, ?_⟩; obtain ⟨j0, HB⟩ := b_ (tc (rR_ j0.o) hb) <| c_ (ab (hB_) hb); (try clear hb)))
 go_ret
 exact ⟨f1_, hB_⟩
def cB.f (k : Nat) (a0 : ByteArray) (a1 : ByteArray) : Option (ByteArray × Bool) := (aV.f k a0 a1).bind fun bt305 => (if bt305.2 = true then ((aK.f k bt305.1 1).bind fun t309 => (some (t309, true))) else (some ((⟨#[]⟩ : ByteArray), false)))
theorem cB.mono : ∀ a0 a1 k, LeO (cB.f k a0 a1) (cB.f (k + 1) a0 a1) := by
 intro a0 a1 k
 unfold cB.f
 exact o2_ aV.mono aK.mono
theorem cB.calls (k : Nat) (a0 : ByteArray) (a1 : ByteArray) (r1 : ByteArray) (r2 : Bool) (w : World) (h : cB.f k a0 a1 = some (r1, r2)) :
  Calls Tryz.prog 6 #[.string a0, .string a1] w fun e w' => e = .returned (.tuple #[.string r1, .bool r2]) ∧ Below w.heap.size w w' := by
 have HB := c_ (Ba w.heap.size w)
 delta cB.f at h
 have H := h
 clear h
 obtain ⟨⟨d0, f0⟩, A3, H⟩ := bN_ H
 by_cases c4 : f0 = true
 ·subst c4
  replace H := iT_ H
  obtain ⟨j0, A5, H⟩ := bN_ H
  simp only [Option.some.injEq, Prod.mk.injEq] at H
  obtain ⟨rfl, rfl⟩ := H
  go_enter Tryz.func6, Tryz.ntmps6
  go_wp2_with (first | (refine gq_ 12 (some 11) Tryz.func12 #[.string a0, .string a1] (aV.calls k a0 a1 d0 true _ A3.o) ?_; rintro e w6 ⟨k0, rfl, e0, hb⟩; refine ⟨_, rfl, ?_⟩; obtain ⟨b0, HB⟩ := b_ (sZ e0 (ac (hB_))) <| c_ (ab (hB_) hb); obtain ⟨n0, p0, q0⟩ := s7 b0.o; subst q0) | (refine gq_ 13 (some 17) Tryz.func13 #[.slice n0 d0.length p0, .int .i64 1] (aK.calls k _ _ d0 1 j0 _ ?side1 ?side2 A5.o) ?_; (case side1 => exact cR_ (sX b0.o).2.2); (case side2 => exact (sX b0.o).2.1); rintro e w8 ⟨rfl, hb⟩; refine ⟨_, rfl, ?_⟩; obtain ⟨b0, HB⟩ := b_ (tc (rR_ b0.o) hb) <| c_ (ab (hB_) hb); (try clear hb)))
  go_ret2
  exact ⟨f1_, hB_⟩
 ·replace c4 := Ca c4
  subst c4
  replace H := iF_ H
  simp only [Option.some.injEq, Prod.mk.injEq] at H
  obtain ⟨rfl, rfl⟩ := H
  go_enter Tryz.func6, Tryz.ntmps6
  go_wp2_with (first | (refine gq_ 12 (some 11) Tryz.func12 #[.string a0, .string a1] (aV.calls k a0 a1 d0 false _ A3.o) ?_; rintro e w9 ⟨k0, rfl, e0, hb⟩; refine ⟨_, rfl, ?_⟩; obtain ⟨b0, HB⟩ := b_ (sZ e0 (ac (hB_))) <| c_ (ab (hB_) hb); (try clear e0)))
  go_ret2
  exact ⟨f1_, hB_⟩
def cQ.f (a0_0 : ByteArray) (a0_1 : ByteArray) (a0_2 : Int) : Option (Bool) := if (a0_0.size : Int) = 32 then (if (a0_1.size : Int) < 64 then ((aY.f a0_2 0 1000000000).bind fun t311 => (if t311 = true then (some ((Int.tmod a0_2 64) == (a0_1.size : Int))) else (some false))) else (some false)) else (some false)
theorem cQ.calls (d0 : ByteArray) (e0 : ByteArray) (f0 : Int) (r : Bool) (w : World) (h : cQ.f d0 e0 f0 = some r) :
  Calls Tryz.prog 39 #[.agg #[.string d0, .string e0, .int .i64 f0]] w fun e w' => e = .returned (.bool r) ∧ Below w.heap.size w w' := by
 have hu35 := Tryz.underlying35
 have HB := c_ (Ba w.heap.size w)
 delta cQ.f at h
 have H := h
 clear h
 by_cases c2 : (d0.size : Int) = 32
 rotate_left
 ·rw [Ea c2] at H
  have E0 : ((d0.size : Int) == 32) = false := beq_eq_false_iff_ne.mpr c2
  have F0 : ((d0.size : Int) != 32) = true := bne_iff_ne.mpr c2
  obtain rfl := za H
  go_enter Tryz.func39, Tryz.ntmps39
  go_wp2_with (first | ((refine aI (N := 1) rfl ?_); (try (refine bn (by rfl) ?_; dsimp only)); refine cz ?hg (N := 1) ?hd (cs := #[.string d0, .string e0, .int .i64 f0]) (t := 35) ?hr ?_; (case hd => rfl); (case hg => rfl); (case hr => first | (go_simp; done) | (go_simp; rfl)); intro b0 hg G0 hbox hb; obtain ⟨HB, a0, k0, j0⟩ := b_ (ab (hB_) hb) <| b_ (hbox) <| b_ (by rw [hg]; exact (ac (hB_)) : w.heap.size ≤ b0) <| c_ (by rw [hg]; exact (ac (hB_)) : w.heap.size ≤ b0); clear hb hbox hg; have n0 : G0.cell? ⟨b0, 0, none⟩ = some (.string d0) := (ar a0.o 0).trans rfl; have p0 : G0.cell? ⟨b0, 1, none⟩ = some (.string e0) := (ar a0.o 1).trans rfl; have q0 : G0.cell? ⟨b0, 2, none⟩ = some (.int .i64 f0) := (ar a0.o 2).trans rfl; have r0 := aj a0.o 0; have t0 := aj a0.o 1; have u0 := aj a0.o 2))
  go_ret
  exact ⟨f1_, hS_ j0.o⟩
 rw [Da c2] at H
 have E0 : ((d0.size : Int) == 32) = true := beq_iff_eq.mpr c2
 have F0 : ((d0.size : Int) != 32) = false := bne_eq_false_iff_eq.mpr c2
 clear c2
 by_cases c3 : (e0.size : Int) < 64
 rotate_left
 ·rw [Ea c3] at H
  have H0 := xa c3
  have I0 : decide (e0.size < 64) = false := xa (by omega)
  clear c3
  obtain rfl := za H
  go_enter Tryz.func39, Tryz.ntmps39
  go_wp2_with (first | ((refine aI (N := 1) rfl ?_); (try (refine bn (by rfl) ?_; dsimp only)); refine cz ?hg (N := 1) ?hd (cs := #[.string d0, .string e0, .int .i64 f0]) (t := 35) ?hr ?_; (case hd => rfl); (case hg => rfl); (case hr => first | (go_simp; done) | (go_simp; rfl)); intro b0 hg J0 hbox hb; obtain ⟨HB, a0, k0, j0⟩ := b_ (ab (hB_) hb) <| b_ (hbox) <| b_ (by rw [hg]; exact (ac (hB_)) : w.heap.size ≤ b0) <| c_ (by rw [hg]; exact (ac (hB_)) : w.heap.size ≤ b0); clear hb hbox hg; have v0 : J0.cell? ⟨b0, 0, none⟩ = some (.string d0) := (ar a0.o 0).trans rfl; have x0 : J0.cell? ⟨b0, 1, none⟩ = some (.string e0) := (ar a0.o 1).trans rfl; have y0 : J0.cell? ⟨b0, 2, none⟩ = some (.int .i64 f0) := (ar a0.o 2).trans rfl; have B0 := aj a0.o 0; have C0 := aj a0.o 1; have D0 := aj a0.o 2))
  go_ret
  exact ⟨f1_, hS_ j0.o⟩
 rw [Da c3] at H
 have H0 := wa c3
 have I0 : decide (e0.size < 64) = true := wa (by omega)
 clear c3
 obtain ⟨K0, A4, H⟩ := bN_ H
 by_cases c5 : K0 = true
 ·subst c5
  replace H := iT_ H
  obtain rfl := za H
  go_enter Tryz.func39, Tryz.ntmps39
  go_wp2_with (first | ((refine aI (N := 1) rfl ?_); (try (refine bn (by rfl) ?_; dsimp only)); refine cz ?hg (N := 1) ?hd (cs := #[.string d0, .string e0, .int .i64 f0]) (t := 35) ?hr ?_; (case hd => rfl); (case hg => rfl); (case hr => first | (go_simp; done) | (go_simp; rfl)); intro b0 hg w6 hbox hb; obtain ⟨HB, a0, k0, j0⟩ := b_ (ab (hB_) hb) <| b_ (hbox) <| b_ (by rw [hg]; exact (ac (hB_)) : w.heap.size ≤ b0) <| c_ (by rw [hg]; exact (ac (hB_)) : w.heap.size ≤ b0); clear hb hbox hg; have L0 : w6.cell? ⟨b0, 0, none⟩ = some (.string d0) := (ar a0.o 0).trans rfl; have M0 : w6.cell? ⟨b0, 1, none⟩ = some (.string e0) := (ar a0.o 1).trans rfl; have N0 : w6.cell? ⟨b0, 2, none⟩ = some (.int .i64 f0) := (ar a0.o 2).trans rfl; have O0 := aj a0.o 0; have P0 := aj a0.o 1; have Q0 := aj a0.o 2) | (go_at_call 71; (with_reducible refine (aY.calls f0 0 1000000000 true _ A4.o).mono ?_); rintro e w' ⟨rfl, ⟨nd, rfl⟩⟩))
  go_ret
  exact ⟨f1_, hS_ j0.o⟩
 ·replace c5 := Ca c5
  subst c5
  replace H := iF_ H
  obtain rfl := za H
  go_enter Tryz.func39, Tryz.ntmps39
  go_wp2_with (first | ((refine aI (N := 1) rfl ?_); (try (refine bn (by rfl) ?_; dsimp only)); refine cz ?hg (N := 1) ?hd (cs := #[.string d0, .string e0, .int .i64 f0]) (t := 35) ?hr ?_; (case hd => rfl); (case hg => rfl); (case hr => first | (go_simp; done) | (go_simp; rfl)); intro b0 hg w8 hbox hb; obtain ⟨HB, a0, k0, j0⟩ := b_ (ab (hB_) hb) <| b_ (hbox) <| b_ (by rw [hg]; exact (ac (hB_)) : w.heap.size ≤ b0) <| c_ (by rw [hg]; exact (ac (hB_)) : w.heap.size ≤ b0); clear hb hbox hg; have R0 : w8.cell? ⟨b0, 0, none⟩ = some (.string d0) := (ar a0.o 0).trans rfl; have S0 : w8.cell? ⟨b0, 1, none⟩ = some (.string e0) := (ar a0.o 1).trans rfl; have T0 : w8.cell? ⟨b0, 2, none⟩ = some (.int .i64 f0) := (ar a0.o 2).trans rfl; have U0 := aj a0.o 0; have V0 := aj a0.o 1; have W0 := aj a0.o 2) | (go_at_call 71; (with_reducible refine (aY.calls f0 0 1000000000 false _ A4.o).mono ?_); rintro e w' ⟨rfl, ⟨nd, rfl⟩⟩))
  go_ret
  exact ⟨f1_, hS_ j0.o⟩
def ej.f (a0 : ByteArray) (a1 : Int) : Option (Int) := if 0 ≤ a1 then (if a1 < (a0.size : Int) then (if 0 ≤ (wrap64 (a1 + 1)) then (if (wrap64 (a1 + 1)) < (a0.size : Int) then (if 0 ≤ (wrap64 (a1 + 2)) then (if (wrap64 (a1 + 2)) < (a0.size : Int) then (if 0 ≤ (wrap64 (a1 + 3)) then (if (wrap64 (a1 + 3)) < (a0.size : Int) then (some ((((((((((bt a0 a1) % 4294967296) * 16777216) % 4294967296) + ((((bt a0 (wrap64 (a1 + 1))) % 4294967296) * 65536) % 4294967296)) % 4294967296) + ((((bt a0 (wrap64 (a1 + 2))) % 4294967296) * 256) % 4294967296)) % 4294967296) + ((bt a0 (wrap64 (a1 + 3))) % 4294967296)) % 4294967296)) else (none)) else (none)) else (none)) else (none)) else (none)) else (none)) else (none)) else (none)
theorem ej.calls (a0 : ByteArray) (a1 : Int) (r : Int) (w : World) (h : ej.f a0 a1 = some r) :
  Calls Tryz.prog 76 #[.string a0, .int .i64 a1] w fun e w' => e = .returned (.int .u32 r) ∧ cx w w' := by
 delta ej.f at h
 have H := h
 clear h
 obtain ⟨x0, H⟩ := iD_ H
 obtain ⟨y0, H⟩ := iD_ H
 obtain ⟨k0, e0⟩ : ∃ j_ : Int, (wrap64 (a1 + 1)) = j_ := ⟨_, rfl⟩
 first | rw [e0] at H | simp only [e0] at H
 have q0 : (IntKind.i64.wrap (a1 + 1)) = k0 := (bv _).trans e0
 obtain ⟨B0, H⟩ := iD_ H
 obtain ⟨C0, H⟩ := iD_ H
 obtain ⟨f0, b0⟩ : ∃ j_ : Int, (wrap64 (a1 + 2)) = j_ := ⟨_, rfl⟩
 first | rw [b0] at H | simp only [b0] at H
 have n0 : (IntKind.i64.wrap (a1 + 2)) = f0 := (bv _).trans b0
 obtain ⟨r0, H⟩ := iD_ H
 obtain ⟨t0, H⟩ := iD_ H
 obtain ⟨j0, d0⟩ : ∃ j_ : Int, (wrap64 (a1 + 3)) = j_ := ⟨_, rfl⟩
 first | rw [d0] at H | simp only [d0] at H
 have p0 : (IntKind.i64.wrap (a1 + 3)) = j0 := (bv _).trans d0
 obtain ⟨u0, H⟩ := iD_ H
 obtain ⟨v0, H⟩ := iD_ H
 obtain rfl := za H
 have p5 := ya (oD_ : 0 ≤ (a1 : Int))
 have q5 := ya (oD_ : a1 < (a0.size : Int))
 have F0 := cP a0 a1
 have p9 := ya (oD_ : 0 ≤ ((k0) : Int))
 have q9 := ya (oD_ : (k0) < (a0.size : Int))
 have G0 := cP a0 (k0)
 have H0 := ya (oD_ : 0 ≤ ((f0) : Int))
 have I0 := ya (oD_ : (f0) < (a0.size : Int))
 have D0 := cP a0 (f0)
 have J0 := ya (oD_ : 0 ≤ ((j0) : Int))
 have K0 := ya (oD_ : (j0) < (a0.size : Int))
 have E0 := cP a0 (j0)
 go_enter Tryz.func76, Tryz.ntmps76
 go_wp2
 repeat (go_quiet (fail); try go_wp2)
 go_ret
 exact ⟨by first | rfl | (simp; done) | (simp only [← e0, ← b0, ← d0] <;> (first | rfl | simp)) | (simp [*]; done), d0_⟩
def bm.l0 : Nat → ByteArray → List Int → Int → Option (List Int)
 | 0, _, _, _ => none
 | k + 1, x0, x3, x4 => if (wrap64 (x4 + 4)) ≤ (x0.size : Int) then ((ej.f x0 x4).bind fun t315 => (if x3.length < 35184372088832 then (bm.l0 k x0 (x3 ++ [t315]) (wrap64 (x4 + 4))) else (none))) else (some x3)
def bm.f (k : Nat) (a0 : ByteArray) : Option (List Int) := bm.l0 k a0 (([] : List Int)) 0
theorem bm.mono_l : ∀ k, (∀ y0 y1 y2, LeO (bm.l0 k y0 y1 y2) (bm.l0 (k + 1) y0 y1 y2))
 | 0 => fun _ _ _ r h => by simp [bm.l0] at h
 | k + 1 => by
  have ih0 := bm.mono_l k
  intros; unfold bm.l0; exact o1_ ih0
theorem bm.mono : ∀ a0 k, LeO (bm.f k a0) (bm.f (k + 1) a0) := by
 intro a0 k
 have ih0 := bm.mono_l k
 unfold bm.f
 exact o1_ ih0
theorem bm.calls (k : Nat) (a0 : ByteArray) (r : List Int) (w : World) (h : bm.f k a0 = some r) :
  Calls Tryz.prog 40 #[.string a0] w fun e w' => ∃ B0 : Value, e = .returned (B0) ∧ Kd.R (Kd.int .u32) 39 w' w.heap.size (fun _ => True) B0 r ∧ Below w.heap.size w w' := by
 have HB := c_ (Ba w.heap.size w)
 delta bm.f at h
 have H := h
 clear h
 obtain ⟨u0, d0⟩ : ∃ y_ : List Int, y_ = (([] : List Int)) := ⟨_, rfl⟩
 first | replace H := yb_ d0 H | rw [← d0] at H
 have k0 := c_ d0
 clear d0
 have H' := c_ H
 clear H
 go_enter Tryz.func40, Tryz.ntmps40
 go_wp2_with (first | ((refine aI (N := 5) rfl ?_); refine tn (Kd.int .u32) _ 39 ?hg (N := 5) ?hd (xs := ([] : List Int)) (inner := []) (ok := fun _ => True) (okp := fun _ => True) ?hr ?hp (fun _ hk => hk) trivial (Ba _ _) (Aa _) (by simp) ?_; (case hd => rfl); (case hg => rfl); (case hr => first | (go_simp; done) | (go_simp; rfl)); (case hp => exact (bA.none _ _)); intro D0 w2 n0 hb hg_ hnew_; clear hg_ hnew_; (first | rw [← k0.o] at n0 | (simp only [Int.reduceToNat] at n0; rw [← k0.o] at n0)); obtain ⟨p0, HB⟩ := b_ (sZ n0 (ac (hB_))) <| c_ (ab (hB_) hb); clear hb n0))
 go_loopg [3, 4] k (fun kq v3 v4 w' => ∃ (f0 : List Int) (b0 : Int), v4 = .int .i64 b0 ∧ aa (bm.l0 kq a0 f0 b0 = some r) ∧ aa (kq ≤ k) ∧ aa (Kd.R (Kd.int .u32) 39 w' w.heap.size (fun _ => True) v3 f0) ∧ aa (Below w.heap.size w w'))
 case atStart => exact ⟨(u0), (0), f0_, H', ⟨Aa _⟩, ⟨rR_ p0.o⟩, ⟨hB_⟩⟩
 clear H'
 obtain ⟨f0, b0, rfl, HA, C0, q0, HB⟩ := hrel
 rcases gk with _ | k1
 ·exact absurd HA.o (by simp [bm.l0])
 have H := HA.o
 clear HA
 simp only [bm.l0] at H
 by_cases c4 : (wrap64 (b0 + 4)) ≤ (a0.size : Int)
 ·rw [Da c4] at H
  have v0 := wa c4
  clear c4
  obtain ⟨j0, A5, H⟩ := bN_ H
  obtain ⟨c6, H⟩ := iN_ H
  have x0 := c_ c6
  clear c6
  obtain ⟨y0, e0⟩ : ∃ y_ : List Int, y_ = (f0 ++ [j0]) := ⟨_, rfl⟩
  first | replace H := yb_ e0 H | rw [← e0] at H
  have r0 := c_ e0
  clear e0
  have H' := c_ H
  clear H
  go_wp2_with (first | (refine gq_ 76 (some 16) Tryz.func76 #[.string a0, .int .i64 b0] (ej.calls a0 b0 j0 _ A5.o) ?_; rintro e w' ⟨rfl, ⟨nd, rfl⟩⟩; refine ⟨_, rfl, ?_⟩) | ((refine aU (b := .append) (xs := #[.tmp 13, .tmp 17]) rfl ?_); at_builtin; refine tf (Kd.int .u32) (w0 := w) w.heap.size rfl (.tmp 13) (.tmp 17) 60 39 (.int .u32 0) 4 rfl Tryz.underlying60 mZ rfl (by decide) (by omega) u3 f0 j0 [.int .u32 j0] (fun _ => True) (fun _ => False) rfl rfl ?aP (fun _ hk => hk.elim) ?aF ?aO ?aB ?aS ?aL ?_; (case aP => exact rfl); (case aB => exact (hB_)); (case aF => exact (fun _ _ => trivial)); (case aO => exact (rR_ q0.o)); (case aS => exact (ac (hB_))); (case aL => have := x0.o; omega); intro E0 w7 ho hb hg hat; rw [← r0.o] at ho; obtain ⟨HB, t0⟩ := b_ (hb) <| c_ (ho); clear ho hb hg hat))
  go_roundg k1
  case measure => have := C0.o; omega
  case rel => exact ⟨(y0), (wrap64 (b0 + 4)), f0_, H', ⟨by have := C0.o; omega⟩, ⟨rR_ t0.o⟩, ⟨hB_⟩⟩
 rw [Ea c4] at H
 have v0 := xa c4
 clear c4
 obtain rfl := za H
 go_wp2
 go_ret
 exact ⟨_, f1_, rR_ q0.o, hB_⟩
def eK.f  : Option (List Int) := some (([1116352408, 1899447441, 3049323471, 3921009573, 961987163, 1508970993, 2453635748, 2870763221, 3624381080, 310598401, 607225278, 1426881987, 1925078388, 2162078206, 2614888103, 3248222580, 3835390401, 4022224774, 264347078, 604807628, 770255983, 1249150122, 1555081692, 1996064986, 2554220882, 2821834349, 2952996808, 3210313671, 3336571891, 3584528711, 113926993, 338241895, 666307205, 773529912, 1294757372, 1396182291, 1695183700, 1986661051, 2177026350, 2456956037, 2730485921, 2820302411, 3259730800, 3345764771, 3516065817, 3600352804, 4094571909, 275423344, 430227734, 506948616, 659060556, 883997877, 958139571, 1322822218, 1537002063, 1747873779, 1955562222, 2024104815, 2227730452, 2361852424, 2428436474, 2756734187, 3204031479, 3329325298] : List Int))
theorem eK.calls  (r : List Int) (w : World) (h : eK.f  = some r) :
  Calls Tryz.prog 41 #[] w fun e w' => ∃ f0 : Value, e = .returned (f0) ∧ Kd.R (Kd.int .u32) 39 w' w.heap.size (fun _ => True) f0 r ∧ Below w.heap.size w w' := by
 have HB := c_ (Ba w.heap.size w)
 delta eK.f at h
 have H := h
 clear h
 obtain ⟨j0, a0⟩ : ∃ y_ : List Int, y_ = (([1116352408, 1899447441, 3049323471, 3921009573, 961987163, 1508970993, 2453635748, 2870763221, 3624381080, 310598401, 607225278, 1426881987, 1925078388, 2162078206, 2614888103, 3248222580, 3835390401, 4022224774, 264347078, 604807628, 770255983, 1249150122, 1555081692, 1996064986, 2554220882, 2821834349, 2952996808, 3210313671, 3336571891, 3584528711, 113926993, 338241895, 666307205, 773529912, 1294757372, 1396182291, 1695183700, 1986661051, 2177026350, 2456956037, 2730485921, 2820302411, 3259730800, 3345764771, 3516065817, 3600352804, 4094571909, 275423344, 430227734, 506948616, 659060556, 883997877, 958139571, 1322822218, 1537002063, 1747873779, 1955562222, 2024104815, 2227730452, 2361852424, 2428436474, 2756734187, 3204031479, 3329325298] : List Int)) := ⟨_, rfl⟩
 first | replace H := yb_ a0 H | rw [← a0] at H
 have b0 := c_ a0
 clear a0
 obtain rfl := za H
 go_enter Tryz.func41, Tryz.ntmps41
 go_wp2_with (first | ((refine aI (N := 1) rfl ?_); refine tn (Kd.int .u32) _ 39 ?hg (N := 1) ?hd (xs := ([1116352408, 1899447441, 3049323471, 3921009573, 961987163, 1508970993, 2453635748, 2870763221, 3624381080, 310598401, 607225278, 1426881987, 1925078388, 2162078206, 2614888103, 3248222580, 3835390401, 4022224774, 264347078, 604807628, 770255983, 1249150122, 1555081692, 1996064986, 2554220882, 2821834349, 2952996808, 3210313671, 3336571891, 3584528711, 113926993, 338241895, 666307205, 773529912, 1294757372, 1396182291, 1695183700, 1986661051, 2177026350, 2456956037, 2730485921, 2820302411, 3259730800, 3345764771, 3516065817, 3600352804, 4094571909, 275423344, 430227734, 506948616, 659060556, 883997877, 958139571, 1322822218, 1537002063, 1747873779, 1955562222, 2024104815, 2227730452, 2361852424, 2428436474, 2756734187, 3204031479, 3329325298] : List Int)) (inner := [.int .u32 1116352408, .int .u32 1899447441, .int .u32 3049323471, .int .u32 3921009573, .int .u32 961987163, .int .u32 1508970993, .int .u32 2453635748, .int .u32 2870763221, .int .u32 3624381080, .int .u32 310598401, .int .u32 607225278, .int .u32 1426881987, .int .u32 1925078388, .int .u32 2162078206, .int .u32 2614888103, .int .u32 3248222580, .int .u32 3835390401, .int .u32 4022224774, .int .u32 264347078, .int .u32 604807628, .int .u32 770255983, .int .u32 1249150122, .int .u32 1555081692, .int .u32 1996064986, .int .u32 2554220882, .int .u32 2821834349, .int .u32 2952996808, .int .u32 3210313671, .int .u32 3336571891, .int .u32 3584528711, .int .u32 113926993, .int .u32 338241895, .int .u32 666307205, .int .u32 773529912, .int .u32 1294757372, .int .u32 1396182291, .int .u32 1695183700, .int .u32 1986661051, .int .u32 2177026350, .int .u32 2456956037, .int .u32 2730485921, .int .u32 2820302411, .int .u32 3259730800, .int .u32 3345764771, .int .u32 3516065817, .int .u32 3600352804, .int .u32 4094571909, .int .u32 275423344, .int .u32 430227734, .int .u32 506948616, .int .u32 659060556, .int .u32 883997877, .int .u32 958139571, .int .u32 1322822218, .int .u32 1537002063, .int .u32 1747873779, .int .u32 1955562222, .int .u32 2024104815, .int .u32 2227730452, .int .u32 2361852424, .int .u32 2428436474, .int .u32 2756734187, .int .u32 3204031479, .int .u32 3329325298]) (ok := fun _ => True) (okp := fun _ => True) ?hr ?hp (fun _ hk => hk) trivial (Ba _ _) (Aa _) (by simp) ?_; (case hd => rfl); (case hg => rfl); (case hr => first | (go_simp; done) | (go_simp; rfl)); (case hp => exact (bA.one (show Kd.M (Kd.int .u32) _ _ _ 1116352408 [.int .u32 1116352408] from rfl) (bA.one (show Kd.M (Kd.int .u32) _ _ _ 1899447441 [.int .u32 1899447441] from rfl) (bA.one (show Kd.M (Kd.int .u32) _ _ _ 3049323471 [.int .u32 3049323471] from rfl) (bA.one (show Kd.M (Kd.int .u32) _ _ _ 3921009573 [.int .u32 3921009573] from rfl) (bA.one (show Kd.M (Kd.int .u32) _ _ _ 961987163 [.int .u32 961987163] from rfl) (bA.one (show Kd.M (Kd.int .u32) _ _ _ 1508970993 [.int .u32 1508970993] from rfl) (bA.one (show Kd.M (Kd.int .u32) _ _ _ 2453635748 [.int .u32 2453635748] from rfl) (bA.one (show Kd.M (Kd.int .u32) _ _ _ 2870763221 [.int .u32 2870763221] from rfl) (bA.one (show Kd.M (Kd.int .u32) _ _ _ 3624381080 [.int .u32 3624381080] from rfl) (bA.one (show Kd.M (Kd.int .u32) _ _ _ 310598401 [.int .u32 310598401] from rfl) (bA.one (show Kd.M (Kd.int .u32) _ _ _ 607225278 [.int .u32 607225278] from rfl) (bA.one (show Kd.M (Kd.int .u32) _ _ _ 1426881987 [.int .u32 1426881987] from rfl) (bA.one (show Kd.M (Kd.int .u32) _ _ _ 1925078388 [.int .u32 1925078388] from rfl) (bA.one (show Kd.M (Kd.int .u32) _ _ _ 2162078206 [.int .u32 2162078206] from rfl) (bA.one (show Kd.M (Kd.int .u32) _ _ _ 2614888103 [.int .u32 2614888103] from rfl) (bA.one (show Kd.M (Kd.int .u32) _ _ _ 3248222580 [.int .u32 3248222580] from rfl) (bA.one (show Kd.M (Kd.int .u32) _ _ _ 3835390401 [.int .u32 3835390401] from rfl) (bA.one (show Kd.M (Kd.int .u32) _ _ _ 4022224774 [.int .u32 4022224774] from rfl) (bA.one (show Kd.M (Kd.int .u32) _ _ _ 264347078 [.int .u32 264347078] from rfl) (bA.one (show Kd.M (Kd.int .u32) _ _ _ 604807628 [.int .u32 604807628] from rfl) (bA.one (show Kd.M (Kd.int .u32) _ _ _ 770255983 [.int .u32 770255983] from rfl) (bA.one (show Kd.M (Kd.int .u32) _ _ _ 1249150122 [.int .u32 1249150122] from rfl) (bA.one (show Kd.M (Kd.int .u32) _ _ _ 1555081692 [.int .u32 1555081692] from rfl) (bA.one (show Kd.M (Kd.int .u32) _ _ _ 1996064986 [.int .u32 1996064986] from rfl) (bA.one (show Kd.M (Kd.int .u32) _ _ _ 2554220882 [.int .u32 2554220882] from rfl) (bA.one (show Kd.M (Kd.int .u32) _ _ _ 2821834349 [.int .u32 2821834349] from rfl) (bA.one (show Kd.M (Kd.int .u32) _ _ _ 2952996808 [.int .u32 2952996808] from rfl) (bA.one (show Kd.M (Kd.int .u32) _ _ _ 3210313671 [.int .u32 3210313671] from rfl) (bA.one (show Kd.M (Kd.int .u32) _ _ _ 3336571891 [.int .u32 3336571891] from rfl) (bA.one (show Kd.M (Kd.int .u32) _ _ _ 3584528711 [.int .u32 3584528711] from rfl) (bA.one (show Kd.M (Kd.int .u32) _ _ _ 113926993 [.int .u32 113926993] from rfl) (bA.one (show Kd.M (Kd.int .u32) _ _ _ 338241895 [.int .u32 338241895] from rfl) (bA.one (show Kd.M (Kd.int .u32) _ _ _ 666307205 [.int .u32 666307205] from rfl) (bA.one (show Kd.M (Kd.int .u32) _ _ _ 773529912 [.int .u32 773529912] from rfl) (bA.one (show Kd.M (Kd.int .u32) _ _ _ 1294757372 [.int .u32 1294757372] from rfl) (bA.one (show Kd.M (Kd.int .u32) _ _ _ 1396182291 [.int .u32 1396182291] from rfl) (bA.one (show Kd.M (Kd.int .u32) _ _ _ 1695183700 [.int .u32 1695183700] from rfl) (bA.one (show Kd.M (Kd.int .u32) _ _ _ 1986661051 [.int .u32 1986661051] from rfl) (bA.one (show Kd.M (Kd.int .u32) _ _ _ 2177026350 [.int .u32 2177026350] from rfl) (bA.one (show Kd.M (Kd.int .u32) _ _ _ 2456956037 [.int .u32 2456956037] from rfl) (bA.one (show Kd.M (Kd.int .u32) _ _ _ 2730485921 [.int .u32 2730485921] from rfl) (bA.one (show Kd.M (Kd.int .u32) _ _ _ 2820302411 [.int .u32 2820302411] from rfl) (bA.one (show Kd.M (Kd.int .u32) _ _ _ 3259730800 [.int .u32 3259730800] from rfl) (bA.one (show Kd.M (Kd.int .u32) _ _ _ 3345764771 [.int .u32 3345764771] from rfl) (bA.one (show Kd.M (Kd.int .u32) _ _ _ 3516065817 [.int .u32 3516065817] from rfl) (bA.one (show Kd.M (Kd.int .u32) _ _ _ 3600352804 [.int .u32 3600352804] from rfl) (bA.one (show Kd.M (Kd.int .u32) _ _ _ 4094571909 [.int .u32 4094571909] from rfl) (bA.one (show Kd.M (Kd.int .u32) _ _ _ 275423344 [.int .u32 275423344] from rfl) (bA.one (show Kd.M (Kd.int .u32) _ _ _ 430227734 [.int .u32 430227734] from rfl) (bA.one (show Kd.M (Kd.int .u32) _ _ _ 506948616 [.int .u32 506948616] from rfl) (bA.one (show Kd.M (Kd.int .u32) _ _ _ 659060556 [.int .u32 659060556] from rfl) (bA.one (show Kd.M (Kd.int .u32) _ _ _ 883997877 [.int .u32 883997877] from rfl) (bA.one (show Kd.M (Kd.int .u32) _ _ _ 958139571 [.int .u32 958139571] from rfl) (bA.one (show Kd.M (Kd.int .u32) _ _ _ 1322822218 [.int .u32 1322822218] from rfl) (bA.one (show Kd.M (Kd.int .u32) _ _ _ 1537002063 [.int .u32 1537002063] from rfl) (bA.one (show Kd.M (Kd.int .u32) _ _ _ 1747873779 [.int .u32 1747873779] from rfl) (bA.one (show Kd.M (Kd.int .u32) _ _ _ 1955562222 [.int .u32 1955562222] from rfl) (bA.one (show Kd.M (Kd.int .u32) _ _ _ 2024104815 [.int .u32 2024104815] from rfl) (bA.one (show Kd.M (Kd.int .u32) _ _ _ 2227730452 [.int .u32 2227730452] from rfl) (bA.one (show Kd.M (Kd.int .u32) _ _ _ 2361852424 [.int .u32 2361852424] from rfl) (bA.one (show Kd.M (Kd.int .u32) _ _ _ 2428436474 [.int .u32 2428436474] from rfl) (bA.one (show Kd.M (Kd.int .u32) _ _ _ 2756734187 [.int .u32 2756734187] from rfl) (bA.one (show Kd.M (Kd.int .u32) _ _ _ 3204031479 [.int .u32 3204031479] from rfl) (bA.one (show Kd.M (Kd.int .u32) _ _ _ 3329325298 [.int .u32 3329325298] from rfl) (bA.none _ _)))))))))))))))))))))))))))))))))))))))))))))))))))))))))))))))))); intro k0 w1 d0 hb hg_ hnew_; clear hg_ hnew_; (first | rw [← b0.o] at d0 | (simp only [Int.reduceToNat] at d0; rw [← b0.o] at d0)); obtain ⟨e0, HB⟩ := b_ (sZ d0 (ac (hB_))) <| c_ (ab (hB_) hb); clear hb d0))
 go_ret
 exact ⟨_, f1_, rR_ e0.o, hB_⟩
def cM.f (a0 : Int) (a1 : Int) (a2 : Int) : Option (Int) := if a1 = 0 then (none) else (some ((((Int.tdiv a0 a1) % 4294967296) + (((Int.tmod a0 a1) * a2) % 4294967296)) % 4294967296))
theorem cM.calls (a0 : Int) (a1 : Int) (a2 : Int) (r : Int) (w : World) (h : cM.f a0 a1 a2 = some r) :
  Calls Tryz.prog 97 #[.int .u32 a0, .int .u32 a1, .int .u32 a2] w fun e w' => e = .returned (.int .u32 r) ∧ cx w w' := by
 delta cM.f at h
 have H := h
 clear h
 by_cases c4 : a1 = 0
 ·rw [Da c4] at H
  exact absurd H (by simp)
 rw [Ea c4] at H
 have b0 : (a1 == 0) = false := beq_eq_false_iff_ne.mpr c4
 have d0 : (a1 != 0) = true := bne_iff_ne.mpr c4
 obtain rfl := za H
 go_enter Tryz.func97, Tryz.ntmps97
 go_wp2
 repeat (go_quiet (fail); try go_wp2)
 go_ret
 exact ⟨f0_, d0_⟩
def cV.f (a0 : Int) (a1 : Int) (a2 : Int) (a3 : Int) (a4 : Bool) : Option (Int) := if a1 = 0 then (none) else ((cM.f a0 a1 ((((Int.tdiv (2147483648 : Int) a1) % 4294967296) * 2) % 4294967296)).bind fun t322 => (if a2 = 0 then (none) else ((cM.f a0 a2 ((((Int.tdiv (2147483648 : Int) a2) % 4294967296) * 2) % 4294967296)).bind fun t323 => (if a3 = 0 then (none) else (if a4 = true then (some (Go.bits .xor .u32 (Go.bits .xor .u32 t322 t323) ((Int.tdiv a0 a3) % 4294967296))) else ((cM.f a0 a3 ((((Int.tdiv (2147483648 : Int) a3) % 4294967296) * 2) % 4294967296)).bind fun t324 => (some (Go.bits .xor .u32 (Go.bits .xor .u32 t322 t323) t324))))))))
theorem cV.calls (a0 : Int) (a1 : Int) (a2 : Int) (a3 : Int) (a4 : Bool) (r : Int) (w : World) (h : cV.f a0 a1 a2 a3 a4 = some r) :
  Calls Tryz.prog 77 #[.int .u32 a0, .int .u32 a1, .int .u32 a2, .int .u32 a3, .bool a4] w fun e w' => e = .returned (.int .u32 r) ∧ cx w w' := by
 delta cV.f at h
 have H := h
 clear h
 by_cases c6 : a1 = 0
 ·rw [Da c6] at H
  exact absurd H (by simp)
 rw [Ea c6] at H
 have p0 : (a1 == 0) = false := beq_eq_false_iff_ne.mpr c6
 have q0 : (a1 != 0) = true := bne_iff_ne.mpr c6
 obtain ⟨b0, A7, H⟩ := bN_ H
 by_cases c8 : a2 = 0
 ·rw [Da c8] at H
  exact absurd H (by simp)
 rw [Ea c8] at H
 have r0 : (a2 == 0) = false := beq_eq_false_iff_ne.mpr c8
 have t0 : (a2 != 0) = true := bne_iff_ne.mpr c8
 obtain ⟨d0, A9, H⟩ := bN_ H
 by_cases e0 : a3 = 0
 ·rw [Da e0] at H
  exact absurd H (by simp)
 rw [Ea e0] at H
 have k0 : (a3 == 0) = false := beq_eq_false_iff_ne.mpr e0
 have n0 : (a3 != 0) = true := bne_iff_ne.mpr e0
 by_cases f0 : a4 = true
 ·subst f0
  replace H := iT_ H
  obtain rfl := za H
  go_enter Tryz.func77, Tryz.ntmps77
  go_wp2_with (first | (refine gq_ 97 (some 19) Tryz.func97 #[.int .u32 a0, .int .u32 a1, .int .u32 ((((Int.tdiv (2147483648 : Int) a1) % 4294967296) * 2) % 4294967296)] (cM.calls a0 a1 ((((Int.tdiv (2147483648 : Int) a1) % 4294967296) * 2) % 4294967296) b0 _ A7.o) ?_; rintro e w' ⟨rfl, ⟨nd, rfl⟩⟩; refine ⟨_, rfl, ?_⟩) | (refine gq_ 97 (some 25) Tryz.func97 #[.int .u32 a0, .int .u32 a2, .int .u32 ((((Int.tdiv (2147483648 : Int) a2) % 4294967296) * 2) % 4294967296)] (cM.calls a0 a2 ((((Int.tdiv (2147483648 : Int) a2) % 4294967296) * 2) % 4294967296) d0 _ A9.o) ?_; rintro e w' ⟨rfl, ⟨nd, rfl⟩⟩; refine ⟨_, rfl, ?_⟩))
  go_ret
  exact ⟨f0_, d0_⟩
 ·replace f0 := Ca f0
  subst f0
  replace H := iF_ H
  obtain ⟨j0, u0, H⟩ := bN_ H
  obtain rfl := za H
  go_enter Tryz.func77, Tryz.ntmps77
  go_wp2_with (first | (refine gq_ 97 (some 19) Tryz.func97 #[.int .u32 a0, .int .u32 a1, .int .u32 ((((Int.tdiv (2147483648 : Int) a1) % 4294967296) * 2) % 4294967296)] (cM.calls a0 a1 ((((Int.tdiv (2147483648 : Int) a1) % 4294967296) * 2) % 4294967296) b0 _ A7.o) ?_; rintro e w' ⟨rfl, ⟨nd, rfl⟩⟩; refine ⟨_, rfl, ?_⟩) | (refine gq_ 97 (some 25) Tryz.func97 #[.int .u32 a0, .int .u32 a2, .int .u32 ((((Int.tdiv (2147483648 : Int) a2) % 4294967296) * 2) % 4294967296)] (cM.calls a0 a2 ((((Int.tdiv (2147483648 : Int) a2) % 4294967296) * 2) % 4294967296) d0 _ A9.o) ?_; rintro e w' ⟨rfl, ⟨nd, rfl⟩⟩; refine ⟨_, rfl, ?_⟩) | (refine gq_ 97 (some 36) Tryz.func97 #[.int .u32 a0, .int .u32 a3, .int .u32 ((((Int.tdiv (2147483648 : Int) a3) % 4294967296) * 2) % 4294967296)] (cM.calls a0 a3 ((((Int.tdiv (2147483648 : Int) a3) % 4294967296) * 2) % 4294967296) j0 _ u0.o) ?_; rintro e w' ⟨rfl, ⟨nd, rfl⟩⟩; refine ⟨_, rfl, ?_⟩))
  go_ret
  exact ⟨f0_, d0_⟩
end Go.Proofs.YtooanbpkknlmjaaGreatDoor.P
