-- printed texts of this session, regrouped
import Derived.Test.YtmdlpmddljbkeaaGreatDoorPx2
namespace Go.Proofs.YtmdlpmddljbkeaaGreatDoor.P
open Go.RowKit YtmdlpmddljbkeaaGreatDoorW.PrintWords YtmdlpmddljbkeaaGreatDoorW.PrintLast YtmdlpmddljbkeaaGreatDoorW.PrintMore
open Kd
attribute [local go_sem] d3 dW eG eI dD dC dZ dY
set_option linter.unusedVariables false
set_option linter.unusedSimpArgs false
set_option maxHeartbeats 8000000
set_option maxRecDepth 100000
mutual
def ai.j0 : Nat → List Int → List Int → Bool → Option (List Int)
 | 0, _, _, _ => none
 | k + 1, x0, x1, x16 => if x16 = true then (some ([] : List Int)) else (if 256 ≤ 35184372088832 then ((some (List.replicate 256 0 : List Int)).bind fun y326 => (ai.l0 k x0 x1 y326 (y326.length : Int) 0)) else (none))
def ai.l0 : Nat → List Int → List Int → List Int → Int → Int → Option (List Int)
 | 0, _, _, _, _, _ => none
 | k + 1, x0, x1, x7, x19, x20 => if x20 < x19 then (if 0 ≤ x20 then (if x20 < (x0.length : Int) then (if x20 < (x1.length : Int) then ((en.f (rd x0 x20) (rd x1 x20)).bind fun t331 => ((cd.f t331).bind fun t332 => (if x20 < (x7.length : Int) then (ai.l0 k x0 x1 (x7.set (x20 : Int).toNat t332) x19 (wrap64 (x20 + 1))) else (none)))) else (none)) else (none)) else (none)) else (some x7)
end
def ai.f (k : Nat) (l0 : List Int) (l1 : List Int) : Option (List Int) := (ap.f k l0).bind fun t324 => (if t324 = true then ((ap.f k l1).bind fun t325 => (ai.j0 k l0 l1 (!t325))) else (ai.j0 k l0 l1 true))
theorem ai.mono_l : ∀ k, (∀ y0 y1 y2, LeO (ai.j0 k y0 y1 y2) (ai.j0 (k + 1) y0 y1 y2)) ∧ (∀ y0 y1 y2 y3 y4, LeO (ai.l0 k y0 y1 y2 y3 y4) (ai.l0 (k + 1) y0 y1 y2 y3 y4))
 | 0 => ⟨fun _ _ _ r h => by simp [ai.j0] at h, fun _ _ _ _ _ r h => by simp [ai.l0] at h⟩
 | k + 1 => by
  obtain ⟨ih0, ih1⟩ := ai.mono_l k
  refine ⟨?_, ?_⟩ <;> (intros; (first | unfold ai.j0 | unfold ai.l0); exact o3_ ih0 ih1 ap.mono)
theorem ai.mono : ∀ a0 a1 k, LeO (ai.f k a0 a1) (ai.f (k + 1) a0 a1) := by
 intro a0 a1 k
 obtain ⟨ih0, ih1⟩ := ai.mono_l k
 unfold ai.f
 exact o3_ ih0 ih1 ap.mono
def ai.T7 : Bool × List (List Nat × List Nat) := (true, [([], []), ([], []), ([], []), ([], []), ([], []), ([3, 4], [3, 4]), ([5], [5]), ([], []), ([], []), ([7, 8], [7, 8]), ([9], [9]), ([2, 6, 10], [2, 6, 10]), ([11, 11], [11]), ([0, 1, 0, 1, 2, 3, 4, 5, 6, 7, 8, 9, 10, 11, 12], [0, 1]), ([13, 12, 12, 0, 1, 2, 3, 4, 5, 6, 7, 8, 9, 10, 11, 12], [12, 13])])
def ai.B7 : List Nat := [0, 0, 0, 0, 0, 24, 56, 0, 0, 384, 896, 2044, 4092, 8191, 16383]
theorem ai.tab7 : eu .any (fu Tryz.f52 7) = ai.T7 := by kernel_rfl
theorem ai.bits7 : dd ai.T7.2 ai.B7 = true := by kernel_rfl
theorem ai.calls (k : Nat) (A0 : Option Addr) (c0 : Nat) (l0 : List Int) (A1 : Option Addr) (c1 : Nat) (l1 : List Int) (r : List Int) (w : World) (hr0 : Kd.C (Kd.int .i64) w A0 l0.length l0) (hc0 : l0.length ≤ c0) (hr1 : Kd.C (Kd.int .i64) w A1 l1.length l1) (hc1 : l1.length ≤ c1) (h : ai.f k l0 l1 = some r) :
  Calls Tryz.prog 52 #[.slice A0 l0.length c0, .slice A1 l1.length c1, .func (.func 53) #[] #[]] w fun e w' => ∃ n1 : Value, e = .returned (n1) ∧ Kd.R (Kd.int .i64) 3 w' w.heap.size (fun _ => True) n1 r ∧ Below w.heap.size w w' := by
 have T0 := c_ hr0
 have p1 := c_ hc0
 clear hr0 hc0
 have q1 := c_ hr1
 have E1 := c_ hc1
 clear hr1 hc1
 have HB := c_ (Da w.heap.size w)
 delta ai.f at h
 have H := h
 clear h
 have U0 := c_ H
 clear H
 go_enter Tryz.func52, Tryz.ntmps52
 go_upto_region 1 with (fail)
 go_cut [16] (fun F1 wc => ∃ (kq : Nat) (p0 : Bool), F1 = .bool p0 ∧ aa (ai.j0 kq l0 l1 p0 = some r) ∧ aa (kq ≤ k) ∧ aa (Below w.heap.size w wc))
 case first =>
  have H := U0.o
  clear U0
  obtain ⟨V0, A4, H⟩ := bN_ H
  by_cases c5 : V0 = true
  ·subst c5
   replace H := iT_ H
   obtain ⟨W0, A6, H⟩ := bN_ H
   have H' := c_ H
   clear H
   go_wp2_with (first | (refine gp_ (k_ 10 Tryz.func51) (ap.calls _ _ _ _ _ _ (cR_ (vf T0.o HB.o)) p1.o A4.o) fun nd => ?_) | (go_at_call 51; refine mp_ (ap.calls _ _ _ _ _ _ (cR_ (vf q1.o (hB_))) E1.o A6.o) fun nd => ?_))
   go_meet
   case rel => exact ⟨_, (!W0), f0_, H', ⟨by first | omega | exact Ca _⟩, ⟨hB_⟩⟩
  ·replace c5 := Ea c5
   subst c5
   replace H := iF_ H
   have H' := c_ H
   clear H
   go_wp2_with (first | (refine gp_ (k_ 10 Tryz.func51) (ap.calls _ _ _ _ _ _ (cR_ (vf T0.o HB.o)) p1.o A4.o) fun nd => ?_))
   go_meet
   case rel => exact ⟨_, (true), f0_, H', ⟨by first | omega | exact Ca _⟩, ⟨hB_⟩⟩
 clear U0
 obtain ⟨kq, p0, rfl, HA, r1, HB⟩ := hcut
 rcases kq with _ | t1
 ·exact absurd HA.o (by simp [ai.j0])
 have H := HA.o
 clear HA
 simp only [ai.j0] at H
 by_cases c7 : p0 = true
 ·subst c7
  replace H := iT_ H
  obtain rfl := Ba H
  go_wp2
  go_ret
  exact ⟨_, f1_, by first | exact vB _ _ _ _ _ | exact Kd.N_nil _ _ _ _ _ | exact Kd.V_nil _ _ _ _ _ | exact Kd.Q_nil _ _ _ _ _ | exact vC _ _ _ _ _, hB_⟩
 ·replace c7 := Ea c7
  subst c7
  replace H := iF_ H
  obtain ⟨c8, H⟩ := iN_ H
  have G1 := Aa c8
  have H1 := ya c8
  clear c8
  obtain ⟨B0, q0⟩ : ∃ y_ : List Int, y_ = (List.replicate 256 0) := ⟨_, rfl⟩
  first | replace H := yb_ q0 H | rw [← q0] at H
  have C0 := c_ q0
  clear q0
  have H' := c_ H
  clear H
  go_wp2_with (first | ((refine cO (N := 17) rfl ?_); refine vu (Kd.int .i64) _ 3 rfl (N := 17) rfl 45 _ _ rfl 256 rfl rfl Tryz.underlying45 (.int .i64 0) 8 df rfl (by decide) (by omega) 0 (ok := fun _ => True) (okp := fun _ => True) rfl (fun _ hk => hk) trivial (by omega) (by omega) (Da _ _) (Ca _) ?_; intro I1 w9 v0 hb hg_ hnew_; clear hg_ hnew_; (first | rw [← C0.o] at v0 | (simp only [Int.reduceToNat] at v0; rw [← C0.o] at v0)); obtain ⟨D0, HB⟩ := b_ (vb v0 (au (hB_))) <| sB_; clear hb v0; obtain ⟨X0, Y0, Z0⟩ := uY D0.o; subst Z0))
  go_loopg [20] t1 (fun kq J1 w' => ∃ (x0 : List Int) (a0 : Int), J1 = .int .i64 a0 ∧ aa (ai.l0 kq l0 l1 x0 (B0.length : Int) a0 = some r) ∧ aa (kq ≤ t1) ∧ aa (Kd.R (Kd.int .i64) 3 w' w.heap.size (fun _ => True) (.slice X0 B0.length Y0) x0) ∧ aa (Below w.heap.size w w'))
  case atStart => exact ⟨(B0), (0), f0_, H', ⟨Ca _⟩, ⟨rR_ D0.o⟩, ⟨hB_⟩⟩
  clear H'
  obtain ⟨x0, a0, rfl, HA, y1, f0, HB⟩ := hrel
  have b0 := (uX f0.o).1
  rw [b0] at f0
  (try simp only [b0])
  rcases gk with _ | k2
  ·exact absurd HA.o (by simp [ai.l0])
  have H := HA.o
  clear HA
  simp only [ai.l0] at H
  by_cases K0 : a0 < (B0.length : Int)
  rotate_left
  ·rw [Ga K0] at H
   have y0 := za K0
   (try simp only [b0] at y0)
   clear K0
   obtain rfl := Ba H
   go_wp2
   go_ret
   exact ⟨_, f1_, rR_ f0.o, hB_⟩
  rw [Fa K0] at H
  have y0 := ya K0
  (try simp only [b0] at y0)
  clear K0
  obtain ⟨z1, H⟩ := iD_ H
  obtain ⟨B1, H⟩ := iN_ H
  have L0 := ya B1
  (try simp only [b0] at L0)
  clear B1
  obtain ⟨C1, H⟩ := iN_ H
  have M0 := ya C1
  (try simp only [b0] at M0)
  clear C1
  obtain ⟨E0, K1, H⟩ := bN_ H
  obtain ⟨F0, L1, H⟩ := bN_ H
  obtain ⟨D1, H⟩ := iN_ H
  have N0 := ya D1
  (try simp only [b0] at N0)
  clear D1
  obtain ⟨b1, r0⟩ : ∃ y_ : List Int, y_ = (x0.set (a0 : Int).toNat F0) := ⟨_, rfl⟩
  first | replace H := yb_ r0 H | rw [← r0] at H
  have O0 := c_ r0
  clear r0
  have H' := c_ H
  clear H
  try go_wp2
  obtain ⟨f0, HB⟩ := b_ (vl f0.o) <| c_ (bx HB.o)
  have G0 : 0 ≤ (a0 : Int) := oD_
  have H0 : a0 < (l0.length : Int) := oD_
  obtain ⟨P0, e1, d0⟩ := uZ T0.o a0 G0 H0
  have k0 := d0
  cases e1
  replace d0 := hc_ d0
  replace G0 := Aa G0
  replace H0 := Aa H0
  have I0 : 0 ≤ (a0 : Int) := oD_
  have J0 : a0 < (l1.length : Int) := oD_
  obtain ⟨Q0, f1, e0⟩ := uZ q1.o a0 I0 J0
  have n0 := e0
  cases f1
  replace e0 := hc_ e0
  replace I0 := Aa I0
  replace J0 := Aa J0
  refine ej (n := 15) (S := fun w' => w'.cell? (P0.add (a0).toNat) = some (.int .i64 (rd l0 a0)) ∧ w'.cell? (Q0.add (a0).toNat) = some (.int .i64 (rd l1 a0))) (ds := [14]) (bb_ 15 0) (by kernel_rfl) rfl rfl ⟨(hc_ k0), (hc_ n0)⟩ (fun hHeld => ?_); refine cK ai.tab7 ai.bits7 (fun HT_ HW_ => ?_)
  generalize wr.drew = N1 at f0 HB d0 e0 hHeld ⊢
  refine pT_ 0 23 15 1 ?_
  refine pT_ 1 24 15 3 ?_
  refine pT_ 2 25 15 7 ?_
  refine pT_ 3 26 15 15 ?_
  refine pT_ 4 27 15 31 ?_
  refine pT_ 5 28 15 63 ?_
  refine pT_ 7 30 15 191 ?_
  refine pT_ 8 31 15 447 ?_
  refine pT_ 9 32 15 959 ?_
  refine tS_ 6 29 (bb_ 15 1023) (bA HT_.o HW_.o (by kernel_rfl)) hHeld ?_
  refine tS_ 10 33 (bb_ 15 2047) (bA HT_.o HW_.o (by kernel_rfl)) hHeld ?_
  refine fB (i := 11) (N := some 34) (bb_ 15 4095) rfl rfl (cz HT_.o (by kernel_rfl)) (by decide) (fun K hK => ?_)
  refine Go.Proofs.YtmdlpmddljbkeaaGreatDoor.Kit.goesW_ (.tmp 25) Tryz.func53 (by kernel_rfl) rfl #[.int .i64 (rd l0 a0), .int .i64 (rd l1 a0)] (by rfl) rfl rfl aM_ (by first | rfl | (simp; done)) ?_
  with_reducible refine (en.calls (rd l0 a0) (rd l1 a0) E0 _ K1.o).mono ?_
  rintro e w' ⟨rfl, ⟨nd, rfl⟩⟩
  refine ⟨_, rfl, ?_⟩
  refine hK _ _ ⟨(hc_ k0), (hc_ n0)⟩ (fun hHeld => ?_)
  clear hK K
  refine dH (a' := ?_) ?_ ?_
  rotate_left
  ·show Act.put _ (some 34) _ = _
   simp only [Act.put, List.setIfInBounds_toArray, List.set_cons_zero, List.set_cons_succ, bq, ct]
   rfl
  refine fB (i := 12) (N := some 35) (bb_ 15 8191) rfl rfl (cz HT_.o (by kernel_rfl)) (by decide) (fun K hK => ?_)
  refine fj Tryz.func89 (by kernel_rfl) rfl #[.int .i64 E0] (by rfl) rfl rfl aM_ ?_
  with_reducible refine (cd.calls E0 F0 _ L1.o).mono ?_
  rintro e w' ⟨rfl, ⟨nd, rfl⟩⟩
  refine ⟨_, rfl, ?_⟩
  have g1 : 0 ≤ (a0 : Int) := oD_
  have i1 : (a0 : Int) < ((x0.length : Int) : Int) := oD_
  obtain ⟨go19, M1, R0, S0, gl19, cl19, HG19⟩ := vq f0.o (by omega)
  (first | cases R0 | (injection R0 with ea_ en_ ec_; (first | subst ea_ | (injection ea_ with ea_; subst ea_)); subst ec_; clear en_))
  have j1 := c_ S0
  have GG19 := c_ HG19
  clear S0 gl19 HG19
  obtain ⟨m1, hf19_0⟩ := vc 0 f0.o (a0 : Int) g1 i1
  replace g1 := Aa g1
  replace i1 := Aa i1
  have HP21 := vI f0.o (a0 : Int) F0
  rw [← O0.o] at HP21
  have HQ21 := c_ HP21
  clear HP21
  refine hK _ _ ⟨(hc_ k0), (hc_ n0)⟩ (fun hHeld => ?_)
  clear hK K
  refine dH (a' := ?_) ?_ ?_
  rotate_left
  ·show Act.put _ (some 35) _ = _
   simp only [Act.put, List.setIfInBounds_toArray, List.set_cons_zero, List.set_cons_succ, bq, ct]
   rfl
  refine pT_ 13 36 15 16383 ?_
  refine gR (i := 14) (N := none) (bb_ 15 32767) rfl rfl (cz HT_.o (by kernel_rfl)) (by decide) (fun K hK => ?_)
  refine jb (w1 := ?_) (by rfl) rfl ?_ ?_
  rotate_left
  ·go_simp
   rfl
  refine hK _ _ ?_
  clear hK K
  refine fq (dA HT_.o (by kernel_rfl)) ?_
  try go_wp2
  (try simp only [← b0])
  go_roundg k2
  case measure => have := r1.o; have := y1.o; omega
  case rel => exact ⟨(b1), (wrap64 (a0 + 1)), f0_, H', ⟨by have := r1.o; have := y1.o; omega⟩, ⟨by (try simp only [b0]); refine kR_ ?_; exact HQ21.o⟩, ⟨hS_ j1.o⟩⟩
def bD.f (k : Nat) (l0 : List Int) (l1 : List Int) : Option (List Int) := (ai.f k l0 l1).bind fun t334 => (some t334)
theorem bD.mono : ∀ a0 a1 k, LeO (bD.f k a0 a1) (bD.f (k + 1) a0 a1) := by
 intro a0 a1 k
 unfold bD.f
 exact o1_ ai.mono
theorem bD.calls (k : Nat) (A0 : Option Addr) (c0 : Nat) (l0 : List Int) (A1 : Option Addr) (c1 : Nat) (l1 : List Int) (r : List Int) (w : World) (hr0 : Kd.C (Kd.int .i64) w A0 l0.length l0) (hc0 : l0.length ≤ c0) (hr1 : Kd.C (Kd.int .i64) w A1 l1.length l1) (hc1 : l1.length ≤ c1) (h : bD.f k l0 l1 = some r) :
  Calls Tryz.prog 22 #[.slice A0 l0.length c0, .slice A1 l1.length c1] w fun e w' => ∃ b0 : Value, e = .returned (b0) ∧ Kd.R (Kd.int .i64) 3 w' w.heap.size (fun _ => True) b0 r ∧ Below w.heap.size w w' := by
 have d0 := c_ hr0
 have e0 := c_ hc0
 clear hr0 hc0
 have f0 := c_ hr1
 have j0 := c_ hc1
 clear hr1 hc1
 have HB := c_ (Da w.heap.size w)
 delta bD.f at h
 have H := h
 clear h
 obtain ⟨k0, A3, H⟩ := bN_ H
 obtain rfl := Ba H
 go_enter Tryz.func22, Tryz.ntmps22
 go_wp2_with (first | (refine gR_ (k_ 7 Tryz.func52) (ai.calls _ _ _ _ _ _ _ _ _ (cR_ d0.o) e0.o (cR_ f0.o) j0.o A3.o) fun n0 w4 ho_ hb => ?_; obtain ⟨a0, HB⟩ := n_ (lR_ ho_) <| sB_))
 go_ret
 exact ⟨_, f1_, rR_ a0.o, hB_⟩
mutual
def bh.j0 : Nat → List Int → List Int → Bool → Option (List Int)
 | 0, _, _, _ => none
 | k + 1, x0, x1, x19 => if x19 = true then (some ([] : List Int)) else (if 256 ≤ 35184372088832 then (bh.l0 k x0 x1 (List.replicate 256 0) 0) else (none))
def bh.l0 : Nat → List Int → List Int → List Int → Int → Option (List Int)
 | 0, _, _, _, _ => none
 | k + 1, x0, x1, x5, x21 => if x21 < 128 then ((bz.f k x21).bind fun t342 => ((bF.f k 17 (wrap64 ((wrap64 (2 * t342)) + 1))).bind fun t343 => (if 0 ≤ (wrap64 (2 * x21)) then (if (wrap64 (2 * x21)) < (x0.length : Int) then (if 0 ≤ (wrap64 ((wrap64 (2 * x21)) + 1)) then (if (wrap64 ((wrap64 (2 * x21)) + 1)) < (x0.length : Int) then (if (wrap64 (2 * x21)) < (x1.length : Int) then (if (wrap64 ((wrap64 (2 * x21)) + 1)) < (x1.length : Int) then ((cd.f (wrap64 ((wrap64 ((rd x0 (wrap64 (2 * x21))) * (rd x1 (wrap64 (2 * x21))))) + (wrap64 ((Int.tmod (wrap64 ((rd x0 (wrap64 ((wrap64 (2 * x21)) + 1))) * (rd x1 (wrap64 ((wrap64 (2 * x21)) + 1))))) 3329) * t343))))).bind fun t348 => (if (wrap64 (2 * x21)) < (x5.length : Int) then ((cd.f (wrap64 ((wrap64 ((rd x0 (wrap64 (2 * x21))) * (rd x1 (wrap64 ((wrap64 (2 * x21)) + 1))))) + (wrap64 ((rd x0 (wrap64 ((wrap64 (2 * x21)) + 1))) * (rd x1 (wrap64 (2 * x21)))))))).bind fun t350 => (if (wrap64 ((wrap64 (2 * x21)) + 1)) < (x5.length : Int) then (bh.l0 k x0 x1 ((x5.set ((wrap64 (2 * x21)) : Int).toNat t348).set ((wrap64 ((wrap64 (2 * x21)) + 1)) : Int).toNat t350) (wrap64 (x21 + 1))) else (none))) else (none))) else (none)) else (none)) else (none)) else (none)) else (none)) else (none)))) else (some x5)
end
def bh.f (k : Nat) (l0 : List Int) (l1 : List Int) : Option (List Int) := (ap.f k l0).bind fun t337 => (if t337 = true then ((ap.f k l1).bind fun t338 => (bh.j0 k l0 l1 (!t338))) else (bh.j0 k l0 l1 true))
theorem bh.mono_l : ∀ k, (∀ y0 y1 y2, LeO (bh.j0 k y0 y1 y2) (bh.j0 (k + 1) y0 y1 y2)) ∧ (∀ y0 y1 y2 y3, LeO (bh.l0 k y0 y1 y2 y3) (bh.l0 (k + 1) y0 y1 y2 y3))
 | 0 => ⟨fun _ _ _ r h => by simp [bh.j0] at h, fun _ _ _ _ r h => by simp [bh.l0] at h⟩
 | k + 1 => by
  obtain ⟨ih0, ih1⟩ := bh.mono_l k
  refine ⟨?_, ?_⟩ <;> (intros; (first | unfold bh.j0 | unfold bh.l0); exact o5_ ih0 ih1 ap.mono bF.mono bz.mono)
theorem bh.mono : ∀ a0 a1 k, LeO (bh.f k a0 a1) (bh.f (k + 1) a0 a1) := by
 intro a0 a1 k
 obtain ⟨ih0, ih1⟩ := bh.mono_l k
 unfold bh.f
 exact o5_ ih0 ih1 ap.mono bF.mono bz.mono
theorem bh.calls (k : Nat) (A0 : Option Addr) (c0 : Nat) (l0 : List Int) (A1 : Option Addr) (c1 : Nat) (l1 : List Int) (r : List Int) (w : World) (hr0 : Kd.C (Kd.int .i64) w A0 l0.length l0) (hc0 : l0.length ≤ c0) (hr1 : Kd.C (Kd.int .i64) w A1 l1.length l1) (hc1 : l1.length ≤ c1) (h : bh.f k l0 l1 = some r) :
  Calls Tryz.prog 54 #[.slice A0 l0.length c0, .slice A1 l1.length c1] w fun e w' => ∃ T1 : Value, e = .returned (T1) ∧ Kd.R (Kd.int .i64) 3 w' w.heap.size (fun _ => True) T1 r ∧ Below w.heap.size w w' := by
 have Y0 := c_ hr0
 have C1 := c_ hc0
 clear hr0 hc0
 have z1 := c_ hr1
 have I1 := c_ hc1
 clear hr1 hc1
 have HB := c_ (Da w.heap.size w)
 delta bh.f at h
 have H := h
 clear h
 have J1 := c_ H
 clear H
 go_enter Tryz.func54, Tryz.ntmps54
 go_upto_region 1 with (fail)
 repeat (go_quiet (fail); go_upto_region 1 with (fail))
 go_cut [19] (fun m2 wc => ∃ (kq : Nat) (U0 : Bool), m2 = .bool U0 ∧ aa (bh.j0 kq l0 l1 U0 = some r) ∧ aa (kq ≤ k) ∧ aa (Below w.heap.size w wc))
 case first =>
  have H := J1.o
  clear J1
  obtain ⟨K1, A4, H⟩ := bN_ H
  by_cases c5 : K1 = true
  ·subst c5
   replace H := iT_ H
   obtain ⟨L1, A6, H⟩ := bN_ H
   have H' := c_ H
   clear H
   go_wp2_with (first | (go_at_call 51; refine mp_ (ap.calls _ _ _ _ _ _ (cR_ (vf Y0.o HB.o)) C1.o A4.o) fun nd => ?_; (try exact dD_)) | (go_at_call 51; refine mp_ (ap.calls _ _ _ _ _ _ (cR_ (vf z1.o (hB_))) I1.o A6.o) fun nd => ?_; (try exact dD_)))
   repeat (go_quiet (first | (go_at_call 51; refine mp_ (ap.calls _ _ _ _ _ _ (cR_ (vf Y0.o HB.o)) C1.o A4.o) fun nd => ?_; (try exact dD_)) | (go_at_call 51; refine mp_ (ap.calls _ _ _ _ _ _ (cR_ (vf z1.o (hB_))) I1.o A6.o) fun nd => ?_; (try exact dD_))); try go_wp2_with (first | (go_at_call 51; refine mp_ (ap.calls _ _ _ _ _ _ (cR_ (vf Y0.o HB.o)) C1.o A4.o) fun nd => ?_; (try exact dD_)) | (go_at_call 51; refine mp_ (ap.calls _ _ _ _ _ _ (cR_ (vf z1.o (hB_))) I1.o A6.o) fun nd => ?_; (try exact dD_))))
   go_meet
   case rel => exact ⟨_, (!L1), f0_, H', ⟨by first | omega | exact Ca _⟩, ⟨hB_⟩⟩
  ·replace c5 := Ea c5
   subst c5
   replace H := iF_ H
   have H' := c_ H
   clear H
   go_wp2_with (first | (go_at_call 51; refine mp_ (ap.calls _ _ _ _ _ _ (cR_ (vf Y0.o HB.o)) C1.o A4.o) fun nd => ?_; (try exact dD_)))
   repeat (go_quiet (first | (go_at_call 51; refine mp_ (ap.calls _ _ _ _ _ _ (cR_ (vf Y0.o HB.o)) C1.o A4.o) fun nd => ?_; (try exact dD_))); try go_wp2_with (first | (go_at_call 51; refine mp_ (ap.calls _ _ _ _ _ _ (cR_ (vf Y0.o HB.o)) C1.o A4.o) fun nd => ?_; (try exact dD_))))
   go_meet
   case rel => exact ⟨_, (true), f0_, H', ⟨by first | omega | exact Ca _⟩, ⟨hB_⟩⟩
 clear J1
 obtain ⟨kq, U0, rfl, HA, U1, HB⟩ := hcut
 rcases kq with _ | V1
 ·exact absurd HA.o (by simp [bh.j0])
 have H := HA.o
 clear HA
 simp only [bh.j0] at H
 by_cases c7 : U0 = true
 ·subst c7
  replace H := iT_ H
  obtain rfl := Ba H
  go_wp2
  repeat (go_quiet (fail); try go_wp2)
  go_ret
  exact ⟨_, f1_, by first | exact vB _ _ _ _ _ | exact Kd.N_nil _ _ _ _ _ | exact Kd.V_nil _ _ _ _ _ | exact Kd.Q_nil _ _ _ _ _ | exact vC _ _ _ _ _, hB_⟩
 ·replace c7 := Ea c7
  subst c7
  replace H := iF_ H
  obtain ⟨c8, H⟩ := iN_ H
  have n2 := Aa c8
  have p2 := ya c8
  clear c8
  obtain ⟨M1, V0⟩ : ∃ y_ : List Int, y_ = (List.replicate 256 0) := ⟨_, rfl⟩
  first | replace H := yb_ V0 H | rw [← V0] at H
  have G0 := c_ V0
  clear V0
  have H' := c_ H
  clear H
  go_wp2_with (first | ((refine cO (N := 20) rfl ?_); refine vu (Kd.int .i64) _ 3 rfl (N := 20) rfl 45 _ _ rfl 256 rfl rfl Tryz.underlying45 (.int .i64 0) 8 df rfl (by decide) (by omega) 0 (ok := fun _ => True) (okp := fun _ => True) rfl (fun _ hk => hk) trivial (by omega) (by omega) (Da _ _) (Ca _) ?_; intro B1 w9 p0 hb hg_ hnew_; clear hg_ hnew_; (first | rw [← G0.o] at p0 | (simp only [Int.reduceToNat] at p0; rw [← G0.o] at p0)); obtain ⟨Z0, HB⟩ := b_ (vb p0 (au (hB_))) <| sB_; clear hb p0))
  repeat (go_quiet (first | ((refine cO (N := 20) rfl ?_); refine vu (Kd.int .i64) _ 3 rfl (N := 20) rfl 45 _ _ rfl 256 rfl rfl Tryz.underlying45 (.int .i64 0) 8 df rfl (by decide) (by omega) 0 (ok := fun _ => True) (okp := fun _ => True) rfl (fun _ hk => hk) trivial (by omega) (by omega) (Da _ _) (Ca _) ?_; intro B1 w9 p0 hb hg_ hnew_; clear hg_ hnew_; (first | rw [← G0.o] at p0 | (simp only [Int.reduceToNat] at p0; rw [← G0.o] at p0)); obtain ⟨Z0, HB⟩ := b_ (vb p0 (au (hB_))) <| sB_; clear hb p0)); try go_wp2_with (first | ((refine cO (N := 20) rfl ?_); refine vu (Kd.int .i64) _ 3 rfl (N := 20) rfl 45 _ _ rfl 256 rfl rfl Tryz.underlying45 (.int .i64 0) 8 df rfl (by decide) (by omega) 0 (ok := fun _ => True) (okp := fun _ => True) rfl (fun _ hk => hk) trivial (by omega) (by omega) (Da _ _) (Ca _) ?_; intro B1 w9 p0 hb hg_ hnew_; clear hg_ hnew_; (first | rw [← G0.o] at p0 | (simp only [Int.reduceToNat] at p0; rw [← G0.o] at p0)); obtain ⟨Z0, HB⟩ := b_ (vb p0 (au (hB_))) <| sB_; clear hb p0)))
  go_loopg [21] V1 (fun kq q2 w' => ∃ (F0 : List Int) (q0 : Int), q2 = .int .i64 q0 ∧ aa (bh.l0 kq l0 l1 F0 q0 = some r) ∧ aa (kq ≤ V1) ∧ aa (Kd.R (Kd.int .i64) 3 w' w.heap.size (fun _ => True) B1 F0) ∧ aa (Below w.heap.size w w'))
  case atStart => exact ⟨(M1), (0), f0_, H', ⟨Ca _⟩, ⟨rR_ Z0.o⟩, ⟨hB_⟩⟩
  clear H'
  obtain ⟨F0, q0, rfl, HA, X1, a0, HB⟩ := hrel
  rcases gk with _ | k2
  ·exact absurd HA.o (by simp [bh.l0])
  have H := HA.o
  clear HA
  simp only [bh.l0] at H
  by_cases D1 : q0 < 128
  rotate_left
  ·rw [Ga D1] at H
   have E1 := za D1
   clear D1
   obtain rfl := Ba H
   go_wp2
   repeat (go_quiet (fail); try go_wp2)
   go_ret
   exact ⟨_, f1_, rR_ a0.o, hB_⟩
  rw [Fa D1] at H
  have E1 := ya D1
  clear D1
  obtain ⟨r2, F1, H⟩ := bN_ H
  obtain ⟨t2, G1, H⟩ := bN_ H
  obtain ⟨b0, H0⟩ : ∃ j_ : Int, (wrap64 (2 * q0)) = j_ := ⟨_, rfl⟩
  first | rw [H0] at H | simp only [H0] at H
  (try rw [H0] at F1)
  (try rw [H0] at G1)
  have N1 : (IntKind.i64.wrap (2 * q0)) = b0 := (bq _).trans H0
  obtain ⟨Y1, H⟩ := iD_ H
  obtain ⟨Z1, H⟩ := iD_ H
  obtain ⟨d0, I0⟩ : ∃ j_ : Int, (wrap64 ((b0) + 1)) = j_ := ⟨_, rfl⟩
  first | rw [I0] at H | simp only [I0] at H
  (try rw [I0] at F1)
  (try rw [I0] at G1)
  have O1 : (IntKind.i64.wrap ((b0) + 1)) = d0 := (bq _).trans I0
  obtain ⟨b2, H⟩ := iD_ H
  obtain ⟨c2, H⟩ := iD_ H
  obtain ⟨f2, H⟩ := iD_ H
  obtain ⟨g2, H⟩ := iD_ H
  obtain ⟨S0, P1, H⟩ := bN_ H
  obtain ⟨i2, H⟩ := iD_ H
  obtain ⟨Q1, W0⟩ : ∃ y_ : List Int, y_ = (F0.set ((b0) : Int).toNat S0) := ⟨_, rfl⟩
  first | replace H := yb_ W0 H | rw [← W0] at H
  have b1 := c_ W0
  clear W0
  obtain ⟨T0, R1, H⟩ := bN_ H
  obtain ⟨j2, H⟩ := iD_ H
  obtain ⟨S1, X0⟩ : ∃ y_ : List Int, y_ = (Q1.set ((d0) : Int).toNat T0) := ⟨_, rfl⟩
  first | replace H := yb_ X0 H | rw [← X0] at H
  have e1 := c_ X0
  clear X0
  have H' := c_ H
  clear H
  go_wp2_with (first | (go_at_call 88; refine mp_ (bz.calls _ _ _ _ F1.o) fun nd => ?_; (try exact dD_)) | (go_at_call 87; refine mp_ (bF.calls _ _ _ _ _ G1.o) fun nd => ?_; (try exact dD_); have r0 : 0 ≤ ((b0) : Int) := oD_; have v0 : (b0) < (l0.length : Int) := oD_; obtain ⟨J0, f1, e0⟩ := uZ Y0.o (b0) r0 v0; cases f1; replace e0 := hc_ e0; replace r0 := Aa r0; replace v0 := Aa v0; have x0 : 0 ≤ ((d0) : Int) := oD_; have y0 : (d0) < (l0.length : Int) := oD_; obtain ⟨K0, g1, f0⟩ := uZ Y0.o (d0) x0 y0; obtain rfl : J0 = K0 := (by injection g1); replace f0 := hc_ f0; replace x0 := Aa x0; replace y0 := Aa y0; have B0 : 0 ≤ ((b0) : Int) := oD_; have C0 : (b0) < (l1.length : Int) := oD_; obtain ⟨L0, i1, k0⟩ := uZ z1.o (b0) B0 C0; cases i1; replace k0 := hc_ k0; replace B0 := Aa B0; replace C0 := Aa C0; have D0 : 0 ≤ ((d0) : Int) := oD_; have E0 : (d0) < (l1.length : Int) := oD_; obtain ⟨M0, j1, n0⟩ := uZ z1.o (d0) D0 E0; obtain rfl : L0 = M0 := (by injection j1); replace n0 := hc_ n0; replace D0 := Aa D0; replace E0 := Aa E0) | (go_at_call 89; refine mp_ (cd.calls _ _ _ P1.o) fun nd => ?_; (try exact dD_); have m1 : 0 ≤ ((b0) : Int) := oD_; have n1 : ((b0) : Int) < ((F0.length : Int) : Int) := oD_; obtain ⟨go24, H1, N0, O0, gl24, cl24, HG24⟩ := vq a0.o (by omega); (first | cases N0 | (injection N0 with ea_ en_ ec_; (first | subst ea_ | (injection ea_ with ea_; subst ea_)); subst ec_; clear en_)); have P0 := c_ O0; have GG24 := c_ HG24; clear O0 gl24 HG24; obtain ⟨p1, hf24_0⟩ := vc 0 a0.o ((b0) : Int) m1 n1; replace m1 := Aa m1; replace n1 := Aa n1; obtain ⟨Q0, hz28_⟩ := vc 0 a0.o ((b0) : Int) oD_ oD_; have HP28 := vm a0.o ((b0) : Int) S0) | ((refine cx (t := 3) (p := 65) rfl ?_); (try (rw [dh wr]; generalize hq_ : World.drewN wr _ = wr; obtain ⟨a0, HB⟩ := b_ (we hq_ a0.o) <| c_ (fR hq_ HB.o); (try (obtain ⟨Q0, hz28_⟩ := vc 0 a0.o ((b0) : Int) oD_ oD_)); (try (have HP28 := vm a0.o ((b0) : Int) S0)))); refine st_ 3 65 HP28 b1 P0 fun q1 hw hp_ hg HBn => ?_; have n0_ := c_ (hp_); have n1_ := c_ (HBn.o); replace a0 := n0_; replace HB := n1_; clear n0_ n1_; clear hg hw hp_) | (go_at_call 89; refine mp_ (cd.calls _ _ _ R1.o) fun nd => ?_; (try exact dD_); have r1 : 0 ≤ ((d0) : Int) := oD_; have t1 : ((d0) : Int) < ((F0.length : Int) : Int) := oD_; obtain ⟨y1, hf27_0⟩ := vc 0 a0.o ((d0) : Int) r1 t1; replace r1 := Aa r1; replace t1 := Aa t1; obtain ⟨R0, hz30_⟩ := vc 0 a0.o ((d0) : Int) oD_ oD_; have HP30 := vm a0.o ((d0) : Int) T0) | ((refine cx (t := 3) (p := 78) rfl ?_); (try (rw [dh q1]; generalize hq_ : World.drewN q1 _ = q1; obtain ⟨a0, HB⟩ := b_ (we hq_ a0.o) <| c_ (fR hq_ HB.o); (try (obtain ⟨R0, hz30_⟩ := vc 0 a0.o ((d0) : Int) oD_ oD_)); (try (have HP30 := vm a0.o ((d0) : Int) T0)))); refine st_ 3 78 HP30 e1 P0 fun l2 hw hp_ hg HBn => ?_; have n0_ := c_ (hp_); have n1_ := c_ (HBn.o); replace a0 := n0_; replace HB := n1_; clear n0_ n1_; clear hg hw hp_))
  repeat (go_quiet (first | (go_at_call 88; refine mp_ (bz.calls _ _ _ _ F1.o) fun nd => ?_; (try exact dD_)) | (go_at_call 87; refine mp_ (bF.calls _ _ _ _ _ G1.o) fun nd => ?_; (try exact dD_); have r0 : 0 ≤ ((b0) : Int) := oD_; have v0 : (b0) < (l0.length : Int) := oD_; obtain ⟨J0, f1, e0⟩ := uZ Y0.o (b0) r0 v0; cases f1; replace e0 := hc_ e0; replace r0 := Aa r0; replace v0 := Aa v0; have x0 : 0 ≤ ((d0) : Int) := oD_; have y0 : (d0) < (l0.length : Int) := oD_; obtain ⟨K0, g1, f0⟩ := uZ Y0.o (d0) x0 y0; obtain rfl : J0 = K0 := (by injection g1); replace f0 := hc_ f0; replace x0 := Aa x0; replace y0 := Aa y0; have B0 : 0 ≤ ((b0) : Int) := oD_; have C0 : (b0) < (l1.length : Int) := oD_; obtain ⟨L0, i1, k0⟩ := uZ z1.o (b0) B0 C0; cases i1; replace k0 := hc_ k0; replace B0 := Aa B0; replace C0 := Aa C0; have D0 : 0 ≤ ((d0) : Int) := oD_; have E0 : (d0) < (l1.length : Int) := oD_; obtain ⟨M0, j1, n0⟩ := uZ z1.o (d0) D0 E0; obtain rfl : L0 = M0 := (by injection j1); replace n0 := hc_ n0; replace D0 := Aa D0; replace E0 := Aa E0) | (go_at_call 89; refine mp_ (cd.calls _ _ _ P1.o) fun nd => ?_; (try exact dD_); have m1 : 0 ≤ ((b0) : Int) := oD_; have n1 : ((b0) : Int) < ((F0.length : Int) : Int) := oD_; obtain ⟨go24, H1, N0, O0, gl24, cl24, HG24⟩ := vq a0.o (by omega); (first | cases N0 | (injection N0 with ea_ en_ ec_; (first | subst ea_ | (injection ea_ with ea_; subst ea_)); subst ec_; clear en_)); have P0 := c_ O0; have GG24 := c_ HG24; clear O0 gl24 HG24; obtain ⟨p1, hf24_0⟩ := vc 0 a0.o ((b0) : Int) m1 n1; replace m1 := Aa m1; replace n1 := Aa n1; obtain ⟨Q0, hz28_⟩ := vc 0 a0.o ((b0) : Int) oD_ oD_; have HP28 := vm a0.o ((b0) : Int) S0) | ((refine cx (t := 3) (p := 65) rfl ?_); (try (rw [dh wr]; generalize hq_ : World.drewN wr _ = wr; obtain ⟨a0, HB⟩ := b_ (we hq_ a0.o) <| c_ (fR hq_ HB.o); (try (obtain ⟨Q0, hz28_⟩ := vc 0 a0.o ((b0) : Int) oD_ oD_)); (try (have HP28 := vm a0.o ((b0) : Int) S0)))); refine st_ 3 65 HP28 b1 P0 fun q1 hw hp_ hg HBn => ?_; have n0_ := c_ (hp_); have n1_ := c_ (HBn.o); replace a0 := n0_; replace HB := n1_; clear n0_ n1_; clear hg hw hp_) | (go_at_call 89; refine mp_ (cd.calls _ _ _ R1.o) fun nd => ?_; (try exact dD_); have r1 : 0 ≤ ((d0) : Int) := oD_; have t1 : ((d0) : Int) < ((F0.length : Int) : Int) := oD_; obtain ⟨y1, hf27_0⟩ := vc 0 a0.o ((d0) : Int) r1 t1; replace r1 := Aa r1; replace t1 := Aa t1; obtain ⟨R0, hz30_⟩ := vc 0 a0.o ((d0) : Int) oD_ oD_; have HP30 := vm a0.o ((d0) : Int) T0) | ((refine cx (t := 3) (p := 78) rfl ?_); (try (rw [dh q1]; generalize hq_ : World.drewN q1 _ = q1; obtain ⟨a0, HB⟩ := b_ (we hq_ a0.o) <| c_ (fR hq_ HB.o); (try (obtain ⟨R0, hz30_⟩ := vc 0 a0.o ((d0) : Int) oD_ oD_)); (try (have HP30 := vm a0.o ((d0) : Int) T0)))); refine st_ 3 78 HP30 e1 P0 fun l2 hw hp_ hg HBn => ?_; have n0_ := c_ (hp_); have n1_ := c_ (HBn.o); replace a0 := n0_; replace HB := n1_; clear n0_ n1_; clear hg hw hp_)); try go_wp2_with (first | (go_at_call 88; refine mp_ (bz.calls _ _ _ _ F1.o) fun nd => ?_; (try exact dD_)) | (go_at_call 87; refine mp_ (bF.calls _ _ _ _ _ G1.o) fun nd => ?_; (try exact dD_); have r0 : 0 ≤ ((b0) : Int) := oD_; have v0 : (b0) < (l0.length : Int) := oD_; obtain ⟨J0, f1, e0⟩ := uZ Y0.o (b0) r0 v0; cases f1; replace e0 := hc_ e0; replace r0 := Aa r0; replace v0 := Aa v0; have x0 : 0 ≤ ((d0) : Int) := oD_; have y0 : (d0) < (l0.length : Int) := oD_; obtain ⟨K0, g1, f0⟩ := uZ Y0.o (d0) x0 y0; obtain rfl : J0 = K0 := (by injection g1); replace f0 := hc_ f0; replace x0 := Aa x0; replace y0 := Aa y0; have B0 : 0 ≤ ((b0) : Int) := oD_; have C0 : (b0) < (l1.length : Int) := oD_; obtain ⟨L0, i1, k0⟩ := uZ z1.o (b0) B0 C0; cases i1; replace k0 := hc_ k0; replace B0 := Aa B0; replace C0 := Aa C0; have D0 : 0 ≤ ((d0) : Int) := oD_; have E0 : (d0) < (l1.length : Int) := oD_; obtain ⟨M0, j1, n0⟩ := uZ z1.o (d0) D0 E0; obtain rfl : L0 = M0 := (by injection j1); replace n0 := hc_ n0; replace D0 := Aa D0; replace E0 := Aa E0) | (go_at_call 89; refine mp_ (cd.calls _ _ _ P1.o) fun nd => ?_; (try exact dD_); have m1 : 0 ≤ ((b0) : Int) := oD_; have n1 : ((b0) : Int) < ((F0.length : Int) : Int) := oD_; obtain ⟨go24, H1, N0, O0, gl24, cl24, HG24⟩ := vq a0.o (by omega); (first | cases N0 | (injection N0 with ea_ en_ ec_; (first | subst ea_ | (injection ea_ with ea_; subst ea_)); subst ec_; clear en_)); have P0 := c_ O0; have GG24 := c_ HG24; clear O0 gl24 HG24; obtain ⟨p1, hf24_0⟩ := vc 0 a0.o ((b0) : Int) m1 n1; replace m1 := Aa m1; replace n1 := Aa n1; obtain ⟨Q0, hz28_⟩ := vc 0 a0.o ((b0) : Int) oD_ oD_; have HP28 := vm a0.o ((b0) : Int) S0) | ((refine cx (t := 3) (p := 65) rfl ?_); (try (rw [dh wr]; generalize hq_ : World.drewN wr _ = wr; obtain ⟨a0, HB⟩ := b_ (we hq_ a0.o) <| c_ (fR hq_ HB.o); (try (obtain ⟨Q0, hz28_⟩ := vc 0 a0.o ((b0) : Int) oD_ oD_)); (try (have HP28 := vm a0.o ((b0) : Int) S0)))); refine st_ 3 65 HP28 b1 P0 fun q1 hw hp_ hg HBn => ?_; have n0_ := c_ (hp_); have n1_ := c_ (HBn.o); replace a0 := n0_; replace HB := n1_; clear n0_ n1_; clear hg hw hp_) | (go_at_call 89; refine mp_ (cd.calls _ _ _ R1.o) fun nd => ?_; (try exact dD_); have r1 : 0 ≤ ((d0) : Int) := oD_; have t1 : ((d0) : Int) < ((F0.length : Int) : Int) := oD_; obtain ⟨y1, hf27_0⟩ := vc 0 a0.o ((d0) : Int) r1 t1; replace r1 := Aa r1; replace t1 := Aa t1; obtain ⟨R0, hz30_⟩ := vc 0 a0.o ((d0) : Int) oD_ oD_; have HP30 := vm a0.o ((d0) : Int) T0) | ((refine cx (t := 3) (p := 78) rfl ?_); (try (rw [dh q1]; generalize hq_ : World.drewN q1 _ = q1; obtain ⟨a0, HB⟩ := b_ (we hq_ a0.o) <| c_ (fR hq_ HB.o); (try (obtain ⟨R0, hz30_⟩ := vc 0 a0.o ((d0) : Int) oD_ oD_)); (try (have HP30 := vm a0.o ((d0) : Int) T0)))); refine st_ 3 78 HP30 e1 P0 fun l2 hw hp_ hg HBn => ?_; have n0_ := c_ (hp_); have n1_ := c_ (HBn.o); replace a0 := n0_; replace HB := n1_; clear n0_ n1_; clear hg hw hp_)))
  go_roundg k2
  case measure => have := U1.o; have := X1.o; omega
  case rel => exact ⟨(S1), (wrap64 (q0 + 1)), f0_, H', ⟨by have := U1.o; have := X1.o; omega⟩, ⟨rR_ a0.o⟩, ⟨hB_⟩⟩
def bB.l0 : Nat → List (List Int) → List (List Int) → List Int → Int → Int → Option (List Int)
 | 0, _, _, _, _, _ => none
 | k + 1, x0, x1, x5, x9, x10 => if x10 < x9 then (if 0 ≤ x10 then (if x10 < (x0.length : Int) then (if x10 < (x1.length : Int) then ((bh.f k (dE x0 x10) (dE x1 x10)).bind fun t357 => ((bD.f k x5 t357).bind fun t360 => (bB.l0 k x0 x1 t360 x9 (wrap64 (x10 + 1))))) else (none)) else (none)) else (none)) else (some x5)
def bB.f (k : Nat) (l0 : List (List Int)) (l1 : List (List Int)) : Option (List Int) := if 256 ≤ 35184372088832 then (bB.l0 k l0 l1 (List.replicate 256 0) (l0.length : Int) 0) else (none)
theorem bB.mono_l : ∀ k, (∀ y0 y1 y2 y3 y4, LeO (bB.l0 k y0 y1 y2 y3 y4) (bB.l0 (k + 1) y0 y1 y2 y3 y4))
 | 0 => fun _ _ _ _ _ r h => by simp [bB.l0] at h
 | k + 1 => by
  have ih0 := bB.mono_l k
  intros; unfold bB.l0; exact o3_ ih0 bh.mono bD.mono
theorem bB.mono : ∀ a0 a1 k, LeO (bB.f k a0 a1) (bB.f (k + 1) a0 a1) := by
 intro a0 a1 k
 have ih0 := bB.mono_l k
 unfold bB.f
 exact o3_ ih0 bh.mono bD.mono
def bB.T5 : Bool × List (List Nat × List Nat) := (true, [([], []), ([], []), ([], []), ([1, 2], [1, 2]), ([3], [3]), ([], []), ([], []), ([5, 6], [5, 6]), ([7], [7]), ([4, 8], [4, 8]), ([0, 9, 9], [0, 9]), ([10, 10, 0, 1, 2, 3, 4, 5, 6, 7, 8, 9, 10], [0, 10])])
def bB.B5 : List Nat := [0, 0, 0, 6, 14, 0, 0, 96, 224, 510, 1023, 2047]
theorem bB.tab5 : eu .any (fu Tryz.f23 5) = bB.T5 := by kernel_rfl
theorem bB.bits5 : dd bB.T5.2 bB.B5 = true := by kernel_rfl
theorem bB.calls (k : Nat) (A0 : Option Addr) (c0 : Nat) (l0 : List (List Int)) (A1 : Option Addr) (c1 : Nat) (l1 : List (List Int)) (r : List Int) (w : World) (hr0 : Kd.C (Kd.slice 3 (Kd.int .i64)) w A0 l0.length l0) (hc0 : l0.length ≤ c0) (hr1 : Kd.C (Kd.slice 3 (Kd.int .i64)) w A1 l1.length l1) (hc1 : l1.length ≤ c1) (h : bB.f k l0 l1 = some r) :
  Calls Tryz.prog 23 #[.slice A0 l0.length c0, .slice A1 l1.length c1] w fun e w' => ∃ j1 : Value, e = .returned (j1) ∧ Kd.R (Kd.int .i64) 3 w' w.heap.size (fun _ => True) j1 r ∧ Below w.heap.size w w' := by
 have n1 := c_ hr0
 have H1 := c_ hc0
 clear hr0 hc0
 have p1 := c_ hr1
 have I1 := c_ hc1
 clear hr1 hc1
 have HB := c_ (Da w.heap.size w)
 delta bB.f at h
 have H := h
 clear h
 obtain ⟨c3, H⟩ := iN_ H
 have q1 := Aa c3
 have r1 := ya c3
 clear c3
 obtain ⟨X0, n0⟩ : ∃ y_ : List Int, y_ = (List.replicate 256 0) := ⟨_, rfl⟩
 first | replace H := yb_ n0 H | rw [← n0] at H
 have I0 := c_ n0
 clear n0
 have H' := c_ H
 clear H
 go_enter Tryz.func23, Tryz.ntmps23
 go_wp2_with (first | ((refine cO (N := 7) rfl ?_); refine vu (Kd.int .i64) _ 3 rfl (N := 7) rfl 45 _ _ rfl 256 rfl rfl Tryz.underlying45 (.int .i64 0) 8 df rfl (by decide) (by omega) 0 (ok := fun _ => True) (okp := fun _ => True) rfl (fun _ hk => hk) trivial (by omega) (by omega) (Da _ _) (Ca _) ?_; intro t1 w4 P0 hb hg_ hnew_; clear hg_ hnew_; (first | rw [← I0.o] at P0 | (simp only [Int.reduceToNat] at P0; rw [← I0.o] at P0)); obtain ⟨Q0, HB⟩ := b_ (vb P0 (au (hB_))) <| sB_; clear hb P0))
 go_loopg [5, 10] k (fun kq v5 y1 w' => ∃ (B0 : List Int) (a0 : Int), y1 = .int .i64 a0 ∧ aa (bB.l0 kq l0 l1 B0 (l0.length : Int) a0 = some r) ∧ aa (kq ≤ k) ∧ aa (Kd.R (Kd.int .i64) 3 w' w.heap.size (fun _ => True) v5 B0) ∧ aa (Below w.heap.size w w'))
 case atStart => exact ⟨(X0), (0), f0_, H', ⟨Ca _⟩, ⟨rR_ Q0.o⟩, ⟨hB_⟩⟩
 clear H'
 obtain ⟨B0, a0, rfl, HA, m1, b0, HB⟩ := hrel
 rcases gk with _ | k1
 ·exact absurd HA.o (by simp [bB.l0])
 have H := HA.o
 clear HA
 simp only [bB.l0] at H
 by_cases c6 : a0 < (l0.length : Int)
 rotate_left
 ·rw [Ga c6] at H
  have Y0 := za c6
  clear c6
  obtain rfl := Ba H
  go_wp2
  go_ret
  exact ⟨_, f1_, rR_ b0.o, hB_⟩
 rw [Fa c6] at H
 have Y0 := ya c6
 clear c6
 obtain ⟨z1, H⟩ := iD_ H
 obtain ⟨B1, H⟩ := iD_ H
 obtain ⟨C1, H⟩ := iD_ H
 obtain ⟨J0, D1, H⟩ := bN_ H
 obtain ⟨R0, E1, H⟩ := bN_ H
 have H' := c_ H
 clear H
 try go_wp2
 obtain ⟨b0, HB⟩ := b_ (vl b0.o) <| c_ (bx HB.o)
 have K0 : 0 ≤ (a0 : Int) := oD_
 have L0 : a0 < (l0.length : Int) := oD_
 obtain ⟨S0, C0, D0, Z0, d0, p0, q0⟩ := kP n1.o a0 K0 L0
 have j0 := d0
 cases Z0
 replace d0 := hc_ d0
 have r0 := c_ q0
 have G0 := c_ p0
 clear q0 p0
 replace K0 := Aa K0
 replace L0 := Aa L0
 have M0 : 0 ≤ (a0 : Int) := oD_
 have N0 : a0 < (l1.length : Int) := oD_
 obtain ⟨T0, E0, F0, b1, e0, v0, x0⟩ := kP p1.o a0 M0 N0
 have k0 := e0
 cases b1
 replace e0 := hc_ e0
 have y0 := c_ x0
 have H0 := c_ v0
 clear x0 v0
 replace M0 := Aa M0
 replace N0 := Aa N0
 refine ej (n := 12) (S := fun w' => w'.cell? (S0.add (a0).toNat) = some (.slice C0 (dE l0 a0).length D0) ∧ w'.cell? (T0.add (a0).toNat) = some (.slice E0 (dE l1 a0).length F0)) (ds := []) (bb_ 12 0) (by kernel_rfl) rfl rfl ⟨(hc_ j0), (hc_ k0)⟩ (fun hHeld => ?_); refine cK bB.tab5 bB.bits5 (fun HT_ HW_ => ?_)
 generalize wr.drew = J1 at b0 HB r0 y0 d0 e0 hHeld ⊢
 refine pT_ 0 13 12 1 ?_
 refine pT_ 1 14 12 3 ?_
 refine pT_ 2 15 12 7 ?_
 refine pT_ 3 16 12 15 ?_
 refine pT_ 5 18 12 47 ?_
 refine pT_ 6 19 12 111 ?_
 refine pT_ 7 20 12 239 ?_
 refine tS_ 4 17 (bb_ 12 255) (bA HT_.o HW_.o (by kernel_rfl)) hHeld ?_
 refine tS_ 8 21 (bb_ 12 511) (bA HT_.o HW_.o (by kernel_rfl)) hHeld ?_
 refine fB (i := 9) (N := some 22) (bb_ 12 1023) rfl rfl (cz HT_.o (by kernel_rfl)) (by decide) (fun K hK => ?_)
 refine fj Tryz.func54 (by kernel_rfl) rfl #[.slice C0 (dE l0 a0).length D0, .slice E0 (dE l1 a0).length F0] (by rfl) rfl rfl aM_ ?_
 with_reducible refine (bh.calls k1 _ _ (dE l0 a0) _ _ (dE l1 a0) J0 _ ?side1 ?side2 ?side3 ?side4 D1.o).mono ?_
 (case side1 => exact cR_ (vf r0.o HB.o))
 (case side2 => exact G0.o)
 (case side3 => exact cR_ (vf y0.o HB.o))
 (case side4 => exact H0.o)
 rintro e K1 ⟨F1, rfl, O0, hb⟩
 refine ⟨_, rfl, ?_⟩
 obtain ⟨b0, f0, HB⟩ := b_ (vj (rR_ b0.o) (vg O0) hb) <| b_ (vb (vp O0 (vE (rR_ b0.o))) (au (hB_))) <| sB_
 obtain ⟨e1, f1, U0⟩ := uY b0.o
 (first | subst U0 | (injection U0 with f1_ f2_ f3_; have f4_ := f1_.symm; have f5_ := f3_.symm; clear f1_ f2_ f3_; subst f4_; subst f5_))
 obtain ⟨g1, i1, V0⟩ := uY f0.o
 (first | subst V0 | (injection V0 with f1_ f2_ f3_; have f4_ := f1_.symm; have f5_ := f3_.symm; clear f1_ f2_ f3_; subst f4_; subst f5_))
 refine hK _ _ ⟨(hc_ j0), (hc_ k0)⟩ (fun hHeld => ?_)
 clear hK K
 refine dH (a' := ?_) ?_ ?_
 rotate_left
 ·show Act.put _ (some 22) _ = _
  simp only [Act.put, List.setIfInBounds_toArray, List.set_cons_zero, List.set_cons_succ, bq, ct]
  rfl
 refine fB (i := 10) (N := some 23) (bb_ 12 2047) rfl rfl (cz HT_.o (by kernel_rfl)) (by decide) (fun K hK => ?_)
 refine fj Tryz.func22 (by kernel_rfl) rfl #[.slice e1 B0.length f1, .slice g1 J0.length i1] (by rfl) rfl rfl aM_ ?_
 with_reducible refine (bD.calls k1 _ _ B0 _ _ J0 R0 _ ?side1 ?side2 ?side3 ?side4 E1.o).mono ?_
 (case side1 => exact cR_ (uX b0.o).2.2)
 (case side2 => exact (uX b0.o).2.1)
 (case side3 => exact cR_ (uX f0.o).2.2)
 (case side4 => exact (uX f0.o).2.1)
 rintro e L1 ⟨G1, rfl, O0, hb⟩
 refine ⟨_, rfl, ?_⟩
 obtain ⟨b0, f0, W0, HB⟩ := b_ (vj (rR_ b0.o) (vg O0) hb) <| b_ (vj (rR_ f0.o) (vg O0) hb) <| b_ (vb (vp (vp O0 (vE (rR_ b0.o))) (vE (rR_ f0.o))) (au (hB_))) <| sB_
 refine hK _ _ ⟨(hc_ j0), (hc_ k0)⟩ (fun hHeld => ?_)
 clear hK K
 refine dH (a' := ?_) ?_ ?_
 rotate_left
 ·show Act.put _ (some 23) _ = _
  simp only [Act.put, List.setIfInBounds_toArray, List.set_cons_zero, List.set_cons_succ, bq, ct]
  rfl
 refine pT_ 11 5 12 4095 ?_
 refine fq (dA HT_.o (by kernel_rfl)) ?_
 try go_wp2
 go_roundg k1
 case measure => have := m1.o; omega
 case rel => exact ⟨(R0), (wrap64 (a0 + 1)), f0_, H', ⟨by have := m1.o; omega⟩, ⟨by refine kR_ ?_; exact va W0.o (fun _ hk => trivial)⟩, ⟨hB_⟩⟩
def cG.f (a0 : Int) : Option (ByteArray) := if (Int.tmod a0 256) < 0 then (some (strOfNums (([(wrap64 ((Int.tmod a0 256) + 256)) % 256] : List Int)))) else (some (strOfNums (([(Int.tmod a0 256) % 256] : List Int))))
theorem cG.calls (a0 : Int) (r : ByteArray) (w : World) (h : cG.f a0 = some r) :
  Calls Tryz.prog 61 #[.int .i64 a0] w fun e w' => e = .returned (.string r) ∧ Below w.heap.size w w' := by
 have HB := c_ (Da w.heap.size w)
 delta cG.f at h
 have H := h
 clear h
 by_cases c2 : (Int.tmod a0 256) < 0
 ·rw [Fa c2] at H
  have n0 := ya c2
  clear c2
  obtain ⟨p0, b0⟩ : ∃ y_ : List Int, y_ = (([(wrap64 ((Int.tmod a0 256) + 256)) % 256] : List Int)) := ⟨_, rfl⟩
  first | replace H := yb_ b0 H | rw [← b0] at H
  have e0 := c_ b0
  clear b0
  obtain rfl := Ba H
  go_enter Tryz.func61, Tryz.ntmps61
  go_wp2_with (first | (refine lj_ 11 .u8 5 e0 fun q0 w3 f0 HB => ?_; have r0 := dS (P := Tryz.prog) Tryz.underlying22 Tryz.underlying5 Tryz.underlying9 (vn f0.o)))
  go_ret
  exact ⟨f1_, hB_⟩
 rw [Ga c2] at H
 have n0 := za c2
 clear c2
 obtain ⟨v0, d0⟩ : ∃ y_ : List Int, y_ = (([(Int.tmod a0 256) % 256] : List Int)) := ⟨_, rfl⟩
 first | replace H := yb_ d0 H | rw [← d0] at H
 have j0 := c_ d0
 clear d0
 obtain rfl := Ba H
 go_enter Tryz.func61, Tryz.ntmps61
 go_wp2_with (first | (refine lj_ 11 .u8 5 j0 fun x0 w6 k0 HB => ?_; have y0 := dS (P := Tryz.prog) Tryz.underlying22 Tryz.underlying5 Tryz.underlying9 (vn k0.o)))
 go_ret
 exact ⟨f1_, hB_⟩
mutual
def aH.l0 : Nat → ByteArray → List Int → Int → Option (List Int)
 | 0, _, _, _ => none
 | k + 1, x0, x3, x4 => if (wrap64 (x4 + 8)) ≤ (x0.size : Int) then (aH.l1 k x0 x3 x4 0 7) else (some x3)
def aH.l1 : Nat → ByteArray → List Int → Int → Int → Int → Option (List Int)
 | 0, _, _, _, _, _ => none
 | k + 1, x0, x3, x4, x5, x6 => if x6 ≥ 0 then (if 0 ≤ (wrap64 (x4 + x6)) then (if (wrap64 (x4 + x6)) < (x0.size : Int) then (aH.l1 k x0 x3 x4 (IntKind.u64.wrap ((IntKind.u64.wrap (x5 * 256)) + (IntKind.u64.wrap (bt x0 (wrap64 (x4 + x6)))))) (wrap64 (x6 - 1))) else (none)) else (none)) else (if x3.length < 17592186044416 then (aH.l0 k x0 (x3 ++ [x5]) (wrap64 (x4 + 8))) else (none))
end
def aH.f (k : Nat) (a0 : ByteArray) : Option (List Int) := aH.l0 k a0 (([] : List Int)) 0
theorem aH.mono_l : ∀ k, (∀ y0 y1 y2, LeO (aH.l0 k y0 y1 y2) (aH.l0 (k + 1) y0 y1 y2)) ∧ (∀ y0 y1 y2 y3 y4, LeO (aH.l1 k y0 y1 y2 y3 y4) (aH.l1 (k + 1) y0 y1 y2 y3 y4))
 | 0 => ⟨fun _ _ _ r h => by simp [aH.l0] at h, fun _ _ _ _ _ r h => by simp [aH.l1] at h⟩
 | k + 1 => by
  obtain ⟨ih0, ih1⟩ := aH.mono_l k
  refine ⟨?_, ?_⟩ <;> (intros; (first | unfold aH.l0 | unfold aH.l1); exact o2_ ih0 ih1)
theorem aH.mono : ∀ a0 k, LeO (aH.f k a0) (aH.f (k + 1) a0) := by
 intro a0 k
 obtain ⟨ih0, ih1⟩ := aH.mono_l k
 unfold aH.f
 exact o2_ ih0 ih1
theorem aH.calls (k : Nat) (a0 : ByteArray) (r : List Int) (w : World) (h : aH.f k a0 = some r) :
  Calls Tryz.prog 115 #[.string a0] w fun e w' => ∃ I0 : Value, e = .returned (I0) ∧ Kd.R (Kd.int .u64) 107 w' w.heap.size (fun _ => True) I0 r ∧ Below w.heap.size w w' := by
 have HB := c_ (Da w.heap.size w)
 delta aH.f at h
 have H := h
 clear h
 obtain ⟨E0, e0⟩ : ∃ y_ : List Int, y_ = (([] : List Int)) := ⟨_, rfl⟩
 first | replace H := yb_ e0 H | rw [← e0] at H
 have q0 := c_ e0
 clear e0
 have H' := c_ H
 clear H
 go_enter Tryz.func115, Tryz.ntmps115
 go_wp2_with (first | (refine lj_ 7 .u64 107 q0 fun L0 w2 r0 HB => ?_))
 go_loopg [3, 4] k (fun kq v3 v4 w' => ∃ (j0 : List Int) (b0 : Int), v4 = .int .i64 b0 ∧ aa (aH.l0 kq a0 j0 b0 = some r) ∧ aa (kq ≤ k) ∧ aa (Kd.R (Kd.int .u64) 107 w' w.heap.size (fun _ => True) v3 j0) ∧ aa (Below w.heap.size w w'))
 case atStart => exact ⟨(E0), (0), f0_, H', ⟨Ca _⟩, ⟨rR_ r0.o⟩, ⟨hB_⟩⟩
 clear H'
 obtain ⟨j0, b0, rfl, HA, C0, k0, HB⟩ := hrel
 rcases gk with _ | k1
 ·exact absurd HA.o (by simp [aH.l0])
 have H := HA.o
 clear HA
 simp only [aH.l0] at H
 by_cases c4 : (wrap64 (b0 + 8)) ≤ (a0.size : Int)
 rotate_left
 ·rw [Ga c4] at H
  have F0 := za c4
  clear c4
  obtain rfl := Ba H
  go_wp2
  go_ret
  exact ⟨_, f1_, rR_ k0.o, hB_⟩
 rw [Fa c4] at H
 have F0 := ya c4
 clear c4
 have H' := c_ H
 clear H
 go_wp2
 go_loopg [5, 6] k1 (fun kq v5 v6 w' => ∃ (n0 : Int) (d0 : Int), v5 = .int .u64 n0 ∧ v6 = .int .i64 d0 ∧ aa (aH.l1 kq a0 j0 b0 n0 d0 = some r) ∧ aa (kq ≤ k1) ∧ aa (Kd.R (Kd.int .u64) 107 w' w.heap.size (fun _ => True) u3 j0) ∧ aa (Below w.heap.size w w'))
 case atStart => exact ⟨(0), (7), f0_, f0_, H', ⟨Ca _⟩, ⟨rR_ k0.o⟩, ⟨hB_⟩⟩
 clear H'
 obtain ⟨n0, d0, rfl, rfl, HA, D0, k0, HB⟩ := hrel
 rcases gk with _ | k2
 ·exact absurd HA.o (by simp [aH.l1])
 have H := HA.o
 clear HA
 simp only [aH.l1] at H
 by_cases c5 : d0 ≥ 0
 ·rw [Fa c5] at H
  have G0 := ya c5
  clear c5
  obtain ⟨v0, p0⟩ : ∃ j_ : Int, (wrap64 (b0 + d0)) = j_ := ⟨_, rfl⟩
  first | rw [p0] at H | simp only [p0] at H
  have J0 : (IntKind.i64.wrap (b0 + d0)) = v0 := (bq _).trans p0
  obtain ⟨M0, H⟩ := iD_ H
  obtain ⟨N0, H⟩ := iD_ H
  have H' := c_ H
  clear H
  have p9 := Aa (oD_ : 0 ≤ ((v0) : Int))
  have q9 := Aa (oD_ : (v0) < (a0.size : Int))
  have P0 := cQ a0 (v0)
  go_wp2
  go_roundg k2
  case measure => have := C0.o; have := D0.o; omega
  case rel => exact ⟨(IntKind.u64.wrap ((IntKind.u64.wrap (n0 * 256)) + (IntKind.u64.wrap (bt a0 (v0))))), (wrap64 (d0 - 1)), (by first | rfl | (simp; done) | (simp only [← p0] <;> (first | rfl | simp)) | (simp [*]; done)), f0_, H', ⟨by have := C0.o; have := D0.o; omega⟩, ⟨rR_ k0.o⟩, ⟨hB_⟩⟩
 rw [Ga c5] at H
 have G0 := za c5
 clear c5
 obtain ⟨K0, H⟩ := iN_ H
 have x0 := c_ K0
 clear K0
 obtain ⟨H0, f0⟩ : ∃ y_ : List Int, y_ = (j0 ++ [n0]) := ⟨_, rfl⟩
 first | replace H := yb_ f0 H | rw [← f0] at H
 have y0 := c_ f0
 clear f0
 have H' := c_ H
 clear H
 go_wp2_with (first | (refine ga_ 28 30 ?_; at_builtin; refine ap_ k0 y0 x0 Tryz.underlying113 jy fun O0 Q0 B0 HB hg hat => ?_))
 go_roundg k2
 case measure => have := C0.o; have := D0.o; omega
 case rel => exact ⟨(H0), (wrap64 (b0 + 8)), f0_, H', ⟨by have := C0.o; have := D0.o; omega⟩, ⟨rR_ B0.o⟩, ⟨hB_⟩⟩
def bI.l0 : Nat → List Int → Int → Int → Int → Option (List Int)
 | 0, _, _, _, _ => none
 | k + 1, x1, x2, x3, x4 => if x4 < 24 then (if 0 ≤ (wrap64 (x2 + (wrap64 (5 * x3)))) then (if (wrap64 (x2 + (wrap64 (5 * x3)))) < (x1.length : Int) then (bI.l0 k (x1.set ((wrap64 (x2 + (wrap64 (5 * x3)))) : Int).toNat (Int.tmod (wrap64 (Int.tdiv (wrap64 ((wrap64 (x4 + 1)) * (wrap64 (x4 + 2)))) 2)) 64)) x3 (Int.tmod (wrap64 ((wrap64 (2 * x2)) + (wrap64 (3 * x3)))) 5) (wrap64 (x4 + 1))) else (none)) else (none)) else (some x1)
def bI.f (k : Nat)  : Option (List Int) := if 25 ≤ 35184372088832 then (bI.l0 k (List.replicate 25 0) 1 0 0) else (none)
theorem bI.mono_l : ∀ k, (∀ y0 y1 y2 y3, LeO (bI.l0 k y0 y1 y2 y3) (bI.l0 (k + 1) y0 y1 y2 y3))
 | 0 => fun _ _ _ _ r h => by simp [bI.l0] at h
 | k + 1 => by
  have ih0 := bI.mono_l k
  intros; unfold bI.l0; exact o1_ ih0
theorem bI.mono : ∀ k, LeO (bI.f k ) (bI.f (k + 1) ) := by
 intro  k
 have ih0 := bI.mono_l k
 unfold bI.f
 exact o1_ ih0
theorem bI.calls (k : Nat)  (r : List Int) (w : World) (h : bI.f k  = some r) :
  Calls Tryz.prog 122 #[] w fun e w' => ∃ E0 : Value, e = .returned (E0) ∧ Kd.R (Kd.int .i64) 3 w' w.heap.size (fun _ => True) E0 r ∧ Below w.heap.size w w' := by
 have HB := c_ (Da w.heap.size w)
 delta bI.f at h
 have H := h
 clear h
 obtain ⟨c1, H⟩ := iN_ H
 have K0 := Aa c1
 have L0 := ya c1
 clear c1
 obtain ⟨y0, d0⟩ : ∃ y_ : List Int, y_ = (List.replicate 25 0) := ⟨_, rfl⟩
 first | replace H := yb_ d0 H | rw [← d0] at H
 have n0 := c_ d0
 clear d0
 have H' := c_ H
 clear H
 go_enter Tryz.func122, Tryz.ntmps122
 go_wp2_with (first | ((refine cO (N := 6) rfl ?_); refine vu (Kd.int .i64) _ 3 rfl (N := 6) rfl 45 _ _ rfl 25 rfl rfl Tryz.underlying45 (.int .i64 0) 8 df rfl (by decide) (by omega) 0 (ok := fun _ => True) (okp := fun _ => True) rfl (fun _ hk => hk) trivial (by omega) (by omega) (Da _ _) (Ca _) ?_; intro B0 w2 r0 hb hg_ hnew_; clear hg_ hnew_; (first | rw [← n0.o] at r0 | (simp only [Int.reduceToNat] at r0; rw [← n0.o] at r0)); obtain ⟨v0, HB⟩ := b_ (vb r0 (au (hB_))) <| sB_; clear hb r0))
 go_loopg [2, 3, 4] k (fun kq v2 v3 v4 w' => ∃ (k0 : List Int) (f0 : Int) (b0 : Int) (a0 : Int), v2 = .int .i64 f0 ∧ v3 = .int .i64 b0 ∧ v4 = .int .i64 a0 ∧ aa (bI.l0 kq k0 f0 b0 a0 = some r) ∧ aa (kq ≤ k) ∧ aa (Kd.R (Kd.int .i64) 3 w' w.heap.size (fun _ => True) B0 k0) ∧ aa (Below w.heap.size w w'))
 case atStart => exact ⟨(y0), (1), (0), (0), f0_, f0_, f0_, H', ⟨Ca _⟩, ⟨rR_ v0.o⟩, ⟨hB_⟩⟩
 clear H'
 obtain ⟨k0, f0, b0, a0, rfl, rfl, rfl, HA, F0, j0, HB⟩ := hrel
 rcases gk with _ | k1
 ·exact absurd HA.o (by simp [bI.l0])
 have H := HA.o
 clear HA
 simp only [bI.l0] at H
 by_cases c4 : a0 < 24
 rotate_left
 ·rw [Ga c4] at H
  have C0 := za c4
  clear c4
  obtain rfl := Ba H
  go_wp2
  go_ret
  exact ⟨_, f1_, rR_ j0.o, hB_⟩
 rw [Fa c4] at H
 have C0 := ya c4
 clear c4
 obtain ⟨q0, p0⟩ : ∃ j_ : Int, (wrap64 (f0 + (wrap64 (5 * b0)))) = j_ := ⟨_, rfl⟩
 first | rw [p0] at H | simp only [p0] at H
 have G0 : (IntKind.i64.wrap (f0 + (wrap64 (5 * b0)))) = q0 := (bq _).trans p0
 obtain ⟨M0, H⟩ := iD_ H
 obtain ⟨N0, H⟩ := iD_ H
 obtain ⟨D0, e0⟩ : ∃ y_ : List Int, y_ = (k0.set ((q0) : Int).toNat (Int.tmod (wrap64 (Int.tdiv (wrap64 ((wrap64 (a0 + 1)) * (wrap64 (a0 + 2)))) 2)) 64)) := ⟨_, rfl⟩
 first | replace H := yb_ e0 H | rw [← e0] at H
 have x0 := c_ e0
 clear e0
 have H' := c_ H
 clear H
 have p8 : 0 ≤ ((q0) : Int) := oD_
 have q8 : ((q0) : Int) < ((k0.length : Int) : Int) := oD_
 obtain ⟨go8, P0, H0, I0, gl8, cl8, HG8⟩ := vq j0.o (by omega)
 (first | cases H0 | (injection H0 with ea_ en_ ec_; (first | subst ea_ | (injection ea_ with ea_; subst ea_)); subst ec_; clear en_))
 have O0 := c_ I0
 have GG8 := c_ HG8
 clear I0 gl8 HG8
 obtain ⟨J0, hf8_0⟩ := vc 0 j0.o ((q0) : Int) p8 q8
 replace p8 := Aa p8
 replace q8 := Aa q8
 have HP9 := vm j0.o ((q0) : Int) (Int.tmod (wrap64 (Int.tdiv (wrap64 ((wrap64 (a0 + 1)) * (wrap64 (a0 + 2)))) 2)) 64)
 go_wp2_with (first | ((refine cx (t := 3) (p := 23) rfl ?_); refine st_ 3 23 HP9 x0 O0 fun Q0 hw hp_ hg HBn => ?_; obtain ⟨j0, HB⟩ := b_ (hp_) <| c_ HBn.o; clear hg hw hp_))
 go_roundg k1
 case measure => have := F0.o; omega
 case rel => exact ⟨(D0), (b0), (Int.tmod (wrap64 ((wrap64 (2 * f0)) + (wrap64 (3 * b0)))) 5), (wrap64 (a0 + 1)), f0_, f0_, f0_, H', ⟨by have := F0.o; omega⟩, ⟨rR_ j0.o⟩, ⟨hB_⟩⟩
mutual
def aJ.l0 : Nat → List Int → Int → Int → Option (List Int)
 | 0, _, _, _ => none
 | k + 1, x1, x2, x3 => if x3 < 24 then (aJ.l1 k x1 x2 x3 0 1 0) else (some x1)
def aJ.l1 : Nat → List Int → Int → Int → Int → Int → Int → Option (List Int)
 | 0, _, _, _, _, _, _ => none
 | k + 1, x1, x2, x3, x4, x5, x6 => if x6 < 7 then (if (Int.tmod x2 2) = 1 then (if (wrap64 (x2 * 2)) ≥ 256 then (aJ.l1 k x1 (Go.bits .xor .i64 (wrap64 ((wrap64 (x2 * 2)) - 256)) 113) x3 (IntKind.u64.wrap (x4 + x5)) (IntKind.u64.wrap ((IntKind.u64.wrap (x5 * x5)) * 2)) (wrap64 (x6 + 1))) else (aJ.l1 k x1 (wrap64 (x2 * 2)) x3 (IntKind.u64.wrap (x4 + x5)) (IntKind.u64.wrap ((IntKind.u64.wrap (x5 * x5)) * 2)) (wrap64 (x6 + 1)))) else (if (wrap64 (x2 * 2)) ≥ 256 then (aJ.l1 k x1 (Go.bits .xor .i64 (wrap64 ((wrap64 (x2 * 2)) - 256)) 113) x3 x4 (IntKind.u64.wrap ((IntKind.u64.wrap (x5 * x5)) * 2)) (wrap64 (x6 + 1))) else (aJ.l1 k x1 (wrap64 (x2 * 2)) x3 x4 (IntKind.u64.wrap ((IntKind.u64.wrap (x5 * x5)) * 2)) (wrap64 (x6 + 1))))) else (if x1.length < 17592186044416 then (aJ.l0 k (x1 ++ [x4]) x2 (wrap64 (x3 + 1))) else (none))
end
def aJ.f (k : Nat)  : Option (List Int) := aJ.l0 k (([] : List Int)) 1 0
theorem aJ.mono_l : ∀ k, (∀ y0 y1 y2, LeO (aJ.l0 k y0 y1 y2) (aJ.l0 (k + 1) y0 y1 y2)) ∧ (∀ y0 y1 y2 y3 y4 y5, LeO (aJ.l1 k y0 y1 y2 y3 y4 y5) (aJ.l1 (k + 1) y0 y1 y2 y3 y4 y5))
 | 0 => ⟨fun _ _ _ r h => by simp [aJ.l0] at h, fun _ _ _ _ _ _ r h => by simp [aJ.l1] at h⟩
 | k + 1 => by
  obtain ⟨ih0, ih1⟩ := aJ.mono_l k
  refine ⟨?_, ?_⟩ <;> (intros; (first | unfold aJ.l0 | unfold aJ.l1); exact o2_ ih0 ih1)
theorem aJ.mono : ∀ k, LeO (aJ.f k ) (aJ.f (k + 1) ) := by
 intro  k
 obtain ⟨ih0, ih1⟩ := aJ.mono_l k
 unfold aJ.f
 exact o2_ ih0 ih1
theorem aJ.calls (k : Nat)  (r : List Int) (w : World) (h : aJ.f k  = some r) :
  Calls Tryz.prog 123 #[] w fun e w' => ∃ M0 : Value, e = .returned (M0) ∧ Kd.R (Kd.int .u64) 107 w' w.heap.size (fun _ => True) M0 r ∧ Below w.heap.size w w' := by
 have HB := c_ (Da w.heap.size w)
 delta aJ.f at h
 have H := h
 clear h
 obtain ⟨D0, j0⟩ : ∃ y_ : List Int, y_ = (([] : List Int)) := ⟨_, rfl⟩
 first | replace H := yb_ j0 H | rw [← j0] at H
 have x0 := c_ j0
 clear j0
 have H' := c_ H
 clear H
 go_enter Tryz.func123, Tryz.ntmps123
 go_wp2_with (first | (refine lj_ 7 .u64 107 x0 fun N0 w1 y0 HB => ?_))
 go_loopg [1, 2, 3] k (fun kq v1 v2 v3 w' => ∃ (n0 : List Int) (v0 : Int) (p0 : Int), v2 = .int .i64 v0 ∧ v3 = .int .i64 p0 ∧ aa (aJ.l0 kq n0 v0 p0 = some r) ∧ aa (kq ≤ k) ∧ aa (Kd.R (Kd.int .u64) 107 w' w.heap.size (fun _ => True) v1 n0) ∧ aa (Below w.heap.size w w'))
 case atStart => exact ⟨(D0), (1), (0), f0_, f0_, H', ⟨Ca _⟩, ⟨rR_ y0.o⟩, ⟨hB_⟩⟩
 clear H'
 obtain ⟨n0, v0, p0, rfl, rfl, HA, q0, d0, HB⟩ := hrel
 rcases gk with _ | k1
 ·exact absurd HA.o (by simp [aJ.l0])
 have H := HA.o
 clear HA
 simp only [aJ.l0] at H
 by_cases c3 : p0 < 24
 rotate_left
 ·rw [Ga c3] at H
  have E0 := za c3
  clear c3
  obtain rfl := Ba H
  go_wp2
  go_ret
  exact ⟨_, f1_, rR_ d0.o, hB_⟩
 rw [Fa c3] at H
 have E0 := ya c3
 clear c3
 have H' := c_ H
 clear H
 go_wp2
 go_loopg [2, 4, 5, 6] k1 (fun kq v2 v4 v5 v6 w' => ∃ (a0 : Int) (e0 : Int) (b0 : Int) (f0 : Int), v2 = .int .i64 a0 ∧ v4 = .int .u64 e0 ∧ v5 = .int .u64 b0 ∧ v6 = .int .i64 f0 ∧ aa (aJ.l1 kq n0 a0 p0 e0 b0 f0 = some r) ∧ aa (kq ≤ k1) ∧ aa (Kd.R (Kd.int .u64) 107 w' w.heap.size (fun _ => True) u1 n0) ∧ aa (Below w.heap.size w w'))
 case atStart => exact ⟨(v0), (0), (1), (0), f0_, f0_, f0_, f0_, H', ⟨Ca _⟩, ⟨rR_ d0.o⟩, ⟨hB_⟩⟩
 clear H'
 obtain ⟨a0, e0, b0, f0, rfl, rfl, rfl, rfl, HA, r0, d0, HB⟩ := hrel
 rcases gk with _ | k2
 ·exact absurd HA.o (by simp [aJ.l1])
 have H := HA.o
 clear HA
 simp only [aJ.l1] at H
 by_cases c4 : f0 < 7
 rotate_left
 ·rw [Ga c4] at H
  have F0 := za c4
  clear c4
  obtain ⟨c8, H⟩ := iN_ H
  have G0 := c_ c8
  clear c8
  obtain ⟨H0, k0⟩ : ∃ y_ : List Int, y_ = (n0 ++ [e0]) := ⟨_, rfl⟩
  first | replace H := yb_ k0 H | rw [← k0] at H
  have B0 := c_ k0
  clear k0
  have H' := c_ H
  clear H
  go_wp2_with (first | (refine ga_ 33 35 ?_; at_builtin; refine ap_ d0 B0 G0 Tryz.underlying113 jy fun O0 w9 C0 HB hg hat => ?_))
  go_roundg k2
  case measure => have := q0.o; have := r0.o; omega
  case rel => exact ⟨(H0), (a0), (wrap64 (p0 + 1)), f0_, f0_, H', ⟨by have := q0.o; have := r0.o; omega⟩, ⟨rR_ C0.o⟩, ⟨hB_⟩⟩
 rw [Fa c4] at H
 have F0 := ya c4
 clear c4
 by_cases c5 : (Int.tmod a0 2) = 1
 ·rw [Fa c5] at H
  have I0 : ((Int.tmod a0 2) == 1) = true := beq_iff_eq.mpr c5
  have J0 : ((Int.tmod a0 2) != 1) = false := bne_eq_false_iff_eq.mpr c5
  clear c5
  by_cases c6 : (wrap64 (a0 * 2)) ≥ 256
  ·rw [Fa c6] at H
   have K0 := ya c6
   clear c6
   have H' := c_ H
   clear H
   go_wp2
   go_roundg k2
   case measure => have := q0.o; have := r0.o; omega
   case rel => exact ⟨(Go.bits .xor .i64 (wrap64 ((wrap64 (a0 * 2)) - 256)) 113), (IntKind.u64.wrap (e0 + b0)), (IntKind.u64.wrap ((IntKind.u64.wrap (b0 * b0)) * 2)), (wrap64 (f0 + 1)), f0_, f0_, f0_, f0_, H', ⟨by have := q0.o; have := r0.o; omega⟩, ⟨rR_ d0.o⟩, ⟨hB_⟩⟩
  rw [Ga c6] at H
  have K0 := za c6
  clear c6
  have H' := c_ H
  clear H
  go_wp2
  go_roundg k2
  case measure => have := q0.o; have := r0.o; omega
  case rel => exact ⟨(wrap64 (a0 * 2)), (IntKind.u64.wrap (e0 + b0)), (IntKind.u64.wrap ((IntKind.u64.wrap (b0 * b0)) * 2)), (wrap64 (f0 + 1)), f0_, f0_, f0_, f0_, H', ⟨by have := q0.o; have := r0.o; omega⟩, ⟨rR_ d0.o⟩, ⟨hB_⟩⟩
 rw [Ga c5] at H
 have I0 : ((Int.tmod a0 2) == 1) = false := beq_eq_false_iff_ne.mpr c5
 have J0 : ((Int.tmod a0 2) != 1) = true := bne_iff_ne.mpr c5
 by_cases c7 : (wrap64 (a0 * 2)) ≥ 256
 ·rw [Fa c7] at H
  have L0 := ya c7
  clear c7
  have H' := c_ H
  clear H
  go_wp2
  go_roundg k2
  case measure => have := q0.o; have := r0.o; omega
  case rel => exact ⟨(Go.bits .xor .i64 (wrap64 ((wrap64 (a0 * 2)) - 256)) 113), (e0), (IntKind.u64.wrap ((IntKind.u64.wrap (b0 * b0)) * 2)), (wrap64 (f0 + 1)), f0_, f0_, f0_, f0_, H', ⟨by have := q0.o; have := r0.o; omega⟩, ⟨rR_ d0.o⟩, ⟨hB_⟩⟩
 rw [Ga c7] at H
 have L0 := za c7
 clear c7
 have H' := c_ H
 clear H
 go_wp2
 go_roundg k2
 case measure => have := q0.o; have := r0.o; omega
 case rel => exact ⟨(wrap64 (a0 * 2)), (e0), (IntKind.u64.wrap ((IntKind.u64.wrap (b0 * b0)) * 2)), (wrap64 (f0 + 1)), f0_, f0_, f0_, f0_, H', ⟨by have := q0.o; have := r0.o; omega⟩, ⟨rR_ d0.o⟩, ⟨hB_⟩⟩
def bw.l0 : Nat → Int → Int → Int → Int → Option (Int)
 | 0, _, _, _, _ => none
 | k + 1, x0, x1, x5, x6 => if x6 < x1 then (bw.l0 k x0 x1 (IntKind.u64.wrap (x5 * 2)) (wrap64 (x6 + 1))) else (if x1 = 0 then (some x0) else (if x5 = 0 then (none) else (if (IntKind.u64.wrap ((IntKind.u64.wrap (Int.tdiv (9223372036854775808 : Int) x5)) * 2)) = 0 then (none) else (some (IntKind.u64.wrap ((IntKind.u64.wrap (x0 * x5)) + (IntKind.u64.wrap (Int.tdiv x0 (IntKind.u64.wrap ((IntKind.u64.wrap (Int.tdiv (9223372036854775808 : Int) x5)) * 2))))))))))
def bw.f (k : Nat) (a0 : Int) (a1 : Int) : Option (Int) := bw.l0 k a0 a1 1 0
theorem bw.mono_l : ∀ k, (∀ y0 y1 y2 y3, LeO (bw.l0 k y0 y1 y2 y3) (bw.l0 (k + 1) y0 y1 y2 y3))
 | 0 => fun _ _ _ _ r h => by simp [bw.l0] at h
 | k + 1 => by
  have ih0 := bw.mono_l k
  intros; unfold bw.l0; exact o1_ ih0
theorem bw.mono : ∀ a0 a1 k, LeO (bw.f k a0 a1) (bw.f (k + 1) a0 a1) := by
 intro a0 a1 k
 have ih0 := bw.mono_l k
 unfold bw.f
 exact o1_ ih0
theorem bw.calls (k : Nat) (a0 : Int) (a1 : Int) (r : Int) (w : World) (h : bw.f k a0 a1 = some r) :
  Calls Tryz.prog 127 #[.int .u64 a0, .int .i64 a1] w fun e w' => e = .returned (.int .u64 r) ∧ cr w w' := by
 delta bw.f at h
 have H := h
 clear h
 have H' := c_ H
 clear H
 go_enter Tryz.func127, Tryz.ntmps127
 go_wp2
 go_loopg [5, 6] k (fun kq v5 v6 w' => ∃ (b0 : Int) (d0 : Int), v5 = .int .u64 b0 ∧ v6 = .int .i64 d0 ∧ aa (bw.l0 kq a0 a1 b0 d0 = some r) ∧ aa (kq ≤ k) ∧ cr w w')
 case atStart => exact ⟨(1), (0), f0_, f0_, H', ⟨Ca _⟩, d0_⟩
 clear H'
 obtain ⟨b0, d0, rfl, rfl, HA, k0, ⟨m1, rfl⟩⟩ := hrel
 rcases gk with _ | k1
 ·exact absurd HA.o (by simp [bw.l0])
 have H := HA.o
 clear HA
 simp only [bw.l0] at H
 by_cases c3 : d0 < a1
 ·rw [Fa c3] at H
  have e0 := ya c3
  clear c3
  have H' := c_ H
  clear H
  go_wp2
  go_roundg k1
  case measure => have := k0.o; omega
  case rel => exact ⟨(IntKind.u64.wrap (b0 * 2)), (wrap64 (d0 + 1)), f0_, f0_, H', ⟨by have := k0.o; omega⟩, d0_⟩
 rw [Ga c3] at H
 have e0 := za c3
 clear c3
 by_cases c4 : a1 = 0
 ·rw [Fa c4] at H
  have f0 : (a1 == 0) = true := beq_iff_eq.mpr c4
  have j0 : (a1 != 0) = false := bne_eq_false_iff_eq.mpr c4
  clear c4
  obtain rfl := Ba H
  go_wp2
  go_ret
  exact ⟨f0_, d0_⟩
 rw [Ga c4] at H
 have f0 : (a1 == 0) = false := beq_eq_false_iff_ne.mpr c4
 have j0 : (a1 != 0) = true := bne_iff_ne.mpr c4
 by_cases c5 : b0 = 0
 ·rw [Fa c5] at H
  exact absurd H (by simp)
 rw [Ga c5] at H
 have n0 : (b0 == 0) = false := beq_eq_false_iff_ne.mpr c5
 have p0 : (b0 != 0) = true := bne_iff_ne.mpr c5
 by_cases c6 : (IntKind.u64.wrap ((IntKind.u64.wrap (Int.tdiv (9223372036854775808 : Int) b0)) * 2)) = 0
 ·rw [Fa c6] at H
  exact absurd H (by simp)
 rw [Ga c6] at H
 have q0 : ((IntKind.u64.wrap ((IntKind.u64.wrap (Int.tdiv (9223372036854775808 : Int) b0)) * 2)) == 0) = false := beq_eq_false_iff_ne.mpr c6
 have r0 : ((IntKind.u64.wrap ((IntKind.u64.wrap (Int.tdiv (9223372036854775808 : Int) b0)) * 2)) != 0) = true := bne_iff_ne.mpr c6
 obtain rfl := Ba H
 go_wp2
 go_ret
 exact ⟨f0_, d0_⟩
end Go.Proofs.YtmdlpmddljbkeaaGreatDoor.P
