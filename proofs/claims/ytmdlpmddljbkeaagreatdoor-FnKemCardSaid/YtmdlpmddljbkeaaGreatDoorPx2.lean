-- printed texts of this session, regrouped
import Derived.Test.YtmdlpmddljbkeaaGreatDoorMW9
namespace Go.Proofs.YtmdlpmddljbkeaaGreatDoor.P
open Go.RowKit YtmdlpmddljbkeaaGreatDoorW.PrintWords YtmdlpmddljbkeaaGreatDoorW.PrintLast YtmdlpmddljbkeaaGreatDoorW.PrintMore
open Kd
attribute [local go_sem] d3 dW eG eI dD dC dZ dY
set_option linter.unusedVariables false
set_option linter.unusedSimpArgs false
set_option maxHeartbeats 8000000
set_option maxRecDepth 100000
mutual
def aA.j0 : Nat → ByteArray → Bool → ByteArray → ByteArray → Int → Option (ByteArray × ByteArray × Int)
 | 0, _, _, _, _, _ => none
 | k + 1, x1, x19, x176000, x176001, x176002 => if x19 = true then (some (x176000, x176001, x176002)) else ((bd.f k x176000).bind fun t178 => ((fc.f).bind fun t181 => (if x176001.size + x1.size ≤ 9223372036854775807 then (aA.l0 k x1 t178 t181 (x176001 ++ x1) 0 x176000 x176001 x176002) else (none))))
def aA.l0 : Nat → ByteArray → List Int → List Int → ByteArray → Int → ByteArray → ByteArray → Int → Option (ByteArray × ByteArray × Int)
 | 0, _, _, _, _, _, _, _, _ => none
 | k + 1, x1, x5, x6, x7, x8, x176000, x176001, x176002 => if (wrap64 (x8 + 64)) ≤ (x7.size : Int) then (if 0 ≤ x8 then (if x8 ≤ (wrap64 (x8 + 64)) then ((ac.f k x5 x6 (x7.extract (x8 : Int).toNat ((wrap64 (x8 + 64)) : Int).toNat)).bind fun t184 => (aA.l0 k x1 t184 x6 x7 (wrap64 (x8 + 64)) x176000 x176001 x176002)) else (none)) else (none)) else ((bk.f k x5).bind fun t187 => (if 0 ≤ x8 then (if x8 ≤ (x7.size : Int) then (some (t187, x7.extract (x8 : Int).toNat x7.size, wrap64 (x176002 + (x1.size : Int)))) else (none)) else (none)))
end
def aA.f (k : Nat) (a0_0 : ByteArray) (a0_1 : ByteArray) (a0_2 : Int) (a1 : ByteArray) : Option (ByteArray × ByteArray × Int) := (cT.f a0_0 a0_1 a0_2).bind fun t177 => (if t177 = true then (aA.j0 k a1 (decide ((wrap64 (a0_2 + (a1.size : Int))) > 1000000000)) a0_0 a0_1 a0_2) else (aA.j0 k a1 true a0_0 a0_1 a0_2))
theorem aA.mono_l : ∀ k, (∀ y0 y1 y2 y3 y4, LeO (aA.j0 k y0 y1 y2 y3 y4) (aA.j0 (k + 1) y0 y1 y2 y3 y4)) ∧ (∀ y0 y1 y2 y3 y4 y5 y6 y7, LeO (aA.l0 k y0 y1 y2 y3 y4 y5 y6 y7) (aA.l0 (k + 1) y0 y1 y2 y3 y4 y5 y6 y7))
 | 0 => ⟨fun _ _ _ _ _ r h => by simp [aA.j0] at h, fun _ _ _ _ _ _ _ _ r h => by simp [aA.l0] at h⟩
 | k + 1 => by
  obtain ⟨ih0, ih1⟩ := aA.mono_l k
  refine ⟨?_, ?_⟩ <;> (intros; (first | unfold aA.j0 | unfold aA.l0); exact o5_ ih0 ih1 bk.mono ac.mono bd.mono)
theorem aA.mono : ∀ a0 a1 a2 a3 k, LeO (aA.f k a0 a1 a2 a3) (aA.f (k + 1) a0 a1 a2 a3) := by
 intro a0 a1 a2 a3 k
 obtain ⟨ih0, ih1⟩ := aA.mono_l k
 unfold aA.f
 exact o5_ ih0 ih1 bk.mono ac.mono bd.mono
def aA.T10 : Bool × List (List Nat × List Nat) := (true, [([], []), ([0], [0]), ([], []), ([], []), ([2, 3], [2, 3]), ([], []), ([5], [5]), ([], []), ([7], [7]), ([6, 8], [6, 8]), ([1, 4, 9], [1, 4, 9]), ([10, 1, 0, 1, 2, 3, 4, 5, 6, 7, 8, 9, 10], [10])])
def aA.B10 : List Nat := [0, 1, 0, 0, 12, 0, 32, 0, 128, 480, 1023, 2047]
theorem aA.tab10 : eu .any (fu Tryz.f42 10) = aA.T10 := by kernel_rfl
theorem aA.bits10 : dd aA.T10.2 aA.B10 = true := by kernel_rfl
theorem aA.calls (k : Nat) (p0 : ByteArray) (n0 : ByteArray) (q0 : Int) (a1 : ByteArray) (r1 : ByteArray) (r2 : ByteArray) (r3 : Int) (w : World) (h : aA.f k p0 n0 q0 a1 = some (r1, r2, r3)) :
  Calls Tryz.prog 42 #[.agg #[.string p0, .string n0, .int .i64 q0], .string a1] w fun e w' => e = .returned (.agg #[.string r1, .string r2, .int .i64 r3]) ∧ Below w.heap.size w w' := by
 have hu65 := Tryz.underlying65
 have HB := c_ (Da w.heap.size w)
 delta aA.f at h
 have H := h
 clear h
 have P1 := c_ H
 clear H
 go_enter Tryz.func42, Tryz.ntmps42
 go_upto_region 1 with (first | ((try (refine bi (by rfl) ?_; dsimp only)); refine bx_ 2 #[.string p0, .string n0, .int .i64 q0] 65 fun e0 w4 hb HB a0 x0 => ?_) | ((try (refine bi (by rfl) ?_; dsimp only)); refine bq_ 4 #[.string (⟨#[]⟩ : ByteArray), .string (⟨#[]⟩ : ByteArray), .int .i64 0] 65 fun f0 w5 hg hb HB d0 y0 => ?_; obtain ⟨a0, b0, k0⟩ := n_ (fK_ a0) <| b_ (by rw [hg]; exact Nat.ne_of_lt (eq (g := e0) (o := .cells #[.string p0, .string n0, .int .i64 q0] 65 (0, 0)) (rK_ a0.o)) : e0 ≠ f0) <| c_ (by rw [hg]; exact Nat.ne_of_gt (eq (g := e0) (o := .cells #[.string p0, .string n0, .int .i64 q0] 65 (0, 0)) (rK_ a0.o)) : f0 ≠ e0); clear hg))
 (try simp only [Act.put, List.setIfInBounds_toArray, List.set_cons_zero, List.set_cons_succ])
 go_cut [19] (fun P2 wc => ∃ (kq : Nat) (C0 : Bool), P2 = .bool C0 ∧ aa (aA.j0 kq a1 C0 p0 n0 q0 = some (r1, r2, r3)) ∧ aa (kq ≤ k) ∧ aa (wc.heap[e0]? = some (.cells #[.string p0, .string n0, .int .i64 q0] 65 (0, 0))) ∧ aa (wc.heap[f0]? = some (.cells #[.string (⟨#[]⟩ : ByteArray), .string (⟨#[]⟩ : ByteArray), .int .i64 0] 65 (0, 0))) ∧ aa (Below w.heap.size w wc))
 case first =>
  have H := P1.o
  clear P1
  obtain ⟨Q1, A6, H⟩ := bN_ H
  by_cases c7 : Q1 = true
  ·subst c7
   replace H := iT_ H
   have H' := c_ H
   clear H
   have hnb8 := b0.o
   have hnc8 := k0.o
   have R1 : w5.cell? ⟨e0, 0, none⟩ = some (.string p0) := (ah a0.o 0).trans rfl
   have S1 : w5.cell? ⟨e0, 1, none⟩ = some (.string n0) := (ah a0.o 1).trans rfl
   have T1 : w5.cell? ⟨e0, 2, none⟩ = some (.int .i64 q0) := (ah a0.o 2).trans rfl
   have U1 := ae a0.o 0
   have V1 := ae a0.o 1
   have X1 := ae a0.o 2
   go_wp2_with (first | (refine gc_ (k_ 10 Tryz.func76) (cT.calls _ _ _ _ _ A6.o) fun Y1 hb => ?_; obtain ⟨a0, d0, HB⟩ := n_ (fK_ a0) <| n_ (fK_ d0) <| sB_; have N0 : Y1.cell? ⟨e0, 0, none⟩ = some (.string p0) := (ah a0.o 0).trans rfl; have O0 : Y1.cell? ⟨e0, 1, none⟩ = some (.string n0) := (ah a0.o 1).trans rfl; have P0 : Y1.cell? ⟨e0, 2, none⟩ = some (.int .i64 q0) := (ah a0.o 2).trans rfl; have Q0 := ae a0.o 0; have R0 := ae a0.o 1; have S0 := ae a0.o 2))
   go_meet
   case rel => exact ⟨_, (decide ((wrap64 (q0 + (a1.size : Int))) > 1000000000)), f0_, H', ⟨by first | omega | exact Ca _⟩, ⟨by refine kK_ ?_; exact a0.o⟩, ⟨by refine kK_ ?_; exact d0.o⟩, ⟨(u2_ x0.o y0.o)⟩⟩
  ·replace c7 := Ea c7
   subst c7
   replace H := iF_ H
   have H' := c_ H
   clear H
   have hnb12 := b0.o
   have hnc12 := k0.o
   have T0 : w5.cell? ⟨e0, 0, none⟩ = some (.string p0) := (ah a0.o 0).trans rfl
   have U0 : w5.cell? ⟨e0, 1, none⟩ = some (.string n0) := (ah a0.o 1).trans rfl
   have V0 : w5.cell? ⟨e0, 2, none⟩ = some (.int .i64 q0) := (ah a0.o 2).trans rfl
   have W0 := ae a0.o 0
   have X0 := ae a0.o 1
   have Y0 := ae a0.o 2
   go_wp2_with (first | (refine gc_ (k_ 10 Tryz.func76) (cT.calls _ _ _ _ _ A6.o) fun i3 hb => ?_; obtain ⟨a0, d0, HB⟩ := n_ (fK_ a0) <| n_ (fK_ d0) <| sB_))
   go_meet
   case rel => exact ⟨_, (true), f0_, H', ⟨by first | omega | exact Ca _⟩, ⟨by refine kK_ ?_; exact a0.o⟩, ⟨by refine kK_ ?_; exact d0.o⟩, ⟨(u2_ x0.o y0.o)⟩⟩
 clear P1
 obtain ⟨kq, C0, rfl, HA, q2, a0, d0, HB⟩ := hcut
 rcases kq with _ | t2
 ·exact absurd HA.o (by simp [aA.j0])
 have H := HA.o
 clear HA
 simp only [aA.j0] at H
 by_cases Z0 : C0 = true
 ·subst Z0
  replace H := iT_ H
  simp only [Option.some.injEq, Prod.mk.injEq] at H
  obtain ⟨rfl, rfl, rfl⟩ := H
  have hnb16 := b0.o
  have hnc16 := k0.o
  have b1 : wc.cell? ⟨e0, 0, none⟩ = some (.string p0) := (ah a0.o 0).trans rfl
  have c1 : wc.cell? ⟨e0, 1, none⟩ = some (.string n0) := (ah a0.o 1).trans rfl
  have e1 : wc.cell? ⟨e0, 2, none⟩ = some (.int .i64 q0) := (ah a0.o 2).trans rfl
  have f1 := ae a0.o 0
  have g1 := ae a0.o 1
  have i1 := ae a0.o 2
  have j1 : wc.cell? ⟨f0, 0, none⟩ = some (.string (⟨#[]⟩ : ByteArray)) := (ah d0.o 0).trans rfl
  have l1 : wc.cell? ⟨f0, 1, none⟩ = some (.string (⟨#[]⟩ : ByteArray)) := (ah d0.o 1).trans rfl
  have m1 : wc.cell? ⟨f0, 2, none⟩ = some (.int .i64 0) := (ah d0.o 2).trans rfl
  have n1 := ae d0.o 0
  have p1 := ae d0.o 1
  have q1 := ae d0.o 2
  go_wp2
  refine bodyPost_ret (results_cell_row rfl _ _ f0 65 #[.string p0, .string n0, .int .i64 q0] (0, 0) _ rfl (by refine kK_ ?_; refine bO (cs := #[.string p0, .string n0, .int .i64 0]) ?_ 2 _ rfl; refine kK_ ?_; refine bO (cs := #[.string p0, .string (⟨#[]⟩ : ByteArray), .int .i64 0]) ?_ 1 _ rfl; refine kK_ ?_; refine bO (cs := #[.string (⟨#[]⟩ : ByteArray), .string (⟨#[]⟩ : ByteArray), .int .i64 0]) ?_ 0 _ rfl; exact rK_ d0.o) Tryz.underlying65 rfl (by kernel_rfl)) rfl ?_
  exact ⟨f1_, (u2_ x0.o y0.o)⟩
 ·replace Z0 := Ea Z0
  subst Z0
  replace H := iF_ H
  obtain ⟨Z1, Q2, H⟩ := bN_ H
  obtain ⟨H0, R2, H⟩ := bN_ H
  obtain ⟨b2, H⟩ := iN_ H
  have v2 := Aa b2
  have y2 := ya b2
  try have z2 : (9223372036854775807 < n0.size + a1.size) = False := eq_false (Nat.not_lt.2 b2)
  obtain ⟨bf_, hbf_⟩ : ∃ y_ : ByteArray, y_ = n0 ++ a1 := ⟨_, rfl⟩
  rw [← hbf_] at H
  have HBF_ := c_ hbf_
  clear hbf_
  have H' := c_ H
  clear H
  have hnb22 := b0.o
  have hnc22 := k0.o
  have t1 : wc.cell? ⟨e0, 0, none⟩ = some (.string p0) := (ah a0.o 0).trans rfl
  have y1 : wc.cell? ⟨e0, 1, none⟩ = some (.string n0) := (ah a0.o 1).trans rfl
  have z1 : wc.cell? ⟨e0, 2, none⟩ = some (.int .i64 q0) := (ah a0.o 2).trans rfl
  have A1 := ae a0.o 0
  have B1 := ae a0.o 1
  have C1 := ae a0.o 2
  go_wp2_with (first | (refine gR_ (k_ 23 Tryz.func77) (bd.calls _ _ _ _ Q2.o) fun T2 l3 ho_ hb => ?_; obtain ⟨D0, a0, d0, HB⟩ := n_ (lR_ ho_) <| n_ (fK_ a0) <| n_ (fK_ d0) <| sB_) | (refine gR_ (k_ 24 Tryz.func78) (fc.calls _ _ R2.o) fun I0 c2 ho_ hb => ?_; obtain ⟨D0, J0, a0, d0, HB⟩ := n_ (di D0) <| n_ (lR_ (dm ho_ D0)) <| n_ (fK_ a0) <| n_ (fK_ d0) <| sB_; have D1 : c2.cell? ⟨e0, 0, none⟩ = some (.string p0) := (ah a0.o 0).trans rfl; have E1 : c2.cell? ⟨e0, 1, none⟩ = some (.string n0) := (ah a0.o 1).trans rfl; have F1 : c2.cell? ⟨e0, 2, none⟩ = some (.int .i64 q0) := (ah a0.o 2).trans rfl; have G1 := ae a0.o 0; have H1 := ae a0.o 1; have I1 := ae a0.o 2))
  rw [← HBF_.o]
  go_loopg [5, 8] t2 (fun kq v5 v8 w' => ∃ (E0 : List Int) (B0 : Int), v8 = .int .i64 B0 ∧ aa (aA.l0 kq a1 E0 H0 bf_ B0 p0 n0 q0 = some (r1, r2, r3)) ∧ aa (kq ≤ t2) ∧ aa (Kd.R (Kd.int .u32) 69 w' w.heap.size (fun k_ => some k_ ≠ (I0 : Value).ownBlock) v5 E0) ∧ aa (Kd.R (Kd.int .u32) 69 w' w.heap.size (fun k_ => some k_ ≠ (v5 : Value).ownBlock) I0 H0) ∧ aa (w'.heap[e0]? = some (.cells #[.string p0, .string n0, .int .i64 q0] 65 (0, 0))) ∧ aa (w'.heap[f0]? = some (.cells #[.string (⟨#[]⟩ : ByteArray), .string (⟨#[]⟩ : ByteArray), .int .i64 0] 65 (0, 0))) ∧ aa (Below w.heap.size w w'))
  case atStart => exact ⟨(Z1), (0), f0_, H', ⟨Ca _⟩, ⟨by refine kR_ ?_; exact va D0.o (fun _ hk => hk.2)⟩, ⟨by refine kR_ ?_; exact va J0.o (fun _ hk => hk.2)⟩, ⟨by refine kK_ ?_; exact a0.o⟩, ⟨by refine kK_ ?_; exact d0.o⟩, ⟨(u2_ x0.o y0.o)⟩⟩
  clear H'
  obtain ⟨E0, B0, rfl, HA, A2, r0, v0, a0, d0, HB⟩ := hrel
  rcases gk with _ | k2
  ·exact absurd HA.o (by simp [aA.l0])
  have H := HA.o
  clear HA
  simp only [aA.l0] at H
  by_cases G0 : (wrap64 (B0 + 64)) ≤ (bf_.size : Int)
  ·rw [Fa G0] at H
   have K0 := ya G0
   clear G0
   obtain ⟨f2, H⟩ := iN_ H
   have B2 := Aa f2
   have C2 := ya f2
   clear f2
   obtain ⟨D2, H⟩ := iN_ H
   have E2 := Aa D2
   have F2 := ya D2
   have G2 := Aa (oD_ : (wrap64 (B0 + 64)) ≤ (bf_.size : Int))
   obtain ⟨g2, U2, H⟩ := bN_ H
   have H' := c_ H
   clear H
   obtain ⟨V2, X2, i2⟩ := uY r0.o
   subst i2
   obtain ⟨Y2, Z2, j2⟩ := uY v0.o
   subst j2
   go_wp2_with (first | (refine gR_ (k_ 41 Tryz.func79) (ac.calls _ _ _ _ _ _ _ _ _ _ (cR_ (uX r0.o).2.2) ((uX r0.o).2.1) (cR_ (uX v0.o).2.2) ((uX v0.o).2.1) U2.o) fun b3 m3 ho_ hb => ?_; obtain ⟨r0, v0, L0, a0, d0, HB⟩ := n_ (di r0) <| n_ (di v0) <| n_ (lR_ (dm (dm ho_ r0) v0)) <| n_ (fK_ a0) <| n_ (fK_ d0) <| sB_))
   go_roundg k2
   case measure => have := q2.o; have := A2.o; omega
   case rel => exact ⟨(g2), (wrap64 (B0 + 64)), f0_, H', ⟨by have := q2.o; have := A2.o; omega⟩, ⟨by refine kR_ ?_; exact va L0.o (fun _ hk => hk.2)⟩, ⟨by refine kR_ ?_; exact va v0.o (fun _ hk => hk.2)⟩, ⟨by refine kK_ ?_; exact a0.o⟩, ⟨by refine kK_ ?_; exact d0.o⟩, ⟨(u2_ x0.o y0.o)⟩⟩
  rw [Ga G0] at H
  have K0 := za G0
  clear G0
  obtain ⟨F0, c3, H⟩ := bN_ H
  obtain ⟨l2, H⟩ := iN_ H
  have H2 := Aa l2
  have I2 := ya l2
  clear l2
  obtain ⟨J2, H⟩ := iN_ H
  have K2 := Aa J2
  have L2 := ya J2
  simp only [Option.some.injEq, Prod.mk.injEq] at H
  obtain ⟨rfl, rfl, rfl⟩ := H
  try go_wp2
  obtain ⟨r0, v0, a0, d0, HB⟩ := b_ (vl r0.o) <| b_ (vl v0.o) <| b_ (gK a0.o) <| b_ (gK d0.o) <| c_ (bx HB.o)
  obtain ⟨m2, n2, M0⟩ := uY r0.o
  (first | subst M0 | (injection M0 with f1_ f2_ f3_; have f4_ := f1_.symm; have f5_ := f3_.symm; clear f1_ f2_ f3_; subst f4_; subst f5_))
  refine ej (n := 12) (S := fun w' => w'.cell? ⟨e0, 0, none⟩ = some (.string p0) ∧ w'.cell? ⟨e0, 1, none⟩ = some (.string n0) ∧ w'.cell? ⟨e0, 2, none⟩ = some (.int .i64 q0)) (ds := []) (bb_ 12 0) (by kernel_rfl) rfl rfl ⟨(ah a0.o 0).trans rfl, (ah a0.o 1).trans rfl, (ah a0.o 2).trans rfl⟩ (fun hHeld => ?_); refine cK aA.tab10 aA.bits10 (fun HT_ HW_ => ?_)
  generalize wr.drew = n3 at r0 v0 a0 d0 HB hHeld ⊢
  refine pT_ 0 44 12 1 ?_
  refine pT_ 2 46 12 5 ?_
  refine pT_ 3 47 12 13 ?_
  refine pT_ 4 48 12 29 ?_
  refine pT_ 5 49 12 61 ?_
  refine pT_ 7 51 12 189 ?_
  refine pT_ 8 52 12 445 ?_
  refine tS_ 6 50 (bb_ 12 509) (bA HT_.o HW_.o (by kernel_rfl)) hHeld ?_
  refine pT_ 9 53 12 1021 ?_
  refine fB (i := 1) (N := some 45) (bb_ 12 1023) rfl rfl (cz HT_.o (by kernel_rfl)) (by decide) (fun K hK => ?_)
  refine fj Tryz.func80 (by kernel_rfl) rfl #[.slice m2 E0.length n2] (by rfl) rfl rfl aM_ ?_
  with_reducible refine (bk.calls k2 _ _ E0 F0 _ ?side1 ?side2 c3.o).mono ?_
  (case side1 => exact cR_ (uX r0.o).2.2)
  (case side2 => exact (uX r0.o).2.1)
  rintro e p2 ⟨rfl, hb⟩
  refine ⟨_, rfl, ?_⟩
  obtain ⟨r0, v0, a0, d0, HB⟩ := n_ (fR_ r0) <| n_ (fR_ v0) <| n_ (fK_ a0) <| n_ (fK_ d0) <| sB_
  refine hK _ _ ⟨(ah a0.o 0).trans rfl, (ah a0.o 1).trans rfl, (ah a0.o 2).trans rfl⟩ (fun hHeld => ?_)
  clear hK K
  refine dH (a' := ?_) ?_ ?_
  rotate_left
  ·show Act.put _ (some 45) _ = _
   simp only [Act.put, List.setIfInBounds_toArray, List.set_cons_zero, List.set_cons_succ, bq, ct]
   rfl
  refine pT_ 10 54 12 2047 ?_
  refine fB (i := 11) (N := none) (bb_ 12 4095) rfl rfl (cz HT_.o (by kernel_rfl)) (by decide) (fun K hK => ?_)
  have e3 : p2.cell? ⟨f0, 0, none⟩ = some (.string (⟨#[]⟩ : ByteArray)) := (ah d0.o 0).trans rfl
  have M2 := ae d0.o 0
  have J1 := b0.o
  have K1 := k0.o
  have f3 : p2.cell? ⟨f0, 1, none⟩ = some (.string (⟨#[]⟩ : ByteArray)) := (ah d0.o 1).trans rfl
  have N2 := ae d0.o 1
  have L1 := b0.o
  have M1 := k0.o
  have g3 : p2.cell? ⟨f0, 2, none⟩ = some (.int .i64 0) := (ah d0.o 2).trans rfl
  have O2 := ae d0.o 2
  have N1 := b0.o
  have O1 := k0.o
  refine jb (w1 := ?_) (by rfl) rfl ?_ ?_
  rotate_left
  ·go_simp
   rfl
  refine hK _ _ ⟨((fC (p := ⟨f0, _, none⟩) b0.o _).trans (((fC (p := ⟨f0, _, none⟩) b0.o _).trans (((fC (p := ⟨f0, _, none⟩) b0.o _).trans (hHeld.1)))))), ((fC (p := ⟨f0, _, none⟩) b0.o _).trans (((fC (p := ⟨f0, _, none⟩) b0.o _).trans (((fC (p := ⟨f0, _, none⟩) b0.o _).trans (hHeld.2.1)))))), ((fC (p := ⟨f0, _, none⟩) b0.o _).trans (((fC (p := ⟨f0, _, none⟩) b0.o _).trans (((fC (p := ⟨f0, _, none⟩) b0.o _).trans (hHeld.2.2))))))⟩ (fun hHeld => ?_)
  clear hK K
  refine fq (dA HT_.o (by kernel_rfl)) ?_
  try go_wp2
  refine bodyPost_ret (results_cell_row rfl _ _ f0 65 #[.string F0, .string (bf_.extract (B0 : Int).toNat bf_.size), .int .i64 (wrap64 (q0 + (a1.size : Int)))] (0, 0) _ rfl (by refine kK_ ?_; refine bO (cs := #[.string F0, .string (bf_.extract (B0 : Int).toNat bf_.size), .int .i64 0]) ?_ 2 _ rfl; refine kK_ ?_; refine bO (cs := #[.string F0, .string (⟨#[]⟩ : ByteArray), .int .i64 0]) ?_ 1 _ rfl; refine kK_ ?_; refine bO (cs := #[.string (⟨#[]⟩ : ByteArray), .string (⟨#[]⟩ : ByteArray), .int .i64 0]) ?_ 0 _ rfl; exact rK_ d0.o) Tryz.underlying65 rfl (by kernel_rfl)) rfl ?_
  exact ⟨f1_, (u2_ x0.o y0.o)⟩
def fe.f  : Option (List Int) := some (([1779033703, 3144134277, 1013904242, 2773480762, 1359893119, 2600822924, 528734635, 1541459225] : List Int))
theorem fe.calls  (r : List Int) (w : World) (h : fe.f  = some r) :
  Calls Tryz.prog 81 #[] w fun e w' => ∃ e0 : Value, e = .returned (e0) ∧ Kd.R (Kd.int .u32) 69 w' w.heap.size (fun _ => True) e0 r ∧ Below w.heap.size w w' := by
 have HB := c_ (Da w.heap.size w)
 delta fe.f at h
 have H := h
 clear h
 obtain ⟨f0, a0⟩ : ∃ y_ : List Int, y_ = (([1779033703, 3144134277, 1013904242, 2773480762, 1359893119, 2600822924, 528734635, 1541459225] : List Int)) := ⟨_, rfl⟩
 first | replace H := yb_ a0 H | rw [← a0] at H
 have b0 := c_ a0
 clear a0
 obtain rfl := Ba H
 go_enter Tryz.func81, Tryz.ntmps81
 go_wp2_with (first | (refine lj_ 1 .u32 69 b0 fun j0 w1 d0 HB => ?_))
 go_ret
 exact ⟨_, f1_, rR_ d0.o, hB_⟩
def cI.f (k : Nat)  : Option (ByteArray × ByteArray × Int) := (fe.f).bind fun t192 => ((bk.f k t192).bind fun t195 => (some (t195, (⟨#[]⟩ : ByteArray), 0)))
theorem cI.mono : ∀ k, LeO (cI.f k ) (cI.f (k + 1) ) := by
 intro  k
 unfold cI.f
 exact o1_ bk.mono
theorem cI.calls (k : Nat)  (r1 : ByteArray) (r2 : ByteArray) (r3 : Int) (w : World) (h : cI.f k  = some (r1, r2, r3)) :
  Calls Tryz.prog 43 #[] w fun e w' => e = .returned (.agg #[.string r1, .string r2, .int .i64 r3]) ∧ Below w.heap.size w w' := by
 have hu65 := Tryz.underlying65
 have HB := c_ (Da w.heap.size w)
 delta cI.f at h
 have H := h
 clear h
 obtain ⟨v0, A1, H⟩ := bN_ H
 obtain ⟨e0, A2, H⟩ := bN_ H
 simp only [Option.some.injEq, Prod.mk.injEq] at H
 obtain ⟨rfl, rfl, rfl⟩ := H
 go_enter Tryz.func43, Tryz.ntmps43
 go_wp2_with (first | (refine bx_ 0 #[.string (⟨#[]⟩ : ByteArray), .string (⟨#[]⟩ : ByteArray), .int .i64 0] 65 fun d0 w3 hb HB a0 f0 => ?_) | (refine gR_ (k_ 1 Tryz.func81) (fe.calls _ _ A1.o) fun x0 w4 ho_ hb => ?_; obtain ⟨b0, a0, HB⟩ := n_ (lR_ ho_) <| n_ (fK_ a0) <| sB_; obtain ⟨B0, C0, y0⟩ := uY b0.o; subst y0) | (refine gc_ (k_ 2 Tryz.func80) (bk.calls _ _ _ _ _ _ (cR_ (uX b0.o).2.2) ((uX b0.o).2.1) A2.o) fun w6 hb => ?_; obtain ⟨b0, a0, HB⟩ := n_ (fR_ b0) <| n_ (fK_ a0) <| sB_; have j0 : w6.cell? ⟨d0, 0, none⟩ = some (.string (⟨#[]⟩ : ByteArray)) := (ah a0.o 0).trans rfl; have k0 : w6.cell? ⟨d0, 1, none⟩ = some (.string (⟨#[]⟩ : ByteArray)) := (ah a0.o 1).trans rfl; have n0 : w6.cell? ⟨d0, 2, none⟩ = some (.int .i64 0) := (ah a0.o 2).trans rfl; have p0 := ae a0.o 0; have q0 := ae a0.o 1; have r0 := ae a0.o 2))
 refine bodyPost_ret (results_cell_row rfl _ _ d0 65 #[.string e0, .string (⟨#[]⟩ : ByteArray), .int .i64 0] (0, 0) _ rfl (by refine kK_ ?_; refine bO (cs := #[.string e0, .string (⟨#[]⟩ : ByteArray), .int .i64 0]) ?_ 2 _ rfl; refine kK_ ?_; refine bO (cs := #[.string e0, .string (⟨#[]⟩ : ByteArray), .int .i64 0]) ?_ 1 _ rfl; refine kK_ ?_; refine bO (cs := #[.string (⟨#[]⟩ : ByteArray), .string (⟨#[]⟩ : ByteArray), .int .i64 0]) ?_ 0 _ rfl; exact rK_ a0.o) Tryz.underlying65 rfl (by kernel_rfl)) rfl ?_
 exact ⟨f1_, hS_ f0.o⟩
def cA.f (s0_0 : List Int) (s0_1 : Int) (s0_2 : Int) : Option (Int × Int × Int) := if s0_1 < (s0_0.length : Int) then (if 0 ≤ s0_1 then (some (Go.bits .and .i64 (wrap64 ((Go.bits .and .i64 (Go.bits .xor .i64 ((wrap64 ((wrap64 (s0_2 * 6364136223846793005)) + 1442695040888963407)) / 8589934592) ((wrap64 ((wrap64 (s0_2 * 6364136223846793005)) + 1442695040888963407)) / 35184372088832)) 255) + (wrap64 (rd s0_0 s0_1)))) 255, wrap64 (s0_1 + 1), wrap64 ((wrap64 (s0_2 * 6364136223846793005)) + 1442695040888963407))) else (none)) else (some (Go.bits .and .i64 (Go.bits .xor .i64 ((wrap64 ((wrap64 (s0_2 * 6364136223846793005)) + 1442695040888963407)) / 8589934592) ((wrap64 ((wrap64 (s0_2 * 6364136223846793005)) + 1442695040888963407)) / 35184372088832)) 255, s0_1, wrap64 ((wrap64 (s0_2 * 6364136223846793005)) + 1442695040888963407)))
theorem cA.calls (g : Nat) (d0 : List Int) (b0 : Int) (e0 : Int) (r1 : Int) (r2 : Int) (r3 : Int) (w0 w : World) (hI : bE w0 w g d0 b0 e0) (hB : Below w0.heap.size w0 w) (h : cA.f d0 b0 e0 = some (r1, r2, r3)) :
  Calls Tryz.prog 44 #[.pointer (some ⟨g, 0, none⟩)] w fun e w' => e = .returned (.int .i64 r1) ∧ bE w0 w' g d0 r2 r3 ∧ Below w0.heap.size w0 w' ∧ cC w w' g none := by
 have HI0 := c_ hI
 have HK := c_ (cC.refl w g none)
 have HL := c_ hB.size
 clear hI
 have HW0 := c_ hB.size
 have HB := c_ hB
 clear hB
 delta cA.f at h
 have H := h
 clear h
 by_cases c2 : b0 < (d0.length : Int)
 ·rw [Fa c2] at H
  have p0 := ya c2
  clear c2
  obtain ⟨H0, H⟩ := iD_ H
  simp only [Option.some.injEq, Prod.mk.injEq] at H
  obtain ⟨rfl, rfl, rfl⟩ := H
  obtain ⟨ASz4_0, cSz4_0, HGz4, hgz4, HSz4_0⟩ := HI0.o
  have q0 := nf HGz4
  have r0 := nc HGz4
  have v0 := nm HGz4
  have x0 := ae HGz4 1
  have y0 := ae HGz4 2
  clear HGz4 hgz4
  have f0 : 0 ≤ (b0 : Int) := oD_
  have j0 : b0 < (d0.length : Int) := oD_
  obtain ⟨k0, B0, a0⟩ := uZ HSz4_0 b0 f0 j0
  cases B0
  have hn203_0 : k0.block ≠ g := Nat.ne_of_lt (Nat.lt_of_lt_of_le (by have := World.block_lt_of_cell? _ _ a0; first | rwa [kO] at this | exact this) (bE.ge HI0.o))
  replace a0 := g8 HB.o a0
  replace a0 := (fC (p := ⟨g, 2, none⟩) (by first | (rw [kO]; exact hn203_0) | (show (Addr.add _ _).block ≠ _; rw [kO]; exact hn203_0) | exact hn203_0) (.int .i64 (wrap64 ((wrap64 (e0 * 6364136223846793005)) + 1442695040888963407)))).trans a0
  (try have n0 := fun (n_ : Nat) => (show (((w.drewN n_).setCell ⟨g, 2, none⟩ (.int .i64 (wrap64 ((wrap64 (e0 * 6364136223846793005)) + 1442695040888963407))))).cell? _ = some _ from a0))
  clear hn203_0
  replace f0 := Aa f0
  replace j0 := Aa j0
  go_enter Tryz.func44, Tryz.ntmps44
  go_wp2
  repeat (go_quiet (fail); try go_wp2)
  go_ret
  exact ⟨f1_, (u4_), (u5_ (bE.ge HI0.o)), (u6_)⟩
 rw [Ga c2] at H
 have p0 := za c2
 clear c2
 simp only [Option.some.injEq, Prod.mk.injEq] at H
 obtain ⟨rfl, rfl, rfl⟩ := H
 obtain ⟨ASz5_0, cSz5_0, HGz5, hgz5, HSz5_0⟩ := HI0.o
 have C0 := nf HGz5
 have D0 := nc HGz5
 have E0 := nm HGz5
 have F0 := ae HGz5 1
 have G0 := ae HGz5 2
 clear HGz5 hgz5
 go_enter Tryz.func44, Tryz.ntmps44
 go_wp2
 repeat (go_quiet (fail); try go_wp2)
 go_ret
 exact ⟨f1_, (u4_), (u5_ (bE.ge HI0.o)), (u6_)⟩
mutual
def bc.j0 : Nat → Int → List Int → Int → Int → Option (ByteArray × Int × Int)
 | 0, _, _, _, _ => none
 | k + 1, x1, x1000, x1001, x1002 => bc.l0 k x1 (([] : List Int)) 0 x1000 x1001 x1002
def bc.l0 : Nat → Int → List Int → Int → List Int → Int → Int → Option (ByteArray × Int × Int)
 | 0, _, _, _, _, _, _ => none
 | k + 1, x1, x5, x6, x1000, x1001, x1002 => if x6 < x1 then ((cA.f x1000 x1001 x1002).bind fun bt207 => (if x5.length < 140737488355328 then (bc.l0 k x1 (x5 ++ [(bt207.1) % 256]) (wrap64 (x6 + 1)) x1000 bt207.2.1 bt207.2.2) else (none))) else (some (strOfNums x5, x1001, x1002))
end
def bc.f (k : Nat) (s0_0 : List Int) (s0_1 : Int) (s0_2 : Int) (a1 : Int) : Option (ByteArray × Int × Int) := if a1 > 5000 then (bc.j0 k 5000 s0_0 s0_1 s0_2) else (bc.j0 k a1 s0_0 s0_1 s0_2)
theorem bc.mono_l : ∀ k, (∀ y0 y1 y2 y3, LeO (bc.j0 k y0 y1 y2 y3) (bc.j0 (k + 1) y0 y1 y2 y3)) ∧ (∀ y0 y1 y2 y3 y4 y5, LeO (bc.l0 k y0 y1 y2 y3 y4 y5) (bc.l0 (k + 1) y0 y1 y2 y3 y4 y5))
 | 0 => ⟨fun _ _ _ _ r h => by simp [bc.j0] at h, fun _ _ _ _ _ _ r h => by simp [bc.l0] at h⟩
 | k + 1 => by
  obtain ⟨ih0, ih1⟩ := bc.mono_l k
  refine ⟨?_, ?_⟩ <;> (intros; (first | unfold bc.j0 | unfold bc.l0); exact o2_ ih0 ih1)
theorem bc.mono : ∀ a0 a1 a2 a3 k, LeO (bc.f k a0 a1 a2 a3) (bc.f (k + 1) a0 a1 a2 a3) := by
 intro a0 a1 a2 a3 k
 obtain ⟨ih0, ih1⟩ := bc.mono_l k
 unfold bc.f
 exact o2_ ih0 ih1
theorem bc.calls (k : Nat) (g : Nat) (d0 : List Int) (n0 : Int) (p0 : Int) (a1 : Int) (r1 : ByteArray) (r2 : Int) (r3 : Int) (w0 w : World) (hI : bE w0 w g d0 n0 p0) (hB : Below w0.heap.size w0 w) (h : bc.f k d0 n0 p0 a1 = some (r1, r2, r3)) :
  Calls Tryz.prog 16 #[.pointer (some ⟨g, 0, none⟩), .int .i64 a1] w fun e w' => e = .returned (.string r1) ∧ bE w0 w' g d0 r2 r3 ∧ Below w0.heap.size w0 w' ∧ cC w w' g none := by
 have HI0 := c_ hI
 have HK := c_ (cC.refl w g none)
 have HL := c_ hB.size
 clear hI
 have HW0 := c_ hB.size
 have HB := c_ hB
 clear hB
 delta bc.f at h
 have H := h
 clear h
 have F0 := c_ H
 clear H
 go_enter Tryz.func16, Tryz.ntmps16
 go_upto_if 8 with (fail)
 go_cut [1] (fun v1 wc => ∃ (kq : Nat) (q0 : Int), v1 = .int .i64 q0 ∧ aa (bc.j0 kq q0 d0 n0 p0 = some (r1, r2, r3)) ∧ aa (kq ≤ k) ∧ aa (bE w0 wc g d0 n0 p0) ∧ aa (cC w wc g none) ∧ aa (Below w0.heap.size w0 wc))
 case first =>
  have H := F0.o
  clear F0
  by_cases c4 : a1 > 5000
  ·rw [Fa c4] at H
   have r0 := ya c4
   clear c4
   (first | rw [r0] | (simp only [bq, ct]; rw [r0]) | skip)
   have H' := c_ H
   clear H
   go_wp2
   go_meet
   case rel => exact ⟨_, (5000), f0_, H', ⟨by first | omega | exact Ca _⟩, ⟨(u4_)⟩, ⟨(u6_)⟩, ⟨(u5_ (bE.ge HI0.o))⟩⟩
  rw [Ga c4] at H
  have r0 := za c4
  clear c4
  (first | rw [r0] | (simp only [bq, ct]; rw [r0]) | skip)
  have H' := c_ H
  clear H
  go_wp2
  go_meet
  case rel => exact ⟨_, (a1), f0_, H', ⟨by first | omega | exact Ca _⟩, ⟨(u4_)⟩, ⟨(u6_)⟩, ⟨(u5_ (bE.ge HI0.o))⟩⟩
 clear F0
 obtain ⟨kq, q0, rfl, HA, M0, HI0, HK, HB⟩ := hcut
 rcases kq with _ | N0
 ·exact absurd HA.o (by simp [bc.j0])
 have H := HA.o
 clear HA
 simp only [bc.j0] at H
 obtain ⟨G0, e0⟩ : ∃ y_ : List Int, y_ = (([] : List Int)) := ⟨_, rfl⟩
 first | replace H := yb_ e0 H | rw [← e0] at H
 have B0 := c_ e0
 clear e0
 have H' := c_ H
 clear H
 go_wp2_with (first | (refine li_ 9 .u8 5 B0 fun Q0 w5 ho_ hb => ?_; obtain ⟨C0, HI0, HK, HB⟩ := b_ (vb ho_ (nB (w := w) (g := g) (row := none) ((u6_)))) <| b_ (bE.below ((u4_)) hb) <| b_ (cC.trans ((u6_)) (cC.of_below hb g none) (.inl rfl)) <| c_ (dF ((u5_ (bE.ge HI0.o))) hb)))
 go_loopg [5, 6] N0 (fun kq v5 v6 w' => ∃ (v0 : List Int) (x0 : Int) (a0 : Int) (b0 : Int), v6 = .int .i64 x0 ∧ aa (bc.l0 kq q0 v0 x0 d0 a0 b0 = some (r1, r2, r3)) ∧ aa (kq ≤ N0) ∧ aa (Kd.R (Kd.int .u8) 5 w' w.heap.size (fun _ => True) v5 v0) ∧ aa (bE w0 w' g d0 a0 b0) ∧ aa (cC w w' g none) ∧ aa (Below w0.heap.size w0 w'))
 case atStart => exact ⟨(G0), (0), (n0), (p0), f0_, H', ⟨Ca _⟩, ⟨rR_ C0.o⟩, ⟨(u4_)⟩, ⟨(u6_)⟩, ⟨(u5_ (bE.ge HI0.o))⟩⟩
 clear H'
 obtain ⟨v0, x0, a0, b0, rfl, HA, O0, k0, HI0, HK, HB⟩ := hrel
 rcases gk with _ | k2
 ·exact absurd HA.o (by simp [bc.l0])
 have H := HA.o
 clear HA
 simp only [bc.l0] at H
 by_cases c7 : x0 < q0
 ·rw [Fa c7] at H
  have H0 := ya c7
  clear c7
  obtain ⟨⟨y0, I0, J0⟩, A8, H⟩ := bN_ H
  obtain ⟨c9, H⟩ := iN_ H
  have K0 := c_ c9
  clear c9
  obtain ⟨L0, f0⟩ : ∃ y_ : List Int, y_ = (v0 ++ [(y0) % 256]) := ⟨_, rfl⟩
  first | replace H := yb_ f0 H | rw [← f0] at H
  have D0 := c_ f0
  clear f0
  have H' := c_ H
  clear H
  go_wp2_with (first | (refine gr_ (k_ 17 Tryz.func44) (cA.calls g _ _ _ _ _ _ w0 _ u4_ (u5_ (bE.ge HI0.o)) A8.o) ?_; rintro e S0 ⟨rfl, hi, hb, hk⟩; refine ⟨_, rfl, ?_⟩; obtain ⟨k0, HK, HB, HI0⟩ := b_ (va (wQ (bE.apart (show bE w0 _ g d0 a0 b0 from (u4_)) (rR_ k0.o) (by decide)) hk (fun _ h => h.2)) (fun _ h => h.1)) <| b_ (cC.trans ((u6_)) hk (.inl rfl)) <| b_ (hb) <| c_ (hi); (try clear hi)) | ((refine cH (b := .append) (xs := #[.tmp 15, .tmp 19]) rfl ?_); at_builtin; refine vU (Kd.int .u8) w.heap.size rfl (.tmp 15) (.tmp 19) 22 5 (.int .u8 0) 1 rfl Tryz.underlying22 jq rfl (by decide) (by omega) u5 v0 ((y0) % 256) [.int .u8 ((y0) % 256)] (fun _ => True) (fun _ => False) rfl rfl ?aP (fun _ hk => hk.elim) ?aF ?aO (Da _ _) ?aS ?aL ?_; (case aP => exact rfl); (case aF => exact (fun _ _ => trivial)); (case aO => exact (rR_ k0.o)); (case aS => exact (nB (w := w) (g := g) (row := none) ((u6_)))); (case aL => have := K0.o; omega); intro R0 T0 ho hb hg hat; rw [← D0.o] at ho; obtain ⟨HI0, HB, HK, E0⟩ := b_ (bE.grown ((u4_)) hg (bE.own_ne HI0.o k0.o (by decide))) <| b_ (nO ((u5_ (bE.ge HI0.o))) HL.o hb) <| b_ (cC.trans ((u6_)) (cC.of_grown hg g) (wH k0.o)) <| c_ (ho); clear ho hb hg hat))
  go_roundg k2
  case measure => have := M0.o; have := O0.o; omega
  case rel => exact ⟨(L0), (wrap64 (x0 + 1)), (I0), (J0), f0_, H', ⟨by have := M0.o; have := O0.o; omega⟩, ⟨rR_ E0.o⟩, ⟨(u4_)⟩, ⟨(u6_)⟩, ⟨(u5_ (bE.ge HI0.o))⟩⟩
 rw [Ga c7] at H
 have H0 := za c7
 clear c7
 simp only [Option.some.injEq, Prod.mk.injEq] at H
 obtain ⟨rfl, rfl, rfl⟩ := H
 have P0 := dS (P := Tryz.prog) Tryz.underlying22 Tryz.underlying5 Tryz.underlying9 (vn k0.o)
 go_wp2
 go_ret
 exact ⟨f1_, (u4_), (u5_ (bE.ge HI0.o)), (u6_)⟩
def dy.f (s0_0 : List Int) (s0_1 : Int) (s0_2 : Int) (a1 : Int) : Option (Int × Int × Int) := if a1 ≤ 0 then (some (0, s0_1, s0_2)) else (if a1 ≤ 256 then ((cA.f s0_0 s0_1 s0_2).bind fun bt213 => (if a1 = 0 then (none) else (some (Int.tmod bt213.1 a1, bt213.2.1, bt213.2.2)))) else ((cA.f s0_0 s0_1 s0_2).bind fun bt216 => ((cA.f s0_0 bt216.2.1 bt216.2.2).bind fun bt219 => ((cA.f s0_0 bt219.2.1 bt219.2.2).bind fun bt222 => ((cA.f s0_0 bt222.2.1 bt222.2.2).bind fun bt225 => (if a1 = 0 then (none) else (some (Int.tmod (wrap64 ((wrap64 ((wrap64 ((wrap64 (bt216.1 * 16777216)) + (wrap64 (bt219.1 * 65536)))) + (wrap64 (bt222.1 * 256)))) + bt225.1)) a1, bt225.2.1, bt225.2.2))))))))
theorem dy.calls (g : Nat) (a0 : List Int) (b0 : Int) (d0 : Int) (a1 : Int) (r1 : Int) (r2 : Int) (r3 : Int) (w0 w : World) (hI : bE w0 w g a0 b0 d0) (hB : Below w0.heap.size w0 w) (h : dy.f a0 b0 d0 a1 = some (r1, r2, r3)) :
  Calls Tryz.prog 17 #[.pointer (some ⟨g, 0, none⟩), .int .i64 a1] w fun e w' => e = .returned (.int .i64 r1) ∧ bE w0 w' g a0 r2 r3 ∧ Below w0.heap.size w0 w' ∧ cC w w' g none := by
 have HI0 := c_ hI
 have HK := c_ (cC.refl w g none)
 have HL := c_ hB.size
 clear hI
 have HW0 := c_ hB.size
 have HB := c_ hB
 clear hB
 delta dy.f at h
 have H := h
 clear h
 by_cases c3 : a1 ≤ 0
 ·rw [Fa c3] at H
  have f0 := ya c3
  clear c3
  simp only [Option.some.injEq, Prod.mk.injEq] at H
  obtain ⟨rfl, rfl, rfl⟩ := H
  go_enter Tryz.func17, Tryz.ntmps17
  go_wp2
  go_ret
  exact ⟨f1_, (u4_), (u5_ (bE.ge HI0.o)), (u6_)⟩
 rw [Ga c3] at H
 have f0 := za c3
 clear c3
 by_cases c4 : a1 ≤ 256
 ·rw [Fa c4] at H
  have j0 := ya c4
  clear c4
  obtain ⟨⟨p0, q0, r0⟩, A5, H⟩ := bN_ H
  by_cases c6 : a1 = 0
  ·rw [Fa c6] at H
   exact absurd H (by simp)
  rw [Ga c6] at H
  have v0 : (a1 == 0) = false := beq_eq_false_iff_ne.mpr c6
  have x0 : (a1 != 0) = true := bne_iff_ne.mpr c6
  simp only [Option.some.injEq, Prod.mk.injEq] at H
  obtain ⟨rfl, rfl, rfl⟩ := H
  go_enter Tryz.func17, Tryz.ntmps17
  go_wp2_with (first | (refine gr_ (k_ 14 Tryz.func44) (cA.calls g _ _ _ _ _ _ w0 _ u4_ (u5_ (bE.ge HI0.o)) A5.o) ?_; rintro e w7 ⟨rfl, hi, hb, hk⟩; refine ⟨_, rfl, ?_⟩; obtain ⟨HK, HB, HI0⟩ := b_ (cC.trans ((u6_)) hk (.inl rfl)) <| b_ (hb) <| c_ (hi); (try clear hi)))
  go_ret
  exact ⟨f1_, (u4_), (u5_ (bE.ge HI0.o)), (u6_)⟩
 rw [Ga c4] at H
 have j0 := za c4
 clear c4
 obtain ⟨⟨y0, B0, C0⟩, A8, H⟩ := bN_ H
 obtain ⟨⟨D0, E0, F0⟩, A9, H⟩ := bN_ H
 obtain ⟨⟨G0, H0, I0⟩, J0, H⟩ := bN_ H
 obtain ⟨⟨K0, L0, M0⟩, N0, H⟩ := bN_ H
 by_cases e0 : a1 = 0
 ·rw [Fa e0] at H
  exact absurd H (by simp)
 rw [Ga e0] at H
 have k0 : (a1 == 0) = false := beq_eq_false_iff_ne.mpr e0
 have n0 : (a1 != 0) = true := bne_iff_ne.mpr e0
 simp only [Option.some.injEq, Prod.mk.injEq] at H
 obtain ⟨rfl, rfl, rfl⟩ := H
 go_enter Tryz.func17, Tryz.ntmps17
 go_wp2_with (first | (refine gr_ (k_ 18 Tryz.func44) (cA.calls g _ _ _ _ _ _ w0 _ u4_ (u5_ (bE.ge HI0.o)) A8.o) ?_; rintro e O0 ⟨rfl, hi, hb, hk⟩; refine ⟨_, rfl, ?_⟩; obtain ⟨HK, HB, HI0⟩ := b_ (cC.trans ((u6_)) hk (.inl rfl)) <| b_ (hb) <| c_ (hi); (try clear hi)) | (refine gr_ (k_ 20 Tryz.func44) (cA.calls g _ _ _ _ _ _ w0 _ u4_ (u5_ (bE.ge HI0.o)) A9.o) ?_; rintro e P0 ⟨rfl, hi, hb, hk⟩; refine ⟨_, rfl, ?_⟩; obtain ⟨HK, HB, HI0⟩ := b_ (cC.trans ((u6_)) hk (.inl rfl)) <| b_ (hb) <| c_ (hi); (try clear hi)) | (refine gr_ (k_ 22 Tryz.func44) (cA.calls g _ _ _ _ _ _ w0 _ u4_ (u5_ (bE.ge HI0.o)) J0.o) ?_; rintro e Q0 ⟨rfl, hi, hb, hk⟩; refine ⟨_, rfl, ?_⟩; obtain ⟨HK, HB, HI0⟩ := b_ (cC.trans ((u6_)) hk (.inl rfl)) <| b_ (hb) <| c_ (hi); (try clear hi)) | (refine gr_ (k_ 24 Tryz.func44) (cA.calls g _ _ _ _ _ _ w0 _ u4_ (u5_ (bE.ge HI0.o)) N0.o) ?_; rintro e R0 ⟨rfl, hi, hb, hk⟩; refine ⟨_, rfl, ?_⟩; obtain ⟨HK, HB, HI0⟩ := b_ (cC.trans ((u6_)) hk (.inl rfl)) <| b_ (hb) <| c_ (hi); (try clear hi)))
 go_ret
 exact ⟨f1_, (u4_), (u5_ (bE.ge HI0.o)), (u6_)⟩
def dB.f (a0 : Int) (a1 : Int) : Option (Int) := if 0 ≤ (Go.bits .and .u64 (IntKind.u64.wrap (a1)) 31) then (if 0 ≤ (IntKind.u64.wrap (32 - (Go.bits .and .u64 (IntKind.u64.wrap (a1)) 31))) then (some (Go.bits .or .u32 (shl .u32 a0 (Go.bits .and .u64 (IntKind.u64.wrap (a1)) 31)) (shr .u32 a0 (IntKind.u64.wrap (32 - (Go.bits .and .u64 (IntKind.u64.wrap (a1)) 31)))))) else (none)) else (none)
theorem dB.calls (a0 : Int) (a1 : Int) (r : Int) (w : World) (h : dB.f a0 a1 = some r) :
  Calls Tryz.prog 111 #[.int .u32 a0, .int .i64 a1] w fun e w' => e = .returned (.int .u32 r) ∧ cr w w' := by
 delta dB.f at h
 have H := h
 clear h
 obtain ⟨e0, f0⟩ : ∃ j_ : Int, (Go.bits .and .u64 (IntKind.u64.wrap (a1)) 31) = j_ := ⟨_, rfl⟩
 first | rw [f0] at H | simp only [f0] at H
 obtain ⟨c4, H⟩ := iN_ H
 have y0 := Aa c4
 have B0 := ya c4
 clear c4
 obtain ⟨p0, b0⟩ : ∃ j_ : Int, (shl .u32 a0 (e0)) = j_ := ⟨_, rfl⟩
 first | rw [b0] at H | simp only [b0] at H
 have k0 : (IntKind.u32.wrap (a0 * 2 ^ min (e0).toNat 32)) = p0 := b0
 have n0 : (e0) ≤ 32 → (IntKind.u32.wrap (a0 * 2 ^ (e0).toNat)) = p0 := fA b0
 have hji5k : ((a0 * 2 ^ min (e0).toNat 32) % 4294967296) = p0 := (IntKind.wrap_u32 _).symm.trans k0
 have hji5n : (e0) ≤ 32 → ((a0 * 2 ^ (e0).toNat) % 4294967296) = p0 := fun h_ => (IntKind.wrap_u32 _).symm.trans (n0 h_)
 obtain ⟨q0, j0⟩ : ∃ j_ : Int, (IntKind.u64.wrap (32 - (e0))) = j_ := ⟨_, rfl⟩
 first | rw [j0] at H | simp only [j0] at H
 obtain ⟨c7, H⟩ := iN_ H
 have C0 := Aa c7
 have D0 := ya c7
 clear c7
 obtain ⟨r0, d0⟩ : ∃ j_ : Int, (shr .u32 a0 (q0)) = j_ := ⟨_, rfl⟩
 first | rw [d0] at H | simp only [d0] at H
 have v0 : (a0 / 2 ^ min (q0).toNat 32) = r0 := d0
 have x0 : (q0) ≤ 32 → (a0 / 2 ^ (q0).toNat) = r0 := gf d0
 obtain rfl := Ba H
 go_enter Tryz.func111, Tryz.ntmps111
 go_wp2
 go_ret
 exact ⟨by first | rfl | (simp; done) | (simp only [← f0, ← b0, ← j0, ← d0] <;> (first | rfl | simp)) | (simp [*]; done), d0_⟩
def cn.f (a0 : Int) (a1 : Int) : Option (Int) := (dB.f a0 (wrap64 (-a1))).bind fun t246 => (some t246)
theorem cn.calls (a0 : Int) (a1 : Int) (r : Int) (w : World) (h : cn.f a0 a1 = some r) :
  Calls Tryz.prog 105 #[.int .u32 a0, .int .i64 a1] w fun e w' => e = .returned (.int .u32 r) ∧ cr w w' := by
 delta cn.f at h
 have H := h
 clear h
 obtain ⟨b0, A3, H⟩ := bN_ H
 obtain rfl := Ba H
 go_enter Tryz.func105, Tryz.ntmps105
 go_wp2_with (first | (refine gp_ (k_ 8 Tryz.func111) (dB.calls _ _ _ _ A3.o) fun nd => ?_))
 go_ret
 exact ⟨f0_, d0_⟩
-- NOT PRINTED: function 104 (b8)
-- NOT PRINTED: function 82 (cB)
-- NOT PRINTED: function 45 (kY)
-- NOT PRINTED: function 46 (bU)
def fm.f (a0 : Int) : Option (ByteArray) := if 0 ≤ a0 then (if (a0 : Int).toNat ≤ 281474976710656 then (some (strOfNums (List.replicate (a0 : Int).toNat 0))) else (none)) else (none)
theorem fm.calls (a0 : Int) (r : ByteArray) (w : World) (h : fm.f a0 = some r) :
  Calls Tryz.prog 83 #[.int .i64 a0] w fun e w' => e = .returned (.string r) ∧ Below w.heap.size w w' := by
 have HB := c_ (Da w.heap.size w)
 delta fm.f at h
 have H := h
 clear h
 obtain ⟨c2, H⟩ := iN_ H
 have j0 := Aa c2
 have k0 := ya c2
 clear c2
 obtain ⟨c3, H⟩ := iN_ H
 have n0 := Aa c3
 have p0 := ya c3
 clear c3
 obtain ⟨q0, b0⟩ : ∃ y_ : List Int, y_ = (List.replicate (a0 : Int).toNat 0) := ⟨_, rfl⟩
 first | replace H := yb_ b0 H | rw [← b0] at H
 have d0 := c_ b0
 clear b0
 obtain rfl := Ba H
 go_enter Tryz.func83, Tryz.ntmps83
 go_wp2_with (first | ((refine cO (N := 4) rfl ?_); refine vu (Kd.int .u8) _ 5 rfl (N := 4) rfl 22 _ _ rfl a0 rfl rfl Tryz.underlying22 (.int .u8 0) 1 jq rfl (by decide) (by omega) 0 (ok := fun _ => True) (okp := fun _ => True) rfl (fun _ hk => hk) trivial oD_ (Nat.le_trans (Nat.mul_le_mul_right _ (oD_ : a0.toNat ≤ 281474976710656)) (by omega)) (Da _ _) (Ca _) ?_; intro r0 w4 e0 hb hg_ hnew_; clear hg_ hnew_; (first | rw [← d0.o] at e0 | (simp only [Int.reduceToNat] at e0; rw [← d0.o] at e0)); obtain ⟨f0, HB⟩ := b_ (vb e0 (au (hB_))) <| sB_; clear hb e0; have v0 := dS (P := Tryz.prog) Tryz.underlying22 Tryz.underlying5 Tryz.underlying9 (vn f0.o)))
 go_ret
 exact ⟨f1_, hB_⟩
def cZ.f (a0 : Int) : Option (ByteArray) := some (strOfNums (([(a0 / 16777216) % 256, (a0 / 65536) % 256, (a0 / 256) % 256, (a0) % 256] : List Int)))
theorem cZ.calls (a0 : Int) (r : ByteArray) (w : World) (h : cZ.f a0 = some r) :
  Calls Tryz.prog 85 #[.int .u32 a0] w fun e w' => e = .returned (.string r) ∧ Below w.heap.size w w' := by
 have HB := c_ (Da w.heap.size w)
 delta cZ.f at h
 have H := h
 clear h
 obtain ⟨f0, b0⟩ : ∃ y_ : List Int, y_ = (([(a0 / 16777216) % 256, (a0 / 65536) % 256, (a0 / 256) % 256, (a0) % 256] : List Int)) := ⟨_, rfl⟩
 first | replace H := yb_ b0 H | rw [← b0] at H
 have d0 := c_ b0
 clear b0
 obtain rfl := Ba H
 go_enter Tryz.func85, Tryz.ntmps85
 go_wp2_with (first | (refine lj_ 14 .u8 5 d0 fun j0 w2 e0 HB => ?_; have k0 := dS (P := Tryz.prog) Tryz.underlying22 Tryz.underlying5 Tryz.underlying9 (vn e0.o)))
 go_ret
 exact ⟨f1_, hB_⟩
def dV.f (a0 : Int) : Option (ByteArray) := (cZ.f ((a0 / 4294967296) % 4294967296)).bind fun t253 => ((cZ.f ((a0) % 4294967296)).bind fun t254 => (if t253.size + t254.size ≤ 9223372036854775807 then (some (t253 ++ t254)) else (none)))
theorem dV.calls (a0 : Int) (r : ByteArray) (w : World) (h : dV.f a0 = some r) :
  Calls Tryz.prog 84 #[.int .i64 a0] w fun e w' => e = .returned (.string r) ∧ Below w.heap.size w w' := by
 have HB := c_ (Da w.heap.size w)
 delta dV.f at h
 have H := h
 clear h
 obtain ⟨b0, A2, H⟩ := bN_ H
 obtain ⟨d0, A3, H⟩ := bN_ H
 obtain ⟨c4, H⟩ := iN_ H
 have e0 := Aa c4
 have f0 := ya c4
 try have j0 : (9223372036854775807 < b0.size + d0.size) = False := eq_false (Nat.not_lt.2 c4)
 obtain rfl := Ba H
 go_enter Tryz.func84, Tryz.ntmps84
 go_wp2_with (first | (refine gb_ (k_ 6 Tryz.func85) (cZ.calls _ _ _ A2.o) fun w5 HB => ?_) | (refine gb_ (k_ 9 Tryz.func85) (cZ.calls _ _ _ A3.o) fun w6 HB => ?_))
 go_ret
 exact ⟨f1_, hB_⟩
def eO.f (a0 : Int) : Option (ByteArray) := (fm.f (Int.tmod (wrap64 (119 - (Int.tmod a0 64))) 64)).bind fun t255 => (if 1 + t255.size ≤ 9223372036854775807 then ((dV.f (wrap64 (8 * a0))).bind fun t256 => (if ((⟨#[128]⟩ : ByteArray) ++ t255).size + t256.size ≤ 9223372036854775807 then (some (((⟨#[128]⟩ : ByteArray) ++ t255) ++ t256)) else (none))) else (none))
theorem eO.calls (a0 : Int) (r : ByteArray) (w : World) (h : eO.f a0 = some r) :
  Calls Tryz.prog 47 #[.int .i64 a0] w fun e w' => e = .returned (.string r) ∧ Below w.heap.size w w' := by
 have HB := c_ (Da w.heap.size w)
 delta eO.f at h
 have H := h
 clear h
 obtain ⟨b0, A2, H⟩ := bN_ H
 obtain ⟨c3, H⟩ := iN_ H
 have f0 := Aa c3
 have j0 := ya c3
 try have k0 : (9223372036854775807 < 1 + b0.size) = False := eq_false (Nat.not_lt.2 c3)
 obtain ⟨d0, A4, H⟩ := bN_ H
 obtain ⟨c5, H⟩ := iN_ H
 have n0 := Aa c5
 have p0 := ya c5
 try have e0 : (9223372036854775807 < ((⟨#[128]⟩ : ByteArray) ++ b0).size + d0.size) = False := eq_false (Nat.not_lt.2 c5)
 try have q0 : (9223372036854775807 < 1 + b0.size + d0.size) = False := (show ((⟨#[128]⟩ : ByteArray) ++ b0).size = 1 + b0.size from (by rw [ByteArray.size_append]; rfl)) ▸ e0
 obtain rfl := Ba H
 go_enter Tryz.func47, Tryz.ntmps47
 go_wp2_with (first | (refine gb_ (k_ 7 Tryz.func83) (fm.calls _ _ _ A2.o) fun w6 HB => ?_) | (refine gb_ (k_ 11 Tryz.func84) (dV.calls _ _ _ A4.o) fun w7 HB => ?_))
 go_ret
 exact ⟨f1_, hB_⟩
-- NOT PRINTED: function 48 (bX)
-- GIVEN: function 18 (bM)
def b7.f (a0 : Int) (a1 : Int) (a2 : Int) : Option (Bool) := if a0 ≥ a1 then (some (decide (a0 ≤ a2))) else (some false)
theorem b7.calls (a0 : Int) (a1 : Int) (a2 : Int) (r : Bool) (w : World) (h : b7.f a0 a1 a2 = some r) :
  Calls Tryz.prog 92 #[.int .i64 a0, .int .i64 a1, .int .i64 a2] w fun e w' => e = .returned (.bool r) ∧ cr w w' := by
 delta b7.f at h
 have H := h
 clear h
 by_cases c4 : a0 ≥ a1
 ·rw [Fa c4] at H
  have b0 := ya c4
  clear c4
  obtain rfl := Ba H
  go_enter Tryz.func92, Tryz.ntmps92
  go_wp2
  go_ret
  exact ⟨f0_, d0_⟩
 rw [Ga c4] at H
 have b0 := za c4
 clear c4
 obtain rfl := Ba H
 go_enter Tryz.func92, Tryz.ntmps92
 go_wp2
 go_ret
 exact ⟨f0_, d0_⟩
def ap.l0 : Nat → List Int → List Int → Int → Int → Option (Bool)
 | 0, _, _, _, _ => none
 | k + 1, x0, x5, x6, x7 => if x7 < x6 then (if 0 ≤ x7 then (if x7 < (x5.length : Int) then ((b7.f (rd x5 x7) 0 3328).bind fun t258 => (if t258 = true then (ap.l0 k x0 x5 x6 (wrap64 (x7 + 1))) else (some false))) else (none)) else (none)) else (some ((x0.length : Int) == 256))
def ap.f (k : Nat) (l0 : List Int) : Option (Bool) := ap.l0 k l0 l0 (l0.length : Int) 0
theorem ap.mono_l : ∀ k, (∀ y0 y1 y2 y3, LeO (ap.l0 k y0 y1 y2 y3) (ap.l0 (k + 1) y0 y1 y2 y3))
 | 0 => fun _ _ _ _ r h => by simp [ap.l0] at h
 | k + 1 => by
  have ih0 := ap.mono_l k
  intros; unfold ap.l0; exact o1_ ih0
theorem ap.mono : ∀ a0 k, LeO (ap.f k a0) (ap.f (k + 1) a0) := by
 intro a0 k
 have ih0 := ap.mono_l k
 unfold ap.f
 exact o1_ ih0
theorem ap.calls (k : Nat) (A0 : Option Addr) (c0 : Nat) (l0 : List Int) (r : Bool) (w : World) (hr0 : Kd.C (Kd.int .i64) w A0 l0.length l0) (hc0 : l0.length ≤ c0) (h : ap.f k l0 = some r) :
  Calls Tryz.prog 51 #[.slice A0 l0.length c0] w fun e w' => e = .returned (.bool r) ∧ cr w w' := by
 have p0 := c_ hr0
 have x0 := c_ hc0
 clear hr0 hc0
 delta ap.f at h
 have H := h
 clear h
 have H' := c_ H
 clear H
 go_enter Tryz.func51, Tryz.ntmps51
 go_wp2
 go_loopg [7] k (fun kq v7 w' => ∃ (a0 : Int), v7 = .int .i64 a0 ∧ aa (ap.l0 kq l0 l0 (l0.length : Int) a0 = some r) ∧ aa (kq ≤ k) ∧ cr w w')
 case atStart => exact ⟨(0), f0_, H', ⟨Ca _⟩, d0_⟩
 clear H'
 obtain ⟨a0, rfl, HA, q0, ⟨m1, rfl⟩⟩ := hrel
 rcases gk with _ | k1
 ·exact absurd HA.o (by simp [ap.l0])
 have H := HA.o
 clear HA
 simp only [ap.l0] at H
 by_cases c2 : a0 < (l0.length : Int)
 rotate_left
 ·rw [Ga c2] at H
  have k0 := za c2
  clear c2
  obtain rfl := Ba H
  go_wp2
  go_ret
  exact ⟨f0_, d0_⟩
 rw [Fa c2] at H
 have k0 := ya c2
 clear c2
 obtain ⟨r0, H⟩ := iD_ H
 obtain ⟨v0, H⟩ := iD_ H
 obtain ⟨n0, A5, H⟩ := bN_ H
 by_cases c6 : n0 = true
 ·subst c6
  replace H := iT_ H
  have H' := c_ H
  clear H
  have b0 : 0 ≤ (a0 : Int) := oD_
  have d0 : a0 < (l0.length : Int) := oD_
  obtain ⟨j0, f0, e0⟩ := uZ p0.o a0 b0 d0
  cases f0
  replace b0 := Aa b0
  replace d0 := Aa d0
  go_wp2_with (first | (refine gp_ (k_ 12 Tryz.func92) (b7.calls _ _ _ _ _ A5.o) fun nd => ?_))
  go_roundg k1
  case measure => have := q0.o; omega
  case rel => exact ⟨(wrap64 (a0 + 1)), f0_, H', ⟨by have := q0.o; omega⟩, d0_⟩
 ·replace c6 := Ea c6
  subst c6
  replace H := iF_ H
  obtain rfl := Ba H
  have b0 : 0 ≤ (a0 : Int) := oD_
  have d0 : a0 < (l0.length : Int) := oD_
  obtain ⟨j0, f0, e0⟩ := uZ p0.o a0 b0 d0
  cases f0
  replace b0 := Aa b0
  replace d0 := Aa d0
  go_wp2_with (first | (refine gp_ (k_ 12 Tryz.func92) (b7.calls _ _ _ _ _ A5.o) fun nd => ?_))
  go_ret
  exact ⟨f0_, d0_⟩
def dx.f (l0 : List Int) : Option (List Int) := if ([] : List Int).length + l0.length < 17592186044416 then (some (([] : List Int) ++ l0)) else (none)
theorem dx.calls (A0 : Option Addr) (c0 : Nat) (l0 : List Int) (r : List Int) (w : World) (hr0 : Kd.C (Kd.int .i64) w A0 l0.length l0) (hc0 : l0.length ≤ c0) (h : dx.f l0 = some r) :
  Calls Tryz.prog 86 #[.slice A0 l0.length c0] w fun e w' => ∃ f0 : Value, e = .returned (f0) ∧ Kd.R (Kd.int .i64) 3 w' w.heap.size (fun _ => True) f0 r ∧ Below w.heap.size w w' := by
 have j0 := c_ hr0
 have p0 := c_ hc0
 clear hr0 hc0
 have HB := c_ (Da w.heap.size w)
 delta dx.f at h
 have H := h
 clear h
 obtain ⟨c2, H⟩ := iN_ H
 have e0 := c_ c2
 clear c2
 obtain ⟨k0, a0⟩ : ∃ y_ : List Int, y_ = (([] : List Int) ++ l0) := ⟨_, rfl⟩
 first | replace H := yb_ a0 H | rw [← a0] at H
 have b0 := c_ a0
 clear a0
 obtain rfl := Ba H
 go_enter Tryz.func86, Tryz.ntmps86
 go_wp2_with (first | ((with_reducible refine cH (b := .append) (xs := #[.const (.slice none 0 0), .tmp 3]) rfl ?_); at_builtin; refine vv (Kd.int .i64) (w0 := w) w.heap.size rfl (.const (.slice none 0 0)) (.tmp 3) 45 3 (.int .i64 0) 8 rfl Tryz.underlying45 df rfl (by decide) (by omega) (.slice none 0 0) ([] : List Int) l0 _ _ _ (fun _ => True) (fun _ => False) rfl rfl ?aO ?aR (fun _ _ h => h) (fun _ h => h.elim) ?aF ?aB ?aS ?aL ?_; (case aR => exact cR_ j0.o); (case aB => exact (hB_)); (case aF => exact (fun _ _ => trivial)); (case aO => exact ((vB _ _ _ _ (fun _ => True)))); (case aS => exact (au (hB_))); (case aL => have := e0.o; omega); intro n0 w3 ho hb hg hat; rw [← b0.o] at ho; obtain ⟨HB, d0⟩ := b_ (hb) <| c_ (ho); clear ho hb hg hat))
 go_ret
 exact ⟨_, f1_, rR_ d0.o, hB_⟩
def cd.f (a0 : Int) : Option (Int) := some (Int.tmod (wrap64 ((Int.tmod a0 3329) + 3329)) 3329)
theorem cd.calls (a0 : Int) (r : Int) (w : World) (h : cd.f a0 = some r) :
  Calls Tryz.prog 89 #[.int .i64 a0] w fun e w' => e = .returned (.int .i64 r) ∧ cr w w' := by
 delta cd.f at h
 have H := h
 clear h
 obtain rfl := Ba H
 go_enter Tryz.func89, Tryz.ntmps89
 go_wp2
 go_ret
 exact ⟨f0_, d0_⟩
def bF.l0 : Nat → Int → Int → Int → Option (Int)
 | 0, _, _, _ => none
 | k + 1, x0, x1, x5 => if x1 > 0 then (if (Int.tmod x1 2) = 1 then (bF.l0 k (Int.tmod (wrap64 (x0 * x0)) 3329) (wrap64 (Int.tdiv x1 2)) (Int.tmod (wrap64 (x5 * x0)) 3329)) else (bF.l0 k (Int.tmod (wrap64 (x0 * x0)) 3329) (wrap64 (Int.tdiv x1 2)) x5)) else (some x5)
def bF.f (k : Nat) (a0 : Int) (a1 : Int) : Option (Int) := (b7.f a1 0 1000000000).bind fun t262 => (if t262 = true then ((cd.f a0).bind fun t263 => (bF.l0 k t263 a1 1)) else (some 0))
theorem bF.mono_l : ∀ k, (∀ y0 y1 y2, LeO (bF.l0 k y0 y1 y2) (bF.l0 (k + 1) y0 y1 y2))
 | 0 => fun _ _ _ r h => by simp [bF.l0] at h
 | k + 1 => by
  have ih0 := bF.mono_l k
  intros; unfold bF.l0; exact o1_ ih0
theorem bF.mono : ∀ a0 a1 k, LeO (bF.f k a0 a1) (bF.f (k + 1) a0 a1) := by
 intro a0 a1 k
 have ih0 := bF.mono_l k
 unfold bF.f
 exact o1_ ih0
theorem bF.calls (k : Nat) (a0 : Int) (a1 : Int) (r : Int) (w : World) (h : bF.f k a0 a1 = some r) :
  Calls Tryz.prog 87 #[.int .i64 a0, .int .i64 a1] w fun e w' => e = .returned (.int .i64 r) ∧ cr w w' := by
 delta bF.f at h
 have H := h
 clear h
 obtain ⟨j0, A3, H⟩ := bN_ H
 by_cases c4 : j0 = true
 ·subst c4
  replace H := iT_ H
  obtain ⟨k0, A5, H⟩ := bN_ H
  have H' := c_ H
  clear H
  go_enter Tryz.func87, Tryz.ntmps87
  go_wp2_with (first | (refine gp_ (k_ 7 Tryz.func92) (b7.calls _ _ _ _ _ A3.o) fun nd => ?_) | (refine gp_ (k_ 10 Tryz.func89) (cd.calls _ _ _ A5.o) fun nd => ?_))
  go_loopg [0, 1, 5] k (fun kq v0 v1 v5 w' => ∃ (d0 : Int) (b0 : Int) (e0 : Int), v0 = .int .i64 d0 ∧ v1 = .int .i64 b0 ∧ v5 = .int .i64 e0 ∧ aa (bF.l0 kq d0 b0 e0 = some r) ∧ aa (kq ≤ k) ∧ cr w w')
  case atStart => exact ⟨(k0), (a1), (1), f0_, f0_, f0_, H', ⟨Ca _⟩, d0_⟩
  clear H'
  obtain ⟨d0, b0, e0, rfl, rfl, rfl, HA, f0, ⟨m1, rfl⟩⟩ := hrel
  rcases gk with _ | k1
  ·exact absurd HA.o (by simp [bF.l0])
  have H := HA.o
  clear HA
  simp only [bF.l0] at H
  by_cases c6 : b0 > 0
  ·rw [Fa c6] at H
   have n0 := ya c6
   clear c6
   by_cases c7 : (Int.tmod b0 2) = 1
   ·rw [Fa c7] at H
    have p0 : ((Int.tmod b0 2) == 1) = true := beq_iff_eq.mpr c7
    have q0 : ((Int.tmod b0 2) != 1) = false := bne_eq_false_iff_eq.mpr c7
    clear c7
    have H' := c_ H
    clear H
    go_wp2
    go_roundg k1
    case measure => have := f0.o; omega
    case rel => exact ⟨(Int.tmod (wrap64 (d0 * d0)) 3329), (wrap64 (Int.tdiv b0 2)), (Int.tmod (wrap64 (e0 * d0)) 3329), f0_, f0_, f0_, H', ⟨by have := f0.o; omega⟩, d0_⟩
   rw [Ga c7] at H
   have p0 : ((Int.tmod b0 2) == 1) = false := beq_eq_false_iff_ne.mpr c7
   have q0 : ((Int.tmod b0 2) != 1) = true := bne_iff_ne.mpr c7
   have H' := c_ H
   clear H
   go_wp2
   go_roundg k1
   case measure => have := f0.o; omega
   case rel => exact ⟨(Int.tmod (wrap64 (d0 * d0)) 3329), (wrap64 (Int.tdiv b0 2)), (e0), f0_, f0_, f0_, H', ⟨by have := f0.o; omega⟩, d0_⟩
  rw [Ga c6] at H
  have n0 := za c6
  clear c6
  obtain rfl := Ba H
  go_wp2
  go_ret
  exact ⟨f0_, d0_⟩
 ·replace c4 := Ea c4
  subst c4
  replace H := iF_ H
  obtain rfl := Ba H
  go_enter Tryz.func87, Tryz.ntmps87
  go_wp2_with (first | (refine gp_ (k_ 7 Tryz.func92) (b7.calls _ _ _ _ _ A3.o) fun nd => ?_))
  go_ret
  exact ⟨f0_, d0_⟩
def bz.l0 : Nat → Int → Int → Int → Option (Int)
 | 0, _, _, _ => none
 | k + 1, x0, x3, x5 => if x5 < 7 then (if 0 ≤ x5 then (bz.l0 k x0 (wrap64 ((wrap64 (2 * x3)) + (Go.bits .and .i64 (shr .i64 x0 x5) 1))) (wrap64 (x5 + 1))) else (none)) else (some x3)
def bz.f (k : Nat) (a0 : Int) : Option (Int) := bz.l0 k a0 0 0
theorem bz.mono_l : ∀ k, (∀ y0 y1 y2, LeO (bz.l0 k y0 y1 y2) (bz.l0 (k + 1) y0 y1 y2))
 | 0 => fun _ _ _ r h => by simp [bz.l0] at h
 | k + 1 => by
  have ih0 := bz.mono_l k
  intros; unfold bz.l0; exact o1_ ih0
theorem bz.mono : ∀ a0 k, LeO (bz.f k a0) (bz.f (k + 1) a0) := by
 intro a0 k
 have ih0 := bz.mono_l k
 unfold bz.f
 exact o1_ ih0
theorem bz.calls (k : Nat) (a0 : Int) (r : Int) (w : World) (h : bz.f k a0 = some r) :
  Calls Tryz.prog 88 #[.int .i64 a0] w fun e w' => e = .returned (.int .i64 r) ∧ cr w w' := by
 delta bz.f at h
 have H := h
 clear h
 have H' := c_ H
 clear H
 go_enter Tryz.func88, Tryz.ntmps88
 go_wp2
 go_loopg [3, 5] k (fun kq v3 v5 w' => ∃ (e0 : Int) (b0 : Int), v3 = .int .i64 e0 ∧ v5 = .int .i64 b0 ∧ aa (bz.l0 kq a0 e0 b0 = some r) ∧ aa (kq ≤ k) ∧ cr w w')
 case atStart => exact ⟨(0), (0), f0_, f0_, H', ⟨Ca _⟩, d0_⟩
 clear H'
 obtain ⟨e0, b0, rfl, rfl, HA, k0, ⟨m1, rfl⟩⟩ := hrel
 rcases gk with _ | k1
 ·exact absurd HA.o (by simp [bz.l0])
 have H := HA.o
 clear HA
 simp only [bz.l0] at H
 by_cases c2 : b0 < 7
 ·rw [Fa c2] at H
  have f0 := ya c2
  clear c2
  obtain ⟨c3, H⟩ := iN_ H
  have q0 := Aa c3
  have r0 := ya c3
  clear c3
  obtain ⟨j0, d0⟩ : ∃ j_ : Int, (shr .i64 a0 b0) = j_ := ⟨_, rfl⟩
  first | rw [d0] at H | simp only [d0] at H
  have n0 : (a0 / 2 ^ min b0.toNat 64) = j0 := d0
  have p0 : b0 ≤ 64 → (a0 / 2 ^ b0.toNat) = j0 := gf d0
  have H' := c_ H
  clear H
  go_wp2
  go_roundg k1
  case measure => have := k0.o; omega
  case rel => exact ⟨(wrap64 ((wrap64 (2 * e0)) + (Go.bits .and .i64 (j0) 1))), (wrap64 (b0 + 1)), (by first | rfl | (simp; done) | (simp only [← d0] <;> (first | rfl | simp)) | (simp [*]; done)), f0_, H', ⟨by have := k0.o; omega⟩, d0_⟩
 rw [Ga c2] at H
 have f0 := za c2
 clear c2
 obtain rfl := Ba H
 go_wp2
 go_ret
 exact ⟨f0_, d0_⟩
theorem aI.cell_setCell_drewN (w : World) (n : Nat) (a b : Addr) (v : Value) : ((w.drewN n).setCell a v).cell? b = (w.setCell a v).cell? b := rfl
theorem aI.frozen_setCell (w : World) (a b : Addr) (v : Value) : (w.setCell a v).frozen? b = w.frozen? b := World.frozen?_setCell w a b v
attribute [local go_sem] aI.cell_setCell_drewN
mutual
def aI.l0 : Nat → List Int → Int → Int → Option (List Int)
 | 0, _, _, _ => none
 | k + 1, x3, x4, x5 => if x5 ≥ 2 then (aI.l1 k x3 x4 x5 0) else (some x3)
def aI.l1 : Nat → List Int → Int → Int → Int → Option (List Int)
 | 0, _, _, _, _ => none
 | k + 1, x3, x4, x5, x6 => if x6 < 256 then ((bz.f k x4).bind fun t268 => ((bF.f k 17 t268).bind fun t269 => (aI.l2 k x3 (wrap64 (x4 + 1)) x5 x6 t269 x6))) else (aI.l0 k x3 x4 (wrap64 (Int.tdiv x5 2)))
def aI.l2 : Nat → List Int → Int → Int → Int → Int → Int → Option (List Int)
 | 0, _, _, _, _, _, _ => none
 | k + 1, x3, x4, x5, x6, x7, x8 => if x8 < (wrap64 (x6 + x5)) then (if 0 ≤ (wrap64 (x8 + x5)) then (if (wrap64 (x8 + x5)) < (x3.length : Int) then (if 0 ≤ x8 then (if x8 < (x3.length : Int) then ((cd.f (wrap64 ((rd x3 x8) + (wrap64 (x7 * (rd x3 (wrap64 (x8 + x5)))))))).bind fun t272 => ((cd.f (wrap64 ((rd x3 x8) - (wrap64 (x7 * (rd x3 (wrap64 (x8 + x5)))))))).bind fun t274 => (aI.l2 k ((x3.set (x8 : Int).toNat t272).set ((wrap64 (x8 + x5)) : Int).toNat t274) x4 x5 x6 x7 (wrap64 (x8 + 1))))) else (none)) else (none)) else (none)) else (none)) else (aI.l1 k x3 x4 x5 (wrap64 (x6 + (wrap64 (2 * x5)))))
end
def aI.f (k : Nat) (l0 : List Int) : Option (List Int) := (ap.f k l0).bind fun t264 => (if t264 = true then ((dx.f l0).bind fun t265 => (aI.l0 k t265 1 128)) else (some ([] : List Int)))
theorem aI.mono_l : ∀ k, (∀ y0 y1 y2, LeO (aI.l0 k y0 y1 y2) (aI.l0 (k + 1) y0 y1 y2)) ∧ (∀ y0 y1 y2 y3, LeO (aI.l1 k y0 y1 y2 y3) (aI.l1 (k + 1) y0 y1 y2 y3)) ∧ (∀ y0 y1 y2 y3 y4 y5, LeO (aI.l2 k y0 y1 y2 y3 y4 y5) (aI.l2 (k + 1) y0 y1 y2 y3 y4 y5))
 | 0 => ⟨fun _ _ _ r h => by simp [aI.l0] at h, fun _ _ _ _ r h => by simp [aI.l1] at h, fun _ _ _ _ _ _ r h => by simp [aI.l2] at h⟩
 | k + 1 => by
  obtain ⟨ih0, ih1, ih2⟩ := aI.mono_l k
  refine ⟨?_, ?_, ?_⟩ <;> (intros; (first | unfold aI.l0 | unfold aI.l1 | unfold aI.l2); exact o6_ ih0 ih1 ih2 ap.mono bF.mono bz.mono)
theorem aI.mono : ∀ a0 k, LeO (aI.f k a0) (aI.f (k + 1) a0) := by
 intro a0 k
 obtain ⟨ih0, ih1, ih2⟩ := aI.mono_l k
 unfold aI.f
 exact o6_ ih0 ih1 ih2 ap.mono bF.mono bz.mono
def aI.T17 : Bool × List (List Nat × List Nat) := (true, [([], []), ([], []), ([], []), ([], []), ([], []), ([3, 4], [3, 4]), ([], []), ([], []), ([6, 7], [6, 7]), ([8], [8]), ([], []), ([9, 10], [9, 10]), ([11], [11]), ([], []), ([], []), ([13, 14], [13, 14]), ([15], [15]), ([], []), ([16, 17], [16, 17]), ([18, 12], [18]), ([0, 1, 0, 1, 6, 7, 8, 9, 10, 11, 12, 16, 19], [0, 1]), ([20, 12, 19, 0, 1, 6, 7, 8, 9, 10, 11, 12, 16, 19], [12, 20]), ([2, 5, 0, 1, 2, 3, 4, 5, 6, 7, 8, 9, 10, 11, 12, 13, 14, 15, 16, 17, 18, 19, 20, 21], [2, 5]), ([22, 19, 21, 0, 1, 2, 3, 4, 5, 6, 7, 8, 9, 10, 11, 12, 13, 14, 15, 16, 17, 18, 19, 20, 21], [19, 22])])
def aI.B17 : List Nat := [0, 0, 0, 0, 0, 24, 0, 0, 192, 448, 0, 1984, 4032, 0, 0, 24576, 57344, 0, 253952, 524224, 1048515, 2097091, 4194303, 8388607]
theorem aI.tab17 : eu .any (fu Tryz.f49 17) = aI.T17 := by kernel_rfl
theorem aI.bits17 : dd aI.T17.2 aI.B17 = true := by kernel_rfl
theorem aI.calls (k : Nat) (A0 : Option Addr) (c0 : Nat) (l0 : List Int) (r : List Int) (w : World) (hr0 : Kd.C (Kd.int .i64) w A0 l0.length l0) (hc0 : l0.length ≤ c0) (h : aI.f k l0 = some r) :
  Calls Tryz.prog 49 #[.slice A0 l0.length c0] w fun e w' => ∃ F1 : Value, e = .returned (F1) ∧ Kd.R (Kd.int .i64) 3 w' w.heap.size (fun _ => True) F1 r ∧ Below w.heap.size w w' := by
 have c1 := c_ hr0
 have e1 := c_ hc0
 clear hr0 hc0
 have HB := c_ (Da w.heap.size w)
 delta aI.f at h
 have H := h
 clear h
 obtain ⟨f1, A2, H⟩ := bN_ H
 by_cases c3 : f1 = true
 ·subst c3
  replace H := iT_ H
  obtain ⟨g1, A4, H⟩ := bN_ H
  have H' := c_ H
  clear H
  go_enter Tryz.func49, Tryz.ntmps49
  go_wp2_with (first | (refine gp_ (k_ 11 Tryz.func51) (ap.calls _ _ _ _ _ _ (cR_ c1.o) e1.o A2.o) fun nd => ?_) | (refine gR_ (k_ 14 Tryz.func86) (dx.calls _ _ _ _ _ (cR_ c1.o) e1.o A4.o) fun F0 w5 ho_ hb => ?_; obtain ⟨R0, HB⟩ := n_ (lR_ ho_) <| sB_))
  go_loopg [4, 5] k (fun kq v4 v5 w' => ∃ (C0 : List Int) (D0 : Int) (f0 : Int), v4 = .int .i64 D0 ∧ v5 = .int .i64 f0 ∧ aa (aI.l0 kq C0 D0 f0 = some r) ∧ aa (kq ≤ k) ∧ aa (Kd.R (Kd.int .i64) 3 w' w.heap.size (fun _ => True) F0 C0) ∧ aa (Below w.heap.size w w'))
  case atStart => exact ⟨(g1), (1), (128), f0_, f0_, H', ⟨Ca _⟩, ⟨rR_ R0.o⟩, ⟨hB_⟩⟩
  clear H'
  obtain ⟨C0, D0, f0, rfl, rfl, HA, O0, d0, HB⟩ := hrel
  rcases gk with _ | k1
  ·exact absurd HA.o (by simp [aI.l0])
  have H := HA.o
  clear HA
  simp only [aI.l0] at H
  by_cases c6 : f0 ≥ 2
  rotate_left
  ·rw [Ga c6] at H
   have i1 := za c6
   clear c6
   obtain rfl := Ba H
   go_wp2
   go_ret
   exact ⟨_, f1_, rR_ d0.o, hB_⟩
  rw [Fa c6] at H
  have i1 := ya c6
  clear c6
  have H' := c_ H
  clear H
  go_wp2
  go_loopg [4, 6] k1 (fun kq v4 v6 w' => ∃ (y0 : List Int) (x0 : Int) (n0 : Int), v4 = .int .i64 x0 ∧ v6 = .int .i64 n0 ∧ aa (aI.l1 kq y0 x0 f0 n0 = some r) ∧ aa (kq ≤ k1) ∧ aa (Kd.R (Kd.int .i64) 3 w' w.heap.size (fun _ => True) F0 y0) ∧ aa (Below w.heap.size w w'))
  case atStart => exact ⟨(C0), (D0), (0), f0_, f0_, H', ⟨Ca _⟩, ⟨rR_ d0.o⟩, ⟨hB_⟩⟩
  clear H'
  obtain ⟨y0, x0, n0, rfl, rfl, HA, P0, d0, HB⟩ := hrel
  rcases gk with _ | k2
  ·exact absurd HA.o (by simp [aI.l1])
  have H := HA.o
  clear HA
  simp only [aI.l1] at H
  by_cases c7 : n0 < 256
  rotate_left
  ·rw [Ga c7] at H
   have j1 := za c7
   clear c7
   have H' := c_ H
   clear H
   go_wp2
   go_roundg k2
   case measure => have := O0.o; have := P0.o; omega
   case rel => exact ⟨(y0), (x0), (wrap64 (Int.tdiv f0 2)), f0_, f0_, H', ⟨by have := O0.o; have := P0.o; omega⟩, ⟨rR_ d0.o⟩, ⟨hB_⟩⟩
  rw [Fa c7] at H
  have j1 := ya c7
  clear c7
  obtain ⟨K1, A8, H⟩ := bN_ H
  obtain ⟨B0, A9, H⟩ := bN_ H
  have H' := c_ H
  clear H
  go_wp2_with (first | (refine gp_ (k_ 26 Tryz.func88) (bz.calls _ _ _ _ A8.o) fun nd => ?_) | (refine gp_ (k_ 27 Tryz.func87) (bF.calls _ _ _ _ _ A9.o) fun nd => ?_))
  go_loopg [8] k2 (fun kq v8 w' => ∃ (b0 : List Int) (a0 : Int), v8 = .int .i64 a0 ∧ aa (aI.l2 kq b0 (wrap64 (x0 + 1)) f0 n0 B0 a0 = some r) ∧ aa (kq ≤ k2) ∧ aa (Kd.R (Kd.int .i64) 3 w' w.heap.size (fun _ => True) F0 b0) ∧ aa (Below w.heap.size w w'))
  case atStart => exact ⟨(y0), (n0), f0_, H', ⟨Ca _⟩, ⟨rR_ d0.o⟩, ⟨hB_⟩⟩
  clear H'
  obtain ⟨b0, a0, rfl, HA, b1, d0, HB⟩ := hrel
  rcases gk with _ | k3
  ·exact absurd HA.o (by simp [aI.l2])
  have H := HA.o
  clear HA
  simp only [aI.l2] at H
  by_cases Q0 : a0 < (wrap64 (n0 + f0))
  rotate_left
  ·rw [Ga Q0] at H
   have S0 := za Q0
   clear Q0
   have H' := c_ H
   clear H
   go_wp2
   go_roundg k3
   case measure => have := O0.o; have := P0.o; have := b1.o; omega
   case rel => exact ⟨(b0), ((wrap64 (x0 + 1))), (wrap64 (n0 + (wrap64 (2 * f0)))), f0_, f0_, H', ⟨by have := O0.o; have := P0.o; have := b1.o; omega⟩, ⟨rR_ d0.o⟩, ⟨hB_⟩⟩
  rw [Fa Q0] at H
  have S0 := ya Q0
  clear Q0
  obtain ⟨e0, p0⟩ : ∃ j_ : Int, (wrap64 (a0 + f0)) = j_ := ⟨_, rfl⟩
  first | rw [p0] at H | simp only [p0] at H
  have m1 : (IntKind.i64.wrap (a0 + f0)) = e0 := (bq _).trans p0
  obtain ⟨G1, H⟩ := iD_ H
  obtain ⟨H1, H⟩ := iD_ H
  obtain ⟨I1, H⟩ := iD_ H
  obtain ⟨J1, H⟩ := iD_ H
  obtain ⟨G0, L1, H⟩ := bN_ H
  obtain ⟨H0, M1, H⟩ := bN_ H
  obtain ⟨n1, q0⟩ : ∃ y_ : List Int, y_ = (b0.set (a0 : Int).toNat G0) := ⟨_, rfl⟩
  first | replace H := yb_ q0 H | rw [← q0] at H
  have T0 := c_ q0
  clear q0
  obtain ⟨p1, r0⟩ : ∃ y_ : List Int, y_ = (n1.set ((e0) : Int).toNat H0) := ⟨_, rfl⟩
  first | replace H := yb_ r0 H | rw [← r0] at H
  have U0 := c_ r0
  clear r0
  have H' := c_ H
  clear H
  obtain ⟨N1, O1, q1⟩ := uY d0.o
  subst q1
  have I0 : 0 ≤ ((e0) : Int) := oD_
  have J0 : (e0) < (b0.length : Int) := oD_
  obtain ⟨v0, r1, E0⟩ := uZ (uX d0.o).2.2 (e0) I0 J0
  cases r1
  replace I0 := Aa I0
  replace J0 := Aa J0
  try go_wp2
  obtain ⟨d0, HB⟩ := b_ (vl d0.o) <| c_ (bx HB.o)
  have K0 : 0 ≤ (a0 : Int) := oD_
  have L0 : a0 < (b0.length : Int) := oD_
  obtain ⟨V0, t1, j0⟩ := uZ (uX d0.o).2.2 a0 K0 L0
  obtain rfl : v0 = V0 := (by injection t1)
  replace K0 := Aa K0
  replace L0 := Aa L0
  have M0 : 0 ≤ (a0 : Int) := oD_
  have N0 : a0 < (b0.length : Int) := oD_
  obtain ⟨W0, y1, k0⟩ := uZ (uX d0.o).2.2 a0 M0 N0
  obtain rfl : v0 = W0 := (by injection y1)
  replace M0 := Aa M0
  replace N0 := Aa N0
  refine ej (n := 24) (S := fun w' => w'.cell? (v0.add (a0).toNat) = some (.int .i64 (rd b0 a0)) ∧ w'.cell? (v0.add (a0).toNat) = some (.int .i64 (rd b0 a0))) (ds := [21, 23]) (bb_ 24 0) (by kernel_rfl) rfl rfl ⟨j0, k0⟩ (fun hHeld => ?_); refine cK aI.tab17 aI.bits17 (fun HT_ HW_ => ?_)
  generalize wr.drew = Q1 at d0 HB j0 k0 hHeld ⊢
  refine pT_ 0 46 24 1 ?_
  refine pT_ 1 47 24 3 ?_
  refine pT_ 2 48 24 7 ?_
  refine pT_ 3 49 24 15 ?_
  refine pT_ 4 50 24 31 ?_
  refine pT_ 5 51 24 63 ?_
  refine pT_ 6 52 24 127 ?_
  refine pT_ 7 53 24 255 ?_
  refine pT_ 8 54 24 511 ?_
  refine pT_ 10 56 24 1535 ?_
  refine pT_ 13 59 24 9727 ?_
  refine pT_ 14 60 24 26111 ?_
  refine pT_ 15 61 24 58879 ?_
  refine pT_ 17 63 24 189951 ?_
  refine tS_ 9 55 (bb_ 24 190463) (bA HT_.o HW_.o (by kernel_rfl)) hHeld ?_
  refine pT_ 11 57 24 192511 ?_
  refine tS_ 16 62 (bb_ 24 258047) (bA HT_.o HW_.o (by kernel_rfl)) hHeld ?_
  refine pT_ 18 64 24 520191 ?_
  refine fB (i := 12) (N := some 58) (bb_ 24 524287) rfl rfl (cz HT_.o (by kernel_rfl)) (by decide) (fun K hK => ?_)
  refine fj Tryz.func89 (by kernel_rfl) rfl #[.int .i64 (wrap64 ((rd b0 a0) + (wrap64 (B0 * (rd b0 (e0))))))] (by rfl) rfl rfl (by (try simp only [List.map_toArray, List.map_cons, List.map_nil]); first | done | (simp only [p0]; rfl) | rfl | (simp only [List.length_drop, List.length_take]; rfl)) ?_
  with_reducible refine (cd.calls (wrap64 ((rd b0 a0) + (wrap64 (B0 * (rd b0 (e0)))))) G0 _ L1.o).mono ?_
  rintro e w' ⟨rfl, ⟨nd, rfl⟩⟩
  refine ⟨_, rfl, ?_⟩
  refine hK _ _ ⟨hHeld.1, hHeld.2⟩ (fun hHeld => ?_)
  clear hK K
  refine dH (a' := ?_) ?_ ?_
  rotate_left
  ·show Act.put _ (some 58) _ = _
   simp only [Act.put, List.setIfInBounds_toArray, List.set_cons_zero, List.set_cons_succ, bq, ct]
   rfl
  refine fB (i := 19) (N := some 65) (bb_ 24 1048575) rfl rfl (cz HT_.o (by kernel_rfl)) (by decide) (fun K hK => ?_)
  refine fj Tryz.func89 (by kernel_rfl) rfl #[.int .i64 (wrap64 ((rd b0 a0) - (wrap64 (B0 * (rd b0 (e0))))))] (by rfl) rfl rfl (by (try simp only [List.map_toArray, List.map_cons, List.map_nil]); first | done | (simp only [p0]; rfl) | rfl | (simp only [List.length_drop, List.length_take]; rfl)) ?_
  with_reducible refine (cd.calls (wrap64 ((rd b0 a0) - (wrap64 (B0 * (rd b0 (e0)))))) H0 _ M1.o).mono ?_
  rintro e w' ⟨rfl, ⟨nd, rfl⟩⟩
  refine ⟨_, rfl, ?_⟩
  have z1 : 0 ≤ (a0 : Int) := oD_
  have A1 : (a0 : Int) < ((b0.length : Int) : Int) := oD_
  obtain ⟨go18, P1, X0, Y0, gl18, cl18, HG18⟩ := vq d0.o (by omega)
  (first | cases X0 | (injection X0 with ea_ en_ ec_; (first | subst ea_ | (injection ea_ with ea_; subst ea_)); subst ec_; clear en_))
  have Z0 := c_ Y0
  have GG18 := c_ HG18
  clear Y0 gl18 HG18
  (first | simp only [cj] at E0 | skip)
  (first | simp only [cj] at j0 | skip)
  (first | simp only [cj] at k0 | skip)
  obtain ⟨B1, hf18_0⟩ := vc 0 d0.o (a0 : Int) z1 A1
  replace z1 := Aa z1
  replace A1 := Aa A1
  have HP22 := vI d0.o (a0 : Int) G0
  rw [← T0.o] at HP22
  have HQ22 := c_ HP22
  clear HP22
  have C1 : 0 ≤ ((e0) : Int) := oD_
  have D1 : ((e0) : Int) < ((b0.length : Int) : Int) := oD_
  obtain ⟨E1, hf19_0⟩ := vc 0 HQ22.o ((e0) : Int) C1 D1
  (first | simp only [aI.frozen_setCell] at hf19_0 | skip)
  replace C1 := Aa C1
  replace D1 := Aa D1
  have HP23 := vI HQ22.o ((e0) : Int) H0
  rw [← U0.o] at HP23
  have HQ23 := c_ HP23
  clear HP23
  refine hK _ _ ⟨hHeld.1, hHeld.2⟩ (fun hHeld => ?_)
  clear hK K
  refine dH (a' := ?_) ?_ ?_
  rotate_left
  ·show Act.put _ (some 65) _ = _
   simp only [Act.put, List.setIfInBounds_toArray, List.set_cons_zero, List.set_cons_succ, bq, ct]
   rfl
  refine pT_ 20 66 24 2097151 ?_
  refine gR (i := 21) (N := none) (bb_ 24 4194303) rfl rfl (cz HT_.o (by kernel_rfl)) (by decide) (fun K hK => ?_)
  refine jb (w1 := ?_) (by rfl) rfl ?_ ?_
  rotate_left
  ·go_simp
   rfl
  refine hK _ _ ?_
  clear hK K
  refine pT_ 22 67 24 8388607 ?_
  refine gR (i := 23) (N := none) (bb_ 24 16777215) rfl rfl (cz HT_.o (by kernel_rfl)) (by decide) (fun K hK => ?_)
  refine jb (w1 := ?_) (by rfl) rfl ?_ ?_
  rotate_left
  ·go_simp
   rfl
  refine hK _ _ ?_
  clear hK K
  refine fq (dA HT_.o (by kernel_rfl)) ?_
  try go_wp2
  go_roundg k3
  case measure => have := O0.o; have := P0.o; have := b1.o; omega
  case rel => exact ⟨(p1), (wrap64 (a0 + 1)), f0_, H', ⟨by have := O0.o; have := P0.o; have := b1.o; omega⟩, ⟨rR_ HQ23.o⟩, ⟨(u2_ Z0.o Z0.o)⟩⟩
 ·replace c3 := Ea c3
  subst c3
  replace H := iF_ H
  obtain rfl := Ba H
  go_enter Tryz.func49, Tryz.ntmps49
  go_wp2_with (first | (refine gp_ (k_ 11 Tryz.func51) (ap.calls _ _ _ _ _ _ (cR_ c1.o) e1.o A2.o) fun nd => ?_))
  go_ret
  exact ⟨_, f1_, by first | exact vB _ _ _ _ _ | exact Kd.N_nil _ _ _ _ _ | exact Kd.V_nil _ _ _ _ _ | exact Kd.Q_nil _ _ _ _ _ | exact vC _ _ _ _ _, hB_⟩
def bZ.l0 : Nat → List (List Int) → List (List Int) → Int → Int → Option ((List (List Int)))
 | 0, _, _, _, _ => none
 | k + 1, x3, x6, x7, x8 => if x8 < x7 then (if 0 ≤ x8 then (if x8 < (x6.length : Int) then ((aI.f k (dE x6 x8)).bind fun t278 => (if x3.length < 5864062014805 then (bZ.l0 k (x3 ++ [t278]) x6 x7 (wrap64 (x8 + 1))) else (none))) else (none)) else (none)) else (some x3)
def bZ.f (k : Nat) (l0 : List (List Int)) : Option ((List (List Int))) := bZ.l0 k ([] : List (List Int)) l0 (l0.length : Int) 0
theorem bZ.mono_l : ∀ k, (∀ y0 y1 y2 y3, LeO (bZ.l0 k y0 y1 y2 y3) (bZ.l0 (k + 1) y0 y1 y2 y3))
 | 0 => fun _ _ _ _ r h => by simp [bZ.l0] at h
 | k + 1 => by
  have ih0 := bZ.mono_l k
  intros; unfold bZ.l0; exact o2_ ih0 aI.mono
theorem bZ.mono : ∀ a0 k, LeO (bZ.f k a0) (bZ.f (k + 1) a0) := by
 intro a0 k
 have ih0 := bZ.mono_l k
 unfold bZ.f
 exact o2_ ih0 aI.mono
theorem bZ.calls (k : Nat) (A0 : Option Addr) (c0 : Nat) (l0 : List (List Int)) (r : List (List Int)) (w : World) (hr0 : Kd.C (Kd.slice 3 (Kd.int .i64)) w A0 l0.length l0) (hc0 : l0.length ≤ c0) (h : bZ.f k l0 = some r) :
  Calls Tryz.prog 19 #[.slice A0 l0.length c0] w fun e w' => ∃ I0 : Value, e = .returned (I0) ∧ Kd.S (Kd.slice 3 (Kd.int .i64)) 45 w' w.heap.size (fun _ => True) I0 r ∧ Below w.heap.size w w' := by
 have N0 := c_ hr0
 have T0 := c_ hc0
 clear hr0 hc0
 have HB := c_ (Da w.heap.size w)
 delta bZ.f at h
 have H := h
 clear h
 have H' := c_ H
 clear H
 go_enter Tryz.func19, Tryz.ntmps19
 go_wp2
 go_loopg [3, 8] k (fun kq v3 v8 w' => ∃ (k0 : List (List Int)) (a0 : Int), v8 = .int .i64 a0 ∧ aa (bZ.l0 kq k0 l0 (l0.length : Int) a0 = some r) ∧ aa (kq ≤ k) ∧ aa (Kd.S (Kd.slice 3 (Kd.int .i64)) 45 w' w.heap.size (fun _ => True) v3 k0) ∧ aa (Below w.heap.size w w'))
 case atStart => exact ⟨(([] : List (List Int))), (0), f0_, H', ⟨Ca _⟩, ⟨by first | exact vC _ _ _ _ _ | exact Kd.N_nil _ _ _ _ _ | exact Kd.V_nil _ _ _ _ _ | exact Kd.Q_nil _ _ _ _ _ | exact vB _ _ _ _ _⟩, ⟨hB_⟩⟩
 clear H'
 obtain ⟨k0, a0, rfl, HA, J0, j0, HB⟩ := hrel
 rcases gk with _ | k1
 ·exact absurd HA.o (by simp [bZ.l0])
 have H := HA.o
 clear HA
 simp only [bZ.l0] at H
 by_cases c2 : a0 < (l0.length : Int)
 rotate_left
 ·rw [Ga c2] at H
  have C0 := za c2
  clear c2
  obtain rfl := Ba H
  go_wp2
  go_ret
  exact ⟨_, f1_, by refine kS_ ?_; exact j0.o, hB_⟩
 rw [Fa c2] at H
 have C0 := ya c2
 clear c2
 obtain ⟨O0, H⟩ := iD_ H
 obtain ⟨P0, H⟩ := iD_ H
 obtain ⟨p0, A5, H⟩ := bN_ H
 obtain ⟨c6, H⟩ := iN_ H
 have D0 := c_ c6
 clear c6
 obtain ⟨E0, b0⟩ : ∃ y_ : List (List Int), y_ = (k0 ++ [p0]) := ⟨_, rfl⟩
 first | replace H := yb_ b0 H | rw [← b0] at H
 have y0 := c_ b0
 clear b0
 have H' := c_ H
 clear H
 have v0 : 0 ≤ (a0 : Int) := oD_
 have x0 : a0 < (l0.length : Int) := oD_
 obtain ⟨K0, F0, G0, H0, d0, e0, f0⟩ := kP N0.o a0 v0 x0
 cases H0
 replace d0 := hc_ d0
 have q0 := c_ f0
 have r0 := c_ e0
 clear f0 e0
 replace v0 := Aa v0
 replace x0 := Aa x0
 go_wp2_with (first | (refine gR_ (k_ 14 Tryz.func49) (aI.calls _ _ _ _ _ _ (cR_ (vf q0.o HB.o)) r0.o A5.o) fun Q0 w7 ho_ hb => ?_; obtain ⟨j0, n0, HB⟩ := n_ (dg j0) <| n_ (lR_ ho_) <| sB_; obtain ⟨L0, M0, R0⟩ := uY n0.o; subst R0) | ((refine cH (b := .append) (xs := #[.tmp 12, .tmp 15]) rfl ?_); at_builtin; refine vw (Kd.slice 3 (Kd.int .i64)) (w0 := w) w.heap.size rfl (.tmp 12) (.tmp 15) 41 45 (.slice none 0 0) 24 rfl Tryz.underlying41 gN rfl (by decide) (by omega) u3 k0 p0 [.slice L0 p0.length M0] (fun _ => True) (fun k_ => some k_ = (.slice L0 p0.length M0 : Value).ownBlock) rfl rfl ?aP (fun k_ hk_ => ((va (ok' := fun k_ => ((fun _ => True)) k_ ∧ some k_ ≠ (u3 : Value).ownBlock) (vh (n0.o) (vi j0.o) (by decide)) (fun k_ hk => ⟨trivial, hk.2⟩))).1 k_ hk_.symm) ?aF ?aO ?aB ?aS ?aL ?_; (case aP => exact vP (va (vA rfl (va (ok' := fun k_ => ((fun _ => True)) k_ ∧ some k_ ≠ (u3 : Value).ownBlock) (vh (n0.o) (vi j0.o) (by decide)) (fun k_ hk => ⟨trivial, hk.2⟩))) (fun _ h_ => h_))); (case aB => exact (hB_)); (case aF => exact (fun _ _ => trivial)); (case aO => exact (by refine kS_ ?_; exact vk j0.o (fun k_ hk => ⟨trivial, fun e_ => hk.2 e_⟩))); (case aS => exact (au (hB_))); (case aL => have := D0.o; omega); intro S0 w8 ho hb hg hat; rw [← y0.o] at ho; obtain ⟨HB, B0⟩ := b_ (hb) <| c_ (ho); clear ho hb hg hat))
 go_roundg k1
 case measure => have := J0.o; omega
 case rel => exact ⟨(E0), (wrap64 (a0 + 1)), f0_, H', ⟨by have := J0.o; omega⟩, ⟨rS_ B0.o⟩, ⟨hB_⟩⟩
def bJ.l0 : Nat → Int → Int → Int → Option (Int)
 | 0, _, _, _ => none
 | k + 1, x3, x4, x5 => if x5 < x4 then (if (wrap64 (x3 * 2)) ≥ 256 then (bJ.l0 k (Go.bits .and .i64 (Go.bits .xor .i64 (wrap64 (x3 * 2)) 113) 255) x4 (wrap64 (x5 + 1))) else (bJ.l0 k (wrap64 (x3 * 2)) x4 (wrap64 (x5 + 1)))) else (some (IntKind.u64.wrap (Go.bits .and .i64 x3 1)))
def bJ.f (k : Nat) (a0 : Int) : Option (Int) := bJ.l0 k 1 a0 0
theorem bJ.mono_l : ∀ k, (∀ y0 y1 y2, LeO (bJ.l0 k y0 y1 y2) (bJ.l0 (k + 1) y0 y1 y2))
 | 0 => fun _ _ _ r h => by simp [bJ.l0] at h
 | k + 1 => by
  have ih0 := bJ.mono_l k
  intros; unfold bJ.l0; exact o1_ ih0
theorem bJ.mono : ∀ a0 k, LeO (bJ.f k a0) (bJ.f (k + 1) a0) := by
 intro a0 k
 have ih0 := bJ.mono_l k
 unfold bJ.f
 exact o1_ ih0
theorem bJ.calls (k : Nat) (a0 : Int) (r : Int) (w : World) (h : bJ.f k a0 = some r) :
  Calls Tryz.prog 126 #[.int .i64 a0] w fun e w' => e = .returned (.int .u64 r) ∧ cr w w' := by
 delta bJ.f at h
 have H := h
 clear h
 have H' := c_ H
 clear H
 go_enter Tryz.func126, Tryz.ntmps126
 go_wp2
 go_loopg [3, 5] k (fun kq v3 v5 w' => ∃ (b0 : Int) (d0 : Int), v3 = .int .i64 b0 ∧ v5 = .int .i64 d0 ∧ aa (bJ.l0 kq b0 a0 d0 = some r) ∧ aa (kq ≤ k) ∧ cr w w')
 case atStart => exact ⟨(1), (0), f0_, f0_, H', ⟨Ca _⟩, d0_⟩
 clear H'
 obtain ⟨b0, d0, rfl, rfl, HA, e0, ⟨m1, rfl⟩⟩ := hrel
 rcases gk with _ | k1
 ·exact absurd HA.o (by simp [bJ.l0])
 have H := HA.o
 clear HA
 simp only [bJ.l0] at H
 by_cases c2 : d0 < a0
 ·rw [Fa c2] at H
  have f0 := ya c2
  clear c2
  by_cases c3 : (wrap64 (b0 * 2)) ≥ 256
  ·rw [Fa c3] at H
   have j0 := ya c3
   clear c3
   have H' := c_ H
   clear H
   go_wp2
   go_roundg k1
   case measure => have := e0.o; omega
   case rel => exact ⟨(Go.bits .and .i64 (Go.bits .xor .i64 (wrap64 (b0 * 2)) 113) 255), (wrap64 (d0 + 1)), f0_, f0_, H', ⟨by have := e0.o; omega⟩, d0_⟩
  rw [Ga c3] at H
  have j0 := za c3
  clear c3
  have H' := c_ H
  clear H
  go_wp2
  go_roundg k1
  case measure => have := e0.o; omega
  case rel => exact ⟨(wrap64 (b0 * 2)), (wrap64 (d0 + 1)), f0_, f0_, H', ⟨by have := e0.o; omega⟩, d0_⟩
 rw [Ga c2] at H
 have f0 := za c2
 clear c2
 obtain rfl := Ba H
 go_wp2
 go_ret
 exact ⟨f0_, d0_⟩
def bG.l0 : Nat → Int → Int → Int → Option (Int)
 | 0, _, _, _ => none
 | k + 1, x0, x3, x5 => if x5 < 7 then ((bJ.f k (wrap64 (x5 + (wrap64 (7 * x0))))).bind fun t284 => (if 0 ≤ x5 then (if 0 ≤ (IntKind.u64.wrap ((shl .u64 1 x5) - 1)) then (bG.l0 k x0 (Go.bits .or .u64 x3 (shl .u64 t284 (IntKind.u64.wrap ((shl .u64 1 x5) - 1)))) (wrap64 (x5 + 1))) else (none)) else (none))) else (some x3)
def bG.f (k : Nat) (a0 : Int) : Option (Int) := bG.l0 k a0 0 0
theorem bG.mono_l : ∀ k, (∀ y0 y1 y2, LeO (bG.l0 k y0 y1 y2) (bG.l0 (k + 1) y0 y1 y2))
 | 0 => fun _ _ _ r h => by simp [bG.l0] at h
 | k + 1 => by
  have ih0 := bG.mono_l k
  intros; unfold bG.l0; exact o2_ ih0 bJ.mono
theorem bG.mono : ∀ a0 k, LeO (bG.f k a0) (bG.f (k + 1) a0) := by
 intro a0 k
 have ih0 := bG.mono_l k
 unfold bG.f
 exact o2_ ih0 bJ.mono
theorem bG.calls (k : Nat) (a0 : Int) (r : Int) (w : World) (h : bG.f k a0 = some r) :
  Calls Tryz.prog 121 #[.int .i64 a0] w fun e w' => e = .returned (.int .u64 r) ∧ cr w w' := by
 delta bG.f at h
 have H := h
 clear h
 have H' := c_ H
 clear H
 go_enter Tryz.func121, Tryz.ntmps121
 go_wp2
 repeat (go_quiet (fail); try go_wp2)
 go_loopg [3, 5] k (fun kq v3 v5 w' => ∃ (f0 : Int) (b0 : Int), v3 = .int .u64 f0 ∧ v5 = .int .i64 b0 ∧ aa (bG.l0 kq a0 f0 b0 = some r) ∧ aa (kq ≤ k) ∧ cr w w')
 case atStart => exact ⟨(0), (0), f0_, f0_, H', ⟨Ca _⟩, d0_⟩
 clear H'
 obtain ⟨f0, b0, rfl, rfl, HA, y0, ⟨m1, rfl⟩⟩ := hrel
 rcases gk with _ | k1
 ·exact absurd HA.o (by simp [bG.l0])
 have H := HA.o
 clear HA
 simp only [bG.l0] at H
 by_cases c2 : b0 < 7
 rotate_left
 ·rw [Ga c2] at H
  have v0 := za c2
  clear c2
  obtain rfl := Ba H
  go_wp2
  repeat (go_quiet (fail); try go_wp2)
  go_ret
  exact ⟨f0_, d0_⟩
 rw [Fa c2] at H
 have v0 := ya c2
 clear c2
 obtain ⟨j0, A3, H⟩ := bN_ H
 obtain ⟨c4, H⟩ := iN_ H
 have D0 := Aa c4
 have E0 := ya c4
 clear c4
 obtain ⟨n0, e0⟩ : ∃ j_ : Int, (shl .u64 1 b0) = j_ := ⟨_, rfl⟩
 first | rw [e0] at H | simp only [e0] at H
 (try rw [e0] at A3)
 have p0 : (IntKind.u64.wrap (1 * 2 ^ min b0.toNat 64)) = n0 := e0
 have q0 : b0 ≤ 64 → (IntKind.u64.wrap (1 * 2 ^ b0.toNat)) = n0 := fA e0
 have hji5u : (IntKind.u64.wrap (2 ^ min b0.toNat 64)) = n0 := by have h_ := p0; rw [Int.one_mul] at h_; exact h_
 have hji5v : b0 ≤ 64 → (IntKind.u64.wrap (2 ^ b0.toNat)) = n0 := fun hle_ => by have h_ := q0 hle_; rw [Int.one_mul] at h_; exact h_
 obtain ⟨r0, k0⟩ : ∃ j_ : Int, (IntKind.u64.wrap ((n0) - 1)) = j_ := ⟨_, rfl⟩
 first | rw [k0] at H | simp only [k0] at H
 (try rw [k0] at A3)
 obtain ⟨c7, H⟩ := iN_ H
 have F0 := Aa c7
 have G0 := ya c7
 clear c7
 obtain ⟨x0, d0⟩ : ∃ j_ : Int, (shl .u64 j0 (r0)) = j_ := ⟨_, rfl⟩
 first | rw [d0] at H | simp only [d0] at H
 (try rw [d0] at A3)
 have B0 : (IntKind.u64.wrap (j0 * 2 ^ min (r0).toNat 64)) = x0 := d0
 have C0 : (r0) ≤ 64 → (IntKind.u64.wrap (j0 * 2 ^ (r0).toNat)) = x0 := fA d0
 have H' := c_ H
 clear H
 go_wp2_with (first | (go_at_call 126; refine mp_ (bJ.calls _ _ _ _ A3.o) fun nd => ?_; (try exact dD_)))
 repeat (go_quiet (first | (go_at_call 126; refine mp_ (bJ.calls _ _ _ _ A3.o) fun nd => ?_; (try exact dD_))); try go_wp2)
 go_roundg k1
 case measure => have := y0.o; omega
 case rel => exact ⟨(Go.bits .or .u64 f0 (x0)), (wrap64 (b0 + 1)), (by first | rfl | (simp; done) | (simp only [← d0] <;> (first | rfl | simp)) | (simp [*]; done)), f0_, H', ⟨by have := y0.o; omega⟩, d0_⟩
-- NOT PRINTED: function 112 (cE)
-- NOT PRINTED: function 113 (dc)
-- NOT PRINTED: function 114 (impl_lanes_text)
-- GIVEN: function 107 (dJ)
-- GIVEN: function 106 (db)
def cP.f (a0 : Int) : Option (ByteArray) := some (strOfNums (([(a0) % 256] : List Int)))
theorem cP.calls (a0 : Int) (r : ByteArray) (w : World) (h : cP.f a0 = some r) :
  Calls Tryz.prog 91 #[.int .i64 a0] w fun e w' => e = .returned (.string r) ∧ Below w.heap.size w w' := by
 have HB := c_ (Da w.heap.size w)
 delta cP.f at h
 have H := h
 clear h
 obtain ⟨f0, b0⟩ : ∃ y_ : List Int, y_ = (([(a0) % 256] : List Int)) := ⟨_, rfl⟩
 first | replace H := yb_ b0 H | rw [← b0] at H
 have d0 := c_ b0
 clear b0
 obtain rfl := Ba H
 go_enter Tryz.func91, Tryz.ntmps91
 go_wp2_with (first | (refine lj_ 5 .u8 5 d0 fun j0 w2 e0 HB => ?_; have k0 := dS (P := Tryz.prog) Tryz.underlying22 Tryz.underlying5 Tryz.underlying9 (vn e0.o)))
 go_ret
 exact ⟨f1_, hB_⟩
mutual
def aq.l0 : Nat → Int → List Int → List Int → Int → Int → Option (ByteArray)
 | 0, _, _, _, _, _ => none
 | k + 1, x1, x5, x17, x18, x19 => if x19 < x18 then (if 0 ≤ x19 then (if x19 < (x17.length : Int) then (aq.l1 k x1 x5 x19 (rd x17 x19) x17 x18 x19 x1 0) else (none)) else (none)) else (some (strOfNums x5))
def aq.l1 : Nat → Int → List Int → Int → Int → List Int → Int → Int → Int → Int → Option (ByteArray)
 | 0, _, _, _, _, _, _, _, _, _ => none
 | k + 1, x1, x5, x6, x7, x17, x18, x19, x24, x25 => if x25 < x24 then (if 0 ≤ (wrap64 (Int.tdiv (wrap64 ((wrap64 (x6 * x1)) + x25)) 8)) then (if (wrap64 (Int.tdiv (wrap64 ((wrap64 (x6 * x1)) + x25)) 8)) < (x5.length : Int) then (if 0 ≤ x25 then (if 0 ≤ (Int.tmod (wrap64 ((wrap64 (x6 * x1)) + x25)) 8) then (aq.l1 k x1 (x5.set ((wrap64 (Int.tdiv (wrap64 ((wrap64 (x6 * x1)) + x25)) 8)) : Int).toNat (Go.bits .or .u8 (rd x5 (wrap64 (Int.tdiv (wrap64 ((wrap64 (x6 * x1)) + x25)) 8))) (shl .u8 ((Go.bits .and .i64 (shr .i64 x7 x25) 1) % 256) (Int.tmod (wrap64 ((wrap64 (x6 * x1)) + x25)) 8)))) x6 x7 x17 x18 x19 x24 (wrap64 (x25 + 1))) else (none)) else (none)) else (none)) else (none)) else (aq.l0 k x1 x5 x17 x18 (wrap64 (x19 + 1)))
end
def aq.f (k : Nat) (l0 : List Int) (a1 : Int) : Option (ByteArray) := if 0 ≤ (wrap64 (Int.tdiv (wrap64 ((wrap64 ((l0.length : Int) * a1)) + 7)) 8)) then (if (wrap64 (Int.tdiv (wrap64 ((wrap64 ((l0.length : Int) * a1)) + 7)) 8) : Int).toNat ≤ 281474976710656 then (aq.l0 k a1 (List.replicate (wrap64 (Int.tdiv (wrap64 ((wrap64 ((l0.length : Int) * a1)) + 7)) 8) : Int).toNat 0) l0 (l0.length : Int) 0) else (none)) else (none)
theorem aq.mono_l : ∀ k, (∀ y0 y1 y2 y3 y4, LeO (aq.l0 k y0 y1 y2 y3 y4) (aq.l0 (k + 1) y0 y1 y2 y3 y4)) ∧ (∀ y0 y1 y2 y3 y4 y5 y6 y7 y8, LeO (aq.l1 k y0 y1 y2 y3 y4 y5 y6 y7 y8) (aq.l1 (k + 1) y0 y1 y2 y3 y4 y5 y6 y7 y8))
 | 0 => ⟨fun _ _ _ _ _ r h => by simp [aq.l0] at h, fun _ _ _ _ _ _ _ _ _ r h => by simp [aq.l1] at h⟩
 | k + 1 => by
  obtain ⟨ih0, ih1⟩ := aq.mono_l k
  refine ⟨?_, ?_⟩ <;> (intros; (first | unfold aq.l0 | unfold aq.l1); exact o2_ ih0 ih1)
theorem aq.mono : ∀ a0 a1 k, LeO (aq.f k a0 a1) (aq.f (k + 1) a0 a1) := by
 intro a0 a1 k
 obtain ⟨ih0, ih1⟩ := aq.mono_l k
 unfold aq.f
 exact o2_ ih0 ih1
def aq.T9 : Bool × List (List Nat × List Nat) := (true, [([], []), ([], []), ([1], [1]), ([0, 2], [0, 2]), ([3], [3]), ([], []), ([], []), ([5, 6], [5, 6]), ([7], [7]), ([8], [8]), ([], []), ([10], [10]), ([9, 11], [9, 11]), ([4, 12], [4, 12]), ([0, 2, 0, 1, 2, 3, 4, 5, 6, 7, 8, 9, 10, 11, 12, 13], [0, 2]), ([14, 13, 0, 1, 2, 3, 4, 5, 6, 7, 8, 9, 10, 11, 12, 13], [13, 14])])
def aq.B9 : List Nat := [0, 0, 2, 7, 15, 0, 0, 96, 224, 480, 0, 1024, 4064, 8191, 16383, 32767]
theorem aq.tab9 : eu .any (fu Tryz.f39 9) = aq.T9 := by kernel_rfl
theorem aq.bits9 : dd aq.T9.2 aq.B9 = true := by kernel_rfl
theorem aq.calls (k : Nat) (A0 : Option Addr) (c0 : Nat) (l0 : List Int) (a1 : Int) (r : ByteArray) (w : World) (hr0 : Kd.C (Kd.int .i64) w A0 l0.length l0) (hc0 : l0.length ≤ c0) (h : aq.f k l0 a1 = some r) :
  Calls Tryz.prog 39 #[.slice A0 l0.length c0, .int .i64 a1] w fun e w' => e = .returned (.string r) ∧ Below w.heap.size w w' := by
 have I1 := c_ hr0
 have T1 := c_ hc0
 clear hr0 hc0
 have HB := c_ (Da w.heap.size w)
 delta aq.f at h
 have H := h
 clear h
 obtain ⟨W0, C0⟩ : ∃ j_ : Int, (wrap64 (Int.tdiv (wrap64 ((wrap64 ((l0.length : Int) * a1)) + 7)) 8)) = j_ := ⟨_, rfl⟩
 first | rw [C0] at H | simp only [C0] at H
 have t1 : (IntKind.i64.wrap (Int.tdiv (wrap64 ((wrap64 ((l0.length : Int) * a1)) + 7)) 8)) = W0 := (bq _).trans C0
 obtain ⟨c4, H⟩ := iN_ H
 have J1 := Aa c4
 have K1 := ya c4
 clear c4
 obtain ⟨c5, H⟩ := iN_ H
 have L1 := Aa c5
 have M1 := ya c5
 clear c5
 obtain ⟨Z0, p0⟩ : ∃ y_ : List Int, y_ = (List.replicate (W0 : Int).toNat 0) := ⟨_, rfl⟩
 first | replace H := yb_ p0 H | rw [← p0] at H
 have E0 := c_ p0
 clear p0
 have H' := c_ H
 clear H
 go_enter Tryz.func39, Tryz.ntmps39
 go_wp2_with (first | ((refine cO (N := 16) rfl ?_); refine vu (Kd.int .u8) _ 5 rfl (N := 16) rfl 22 _ _ rfl W0 rfl rfl Tryz.underlying22 (.int .u8 0) 1 jq rfl (by decide) (by omega) 0 (ok := fun _ => True) (okp := fun _ => True) rfl (fun _ hk => hk) trivial oD_ (Nat.le_trans (Nat.mul_le_mul_right _ (oD_ : W0.toNat ≤ 281474976710656)) (by omega)) (Da _ _) (Ca _) ?_; intro O0 w6 P0 hb hg_ hnew_; clear hg_ hnew_; (first | rw [← E0.o] at P0 | (simp only [Int.reduceToNat] at P0; rw [← E0.o] at P0)); obtain ⟨Q0, HB⟩ := b_ (vb P0 (au (hB_))) <| sB_; clear hb P0))
 go_loopg [19] k (fun kq N1 w' => ∃ (D0 : List Int) (a0 : Int), N1 = .int .i64 a0 ∧ aa (aq.l0 kq a1 D0 l0 (l0.length : Int) a0 = some r) ∧ aa (kq ≤ k) ∧ aa (Kd.R (Kd.int .u8) 5 w' w.heap.size (fun _ => True) O0 D0) ∧ aa (Below w.heap.size w w'))
 case atStart => exact ⟨(Z0), (0), f0_, H', ⟨Ca _⟩, ⟨rR_ Q0.o⟩, ⟨hB_⟩⟩
 clear H'
 obtain ⟨D0, a0, rfl, HA, X0, e0, HB⟩ := hrel
 rcases gk with _ | k1
 ·exact absurd HA.o (by simp [aq.l0])
 have H := HA.o
 clear HA
 simp only [aq.l0] at H
 by_cases c8 : a0 < (l0.length : Int)
 rotate_left
 ·rw [Ga c8] at H
  have b1 := za c8
  clear c8
  obtain rfl := Ba H
  have y1 := dS (P := Tryz.prog) Tryz.underlying22 Tryz.underlying5 Tryz.underlying9 (vn e0.o)
  go_wp2
  go_ret
  exact ⟨by first | rfl | (simp [eN, eL] <;> rfl) | (simp only [← C0]; first | rfl | (simp [eN, eL] <;> rfl)) | (simp [*, eN, eL] <;> rfl), hB_⟩
 rw [Fa c8] at H
 have b1 := ya c8
 clear c8
 obtain ⟨O1, H⟩ := iD_ H
 obtain ⟨z1, H⟩ := iD_ H
 have H' := c_ H
 clear H
 have G0 : 0 ≤ (a0 : Int) := oD_
 have H0 : a0 < (l0.length : Int) := oD_
 obtain ⟨A1, c1, q0⟩ := uZ I1.o a0 G0 H0
 cases c1
 replace q0 := hc_ q0
 replace G0 := Aa G0
 replace H0 := Aa H0
 go_wp2
 go_loopg [25] k1 (fun kq P1 w' => ∃ (f0 : List Int) (b0 : Int), P1 = .int .i64 b0 ∧ aa (aq.l1 kq a1 f0 a0 (rd l0 a0) l0 (l0.length : Int) a0 a1 b0 = some r) ∧ aa (kq ≤ k1) ∧ aa (Kd.R (Kd.int .u8) 5 w' w.heap.size (fun _ => True) O0 f0) ∧ aa (Below w.heap.size w w'))
 case atStart => exact ⟨(D0), (0), f0_, H', ⟨Ca _⟩, ⟨rR_ e0.o⟩, ⟨hB_⟩⟩
 clear H'
 obtain ⟨f0, b0, rfl, HA, Y0, e0, HB⟩ := hrel
 rcases gk with _ | k2
 ·exact absurd HA.o (by simp [aq.l1])
 have H := HA.o
 clear HA
 simp only [aq.l1] at H
 by_cases N0 : b0 < a1
 rotate_left
 ·rw [Ga N0] at H
  have R0 := za N0
  clear N0
  have H' := c_ H
  clear H
  go_wp2
  go_roundg k2
  case measure => have := X0.o; have := Y0.o; omega
  case rel => exact ⟨(f0), (wrap64 (a0 + 1)), f0_, H', ⟨by have := X0.o; have := Y0.o; omega⟩, ⟨rR_ e0.o⟩, ⟨hB_⟩⟩
 rw [Fa N0] at H
 have R0 := ya N0
 clear N0
 obtain ⟨d0, B0⟩ : ∃ j_ : Int, (wrap64 (Int.tdiv (wrap64 ((wrap64 (a0 * a1)) + b0)) 8)) = j_ := ⟨_, rfl⟩
 first | rw [B0] at H | simp only [B0] at H
 have e1 : (IntKind.i64.wrap (Int.tdiv (wrap64 ((wrap64 (a0 * a1)) + b0)) 8)) = d0 := (bq _).trans B0
 obtain ⟨B1, H⟩ := iD_ H
 obtain ⟨C1, H⟩ := iD_ H
 obtain ⟨f1, H⟩ := iN_ H
 have D1 := Aa f1
 have E1 := ya f1
 clear f1
 obtain ⟨k0, r0⟩ : ∃ j_ : Int, (shr .i64 (rd l0 a0) b0) = j_ := ⟨_, rfl⟩
 first | rw [r0] at H | simp only [r0] at H
 have g1 : ((rd l0 a0) / 2 ^ min b0.toNat 64) = k0 := r0
 have i1 : b0 ≤ 64 → ((rd l0 a0) / 2 ^ b0.toNat) = k0 := gf r0
 obtain ⟨n0, F0⟩ : ∃ j_ : Int, (Int.tmod (wrap64 ((wrap64 (a0 * a1)) + b0)) 8) = j_ := ⟨_, rfl⟩
 first | rw [F0] at H | simp only [F0] at H
 obtain ⟨j1, H⟩ := iN_ H
 have F1 := Aa j1
 have G1 := ya j1
 clear j1
 obtain ⟨y0, v0⟩ : ∃ j_ : Int, (shl .u8 ((Go.bits .and .i64 (k0) 1) % 256) (n0)) = j_ := ⟨_, rfl⟩
 first | rw [v0] at H | simp only [v0] at H
 have I0 : (IntKind.u8.wrap (((Go.bits .and .i64 (k0) 1) % 256) * 2 ^ min (n0).toNat 8)) = y0 := v0
 have J0 : (n0) ≤ 8 → (IntKind.u8.wrap (((Go.bits .and .i64 (k0) 1) % 256) * 2 ^ (n0).toNat)) = y0 := fA v0
 have hji19k : ((((Go.bits .and .i64 (k0) 1) % 256) * 2 ^ min (n0).toNat 8) % 256) = y0 := (IntKind.wrap_u8 _).symm.trans I0
 have hji19n : (n0) ≤ 8 → ((((Go.bits .and .i64 (k0) 1) % 256) * 2 ^ (n0).toNat) % 256) = y0 := fun h_ => (IntKind.wrap_u8 _).symm.trans (J0 h_)
 obtain ⟨m1, x0⟩ : ∃ y_ : List Int, y_ = (f0.set ((d0) : Int).toNat (Go.bits .or .u8 (rd f0 (d0)) (y0))) := ⟨_, rfl⟩
 first | replace H := yb_ x0 H | rw [← x0] at H
 have S0 := c_ x0
 clear x0
 have H' := c_ H
 clear H
 try go_wp2
 obtain ⟨e0, HB⟩ := b_ (vl e0.o) <| c_ (bx HB.o)
 obtain ⟨Q1, R1, T0⟩ := uY e0.o
 (first | subst T0 | (injection T0 with f1_ f2_ f3_; have f4_ := f1_.symm; have f5_ := f3_.symm; clear f1_ f2_ f3_; subst f4_; subst f5_))
 have K0 : 0 ≤ ((d0) : Int) := oD_
 have L0 : (d0) < (f0.length : Int) := oD_
 obtain ⟨H1, n1, j0⟩ := uZ (uX e0.o).2.2 (d0) K0 L0
 cases n1
 replace K0 := Aa K0
 replace L0 := Aa L0
 have p1 : 0 ≤ ((d0) : Int) := oD_
 have q1 : ((d0) : Int) < ((f0.length : Int) : Int) := oD_
 obtain ⟨go20, S1, U0, V0, gl20, cl20, HG20⟩ := vq e0.o (by omega)
 (first | cases U0 | (injection U0 with ea_ en_ ec_; (first | subst ea_ | (injection ea_ with ea_; subst ea_)); subst ec_; clear en_))
 have r1 := c_ V0
 have GG20 := c_ HG20
 clear V0 gl20 HG20
 (first | simp only [cj] at j0 | skip)
 obtain ⟨M0, hf20_0⟩ := vc 0 e0.o ((d0) : Int) p1 q1
 replace p1 := Aa p1
 replace q1 := Aa q1
 have HP23 := vI e0.o ((d0) : Int) (Go.bits .or .u8 (rd f0 (d0)) (y0))
 rw [← S0.o] at HP23
 have HQ23 := c_ HP23
 clear HP23
 refine ej (n := 16) (S := fun w' => w'.cell? ⟨go20, ((d0)).toNat, none⟩ = some (.int .u8 (rd f0 (d0)))) (ds := [15]) (bb_ 16 0) (by kernel_rfl) rfl rfl (j0) (fun hHeld => ?_); refine cK aq.tab9 aq.bits9 (fun HT_ HW_ => ?_)
 generalize wr.drew = U1 at e0 HB GG20 HQ23 hf20_0 M0 j0 hHeld ⊢
 refine pT_ 0 33 16 1 ?_
 refine pT_ 1 34 16 3 ?_
 refine pT_ 2 35 16 7 ?_
 refine pT_ 3 36 16 15 ?_
 refine pT_ 5 38 16 47 ?_
 refine pT_ 6 39 16 111 ?_
 refine pT_ 7 40 16 239 ?_
 refine pT_ 8 41 16 495 ?_
 refine pT_ 9 42 16 1007 ?_
 refine pT_ 10 43 16 2031 ?_
 refine pT_ 11 44 16 4079 ?_
 refine pT_ 12 45 16 8175 ?_
 refine tS_ 4 37 (bb_ 16 8191) (bA HT_.o HW_.o (by kernel_rfl)) hHeld ?_
 refine pT_ 13 46 16 16383 ?_
 refine pT_ 14 47 16 32767 ?_
 refine gR (i := 15) (N := none) (bb_ 16 65535) rfl rfl (cz HT_.o (by kernel_rfl)) (by decide) (fun K hK => ?_)
 refine jb (w1 := ?_) (by rfl) rfl ?_ ?_
 rotate_left
 ·go_simp
  rfl
 refine hK _ _ ?_
 clear hK K
 refine fq (dA HT_.o (by kernel_rfl)) ?_
 try go_wp2
 (try simp only [hji19k])
 go_roundg k2
 case measure => have := X0.o; have := Y0.o; omega
 case rel => exact ⟨(m1), (wrap64 (b0 + 1)), f0_, H', ⟨by have := X0.o; have := Y0.o; omega⟩, ⟨rR_ HQ23.o⟩, ⟨hS_ r1.o⟩⟩
def cp.f (k : Nat) (l0 : List Int) : Option (ByteArray) := (ap.f k l0).bind fun t322 => (if t322 = true then ((aq.f k l0 12).bind fun t323 => (some t323)) else (some (⟨#[]⟩ : ByteArray)))
theorem cp.mono : ∀ a0 k, LeO (cp.f k a0) (cp.f (k + 1) a0) := by
 intro a0 k
 unfold cp.f
 exact o2_ ap.mono aq.mono
theorem cp.calls (k : Nat) (A0 : Option Addr) (c0 : Nat) (l0 : List Int) (r : ByteArray) (w : World) (hr0 : Kd.C (Kd.int .i64) w A0 l0.length l0) (hc0 : l0.length ≤ c0) (h : cp.f k l0 = some r) :
  Calls Tryz.prog 21 #[.slice A0 l0.length c0] w fun e w' => e = .returned (.string r) ∧ Below w.heap.size w w' := by
 have a0 := c_ hr0
 have b0 := c_ hc0
 clear hr0 hc0
 have HB := c_ (Da w.heap.size w)
 delta cp.f at h
 have H := h
 clear h
 obtain ⟨d0, A2, H⟩ := bN_ H
 by_cases c3 : d0 = true
 ·subst c3
  replace H := iT_ H
  obtain ⟨e0, A4, H⟩ := bN_ H
  obtain rfl := Ba H
  go_enter Tryz.func21, Tryz.ntmps21
  go_wp2_with (first | (refine gp_ (k_ 4 Tryz.func51) (ap.calls _ _ _ _ _ _ (cR_ a0.o) b0.o A2.o) fun nd => ?_) | (refine gb_ (k_ 7 Tryz.func39) (aq.calls _ _ _ _ _ _ _ (cR_ a0.o) b0.o A4.o) fun w5 HB => ?_))
  go_ret
  exact ⟨f1_, hB_⟩
 ·replace c3 := Ea c3
  subst c3
  replace H := iF_ H
  obtain rfl := Ba H
  go_enter Tryz.func21, Tryz.ntmps21
  go_wp2_with (first | (refine gp_ (k_ 4 Tryz.func51) (ap.calls _ _ _ _ _ _ (cR_ a0.o) b0.o A2.o) fun nd => ?_))
  go_ret
  exact ⟨f1_, hB_⟩
def en.f (a0 : Int) (a1 : Int) : Option (Int) := some (wrap64 (a0 + a1))
theorem en.calls (a0 : Int) (a1 : Int) (r : Int) (w : World) (h : en.f a0 a1 = some r) :
  Calls Tryz.prog 53 #[.int .i64 a0, .int .i64 a1] w fun e w' => e = .returned (.int .i64 r) ∧ cr w w' := by
 delta en.f at h
 have H := h
 clear h
 obtain rfl := Ba H
 go_enter Tryz.func53, Tryz.ntmps53
 go_wp2
 go_ret
 exact ⟨f0_, d0_⟩
end Go.Proofs.YtmdlpmddljbkeaaGreatDoor.P
