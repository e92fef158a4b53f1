-- printed texts of this session, regrouped
import Derived.Test.YtmdlpmddljbkeaaGreatDoorHB3
namespace Go.Proofs.YtmdlpmddljbkeaaGreatDoor.P
open Go.RowKit YtmdlpmddljbkeaaGreatDoorW.PrintWords YtmdlpmddljbkeaaGreatDoorW.PrintLast YtmdlpmddljbkeaaGreatDoorW.PrintMore
attribute [local go_sem] d3 dW eG eI dD dC dZ dY
set_option linter.unusedVariables false
set_option linter.unusedSimpArgs false
mutual
def al.j0 : Nat → Int → Bool → ByteArray → Int → Option (ByteArray × Int × ByteArray)
 | 0, _, _, _, _ => none
 | k + 1, x1, x22, x288000, x288001 => if x22 = true then (some (x288000, x288001, (⟨#[]⟩ : ByteArray))) else (al.l0 k x1 (⟨#[]⟩ : ByteArray) x288000 x288001)
def al.l0 : Nat → Int → ByteArray → ByteArray → Int → Option (ByteArray × Int × ByteArray)
 | 0, _, _, _, _ => none
 | k + 1, x1, x6, x288000, x288001 => if (x6.size : Int) < x1 then (if x288001 = 168 then ((dJ.f x288000).bind fun t291 => (if 0 ≤ (wrap64 (0 + (mn (wrap64 (x1 - (x6.size : Int))) 168))) then (if (wrap64 (0 + (mn (wrap64 (x1 - (x6.size : Int))) 168))) ≤ (t291.size : Int) then (if x6.size + (t291.extract 0 ((wrap64 (0 + (mn (wrap64 (x1 - (x6.size : Int))) 168))) : Int).toNat).size ≤ 9223372036854775807 then (al.l0 k x1 (x6 ++ (t291.extract 0 ((wrap64 (0 + (mn (wrap64 (x1 - (x6.size : Int))) 168))) : Int).toNat)) t291 (wrap64 (0 + (mn (wrap64 (x1 - (x6.size : Int))) 168)))) else (none)) else (none)) else (none))) else (if 0 ≤ x288001 then (if x288001 ≤ (wrap64 (x288001 + (mn (wrap64 (x1 - (x6.size : Int))) (wrap64 (168 - x288001))))) then (if (wrap64 (x288001 + (mn (wrap64 (x1 - (x6.size : Int))) (wrap64 (168 - x288001))))) ≤ (x288000.size : Int) then (if x6.size + (x288000.extract (x288001 : Int).toNat ((wrap64 (x288001 + (mn (wrap64 (x1 - (x6.size : Int))) (wrap64 (168 - x288001))))) : Int).toNat).size ≤ 9223372036854775807 then (al.l0 k x1 (x6 ++ (x288000.extract (x288001 : Int).toNat ((wrap64 (x288001 + (mn (wrap64 (x1 - (x6.size : Int))) (wrap64 (168 - x288001))))) : Int).toNat)) x288000 (wrap64 (x288001 + (mn (wrap64 (x1 - (x6.size : Int))) (wrap64 (168 - x288001)))))) else (none)) else (none)) else (none)) else (none))) else (some (x288000, x288001, x6))
end
def al.f (k : Nat) (a0_0 : ByteArray) (a0_1 : Int) (a1 : Int) : Option (ByteArray × Int × ByteArray) := (b7.f a1 0 4000).bind fun t289 => (if t289 = true then (if (a0_0.size : Int) = 200 then ((b7.f a0_1 0 168).bind fun t290 => (al.j0 k a1 (!t290) a0_0 a0_1)) else (al.j0 k a1 true a0_0 a0_1)) else (al.j0 k a1 true a0_0 a0_1))
theorem al.mono_l : ∀ k, (∀ y0 y1 y2 y3, LeO (al.j0 k y0 y1 y2 y3) (al.j0 (k + 1) y0 y1 y2 y3)) ∧ (∀ y0 y1 y2 y3, LeO (al.l0 k y0 y1 y2 y3) (al.l0 (k + 1) y0 y1 y2 y3))
 | 0 => ⟨fun _ _ _ _ r h => by simp [al.j0] at h, fun _ _ _ _ r h => by simp [al.l0] at h⟩
 | k + 1 => by
  obtain ⟨ih0, ih1⟩ := al.mono_l k
  refine ⟨?_, ?_⟩ <;> (intros; (first | unfold al.j0 | unfold al.l0); exact o2_ ih0 ih1)
theorem al.mono : ∀ a0 a1 a2 k, LeO (al.f k a0 a1 a2) (al.f (k + 1) a0 a1 a2) := by
 intro a0 a1 a2 k
 obtain ⟨ih0, ih1⟩ := al.mono_l k
 unfold al.f
 exact o2_ ih0 ih1
set_option maxHeartbeats 8000000 in
set_option maxRecDepth 100000 in
theorem al.calls (k : Nat) (p0 : ByteArray) (y0 : Int) (a1 : Int) (r1 : ByteArray) (r2 : Int) (r3 : ByteArray) (w : World) (h : al.f k p0 y0 a1 = some (r1, r2, r3)) :
  Calls Tryz.prog 94 #[.agg #[.string p0, .int .i64 y0], .int .i64 a1] w fun e w' => e = .returned (.tuple #[.agg #[.string r1, .int .i64 r2], .string r3]) ∧ Below w.heap.size w w' := by
 have hu96 := Tryz.underlying96
 have HB := c_ (Da w.heap.size w)
 delta al.f at h
 have H := h
 clear h
 have O1 := c_ H
 clear H
 go_enter Tryz.func94, Tryz.ntmps94
 go_upto_region 1 with (first | ((try (refine bi (by rfl) ?_; dsimp only)); refine bx_ 2 #[.string p0, .int .i64 y0] 96 fun f0 w4 hb HB b0 v0 => ?_) | ((try (refine bi (by rfl) ?_; dsimp only)); refine bq_ 4 #[.string (⟨#[]⟩ : ByteArray), .int .i64 0] 96 fun q0 w5 hg hb HB k0 x0 => ?_; obtain ⟨b0, n0, e0⟩ := n_ (fK_ b0) <| b_ (by rw [hg]; exact Nat.ne_of_lt (eq (g := f0) (o := .cells #[.string p0, .int .i64 y0] 96 (0, 0)) (rK_ b0.o)) : f0 ≠ q0) <| c_ (by rw [hg]; exact Nat.ne_of_gt (eq (g := f0) (o := .cells #[.string p0, .int .i64 y0] 96 (0, 0)) (rK_ b0.o)) : q0 ≠ f0); clear hg))
 (try simp only [Act.put, List.setIfInBounds_toArray, List.set_cons_zero, List.set_cons_succ])
 go_cut [22] (fun H2 wc => ∃ (kq : Nat) (C0 : Bool), H2 = .bool C0 ∧ aa (al.j0 kq a1 C0 p0 y0 = some (r1, r2, r3)) ∧ aa (kq ≤ k) ∧ aa (wc.heap[f0]? = some (.cells #[.string p0, .int .i64 y0] 96 (0, 0))) ∧ aa (wc.heap[q0]? = some (.cells #[.string (⟨#[]⟩ : ByteArray), .int .i64 0] 96 (0, 0))) ∧ aa (Below w.heap.size w wc))
 case first =>
  have H := O1.o
  clear O1
  obtain ⟨P1, A6, H⟩ := bN_ H
  by_cases c7 : P1 = true
  ·subst c7
   replace H := iT_ H
   by_cases c8 : (p0.size : Int) = 200
   ·rw [Fa c8] at H
    have G0 : ((p0.size : Int) == 200) = true := beq_iff_eq.mpr c8
    have Q1 : ((p0.size : Int) != 200) = false := bne_eq_false_iff_eq.mpr c8
    clear c8
    (first | rw [G0] | (simp only [bq, ct]; rw [G0]) | skip)
    obtain ⟨R1, A9, H⟩ := bN_ H
    have H' := c_ H
    clear H
    go_wp2_with (first | (refine gp_ (k_ 9 Tryz.func92) (b7.calls _ _ _ _ _ A6.o) fun nd => ?_; have hnb10 := n0.o; have hnc10 := e0.o; have Q0 : w5.cell? ⟨f0, 0, none⟩ = some (.string p0) := (ah b0.o 0).trans rfl; have R0 : w5.cell? ⟨f0, 1, none⟩ = some (.int .i64 y0) := (ah b0.o 1).trans rfl; have S0 := ae b0.o 0; have T0 := ae b0.o 1) | (go_at_call 92; refine mp_ (b7.calls _ _ _ _ _ A9.o) fun nd => ?_))
    go_meet
    case rel => exact ⟨_, (!R1), f0_, H', ⟨by first | omega | exact Ca _⟩, ⟨by refine kK_ ?_; exact b0.o⟩, ⟨by refine kK_ ?_; exact k0.o⟩, ⟨(u2_ v0.o x0.o)⟩⟩
   rw [Ga c8] at H
   have G0 : ((p0.size : Int) == 200) = false := beq_eq_false_iff_ne.mpr c8
   have Q1 : ((p0.size : Int) != 200) = true := bne_iff_ne.mpr c8
   (first | rw [G0] | (simp only [bq, ct]; rw [G0]) | skip)
   have H' := c_ H
   clear H
   go_wp2_with (first | (refine gp_ (k_ 9 Tryz.func92) (b7.calls _ _ _ _ _ A6.o) fun nd => ?_; have hnb12 := n0.o; have hnc12 := e0.o; have U0 : w5.cell? ⟨f0, 0, none⟩ = some (.string p0) := (ah b0.o 0).trans rfl; have V0 : w5.cell? ⟨f0, 1, none⟩ = some (.int .i64 y0) := (ah b0.o 1).trans rfl; have W0 := ae b0.o 0; have X0 := ae b0.o 1))
   go_meet
   case rel => exact ⟨_, (true), f0_, H', ⟨by first | omega | exact Ca _⟩, ⟨by refine kK_ ?_; exact b0.o⟩, ⟨by refine kK_ ?_; exact k0.o⟩, ⟨(u2_ v0.o x0.o)⟩⟩
  ·replace c7 := Ea c7
   subst c7
   replace H := iF_ H
   have H' := c_ H
   clear H
   go_wp2_with (first | (refine gp_ (k_ 9 Tryz.func92) (b7.calls _ _ _ _ _ A6.o) fun nd => ?_))
   go_meet
   case rel => exact ⟨_, (true), f0_, H', ⟨by first | omega | exact Ca _⟩, ⟨by refine kK_ ?_; exact b0.o⟩, ⟨by refine kK_ ?_; exact k0.o⟩, ⟨(u2_ v0.o x0.o)⟩⟩
 clear O1
 obtain ⟨kq, C0, rfl, HA, Y0, b0, k0, HB⟩ := hcut
 rcases kq with _ | f2
 ·exact absurd HA.o (by simp [al.j0])
 have H := HA.o
 clear HA
 simp only [al.j0] at H
 by_cases Z0 : C0 = true
 ·subst Z0
  replace H := iT_ H
  simp only [Option.some.injEq, Prod.mk.injEq] at H
  obtain ⟨rfl, rfl, rfl⟩ := H
  have hnb15 := n0.o
  have hnc15 := e0.o
  have b1 : wc.cell? ⟨f0, 0, none⟩ = some (.string p0) := (ah b0.o 0).trans rfl
  have c1 : wc.cell? ⟨f0, 1, none⟩ = some (.int .i64 y0) := (ah b0.o 1).trans rfl
  have e1 := ae b0.o 0
  have f1 := ae b0.o 1
  have g1 : wc.cell? ⟨q0, 0, none⟩ = some (.string (⟨#[]⟩ : ByteArray)) := (ah k0.o 0).trans rfl
  have i1 : wc.cell? ⟨q0, 1, none⟩ = some (.int .i64 0) := (ah k0.o 1).trans rfl
  have j1 := ae k0.o 0
  have l1 := ae k0.o 1
  go_wp2
  refine bodyPost_ret (fJ rfl _ _ q0 96 #[.string p0, .int .i64 y0] (0, 0) _ rfl (by refine kK_ ?_; refine bO (cs := #[.string p0, .int .i64 0]) ?_ 1 _ rfl; refine kK_ ?_; refine bO (cs := #[.string (⟨#[]⟩ : ByteArray), .int .i64 0]) ?_ 0 _ rfl; exact rK_ k0.o) Tryz.underlying96 rfl (by kernel_rfl)) rfl ?_
  exact ⟨f1_, (u2_ v0.o x0.o)⟩
 ·replace Z0 := Ea Z0
  subst Z0
  replace H := iF_ H
  have H' := c_ H
  clear H
  go_wp2
  go_loopg [6] f2 (fun kq v6 w' => ∃ (r0 : ByteArray) (d0 : ByteArray) (a0 : Int), v6 = .string r0 ∧ aa (al.l0 kq a1 r0 d0 a0 = some (r1, r2, r3)) ∧ aa (kq ≤ f2) ∧ aa (w'.heap[f0]? = some (.cells #[.string d0, .int .i64 a0] 96 (0, 0))) ∧ aa (w'.heap[q0]? = some (.cells #[.string (⟨#[]⟩ : ByteArray), .int .i64 0] 96 (0, 0))) ∧ aa (Below w.heap.size w w'))
  case atStart => exact ⟨((⟨#[]⟩ : ByteArray)), (p0), (y0), f0_, H', ⟨Ca _⟩, ⟨by refine kK_ ?_; exact b0.o⟩, ⟨by refine kK_ ?_; exact k0.o⟩, ⟨(u2_ v0.o x0.o)⟩⟩
  clear H'
  obtain ⟨r0, d0, a0, rfl, HA, m1, b0, k0, HB⟩ := hrel
  rcases gk with _ | k2
  ·exact absurd HA.o (by simp [al.l0])
  have H := HA.o
  clear HA
  simp only [al.l0] at H
  by_cases M0 : (r0.size : Int) < a1
  rotate_left
  ·rw [Ga M0] at H
   have N0 := za M0
   clear M0
   simp only [Option.some.injEq, Prod.mk.injEq] at H
   obtain ⟨rfl, rfl, rfl⟩ := H
   have hnb37 := n0.o
   have hnc37 := e0.o
   have n1 : wr.cell? ⟨f0, 0, none⟩ = some (.string d0) := (ah b0.o 0).trans rfl
   have p1 : wr.cell? ⟨f0, 1, none⟩ = some (.int .i64 a0) := (ah b0.o 1).trans rfl
   have q1 := ae b0.o 0
   have t1 := ae b0.o 1
   have y1 : wr.cell? ⟨q0, 0, none⟩ = some (.string (⟨#[]⟩ : ByteArray)) := (ah k0.o 0).trans rfl
   have z1 : wr.cell? ⟨q0, 1, none⟩ = some (.int .i64 0) := (ah k0.o 1).trans rfl
   have A1 := ae k0.o 0
   have B1 := ae k0.o 1
   go_wp2
   refine bodyPost_ret (fJ rfl _ _ q0 96 #[.string d0, .int .i64 a0] (0, 0) _ rfl (by refine kK_ ?_; refine bO (cs := #[.string d0, .int .i64 0]) ?_ 1 _ rfl; refine kK_ ?_; refine bO (cs := #[.string (⟨#[]⟩ : ByteArray), .int .i64 0]) ?_ 0 _ rfl; exact rK_ k0.o) Tryz.underlying96 rfl (by kernel_rfl)) rfl ?_
   exact ⟨f1_, (u2_ v0.o x0.o)⟩
  rw [Fa M0] at H
  have N0 := ya M0
  clear M0
  by_cases K0 : a0 = 168
  ·rw [Fa K0] at H
   have O0 : (a0 == 168) = true := beq_iff_eq.mpr K0
   have P0 : (a0 != 168) = false := bne_eq_false_iff_eq.mpr K0
   clear K0
   obtain ⟨H0, S1, H⟩ := bN_ H
   obtain ⟨I0, D0⟩ : ∃ j_ : Int, (mn (wrap64 (a1 - (r0.size : Int))) 168) = j_ := ⟨_, rfl⟩
   first | rw [D0] at H | simp only [D0] at H
   (try rw [D0] at S1)
   have T1 : (if 168 < (wrap64 (a1 - (r0.size : Int))) then 168 else (wrap64 (a1 - (r0.size : Int)))) = I0 := D0
   obtain ⟨F0, B0⟩ : ∃ j_ : Int, (wrap64 (0 + (I0))) = j_ := ⟨_, rfl⟩
   first | rw [B0] at H | simp only [B0] at H
   (try rw [B0] at S1)
   have U1 : (IntKind.i64.wrap (0 + (I0))) = F0 := (bq _).trans B0
   have L0 : (wrap64 (I0)) = F0 := by rw [← B0, Int.zero_add]
   have hji22y : IntKind.i64.wrap (I0) = F0 := (bq _).trans L0
   obtain ⟨V1, H⟩ := iN_ H
   have g2 := Aa V1
   have i2 := ya V1
   clear V1
   obtain ⟨X1, H⟩ := iN_ H
   have j2 := Aa X1
   have l2 := ya X1
   clear X1
   obtain ⟨Y1, H⟩ := iN_ H
   have m2 := Aa Y1
   have n2 := ya Y1
   try have p2 : (9223372036854775807 < r0.size + (H0.extract 0 ((F0) : Int).toNat).size) = False := eq_false (Nat.not_lt.2 Y1)
   have H' := c_ H
   clear H
   have hnb26 := n0.o
   have hnc26 := e0.o
   have C1 : wr.cell? ⟨f0, 0, none⟩ = some (.string d0) := (ah b0.o 0).trans rfl
   have D1 : wr.cell? ⟨f0, 1, none⟩ = some (.int .i64 a0) := (ah b0.o 1).trans rfl
   have E1 := ae b0.o 0
   have F1 := ae b0.o 1
   go_wp2_with (first | (refine gc_ (k_ 33 Tryz.func107) (dJ.calls _ _ _ S1.o) fun q2 hb => ?_; obtain ⟨b0, k0, HB⟩ := n_ (fK_ b0) <| n_ (fK_ k0) <| sB_; have G1 : q2.cell? ⟨f0, 0, none⟩ = some (.string d0) := (ah b0.o 0).trans rfl; have H1 : q2.cell? ⟨f0, 1, none⟩ = some (.int .i64 a0) := (ah b0.o 1).trans rfl; have I1 := ae b0.o 0; have J1 := ae b0.o 1))
   go_roundg k2
   case measure => have := Y0.o; have := m1.o; omega
   case rel => exact ⟨(r0 ++ (H0.extract 0 ((F0) : Int).toNat)), (H0), (F0), (by first | rfl | (simp; done) | (simp only [← B0] <;> (first | rfl | simp)) | (simp [*]; done)), H', ⟨by have := Y0.o; have := m1.o; omega⟩, ⟨by refine kK_ ?_; refine bO (cs := #[.string H0, .int .i64 0]) ?_ 1 _ rfl; refine kK_ ?_; refine bO (cs := #[.string H0, .int .i64 a0]) ?_ 1 _ rfl; refine kK_ ?_; refine bO (cs := #[.string d0, .int .i64 a0]) ?_ 0 _ rfl; refine kK_ ?_; exact b0.o⟩, ⟨by refine kK_ ?_; refine dr ?_ e0.o _; refine kK_ ?_; refine dr ?_ e0.o _; refine kK_ ?_; refine dr ?_ e0.o _; refine kK_ ?_; exact k0.o⟩, ⟨(u2_ v0.o x0.o)⟩⟩
  rw [Ga K0] at H
  have O0 : (a0 == 168) = false := beq_eq_false_iff_ne.mpr K0
  have P0 : (a0 != 168) = true := bne_iff_ne.mpr K0
  obtain ⟨J0, E0⟩ : ∃ j_ : Int, (mn (wrap64 (a1 - (r0.size : Int))) (wrap64 (168 - a0))) = j_ := ⟨_, rfl⟩
  first | rw [E0] at H | simp only [E0] at H
  have Z1 : (if (wrap64 (168 - a0)) < (wrap64 (a1 - (r0.size : Int))) then (wrap64 (168 - a0)) else (wrap64 (a1 - (r0.size : Int)))) = J0 := E0
  obtain ⟨b2, H⟩ := iN_ H
  have t2 := Aa b2
  have v2 := ya b2
  clear b2
  obtain ⟨y2, H⟩ := iN_ H
  have z2 := Aa y2
  have A2 := ya y2
  obtain ⟨B2, H⟩ := iN_ H
  have C2 := Aa B2
  have D2 := ya B2
  obtain ⟨c2, H⟩ := iN_ H
  have E2 := Aa c2
  have F2 := ya c2
  try have G2 : (9223372036854775807 < r0.size + (d0.extract (a0 : Int).toNat ((wrap64 (a0 + (J0))) : Int).toNat).size) = False := eq_false (Nat.not_lt.2 c2)
  have H' := c_ H
  clear H
  have hnb35 := n0.o
  have hnc35 := e0.o
  have K1 : wr.cell? ⟨f0, 0, none⟩ = some (.string d0) := (ah b0.o 0).trans rfl
  have L1 : wr.cell? ⟨f0, 1, none⟩ = some (.int .i64 a0) := (ah b0.o 1).trans rfl
  have M1 := ae b0.o 0
  have N1 := ae b0.o 1
  go_wp2
  go_roundg k2
  case measure => have := Y0.o; have := m1.o; omega
  case rel => exact ⟨(r0 ++ (d0.extract (a0 : Int).toNat ((wrap64 (a0 + (J0))) : Int).toNat)), (d0), (wrap64 (a0 + (J0))), (by first | rfl | (simp; done) | (simp only [← E0] <;> (first | rfl | simp)) | (simp [*]; done)), H', ⟨by have := Y0.o; have := m1.o; omega⟩, ⟨by refine kK_ ?_; refine bO (cs := #[.string d0, .int .i64 a0]) ?_ 1 _ rfl; refine kK_ ?_; exact b0.o⟩, ⟨by refine kK_ ?_; refine dr ?_ e0.o _; refine kK_ ?_; exact k0.o⟩, ⟨(u2_ v0.o x0.o)⟩⟩
end Go.Proofs.YtmdlpmddljbkeaaGreatDoor.P
