-- printed texts of this session, regrouped
import Derived.Test.YtmiackbomcjboaaGreatDoorHB3
namespace Go.Proofs.YtmiackbomcjboaaGreatDoor.P
open Go.RowKit YtmiackbomcjboaaGreatDoorW.PrintWords YtmiackbomcjboaaGreatDoorW.PrintLast YtmiackbomcjboaaGreatDoorW.PrintMore
attribute [local go_sem] d9 eg eV eU dK dL d8 eh
set_option linter.unusedVariables false
set_option linter.unusedSimpArgs false
mutual
def aq.j0 : Nat → Int → Bool → ByteArray → Int → Option (ByteArray × Int × ByteArray)
 | 0, _, _, _, _ => none
 | k + 1, x1, x22, x552000, x552001 => if x22 = true then (some (x552000, x552001, (⟨#[]⟩ : ByteArray))) else (aq.l0 k x1 (⟨#[]⟩ : ByteArray) x552000 x552001)
def aq.l0 : Nat → Int → ByteArray → ByteArray → Int → Option (ByteArray × Int × ByteArray)
 | 0, _, _, _, _ => none
 | k + 1, x1, x6, x552000, x552001 => if (x6.size : Int) < x1 then (if x552001 = 168 then ((dQ.f x552000).bind fun t555 => (if 0 ≤ (wrap64 (0 + (mn (wrap64 (x1 - (x6.size : Int))) 168))) then (if (wrap64 (0 + (mn (wrap64 (x1 - (x6.size : Int))) 168))) ≤ (t555.size : Int) then (if x6.size + (t555.extract 0 ((wrap64 (0 + (mn (wrap64 (x1 - (x6.size : Int))) 168))) : Int).toNat).size ≤ 9223372036854775807 then (aq.l0 k x1 (x6 ++ (t555.extract 0 ((wrap64 (0 + (mn (wrap64 (x1 - (x6.size : Int))) 168))) : Int).toNat)) t555 (wrap64 (0 + (mn (wrap64 (x1 - (x6.size : Int))) 168)))) else (none)) else (none)) else (none))) else (if 0 ≤ x552001 then (if x552001 ≤ (wrap64 (x552001 + (mn (wrap64 (x1 - (x6.size : Int))) (wrap64 (168 - x552001))))) then (if (wrap64 (x552001 + (mn (wrap64 (x1 - (x6.size : Int))) (wrap64 (168 - x552001))))) ≤ (x552000.size : Int) then (if x6.size + (x552000.extract (x552001 : Int).toNat ((wrap64 (x552001 + (mn (wrap64 (x1 - (x6.size : Int))) (wrap64 (168 - x552001))))) : Int).toNat).size ≤ 9223372036854775807 then (aq.l0 k x1 (x6 ++ (x552000.extract (x552001 : Int).toNat ((wrap64 (x552001 + (mn (wrap64 (x1 - (x6.size : Int))) (wrap64 (168 - x552001))))) : Int).toNat)) x552000 (wrap64 (x552001 + (mn (wrap64 (x1 - (x6.size : Int))) (wrap64 (168 - x552001)))))) else (none)) else (none)) else (none)) else (none))) else (some (x552000, x552001, x6))
end
def aq.f (k : Nat) (a0_0 : ByteArray) (a0_1 : Int) (a1 : Int) : Option (ByteArray × Int × ByteArray) := (b8.f a1 0 4000).bind fun t553 => (if t553 = true then (if (a0_0.size : Int) = 200 then ((b8.f a0_1 0 168).bind fun t554 => (aq.j0 k a1 (!t554) a0_0 a0_1)) else (aq.j0 k a1 true a0_0 a0_1)) else (aq.j0 k a1 true a0_0 a0_1))
theorem aq.mono_l : ∀ k, (∀ y0 y1 y2 y3, LeO (aq.j0 k y0 y1 y2 y3) (aq.j0 (k + 1) y0 y1 y2 y3)) ∧ (∀ y0 y1 y2 y3, LeO (aq.l0 k y0 y1 y2 y3) (aq.l0 (k + 1) y0 y1 y2 y3))
 | 0 => ⟨fun _ _ _ _ r h => by simp [aq.j0] at h, fun _ _ _ _ r h => by simp [aq.l0] at h⟩
 | k + 1 => by
  obtain ⟨ih0, ih1⟩ := aq.mono_l k
  refine ⟨?_, ?_⟩ <;> (intros; (first | unfold aq.j0 | unfold aq.l0); exact o2_ ih0 ih1)
theorem aq.mono : ∀ a0 a1 a2 k, LeO (aq.f k a0 a1 a2) (aq.f (k + 1) a0 a1 a2) := by
 intro a0 a1 a2 k
 obtain ⟨ih0, ih1⟩ := aq.mono_l k
 unfold aq.f
 exact o2_ ih0 ih1
set_option maxHeartbeats 8000000 in
set_option maxRecDepth 100000 in
theorem aq.calls (k : Nat) (p0 : ByteArray) (x0 : Int) (a1 : Int) (r1 : ByteArray) (r2 : Int) (r3 : ByteArray) (w : World) (h : aq.f k p0 x0 a1 = some (r1, r2, r3)) :
  Calls Tryz.prog 102 #[.agg #[.string p0, .int .i64 x0], .int .i64 a1] w fun e w' => e = .returned (.tuple #[.agg #[.string r1, .int .i64 r2], .string r3]) ∧ Below w.heap.size w w' := by
 have hu95 := Tryz.underlying95
 have HB := c_ (Da w.heap.size w)
 delta aq.f at h
 have H := h
 clear h
 have M1 := c_ H
 clear H
 go_enter Tryz.func102, Tryz.ntmps102
 go_upto_region 1 with (first | ((try (refine bh (by rfl) ?_; dsimp only)); refine bx_ 2 #[.string p0, .int .i64 x0] 95 fun f0 w4 hb HB b0 t0 => ?_) | ((try (refine bh (by rfl) ?_; dsimp only)); refine bq_ 4 #[.string (⟨#[]⟩ : ByteArray), .int .i64 0] 95 fun q0 w5 hg hb HB k0 v0 => ?_; obtain ⟨b0, n0, e0⟩ := n_ (fK_ b0) <| b_ (by rw [hg]; exact Nat.ne_of_lt (eO (g := f0) (o := .cells #[.string p0, .int .i64 x0] 95 (0, 0)) (rK_ b0.o)) : f0 ≠ q0) <| c_ (by rw [hg]; exact Nat.ne_of_gt (eO (g := f0) (o := .cells #[.string p0, .int .i64 x0] 95 (0, 0)) (rK_ b0.o)) : q0 ≠ f0); clear hg))
 (try simp only [Act.put, List.setIfInBounds_toArray, List.set_cons_zero, List.set_cons_succ])
 go_cut [22] (fun F2 wc => ∃ (kq : Nat) (B0 : Bool), F2 = .bool B0 ∧ aa (aq.j0 kq a1 B0 p0 x0 = some (r1, r2, r3)) ∧ aa (kq ≤ k) ∧ aa (wc.heap[f0]? = some (.cells #[.string p0, .int .i64 x0] 95 (0, 0))) ∧ aa (wc.heap[q0]? = some (.cells #[.string (⟨#[]⟩ : ByteArray), .int .i64 0] 95 (0, 0))) ∧ aa (Below w.heap.size w wc))
 case first =>
  have H := M1.o
  clear M1
  obtain ⟨N1, A6, H⟩ := bN_ H
  by_cases c7 : N1 = true
  ·subst c7
   replace H := iT_ H
   by_cases c8 : (p0.size : Int) = 200
   ·rw [Fa c8] at H
    have F0 : ((p0.size : Int) == 200) = true := beq_iff_eq.mpr c8
    have O1 : ((p0.size : Int) != 200) = false := bne_eq_false_iff_eq.mpr c8
    clear c8
    (first | rw [F0] | (simp only [bB, cG]; rw [F0]) | skip)
    obtain ⟨P1, A9, H⟩ := bN_ H
    have H' := c_ H
    clear H
    go_wp2_with (first | (refine gp_ (k_ 9 Tryz.func100) (b8.calls _ _ _ _ _ A6.o) fun nd => ?_; have hnb10 := n0.o; have hnc10 := e0.o; have P0 : w5.cell? ⟨f0, 0, none⟩ = some (.string p0) := (ak b0.o 0).trans rfl; have Q0 : w5.cell? ⟨f0, 1, none⟩ = some (.int .i64 x0) := (ak b0.o 1).trans rfl; have R0 := ag b0.o 0; have S0 := ag b0.o 1) | (go_at_call 100; refine mp_ (b8.calls _ _ _ _ _ A9.o) fun nd => ?_))
    go_meet
    case rel => exact ⟨_, (!P1), f0_, H', ⟨by first | omega | exact Ca _⟩, ⟨by refine kK_ ?_; exact b0.o⟩, ⟨by refine kK_ ?_; exact k0.o⟩, ⟨(u2_ t0.o v0.o)⟩⟩
   rw [Ga c8] at H
   have F0 : ((p0.size : Int) == 200) = false := beq_eq_false_iff_ne.mpr c8
   have O1 : ((p0.size : Int) != 200) = true := bne_iff_ne.mpr c8
   (first | rw [F0] | (simp only [bB, cG]; rw [F0]) | skip)
   have H' := c_ H
   clear H
   go_wp2_with (first | (refine gp_ (k_ 9 Tryz.func100) (b8.calls _ _ _ _ _ A6.o) fun nd => ?_; have hnb12 := n0.o; have hnc12 := e0.o; have T0 : w5.cell? ⟨f0, 0, none⟩ = some (.string p0) := (ak b0.o 0).trans rfl; have U0 : w5.cell? ⟨f0, 1, none⟩ = some (.int .i64 x0) := (ak b0.o 1).trans rfl; have V0 := ag b0.o 0; have W0 := ag b0.o 1))
   go_meet
   case rel => exact ⟨_, (true), f0_, H', ⟨by first | omega | exact Ca _⟩, ⟨by refine kK_ ?_; exact b0.o⟩, ⟨by refine kK_ ?_; exact k0.o⟩, ⟨(u2_ t0.o v0.o)⟩⟩
  ·replace c7 := Ea c7
   subst c7
   replace H := iF_ H
   have H' := c_ H
   clear H
   go_wp2_with (first | (refine gp_ (k_ 9 Tryz.func100) (b8.calls _ _ _ _ _ A6.o) fun nd => ?_))
   go_meet
   case rel => exact ⟨_, (true), f0_, H', ⟨by first | omega | exact Ca _⟩, ⟨by refine kK_ ?_; exact b0.o⟩, ⟨by refine kK_ ?_; exact k0.o⟩, ⟨(u2_ t0.o v0.o)⟩⟩
 clear M1
 obtain ⟨kq, B0, rfl, HA, X0, b0, k0, HB⟩ := hcut
 rcases kq with _ | b2
 ·exact absurd HA.o (by simp [aq.j0])
 have H := HA.o
 clear HA
 simp only [aq.j0] at H
 by_cases Y0 : B0 = true
 ·subst Y0
  replace H := iT_ H
  simp only [Option.some.injEq, Prod.mk.injEq] at H
  obtain ⟨rfl, rfl, rfl⟩ := H
  have hnb15 := n0.o
  have hnc15 := e0.o
  have Z0 : wc.cell? ⟨f0, 0, none⟩ = some (.string p0) := (ak b0.o 0).trans rfl
  have b1 : wc.cell? ⟨f0, 1, none⟩ = some (.int .i64 x0) := (ak b0.o 1).trans rfl
  have c1 := ag b0.o 0
  have d1 := ag b0.o 1
  have e1 : wc.cell? ⟨q0, 0, none⟩ = some (.string (⟨#[]⟩ : ByteArray)) := (ak k0.o 0).trans rfl
  have f1 : wc.cell? ⟨q0, 1, none⟩ = some (.int .i64 0) := (ak k0.o 1).trans rfl
  have g1 := ag k0.o 0
  have i1 := ag k0.o 1
  go_wp2
  refine bodyPost_ret (gQ rfl _ _ q0 95 #[.string p0, .int .i64 x0] (0, 0) _ rfl (by refine kK_ ?_; refine ca (cs := #[.string p0, .int .i64 0]) ?_ 1 _ rfl; refine kK_ ?_; refine ca (cs := #[.string (⟨#[]⟩ : ByteArray), .int .i64 0]) ?_ 0 _ rfl; exact rK_ k0.o) Tryz.underlying95 rfl (by kernel_rfl)) rfl ?_
  exact ⟨f1_, (u2_ t0.o v0.o)⟩
 ·replace Y0 := Ea Y0
  subst Y0
  replace H := iF_ H
  have H' := c_ H
  clear H
  go_wp2
  go_loopg [6] b2 (fun kq v6 w' => ∃ (r0 : ByteArray) (d0 : ByteArray) (a0 : Int), v6 = .string r0 ∧ aa (aq.l0 kq a1 r0 d0 a0 = some (r1, r2, r3)) ∧ aa (kq ≤ b2) ∧ aa (w'.heap[f0]? = some (.cells #[.string d0, .int .i64 a0] 95 (0, 0))) ∧ aa (w'.heap[q0]? = some (.cells #[.string (⟨#[]⟩ : ByteArray), .int .i64 0] 95 (0, 0))) ∧ aa (Below w.heap.size w w'))
  case atStart => exact ⟨((⟨#[]⟩ : ByteArray)), (p0), (x0), f0_, H', ⟨Ca _⟩, ⟨by refine kK_ ?_; exact b0.o⟩, ⟨by refine kK_ ?_; exact k0.o⟩, ⟨(u2_ t0.o v0.o)⟩⟩
  clear H'
  obtain ⟨r0, d0, a0, rfl, HA, j1, b0, k0, HB⟩ := hrel
  rcases gk with _ | k2
  ·exact absurd HA.o (by simp [aq.l0])
  have H := HA.o
  clear HA
  simp only [aq.l0] at H
  by_cases L0 : (r0.size : Int) < a1
  rotate_left
  ·rw [Ga L0] at H
   have M0 := za L0
   clear L0
   simp only [Option.some.injEq, Prod.mk.injEq] at H
   obtain ⟨rfl, rfl, rfl⟩ := H
   have hnb37 := n0.o
   have hnc37 := e0.o
   have l1 : wr.cell? ⟨f0, 0, none⟩ = some (.string d0) := (ak b0.o 0).trans rfl
   have m1 : wr.cell? ⟨f0, 1, none⟩ = some (.int .i64 a0) := (ak b0.o 1).trans rfl
   have n1 := ag b0.o 0
   have p1 := ag b0.o 1
   have q1 : wr.cell? ⟨q0, 0, none⟩ = some (.string (⟨#[]⟩ : ByteArray)) := (ak k0.o 0).trans rfl
   have t1 : wr.cell? ⟨q0, 1, none⟩ = some (.int .i64 0) := (ak k0.o 1).trans rfl
   have y1 := ag k0.o 0
   have z1 := ag k0.o 1
   go_wp2
   refine bodyPost_ret (gQ rfl _ _ q0 95 #[.string d0, .int .i64 a0] (0, 0) _ rfl (by refine kK_ ?_; refine ca (cs := #[.string d0, .int .i64 0]) ?_ 1 _ rfl; refine kK_ ?_; refine ca (cs := #[.string (⟨#[]⟩ : ByteArray), .int .i64 0]) ?_ 0 _ rfl; exact rK_ k0.o) Tryz.underlying95 rfl (by kernel_rfl)) rfl ?_
   exact ⟨f1_, (u2_ t0.o v0.o)⟩
  rw [Fa L0] at H
  have M0 := ya L0
  clear L0
  by_cases J0 : a0 = 168
  ·rw [Fa J0] at H
   have N0 : (a0 == 168) = true := beq_iff_eq.mpr J0
   have O0 : (a0 != 168) = false := bne_eq_false_iff_eq.mpr J0
   clear J0
   obtain ⟨G0, Q1, H⟩ := bN_ H
   obtain ⟨H0, C0⟩ : ∃ j_ : Int, (mn (wrap64 (a1 - (r0.size : Int))) 168) = j_ := ⟨_, rfl⟩
   first | rw [C0] at H | simp only [C0] at H
   (try rw [C0] at Q1)
   have R1 : (if 168 < (wrap64 (a1 - (r0.size : Int))) then 168 else (wrap64 (a1 - (r0.size : Int)))) = H0 := C0
   obtain ⟨E0, y0⟩ : ∃ j_ : Int, (wrap64 (0 + (H0))) = j_ := ⟨_, rfl⟩
   first | rw [y0] at H | simp only [y0] at H
   (try rw [y0] at Q1)
   have S1 : (IntKind.i64.wrap (0 + (H0))) = E0 := (bB _).trans y0
   have K0 : (wrap64 (H0)) = E0 := by rw [← y0, Int.zero_add]
   have hji22y : IntKind.i64.wrap (H0) = E0 := (bB _).trans K0
   obtain ⟨T1, H⟩ := iN_ H
   have c2 := Aa T1
   have f2 := ya T1
   clear T1
   obtain ⟨U1, H⟩ := iN_ H
   have g2 := Aa U1
   have i2 := ya U1
   clear U1
   obtain ⟨V1, H⟩ := iN_ H
   have j2 := Aa V1
   have l2 := ya V1
   try have m2 : (9223372036854775807 < r0.size + (G0.extract 0 ((E0) : Int).toNat).size) = False := eq_false (Nat.not_lt.2 V1)
   have H' := c_ H
   clear H
   have hnb26 := n0.o
   have hnc26 := e0.o
   have A1 : wr.cell? ⟨f0, 0, none⟩ = some (.string d0) := (ak b0.o 0).trans rfl
   have B1 : wr.cell? ⟨f0, 1, none⟩ = some (.int .i64 a0) := (ak b0.o 1).trans rfl
   have C1 := ag b0.o 0
   have D1 := ag b0.o 1
   go_wp2_with (first | (refine gc_ (k_ 33 Tryz.func114) (dQ.calls _ _ _ Q1.o) fun n2 hb => ?_; obtain ⟨b0, k0, HB⟩ := n_ (fK_ b0) <| n_ (fK_ k0) <| sB_; have E1 : n2.cell? ⟨f0, 0, none⟩ = some (.string d0) := (ak b0.o 0).trans rfl; have F1 : n2.cell? ⟨f0, 1, none⟩ = some (.int .i64 a0) := (ak b0.o 1).trans rfl; have G1 := ag b0.o 0; have H1 := ag b0.o 1))
   go_roundg k2
   case measure => have := X0.o; have := j1.o; omega
   case rel => exact ⟨(r0 ++ (G0.extract 0 ((E0) : Int).toNat)), (G0), (E0), (by first | rfl | (simp; done) | (simp only [← y0] <;> (first | rfl | simp)) | (simp [*]; done)), H', ⟨by have := X0.o; have := j1.o; omega⟩, ⟨by refine kK_ ?_; refine ca (cs := #[.string G0, .int .i64 0]) ?_ 1 _ rfl; refine kK_ ?_; refine ca (cs := #[.string G0, .int .i64 a0]) ?_ 1 _ rfl; refine kK_ ?_; refine ca (cs := #[.string d0, .int .i64 a0]) ?_ 0 _ rfl; refine kK_ ?_; exact b0.o⟩, ⟨by refine kK_ ?_; refine en ?_ e0.o _; refine kK_ ?_; refine en ?_ e0.o _; refine kK_ ?_; refine en ?_ e0.o _; refine kK_ ?_; exact k0.o⟩, ⟨(u2_ t0.o v0.o)⟩⟩
  rw [Ga J0] at H
  have N0 : (a0 == 168) = false := beq_eq_false_iff_ne.mpr J0
  have O0 : (a0 != 168) = true := bne_iff_ne.mpr J0
  obtain ⟨I0, D0⟩ : ∃ j_ : Int, (mn (wrap64 (a1 - (r0.size : Int))) (wrap64 (168 - a0))) = j_ := ⟨_, rfl⟩
  first | rw [D0] at H | simp only [D0] at H
  have X1 : (if (wrap64 (168 - a0)) < (wrap64 (a1 - (r0.size : Int))) then (wrap64 (168 - a0)) else (wrap64 (a1 - (r0.size : Int)))) = I0 := D0
  obtain ⟨Y1, H⟩ := iN_ H
  have p2 := Aa Y1
  have q2 := ya Y1
  clear Y1
  obtain ⟨t2, H⟩ := iN_ H
  have v2 := Aa t2
  have y2 := ya t2
  obtain ⟨z2, H⟩ := iN_ H
  have A2 := Aa z2
  have B2 := ya z2
  obtain ⟨Z1, H⟩ := iN_ H
  have C2 := Aa Z1
  have D2 := ya Z1
  try have E2 : (9223372036854775807 < r0.size + (d0.extract (a0 : Int).toNat ((wrap64 (a0 + (I0))) : Int).toNat).size) = False := eq_false (Nat.not_lt.2 Z1)
  have H' := c_ H
  clear H
  have hnb35 := n0.o
  have hnc35 := e0.o
  have I1 : wr.cell? ⟨f0, 0, none⟩ = some (.string d0) := (ak b0.o 0).trans rfl
  have J1 : wr.cell? ⟨f0, 1, none⟩ = some (.int .i64 a0) := (ak b0.o 1).trans rfl
  have K1 := ag b0.o 0
  have L1 := ag b0.o 1
  go_wp2
  go_roundg k2
  case measure => have := X0.o; have := j1.o; omega
  case rel => exact ⟨(r0 ++ (d0.extract (a0 : Int).toNat ((wrap64 (a0 + (I0))) : Int).toNat)), (d0), (wrap64 (a0 + (I0))), (by first | rfl | (simp; done) | (simp only [← D0] <;> (first | rfl | simp)) | (simp [*]; done)), H', ⟨by have := X0.o; have := j1.o; omega⟩, ⟨by refine kK_ ?_; refine ca (cs := #[.string d0, .int .i64 a0]) ?_ 1 _ rfl; refine kK_ ?_; exact b0.o⟩, ⟨by refine kK_ ?_; refine en ?_ e0.o _; refine kK_ ?_; exact k0.o⟩, ⟨(u2_ t0.o v0.o)⟩⟩
end Go.Proofs.YtmiackbomcjboaaGreatDoor.P
