-- printed texts of this session, regrouped
import Derived.Test.YtielligodgabiaaGreatDoorMWC
import Derived.Test.YtielligodgabiaaGreatDoorMWA
import Derived.Test.YtielligodgabiaaGreatDoorMW7
import Derived.Test.YtielligodgabiaaGreatDoorMW8
import Derived.Test.YtielligodgabiaaGreatDoorMW6
import Derived.Test.YtielligodgabiaaGreatDoorHB3
import Derived.Test.YtielligodgabiaaGreatDoorPx0
import Derived.Test.YtielligodgabiaaGreatDoorPx4
namespace Go.Proofs.YtielligodgabiaaGreatDoor.P
open Go.RowKit YtielligodgabiaaGreatDoorW.PrintWords YtielligodgabiaaGreatDoorW.PrintLast YtielligodgabiaaGreatDoorW.PrintMore
attribute [local go_sem] dJ dC ej eh dh di dB dK   -- for this text's walks alone
set_option linter.unusedVariables false
set_option linter.unusedSimpArgs false

/-! ### ao: function 87 -/
mutual
def ao.j0 : Nat → Int → Bool → ByteArray → Int → Option (ByteArray × Int × ByteArray)
 | 0, _, _, _, _ => none
 | k + 1, x1, x22, x626000, x626001 => if x22 = true then (some (x626000, x626001, (⟨#[]⟩ : ByteArray))) else (ao.l0 k x1 (⟨#[]⟩ : ByteArray) x626000 x626001)
def ao.l0 : Nat → Int → ByteArray → ByteArray → Int → Option (ByteArray × Int × ByteArray)
 | 0, _, _, _, _ => none
 | k + 1, x1, x6, x626000, x626001 => if (x6.size : Int) < x1 then (if x626001 = 168 then ((dj.f x626000).bind fun t629 => (if 0 ≤ (wrap64 (0 + (mn (wrap64 (x1 - (x6.size : Int))) 168))) then (if (wrap64 (0 + (mn (wrap64 (x1 - (x6.size : Int))) 168))) ≤ (t629.size : Int) then (if x6.size + (t629.extract 0 ((wrap64 (0 + (mn (wrap64 (x1 - (x6.size : Int))) 168))) : Int).toNat).size ≤ 9223372036854775807 then (ao.l0 k x1 (x6 ++ (t629.extract 0 ((wrap64 (0 + (mn (wrap64 (x1 - (x6.size : Int))) 168))) : Int).toNat)) t629 (wrap64 (0 + (mn (wrap64 (x1 - (x6.size : Int))) 168)))) else (none)) else (none)) else (none))) else (if 0 ≤ x626001 then (if x626001 ≤ (wrap64 (x626001 + (mn (wrap64 (x1 - (x6.size : Int))) (wrap64 (168 - x626001))))) then (if (wrap64 (x626001 + (mn (wrap64 (x1 - (x6.size : Int))) (wrap64 (168 - x626001))))) ≤ (x626000.size : Int) then (if x6.size + (x626000.extract (x626001 : Int).toNat ((wrap64 (x626001 + (mn (wrap64 (x1 - (x6.size : Int))) (wrap64 (168 - x626001))))) : Int).toNat).size ≤ 9223372036854775807 then (ao.l0 k x1 (x6 ++ (x626000.extract (x626001 : Int).toNat ((wrap64 (x626001 + (mn (wrap64 (x1 - (x6.size : Int))) (wrap64 (168 - x626001))))) : Int).toNat)) x626000 (wrap64 (x626001 + (mn (wrap64 (x1 - (x6.size : Int))) (wrap64 (168 - x626001)))))) else (none)) else (none)) else (none)) else (none))) else (some (x626000, x626001, x6))
end
def ao.f (k : Nat) (a0_0 : ByteArray) (a0_1 : Int) (a1 : Int) : Option (ByteArray × Int × ByteArray) := (bO.f a1 0 4000).bind fun t627 => (if t627 = true then (if (a0_0.size : Int) = 200 then ((bO.f a0_1 0 168).bind fun t628 => (ao.j0 k a1 (!t628) a0_0 a0_1)) else (ao.j0 k a1 true a0_0 a0_1)) else (ao.j0 k a1 true a0_0 a0_1))
theorem ao.mono_l : ∀ k, (∀ y0 y1 y2 y3, LeO (ao.j0 k y0 y1 y2 y3) (ao.j0 (k + 1) y0 y1 y2 y3)) ∧ (∀ y0 y1 y2 y3, LeO (ao.l0 k y0 y1 y2 y3) (ao.l0 (k + 1) y0 y1 y2 y3))
 | 0 => ⟨fun _ _ _ _ r h => by simp [ao.j0] at h, fun _ _ _ _ r h => by simp [ao.l0] at h⟩
 | k + 1 => by
  obtain ⟨ih0, ih1⟩ := ao.mono_l k
  refine ⟨?_, ?_⟩ <;> (intros; (first | unfold ao.j0 | unfold ao.l0); exact o2_ ih0 ih1)
theorem ao.mono : ∀ a0 a1 a2 k, LeO (ao.f k a0 a1 a2) (ao.f (k + 1) a0 a1 a2) := by
 intro a0 a1 a2 k
 obtain ⟨ih0, ih1⟩ := ao.mono_l k
 unfold ao.f
 exact o2_ ih0 ih1
set_option maxHeartbeats 8000000 in
set_option maxRecDepth 100000 in
theorem ao.calls (k : Nat) (r0 : ByteArray) (u0 : Int) (a1 : Int) (r1 : ByteArray) (r2 : Int) (r3 : ByteArray) (w : World) (h : ao.f k r0 u0 a1 = some (r1, r2, r3)) :
  Calls Tryz.prog 87 #[.agg #[.string r0, .int .i64 u0], .int .i64 a1] w fun e w' => e = .returned (.tuple #[.agg #[.string r1, .int .i64 r2], .string r3]) ∧ Below w.heap.size w w' := by
 have hu80 := Tryz.underlying80
 have HB := aa.mk (xa w.heap.size w)
 delta ao.f at h
 have H := h
 clear h
 have N1 := aa.mk H
 clear H
 go_enter Tryz.func87, Tryz.ntmps87
 go_upto_region 1 with (first | ((with_reducible refine aI (N := 2) rfl ?_); (try (refine bj (by rfl) ?_; dsimp only)); refine cn ?hg (N := 2) ?hd (cs := #[.string r0, .int .i64 u0]) (t := 80) ?hr ?_; (case hd => rfl); (case hg => rfl); (case hr => first | (go_simp; done) | (go_simp; rfl)); intro f0 hg w4 hbox hb; have n_ := b_ (ac (hB_) hb) <| b_ (hbox) <| b_ (by rw [hg]; exact (ab (hB_)) : w.heap.size ≤ f0) <| c_ (by rw [hg]; exact (ab (hB_)) : w.heap.size ≤ f0); clear HB; obtain ⟨HB, b0, b2, t0⟩ := n_; clear hb hbox hg) | ((with_reducible refine aI (N := 4) rfl ?_); (try (refine bj (by rfl) ?_; dsimp only)); refine cn ?hg (N := 4) ?hd (cs := #[.string (⟨#[]⟩ : ByteArray), .int .i64 0]) (t := 80) ?hr ?_; (case hd => rfl); (case hg => rfl); (case hr => first | (go_simp; done) | (go_simp; rfl)); intro q0 hg w5 hbox hb; have n_ := b_ (bG (g := f0) (o := .cells #[.string r0, .int .i64 u0] 80 (0, 0)) (rK_ b0.out) hb) <| b_ (ac (hS_ t0.out) hb) <| b_ (hbox) <| b_ (by rw [hg]; exact (ab (hS_ t0.out)) : w.heap.size ≤ q0) <| b_ (by rw [hg]; exact (ab (hS_ t0.out)) : w.heap.size ≤ q0) <| b_ (by rw [hg]; exact Nat.ne_of_lt (ev (g := f0) (o := .cells #[.string r0, .int .i64 u0] 80 (0, 0)) (rK_ b0.out)) : f0 ≠ q0) <| c_ (by rw [hg]; exact Nat.ne_of_gt (ev (g := f0) (o := .cells #[.string r0, .int .i64 u0] 80 (0, 0)) (rK_ b0.out)) : q0 ≠ f0); clear b0 HB; obtain ⟨b0, HB, k0, c2, v0, p0, e0⟩ := n_; clear hb hbox hg))
 (try simp only [Act.put, List.setIfInBounds_toArray, List.set_cons_zero, List.set_cons_succ])
 go_cut [22] (fun F2 wc => ∃ (kq : Nat) (B0 : Bool), F2 = .bool B0 ∧ aa (ao.j0 kq a1 B0 r0 u0 = some (r1, r2, r3)) ∧ aa (kq ≤ k) ∧ aa (wc.heap[f0]? = some (.cells #[.string r0, .int .i64 u0] 80 (0, 0))) ∧ aa (wc.heap[q0]? = some (.cells #[.string (⟨#[]⟩ : ByteArray), .int .i64 0] 80 (0, 0))) ∧ aa (Below w.heap.size w wc))
 case first =>
  have H := N1.out
  clear N1
  obtain ⟨O1, A6, H⟩ := bN_ H
  by_cases c7 : O1 = true
  ·subst c7
   replace H := iT_ H
   by_cases c8 : (r0.size : Int) = 200
   ·rw [za c8] at H
    have G0 : ((r0.size : Int) == 200) = true := beq_iff_eq.mpr c8
    have P1 : ((r0.size : Int) != 200) = false := bne_eq_false_iff_eq.mpr c8
    clear c8
    (first | rw [G0] | (simp only [bB, cJ]; rw [G0]) | skip)
    obtain ⟨M0, A9, H⟩ := bN_ H
    have H' := aa.mk H
    clear H
    go_wp2_with (first | ((with_reducible refine ae (f := 85) rfl ?_); refine aq (some 9) rfl rfl Tryz.func85 (by kernel_rfl) rfl #[.int .i64 a1, .int .i64 0, .int .i64 4000] rfl aM_ ?_; (with_reducible refine (bO.calls a1 0 4000 true _ A6.out).mono ?_); rintro e w' ⟨rfl, ⟨nd, rfl⟩⟩; refine ⟨_, rfl, ?_⟩; have hnb10 := p0.out; have hnc10 := e0.out; have Q0 : w5.cell? ⟨f0, 0, none⟩ = some (.string r0) := (au b0.out 0).trans rfl; have R0 : w5.cell? ⟨f0, 1, none⟩ = some (.int .i64 u0) := (au b0.out 1).trans rfl; have S0 := aj b0.out 0; have T0 := aj b0.out 1) | (go_at_call 85; (with_reducible refine (bO.calls u0 0 168 M0 _ A9.out).mono ?_); rintro e w' ⟨rfl, ⟨nd, rfl⟩⟩))
    go_meet
    case rel => exact ⟨_, (!M0), f0_, H', ⟨by first | omega | exact wa _⟩, ⟨by refine kK_ ?_; exact b0.out⟩, ⟨by refine kK_ ?_; exact k0.out⟩, ⟨(u0_ t0.out v0.out)⟩⟩
   rw [Aa c8] at H
   have G0 : ((r0.size : Int) == 200) = false := beq_eq_false_iff_ne.mpr c8
   have P1 : ((r0.size : Int) != 200) = true := bne_iff_ne.mpr c8
   (first | rw [G0] | (simp only [bB, cJ]; rw [G0]) | skip)
   have H' := aa.mk H
   clear H
   go_wp2_with (first | ((with_reducible refine ae (f := 85) rfl ?_); refine aq (some 9) rfl rfl Tryz.func85 (by kernel_rfl) rfl #[.int .i64 a1, .int .i64 0, .int .i64 4000] rfl aM_ ?_; (with_reducible refine (bO.calls a1 0 4000 true _ A6.out).mono ?_); rintro e w' ⟨rfl, ⟨nd, rfl⟩⟩; refine ⟨_, rfl, ?_⟩; have hnb12 := p0.out; have hnc12 := e0.out; have U0 : w5.cell? ⟨f0, 0, none⟩ = some (.string r0) := (au b0.out 0).trans rfl; have V0 : w5.cell? ⟨f0, 1, none⟩ = some (.int .i64 u0) := (au b0.out 1).trans rfl; have W0 := aj b0.out 0; have X0 := aj b0.out 1))
   go_meet
   case rel => exact ⟨_, (true), f0_, H', ⟨by first | omega | exact wa _⟩, ⟨by refine kK_ ?_; exact b0.out⟩, ⟨by refine kK_ ?_; exact k0.out⟩, ⟨(u0_ t0.out v0.out)⟩⟩
  ·replace c7 := ya c7
   subst c7
   replace H := iF_ H
   have H' := aa.mk H
   clear H
   go_wp2_with (first | ((with_reducible refine ae (f := 85) rfl ?_); refine aq (some 9) rfl rfl Tryz.func85 (by kernel_rfl) rfl #[.int .i64 a1, .int .i64 0, .int .i64 4000] rfl aM_ ?_; (with_reducible refine (bO.calls a1 0 4000 false _ A6.out).mono ?_); rintro e w' ⟨rfl, ⟨nd, rfl⟩⟩; refine ⟨_, rfl, ?_⟩))
   go_meet
   case rel => exact ⟨_, (true), f0_, H', ⟨by first | omega | exact wa _⟩, ⟨by refine kK_ ?_; exact b0.out⟩, ⟨by refine kK_ ?_; exact k0.out⟩, ⟨(u0_ t0.out v0.out)⟩⟩
 clear N1
 obtain ⟨kq, B0, rfl, HA, Y0, b0, k0, HB⟩ := hcut
 rcases kq with _ | e2
 ·exact absurd HA.out (by simp [ao.j0])
 have H := HA.out
 clear HA
 simp only [ao.j0] at H
 by_cases Z0 : B0 = true
 ·subst Z0
  replace H := iT_ H
  simp only [Option.some.injEq, Prod.mk.injEq] at H
  obtain ⟨rfl, rfl, rfl⟩ := H
  have hnb15 := p0.out
  have hnc15 := e0.out
  have b1 : wc.cell? ⟨f0, 0, none⟩ = some (.string r0) := (au b0.out 0).trans rfl
  have c1 : wc.cell? ⟨f0, 1, none⟩ = some (.int .i64 u0) := (au b0.out 1).trans rfl
  have d1 := aj b0.out 0
  have e1 := aj b0.out 1
  have f1 : wc.cell? ⟨q0, 0, none⟩ = some (.string (⟨#[]⟩ : ByteArray)) := (au k0.out 0).trans rfl
  have g1 : wc.cell? ⟨q0, 1, none⟩ = some (.int .i64 0) := (au k0.out 1).trans rfl
  have i1 := aj k0.out 0
  have j1 := aj k0.out 1
  go_wp2
  refine bodyPost_ret (iM rfl _ _ q0 80 #[.string r0, .int .i64 u0] (0, 0) _ rfl (by refine kK_ ?_; refine bV (cs := #[.string r0, .int .i64 0]) ?_ 1 _ rfl; refine kK_ ?_; refine bV (cs := #[.string (⟨#[]⟩ : ByteArray), .int .i64 0]) ?_ 0 _ rfl; exact rK_ k0.out) Tryz.underlying80 rfl (by kernel_rfl)) rfl ?_
  exact ⟨f1_, (u0_ t0.out v0.out)⟩
 ·replace Z0 := ya Z0
  subst Z0
  replace H := iF_ H
  have H' := aa.mk H
  clear H
  go_wp2
  go_loopg [6] e2 (fun kq v6 w' => ∃ (x0 : ByteArray) (d0 : ByteArray) (a0 : Int), v6 = .string x0 ∧ aa (ao.l0 kq a1 x0 d0 a0 = some (r1, r2, r3)) ∧ aa (kq ≤ e2) ∧ aa (w'.heap[f0]? = some (.cells #[.string d0, .int .i64 a0] 80 (0, 0))) ∧ aa (w'.heap[q0]? = some (.cells #[.string (⟨#[]⟩ : ByteArray), .int .i64 0] 80 (0, 0))) ∧ aa (Below w.heap.size w w'))
  case atStart => exact ⟨((⟨#[]⟩ : ByteArray)), (r0), (u0), f0_, H', ⟨wa _⟩, ⟨by refine kK_ ?_; exact b0.out⟩, ⟨by refine kK_ ?_; exact k0.out⟩, ⟨(u0_ t0.out v0.out)⟩⟩
  clear H'
  obtain ⟨x0, d0, a0, rfl, HA, l1, b0, k0, HB⟩ := hrel
  rcases gk with _ | k2
  ·exact absurd HA.out (by simp [ao.l0])
  have H := HA.out
  clear HA
  simp only [ao.l0] at H
  by_cases L0 : (x0.size : Int) < a1
  rotate_left
  ·rw [Aa L0] at H
   have N0 := ua L0
   clear L0
   simp only [Option.some.injEq, Prod.mk.injEq] at H
   obtain ⟨rfl, rfl, rfl⟩ := H
   have hnb37 := p0.out
   have hnc37 := e0.out
   have m1 : wr.cell? ⟨f0, 0, none⟩ = some (.string d0) := (au b0.out 0).trans rfl
   have n1 : wr.cell? ⟨f0, 1, none⟩ = some (.int .i64 a0) := (au b0.out 1).trans rfl
   have p1 := aj b0.out 0
   have q1 := aj b0.out 1
   have t1 : wr.cell? ⟨q0, 0, none⟩ = some (.string (⟨#[]⟩ : ByteArray)) := (au k0.out 0).trans rfl
   have y1 : wr.cell? ⟨q0, 1, none⟩ = some (.int .i64 0) := (au k0.out 1).trans rfl
   have z1 := aj k0.out 0
   have A1 := aj k0.out 1
   go_wp2
   refine bodyPost_ret (iM rfl _ _ q0 80 #[.string d0, .int .i64 a0] (0, 0) _ rfl (by refine kK_ ?_; refine bV (cs := #[.string d0, .int .i64 0]) ?_ 1 _ rfl; refine kK_ ?_; refine bV (cs := #[.string (⟨#[]⟩ : ByteArray), .int .i64 0]) ?_ 0 _ rfl; exact rK_ k0.out) Tryz.underlying80 rfl (by kernel_rfl)) rfl ?_
   exact ⟨f1_, (u0_ t0.out v0.out)⟩
  rw [za L0] at H
  have N0 := ta L0
  clear L0
  by_cases J0 : a0 = 168
  ·rw [za J0] at H
   have O0 : (a0 == 168) = true := beq_iff_eq.mpr J0
   have P0 : (a0 != 168) = false := bne_eq_false_iff_eq.mpr J0
   clear J0
   obtain ⟨E0, Q1, H⟩ := bN_ H
   obtain ⟨H0, C0⟩ : ∃ j_ : Int, (mn (wrap64 (a1 - (x0.size : Int))) 168) = j_ := ⟨_, rfl⟩
   first | rw [C0] at H | simp only [C0] at H
   (try rw [C0] at Q1)
   have R1 : (if 168 < (wrap64 (a1 - (x0.size : Int))) then 168 else (wrap64 (a1 - (x0.size : Int)))) = H0 := C0
   obtain ⟨F0, y0⟩ : ∃ j_ : Int, (wrap64 (0 + (H0))) = j_ := ⟨_, rfl⟩
   first | rw [y0] at H | simp only [y0] at H
   (try rw [y0] at Q1)
   have S1 : (IntKind.i64.wrap (0 + (H0))) = F0 := (bB _).trans y0
   have K0 : (wrap64 (H0)) = F0 := by rw [← y0, Int.zero_add]
   have hji22y : IntKind.i64.wrap (H0) = F0 := (bB _).trans K0
   obtain ⟨T1, H⟩ := iN_ H
   have f2 := va T1
   have g2 := ta T1
   clear T1
   obtain ⟨U1, H⟩ := iN_ H
   have i2 := va U1
   have j2 := ta U1
   clear U1
   obtain ⟨V1, H⟩ := iN_ H
   have l2 := va V1
   have m2 := ta V1
   try have n2 : (9223372036854775807 < x0.size + (E0.extract 0 ((F0) : Int).toNat).size) = False := eq_false (Nat.not_lt.2 V1)
   have H' := aa.mk H
   clear H
   have hnb26 := p0.out
   have hnc26 := e0.out
   have B1 : wr.cell? ⟨f0, 0, none⟩ = some (.string d0) := (au b0.out 0).trans rfl
   have C1 : wr.cell? ⟨f0, 1, none⟩ = some (.int .i64 a0) := (au b0.out 1).trans rfl
   have D1 := aj b0.out 0
   have E1 := aj b0.out 1
   go_wp2_with (first | ((with_reducible refine ae (f := 93) rfl ?_); refine aq (some 33) rfl rfl Tryz.func93 (by kernel_rfl) rfl #[.string d0] rfl aM_ ?_; (with_reducible refine (dj.calls d0 E0 _ Q1.out).mono ?_); rintro e p2 ⟨rfl, hb⟩; refine ⟨_, rfl, ?_⟩; have n_ := b_ (bG (g := f0) (o := .cells #[.string d0, .int .i64 a0] 80 (0, 0)) (rK_ b0.out) hb) <| b_ (bG (g := q0) (o := .cells #[.string (⟨#[]⟩ : ByteArray), .int .i64 0] 80 (0, 0)) (rK_ k0.out) hb) <| c_ (ac ((u0_ t0.out v0.out)) hb); clear b0 k0 HB; obtain ⟨b0, k0, HB⟩ := n_; have F1 : p2.cell? ⟨f0, 0, none⟩ = some (.string d0) := (au b0.out 0).trans rfl; have G1 : p2.cell? ⟨f0, 1, none⟩ = some (.int .i64 a0) := (au b0.out 1).trans rfl; have H1 := aj b0.out 0; have I1 := aj b0.out 1))
   go_roundg k2
   case measure => have := Y0.out; have := l1.out; omega
   case rel => exact ⟨(x0 ++ (E0.extract 0 ((F0) : Int).toNat)), (E0), (F0), (by first | rfl | (simp; done) | (simp only [← y0] <;> (first | rfl | simp)) | (simp [*]; done)), H', ⟨by have := Y0.out; have := l1.out; omega⟩, ⟨by refine kK_ ?_; refine bV (cs := #[.string E0, .int .i64 0]) ?_ 1 _ rfl; refine kK_ ?_; refine bV (cs := #[.string E0, .int .i64 a0]) ?_ 1 _ rfl; refine kK_ ?_; refine bV (cs := #[.string d0, .int .i64 a0]) ?_ 0 _ rfl; refine kK_ ?_; exact b0.out⟩, ⟨by refine kK_ ?_; refine dL ?_ e0.out _; refine kK_ ?_; refine dL ?_ e0.out _; refine kK_ ?_; refine dL ?_ e0.out _; refine kK_ ?_; exact k0.out⟩, ⟨(u0_ t0.out v0.out)⟩⟩
  rw [Aa J0] at H
  have O0 : (a0 == 168) = false := beq_eq_false_iff_ne.mpr J0
  have P0 : (a0 != 168) = true := bne_iff_ne.mpr J0
  obtain ⟨I0, D0⟩ : ∃ j_ : Int, (mn (wrap64 (a1 - (x0.size : Int))) (wrap64 (168 - a0))) = j_ := ⟨_, rfl⟩
  first | rw [D0] at H | simp only [D0] at H
  have X1 : (if (wrap64 (168 - a0)) < (wrap64 (a1 - (x0.size : Int))) then (wrap64 (168 - a0)) else (wrap64 (a1 - (x0.size : Int)))) = I0 := D0
  obtain ⟨Y1, H⟩ := iN_ H
  have q2 := va Y1
  have t2 := ta Y1
  clear Y1
  obtain ⟨u2, H⟩ := iN_ H
  have v2 := va u2
  have y2 := ta u2
  obtain ⟨z2, H⟩ := iN_ H
  have A2 := va z2
  have B2 := ta z2
  obtain ⟨Z1, H⟩ := iN_ H
  have C2 := va Z1
  have D2 := ta Z1
  try have E2 : (9223372036854775807 < x0.size + (d0.extract (a0 : Int).toNat ((wrap64 (a0 + (I0))) : Int).toNat).size) = False := eq_false (Nat.not_lt.2 Z1)
  have H' := aa.mk H
  clear H
  have hnb35 := p0.out
  have hnc35 := e0.out
  have J1 : wr.cell? ⟨f0, 0, none⟩ = some (.string d0) := (au b0.out 0).trans rfl
  have K1 : wr.cell? ⟨f0, 1, none⟩ = some (.int .i64 a0) := (au b0.out 1).trans rfl
  have L1 := aj b0.out 0
  have M1 := aj b0.out 1
  go_wp2
  go_roundg k2
  case measure => have := Y0.out; have := l1.out; omega
  case rel => exact ⟨(x0 ++ (d0.extract (a0 : Int).toNat ((wrap64 (a0 + (I0))) : Int).toNat)), (d0), (wrap64 (a0 + (I0))), (by first | rfl | (simp; done) | (simp only [← D0] <;> (first | rfl | simp)) | (simp [*]; done)), H', ⟨by have := Y0.out; have := l1.out; omega⟩, ⟨by refine kK_ ?_; refine bV (cs := #[.string d0, .int .i64 a0]) ?_ 1 _ rfl; refine kK_ ?_; exact b0.out⟩, ⟨by refine kK_ ?_; refine dL ?_ e0.out _; refine kK_ ?_; exact k0.out⟩, ⟨(u0_ t0.out v0.out)⟩⟩

end Go.Proofs.YtielligodgabiaaGreatDoor.P
