-- printed texts of this session, regrouped
import Derived.Test.YtooanbpkknlmjaaGreatDoorHB3
namespace Go.Proofs.YtooanbpkknlmjaaGreatDoor.P
open Go.RowKit YtooanbpkknlmjaaGreatDoorW.PrintWords YtooanbpkknlmjaaGreatDoorW.PrintLast YtooanbpkknlmjaaGreatDoorW.PrintMore
attribute [local go_sem] dZ d4 eE ev dx dy dV dX
set_option linter.unusedVariables false
set_option linter.unusedSimpArgs false
mutual
def ap.j0 : Nat → Int → Bool → ByteArray → Int → Option (ByteArray × Int × ByteArray)
 | 0, _, _, _, _ => none
 | k + 1, x1, x22, x812000, x812001 => if x22 = true then (some (x812000, x812001, (⟨#[]⟩ : ByteArray))) else (ap.l0 k x1 (⟨#[]⟩ : ByteArray) x812000 x812001)
def ap.l0 : Nat → Int → ByteArray → ByteArray → Int → Option (ByteArray × Int × ByteArray)
 | 0, _, _, _, _ => none
 | k + 1, x1, x6, x812000, x812001 => if (x6.size : Int) < x1 then (if x812001 = 168 then ((dz.f x812000).bind fun t815 => (if 0 ≤ (wrap64 (0 + (mn (wrap64 (x1 - (x6.size : Int))) 168))) then (if (wrap64 (0 + (mn (wrap64 (x1 - (x6.size : Int))) 168))) ≤ (t815.size : Int) then (if x6.size + (t815.extract 0 ((wrap64 (0 + (mn (wrap64 (x1 - (x6.size : Int))) 168))) : Int).toNat).size ≤ 9223372036854775807 then (ap.l0 k x1 (x6 ++ (t815.extract 0 ((wrap64 (0 + (mn (wrap64 (x1 - (x6.size : Int))) 168))) : Int).toNat)) t815 (wrap64 (0 + (mn (wrap64 (x1 - (x6.size : Int))) 168)))) else (none)) else (none)) else (none))) else (if 0 ≤ x812001 then (if x812001 ≤ (wrap64 (x812001 + (mn (wrap64 (x1 - (x6.size : Int))) (wrap64 (168 - x812001))))) then (if (wrap64 (x812001 + (mn (wrap64 (x1 - (x6.size : Int))) (wrap64 (168 - x812001))))) ≤ (x812000.size : Int) then (if x6.size + (x812000.extract (x812001 : Int).toNat ((wrap64 (x812001 + (mn (wrap64 (x1 - (x6.size : Int))) (wrap64 (168 - x812001))))) : Int).toNat).size ≤ 9223372036854775807 then (ap.l0 k x1 (x6 ++ (x812000.extract (x812001 : Int).toNat ((wrap64 (x812001 + (mn (wrap64 (x1 - (x6.size : Int))) (wrap64 (168 - x812001))))) : Int).toNat)) x812000 (wrap64 (x812001 + (mn (wrap64 (x1 - (x6.size : Int))) (wrap64 (168 - x812001)))))) else (none)) else (none)) else (none)) else (none))) else (some (x812000, x812001, x6))
end
def ap.f (k : Nat) (a0_0 : ByteArray) (a0_1 : Int) (a1 : Int) : Option (ByteArray × Int × ByteArray) := (bV.f a1 0 4000).bind fun t813 => (if t813 = true then (if (a0_0.size : Int) = 200 then ((bV.f a0_1 0 168).bind fun t814 => (ap.j0 k a1 (!t814) a0_0 a0_1)) else (ap.j0 k a1 true a0_0 a0_1)) else (ap.j0 k a1 true a0_0 a0_1))
theorem ap.mono_l : ∀ k, (∀ y0 y1 y2 y3, LeO (ap.j0 k y0 y1 y2 y3) (ap.j0 (k + 1) y0 y1 y2 y3)) ∧ (∀ y0 y1 y2 y3, LeO (ap.l0 k y0 y1 y2 y3) (ap.l0 (k + 1) y0 y1 y2 y3))
 | 0 => ⟨fun _ _ _ _ r h => by simp [ap.j0] at h, fun _ _ _ _ r h => by simp [ap.l0] at h⟩
 | k + 1 => by
  obtain ⟨ih0, ih1⟩ := ap.mono_l k
  refine ⟨?_, ?_⟩ <;> (intros; (first | unfold ap.j0 | unfold ap.l0); exact o2_ ih0 ih1)
theorem ap.mono : ∀ a0 a1 a2 k, LeO (ap.f k a0 a1 a2) (ap.f (k + 1) a0 a1 a2) := by
 intro a0 a1 a2 k
 obtain ⟨ih0, ih1⟩ := ap.mono_l k
 unfold ap.f
 exact o2_ ih0 ih1
set_option maxHeartbeats 8000000 in
set_option maxRecDepth 100000 in
theorem ap.calls (k : Nat) (q0 : ByteArray) (t0 : Int) (a1 : Int) (r1 : ByteArray) (r2 : Int) (r3 : ByteArray) (w : World) (h : ap.f k q0 t0 a1 = some (r1, r2, r3)) :
  Calls Tryz.prog 99 #[.agg #[.string q0, .int .i64 t0], .int .i64 a1] w fun e w' => e = .returned (.tuple #[.agg #[.string r1, .int .i64 r2], .string r3]) ∧ Below w.heap.size w w' := by
 have hu85 := Tryz.underlying85
 have HB := c_ (Ba w.heap.size w)
 delta ap.f at h
 have H := h
 clear h
 have M1 := c_ H
 clear H
 go_enter Tryz.func99, Tryz.ntmps99
 go_upto_region 1 with (first | ((refine aI (N := 2) rfl ?_); (try (refine bn (by rfl) ?_; dsimp only)); refine cz ?hg (N := 2) ?hd (cs := #[.string q0, .int .i64 t0]) (t := 85) ?hr ?_; (case hd => rfl); (case hg => rfl); (case hr => first | (go_simp; done) | (go_simp; rfl)); intro f0 hg w4 hbox hb; obtain ⟨HB, b0, Z1, r0⟩ := b_ (ab (hB_) hb) <| b_ (hbox) <| b_ (by rw [hg]; exact (ac (hB_)) : w.heap.size ≤ f0) <| c_ (by rw [hg]; exact (ac (hB_)) : w.heap.size ≤ f0); clear hb hbox hg) | ((refine aI (N := 4) rfl ?_); (try (refine bn (by rfl) ?_; dsimp only)); refine cz ?hg (N := 4) ?hd (cs := #[.string (⟨#[]⟩ : ByteArray), .int .i64 0]) (t := 85) ?hr ?_; (case hd => rfl); (case hg => rfl); (case hr => first | (go_simp; done) | (go_simp; rfl)); intro p0 hg w5 hbox hb; obtain ⟨b0, HB, k0, b2, u0, n0, e0⟩ := b_ (bM (g := f0) (o := .cells #[.string q0, .int .i64 t0] 85 (0, 0)) (rK_ b0.o) hb) <| b_ (ab (hS_ r0.o) hb) <| b_ (hbox) <| b_ (by rw [hg]; exact (ac (hS_ r0.o)) : w.heap.size ≤ p0) <| b_ (by rw [hg]; exact (ac (hS_ r0.o)) : w.heap.size ≤ p0) <| b_ (by rw [hg]; exact Nat.ne_of_lt (eM (g := f0) (o := .cells #[.string q0, .int .i64 t0] 85 (0, 0)) (rK_ b0.o)) : f0 ≠ p0) <| c_ (by rw [hg]; exact Nat.ne_of_gt (eM (g := f0) (o := .cells #[.string q0, .int .i64 t0] 85 (0, 0)) (rK_ b0.o)) : p0 ≠ f0); clear hb hbox hg))
 (try simp only [Act.put, List.setIfInBounds_toArray, List.set_cons_zero, List.set_cons_succ])
 go_cut [22] (fun D2 wc => ∃ (kq : Nat) (y0 : Bool), D2 = .bool y0 ∧ aa (ap.j0 kq a1 y0 q0 t0 = some (r1, r2, r3)) ∧ aa (kq ≤ k) ∧ aa (wc.heap[f0]? = some (.cells #[.string q0, .int .i64 t0] 85 (0, 0))) ∧ aa (wc.heap[p0]? = some (.cells #[.string (⟨#[]⟩ : ByteArray), .int .i64 0] 85 (0, 0))) ∧ aa (Below w.heap.size w wc))
 case first =>
  have H := M1.o
  clear M1
  obtain ⟨N1, A6, H⟩ := bN_ H
  by_cases c7 : N1 = true
  ·subst c7
   replace H := iT_ H
   by_cases c8 : (q0.size : Int) = 200
   ·rw [Da c8] at H
    have F0 : ((q0.size : Int) == 200) = true := beq_iff_eq.mpr c8
    have O1 : ((q0.size : Int) != 200) = false := bne_eq_false_iff_eq.mpr c8
    clear c8
    (first | rw [F0] | (simp only [bv, cG]; rw [F0]) | skip)
    obtain ⟨L0, A9, H⟩ := bN_ H
    have H' := c_ H
    clear H
    go_wp2_with (first | (refine gq_ 79 (some 9) Tryz.func79 #[.int .i64 a1, .int .i64 0, .int .i64 4000] (bV.calls a1 0 4000 true _ A6.o) ?_; rintro e w' ⟨rfl, ⟨nd, rfl⟩⟩; refine ⟨_, rfl, ?_⟩; have hnb10 := n0.o; have hnc10 := e0.o; have P0 : w5.cell? ⟨f0, 0, none⟩ = some (.string q0) := (ar b0.o 0).trans rfl; have Q0 : w5.cell? ⟨f0, 1, none⟩ = some (.int .i64 t0) := (ar b0.o 1).trans rfl; have R0 := aj b0.o 0; have S0 := aj b0.o 1) | (go_at_call 79; (with_reducible refine (bV.calls t0 0 168 L0 _ A9.o).mono ?_); rintro e w' ⟨rfl, ⟨nd, rfl⟩⟩))
    go_meet
    case rel => exact ⟨_, (!L0), f0_, H', ⟨by first | omega | exact Aa _⟩, ⟨by refine kK_ ?_; exact b0.o⟩, ⟨by refine kK_ ?_; exact k0.o⟩, ⟨(u0_ r0.o u0.o)⟩⟩
   rw [Ea c8] at H
   have F0 : ((q0.size : Int) == 200) = false := beq_eq_false_iff_ne.mpr c8
   have O1 : ((q0.size : Int) != 200) = true := bne_iff_ne.mpr c8
   (first | rw [F0] | (simp only [bv, cG]; rw [F0]) | skip)
   have H' := c_ H
   clear H
   go_wp2_with (first | (refine gq_ 79 (some 9) Tryz.func79 #[.int .i64 a1, .int .i64 0, .int .i64 4000] (bV.calls a1 0 4000 true _ A6.o) ?_; rintro e w' ⟨rfl, ⟨nd, rfl⟩⟩; refine ⟨_, rfl, ?_⟩; have hnb12 := n0.o; have hnc12 := e0.o; have T0 : w5.cell? ⟨f0, 0, none⟩ = some (.string q0) := (ar b0.o 0).trans rfl; have U0 : w5.cell? ⟨f0, 1, none⟩ = some (.int .i64 t0) := (ar b0.o 1).trans rfl; have V0 := aj b0.o 0; have W0 := aj b0.o 1))
   go_meet
   case rel => exact ⟨_, (true), f0_, H', ⟨by first | omega | exact Aa _⟩, ⟨by refine kK_ ?_; exact b0.o⟩, ⟨by refine kK_ ?_; exact k0.o⟩, ⟨(u0_ r0.o u0.o)⟩⟩
  ·replace c7 := Ca c7
   subst c7
   replace H := iF_ H
   have H' := c_ H
   clear H
   go_wp2_with (first | (refine gq_ 79 (some 9) Tryz.func79 #[.int .i64 a1, .int .i64 0, .int .i64 4000] (bV.calls a1 0 4000 false _ A6.o) ?_; rintro e w' ⟨rfl, ⟨nd, rfl⟩⟩; refine ⟨_, rfl, ?_⟩))
   go_meet
   case rel => exact ⟨_, (true), f0_, H', ⟨by first | omega | exact Aa _⟩, ⟨by refine kK_ ?_; exact b0.o⟩, ⟨by refine kK_ ?_; exact k0.o⟩, ⟨(u0_ r0.o u0.o)⟩⟩
 clear M1
 obtain ⟨kq, y0, rfl, HA, X0, b0, k0, HB⟩ := hcut
 rcases kq with _ | c2
 ·exact absurd HA.o (by simp [ap.j0])
 have H := HA.o
 clear HA
 simp only [ap.j0] at H
 by_cases Y0 : y0 = true
 ·subst Y0
  replace H := iT_ H
  simp only [Option.some.injEq, Prod.mk.injEq] at H
  obtain ⟨rfl, rfl, rfl⟩ := H
  have hnb15 := n0.o
  have hnc15 := e0.o
  have Z0 : wc.cell? ⟨f0, 0, none⟩ = some (.string q0) := (ar b0.o 0).trans rfl
  have b1 : wc.cell? ⟨f0, 1, none⟩ = some (.int .i64 t0) := (ar b0.o 1).trans rfl
  have c1 := aj b0.o 0
  have d1 := aj b0.o 1
  have e1 : wc.cell? ⟨p0, 0, none⟩ = some (.string (⟨#[]⟩ : ByteArray)) := (ar k0.o 0).trans rfl
  have f1 : wc.cell? ⟨p0, 1, none⟩ = some (.int .i64 0) := (ar k0.o 1).trans rfl
  have g1 := aj k0.o 0
  have i1 := aj k0.o 1
  go_wp2
  refine bodyPost_ret (jh rfl _ _ p0 85 #[.string q0, .int .i64 t0] (0, 0) _ rfl (by refine kK_ ?_; refine cd (cs := #[.string q0, .int .i64 0]) ?_ 1 _ rfl; refine kK_ ?_; refine cd (cs := #[.string (⟨#[]⟩ : ByteArray), .int .i64 0]) ?_ 0 _ rfl; exact rK_ k0.o) Tryz.underlying85 rfl (by kernel_rfl)) rfl ?_
  exact ⟨f1_, (u0_ r0.o u0.o)⟩
 ·replace Y0 := Ca Y0
  subst Y0
  replace H := iF_ H
  have H' := c_ H
  clear H
  go_wp2
  go_loopg [6] c2 (fun kq v6 w' => ∃ (v0 : ByteArray) (d0 : ByteArray) (a0 : Int), v6 = .string v0 ∧ aa (ap.l0 kq a1 v0 d0 a0 = some (r1, r2, r3)) ∧ aa (kq ≤ c2) ∧ aa (w'.heap[f0]? = some (.cells #[.string d0, .int .i64 a0] 85 (0, 0))) ∧ aa (w'.heap[p0]? = some (.cells #[.string (⟨#[]⟩ : ByteArray), .int .i64 0] 85 (0, 0))) ∧ aa (Below w.heap.size w w'))
  case atStart => exact ⟨((⟨#[]⟩ : ByteArray)), (q0), (t0), f0_, H', ⟨Aa _⟩, ⟨by refine kK_ ?_; exact b0.o⟩, ⟨by refine kK_ ?_; exact k0.o⟩, ⟨(u0_ r0.o u0.o)⟩⟩
  clear H'
  obtain ⟨v0, d0, a0, rfl, HA, j1, b0, k0, HB⟩ := hrel
  rcases gk with _ | k2
  ·exact absurd HA.o (by simp [ap.l0])
  have H := HA.o
  clear HA
  simp only [ap.l0] at H
  by_cases K0 : (v0.size : Int) < a1
  rotate_left
  ·rw [Ea K0] at H
   have M0 := xa K0
   clear K0
   simp only [Option.some.injEq, Prod.mk.injEq] at H
   obtain ⟨rfl, rfl, rfl⟩ := H
   have hnb37 := n0.o
   have hnc37 := e0.o
   have l1 : wr.cell? ⟨f0, 0, none⟩ = some (.string d0) := (ar b0.o 0).trans rfl
   have m1 : wr.cell? ⟨f0, 1, none⟩ = some (.int .i64 a0) := (ar b0.o 1).trans rfl
   have n1 := aj b0.o 0
   have p1 := aj b0.o 1
   have q1 : wr.cell? ⟨p0, 0, none⟩ = some (.string (⟨#[]⟩ : ByteArray)) := (ar k0.o 0).trans rfl
   have t1 : wr.cell? ⟨p0, 1, none⟩ = some (.int .i64 0) := (ar k0.o 1).trans rfl
   have y1 := aj k0.o 0
   have z1 := aj k0.o 1
   go_wp2
   refine bodyPost_ret (jh rfl _ _ p0 85 #[.string d0, .int .i64 a0] (0, 0) _ rfl (by refine kK_ ?_; refine cd (cs := #[.string d0, .int .i64 0]) ?_ 1 _ rfl; refine kK_ ?_; refine cd (cs := #[.string (⟨#[]⟩ : ByteArray), .int .i64 0]) ?_ 0 _ rfl; exact rK_ k0.o) Tryz.underlying85 rfl (by kernel_rfl)) rfl ?_
   exact ⟨f1_, (u0_ r0.o u0.o)⟩
  rw [Da K0] at H
  have M0 := wa K0
  clear K0
  by_cases I0 : a0 = 168
  ·rw [Da I0] at H
   have N0 : (a0 == 168) = true := beq_iff_eq.mpr I0
   have O0 : (a0 != 168) = false := bne_eq_false_iff_eq.mpr I0
   clear I0
   obtain ⟨D0, P1, H⟩ := bN_ H
   obtain ⟨G0, B0⟩ : ∃ j_ : Int, (mn (wrap64 (a1 - (v0.size : Int))) 168) = j_ := ⟨_, rfl⟩
   first | rw [B0] at H | simp only [B0] at H
   (try rw [B0] at P1)
   have Q1 : (if 168 < (wrap64 (a1 - (v0.size : Int))) then 168 else (wrap64 (a1 - (v0.size : Int)))) = G0 := B0
   obtain ⟨E0, x0⟩ : ∃ j_ : Int, (wrap64 (0 + (G0))) = j_ := ⟨_, rfl⟩
   first | rw [x0] at H | simp only [x0] at H
   (try rw [x0] at P1)
   have R1 : (IntKind.i64.wrap (0 + (G0))) = E0 := (bv _).trans x0
   have J0 : (wrap64 (G0)) = E0 := by rw [← x0, Int.zero_add]
   have hji22y : IntKind.i64.wrap (G0) = E0 := (bv _).trans J0
   obtain ⟨S1, H⟩ := iN_ H
   have d2 := ya S1
   have e2 := wa S1
   clear S1
   obtain ⟨T1, H⟩ := iN_ H
   have f2 := ya T1
   have g2 := wa T1
   clear T1
   obtain ⟨U1, H⟩ := iN_ H
   have i2 := ya U1
   have j2 := wa U1
   try have l2 : (9223372036854775807 < v0.size + (D0.extract 0 ((E0) : Int).toNat).size) = False := eq_false (Nat.not_lt.2 U1)
   have H' := c_ H
   clear H
   have hnb26 := n0.o
   have hnc26 := e0.o
   have A1 : wr.cell? ⟨f0, 0, none⟩ = some (.string d0) := (ar b0.o 0).trans rfl
   have B1 : wr.cell? ⟨f0, 1, none⟩ = some (.int .i64 a0) := (ar b0.o 1).trans rfl
   have C1 := aj b0.o 0
   have D1 := aj b0.o 1
   go_wp2_with (first | (refine gq_ 104 (some 33) Tryz.func104 #[.string d0] (dz.calls d0 D0 _ P1.o) ?_; rintro e m2 ⟨rfl, hb⟩; refine ⟨_, rfl, ?_⟩; obtain ⟨b0, k0, HB⟩ := b_ (bM (g := f0) (o := .cells #[.string d0, .int .i64 a0] 85 (0, 0)) (rK_ b0.o) hb) <| b_ (bM (g := p0) (o := .cells #[.string (⟨#[]⟩ : ByteArray), .int .i64 0] 85 (0, 0)) (rK_ k0.o) hb) <| c_ (ab ((u0_ r0.o u0.o)) hb); have E1 : m2.cell? ⟨f0, 0, none⟩ = some (.string d0) := (ar b0.o 0).trans rfl; have F1 : m2.cell? ⟨f0, 1, none⟩ = some (.int .i64 a0) := (ar b0.o 1).trans rfl; have G1 := aj b0.o 0; have H1 := aj b0.o 1))
   go_roundg k2
   case measure => have := X0.o; have := j1.o; omega
   case rel => exact ⟨(v0 ++ (D0.extract 0 ((E0) : Int).toNat)), (D0), (E0), (by first | rfl | (simp; done) | (simp only [← x0] <;> (first | rfl | simp)) | (simp [*]; done)), H', ⟨by have := X0.o; have := j1.o; omega⟩, ⟨by refine kK_ ?_; refine cd (cs := #[.string D0, .int .i64 0]) ?_ 1 _ rfl; refine kK_ ?_; refine cd (cs := #[.string D0, .int .i64 a0]) ?_ 1 _ rfl; refine kK_ ?_; refine cd (cs := #[.string d0, .int .i64 a0]) ?_ 0 _ rfl; refine kK_ ?_; exact b0.o⟩, ⟨by refine kK_ ?_; refine d6 ?_ e0.o _; refine kK_ ?_; refine d6 ?_ e0.o _; refine kK_ ?_; refine d6 ?_ e0.o _; refine kK_ ?_; exact k0.o⟩, ⟨(u0_ r0.o u0.o)⟩⟩
  rw [Ea I0] at H
  have N0 : (a0 == 168) = false := beq_eq_false_iff_ne.mpr I0
  have O0 : (a0 != 168) = true := bne_iff_ne.mpr I0
  obtain ⟨H0, C0⟩ : ∃ j_ : Int, (mn (wrap64 (a1 - (v0.size : Int))) (wrap64 (168 - a0))) = j_ := ⟨_, rfl⟩
  first | rw [C0] at H | simp only [C0] at H
  have V1 : (if (wrap64 (168 - a0)) < (wrap64 (a1 - (v0.size : Int))) then (wrap64 (168 - a0)) else (wrap64 (a1 - (v0.size : Int)))) = H0 := C0
  obtain ⟨X1, H⟩ := iN_ H
  have n2 := ya X1
  have p2 := wa X1
  clear X1
  obtain ⟨q2, H⟩ := iN_ H
  have t2 := ya q2
  have u2 := wa q2
  obtain ⟨v2, H⟩ := iN_ H
  have y2 := ya v2
  have z2 := wa v2
  obtain ⟨Y1, H⟩ := iN_ H
  have A2 := ya Y1
  have B2 := wa Y1
  try have C2 : (9223372036854775807 < v0.size + (d0.extract (a0 : Int).toNat ((wrap64 (a0 + (H0))) : Int).toNat).size) = False := eq_false (Nat.not_lt.2 Y1)
  have H' := c_ H
  clear H
  have hnb35 := n0.o
  have hnc35 := e0.o
  have I1 : wr.cell? ⟨f0, 0, none⟩ = some (.string d0) := (ar b0.o 0).trans rfl
  have J1 : wr.cell? ⟨f0, 1, none⟩ = some (.int .i64 a0) := (ar b0.o 1).trans rfl
  have K1 := aj b0.o 0
  have L1 := aj b0.o 1
  go_wp2
  go_roundg k2
  case measure => have := X0.o; have := j1.o; omega
  case rel => exact ⟨(v0 ++ (d0.extract (a0 : Int).toNat ((wrap64 (a0 + (H0))) : Int).toNat)), (d0), (wrap64 (a0 + (H0))), (by first | rfl | (simp; done) | (simp only [← C0] <;> (first | rfl | simp)) | (simp [*]; done)), H', ⟨by have := X0.o; have := j1.o; omega⟩, ⟨by refine kK_ ?_; refine cd (cs := #[.string d0, .int .i64 a0]) ?_ 1 _ rfl; refine kK_ ?_; exact b0.o⟩, ⟨by refine kK_ ?_; refine d6 ?_ e0.o _; refine kK_ ?_; exact k0.o⟩, ⟨(u0_ r0.o u0.o)⟩⟩
end Go.Proofs.YtooanbpkknlmjaaGreatDoor.P
