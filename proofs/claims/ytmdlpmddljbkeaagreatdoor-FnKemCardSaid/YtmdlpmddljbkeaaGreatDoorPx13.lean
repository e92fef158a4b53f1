-- printed texts of this session, regrouped
import Derived.Test.YtmdlpmddljbkeaaGreatDoorHB6
import Derived.Test.YtmdlpmddljbkeaaGreatDoorPx12
namespace Go.Proofs.YtmdlpmddljbkeaaGreatDoor.P
open Go.RowKit YtmdlpmddljbkeaaGreatDoorW.PrintWords YtmdlpmddljbkeaaGreatDoorW.PrintLast YtmdlpmddljbkeaaGreatDoorW.PrintMore
open Kd
attribute [local go_sem] d3 dW eG eI dD dC dZ dY
set_option linter.unusedVariables false
set_option linter.unusedSimpArgs false
set_option maxHeartbeats 8000000
set_option maxRecDepth 100000
mutual
def aj.l0 : Nat → List Int → ByteArray → Int → ByteArray → Int → Option (List Int)
 | 0, _, _, _, _, _ => none
 | k + 1, x7, x9, x10, x507000, x507001 => if x10 < 4000 then (aj.j1 k x7 x9 x10 (decide ((x7.length : Int) < 256)) x507000 x507001) else (aj.j1 k x7 x9 x10 false x507000 x507001)
def aj.j1 : Nat → List Int → ByteArray → Int → Bool → ByteArray → Int → Option (List Int)
 | 0, _, _, _, _, _, _ => none
 | k + 1, x7, x9, x10, x31, x507000, x507001 => if x31 = true then (if (wrap64 ((Int.tmod x10 56) * 3)) = 0 then ((aw.f k x507000 x507001 168).bind fun bt507 => (aj.j2 k x7 bt507.2.2 x10 (wrap64 ((Int.tmod x10 56) * 3)) bt507.1 bt507.2.1)) else (aj.j2 k x7 x9 x10 (wrap64 ((Int.tmod x10 56) * 3)) x507000 x507001)) else (aj.l1 k x7)
def aj.j2 : Nat → List Int → ByteArray → Int → Int → ByteArray → Int → Option (List Int)
 | 0, _, _, _, _, _, _ => none
 | k + 1, x7, x9, x10, x11, x507000, x507001 => if 0 ≤ x11 then (if x11 < (x9.size : Int) then (if 0 ≤ (wrap64 (x11 + 1)) then (if (wrap64 (x11 + 1)) < (x9.size : Int) then (if 0 ≤ (wrap64 (x11 + 2)) then (if (wrap64 (x11 + 2)) < (x9.size : Int) then (if (wrap64 ((wrap64 (bt x9 x11)) + (wrap64 (256 * (Int.tmod (wrap64 (bt x9 (wrap64 (x11 + 1)))) 16))))) < 3329 then (if x7.length < 17592186044416 then ((some (x7 ++ [wrap64 ((wrap64 (bt x9 x11)) + (wrap64 (256 * (Int.tmod (wrap64 (bt x9 (wrap64 (x11 + 1)))) 16))))] : List Int)).bind fun y511 => (if (wrap64 ((wrap64 (Int.tdiv (wrap64 (bt x9 (wrap64 (x11 + 1)))) 16)) + (wrap64 (16 * (wrap64 (bt x9 (wrap64 (x11 + 2)))))))) < 3329 then (if (y511.length : Int) < 256 then (if y511.length < 17592186044416 then (aj.l0 k (y511 ++ [wrap64 ((wrap64 (Int.tdiv (wrap64 (bt x9 (wrap64 (x11 + 1)))) 16)) + (wrap64 (16 * (wrap64 (bt x9 (wrap64 (x11 + 2)))))))]) x9 (wrap64 (x10 + 1)) x507000 x507001) else (none)) else (aj.l0 k y511 x9 (wrap64 (x10 + 1)) x507000 x507001)) else (aj.l0 k y511 x9 (wrap64 (x10 + 1)) x507000 x507001))) else (none)) else (if (wrap64 ((wrap64 (Int.tdiv (wrap64 (bt x9 (wrap64 (x11 + 1)))) 16)) + (wrap64 (16 * (wrap64 (bt x9 (wrap64 (x11 + 2)))))))) < 3329 then (if (x7.length : Int) < 256 then (if x7.length < 17592186044416 then (aj.l0 k (x7 ++ [wrap64 ((wrap64 (Int.tdiv (wrap64 (bt x9 (wrap64 (x11 + 1)))) 16)) + (wrap64 (16 * (wrap64 (bt x9 (wrap64 (x11 + 2)))))))]) x9 (wrap64 (x10 + 1)) x507000 x507001) else (none)) else (aj.l0 k x7 x9 (wrap64 (x10 + 1)) x507000 x507001)) else (aj.l0 k x7 x9 (wrap64 (x10 + 1)) x507000 x507001))) else (none)) else (none)) else (none)) else (none)) else (none)) else (none)
def aj.l1 : Nat → List Int → Option (List Int)
 | 0, _ => none
 | k + 1, x7 => if (x7.length : Int) < 256 then (if x7.length < 17592186044416 then (aj.l1 k (x7 ++ [0])) else (none)) else (some x7)
end
def aj.f (k : Nat) (a0 : ByteArray) (a1 : Int) (a2 : Int) : Option (List Int) := (cG.f a1).bind fun t502 => (if a0.size + t502.size ≤ 9223372036854775807 then ((cG.f a2).bind fun t503 => (if (a0 ++ t502).size + t503.size ≤ 9223372036854775807 then ((cf.f k ((a0 ++ t502) ++ t503)).bind fun bt504 => (aj.l0 k (([] : List Int)) (⟨#[]⟩ : ByteArray) 0 bt504.1 bt504.2)) else (none))) else (none))
theorem aj.mono_l : ∀ k, (∀ y0 y1 y2 y3 y4, LeO (aj.l0 k y0 y1 y2 y3 y4) (aj.l0 (k + 1) y0 y1 y2 y3 y4)) ∧ (∀ y0 y1 y2 y3 y4 y5, LeO (aj.j1 k y0 y1 y2 y3 y4 y5) (aj.j1 (k + 1) y0 y1 y2 y3 y4 y5)) ∧ (∀ y0 y1 y2 y3 y4 y5, LeO (aj.j2 k y0 y1 y2 y3 y4 y5) (aj.j2 (k + 1) y0 y1 y2 y3 y4 y5)) ∧ (∀ y0, LeO (aj.l1 k y0) (aj.l1 (k + 1) y0))
 | 0 => ⟨fun _ _ _ _ _ r h => by simp [aj.l0] at h, fun _ _ _ _ _ _ r h => by simp [aj.j1] at h, fun _ _ _ _ _ _ r h => by simp [aj.j2] at h, fun _ r h => by simp [aj.l1] at h⟩
 | k + 1 => by
  obtain ⟨ih0, ih1, ih2, ih3⟩ := aj.mono_l k
  refine ⟨?_, ?_, ?_, ?_⟩ <;> (intros; (first | unfold aj.l0 | unfold aj.j1 | unfold aj.j2 | unfold aj.l1); exact o6_ ih0 ih1 ih2 ih3 cf.mono aw.mono)
theorem aj.mono : ∀ a0 a1 a2 k, LeO (aj.f k a0 a1 a2) (aj.f (k + 1) a0 a1 a2) := by
 intro a0 a1 a2 k
 obtain ⟨ih0, ih1, ih2, ih3⟩ := aj.mono_l k
 unfold aj.f
 exact o6_ ih0 ih1 ih2 ih3 cf.mono aw.mono
theorem aj.calls (k : Nat) (a0 : ByteArray) (a1 : Int) (a2 : Int) (r : List Int) (w : World) (h : aj.f k a0 a1 a2 = some r) :
  Calls Tryz.prog 56 #[.string a0, .int .i64 a1, .int .i64 a2] w fun e w' => ∃ D3 : Value, e = .returned (D3) ∧ Kd.R (Kd.int .i64) 3 w' w.heap.size (fun _ => True) D3 r ∧ Below w.heap.size w w' := by
 have hu96 := Tryz.underlying96
 have HB := c_ (Da w.heap.size w)
 delta aj.f at h
 have H := h
 clear h
 obtain ⟨f3, S0⟩ : ∃ y_ : List Int, y_ = (([] : List Int)) := ⟨_, rfl⟩
 first | replace H := yb_ S0 H | rw [← S0] at H
 have y1 := c_ S0
 clear S0
 obtain ⟨U1, A4, H⟩ := bN_ H
 obtain ⟨c5, H⟩ := iN_ H
 have Z3 := Aa c5
 have b4 := ya c5
 try have c4 : (9223372036854775807 < a0.size + U1.size) = False := eq_false (Nat.not_lt.2 c5)
 obtain ⟨p2, A6, H⟩ := bN_ H
 obtain ⟨c7, H⟩ := iN_ H
 have e4 := Aa c7
 have f4 := ya c7
 try have g3 : (9223372036854775807 < (a0 ++ U1).size + p2.size) = False := eq_false (Nat.not_lt.2 c7)
 try (have i3 : (9223372036854775807 < (a0 ++ U1).size + p2.size) = False := g3; simp only [ByteArray.size_append] at i3)
 obtain ⟨⟨q2, l3⟩, A8, H⟩ := bN_ H
 have H' := c_ H
 clear H
 go_enter Tryz.func56, Tryz.ntmps56
 go_wp2_with (first | ((try (refine bi (by rfl) ?_; dsimp only)); refine lj_ 16 .i64 3 y1 fun r2 w9 p0 HB => ?_) | (go_at_call 61; refine mb_ (cG.calls _ _ _ A4.o) fun E3 hb => ?_; obtain ⟨p0, HB⟩ := n_ (fR_ p0) <| sB_) | (go_at_call 61; refine mb_ (cG.calls _ _ _ A6.o) fun F3 hb => ?_; obtain ⟨p0, HB⟩ := n_ (fR_ p0) <| sB_) | (go_at_call 95; refine mb_ (cf.calls _ _ _ _ _ A8.o) fun G3 hb => ?_; obtain ⟨p0, HB⟩ := n_ (fR_ p0) <| sB_) | ((try (refine bi (by rfl) ?_; dsimp only)); refine bx_ 8 #[.string (⟨#[]⟩ : ByteArray), .int .i64 0] 96 fun k0 T1 hb HB b0 C0 => ?_; have p0 := fR_ p0; have T0 : T1.cell? ⟨k0, 0, none⟩ = some (.string (⟨#[]⟩ : ByteArray)) := (ah b0.o 0).trans rfl; have U0 : T1.cell? ⟨k0, 1, none⟩ = some (.int .i64 0) := (ah b0.o 1).trans rfl; have V0 := ae b0.o 0; have W0 := ae b0.o 1))
 repeat (go_quiet (first | ((try (refine bi (by rfl) ?_; dsimp only)); refine lj_ 16 .i64 3 y1 fun r2 w9 p0 HB => ?_) | (go_at_call 61; refine mb_ (cG.calls _ _ _ A4.o) fun E3 hb => ?_; obtain ⟨p0, HB⟩ := n_ (fR_ p0) <| sB_) | (go_at_call 61; refine mb_ (cG.calls _ _ _ A6.o) fun F3 hb => ?_; obtain ⟨p0, HB⟩ := n_ (fR_ p0) <| sB_) | (go_at_call 95; refine mb_ (cf.calls _ _ _ _ _ A8.o) fun G3 hb => ?_; obtain ⟨p0, HB⟩ := n_ (fR_ p0) <| sB_) | ((try (refine bi (by rfl) ?_; dsimp only)); refine bx_ 8 #[.string (⟨#[]⟩ : ByteArray), .int .i64 0] 96 fun k0 T1 hb HB b0 C0 => ?_; have p0 := fR_ p0; have T0 : T1.cell? ⟨k0, 0, none⟩ = some (.string (⟨#[]⟩ : ByteArray)) := (ah b0.o 0).trans rfl; have U0 : T1.cell? ⟨k0, 1, none⟩ = some (.int .i64 0) := (ah b0.o 1).trans rfl; have V0 := ae b0.o 0; have W0 := ae b0.o 1)); try go_wp2_with (first | ((try (refine bi (by rfl) ?_; dsimp only)); refine lj_ 16 .i64 3 y1 fun r2 w9 p0 HB => ?_) | (go_at_call 61; refine mb_ (cG.calls _ _ _ A4.o) fun E3 hb => ?_; obtain ⟨p0, HB⟩ := n_ (fR_ p0) <| sB_) | (go_at_call 61; refine mb_ (cG.calls _ _ _ A6.o) fun F3 hb => ?_; obtain ⟨p0, HB⟩ := n_ (fR_ p0) <| sB_) | (go_at_call 95; refine mb_ (cf.calls _ _ _ _ _ A8.o) fun G3 hb => ?_; obtain ⟨p0, HB⟩ := n_ (fR_ p0) <| sB_) | ((try (refine bi (by rfl) ?_; dsimp only)); refine bx_ 8 #[.string (⟨#[]⟩ : ByteArray), .int .i64 0] 96 fun k0 T1 hb HB b0 C0 => ?_; have p0 := fR_ p0; have T0 : T1.cell? ⟨k0, 0, none⟩ = some (.string (⟨#[]⟩ : ByteArray)) := (ah b0.o 0).trans rfl; have U0 : T1.cell? ⟨k0, 1, none⟩ = some (.int .i64 0) := (ah b0.o 1).trans rfl; have V0 := ae b0.o 0; have W0 := ae b0.o 1)))
 go_loopg [7, 9, 10] k (fun kq v7 v9 g4 w' => ∃ (H0 : List Int) (z1 : ByteArray) (x0 : Int) (f0 : ByteArray) (e0 : Int), v9 = .string z1 ∧ g4 = .int .i64 x0 ∧ aa (aj.l0 kq H0 z1 x0 f0 e0 = some r) ∧ aa (kq ≤ k) ∧ aa (Kd.R (Kd.int .i64) 3 w' w.heap.size (fun _ => True) v7 H0) ∧ aa (w'.heap[k0]? = some (.cells #[.string f0, .int .i64 e0] 96 (0, 0))) ∧ aa (Below w.heap.size w w'))
 case atStart => exact ⟨(f3), ((⟨#[]⟩ : ByteArray)), (0), (q2), (l3), f0_, f0_, H', ⟨Ca _⟩, ⟨by refine kR_ ?_; exact va (vt (vt (vr p0.o b0.o (by decide)) (fun _ hk => hk.2) _) (fun _ hk => hk.2) _) (fun _ hk => trivial)⟩, ⟨by refine kK_ ?_; refine bO (cs := #[.string q2, .int .i64 0]) ?_ 1 _ rfl; refine kK_ ?_; refine bO (cs := #[.string (⟨#[]⟩ : ByteArray), .int .i64 0]) ?_ 0 _ rfl; refine kK_ ?_; exact b0.o⟩, ⟨hS_ C0.o⟩⟩
 clear H'
 obtain ⟨H0, z1, x0, f0, e0, rfl, rfl, HA, N0, j0, b0, HB⟩ := hrel
 rcases gk with _ | k1
 ·exact absurd HA.o (by simp [aj.l0])
 have H := HA.o
 clear HA
 simp only [aj.l0] at H
 have V1 := c_ H
 clear H
 go_upto_region 5 with (fail)
 repeat (go_quiet (fail); go_upto_region 5 with (fail))
 go_cut [31] (fun i4 wc => ∃ (kq : Nat) (M0 : Bool), i4 = .bool M0 ∧ aa (aj.j1 kq H0 z1 x0 M0 f0 e0 = some r) ∧ aa (kq ≤ k1) ∧ aa (Kd.R (Kd.int .i64) 3 wc w.heap.size (fun _ => True) u7 H0) ∧ aa (wc.heap[k0]? = some (.cells #[.string f0, .int .i64 e0] 96 (0, 0))) ∧ aa (Below w.heap.size w wc))
 case first =>
  have H := V1.o
  clear V1
  by_cases c2 : x0 < 4000
  ·rw [Fa c2] at H
   have O0 := ya c2
   clear c2
   (first | rw [O0] | (simp only [bq, ct]; rw [O0]) | skip)
   have H' := c_ H
   clear H
   obtain ⟨l4, n4, m3⟩ := uY j0.o
   subst m3
   go_wp2
   repeat (go_quiet (fail); try go_wp2)
   go_meet
   case rel => exact ⟨_, (decide ((H0.length : Int) < 256)), f0_, H', ⟨by have := N0.o; first | omega | exact Ca _⟩, ⟨rR_ j0.o⟩, ⟨by refine kK_ ?_; exact b0.o⟩, ⟨hS_ C0.o⟩⟩
  rw [Ga c2] at H
  have O0 := za c2
  clear c2
  (first | rw [O0] | (simp only [bq, ct]; rw [O0]) | skip)
  have H' := c_ H
  clear H
  go_wp2
  repeat (go_quiet (fail); try go_wp2)
  go_meet
  case rel => exact ⟨_, (false), f0_, H', ⟨by have := N0.o; first | omega | exact Ca _⟩, ⟨rR_ j0.o⟩, ⟨by refine kK_ ?_; exact b0.o⟩, ⟨hS_ C0.o⟩⟩
 clear V1
 obtain ⟨kq, M0, rfl, HA, I0, j0, b0, HB⟩ := hcut
 rcases kq with _ | X1
 ·exact absurd HA.o (by simp [aj.j1])
 have H := HA.o
 clear HA
 simp only [aj.j1] at H
 by_cases Y2 : M0 = true
 ·subst Y2
  replace H := iT_ H
  have Y1 := c_ H
  clear H
  go_upto_if 38 with (fail)
  repeat (go_quiet (fail); go_upto_if 38 with (fail))
  go_cut [9] (fun v9 wc => ∃ (kq : Nat) (d0 : ByteArray) (q0 : ByteArray) (r0 : Int), v9 = .string d0 ∧ aa (aj.j2 kq H0 d0 x0 (wrap64 ((Int.tmod x0 56) * 3)) q0 r0 = some r) ∧ aa (kq ≤ X1) ∧ aa (Kd.R (Kd.int .i64) 3 wc w.heap.size (fun _ => True) u7 H0) ∧ aa (wc.heap[k0]? = some (.cells #[.string q0, .int .i64 r0] 96 (0, 0))) ∧ aa (Below w.heap.size w wc))
  case first =>
   have H := Y1.o
   clear Y1
   by_cases Z1 : (wrap64 ((Int.tmod x0 56) * 3)) = 0
   ·rw [Fa Z1] at H
    have P0 : ((wrap64 ((Int.tmod x0 56) * 3)) == 0) = true := beq_iff_eq.mpr Z1
    have t2 : ((wrap64 ((Int.tmod x0 56) * 3)) != 0) = false := bne_eq_false_iff_eq.mpr Z1
    clear Z1
    (first | rw [P0] | (simp only [bq, ct]; rw [P0]) | skip)
    obtain ⟨⟨b2, v2, n3⟩, p3, H⟩ := bN_ H
    have H' := c_ H
    clear H
    have Z2 : wc.cell? ⟨k0, 0, none⟩ = some (.string f0) := (ah b0.o 0).trans rfl
    have b3 : wc.cell? ⟨k0, 1, none⟩ = some (.int .i64 e0) := (ah b0.o 1).trans rfl
    have c3 := ae b0.o 0
    have e3 := ae b0.o 1
    go_wp2_with (first | (go_at_call 96; refine mb_ (aw.calls _ _ _ _ _ _ _ _ p3.o) fun H3 hb => ?_; obtain ⟨j0, b0, HB⟩ := n_ (fR_ j0) <| n_ (fK_ b0) <| sB_) | ((try (refine bi (by rfl) ?_; dsimp only)); refine bq_ 12 #[.string (⟨#[]⟩ : ByteArray), .int .i64 0] 96 fun F0 X0 hg hb HB D0 A1 => ?_; obtain ⟨j0, b0, y0, G0⟩ := n_ (fR_ j0) <| n_ (fK_ b0) <| b_ (by rw [hg]; exact Nat.ne_of_lt (eq (g := k0) (o := .cells #[.string f0, .int .i64 e0] 96 (0, 0)) (rK_ b0.o)) : k0 ≠ F0) <| c_ (by rw [hg]; exact Nat.ne_of_gt (eq (g := k0) (o := .cells #[.string f0, .int .i64 e0] 96 (0, 0)) (rK_ b0.o)) : F0 ≠ k0); clear hg; have hnb26 := G0.o; have hnc26 := y0.o; have Y0 : X0.cell? ⟨F0, 0, none⟩ = some (.string (⟨#[]⟩ : ByteArray)) := (ah D0.o 0).trans rfl; have Z0 : X0.cell? ⟨F0, 1, none⟩ = some (.int .i64 0) := (ah D0.o 1).trans rfl; have b1 := ae D0.o 0; have c1 := ae D0.o 1; have e1 : X0.cell? ⟨k0, 0, none⟩ = some (.string f0) := (ah b0.o 0).trans rfl; have f1 : X0.cell? ⟨k0, 1, none⟩ = some (.int .i64 e0) := (ah b0.o 1).trans rfl; have g1 := ae b0.o 0; have i1 := ae b0.o 1))
    repeat (go_quiet (first | (go_at_call 96; refine mb_ (aw.calls _ _ _ _ _ _ _ _ p3.o) fun H3 hb => ?_; obtain ⟨j0, b0, HB⟩ := n_ (fR_ j0) <| n_ (fK_ b0) <| sB_) | ((try (refine bi (by rfl) ?_; dsimp only)); refine bq_ 12 #[.string (⟨#[]⟩ : ByteArray), .int .i64 0] 96 fun F0 X0 hg hb HB D0 A1 => ?_; obtain ⟨j0, b0, y0, G0⟩ := n_ (fR_ j0) <| n_ (fK_ b0) <| b_ (by rw [hg]; exact Nat.ne_of_lt (eq (g := k0) (o := .cells #[.string f0, .int .i64 e0] 96 (0, 0)) (rK_ b0.o)) : k0 ≠ F0) <| c_ (by rw [hg]; exact Nat.ne_of_gt (eq (g := k0) (o := .cells #[.string f0, .int .i64 e0] 96 (0, 0)) (rK_ b0.o)) : F0 ≠ k0); clear hg; have hnb26 := G0.o; have hnc26 := y0.o; have Y0 : X0.cell? ⟨F0, 0, none⟩ = some (.string (⟨#[]⟩ : ByteArray)) := (ah D0.o 0).trans rfl; have Z0 : X0.cell? ⟨F0, 1, none⟩ = some (.int .i64 0) := (ah D0.o 1).trans rfl; have b1 := ae D0.o 0; have c1 := ae D0.o 1; have e1 : X0.cell? ⟨k0, 0, none⟩ = some (.string f0) := (ah b0.o 0).trans rfl; have f1 : X0.cell? ⟨k0, 1, none⟩ = some (.int .i64 e0) := (ah b0.o 1).trans rfl; have g1 := ae b0.o 0; have i1 := ae b0.o 1)); try go_wp2_with (first | (go_at_call 96; refine mb_ (aw.calls _ _ _ _ _ _ _ _ p3.o) fun H3 hb => ?_; obtain ⟨j0, b0, HB⟩ := n_ (fR_ j0) <| n_ (fK_ b0) <| sB_) | ((try (refine bi (by rfl) ?_; dsimp only)); refine bq_ 12 #[.string (⟨#[]⟩ : ByteArray), .int .i64 0] 96 fun F0 X0 hg hb HB D0 A1 => ?_; obtain ⟨j0, b0, y0, G0⟩ := n_ (fR_ j0) <| n_ (fK_ b0) <| b_ (by rw [hg]; exact Nat.ne_of_lt (eq (g := k0) (o := .cells #[.string f0, .int .i64 e0] 96 (0, 0)) (rK_ b0.o)) : k0 ≠ F0) <| c_ (by rw [hg]; exact Nat.ne_of_gt (eq (g := k0) (o := .cells #[.string f0, .int .i64 e0] 96 (0, 0)) (rK_ b0.o)) : F0 ≠ k0); clear hg; have hnb26 := G0.o; have hnc26 := y0.o; have Y0 : X0.cell? ⟨F0, 0, none⟩ = some (.string (⟨#[]⟩ : ByteArray)) := (ah D0.o 0).trans rfl; have Z0 : X0.cell? ⟨F0, 1, none⟩ = some (.int .i64 0) := (ah D0.o 1).trans rfl; have b1 := ae D0.o 0; have c1 := ae D0.o 1; have e1 : X0.cell? ⟨k0, 0, none⟩ = some (.string f0) := (ah b0.o 0).trans rfl; have f1 : X0.cell? ⟨k0, 1, none⟩ = some (.int .i64 e0) := (ah b0.o 1).trans rfl; have g1 := ae b0.o 0; have i1 := ae b0.o 1)))
    go_meet
    case rel => exact ⟨_, (n3), (b2), (v2), f0_, H', ⟨by have := N0.o; have := I0.o; first | omega | exact Ca _⟩, ⟨by refine kR_ ?_; exact va (vt (vt (vt (vt (vr (vr j0.o D0.o (by decide)) b0.o (by decide)) (fun _ hk => hk.1.2) (.string b2)) (fun _ hk => hk.1.2) (.int .i64 v2)) (fun _ hk => hk.2) _) (fun _ hk => hk.2) _) (fun _ hk => trivial)⟩, ⟨by refine kK_ ?_; refine bO (cs := #[.string b2, .int .i64 e0]) ?_ 1 _ rfl; refine kK_ ?_; refine bO (cs := #[.string f0, .int .i64 e0]) ?_ 0 _ rfl; refine kK_ ?_; refine dr ?_ y0.o _; refine kK_ ?_; refine dr ?_ y0.o _; refine kK_ ?_; exact b0.o⟩, ⟨(u2_ C0.o A1.o)⟩⟩
   rw [Ga Z1] at H
   have P0 : ((wrap64 ((Int.tmod x0 56) * 3)) == 0) = false := beq_eq_false_iff_ne.mpr Z1
   have t2 : ((wrap64 ((Int.tmod x0 56) * 3)) != 0) = true := bne_iff_ne.mpr Z1
   (first | rw [P0] | (simp only [bq, ct]; rw [P0]) | skip)
   have H' := c_ H
   clear H
   go_wp2
   repeat (go_quiet (fail); try go_wp2)
   go_meet
   case rel => exact ⟨_, (z1), (f0), (e0), f0_, H', ⟨by have := N0.o; have := I0.o; first | omega | exact Ca _⟩, ⟨rR_ j0.o⟩, ⟨by refine kK_ ?_; exact b0.o⟩, ⟨hS_ C0.o⟩⟩
  clear Y1
  obtain ⟨kq, d0, q0, r0, rfl, HA, L0, j0, b0, HB⟩ := hcut
  rcases kq with _ | r1
  ·exact absurd HA.o (by simp [aj.j2])
  have H := HA.o
  clear HA
  simp only [aj.j2] at H
  obtain ⟨B0, B1⟩ : ∃ j_ : Int, (wrap64 ((Int.tmod x0 56) * 3)) = j_ := ⟨_, rfl⟩
  first | rw [B1] at H | simp only [B1] at H
  have q3 : (IntKind.i64.wrap ((Int.tmod x0 56) * 3)) = B0 := (bq _).trans B1
  obtain ⟨I3, H⟩ := iD_ H
  obtain ⟨J3, H⟩ := iD_ H
  obtain ⟨n0, C1⟩ : ∃ j_ : Int, (wrap64 ((B0) + 1)) = j_ := ⟨_, rfl⟩
  first | rw [C1] at H | simp only [C1] at H
  have r3 : (IntKind.i64.wrap ((B0) + 1)) = n0 := (bq _).trans C1
  obtain ⟨K3, H⟩ := iD_ H
  obtain ⟨L3, H⟩ := iD_ H
  obtain ⟨E0, D1⟩ : ∃ j_ : Int, (wrap64 ((B0) + 2)) = j_ := ⟨_, rfl⟩
  first | rw [D1] at H | simp only [D1] at H
  have t3 : (IntKind.i64.wrap ((B0) + 2)) = E0 := (bq _).trans D1
  obtain ⟨M3, H⟩ := iD_ H
  obtain ⟨N3, H⟩ := iD_ H
  by_cases f2 : (wrap64 ((wrap64 (bt d0 (B0))) + (wrap64 (256 * (Int.tmod (wrap64 (bt d0 (n0))) 16))))) < 3329
  ·rw [Fa f2] at H
   have y2 := ya f2
   clear f2
   obtain ⟨O3, H⟩ := iN_ H
   have J0 := c_ O3
   clear O3
   obtain ⟨t1, m1⟩ : ∃ y_ : List Int, y_ = (H0 ++ [wrap64 ((wrap64 (bt d0 (B0))) + (wrap64 (256 * (Int.tmod (wrap64 (bt d0 (n0))) 16))))]) := ⟨_, rfl⟩
   first | replace H := yb_ m1 H | rw [← m1] at H
   have K0 := c_ m1
   clear m1
   by_cases g2 : (wrap64 ((wrap64 (Int.tdiv (wrap64 (bt d0 (n0))) 16)) + (wrap64 (16 * (wrap64 (bt d0 (E0))))))) < 3329
   rotate_left
   ·rw [Ga g2] at H
    have z2 := za g2
    clear g2
    have H' := c_ H
    clear H
    have A2 := Aa (oD_ : 0 ≤ ((B0) : Int))
    have B2 := Aa (oD_ : (B0) < (d0.size : Int))
    have E1 := cQ d0 (B0)
    have C2 := Aa (oD_ : 0 ≤ ((n0) : Int))
    have D2 := Aa (oD_ : (n0) < (d0.size : Int))
    have F1 := cQ d0 (n0)
    have E2 := Aa (oD_ : 0 ≤ ((n0) : Int))
    have F2 := Aa (oD_ : (n0) < (d0.size : Int))
    have G1 := cQ d0 (n0)
    have G2 := Aa (oD_ : 0 ≤ ((E0) : Int))
    have H2 := Aa (oD_ : (E0) < (d0.size : Int))
    have H1 := cQ d0 (E0)
    go_wp2_with (first | (refine ga_ 73 75 ?_; (try (refine bi (by rfl) ?_; dsimp only)); at_builtin; refine ap_ j0 K0 J0 Tryz.underlying45 df fun Q0 P3 v0 HB hg hat => ?_; have b0 := gK_ b0 j0))
    repeat (go_quiet (first | (refine ga_ 73 75 ?_; (try (refine bi (by rfl) ?_; dsimp only)); at_builtin; refine ap_ j0 K0 J0 Tryz.underlying45 df fun Q0 P3 v0 HB hg hat => ?_; have b0 := gK_ b0 j0)); try go_wp2_with (first | (refine ga_ 73 75 ?_; (try (refine bi (by rfl) ?_; dsimp only)); at_builtin; refine ap_ j0 K0 J0 Tryz.underlying45 df fun Q0 P3 v0 HB hg hat => ?_; have b0 := gK_ b0 j0)))
    go_roundg r1
    case measure => have := N0.o; have := I0.o; have := L0.o; omega
    case rel => exact ⟨(t1), (d0), (wrap64 (x0 + 1)), (q0), (r0), f0_, f0_, H', ⟨by have := N0.o; have := I0.o; have := L0.o; omega⟩, ⟨rR_ v0.o⟩, ⟨by refine kK_ ?_; exact b0.o⟩, ⟨hS_ C0.o⟩⟩
   rw [Fa g2] at H
   have z2 := ya g2
   clear g2
   by_cases i2 : (t1.length : Int) < 256
   ·rw [Fa i2] at H
    have I2 := ya i2
    have J2 : decide (t1.length < 256) = true := ya (by omega)
    clear i2
    obtain ⟨Q3, H⟩ := iN_ H
    have I1 := c_ Q3
    clear Q3
    obtain ⟨v3, n1⟩ : ∃ y_ : List Int, y_ = (t1 ++ [wrap64 ((wrap64 (Int.tdiv (wrap64 (bt d0 (n0))) 16)) + (wrap64 (16 * (wrap64 (bt d0 (E0))))))]) := ⟨_, rfl⟩
    first | replace H := yb_ n1 H | rw [← n1] at H
    have J1 := c_ n1
    clear n1
    have H' := c_ H
    clear H
    have A2 := Aa (oD_ : 0 ≤ ((B0) : Int))
    have B2 := Aa (oD_ : (B0) < (d0.size : Int))
    have E1 := cQ d0 (B0)
    have C2 := Aa (oD_ : 0 ≤ ((n0) : Int))
    have D2 := Aa (oD_ : (n0) < (d0.size : Int))
    have F1 := cQ d0 (n0)
    have E2 := Aa (oD_ : 0 ≤ ((n0) : Int))
    have F2 := Aa (oD_ : (n0) < (d0.size : Int))
    have G1 := cQ d0 (n0)
    have G2 := Aa (oD_ : 0 ≤ ((E0) : Int))
    have H2 := Aa (oD_ : (E0) < (d0.size : Int))
    have H1 := cQ d0 (E0)
    go_wp2_with (first | (refine ga_ 73 75 ?_; (try (refine bi (by rfl) ?_; dsimp only)); at_builtin; refine ap_ j0 K0 J0 Tryz.underlying45 df fun Q0 R3 v0 HB hg hat => ?_; have b0 := gK_ b0 j0; obtain ⟨K2, L2, K1⟩ := uY v0.o; subst K1) | (refine ga_ 84 86 ?_; (try (refine bi (by rfl) ?_; dsimp only)); at_builtin; refine ap_ v0 J1 I1 Tryz.underlying45 df fun M2 S3 L1 HB hg hat => ?_; have b0 := gK_ b0 v0))
    repeat (go_quiet (first | (refine ga_ 73 75 ?_; (try (refine bi (by rfl) ?_; dsimp only)); at_builtin; refine ap_ j0 K0 J0 Tryz.underlying45 df fun Q0 R3 v0 HB hg hat => ?_; have b0 := gK_ b0 j0; obtain ⟨K2, L2, K1⟩ := uY v0.o; subst K1) | (refine ga_ 84 86 ?_; (try (refine bi (by rfl) ?_; dsimp only)); at_builtin; refine ap_ v0 J1 I1 Tryz.underlying45 df fun M2 S3 L1 HB hg hat => ?_; have b0 := gK_ b0 v0)); try go_wp2_with (first | (refine ga_ 73 75 ?_; (try (refine bi (by rfl) ?_; dsimp only)); at_builtin; refine ap_ j0 K0 J0 Tryz.underlying45 df fun Q0 R3 v0 HB hg hat => ?_; have b0 := gK_ b0 j0; obtain ⟨K2, L2, K1⟩ := uY v0.o; subst K1) | (refine ga_ 84 86 ?_; (try (refine bi (by rfl) ?_; dsimp only)); at_builtin; refine ap_ v0 J1 I1 Tryz.underlying45 df fun M2 S3 L1 HB hg hat => ?_; have b0 := gK_ b0 v0)))
    go_roundg r1
    case measure => have := N0.o; have := I0.o; have := L0.o; omega
    case rel => exact ⟨(v3), (d0), (wrap64 (x0 + 1)), (q0), (r0), f0_, f0_, H', ⟨by have := N0.o; have := I0.o; have := L0.o; omega⟩, ⟨rR_ L1.o⟩, ⟨by refine kK_ ?_; exact b0.o⟩, ⟨hS_ C0.o⟩⟩
   rw [Ga i2] at H
   have I2 := za i2
   have J2 : decide (t1.length < 256) = false := za (by omega)
   clear i2
   have H' := c_ H
   clear H
   have A2 := Aa (oD_ : 0 ≤ ((B0) : Int))
   have B2 := Aa (oD_ : (B0) < (d0.size : Int))
   have E1 := cQ d0 (B0)
   have C2 := Aa (oD_ : 0 ≤ ((n0) : Int))
   have D2 := Aa (oD_ : (n0) < (d0.size : Int))
   have F1 := cQ d0 (n0)
   have E2 := Aa (oD_ : 0 ≤ ((n0) : Int))
   have F2 := Aa (oD_ : (n0) < (d0.size : Int))
   have G1 := cQ d0 (n0)
   have G2 := Aa (oD_ : 0 ≤ ((E0) : Int))
   have H2 := Aa (oD_ : (E0) < (d0.size : Int))
   have H1 := cQ d0 (E0)
   go_wp2_with (first | (refine ga_ 73 75 ?_; (try (refine bi (by rfl) ?_; dsimp only)); at_builtin; refine ap_ j0 K0 J0 Tryz.underlying45 df fun Q0 T3 v0 HB hg hat => ?_; have b0 := gK_ b0 j0; obtain ⟨N2, O2, M1⟩ := uY v0.o; subst M1))
   repeat (go_quiet (first | (refine ga_ 73 75 ?_; (try (refine bi (by rfl) ?_; dsimp only)); at_builtin; refine ap_ j0 K0 J0 Tryz.underlying45 df fun Q0 T3 v0 HB hg hat => ?_; have b0 := gK_ b0 j0; obtain ⟨N2, O2, M1⟩ := uY v0.o; subst M1)); try go_wp2_with (first | (refine ga_ 73 75 ?_; (try (refine bi (by rfl) ?_; dsimp only)); at_builtin; refine ap_ j0 K0 J0 Tryz.underlying45 df fun Q0 T3 v0 HB hg hat => ?_; have b0 := gK_ b0 j0; obtain ⟨N2, O2, M1⟩ := uY v0.o; subst M1)))
   go_roundg r1
   case measure => have := N0.o; have := I0.o; have := L0.o; omega
   case rel => exact ⟨(t1), (d0), (wrap64 (x0 + 1)), (q0), (r0), f0_, f0_, H', ⟨by have := N0.o; have := I0.o; have := L0.o; omega⟩, ⟨rR_ v0.o⟩, ⟨by refine kK_ ?_; exact b0.o⟩, ⟨hS_ C0.o⟩⟩
  rw [Ga f2] at H
  have y2 := za f2
  clear f2
  by_cases l2 : (wrap64 ((wrap64 (Int.tdiv (wrap64 (bt d0 (n0))) 16)) + (wrap64 (16 * (wrap64 (bt d0 (E0))))))) < 3329
  rotate_left
  ·rw [Ga l2] at H
   have P2 := za l2
   clear l2
   have H' := c_ H
   clear H
   have A2 := Aa (oD_ : 0 ≤ ((B0) : Int))
   have B2 := Aa (oD_ : (B0) < (d0.size : Int))
   have E1 := cQ d0 (B0)
   have C2 := Aa (oD_ : 0 ≤ ((n0) : Int))
   have D2 := Aa (oD_ : (n0) < (d0.size : Int))
   have F1 := cQ d0 (n0)
   have E2 := Aa (oD_ : 0 ≤ ((n0) : Int))
   have F2 := Aa (oD_ : (n0) < (d0.size : Int))
   have G1 := cQ d0 (n0)
   have G2 := Aa (oD_ : 0 ≤ ((E0) : Int))
   have H2 := Aa (oD_ : (E0) < (d0.size : Int))
   have H1 := cQ d0 (E0)
   go_wp2
   repeat (go_quiet (fail); try go_wp2)
   go_roundg r1
   case measure => have := N0.o; have := I0.o; have := L0.o; omega
   case rel => exact ⟨(H0), (d0), (wrap64 (x0 + 1)), (q0), (r0), f0_, f0_, H', ⟨by have := N0.o; have := I0.o; have := L0.o; omega⟩, ⟨rR_ j0.o⟩, ⟨by refine kK_ ?_; exact b0.o⟩, ⟨hS_ C0.o⟩⟩
  rw [Fa l2] at H
  have P2 := ya l2
  clear l2
  by_cases m2 : (H0.length : Int) < 256
  ·rw [Fa m2] at H
   have Q2 := ya m2
   have R2 : decide (H0.length < 256) = true := ya (by omega)
   clear m2
   obtain ⟨U3, H⟩ := iN_ H
   have N1 := c_ U3
   clear U3
   obtain ⟨w3, p1⟩ : ∃ y_ : List Int, y_ = (H0 ++ [wrap64 ((wrap64 (Int.tdiv (wrap64 (bt d0 (n0))) 16)) + (wrap64 (16 * (wrap64 (bt d0 (E0))))))]) := ⟨_, rfl⟩
   first | replace H := yb_ p1 H | rw [← p1] at H
   have O1 := c_ p1
   clear p1
   have H' := c_ H
   clear H
   have A2 := Aa (oD_ : 0 ≤ ((B0) : Int))
   have B2 := Aa (oD_ : (B0) < (d0.size : Int))
   have E1 := cQ d0 (B0)
   have C2 := Aa (oD_ : 0 ≤ ((n0) : Int))
   have D2 := Aa (oD_ : (n0) < (d0.size : Int))
   have F1 := cQ d0 (n0)
   have E2 := Aa (oD_ : 0 ≤ ((n0) : Int))
   have F2 := Aa (oD_ : (n0) < (d0.size : Int))
   have G1 := cQ d0 (n0)
   have G2 := Aa (oD_ : 0 ≤ ((E0) : Int))
   have H2 := Aa (oD_ : (E0) < (d0.size : Int))
   have H1 := cQ d0 (E0)
   obtain ⟨q4, t4, y3⟩ := uY j0.o
   subst y3
   go_wp2_with (first | (refine ga_ 84 86 ?_; (try (refine bi (by rfl) ?_; dsimp only)); at_builtin; refine ap_ j0 O1 N1 Tryz.underlying45 df fun T2 V3 P1 HB hg hat => ?_; have b0 := gK_ b0 j0))
   repeat (go_quiet (first | (refine ga_ 84 86 ?_; (try (refine bi (by rfl) ?_; dsimp only)); at_builtin; refine ap_ j0 O1 N1 Tryz.underlying45 df fun T2 V3 P1 HB hg hat => ?_; have b0 := gK_ b0 j0)); try go_wp2_with (first | (refine ga_ 84 86 ?_; (try (refine bi (by rfl) ?_; dsimp only)); at_builtin; refine ap_ j0 O1 N1 Tryz.underlying45 df fun T2 V3 P1 HB hg hat => ?_; have b0 := gK_ b0 j0)))
   go_roundg r1
   case measure => have := N0.o; have := I0.o; have := L0.o; omega
   case rel => exact ⟨(w3), (d0), (wrap64 (x0 + 1)), (q0), (r0), f0_, f0_, H', ⟨by have := N0.o; have := I0.o; have := L0.o; omega⟩, ⟨rR_ P1.o⟩, ⟨by refine kK_ ?_; exact b0.o⟩, ⟨hS_ C0.o⟩⟩
  rw [Ga m2] at H
  have Q2 := za m2
  have R2 : decide (H0.length < 256) = false := za (by omega)
  clear m2
  have H' := c_ H
  clear H
  have A2 := Aa (oD_ : 0 ≤ ((B0) : Int))
  have B2 := Aa (oD_ : (B0) < (d0.size : Int))
  have E1 := cQ d0 (B0)
  have C2 := Aa (oD_ : 0 ≤ ((n0) : Int))
  have D2 := Aa (oD_ : (n0) < (d0.size : Int))
  have F1 := cQ d0 (n0)
  have E2 := Aa (oD_ : 0 ≤ ((n0) : Int))
  have F2 := Aa (oD_ : (n0) < (d0.size : Int))
  have G1 := cQ d0 (n0)
  have G2 := Aa (oD_ : 0 ≤ ((E0) : Int))
  have H2 := Aa (oD_ : (E0) < (d0.size : Int))
  have H1 := cQ d0 (E0)
  obtain ⟨v4, w4, z3⟩ := uY j0.o
  subst z3
  go_wp2
  repeat (go_quiet (fail); try go_wp2)
  go_roundg r1
  case measure => have := N0.o; have := I0.o; have := L0.o; omega
  case rel => exact ⟨(H0), (d0), (wrap64 (x0 + 1)), (q0), (r0), f0_, f0_, H', ⟨by have := N0.o; have := I0.o; have := L0.o; omega⟩, ⟨rR_ j0.o⟩, ⟨by refine kK_ ?_; exact b0.o⟩, ⟨hS_ C0.o⟩⟩
 ·replace Y2 := Ea Y2
  subst Y2
  replace H := iF_ H
  have H' := c_ H
  clear H
  go_wp2
  repeat (go_quiet (fail); try go_wp2)
  go_loopg [7] X1 (fun kq v7 w' => ∃ (R0 : List Int), aa (aj.l1 kq R0 = some r) ∧ aa (kq ≤ X1) ∧ aa (Kd.R (Kd.int .i64) 3 w' w.heap.size (fun _ => True) v7 R0) ∧ aa (w'.heap[k0]? = some (.cells #[.string f0, .int .i64 e0] 96 (0, 0))) ∧ aa (Below w.heap.size w w'))
  case atStart => exact ⟨(H0), H', ⟨Ca _⟩, ⟨rR_ j0.o⟩, ⟨by refine kK_ ?_; exact b0.o⟩, ⟨hS_ C0.o⟩⟩
  clear H'
  obtain ⟨R0, HA, W3, j0, b0, HB⟩ := hrel
  rcases gk with _ | k3
  ·exact absurd HA.o (by simp [aj.l1])
  have H := HA.o
  clear HA
  simp only [aj.l1] at H
  by_cases n2 : (R0.length : Int) < 256
  ·rw [Fa n2] at H
   have U2 := ya n2
   have V2 : decide (R0.length < 256) = true := ya (by omega)
   clear n2
   obtain ⟨X3, H⟩ := iN_ H
   have Q1 := c_ X3
   clear X3
   obtain ⟨A3, q1⟩ : ∃ y_ : List Int, y_ = (R0 ++ [0]) := ⟨_, rfl⟩
   first | replace H := yb_ q1 H | rw [← q1] at H
   have R1 := c_ q1
   clear q1
   have H' := c_ H
   clear H
   obtain ⟨y4, z4, B3⟩ := uY j0.o
   subst B3
   go_wp2_with (first | (refine ga_ 91 92 ?_; (try (refine bi (by rfl) ?_; dsimp only)); at_builtin; refine ap_ j0 R1 Q1 Tryz.underlying45 df fun X2 Y3 S1 HB hg hat => ?_; have b0 := gK_ b0 j0))
   repeat (go_quiet (first | (refine ga_ 91 92 ?_; (try (refine bi (by rfl) ?_; dsimp only)); at_builtin; refine ap_ j0 R1 Q1 Tryz.underlying45 df fun X2 Y3 S1 HB hg hat => ?_; have b0 := gK_ b0 j0)); try go_wp2_with (first | (refine ga_ 91 92 ?_; (try (refine bi (by rfl) ?_; dsimp only)); at_builtin; refine ap_ j0 R1 Q1 Tryz.underlying45 df fun X2 Y3 S1 HB hg hat => ?_; have b0 := gK_ b0 j0)))
   go_roundg k3
   case measure => have := N0.o; have := I0.o; have := W3.o; omega
   case rel => exact ⟨(A3), H', ⟨by have := N0.o; have := I0.o; have := W3.o; omega⟩, ⟨rR_ S1.o⟩, ⟨by refine kK_ ?_; exact b0.o⟩, ⟨hS_ C0.o⟩⟩
  rw [Ga n2] at H
  have U2 := za n2
  have V2 : decide (R0.length < 256) = false := za (by omega)
  clear n2
  obtain rfl := Ba H
  obtain ⟨B4, C4, C3⟩ := uY j0.o
  subst C3
  go_wp2
  repeat (go_quiet (fail); try go_wp2)
  go_ret
  exact ⟨_, f1_, rR_ j0.o, hS_ C0.o⟩
mutual
def ax.l0 : Nat → ByteArray → List (List Int) → Int → Option ((List (List Int)))
 | 0, _, _, _ => none
 | k + 1, x0, x3, x4 => if x4 < 2 then (ax.l1 k x0 x3 x4 0) else (some x3)
def ax.l1 : Nat → ByteArray → List (List Int) → Int → Int → Option ((List (List Int)))
 | 0, _, _, _, _ => none
 | k + 1, x0, x3, x4, x5 => if x5 < 2 then ((aj.f k x0 x5 x4).bind fun t526 => (if x3.length < 5864062014805 then (ax.l1 k x0 (x3 ++ [t526]) x4 (wrap64 (x5 + 1))) else (none))) else (ax.l0 k x0 x3 (wrap64 (x4 + 1)))
end
def ax.f (k : Nat) (a0 : ByteArray) : Option ((List (List Int))) := ax.l0 k a0 (([] : List (List Int))) 0
theorem ax.mono_l : ∀ k, (∀ y0 y1 y2, LeO (ax.l0 k y0 y1 y2) (ax.l0 (k + 1) y0 y1 y2)) ∧ (∀ y0 y1 y2 y3, LeO (ax.l1 k y0 y1 y2 y3) (ax.l1 (k + 1) y0 y1 y2 y3))
 | 0 => ⟨fun _ _ _ r h => by simp [ax.l0] at h, fun _ _ _ _ r h => by simp [ax.l1] at h⟩
 | k + 1 => by
  obtain ⟨ih0, ih1⟩ := ax.mono_l k
  refine ⟨?_, ?_⟩ <;> (intros; (first | unfold ax.l0 | unfold ax.l1); exact o3_ ih0 ih1 aj.mono)
theorem ax.mono : ∀ a0 k, LeO (ax.f k a0) (ax.f (k + 1) a0) := by
 intro a0 k
 obtain ⟨ih0, ih1⟩ := ax.mono_l k
 unfold ax.f
 exact o3_ ih0 ih1 aj.mono
theorem ax.calls (k : Nat) (a0 : ByteArray) (r : List (List Int)) (w : World) (h : ax.f k a0 = some r) :
  Calls Tryz.prog 25 #[.string a0] w fun e w' => ∃ M0 : Value, e = .returned (M0) ∧ Kd.S (Kd.slice 3 (Kd.int .i64)) 45 w' w.heap.size (fun _ => True) M0 r ∧ Below w.heap.size w w' := by
 have HB := c_ (Da w.heap.size w)
 delta ax.f at h
 have H := h
 clear h
 obtain ⟨G0, d0⟩ : ∃ y_ : List (List Int), y_ = (([] : List (List Int))) := ⟨_, rfl⟩
 first | replace H := yb_ d0 H | rw [← d0] at H
 have r0 := c_ d0
 clear d0
 have H' := c_ H
 clear H
 go_enter Tryz.func25, Tryz.ntmps25
 go_wp2_with (first | ((refine cO (N := 6) rfl ?_); refine wl (Kd.slice 3 (Kd.int .i64)) _ 45 ?hg (N := 6) ?hd (xs := ([] : List (List Int))) (inner := []) (ok := fun _ => True) (okp := fun _ => True) ?hr ?hp (fun _ hk => hk) trivial (Da _ _) (Ca _) (by simp) ?_; (case hd => rfl); (case hg => rfl); (case hr => first | (go_simp; done) | (go_simp; rfl)); (case hp => exact (eW.none _ _)); intro N0 w2 v0 hb hg_ hnew_; clear hg_ hnew_; (first | rw [← r0.o] at v0 | (simp only [Int.reduceToNat] at v0; rw [← r0.o] at v0)); obtain ⟨x0, HB⟩ := b_ (vG v0 (au (hB_))) <| sB_; clear hb v0))
 go_loopg [3, 4] k (fun kq v3 v4 w' => ∃ (p0 : List (List Int)) (f0 : Int), v4 = .int .i64 f0 ∧ aa (ax.l0 kq a0 p0 f0 = some r) ∧ aa (kq ≤ k) ∧ aa (Kd.S (Kd.slice 3 (Kd.int .i64)) 45 w' w.heap.size (fun _ => True) v3 p0) ∧ aa (Below w.heap.size w w'))
 case atStart => exact ⟨(G0), (0), f0_, H', ⟨Ca _⟩, ⟨rS_ x0.o⟩, ⟨hB_⟩⟩
 clear H'
 obtain ⟨p0, f0, rfl, HA, E0, b0, HB⟩ := hrel
 rcases gk with _ | k1
 ·exact absurd HA.o (by simp [ax.l0])
 have H := HA.o
 clear HA
 simp only [ax.l0] at H
 by_cases c4 : f0 < 2
 rotate_left
 ·rw [Ga c4] at H
  have H0 := za c4
  clear c4
  obtain rfl := Ba H
  go_wp2
  go_ret
  exact ⟨_, f1_, by refine kS_ ?_; exact b0.o, hB_⟩
 rw [Fa c4] at H
 have H0 := ya c4
 clear c4
 have H' := c_ H
 clear H
 go_wp2
 go_loopg [3, 5] k1 (fun kq v3 v5 w' => ∃ (j0 : List (List Int)) (k0 : Int), v5 = .int .i64 k0 ∧ aa (ax.l1 kq a0 j0 f0 k0 = some r) ∧ aa (kq ≤ k1) ∧ aa (Kd.S (Kd.slice 3 (Kd.int .i64)) 45 w' w.heap.size (fun _ => True) v3 j0) ∧ aa (Below w.heap.size w w'))
 case atStart => exact ⟨(p0), (0), f0_, H', ⟨Ca _⟩, ⟨rS_ b0.o⟩, ⟨hB_⟩⟩
 clear H'
 obtain ⟨j0, k0, rfl, HA, F0, b0, HB⟩ := hrel
 rcases gk with _ | k2
 ·exact absurd HA.o (by simp [ax.l1])
 have H := HA.o
 clear HA
 simp only [ax.l1] at H
 by_cases c5 : k0 < 2
 ·rw [Fa c5] at H
  have I0 := ya c5
  clear c5
  obtain ⟨q0, A6, H⟩ := bN_ H
  obtain ⟨c7, H⟩ := iN_ H
  have J0 := c_ c7
  clear c7
  obtain ⟨K0, e0⟩ : ∃ y_ : List (List Int), y_ = (j0 ++ [q0]) := ⟨_, rfl⟩
  first | replace H := yb_ e0 H | rw [← e0] at H
  have y0 := c_ e0
  clear e0
  have H' := c_ H
  clear H
  go_wp2_with (first | (refine gR_ (k_ 19 Tryz.func56) (aj.calls _ _ _ _ _ _ A6.o) fun O0 w8 ho_ hb => ?_; obtain ⟨b0, n0, HB⟩ := n_ (dg b0) <| n_ (lR_ ho_) <| sB_; obtain ⟨B0, C0, L0⟩ := uY n0.o; subst L0) | ((refine cH (b := .append) (xs := #[.tmp 15, .tmp 20]) rfl ?_); at_builtin; refine vw (Kd.slice 3 (Kd.int .i64)) (w0 := w) w.heap.size rfl (.tmp 15) (.tmp 20) 41 45 (.slice none 0 0) 24 rfl Tryz.underlying41 gN rfl (by decide) (by omega) u3 j0 q0 [.slice B0 q0.length C0] (fun _ => True) (fun k_ => some k_ = (.slice B0 q0.length C0 : Value).ownBlock) rfl rfl ?aP (fun k_ hk_ => ((va (ok' := fun k_ => ((fun _ => True)) k_ ∧ some k_ ≠ (u3 : Value).ownBlock) (vh (n0.o) (vi b0.o) (by decide)) (fun k_ hk => ⟨trivial, hk.2⟩))).1 k_ hk_.symm) ?aF ?aO ?aB ?aS ?aL ?_; (case aP => exact vP (va (vA rfl (va (ok' := fun k_ => ((fun _ => True)) k_ ∧ some k_ ≠ (u3 : Value).ownBlock) (vh (n0.o) (vi b0.o) (by decide)) (fun k_ hk => ⟨trivial, hk.2⟩))) (fun _ h_ => h_))); (case aB => exact (hB_)); (case aF => exact (fun _ _ => trivial)); (case aO => exact (by refine kS_ ?_; exact vk b0.o (fun k_ hk => ⟨trivial, fun e_ => hk.2 e_⟩))); (case aS => exact (au (hB_))); (case aL => have := J0.o; omega); intro P0 w9 ho hb hg hat; rw [← y0.o] at ho; obtain ⟨HB, D0⟩ := b_ (hb) <| c_ (ho); clear ho hb hg hat))
  go_roundg k2
  case measure => have := E0.o; have := F0.o; omega
  case rel => exact ⟨(K0), (wrap64 (k0 + 1)), f0_, H', ⟨by have := E0.o; have := F0.o; omega⟩, ⟨rS_ D0.o⟩, ⟨hB_⟩⟩
 rw [Ga c5] at H
 have I0 := za c5
 clear c5
 have H' := c_ H
 clear H
 go_wp2
 go_roundg k2
 case measure => have := E0.o; have := F0.o; omega
 case rel => exact ⟨(j0), (wrap64 (f0 + 1)), f0_, H', ⟨by have := E0.o; have := F0.o; omega⟩, ⟨rS_ b0.o⟩, ⟨hB_⟩⟩
def cU.f (k : Nat) (a0 : ByteArray) (a1 : Int) : Option (ByteArray × Bool) := (aX.f a1 0 4000).bind fun t552 => (if t552 = true then ((cf.f k a0).bind fun bt553 => ((aw.f k bt553.1 bt553.2 a1).bind fun bt555 => (some (bt555.2.2, true)))) else (some ((⟨#[]⟩ : ByteArray), false)))
theorem cU.mono : ∀ a0 a1 k, LeO (cU.f k a0 a1) (cU.f (k + 1) a0 a1) := by
 intro a0 a1 k
 unfold cU.f
 exact o2_ cf.mono aw.mono
theorem cU.calls (k : Nat) (a0 : ByteArray) (a1 : Int) (r1 : ByteArray) (r2 : Bool) (w : World) (h : cU.f k a0 a1 = some (r1, r2)) :
  Calls Tryz.prog 60 #[.string a0, .int .i64 a1] w fun e w' => e = .returned (.tuple #[.string r1, .bool r2]) ∧ Below w.heap.size w w' := by
 have hu96 := Tryz.underlying96
 have HB := c_ (Da w.heap.size w)
 delta cU.f at h
 have H := h
 clear h
 obtain ⟨p0, A3, H⟩ := bN_ H
 by_cases c4 : p0 = true
 ·subst c4
  replace H := iT_ H
  obtain ⟨⟨q0, r0⟩, A5, H⟩ := bN_ H
  obtain ⟨⟨v0, x0, y0⟩, A6, H⟩ := bN_ H
  simp only [Option.some.injEq, Prod.mk.injEq] at H
  obtain ⟨rfl, rfl⟩ := H
  go_enter Tryz.func60, Tryz.ntmps60
  go_wp2_with (first | (refine gp_ (k_ 9 Tryz.func97) (aX.calls _ _ _ _ _ A3.o) fun nd => ?_) | (refine gb_ (k_ 13 Tryz.func95) (cf.calls _ _ _ _ _ A5.o) fun w7 HB => ?_) | (refine gb_ (k_ 15 Tryz.func96) (aw.calls _ _ _ _ _ _ _ _ A6.o) fun w8 HB => ?_) | (refine bx_ 6 #[.string (⟨#[]⟩ : ByteArray), .int .i64 0] 96 fun d0 w9 hb HB b0 e0 => ?_; have f0 : w9.cell? ⟨d0, 0, none⟩ = some (.string (⟨#[]⟩ : ByteArray)) := (ah b0.o 0).trans rfl; have j0 : w9.cell? ⟨d0, 1, none⟩ = some (.int .i64 0) := (ah b0.o 1).trans rfl; have k0 := ae b0.o 0; have n0 := ae b0.o 1))
  go_ret2
  exact ⟨f1_, hS_ e0.o⟩
 ·replace c4 := Ea c4
  subst c4
  replace H := iF_ H
  simp only [Option.some.injEq, Prod.mk.injEq] at H
  obtain ⟨rfl, rfl⟩ := H
  go_enter Tryz.func60, Tryz.ntmps60
  go_wp2_with (first | (refine gp_ (k_ 9 Tryz.func97) (aX.calls _ _ _ _ _ A3.o) fun nd => ?_))
  go_ret2
  exact ⟨f1_, hB_⟩
def bP.l0 : Nat → List Int → ByteArray → Int → Option (List Int)
 | 0, _, _, _ => none
 | k + 1, x5, x6, x8 => if x8 < 256 then (if 0 ≤ (wrap64 (Int.tdiv x8 2)) then (if (wrap64 (Int.tdiv x8 2)) < (x6.size : Int) then (if (Int.tmod x8 2) = 1 then (if x5.length < 17592186044416 then (bP.l0 k (x5 ++ [Int.tmod (wrap64 ((wrap64 ((wrap64 ((wrap64 ((Int.tmod (wrap64 (Int.tdiv (wrap64 (bt x6 (wrap64 (Int.tdiv x8 2)))) 16)) 2) + (Int.tmod (wrap64 (Int.tdiv (wrap64 (Int.tdiv (wrap64 (bt x6 (wrap64 (Int.tdiv x8 2)))) 16)) 2)) 2))) - (Int.tmod (wrap64 (Int.tdiv (wrap64 (Int.tdiv (wrap64 (bt x6 (wrap64 (Int.tdiv x8 2)))) 16)) 4)) 2))) - (Int.tmod (wrap64 (Int.tdiv (wrap64 (Int.tdiv (wrap64 (bt x6 (wrap64 (Int.tdiv x8 2)))) 16)) 8)) 2))) + 3329)) 3329]) x6 (wrap64 (x8 + 1))) else (none)) else (if x5.length < 17592186044416 then (bP.l0 k (x5 ++ [Int.tmod (wrap64 ((wrap64 ((wrap64 ((wrap64 ((Int.tmod (wrap64 (bt x6 (wrap64 (Int.tdiv x8 2)))) 2) + (Int.tmod (wrap64 (Int.tdiv (wrap64 (bt x6 (wrap64 (Int.tdiv x8 2)))) 2)) 2))) - (Int.tmod (wrap64 (Int.tdiv (wrap64 (bt x6 (wrap64 (Int.tdiv x8 2)))) 4)) 2))) - (Int.tmod (wrap64 (Int.tdiv (wrap64 (bt x6 (wrap64 (Int.tdiv x8 2)))) 8)) 2))) + 3329)) 3329]) x6 (wrap64 (x8 + 1))) else (none))) else (none)) else (none)) else (some x5)
def bP.f (k : Nat) (a0 : ByteArray) (a1 : Int) : Option (List Int) := (cG.f a1).bind fun t562 => (if a0.size + t562.size ≤ 9223372036854775807 then ((cU.f k (a0 ++ t562) 128).bind fun bt563 => (bP.l0 k (([] : List Int)) bt563.1 0)) else (none))
theorem bP.mono_l : ∀ k, (∀ y0 y1 y2, LeO (bP.l0 k y0 y1 y2) (bP.l0 (k + 1) y0 y1 y2))
 | 0 => fun _ _ _ r h => by simp [bP.l0] at h
 | k + 1 => by
  have ih0 := bP.mono_l k
  intros; unfold bP.l0; exact o2_ ih0 cU.mono
theorem bP.mono : ∀ a0 a1 k, LeO (bP.f k a0 a1) (bP.f (k + 1) a0 a1) := by
 intro a0 a1 k
 have ih0 := bP.mono_l k
 unfold bP.f
 exact o2_ ih0 cU.mono
theorem bP.calls (k : Nat) (a0 : ByteArray) (a1 : Int) (r : List Int) (w : World) (h : bP.f k a0 a1 = some r) :
  Calls Tryz.prog 27 #[.string a0, .int .i64 a1] w fun e w' => ∃ R0 : Value, e = .returned (R0) ∧ Kd.R (Kd.int .i64) 3 w' w.heap.size (fun _ => True) R0 r ∧ Below w.heap.size w w' := by
 have HB := c_ (Da w.heap.size w)
 delta bP.f at h
 have H := h
 clear h
 obtain ⟨L0, j0⟩ : ∃ y_ : List Int, y_ = (([] : List Int)) := ⟨_, rfl⟩
 first | replace H := yb_ j0 H | rw [← j0] at H
 have y0 := c_ j0
 clear j0
 obtain ⟨M0, A3, H⟩ := bN_ H
 obtain ⟨c4, H⟩ := iN_ H
 have W0 := Aa c4
 have X0 := ya c4
 try have Y0 : (9223372036854775807 < a0.size + M0.size) = False := eq_false (Nat.not_lt.2 c4)
 obtain ⟨⟨d0, Z0⟩, A5, H⟩ := bN_ H
 have H' := c_ H
 clear H
 go_enter Tryz.func27, Tryz.ntmps27
 go_wp2_with (first | (refine lj_ 10 .i64 3 y0 fun b1 w6 f0 HB => ?_) | (refine gc_ (k_ 14 Tryz.func61) (cG.calls _ _ _ A3.o) fun w8 hb => ?_; obtain ⟨f0, HB⟩ := n_ (fR_ f0) <| sB_) | (refine gc_ (k_ 16 Tryz.func60) (cU.calls _ _ _ _ _ _ A5.o) fun w9 hb => ?_; obtain ⟨f0, HB⟩ := n_ (fR_ f0) <| sB_))
 go_loopg [5, 8] k (fun kq v5 v8 w' => ∃ (p0 : List Int) (e0 : Int), v8 = .int .i64 e0 ∧ aa (bP.l0 kq p0 d0 e0 = some r) ∧ aa (kq ≤ k) ∧ aa (Kd.R (Kd.int .i64) 3 w' w.heap.size (fun _ => True) v5 p0) ∧ aa (Below w.heap.size w w'))
 case atStart => exact ⟨(L0), (0), f0_, H', ⟨Ca _⟩, ⟨rR_ f0.o⟩, ⟨hB_⟩⟩
 clear H'
 obtain ⟨p0, e0, rfl, HA, K0, r0, HB⟩ := hrel
 rcases gk with _ | k1
 ·exact absurd HA.o (by simp [bP.l0])
 have H := HA.o
 clear HA
 simp only [bP.l0] at H
 by_cases x0 : e0 < 256
 rotate_left
 ·rw [Ga x0] at H
  have B0 := za x0
  clear x0
  obtain rfl := Ba H
  go_wp2
  go_ret
  exact ⟨_, f1_, rR_ r0.o, hB_⟩
 rw [Fa x0] at H
 have B0 := ya x0
 clear x0
 obtain ⟨b0, q0⟩ : ∃ j_ : Int, (wrap64 (Int.tdiv e0 2)) = j_ := ⟨_, rfl⟩
 first | rw [q0] at H | simp only [q0] at H
 have N0 : (IntKind.i64.wrap (Int.tdiv e0 2)) = b0 := (bq _).trans q0
 obtain ⟨S0, H⟩ := iD_ H
 obtain ⟨T0, H⟩ := iD_ H
 by_cases v0 : (Int.tmod e0 2) = 1
 ·rw [Fa v0] at H
  have C0 : ((Int.tmod e0 2) == 1) = true := beq_iff_eq.mpr v0
  have D0 : ((Int.tmod e0 2) != 1) = false := bne_eq_false_iff_eq.mpr v0
  clear v0
  obtain ⟨U0, H⟩ := iN_ H
  have E0 := c_ U0
  clear U0
  obtain ⟨O0, k0⟩ : ∃ y_ : List Int, y_ = (p0 ++ [Int.tmod (wrap64 ((wrap64 ((wrap64 ((wrap64 ((Int.tmod (wrap64 (Int.tdiv (wrap64 (bt d0 (b0))) 16)) 2) + (Int.tmod (wrap64 (Int.tdiv (wrap64 (Int.tdiv (wrap64 (bt d0 (b0))) 16)) 2)) 2))) - (Int.tmod (wrap64 (Int.tdiv (wrap64 (Int.tdiv (wrap64 (bt d0 (b0))) 16)) 4)) 2))) - (Int.tmod (wrap64 (Int.tdiv (wrap64 (Int.tdiv (wrap64 (bt d0 (b0))) 16)) 8)) 2))) + 3329)) 3329]) := ⟨_, rfl⟩
  first | replace H := yb_ k0 H | rw [← k0] at H
  have F0 := c_ k0
  clear k0
  have H' := c_ H
  clear H
  have c1 := Aa (oD_ : 0 ≤ ((b0) : Int))
  have e1 := Aa (oD_ : (b0) < (d0.size : Int))
  have P0 := cQ d0 (b0)
  go_wp2_with (first | (refine ga_ 33 50 ?_; at_builtin; refine ap_ r0 F0 E0 Tryz.underlying45 df fun f1 i1 G0 HB hg hat => ?_))
  go_roundg k1
  case measure => have := K0.o; omega
  case rel => exact ⟨(O0), (wrap64 (e0 + 1)), f0_, H', ⟨by have := K0.o; omega⟩, ⟨rR_ G0.o⟩, ⟨hB_⟩⟩
 rw [Ga v0] at H
 have C0 : ((Int.tmod e0 2) == 1) = false := beq_eq_false_iff_ne.mpr v0
 have D0 : ((Int.tmod e0 2) != 1) = true := bne_iff_ne.mpr v0
 obtain ⟨V0, H⟩ := iN_ H
 have H0 := c_ V0
 clear V0
 obtain ⟨Q0, n0⟩ : ∃ y_ : List Int, y_ = (p0 ++ [Int.tmod (wrap64 ((wrap64 ((wrap64 ((wrap64 ((Int.tmod (wrap64 (bt d0 (b0))) 2) + (Int.tmod (wrap64 (Int.tdiv (wrap64 (bt d0 (b0))) 2)) 2))) - (Int.tmod (wrap64 (Int.tdiv (wrap64 (bt d0 (b0))) 4)) 2))) - (Int.tmod (wrap64 (Int.tdiv (wrap64 (bt d0 (b0))) 8)) 2))) + 3329)) 3329]) := ⟨_, rfl⟩
 first | replace H := yb_ n0 H | rw [← n0] at H
 have I0 := c_ n0
 clear n0
 have H' := c_ H
 clear H
 have c1 := Aa (oD_ : 0 ≤ ((b0) : Int))
 have e1 := Aa (oD_ : (b0) < (d0.size : Int))
 have P0 := cQ d0 (b0)
 go_wp2_with (first | (refine ga_ 33 50 ?_; at_builtin; refine ap_ r0 I0 H0 Tryz.underlying45 df fun g1 j1 J0 HB hg hat => ?_))
 go_roundg k1
 case measure => have := K0.o; omega
 case rel => exact ⟨(Q0), (wrap64 (e0 + 1)), f0_, H', ⟨by have := K0.o; omega⟩, ⟨rR_ J0.o⟩, ⟨hB_⟩⟩
end Go.Proofs.YtmdlpmddljbkeaaGreatDoor.P
