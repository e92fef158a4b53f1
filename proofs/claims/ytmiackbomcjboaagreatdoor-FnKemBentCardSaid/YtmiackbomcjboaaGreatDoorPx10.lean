-- printed texts of this session, regrouped
import Derived.Test.YtmiackbomcjboaaGreatDoorMWG
import Derived.Test.YtmiackbomcjboaaGreatDoorHB6
import Derived.Test.YtmiackbomcjboaaGreatDoorPx7
import Derived.Test.YtmiackbomcjboaaGreatDoorPx9
namespace Go.Proofs.YtmiackbomcjboaaGreatDoor.P
open Go.RowKit YtmiackbomcjboaaGreatDoorW.PrintWords YtmiackbomcjboaaGreatDoorW.PrintLast YtmiackbomcjboaaGreatDoorW.PrintMore
open Kd
attribute [local go_sem] d9 eg eV eU dK dL d8 eh
set_option linter.unusedVariables false
set_option linter.unusedSimpArgs false
set_option maxHeartbeats 8000000
set_option maxRecDepth 100000
mutual
def aj.l0 : Nat → List Int → ByteArray → Int → ByteArray → Int → Option (List Int)
 | 0, _, _, _, _, _ => none
 | k + 1, x7, x9, x10, x330000, x330001 => if x10 < 4000 then (aj.j1 k x7 x9 x10 (decide ((x7.length : Int) < 256)) x330000 x330001) else (aj.j1 k x7 x9 x10 false x330000 x330001)
def aj.j1 : Nat → List Int → ByteArray → Int → Bool → ByteArray → Int → Option (List Int)
 | 0, _, _, _, _, _, _ => none
 | k + 1, x7, x9, x10, x31, x330000, x330001 => if x31 = true then (if (wrap64 ((Int.tmod x10 56) * 3)) = 0 then ((aD.f k x330000 x330001 168).bind fun bt330 => (aj.j2 k x7 bt330.2.2 x10 (wrap64 ((Int.tmod x10 56) * 3)) bt330.1 bt330.2.1)) else (aj.j2 k x7 x9 x10 (wrap64 ((Int.tmod x10 56) * 3)) x330000 x330001)) else (aj.l1 k x7)
def aj.j2 : Nat → List Int → ByteArray → Int → Int → ByteArray → Int → Option (List Int)
 | 0, _, _, _, _, _, _ => none
 | k + 1, x7, x9, x10, x11, x330000, x330001 => if 0 ≤ x11 then (if x11 < (x9.size : Int) then (if 0 ≤ (wrap64 (x11 + 1)) then (if (wrap64 (x11 + 1)) < (x9.size : Int) then (if 0 ≤ (wrap64 (x11 + 2)) then (if (wrap64 (x11 + 2)) < (x9.size : Int) then (if (wrap64 ((wrap64 (bt x9 x11)) + (wrap64 (256 * (Int.tmod (wrap64 (bt x9 (wrap64 (x11 + 1)))) 16))))) < 3329 then (if x7.length < 17592186044416 then ((some (x7 ++ [wrap64 ((wrap64 (bt x9 x11)) + (wrap64 (256 * (Int.tmod (wrap64 (bt x9 (wrap64 (x11 + 1)))) 16))))] : List Int)).bind fun y334 => (if (wrap64 ((wrap64 (Int.tdiv (wrap64 (bt x9 (wrap64 (x11 + 1)))) 16)) + (wrap64 (16 * (wrap64 (bt x9 (wrap64 (x11 + 2)))))))) < 3329 then (if (y334.length : Int) < 256 then (if y334.length < 17592186044416 then (aj.l0 k (y334 ++ [wrap64 ((wrap64 (Int.tdiv (wrap64 (bt x9 (wrap64 (x11 + 1)))) 16)) + (wrap64 (16 * (wrap64 (bt x9 (wrap64 (x11 + 2)))))))]) x9 (wrap64 (x10 + 1)) x330000 x330001) else (none)) else (aj.l0 k y334 x9 (wrap64 (x10 + 1)) x330000 x330001)) else (aj.l0 k y334 x9 (wrap64 (x10 + 1)) x330000 x330001))) else (none)) else (if (wrap64 ((wrap64 (Int.tdiv (wrap64 (bt x9 (wrap64 (x11 + 1)))) 16)) + (wrap64 (16 * (wrap64 (bt x9 (wrap64 (x11 + 2)))))))) < 3329 then (if (x7.length : Int) < 256 then (if x7.length < 17592186044416 then (aj.l0 k (x7 ++ [wrap64 ((wrap64 (Int.tdiv (wrap64 (bt x9 (wrap64 (x11 + 1)))) 16)) + (wrap64 (16 * (wrap64 (bt x9 (wrap64 (x11 + 2)))))))]) x9 (wrap64 (x10 + 1)) x330000 x330001) else (none)) else (aj.l0 k x7 x9 (wrap64 (x10 + 1)) x330000 x330001)) else (aj.l0 k x7 x9 (wrap64 (x10 + 1)) x330000 x330001))) else (none)) else (none)) else (none)) else (none)) else (none)) else (none)
def aj.l1 : Nat → List Int → Option (List Int)
 | 0, _ => none
 | k + 1, x7 => if (x7.length : Int) < 256 then (if x7.length < 17592186044416 then (aj.l1 k (x7 ++ [0])) else (none)) else (some x7)
end
def aj.f (k : Nat) (a0 : ByteArray) (a1 : Int) (a2 : Int) : Option (List Int) := (cS.f a1).bind fun t325 => (if a0.size + t325.size ≤ 9223372036854775807 then ((cS.f a2).bind fun t326 => (if (a0 ++ t325).size + t326.size ≤ 9223372036854775807 then ((ce.f k ((a0 ++ t325) ++ t326)).bind fun bt327 => (aj.l0 k (([] : List Int)) (⟨#[]⟩ : ByteArray) 0 bt327.1 bt327.2)) else (none))) else (none))
theorem aj.mono_l : ∀ k, (∀ y0 y1 y2 y3 y4, LeO (aj.l0 k y0 y1 y2 y3 y4) (aj.l0 (k + 1) y0 y1 y2 y3 y4)) ∧ (∀ y0 y1 y2 y3 y4 y5, LeO (aj.j1 k y0 y1 y2 y3 y4 y5) (aj.j1 (k + 1) y0 y1 y2 y3 y4 y5)) ∧ (∀ y0 y1 y2 y3 y4 y5, LeO (aj.j2 k y0 y1 y2 y3 y4 y5) (aj.j2 (k + 1) y0 y1 y2 y3 y4 y5)) ∧ (∀ y0, LeO (aj.l1 k y0) (aj.l1 (k + 1) y0))
 | 0 => ⟨fun _ _ _ _ _ r h => by simp [aj.l0] at h, fun _ _ _ _ _ _ r h => by simp [aj.j1] at h, fun _ _ _ _ _ _ r h => by simp [aj.j2] at h, fun _ r h => by simp [aj.l1] at h⟩
 | k + 1 => by
  obtain ⟨ih0, ih1, ih2, ih3⟩ := aj.mono_l k
  refine ⟨?_, ?_, ?_, ?_⟩ <;> (intros; (first | unfold aj.l0 | unfold aj.j1 | unfold aj.j2 | unfold aj.l1); exact o6_ ih0 ih1 ih2 ih3 ce.mono aD.mono)
theorem aj.mono : ∀ a0 a1 a2 k, LeO (aj.f k a0 a1 a2) (aj.f (k + 1) a0 a1 a2) := by
 intro a0 a1 a2 k
 obtain ⟨ih0, ih1, ih2, ih3⟩ := aj.mono_l k
 unfold aj.f
 exact o6_ ih0 ih1 ih2 ih3 ce.mono aD.mono
theorem aj.calls (k : Nat) (a0 : ByteArray) (a1 : Int) (a2 : Int) (r : List Int) (w : World) (h : aj.f k a0 a1 a2 = some r) :
  Calls Tryz.prog 46 #[.string a0, .int .i64 a1, .int .i64 a2] w fun e w' => ∃ B3 : Value, e = .returned (B3) ∧ Kd.R (Kd.int .i64) 3 w' w.heap.size (fun _ => True) B3 r ∧ Below w.heap.size w w' := by
 have hu95 := Tryz.underlying95
 have HB := c_ (Da w.heap.size w)
 delta aj.f at h
 have H := h
 clear h
 obtain ⟨c3, R0⟩ : ∃ y_ : List Int, y_ = (([] : List Int)) := ⟨_, rfl⟩
 first | replace H := yb_ R0 H | rw [← R0] at H
 have r1 := c_ R0
 clear R0
 obtain ⟨S1, A4, H⟩ := bN_ H
 obtain ⟨c5, H⟩ := iN_ H
 have X3 := Aa c5
 have Y3 := ya c5
 try have Z3 : (9223372036854775807 < a0.size + S1.size) = False := eq_false (Nat.not_lt.2 c5)
 obtain ⟨m2, A6, H⟩ := bN_ H
 obtain ⟨c7, H⟩ := iN_ H
 have b4 := Aa c7
 have c4 := ya c7
 try have e3 : (9223372036854775807 < (a0 ++ S1).size + m2.size) = False := eq_false (Nat.not_lt.2 c7)
 try (have f3 : (9223372036854775807 < (a0 ++ S1).size + m2.size) = False := e3; simp only [ByteArray.size_append] at f3)
 obtain ⟨⟨n2, g3⟩, A8, H⟩ := bN_ H
 have H' := c_ H
 clear H
 go_enter Tryz.func46, Tryz.ntmps46
 go_wp2_with (first | ((try (refine bh (by rfl) ?_; dsimp only)); refine lj_ 16 .i64 3 r1 fun p2 w9 p0 HB => ?_) | (go_at_call 51; refine mb_ (cS.calls _ _ _ A4.o) fun C3 hb => ?_; obtain ⟨p0, HB⟩ := n_ (fR_ p0) <| sB_) | (go_at_call 51; refine mb_ (cS.calls _ _ _ A6.o) fun D3 hb => ?_; obtain ⟨p0, HB⟩ := n_ (fR_ p0) <| sB_) | (go_at_call 85; refine mb_ (ce.calls _ _ _ _ _ A8.o) fun E3 hb => ?_; obtain ⟨p0, HB⟩ := n_ (fR_ p0) <| sB_) | ((try (refine bh (by rfl) ?_; dsimp only)); refine bx_ 8 #[.string (⟨#[]⟩ : ByteArray), .int .i64 0] 95 fun k0 R1 hb HB b0 B0 => ?_; have p0 := fR_ p0; have S0 : R1.cell? ⟨k0, 0, none⟩ = some (.string (⟨#[]⟩ : ByteArray)) := (ak b0.o 0).trans rfl; have T0 : R1.cell? ⟨k0, 1, none⟩ = some (.int .i64 0) := (ak b0.o 1).trans rfl; have U0 := ag b0.o 0; have V0 := ag b0.o 1))
 repeat (go_quiet (first | ((try (refine bh (by rfl) ?_; dsimp only)); refine lj_ 16 .i64 3 r1 fun p2 w9 p0 HB => ?_) | (go_at_call 51; refine mb_ (cS.calls _ _ _ A4.o) fun C3 hb => ?_; obtain ⟨p0, HB⟩ := n_ (fR_ p0) <| sB_) | (go_at_call 51; refine mb_ (cS.calls _ _ _ A6.o) fun D3 hb => ?_; obtain ⟨p0, HB⟩ := n_ (fR_ p0) <| sB_) | (go_at_call 85; refine mb_ (ce.calls _ _ _ _ _ A8.o) fun E3 hb => ?_; obtain ⟨p0, HB⟩ := n_ (fR_ p0) <| sB_) | ((try (refine bh (by rfl) ?_; dsimp only)); refine bx_ 8 #[.string (⟨#[]⟩ : ByteArray), .int .i64 0] 95 fun k0 R1 hb HB b0 B0 => ?_; have p0 := fR_ p0; have S0 : R1.cell? ⟨k0, 0, none⟩ = some (.string (⟨#[]⟩ : ByteArray)) := (ak b0.o 0).trans rfl; have T0 : R1.cell? ⟨k0, 1, none⟩ = some (.int .i64 0) := (ak b0.o 1).trans rfl; have U0 := ag b0.o 0; have V0 := ag b0.o 1)); try go_wp2_with (first | ((try (refine bh (by rfl) ?_; dsimp only)); refine lj_ 16 .i64 3 r1 fun p2 w9 p0 HB => ?_) | (go_at_call 51; refine mb_ (cS.calls _ _ _ A4.o) fun C3 hb => ?_; obtain ⟨p0, HB⟩ := n_ (fR_ p0) <| sB_) | (go_at_call 51; refine mb_ (cS.calls _ _ _ A6.o) fun D3 hb => ?_; obtain ⟨p0, HB⟩ := n_ (fR_ p0) <| sB_) | (go_at_call 85; refine mb_ (ce.calls _ _ _ _ _ A8.o) fun E3 hb => ?_; obtain ⟨p0, HB⟩ := n_ (fR_ p0) <| sB_) | ((try (refine bh (by rfl) ?_; dsimp only)); refine bx_ 8 #[.string (⟨#[]⟩ : ByteArray), .int .i64 0] 95 fun k0 R1 hb HB b0 B0 => ?_; have p0 := fR_ p0; have S0 : R1.cell? ⟨k0, 0, none⟩ = some (.string (⟨#[]⟩ : ByteArray)) := (ak b0.o 0).trans rfl; have T0 : R1.cell? ⟨k0, 1, none⟩ = some (.int .i64 0) := (ak b0.o 1).trans rfl; have U0 := ag b0.o 0; have V0 := ag b0.o 1)))
 go_loopg [7, 9, 10] k (fun kq v7 v9 e4 w' => ∃ (G0 : List Int) (t1 : ByteArray) (v0 : Int) (f0 : ByteArray) (e0 : Int), v9 = .string t1 ∧ e4 = .int .i64 v0 ∧ aa (aj.l0 kq G0 t1 v0 f0 e0 = some r) ∧ aa (kq ≤ k) ∧ aa (Kd.R (Kd.int .i64) 3 w' w.heap.size (fun _ => True) v7 G0) ∧ aa (w'.heap[k0]? = some (.cells #[.string f0, .int .i64 e0] 95 (0, 0))) ∧ aa (Below w.heap.size w w'))
 case atStart => exact ⟨(c3), ((⟨#[]⟩ : ByteArray)), (0), (n2), (g3), f0_, f0_, H', ⟨Ca _⟩, ⟨by refine kR_ ?_; exact uW (vr (vr (vn p0.o b0.o (by decide)) (fun _ hk => hk.2) _) (fun _ hk => hk.2) _) (fun _ hk => trivial)⟩, ⟨by refine kK_ ?_; refine ca (cs := #[.string n2, .int .i64 0]) ?_ 1 _ rfl; refine kK_ ?_; refine ca (cs := #[.string (⟨#[]⟩ : ByteArray), .int .i64 0]) ?_ 0 _ rfl; refine kK_ ?_; exact b0.o⟩, ⟨hS_ B0.o⟩⟩
 clear H'
 obtain ⟨G0, t1, v0, f0, e0, rfl, rfl, HA, M0, j0, b0, HB⟩ := hrel
 rcases gk with _ | k1
 ·exact absurd HA.o (by simp [aj.l0])
 have H := HA.o
 clear HA
 simp only [aj.l0] at H
 have T1 := c_ H
 clear H
 go_upto_region 5 with (fail)
 repeat (go_quiet (fail); go_upto_region 5 with (fail))
 go_cut [31] (fun f4 wc => ∃ (kq : Nat) (L0 : Bool), f4 = .bool L0 ∧ aa (aj.j1 kq G0 t1 v0 L0 f0 e0 = some r) ∧ aa (kq ≤ k1) ∧ aa (Kd.R (Kd.int .i64) 3 wc w.heap.size (fun _ => True) u7 G0) ∧ aa (wc.heap[k0]? = some (.cells #[.string f0, .int .i64 e0] 95 (0, 0))) ∧ aa (Below w.heap.size w wc))
 case first =>
  have H := T1.o
  clear T1
  by_cases Z1 : v0 < 4000
  ·rw [Fa Z1] at H
   have N0 := ya Z1
   clear Z1
   (first | rw [N0] | (simp only [bB, cG]; rw [N0]) | skip)
   have H' := c_ H
   clear H
   obtain ⟨g4, i4, i3⟩ := uV j0.o
   subst i3
   go_wp2
   repeat (go_quiet (fail); try go_wp2)
   go_meet
   case rel => exact ⟨_, (decide ((G0.length : Int) < 256)), f0_, H', ⟨by have := M0.o; first | omega | exact Ca _⟩, ⟨rR_ j0.o⟩, ⟨by refine kK_ ?_; exact b0.o⟩, ⟨hS_ B0.o⟩⟩
  rw [Ga Z1] at H
  have N0 := za Z1
  clear Z1
  (first | rw [N0] | (simp only [bB, cG]; rw [N0]) | skip)
  have H' := c_ H
  clear H
  go_wp2
  repeat (go_quiet (fail); try go_wp2)
  go_meet
  case rel => exact ⟨_, (false), f0_, H', ⟨by have := M0.o; first | omega | exact Ca _⟩, ⟨rR_ j0.o⟩, ⟨by refine kK_ ?_; exact b0.o⟩, ⟨hS_ B0.o⟩⟩
 clear T1
 obtain ⟨kq, L0, rfl, HA, H0, j0, b0, HB⟩ := hcut
 rcases kq with _ | U1
 ·exact absurd HA.o (by simp [aj.j1])
 have H := HA.o
 clear HA
 simp only [aj.j1] at H
 by_cases V2 : L0 = true
 ·subst V2
  replace H := iT_ H
  have V1 := c_ H
  clear H
  go_upto_if 38 with (fail)
  repeat (go_quiet (fail); go_upto_if 38 with (fail))
  go_cut [9] (fun v9 wc => ∃ (kq : Nat) (d0 : ByteArray) (q0 : ByteArray) (r0 : Int), v9 = .string d0 ∧ aa (aj.j2 kq G0 d0 v0 (wrap64 ((Int.tmod v0 56) * 3)) q0 r0 = some r) ∧ aa (kq ≤ U1) ∧ aa (Kd.R (Kd.int .i64) 3 wc w.heap.size (fun _ => True) u7 G0) ∧ aa (wc.heap[k0]? = some (.cells #[.string q0, .int .i64 r0] 95 (0, 0))) ∧ aa (Below w.heap.size w wc))
  case first =>
   have H := V1.o
   clear V1
   by_cases X1 : (wrap64 ((Int.tmod v0 56) * 3)) = 0
   ·rw [Fa X1] at H
    have O0 : ((wrap64 ((Int.tmod v0 56) * 3)) == 0) = true := beq_iff_eq.mpr X1
    have q2 : ((wrap64 ((Int.tmod v0 56) * 3)) != 0) = false := bne_eq_false_iff_eq.mpr X1
    clear X1
    (first | rw [O0] | (simp only [bB, cG]; rw [O0]) | skip)
    obtain ⟨⟨Y1, r2, l3⟩, m3, H⟩ := bN_ H
    have H' := c_ H
    clear H
    have X2 : wc.cell? ⟨k0, 0, none⟩ = some (.string f0) := (ak b0.o 0).trans rfl
    have Y2 : wc.cell? ⟨k0, 1, none⟩ = some (.int .i64 e0) := (ak b0.o 1).trans rfl
    have Z2 := ag b0.o 0
    have b3 := ag b0.o 1
    go_wp2_with (first | (go_at_call 86; refine mb_ (aD.calls _ _ _ _ _ _ _ _ m3.o) fun F3 hb => ?_; obtain ⟨j0, b0, HB⟩ := n_ (fR_ j0) <| n_ (fK_ b0) <| sB_) | ((try (refine bh (by rfl) ?_; dsimp only)); refine bq_ 12 #[.string (⟨#[]⟩ : ByteArray), .int .i64 0] 95 fun E0 W0 hg hb HB C0 y1 => ?_; obtain ⟨j0, b0, x0, F0⟩ := n_ (fR_ j0) <| n_ (fK_ b0) <| b_ (by rw [hg]; exact Nat.ne_of_lt (eO (g := k0) (o := .cells #[.string f0, .int .i64 e0] 95 (0, 0)) (rK_ b0.o)) : k0 ≠ E0) <| c_ (by rw [hg]; exact Nat.ne_of_gt (eO (g := k0) (o := .cells #[.string f0, .int .i64 e0] 95 (0, 0)) (rK_ b0.o)) : E0 ≠ k0); clear hg; have hnb26 := F0.o; have hnc26 := x0.o; have X0 : W0.cell? ⟨E0, 0, none⟩ = some (.string (⟨#[]⟩ : ByteArray)) := (ak C0.o 0).trans rfl; have Y0 : W0.cell? ⟨E0, 1, none⟩ = some (.int .i64 0) := (ak C0.o 1).trans rfl; have Z0 := ag C0.o 0; have b1 := ag C0.o 1; have c1 : W0.cell? ⟨k0, 0, none⟩ = some (.string f0) := (ak b0.o 0).trans rfl; have d1 : W0.cell? ⟨k0, 1, none⟩ = some (.int .i64 e0) := (ak b0.o 1).trans rfl; have e1 := ag b0.o 0; have f1 := ag b0.o 1))
    repeat (go_quiet (first | (go_at_call 86; refine mb_ (aD.calls _ _ _ _ _ _ _ _ m3.o) fun F3 hb => ?_; obtain ⟨j0, b0, HB⟩ := n_ (fR_ j0) <| n_ (fK_ b0) <| sB_) | ((try (refine bh (by rfl) ?_; dsimp only)); refine bq_ 12 #[.string (⟨#[]⟩ : ByteArray), .int .i64 0] 95 fun E0 W0 hg hb HB C0 y1 => ?_; obtain ⟨j0, b0, x0, F0⟩ := n_ (fR_ j0) <| n_ (fK_ b0) <| b_ (by rw [hg]; exact Nat.ne_of_lt (eO (g := k0) (o := .cells #[.string f0, .int .i64 e0] 95 (0, 0)) (rK_ b0.o)) : k0 ≠ E0) <| c_ (by rw [hg]; exact Nat.ne_of_gt (eO (g := k0) (o := .cells #[.string f0, .int .i64 e0] 95 (0, 0)) (rK_ b0.o)) : E0 ≠ k0); clear hg; have hnb26 := F0.o; have hnc26 := x0.o; have X0 : W0.cell? ⟨E0, 0, none⟩ = some (.string (⟨#[]⟩ : ByteArray)) := (ak C0.o 0).trans rfl; have Y0 : W0.cell? ⟨E0, 1, none⟩ = some (.int .i64 0) := (ak C0.o 1).trans rfl; have Z0 := ag C0.o 0; have b1 := ag C0.o 1; have c1 : W0.cell? ⟨k0, 0, none⟩ = some (.string f0) := (ak b0.o 0).trans rfl; have d1 : W0.cell? ⟨k0, 1, none⟩ = some (.int .i64 e0) := (ak b0.o 1).trans rfl; have e1 := ag b0.o 0; have f1 := ag b0.o 1)); try go_wp2_with (first | (go_at_call 86; refine mb_ (aD.calls _ _ _ _ _ _ _ _ m3.o) fun F3 hb => ?_; obtain ⟨j0, b0, HB⟩ := n_ (fR_ j0) <| n_ (fK_ b0) <| sB_) | ((try (refine bh (by rfl) ?_; dsimp only)); refine bq_ 12 #[.string (⟨#[]⟩ : ByteArray), .int .i64 0] 95 fun E0 W0 hg hb HB C0 y1 => ?_; obtain ⟨j0, b0, x0, F0⟩ := n_ (fR_ j0) <| n_ (fK_ b0) <| b_ (by rw [hg]; exact Nat.ne_of_lt (eO (g := k0) (o := .cells #[.string f0, .int .i64 e0] 95 (0, 0)) (rK_ b0.o)) : k0 ≠ E0) <| c_ (by rw [hg]; exact Nat.ne_of_gt (eO (g := k0) (o := .cells #[.string f0, .int .i64 e0] 95 (0, 0)) (rK_ b0.o)) : E0 ≠ k0); clear hg; have hnb26 := F0.o; have hnc26 := x0.o; have X0 : W0.cell? ⟨E0, 0, none⟩ = some (.string (⟨#[]⟩ : ByteArray)) := (ak C0.o 0).trans rfl; have Y0 : W0.cell? ⟨E0, 1, none⟩ = some (.int .i64 0) := (ak C0.o 1).trans rfl; have Z0 := ag C0.o 0; have b1 := ag C0.o 1; have c1 : W0.cell? ⟨k0, 0, none⟩ = some (.string f0) := (ak b0.o 0).trans rfl; have d1 : W0.cell? ⟨k0, 1, none⟩ = some (.int .i64 e0) := (ak b0.o 1).trans rfl; have e1 := ag b0.o 0; have f1 := ag b0.o 1)))
    go_meet
    case rel => exact ⟨_, (l3), (Y1), (r2), f0_, H', ⟨by have := M0.o; have := H0.o; first | omega | exact Ca _⟩, ⟨by refine kR_ ?_; exact uW (vr (vr (vr (vr (vn (vn j0.o C0.o (by decide)) b0.o (by decide)) (fun _ hk => hk.1.2) (.string Y1)) (fun _ hk => hk.1.2) (.int .i64 r2)) (fun _ hk => hk.2) _) (fun _ hk => hk.2) _) (fun _ hk => trivial)⟩, ⟨by refine kK_ ?_; refine ca (cs := #[.string Y1, .int .i64 e0]) ?_ 1 _ rfl; refine kK_ ?_; refine ca (cs := #[.string f0, .int .i64 e0]) ?_ 0 _ rfl; refine kK_ ?_; refine en ?_ x0.o _; refine kK_ ?_; refine en ?_ x0.o _; refine kK_ ?_; exact b0.o⟩, ⟨(u2_ B0.o y1.o)⟩⟩
   rw [Ga X1] at H
   have O0 : ((wrap64 ((Int.tmod v0 56) * 3)) == 0) = false := beq_eq_false_iff_ne.mpr X1
   have q2 : ((wrap64 ((Int.tmod v0 56) * 3)) != 0) = true := bne_iff_ne.mpr X1
   (first | rw [O0] | (simp only [bB, cG]; rw [O0]) | skip)
   have H' := c_ H
   clear H
   go_wp2
   repeat (go_quiet (fail); try go_wp2)
   go_meet
   case rel => exact ⟨_, (t1), (f0), (e0), f0_, H', ⟨by have := M0.o; have := H0.o; first | omega | exact Ca _⟩, ⟨rR_ j0.o⟩, ⟨by refine kK_ ?_; exact b0.o⟩, ⟨hS_ B0.o⟩⟩
  clear V1
  obtain ⟨kq, d0, q0, r0, rfl, HA, K0, j0, b0, HB⟩ := hcut
  rcases kq with _ | p1
  ·exact absurd HA.o (by simp [aj.j2])
  have H := HA.o
  clear HA
  simp only [aj.j2] at H
  obtain ⟨y0, z1⟩ : ∃ j_ : Int, (wrap64 ((Int.tmod v0 56) * 3)) = j_ := ⟨_, rfl⟩
  first | rw [z1] at H | simp only [z1] at H
  have n3 : (IntKind.i64.wrap ((Int.tmod v0 56) * 3)) = y0 := (bB _).trans z1
  obtain ⟨G3, H⟩ := iD_ H
  obtain ⟨H3, H⟩ := iD_ H
  obtain ⟨n0, A1⟩ : ∃ j_ : Int, (wrap64 ((y0) + 1)) = j_ := ⟨_, rfl⟩
  first | rw [A1] at H | simp only [A1] at H
  have p3 : (IntKind.i64.wrap ((y0) + 1)) = n0 := (bB _).trans A1
  obtain ⟨I3, H⟩ := iD_ H
  obtain ⟨J3, H⟩ := iD_ H
  obtain ⟨D0, B1⟩ : ∃ j_ : Int, (wrap64 ((y0) + 2)) = j_ := ⟨_, rfl⟩
  first | rw [B1] at H | simp only [B1] at H
  have q3 : (IntKind.i64.wrap ((y0) + 2)) = D0 := (bB _).trans B1
  obtain ⟨K3, H⟩ := iD_ H
  obtain ⟨L3, H⟩ := iD_ H
  by_cases b2 : (wrap64 ((wrap64 (bt d0 (y0))) + (wrap64 (256 * (Int.tmod (wrap64 (bt d0 (n0))) 16))))) < 3329
  ·rw [Fa b2] at H
   have t2 := ya b2
   clear b2
   obtain ⟨M3, H⟩ := iN_ H
   have I0 := c_ M3
   clear M3
   obtain ⟨q1, g1⟩ : ∃ y_ : List Int, y_ = (G0 ++ [wrap64 ((wrap64 (bt d0 (y0))) + (wrap64 (256 * (Int.tmod (wrap64 (bt d0 (n0))) 16))))]) := ⟨_, rfl⟩
   first | replace H := yb_ g1 H | rw [← g1] at H
   have J0 := c_ g1
   clear g1
   by_cases c2 : (wrap64 ((wrap64 (Int.tdiv (wrap64 (bt d0 (n0))) 16)) + (wrap64 (16 * (wrap64 (bt d0 (D0))))))) < 3329
   rotate_left
   ·rw [Ga c2] at H
    have v2 := za c2
    clear c2
    have H' := c_ H
    clear H
    have y2 := Aa (oD_ : 0 ≤ ((y0) : Int))
    have z2 := Aa (oD_ : (y0) < (d0.size : Int))
    have C1 := cY d0 (y0)
    have A2 := Aa (oD_ : 0 ≤ ((n0) : Int))
    have B2 := Aa (oD_ : (n0) < (d0.size : Int))
    have D1 := cY d0 (n0)
    have C2 := Aa (oD_ : 0 ≤ ((n0) : Int))
    have D2 := Aa (oD_ : (n0) < (d0.size : Int))
    have E1 := cY d0 (n0)
    have E2 := Aa (oD_ : 0 ≤ ((D0) : Int))
    have F2 := Aa (oD_ : (D0) < (d0.size : Int))
    have F1 := cY d0 (D0)
    go_wp2_with (first | (refine ga_ 73 75 ?_; (try (refine bh (by rfl) ?_; dsimp only)); at_builtin; refine ap_ j0 J0 I0 Tryz.underlying33 di fun P0 N3 t0 HB hg hat => ?_; have b0 := gK_ b0 j0))
    repeat (go_quiet (first | (refine ga_ 73 75 ?_; (try (refine bh (by rfl) ?_; dsimp only)); at_builtin; refine ap_ j0 J0 I0 Tryz.underlying33 di fun P0 N3 t0 HB hg hat => ?_; have b0 := gK_ b0 j0)); try go_wp2_with (first | (refine ga_ 73 75 ?_; (try (refine bh (by rfl) ?_; dsimp only)); at_builtin; refine ap_ j0 J0 I0 Tryz.underlying33 di fun P0 N3 t0 HB hg hat => ?_; have b0 := gK_ b0 j0)))
    go_roundg p1
    case measure => have := M0.o; have := H0.o; have := K0.o; omega
    case rel => exact ⟨(q1), (d0), (wrap64 (v0 + 1)), (q0), (r0), f0_, f0_, H', ⟨by have := M0.o; have := H0.o; have := K0.o; omega⟩, ⟨rR_ t0.o⟩, ⟨by refine kK_ ?_; exact b0.o⟩, ⟨hS_ B0.o⟩⟩
   rw [Fa c2] at H
   have v2 := ya c2
   clear c2
   by_cases f2 : (q1.length : Int) < 256
   ·rw [Fa f2] at H
    have G2 := ya f2
    have H2 : decide (q1.length < 256) = true := ya (by omega)
    clear f2
    obtain ⟨O3, H⟩ := iN_ H
    have G1 := c_ O3
    clear O3
    obtain ⟨r3, i1⟩ : ∃ y_ : List Int, y_ = (q1 ++ [wrap64 ((wrap64 (Int.tdiv (wrap64 (bt d0 (n0))) 16)) + (wrap64 (16 * (wrap64 (bt d0 (D0))))))]) := ⟨_, rfl⟩
    first | replace H := yb_ i1 H | rw [← i1] at H
    have H1 := c_ i1
    clear i1
    have H' := c_ H
    clear H
    have y2 := Aa (oD_ : 0 ≤ ((y0) : Int))
    have z2 := Aa (oD_ : (y0) < (d0.size : Int))
    have C1 := cY d0 (y0)
    have A2 := Aa (oD_ : 0 ≤ ((n0) : Int))
    have B2 := Aa (oD_ : (n0) < (d0.size : Int))
    have D1 := cY d0 (n0)
    have C2 := Aa (oD_ : 0 ≤ ((n0) : Int))
    have D2 := Aa (oD_ : (n0) < (d0.size : Int))
    have E1 := cY d0 (n0)
    have E2 := Aa (oD_ : 0 ≤ ((D0) : Int))
    have F2 := Aa (oD_ : (D0) < (d0.size : Int))
    have F1 := cY d0 (D0)
    go_wp2_with (first | (refine ga_ 73 75 ?_; (try (refine bh (by rfl) ?_; dsimp only)); at_builtin; refine ap_ j0 J0 I0 Tryz.underlying33 di fun P0 P3 t0 HB hg hat => ?_; have b0 := gK_ b0 j0; obtain ⟨I2, J2, I1⟩ := uV t0.o; subst I1) | (refine ga_ 84 86 ?_; (try (refine bh (by rfl) ?_; dsimp only)); at_builtin; refine ap_ t0 H1 G1 Tryz.underlying33 di fun K2 Q3 J1 HB hg hat => ?_; have b0 := gK_ b0 t0))
    repeat (go_quiet (first | (refine ga_ 73 75 ?_; (try (refine bh (by rfl) ?_; dsimp only)); at_builtin; refine ap_ j0 J0 I0 Tryz.underlying33 di fun P0 P3 t0 HB hg hat => ?_; have b0 := gK_ b0 j0; obtain ⟨I2, J2, I1⟩ := uV t0.o; subst I1) | (refine ga_ 84 86 ?_; (try (refine bh (by rfl) ?_; dsimp only)); at_builtin; refine ap_ t0 H1 G1 Tryz.underlying33 di fun K2 Q3 J1 HB hg hat => ?_; have b0 := gK_ b0 t0)); try go_wp2_with (first | (refine ga_ 73 75 ?_; (try (refine bh (by rfl) ?_; dsimp only)); at_builtin; refine ap_ j0 J0 I0 Tryz.underlying33 di fun P0 P3 t0 HB hg hat => ?_; have b0 := gK_ b0 j0; obtain ⟨I2, J2, I1⟩ := uV t0.o; subst I1) | (refine ga_ 84 86 ?_; (try (refine bh (by rfl) ?_; dsimp only)); at_builtin; refine ap_ t0 H1 G1 Tryz.underlying33 di fun K2 Q3 J1 HB hg hat => ?_; have b0 := gK_ b0 t0)))
    go_roundg p1
    case measure => have := M0.o; have := H0.o; have := K0.o; omega
    case rel => exact ⟨(r3), (d0), (wrap64 (v0 + 1)), (q0), (r0), f0_, f0_, H', ⟨by have := M0.o; have := H0.o; have := K0.o; omega⟩, ⟨rR_ J1.o⟩, ⟨by refine kK_ ?_; exact b0.o⟩, ⟨hS_ B0.o⟩⟩
   rw [Ga f2] at H
   have G2 := za f2
   have H2 : decide (q1.length < 256) = false := za (by omega)
   clear f2
   have H' := c_ H
   clear H
   have y2 := Aa (oD_ : 0 ≤ ((y0) : Int))
   have z2 := Aa (oD_ : (y0) < (d0.size : Int))
   have C1 := cY d0 (y0)
   have A2 := Aa (oD_ : 0 ≤ ((n0) : Int))
   have B2 := Aa (oD_ : (n0) < (d0.size : Int))
   have D1 := cY d0 (n0)
   have C2 := Aa (oD_ : 0 ≤ ((n0) : Int))
   have D2 := Aa (oD_ : (n0) < (d0.size : Int))
   have E1 := cY d0 (n0)
   have E2 := Aa (oD_ : 0 ≤ ((D0) : Int))
   have F2 := Aa (oD_ : (D0) < (d0.size : Int))
   have F1 := cY d0 (D0)
   go_wp2_with (first | (refine ga_ 73 75 ?_; (try (refine bh (by rfl) ?_; dsimp only)); at_builtin; refine ap_ j0 J0 I0 Tryz.underlying33 di fun P0 R3 t0 HB hg hat => ?_; have b0 := gK_ b0 j0; obtain ⟨L2, M2, K1⟩ := uV t0.o; subst K1))
   repeat (go_quiet (first | (refine ga_ 73 75 ?_; (try (refine bh (by rfl) ?_; dsimp only)); at_builtin; refine ap_ j0 J0 I0 Tryz.underlying33 di fun P0 R3 t0 HB hg hat => ?_; have b0 := gK_ b0 j0; obtain ⟨L2, M2, K1⟩ := uV t0.o; subst K1)); try go_wp2_with (first | (refine ga_ 73 75 ?_; (try (refine bh (by rfl) ?_; dsimp only)); at_builtin; refine ap_ j0 J0 I0 Tryz.underlying33 di fun P0 R3 t0 HB hg hat => ?_; have b0 := gK_ b0 j0; obtain ⟨L2, M2, K1⟩ := uV t0.o; subst K1)))
   go_roundg p1
   case measure => have := M0.o; have := H0.o; have := K0.o; omega
   case rel => exact ⟨(q1), (d0), (wrap64 (v0 + 1)), (q0), (r0), f0_, f0_, H', ⟨by have := M0.o; have := H0.o; have := K0.o; omega⟩, ⟨rR_ t0.o⟩, ⟨by refine kK_ ?_; exact b0.o⟩, ⟨hS_ B0.o⟩⟩
  rw [Ga b2] at H
  have t2 := za b2
  clear b2
  by_cases g2 : (wrap64 ((wrap64 (Int.tdiv (wrap64 (bt d0 (n0))) 16)) + (wrap64 (16 * (wrap64 (bt d0 (D0))))))) < 3329
  rotate_left
  ·rw [Ga g2] at H
   have N2 := za g2
   clear g2
   have H' := c_ H
   clear H
   have y2 := Aa (oD_ : 0 ≤ ((y0) : Int))
   have z2 := Aa (oD_ : (y0) < (d0.size : Int))
   have C1 := cY d0 (y0)
   have A2 := Aa (oD_ : 0 ≤ ((n0) : Int))
   have B2 := Aa (oD_ : (n0) < (d0.size : Int))
   have D1 := cY d0 (n0)
   have C2 := Aa (oD_ : 0 ≤ ((n0) : Int))
   have D2 := Aa (oD_ : (n0) < (d0.size : Int))
   have E1 := cY d0 (n0)
   have E2 := Aa (oD_ : 0 ≤ ((D0) : Int))
   have F2 := Aa (oD_ : (D0) < (d0.size : Int))
   have F1 := cY d0 (D0)
   go_wp2
   repeat (go_quiet (fail); try go_wp2)
   go_roundg p1
   case measure => have := M0.o; have := H0.o; have := K0.o; omega
   case rel => exact ⟨(G0), (d0), (wrap64 (v0 + 1)), (q0), (r0), f0_, f0_, H', ⟨by have := M0.o; have := H0.o; have := K0.o; omega⟩, ⟨rR_ j0.o⟩, ⟨by refine kK_ ?_; exact b0.o⟩, ⟨hS_ B0.o⟩⟩
  rw [Fa g2] at H
  have N2 := ya g2
  clear g2
  by_cases i2 : (G0.length : Int) < 256
  ·rw [Fa i2] at H
   have O2 := ya i2
   have P2 : decide (G0.length < 256) = true := ya (by omega)
   clear i2
   obtain ⟨S3, H⟩ := iN_ H
   have L1 := c_ S3
   clear S3
   obtain ⟨t3, m1⟩ : ∃ y_ : List Int, y_ = (G0 ++ [wrap64 ((wrap64 (Int.tdiv (wrap64 (bt d0 (n0))) 16)) + (wrap64 (16 * (wrap64 (bt d0 (D0))))))]) := ⟨_, rfl⟩
   first | replace H := yb_ m1 H | rw [← m1] at H
   have M1 := c_ m1
   clear m1
   have H' := c_ H
   clear H
   have y2 := Aa (oD_ : 0 ≤ ((y0) : Int))
   have z2 := Aa (oD_ : (y0) < (d0.size : Int))
   have C1 := cY d0 (y0)
   have A2 := Aa (oD_ : 0 ≤ ((n0) : Int))
   have B2 := Aa (oD_ : (n0) < (d0.size : Int))
   have D1 := cY d0 (n0)
   have C2 := Aa (oD_ : 0 ≤ ((n0) : Int))
   have D2 := Aa (oD_ : (n0) < (d0.size : Int))
   have E1 := cY d0 (n0)
   have E2 := Aa (oD_ : 0 ≤ ((D0) : Int))
   have F2 := Aa (oD_ : (D0) < (d0.size : Int))
   have F1 := cY d0 (D0)
   obtain ⟨l4, n4, v3⟩ := uV j0.o
   subst v3
   go_wp2_with (first | (refine ga_ 84 86 ?_; (try (refine bh (by rfl) ?_; dsimp only)); at_builtin; refine ap_ j0 M1 L1 Tryz.underlying33 di fun Q2 T3 N1 HB hg hat => ?_; have b0 := gK_ b0 j0))
   repeat (go_quiet (first | (refine ga_ 84 86 ?_; (try (refine bh (by rfl) ?_; dsimp only)); at_builtin; refine ap_ j0 M1 L1 Tryz.underlying33 di fun Q2 T3 N1 HB hg hat => ?_; have b0 := gK_ b0 j0)); try go_wp2_with (first | (refine ga_ 84 86 ?_; (try (refine bh (by rfl) ?_; dsimp only)); at_builtin; refine ap_ j0 M1 L1 Tryz.underlying33 di fun Q2 T3 N1 HB hg hat => ?_; have b0 := gK_ b0 j0)))
   go_roundg p1
   case measure => have := M0.o; have := H0.o; have := K0.o; omega
   case rel => exact ⟨(t3), (d0), (wrap64 (v0 + 1)), (q0), (r0), f0_, f0_, H', ⟨by have := M0.o; have := H0.o; have := K0.o; omega⟩, ⟨rR_ N1.o⟩, ⟨by refine kK_ ?_; exact b0.o⟩, ⟨hS_ B0.o⟩⟩
  rw [Ga i2] at H
  have O2 := za i2
  have P2 : decide (G0.length < 256) = false := za (by omega)
  clear i2
  have H' := c_ H
  clear H
  have y2 := Aa (oD_ : 0 ≤ ((y0) : Int))
  have z2 := Aa (oD_ : (y0) < (d0.size : Int))
  have C1 := cY d0 (y0)
  have A2 := Aa (oD_ : 0 ≤ ((n0) : Int))
  have B2 := Aa (oD_ : (n0) < (d0.size : Int))
  have D1 := cY d0 (n0)
  have C2 := Aa (oD_ : 0 ≤ ((n0) : Int))
  have D2 := Aa (oD_ : (n0) < (d0.size : Int))
  have E1 := cY d0 (n0)
  have E2 := Aa (oD_ : 0 ≤ ((D0) : Int))
  have F2 := Aa (oD_ : (D0) < (d0.size : Int))
  have F1 := cY d0 (D0)
  obtain ⟨q4, t4, w3⟩ := uV j0.o
  subst w3
  go_wp2
  repeat (go_quiet (fail); try go_wp2)
  go_roundg p1
  case measure => have := M0.o; have := H0.o; have := K0.o; omega
  case rel => exact ⟨(G0), (d0), (wrap64 (v0 + 1)), (q0), (r0), f0_, f0_, H', ⟨by have := M0.o; have := H0.o; have := K0.o; omega⟩, ⟨rR_ j0.o⟩, ⟨by refine kK_ ?_; exact b0.o⟩, ⟨hS_ B0.o⟩⟩
 ·replace V2 := Ea V2
  subst V2
  replace H := iF_ H
  have H' := c_ H
  clear H
  go_wp2
  repeat (go_quiet (fail); try go_wp2)
  go_loopg [7] U1 (fun kq v7 w' => ∃ (Q0 : List Int), aa (aj.l1 kq Q0 = some r) ∧ aa (kq ≤ U1) ∧ aa (Kd.R (Kd.int .i64) 3 w' w.heap.size (fun _ => True) v7 Q0) ∧ aa (w'.heap[k0]? = some (.cells #[.string f0, .int .i64 e0] 95 (0, 0))) ∧ aa (Below w.heap.size w w'))
  case atStart => exact ⟨(G0), H', ⟨Ca _⟩, ⟨rR_ j0.o⟩, ⟨by refine kK_ ?_; exact b0.o⟩, ⟨hS_ B0.o⟩⟩
  clear H'
  obtain ⟨Q0, HA, U3, j0, b0, HB⟩ := hrel
  rcases gk with _ | k3
  ·exact absurd HA.o (by simp [aj.l1])
  have H := HA.o
  clear HA
  simp only [aj.l1] at H
  by_cases l2 : (Q0.length : Int) < 256
  ·rw [Fa l2] at H
   have R2 := ya l2
   have T2 : decide (Q0.length < 256) = true := ya (by omega)
   clear l2
   obtain ⟨V3, H⟩ := iN_ H
   have O1 := c_ V3
   clear V3
   obtain ⟨y3, n1⟩ : ∃ y_ : List Int, y_ = (Q0 ++ [0]) := ⟨_, rfl⟩
   first | replace H := yb_ n1 H | rw [← n1] at H
   have P1 := c_ n1
   clear n1
   have H' := c_ H
   clear H
   obtain ⟨v4, w4, z3⟩ := uV j0.o
   subst z3
   go_wp2_with (first | (refine ga_ 91 92 ?_; (try (refine bh (by rfl) ?_; dsimp only)); at_builtin; refine ap_ j0 P1 O1 Tryz.underlying33 di fun U2 W3 Q1 HB hg hat => ?_; have b0 := gK_ b0 j0))
   repeat (go_quiet (first | (refine ga_ 91 92 ?_; (try (refine bh (by rfl) ?_; dsimp only)); at_builtin; refine ap_ j0 P1 O1 Tryz.underlying33 di fun U2 W3 Q1 HB hg hat => ?_; have b0 := gK_ b0 j0)); try go_wp2_with (first | (refine ga_ 91 92 ?_; (try (refine bh (by rfl) ?_; dsimp only)); at_builtin; refine ap_ j0 P1 O1 Tryz.underlying33 di fun U2 W3 Q1 HB hg hat => ?_; have b0 := gK_ b0 j0)))
   go_roundg k3
   case measure => have := M0.o; have := H0.o; have := U3.o; omega
   case rel => exact ⟨(y3), H', ⟨by have := M0.o; have := H0.o; have := U3.o; omega⟩, ⟨rR_ Q1.o⟩, ⟨by refine kK_ ?_; exact b0.o⟩, ⟨hS_ B0.o⟩⟩
  rw [Ga l2] at H
  have R2 := za l2
  have T2 : decide (Q0.length < 256) = false := za (by omega)
  clear l2
  obtain rfl := Ba H
  obtain ⟨y4, z4, A3⟩ := uV j0.o
  subst A3
  go_wp2
  repeat (go_quiet (fail); try go_wp2)
  go_ret
  exact ⟨_, f1_, rR_ j0.o, hS_ B0.o⟩
mutual
def az.l0 : Nat → ByteArray → List (List Int) → Int → Option ((List (List Int)))
 | 0, _, _, _ => none
 | k + 1, x0, x3, x4 => if x4 < 2 then (az.l1 k x0 x3 x4 0) else (some x3)
def az.l1 : Nat → ByteArray → List (List Int) → Int → Int → Option ((List (List Int)))
 | 0, _, _, _, _ => none
 | k + 1, x0, x3, x4, x5 => if x5 < 2 then ((aj.f k x0 x5 x4).bind fun t349 => (if x3.length < 5864062014805 then (az.l1 k x0 (x3 ++ [t349]) x4 (wrap64 (x5 + 1))) else (none))) else (az.l0 k x0 x3 (wrap64 (x4 + 1)))
end
def az.f (k : Nat) (a0 : ByteArray) : Option ((List (List Int))) := az.l0 k a0 (([] : List (List Int))) 0
theorem az.mono_l : ∀ k, (∀ y0 y1 y2, LeO (az.l0 k y0 y1 y2) (az.l0 (k + 1) y0 y1 y2)) ∧ (∀ y0 y1 y2 y3, LeO (az.l1 k y0 y1 y2 y3) (az.l1 (k + 1) y0 y1 y2 y3))
 | 0 => ⟨fun _ _ _ r h => by simp [az.l0] at h, fun _ _ _ _ r h => by simp [az.l1] at h⟩
 | k + 1 => by
  obtain ⟨ih0, ih1⟩ := az.mono_l k
  refine ⟨?_, ?_⟩ <;> (intros; (first | unfold az.l0 | unfold az.l1); exact o3_ ih0 ih1 aj.mono)
theorem az.mono : ∀ a0 k, LeO (az.f k a0) (az.f (k + 1) a0) := by
 intro a0 k
 obtain ⟨ih0, ih1⟩ := az.mono_l k
 unfold az.f
 exact o3_ ih0 ih1 aj.mono
theorem az.calls (k : Nat) (a0 : ByteArray) (r : List (List Int)) (w : World) (h : az.f k a0 = some r) :
  Calls Tryz.prog 18 #[.string a0] w fun e w' => ∃ L0 : Value, e = .returned (L0) ∧ Kd.S (Kd.slice 3 (Kd.int .i64)) 33 w' w.heap.size (fun _ => True) L0 r ∧ Below w.heap.size w w' := by
 have HB := c_ (Da w.heap.size w)
 delta az.f at h
 have H := h
 clear h
 obtain ⟨F0, d0⟩ : ∃ y_ : List (List Int), y_ = (([] : List (List Int))) := ⟨_, rfl⟩
 first | replace H := yb_ d0 H | rw [← d0] at H
 have r0 := c_ d0
 clear d0
 have H' := c_ H
 clear H
 go_enter Tryz.func18, Tryz.ntmps18
 go_wp2_with (first | ((refine cQ (N := 6) rfl ?_); refine wN (Kd.slice 3 (Kd.int .i64)) _ 33 ?hg (N := 6) ?hd (xs := ([] : List (List Int))) (inner := []) (ok := fun _ => True) (okp := fun _ => True) ?hr ?hp (fun _ hk => hk) trivial (Da _ _) (Ca _) (by simp) ?_; (case hd => rfl); (case hg => rfl); (case hr => first | (go_simp; done) | (go_simp; rfl)); (case hp => exact (eM.none _ _)); intro M0 w2 t0 hb hg_ hnew_; clear hg_ hnew_; (first | rw [← r0.o] at t0 | (simp only [Int.reduceToNat] at t0; rw [← r0.o] at t0)); obtain ⟨v0, HB⟩ := b_ (vI t0 (av (hB_))) <| sB_; clear hb t0))
 go_loopg [3, 4] k (fun kq v3 v4 w' => ∃ (p0 : List (List Int)) (f0 : Int), v4 = .int .i64 f0 ∧ aa (az.l0 kq a0 p0 f0 = some r) ∧ aa (kq ≤ k) ∧ aa (Kd.S (Kd.slice 3 (Kd.int .i64)) 33 w' w.heap.size (fun _ => True) v3 p0) ∧ aa (Below w.heap.size w w'))
 case atStart => exact ⟨(F0), (0), f0_, H', ⟨Ca _⟩, ⟨rS_ v0.o⟩, ⟨hB_⟩⟩
 clear H'
 obtain ⟨p0, f0, rfl, HA, D0, b0, HB⟩ := hrel
 rcases gk with _ | k1
 ·exact absurd HA.o (by simp [az.l0])
 have H := HA.o
 clear HA
 simp only [az.l0] at H
 by_cases c4 : f0 < 2
 rotate_left
 ·rw [Ga c4] at H
  have G0 := za c4
  clear c4
  obtain rfl := Ba H
  go_wp2
  go_ret
  exact ⟨_, f1_, by refine kS_ ?_; exact b0.o, hB_⟩
 rw [Fa c4] at H
 have G0 := ya c4
 clear c4
 have H' := c_ H
 clear H
 go_wp2
 go_loopg [3, 5] k1 (fun kq v3 v5 w' => ∃ (j0 : List (List Int)) (k0 : Int), v5 = .int .i64 k0 ∧ aa (az.l1 kq a0 j0 f0 k0 = some r) ∧ aa (kq ≤ k1) ∧ aa (Kd.S (Kd.slice 3 (Kd.int .i64)) 33 w' w.heap.size (fun _ => True) v3 j0) ∧ aa (Below w.heap.size w w'))
 case atStart => exact ⟨(p0), (0), f0_, H', ⟨Ca _⟩, ⟨rS_ b0.o⟩, ⟨hB_⟩⟩
 clear H'
 obtain ⟨j0, k0, rfl, HA, E0, b0, HB⟩ := hrel
 rcases gk with _ | k2
 ·exact absurd HA.o (by simp [az.l1])
 have H := HA.o
 clear HA
 simp only [az.l1] at H
 by_cases c5 : k0 < 2
 ·rw [Fa c5] at H
  have H0 := ya c5
  clear c5
  obtain ⟨q0, A6, H⟩ := bN_ H
  obtain ⟨c7, H⟩ := iN_ H
  have I0 := c_ c7
  clear c7
  obtain ⟨J0, e0⟩ : ∃ y_ : List (List Int), y_ = (j0 ++ [q0]) := ⟨_, rfl⟩
  first | replace H := yb_ e0 H | rw [← e0] at H
  have x0 := c_ e0
  clear e0
  have H' := c_ H
  clear H
  go_wp2_with (first | (refine gR_ (k_ 19 Tryz.func46) (aj.calls _ _ _ _ _ _ A6.o) fun N0 w8 ho_ hb => ?_; obtain ⟨b0, n0, HB⟩ := n_ (dr b0) <| n_ (lR_ ho_) <| sB_; obtain ⟨y0, B0, K0⟩ := uV n0.o; subst K0) | ((refine cr (b := .append) (xs := #[.tmp 15, .tmp 20]) rfl ?_); at_builtin; refine vu (Kd.slice 3 (Kd.int .i64)) (w0 := w) w.heap.size rfl (.tmp 15) (.tmp 20) 44 33 (.slice none 0 0) 24 rfl Tryz.underlying44 gu rfl (by decide) (by omega) u3 j0 q0 [.slice y0 q0.length B0] (fun _ => True) (fun k_ => some k_ = (.slice y0 q0.length B0 : Value).ownBlock) rfl rfl ?aP (fun k_ hk_ => ((uW (ok' := fun k_ => ((fun _ => True)) k_ ∧ some k_ ≠ (u3 : Value).ownBlock) (va (n0.o) (ve b0.o) (by decide)) (fun k_ hk => ⟨trivial, hk.2⟩))).1 k_ hk_.symm) ?aF ?aO ?aB ?aS ?aL ?_; (case aP => exact vY (uW (vx rfl (uW (ok' := fun k_ => ((fun _ => True)) k_ ∧ some k_ ≠ (u3 : Value).ownBlock) (va (n0.o) (ve b0.o) (by decide)) (fun k_ hk => ⟨trivial, hk.2⟩))) (fun _ h_ => h_))); (case aB => exact (hB_)); (case aF => exact (fun _ _ => trivial)); (case aO => exact (by refine kS_ ?_; exact vi b0.o (fun k_ hk => ⟨trivial, fun e_ => hk.2 e_⟩))); (case aS => exact (av (hB_))); (case aL => have := I0.o; omega); intro O0 w9 ho hb hg hat; rw [← x0.o] at ho; obtain ⟨HB, C0⟩ := b_ (hb) <| c_ (ho); clear ho hb hg hat))
  go_roundg k2
  case measure => have := D0.o; have := E0.o; omega
  case rel => exact ⟨(J0), (wrap64 (k0 + 1)), f0_, H', ⟨by have := D0.o; have := E0.o; omega⟩, ⟨rS_ C0.o⟩, ⟨hB_⟩⟩
 rw [Ga c5] at H
 have H0 := za c5
 clear c5
 have H' := c_ H
 clear H
 go_wp2
 go_roundg k2
 case measure => have := D0.o; have := E0.o; omega
 case rel => exact ⟨(j0), (wrap64 (f0 + 1)), f0_, H', ⟨by have := D0.o; have := E0.o; omega⟩, ⟨rS_ b0.o⟩, ⟨hB_⟩⟩
def db.f (k : Nat) (a0 : ByteArray) (a1 : Int) : Option (ByteArray × Bool) := (aZ.f a1 0 4000).bind fun t375 => (if t375 = true then ((ce.f k a0).bind fun bt376 => ((aD.f k bt376.1 bt376.2 a1).bind fun bt378 => (some (bt378.2.2, true)))) else (some ((⟨#[]⟩ : ByteArray), false)))
theorem db.mono : ∀ a0 a1 k, LeO (db.f k a0 a1) (db.f (k + 1) a0 a1) := by
 intro a0 a1 k
 unfold db.f
 exact o2_ ce.mono aD.mono
theorem db.calls (k : Nat) (a0 : ByteArray) (a1 : Int) (r1 : ByteArray) (r2 : Bool) (w : World) (h : db.f k a0 a1 = some (r1, r2)) :
  Calls Tryz.prog 50 #[.string a0, .int .i64 a1] w fun e w' => e = .returned (.tuple #[.string r1, .bool r2]) ∧ Below w.heap.size w w' := by
 have hu95 := Tryz.underlying95
 have HB := c_ (Da w.heap.size w)
 delta db.f at h
 have H := h
 clear h
 obtain ⟨p0, A3, H⟩ := bN_ H
 by_cases c4 : p0 = true
 ·subst c4
  replace H := iT_ H
  obtain ⟨⟨q0, r0⟩, A5, H⟩ := bN_ H
  obtain ⟨⟨t0, v0, x0⟩, A6, H⟩ := bN_ H
  simp only [Option.some.injEq, Prod.mk.injEq] at H
  obtain ⟨rfl, rfl⟩ := H
  go_enter Tryz.func50, Tryz.ntmps50
  go_wp2_with (first | (refine gp_ (k_ 9 Tryz.func87) (aZ.calls _ _ _ _ _ A3.o) fun nd => ?_) | (refine gb_ (k_ 13 Tryz.func85) (ce.calls _ _ _ _ _ A5.o) fun w7 HB => ?_) | (refine gb_ (k_ 15 Tryz.func86) (aD.calls _ _ _ _ _ _ _ _ A6.o) fun w8 HB => ?_) | (refine bx_ 6 #[.string (⟨#[]⟩ : ByteArray), .int .i64 0] 95 fun d0 w9 hb HB b0 e0 => ?_; have f0 : w9.cell? ⟨d0, 0, none⟩ = some (.string (⟨#[]⟩ : ByteArray)) := (ak b0.o 0).trans rfl; have j0 : w9.cell? ⟨d0, 1, none⟩ = some (.int .i64 0) := (ak b0.o 1).trans rfl; have k0 := ag b0.o 0; have n0 := ag b0.o 1))
  go_ret2
  exact ⟨f1_, hS_ e0.o⟩
 ·replace c4 := Ea c4
  subst c4
  replace H := iF_ H
  simp only [Option.some.injEq, Prod.mk.injEq] at H
  obtain ⟨rfl, rfl⟩ := H
  go_enter Tryz.func50, Tryz.ntmps50
  go_wp2_with (first | (refine gp_ (k_ 9 Tryz.func87) (aZ.calls _ _ _ _ _ A3.o) fun nd => ?_))
  go_ret2
  exact ⟨f1_, hB_⟩
def bz.l0 : Nat → List Int → ByteArray → Int → Option (List Int)
 | 0, _, _, _ => none
 | k + 1, x5, x6, x8 => if x8 < 256 then (if 0 ≤ (wrap64 (Int.tdiv x8 2)) then (if (wrap64 (Int.tdiv x8 2)) < (x6.size : Int) then (if (Int.tmod x8 2) = 1 then (if x5.length < 17592186044416 then (bz.l0 k (x5 ++ [Int.tmod (wrap64 ((wrap64 ((wrap64 ((wrap64 ((Int.tmod (wrap64 (Int.tdiv (wrap64 (bt x6 (wrap64 (Int.tdiv x8 2)))) 16)) 2) + (Int.tmod (wrap64 (Int.tdiv (wrap64 (Int.tdiv (wrap64 (bt x6 (wrap64 (Int.tdiv x8 2)))) 16)) 2)) 2))) - (Int.tmod (wrap64 (Int.tdiv (wrap64 (Int.tdiv (wrap64 (bt x6 (wrap64 (Int.tdiv x8 2)))) 16)) 4)) 2))) - (Int.tmod (wrap64 (Int.tdiv (wrap64 (Int.tdiv (wrap64 (bt x6 (wrap64 (Int.tdiv x8 2)))) 16)) 8)) 2))) + 3329)) 3329]) x6 (wrap64 (x8 + 1))) else (none)) else (if x5.length < 17592186044416 then (bz.l0 k (x5 ++ [Int.tmod (wrap64 ((wrap64 ((wrap64 ((wrap64 ((Int.tmod (wrap64 (bt x6 (wrap64 (Int.tdiv x8 2)))) 2) + (Int.tmod (wrap64 (Int.tdiv (wrap64 (bt x6 (wrap64 (Int.tdiv x8 2)))) 2)) 2))) - (Int.tmod (wrap64 (Int.tdiv (wrap64 (bt x6 (wrap64 (Int.tdiv x8 2)))) 4)) 2))) - (Int.tmod (wrap64 (Int.tdiv (wrap64 (bt x6 (wrap64 (Int.tdiv x8 2)))) 8)) 2))) + 3329)) 3329]) x6 (wrap64 (x8 + 1))) else (none))) else (none)) else (none)) else (some x5)
def bz.f (k : Nat) (a0 : ByteArray) (a1 : Int) : Option (List Int) := (cS.f a1).bind fun t385 => (if a0.size + t385.size ≤ 9223372036854775807 then ((db.f k (a0 ++ t385) 128).bind fun bt386 => (bz.l0 k (([] : List Int)) bt386.1 0)) else (none))
theorem bz.mono_l : ∀ k, (∀ y0 y1 y2, LeO (bz.l0 k y0 y1 y2) (bz.l0 (k + 1) y0 y1 y2))
 | 0 => fun _ _ _ r h => by simp [bz.l0] at h
 | k + 1 => by
  have ih0 := bz.mono_l k
  intros; unfold bz.l0; exact o2_ ih0 db.mono
theorem bz.mono : ∀ a0 a1 k, LeO (bz.f k a0 a1) (bz.f (k + 1) a0 a1) := by
 intro a0 a1 k
 have ih0 := bz.mono_l k
 unfold bz.f
 exact o2_ ih0 db.mono
theorem bz.calls (k : Nat) (a0 : ByteArray) (a1 : Int) (r : List Int) (w : World) (h : bz.f k a0 a1 = some r) :
  Calls Tryz.prog 20 #[.string a0, .int .i64 a1] w fun e w' => ∃ Q0 : Value, e = .returned (Q0) ∧ Kd.R (Kd.int .i64) 3 w' w.heap.size (fun _ => True) Q0 r ∧ Below w.heap.size w w' := by
 have HB := c_ (Da w.heap.size w)
 delta bz.f at h
 have H := h
 clear h
 obtain ⟨K0, j0⟩ : ∃ y_ : List Int, y_ = (([] : List Int)) := ⟨_, rfl⟩
 first | replace H := yb_ j0 H | rw [← j0] at H
 have x0 := c_ j0
 clear j0
 obtain ⟨L0, A3, H⟩ := bN_ H
 obtain ⟨c4, H⟩ := iN_ H
 have V0 := Aa c4
 have W0 := ya c4
 try have X0 : (9223372036854775807 < a0.size + L0.size) = False := eq_false (Nat.not_lt.2 c4)
 obtain ⟨⟨d0, Y0⟩, A5, H⟩ := bN_ H
 have H' := c_ H
 clear H
 go_enter Tryz.func20, Tryz.ntmps20
 go_wp2_with (first | (refine lj_ 10 .i64 3 x0 fun Z0 w6 f0 HB => ?_) | (refine gc_ (k_ 14 Tryz.func51) (cS.calls _ _ _ A3.o) fun w8 hb => ?_; obtain ⟨f0, HB⟩ := n_ (fR_ f0) <| sB_) | (refine gc_ (k_ 16 Tryz.func50) (db.calls _ _ _ _ _ _ A5.o) fun w9 hb => ?_; obtain ⟨f0, HB⟩ := n_ (fR_ f0) <| sB_))
 go_loopg [5, 8] k (fun kq v5 v8 w' => ∃ (p0 : List Int) (e0 : Int), v8 = .int .i64 e0 ∧ aa (bz.l0 kq p0 d0 e0 = some r) ∧ aa (kq ≤ k) ∧ aa (Kd.R (Kd.int .i64) 3 w' w.heap.size (fun _ => True) v5 p0) ∧ aa (Below w.heap.size w w'))
 case atStart => exact ⟨(K0), (0), f0_, H', ⟨Ca _⟩, ⟨rR_ f0.o⟩, ⟨hB_⟩⟩
 clear H'
 obtain ⟨p0, e0, rfl, HA, J0, r0, HB⟩ := hrel
 rcases gk with _ | k1
 ·exact absurd HA.o (by simp [bz.l0])
 have H := HA.o
 clear HA
 simp only [bz.l0] at H
 by_cases v0 : e0 < 256
 rotate_left
 ·rw [Ga v0] at H
  have y0 := za v0
  clear v0
  obtain rfl := Ba H
  go_wp2
  go_ret
  exact ⟨_, f1_, rR_ r0.o, hB_⟩
 rw [Fa v0] at H
 have y0 := ya v0
 clear v0
 obtain ⟨b0, q0⟩ : ∃ j_ : Int, (wrap64 (Int.tdiv e0 2)) = j_ := ⟨_, rfl⟩
 first | rw [q0] at H | simp only [q0] at H
 have M0 : (IntKind.i64.wrap (Int.tdiv e0 2)) = b0 := (bB _).trans q0
 obtain ⟨R0, H⟩ := iD_ H
 obtain ⟨S0, H⟩ := iD_ H
 by_cases t0 : (Int.tmod e0 2) = 1
 ·rw [Fa t0] at H
  have B0 : ((Int.tmod e0 2) == 1) = true := beq_iff_eq.mpr t0
  have C0 : ((Int.tmod e0 2) != 1) = false := bne_eq_false_iff_eq.mpr t0
  clear t0
  obtain ⟨T0, H⟩ := iN_ H
  have D0 := c_ T0
  clear T0
  obtain ⟨N0, k0⟩ : ∃ y_ : List Int, y_ = (p0 ++ [Int.tmod (wrap64 ((wrap64 ((wrap64 ((wrap64 ((Int.tmod (wrap64 (Int.tdiv (wrap64 (bt d0 (b0))) 16)) 2) + (Int.tmod (wrap64 (Int.tdiv (wrap64 (Int.tdiv (wrap64 (bt d0 (b0))) 16)) 2)) 2))) - (Int.tmod (wrap64 (Int.tdiv (wrap64 (Int.tdiv (wrap64 (bt d0 (b0))) 16)) 4)) 2))) - (Int.tmod (wrap64 (Int.tdiv (wrap64 (Int.tdiv (wrap64 (bt d0 (b0))) 16)) 8)) 2))) + 3329)) 3329]) := ⟨_, rfl⟩
  first | replace H := yb_ k0 H | rw [← k0] at H
  have E0 := c_ k0
  clear k0
  have H' := c_ H
  clear H
  have b1 := Aa (oD_ : 0 ≤ ((b0) : Int))
  have c1 := Aa (oD_ : (b0) < (d0.size : Int))
  have O0 := cY d0 (b0)
  go_wp2_with (first | (refine ga_ 33 50 ?_; at_builtin; refine ap_ r0 E0 D0 Tryz.underlying33 di fun d1 f1 F0 HB hg hat => ?_))
  go_roundg k1
  case measure => have := J0.o; omega
  case rel => exact ⟨(N0), (wrap64 (e0 + 1)), f0_, H', ⟨by have := J0.o; omega⟩, ⟨rR_ F0.o⟩, ⟨hB_⟩⟩
 rw [Ga t0] at H
 have B0 : ((Int.tmod e0 2) == 1) = false := beq_eq_false_iff_ne.mpr t0
 have C0 : ((Int.tmod e0 2) != 1) = true := bne_iff_ne.mpr t0
 obtain ⟨U0, H⟩ := iN_ H
 have G0 := c_ U0
 clear U0
 obtain ⟨P0, n0⟩ : ∃ y_ : List Int, y_ = (p0 ++ [Int.tmod (wrap64 ((wrap64 ((wrap64 ((wrap64 ((Int.tmod (wrap64 (bt d0 (b0))) 2) + (Int.tmod (wrap64 (Int.tdiv (wrap64 (bt d0 (b0))) 2)) 2))) - (Int.tmod (wrap64 (Int.tdiv (wrap64 (bt d0 (b0))) 4)) 2))) - (Int.tmod (wrap64 (Int.tdiv (wrap64 (bt d0 (b0))) 8)) 2))) + 3329)) 3329]) := ⟨_, rfl⟩
 first | replace H := yb_ n0 H | rw [← n0] at H
 have H0 := c_ n0
 clear n0
 have H' := c_ H
 clear H
 have b1 := Aa (oD_ : 0 ≤ ((b0) : Int))
 have c1 := Aa (oD_ : (b0) < (d0.size : Int))
 have O0 := cY d0 (b0)
 go_wp2_with (first | (refine ga_ 33 50 ?_; at_builtin; refine ap_ r0 H0 G0 Tryz.underlying33 di fun e1 g1 I0 HB hg hat => ?_))
 go_roundg k1
 case measure => have := J0.o; omega
 case rel => exact ⟨(P0), (wrap64 (e0 + 1)), f0_, H', ⟨by have := J0.o; omega⟩, ⟨rR_ I0.o⟩, ⟨hB_⟩⟩
mutual
def am.j0 : Nat → ByteArray → ByteArray → ByteArray → Bool → Option (ByteArray × Bool)
 | 0, _, _, _, _ => none
 | k + 1, x0, x1, x2, x31 => if x31 = true then (some ((⟨#[]⟩ : ByteArray), false)) else ((bd.f k x0).bind fun bt973 => (if 768 ≤ (x0.size : Int) then ((az.f k (x0.extract 768 x0.size)).bind fun t977 => (am.l0 k x1 x2 bt973.1 t977 (([] : List (List Int))) 0)) else (none)))
def am.l0 : Nat → ByteArray → ByteArray → List (List Int) → List (List Int) → List (List Int) → Int → Option (ByteArray × Bool)
 | 0, _, _, _, _, _, _ => none
 | k + 1, x1, x2, x8, x10, x11, x12 => if x12 < 2 then ((bz.f k x2 x12).bind fun t983 => ((ba.f k t983).bind fun t986 => (if x11.length < 5864062014805 then (am.l0 k x1 x2 x8 x10 (x11 ++ [t986]) (wrap64 (x12 + 1))) else (none)))) else (am.l1 k x1 x2 x8 x10 x11 (⟨#[]⟩ : ByteArray) 0)
def am.l1 : Nat → ByteArray → ByteArray → List (List Int) → List (List Int) → List (List Int) → ByteArray → Int → Option (ByteArray × Bool)
 | 0, _, _, _, _, _, _, _ => none
 | k + 1, x1, x2, x8, x10, x11, x13, x14 => if x14 < 2 then (am.l2 k x1 x2 x8 x10 x11 x13 x14 (([] : List (List Int))) 0) else ((aV.f k x8 x11).bind fun t1012 => ((al.f k t1012).bind fun t1015 => ((bz.f k x2 4).bind fun t1018 => ((aG.f k t1015 t1018).bind fun t1021 => ((bf.f k x1).bind fun t1024 => ((aG.f k t1021 t1024).bind fun t1027 => ((aM.f k t1027 4).bind fun t1030 => (if x13.size + t1030.size ≤ 9223372036854775807 then (some (x13 ++ t1030, true)) else (none)))))))))
def am.l2 : Nat → ByteArray → ByteArray → List (List Int) → List (List Int) → List (List Int) → ByteArray → Int → List (List Int) → Int → Option (ByteArray × Bool)
 | 0, _, _, _, _, _, _, _, _, _ => none
 | k + 1, x1, x2, x8, x10, x11, x13, x14, x15, x16 => if x16 < 2 then (if 0 ≤ (wrap64 ((wrap64 (x16 * 2)) + x14)) then (if (wrap64 ((wrap64 (x16 * 2)) + x14)) < (x10.length : Int) then (if x15.length < 5864062014805 then (am.l2 k x1 x2 x8 x10 x11 x13 x14 (x15 ++ [dV x10 (wrap64 ((wrap64 (x16 * 2)) + x14))]) (wrap64 (x16 + 1))) else (none)) else (none)) else (none)) else ((aV.f k x15 x11).bind fun t999 => ((al.f k t999).bind fun t1002 => ((bz.f k x2 (wrap64 (2 + x14))).bind fun t1005 => ((aG.f k t1002 t1005).bind fun t1008 => ((aM.f k t1008 10).bind fun t1011 => (if x13.size + t1011.size ≤ 9223372036854775807 then (am.l1 k x1 x2 x8 x10 x11 (x13 ++ t1011) (wrap64 (x14 + 1))) else (none)))))))
end
def am.f (k : Nat) (a0 : ByteArray) (a1 : ByteArray) (a2 : ByteArray) : Option (ByteArray × Bool) := (cC.f k a0).bind fun t972 => (if t972 = true then (if (a1.size : Int) = 32 then (am.j0 k a0 a1 a2 ((a2.size : Int) != 32)) else (am.j0 k a0 a1 a2 true)) else (am.j0 k a0 a1 a2 true))
theorem am.mono_l : ∀ k, (∀ y0 y1 y2 y3, LeO (am.j0 k y0 y1 y2 y3) (am.j0 (k + 1) y0 y1 y2 y3)) ∧ (∀ y0 y1 y2 y3 y4 y5, LeO (am.l0 k y0 y1 y2 y3 y4 y5) (am.l0 (k + 1) y0 y1 y2 y3 y4 y5)) ∧ (∀ y0 y1 y2 y3 y4 y5 y6, LeO (am.l1 k y0 y1 y2 y3 y4 y5 y6) (am.l1 (k + 1) y0 y1 y2 y3 y4 y5 y6)) ∧ (∀ y0 y1 y2 y3 y4 y5 y6 y7 y8, LeO (am.l2 k y0 y1 y2 y3 y4 y5 y6 y7 y8) (am.l2 (k + 1) y0 y1 y2 y3 y4 y5 y6 y7 y8))
 | 0 => ⟨fun _ _ _ _ r h => by simp [am.j0] at h, fun _ _ _ _ _ _ r h => by simp [am.l0] at h, fun _ _ _ _ _ _ _ r h => by simp [am.l1] at h, fun _ _ _ _ _ _ _ _ _ r h => by simp [am.l2] at h⟩
 | k + 1 => by
  obtain ⟨ih0, ih1, ih2, ih3⟩ := am.mono_l k
  refine ⟨?_, ?_, ?_, ?_⟩ <;> (intros; (first | unfold am.j0 | unfold am.l0 | unfold am.l1 | unfold am.l2); exact sL ih0 ih1 ih2 ih3 al.mono ba.mono aG.mono cC.mono bz.mono bf.mono az.mono bd.mono aM.mono aV.mono)
theorem am.mono : ∀ a0 a1 a2 k, LeO (am.f k a0 a1 a2) (am.f (k + 1) a0 a1 a2) := by
 intro a0 a1 a2 k
 obtain ⟨ih0, ih1, ih2, ih3⟩ := am.mono_l k
 unfold am.f
 exact sL ih0 ih1 ih2 ih3 al.mono ba.mono aG.mono cC.mono bz.mono bf.mono az.mono bd.mono aM.mono aV.mono
theorem am.calls (k : Nat) (a0 : ByteArray) (a1 : ByteArray) (a2 : ByteArray) (r1 : ByteArray) (r2 : Bool) (w : World) (h : am.f k a0 a1 a2 = some (r1, r2)) :
  Calls Tryz.prog 60 #[.string a0, .string a1, .string a2] w fun e w' => e = .returned (.tuple #[.string r1, .bool r2]) ∧ Below w.heap.size w w' := by
 have HB := c_ (Da w.heap.size w)
 delta am.f at h
 have H := h
 clear h
 have g2 := c_ H
 clear H
 go_enter Tryz.func60, Tryz.ntmps60
 go_upto_region 1 with (fail)
 go_cut [31] (fun K3 wc => ∃ (kq : Nat) (U0 : Bool), K3 = .bool U0 ∧ aa (am.j0 kq a0 a1 a2 U0 = some (r1, r2)) ∧ aa (kq ≤ k) ∧ aa (Below w.heap.size w wc))
 case first =>
  have H := g2.o
  clear g2
  obtain ⟨i2, A5, H⟩ := bN_ H
  by_cases c6 : i2 = true
  ·subst c6
   replace H := iT_ H
   by_cases c7 : (a1.size : Int) = 32
   ·rw [Fa c7] at H
    have i1 : ((a1.size : Int) == 32) = true := beq_iff_eq.mpr c7
    have j2 : ((a1.size : Int) != 32) = false := bne_eq_false_iff_eq.mpr c7
    clear c7
    (first | rw [i1] | (simp only [bB, cG]; rw [i1]) | skip)
    have H' := c_ H
    clear H
    go_wp2_with (first | (refine gb_ (k_ 20 Tryz.func98) (cC.calls _ _ _ _ A5.o) fun w8 HB => ?_))
    go_meet
    case rel => exact ⟨_, (((a2.size : Int) != 32)), f0_, H', ⟨by first | omega | exact Ca _⟩, ⟨hB_⟩⟩
   rw [Ga c7] at H
   have i1 : ((a1.size : Int) == 32) = false := beq_eq_false_iff_ne.mpr c7
   have j2 : ((a1.size : Int) != 32) = true := bne_iff_ne.mpr c7
   (first | rw [i1] | (simp only [bB, cG]; rw [i1]) | skip)
   have H' := c_ H
   clear H
   go_wp2_with (first | (refine gb_ (k_ 20 Tryz.func98) (cC.calls _ _ _ _ A5.o) fun w9 HB => ?_))
   go_meet
   case rel => exact ⟨_, (true), f0_, H', ⟨by first | omega | exact Ca _⟩, ⟨hB_⟩⟩
  ·replace c6 := Ea c6
   subst c6
   replace H := iF_ H
   have H' := c_ H
   clear H
   go_wp2_with (first | (refine gb_ (k_ 20 Tryz.func98) (cC.calls _ _ _ _ A5.o) fun f5 HB => ?_))
   go_meet
   case rel => exact ⟨_, (true), f0_, H', ⟨by first | omega | exact Ca _⟩, ⟨hB_⟩⟩
 clear g2
 obtain ⟨kq, U0, rfl, HA, F1, HB⟩ := hcut
 rcases kq with _ | U2
 ·exact absurd HA.o (by simp [am.j0])
 have H := HA.o
 clear HA
 simp only [am.j0] at H
 by_cases X1 : U0 = true
 ·subst X1
  replace H := iT_ H
  simp only [Option.some.injEq, Prod.mk.injEq] at H
  obtain ⟨rfl, rfl⟩ := H
  go_wp2
  go_ret2
  exact ⟨f1_, hB_⟩
 ·replace X1 := Ea X1
  subst X1
  replace H := iF_ H
  obtain ⟨⟨d1, L3⟩, M3, H⟩ := bN_ H
  obtain ⟨m2, H⟩ := iN_ H
  have V2 := Aa m2
  have X2 := ya m2
  clear m2
  obtain ⟨y0, N3, H⟩ := bN_ H
  obtain ⟨n2, V0⟩ : ∃ y_ : List (List Int), y_ = (([] : List (List Int))) := ⟨_, rfl⟩
  first | replace H := yb_ V0 H | rw [← V0] at H
  have y1 := c_ V0
  clear V0
  have H' := c_ H
  clear H
  go_wp2_with (first | (refine gR_ (k_ 34 Tryz.func93) (bd.calls _ _ _ _ _ M3.o) fun n0 i5 ho_ hb => ?_; obtain ⟨I0, HB⟩ := b_ (wh (vp (ok' := fun k_ => True) (Kd.S_N (wt ho_)) (fun k_ hk_ => trivial)) (av (hB_))) <| sB_) | (refine gR_ (k_ 39 Tryz.func18) (az.calls _ _ _ _ N3.o) fun x0 O3 ho_ hb => ?_; obtain ⟨I0, W0, HB⟩ := n_ (uL I0) <| b_ (wh (vp (ok' := fun k_ => some k_ ≠ (n0 : Value).ownBlock) (Kd.S_N (wt ho_)) (fun k_ hk_ => (Kd.fresh' (wH (rN_ I0.o)) k_ hk_.2.1))) (av (hB_))) <| sB_) | ((refine cQ (N := 40) rfl ?_); (try (refine bh (by rfl) ?_; dsimp only)); refine xL (Kd.slice 3 (Kd.int .i64)) _ 33 ?hg (N' := 40) ?hd (xs := ([] : List (List Int))) (inner := []) (ok := (fun k_ => some k_ ≠ (n0 : Value).ownBlock ∧ some k_ ≠ (x0 : Value).ownBlock)) (okp := (fun k_ => some k_ ≠ (n0 : Value).ownBlock ∧ some k_ ≠ (x0 : Value).ownBlock)) ?hr ?hp (fun _ hk => hk) ((show ∀ k_, O3.heap.size ≤ k_ → (fun k_ => some k_ ≠ (n0 : Value).ownBlock ∧ some k_ ≠ (x0 : Value).ownBlock) k_ from fun k_ hk => ⟨Kd.fresh' (wH (rN_ I0.o)) k_ hk, Kd.fresh' (wH (rN_ W0.o)) k_ hk⟩) _ (Ca _)) (Da _ _) (Ca _) (by simp) ?_; (case hd => rfl); (case hg => rfl); (case hr => first | (go_simp; done) | (go_simp; rfl)); (case hp => exact (eM.none _ _)); intro P3 n5 S0 hb hg_ hnew_; clear hg_ hnew_; (first | rw [← y1.o] at S0 | (simp only [Int.reduceToNat] at S0; rw [← y1.o] at S0)); obtain ⟨I0, W0, K1, HB⟩ := b_ (vD (rN_ I0.o) (wm S0) hb) <| b_ (vD (rN_ W0.o) (wm S0) hb) <| b_ (wh S0 (av (hB_))) <| sB_; clear hb S0))
  go_loopg [11, 12] U2 (fun kq p2 Q3 w' => ∃ (D0 : List (List Int)) (P0 : Int), Q3 = .int .i64 P0 ∧ aa (am.l0 kq a1 a2 d1 y0 D0 P0 = some (r1, r2)) ∧ aa (kq ≤ U2) ∧ aa (Kd.N (Kd.slice 3 (Kd.int .i64)) 33 w' w.heap.size (fun k_ => some k_ ≠ (x0 : Value).ownBlock ∧ some k_ ≠ (p2 : Value).ownBlock) n0 d1) ∧ aa (Kd.N (Kd.slice 3 (Kd.int .i64)) 33 w' w.heap.size (fun k_ => some k_ ≠ (n0 : Value).ownBlock ∧ some k_ ≠ (p2 : Value).ownBlock) x0 y0) ∧ aa (Kd.N (Kd.slice 3 (Kd.int .i64)) 33 w' w.heap.size (fun k_ => some k_ ≠ (n0 : Value).ownBlock ∧ some k_ ≠ (x0 : Value).ownBlock) p2 D0) ∧ aa (Below w.heap.size w w'))
  case atStart => exact ⟨(n2), (0), f0_, H', ⟨Ca _⟩, ⟨by refine kN_ ?_; exact vp I0.o (fun _ hk => ⟨hk.1.2, hk.2⟩)⟩, ⟨rN_ W0.o⟩, ⟨rN_ K1.o⟩, ⟨hB_⟩⟩
  clear H'
  obtain ⟨D0, P0, rfl, HA, G1, e0, b0, d0, HB⟩ := hrel
  rcases gk with _ | k2
  ·exact absurd HA.o (by simp [am.l0])
  have H := HA.o
  clear HA
  simp only [am.l0] at H
  by_cases H1 : P0 < 2
  ·rw [Fa H1] at H
   have L1 := ya H1
   clear H1
   obtain ⟨e1, R3, H⟩ := bN_ H
   obtain ⟨j1, S3, H⟩ := bN_ H
   obtain ⟨Y2, H⟩ := iN_ H
   have M1 := c_ Y2
   clear Y2
   obtain ⟨q2, X0⟩ : ∃ y_ : List (List Int), y_ = (D0 ++ [j1]) := ⟨_, rfl⟩
   first | replace H := yb_ X0 H | rw [← X0] at H
   have N1 := c_ X0
   clear X0
   have H' := c_ H
   clear H
   go_wp2_with (first | (refine gR_ (k_ 48 Tryz.func20) (bz.calls _ _ _ _ _ R3.o) fun T3 p5 ho_ hb => ?_; obtain ⟨e0, b0, d0, E0, HB⟩ := n_ (fa e0) <| n_ (fa b0) <| n_ (fa d0) <| n_ (lR_ ho_) <| sB_; obtain ⟨f1, g1, t2⟩ := uV E0.o; subst t2) | (refine gR_ (k_ 49 Tryz.func19) (ba.calls _ _ _ _ _ _ (cR_ (uU E0.o).2.2) ((uU E0.o).2.1) S3.o) fun U3 q5 ho_ hb => ?_; obtain ⟨e0, b0, d0, E0, m1, HB⟩ := n_ (fa e0) <| n_ (fa b0) <| n_ (fa d0) <| n_ (cJ E0) <| n_ (lR_ (cN ho_ E0)) <| sB_; obtain ⟨B1, C1, v2⟩ := uV m1.o; subst v2) | ((refine cr (b := .append) (xs := #[.tmp 45, .tmp 50]) rfl ?_); (try (refine bh (by rfl) ?_; dsimp only)); at_builtin; refine wD (Kd.slice 3 (Kd.int .i64)) (w0 := w) w.heap.size rfl (.tmp 45) (.tmp 50) 44 33 (.slice none 0 0) 24 rfl Tryz.underlying44 gu rfl (by decide) (by omega) u11 D0 j1 [.slice B1 j1.length C1] (fun k_ => some k_ ≠ (n0 : Value).ownBlock ∧ some k_ ≠ (x0 : Value).ownBlock ∧ some k_ ≠ (.slice f1 e1.length g1 : Value).ownBlock) (fun k_ => ((fun k_ => some k_ ≠ (n0 : Value).ownBlock ∧ some k_ ≠ (x0 : Value).ownBlock ∧ some k_ ≠ (.slice f1 e1.length g1 : Value).ownBlock)) k_ ∧ some k_ ≠ (u11 : Value).ownBlock) rfl rfl ?aP (fun _ hk => hk) ?aF ?aO ?aB ?aS ?aL ?_; (case aP => exact (vX (uU (uW (ok' := (fun k_ => ((fun k_ => some k_ ≠ (n0 : Value).ownBlock ∧ some k_ ≠ (x0 : Value).ownBlock ∧ some k_ ≠ (.slice f1 e1.length g1 : Value).ownBlock)) k_ ∧ some k_ ≠ (u11 : Value).ownBlock)) (va (va (va (m1.o) (vJ e0.o) (by decide)) (vJ b0.o) (by decide)) (vJ d0.o) (by decide)) (fun k_ hk => ⟨⟨hk.1.1.2, ⟨hk.1.2, hk.1.1.1.2⟩⟩, hk.2⟩))).2.1 (Kd.R_F (uW (ok' := (fun k_ => ((fun k_ => some k_ ≠ (n0 : Value).ownBlock ∧ some k_ ≠ (x0 : Value).ownBlock ∧ some k_ ≠ (.slice f1 e1.length g1 : Value).ownBlock)) k_ ∧ some k_ ≠ (u11 : Value).ownBlock)) (va (va (va (m1.o) (vJ e0.o) (by decide)) (vJ b0.o) (by decide)) (vJ d0.o) (by decide)) (fun k_ hk => ⟨⟨hk.1.1.2, ⟨hk.1.2, hk.1.1.1.2⟩⟩, hk.2⟩))))); (case aB => exact (hB_)); (case aF => exact (fun k_ hk => ⟨Kd.fresh' (wH (rN_ e0.o)) k_ hk, Kd.fresh' (wH (rN_ b0.o)) k_ hk, Kd.fresh' (vF (rR_ E0.o)) k_ hk⟩)); (case aO => exact (by refine kN_ ?_; exact vp d0.o (fun _ hk => ⟨hk.1.1.1, ⟨hk.1.1.2, hk.1.2⟩⟩))); (case aS => exact (av (hB_))); (case aL => have := M1.o; omega); intro V3 s5 ho hb hg hat; rw [← N1.o] at ho; obtain ⟨e0, b0, E0, HB, O1⟩ := b_ (vP (ok := (fun k_ => some k_ ≠ (x0 : Value).ownBlock ∧ some k_ ≠ (.slice f1 e1.length g1 : Value).ownBlock ∧ some k_ ≠ (.slice B1 j1.length C1 : Value).ownBlock)) (by refine kN_ ?_; exact vp e0.o (fun _ hk => ⟨⟨hk.1.1.1, ⟨hk.1.2, hk.2⟩⟩, hk.1.1.2⟩)) hg hat) <| b_ (vP (ok := (fun k_ => some k_ ≠ (n0 : Value).ownBlock ∧ some k_ ≠ (.slice f1 e1.length g1 : Value).ownBlock ∧ some k_ ≠ (.slice B1 j1.length C1 : Value).ownBlock)) (by refine kN_ ?_; exact vp b0.o (fun _ hk => ⟨⟨hk.1.1.1, ⟨hk.1.2, hk.2⟩⟩, hk.1.1.2⟩)) hg hat) <| b_ (vQ (rR_ E0.o) (vJ (rN_ d0.o)) (by decide) hg) <| b_ (hb) <| c_ (ho); clear ho hb hg hat))
   go_roundg k2
   case measure => have := F1.o; have := G1.o; omega
   case rel => exact ⟨(q2), (wrap64 (P0 + 1)), f0_, H', ⟨by have := F1.o; have := G1.o; omega⟩, ⟨by refine kN_ ?_; exact vp e0.o (fun _ hk => ⟨hk.1.1, hk.2⟩)⟩, ⟨by refine kN_ ?_; exact vp b0.o (fun _ hk => ⟨hk.1.1, hk.2⟩)⟩, ⟨by refine kN_ ?_; exact vp O1.o (fun _ hk => ⟨hk.1, hk.2.1⟩)⟩, ⟨hB_⟩⟩
  rw [Ga H1] at H
  have L1 := za H1
  clear H1
  have H' := c_ H
  clear H
  go_wp2
  go_loopg [13, 14] k2 (fun kq W3 X3 w' => ∃ (J0 : ByteArray) (F0 : Int), W3 = .string J0 ∧ X3 = .int .i64 F0 ∧ aa (am.l1 kq a1 a2 d1 y0 D0 J0 F0 = some (r1, r2)) ∧ aa (kq ≤ k2) ∧ aa (Kd.N (Kd.slice 3 (Kd.int .i64)) 33 w' w.heap.size (fun k_ => some k_ ≠ (x0 : Value).ownBlock ∧ some k_ ≠ (u11 : Value).ownBlock) n0 d1) ∧ aa (Kd.N (Kd.slice 3 (Kd.int .i64)) 33 w' w.heap.size (fun k_ => some k_ ≠ (n0 : Value).ownBlock ∧ some k_ ≠ (u11 : Value).ownBlock) x0 y0) ∧ aa (Kd.N (Kd.slice 3 (Kd.int .i64)) 33 w' w.heap.size (fun k_ => some k_ ≠ (n0 : Value).ownBlock ∧ some k_ ≠ (x0 : Value).ownBlock) u11 D0) ∧ aa (Below w.heap.size w w'))
  case atStart => exact ⟨((⟨#[]⟩ : ByteArray)), (0), f0_, f0_, H', ⟨Ca _⟩, ⟨rN_ e0.o⟩, ⟨rN_ b0.o⟩, ⟨rN_ d0.o⟩, ⟨hB_⟩⟩
  clear H'
  obtain ⟨J0, F0, rfl, rfl, HA, Y1, e0, b0, d0, HB⟩ := hrel
  rcases gk with _ | k3
  ·exact absurd HA.o (by simp [am.l1])
  have H := HA.o
  clear HA
  simp only [am.l1] at H
  by_cases I1 : F0 < 2
  rotate_left
  ·rw [Ga I1] at H
   have P1 := za I1
   clear I1
   obtain ⟨Z2, Y3, H⟩ := bN_ H
   obtain ⟨b3, Z3, H⟩ := bN_ H
   obtain ⟨c3, b4, H⟩ := bN_ H
   obtain ⟨e3, c4, H⟩ := bN_ H
   obtain ⟨f3, e4, H⟩ := bN_ H
   obtain ⟨g3, f4, H⟩ := bN_ H
   obtain ⟨Q1, g4, H⟩ := bN_ H
   obtain ⟨y2, H⟩ := iN_ H
   have i3 := Aa y2
   have l3 := ya y2
   try have m3 : (9223372036854775807 < J0.size + Q1.size) = False := eq_false (Nat.not_lt.2 y2)
   simp only [Option.some.injEq, Prod.mk.injEq] at H
   obtain ⟨rfl, rfl⟩ := H
   obtain ⟨i4, l4, z2⟩ := vW e0.o
   subst z2
   obtain ⟨n4, q4, A2⟩ := vW d0.o
   subst A2
   go_wp2_with (first | (refine gR_ (k_ 86 Tryz.func23) (aV.calls _ _ _ _ _ _ _ _ _ (cR_ (vv e0.o).2.2) ((vv e0.o).2.1) (cR_ (vv d0.o).2.2) ((vv d0.o).2.1) Y3.o) fun n3 v5 ho_ hb => ?_; obtain ⟨e0, b0, d0, f0, HB⟩ := n_ (fa e0) <| n_ (fa b0) <| n_ (fa d0) <| n_ (lR_ ho_) <| sB_; obtain ⟨t4, v4, B2⟩ := uV f0.o; subst B2) | (refine gR_ (k_ 87 Tryz.func96) (al.calls _ _ _ _ _ _ (cR_ (uU f0.o).2.2) ((uU f0.o).2.1) Z3.o) fun p3 w5 ho_ hb => ?_; obtain ⟨e0, b0, d0, f0, k0, HB⟩ := n_ (fa e0) <| n_ (fa b0) <| n_ (fa d0) <| n_ (cJ f0) <| n_ (lR_ (cN ho_ f0)) <| sB_) | (refine gR_ (k_ 89 Tryz.func20) (bz.calls _ _ _ _ _ b4.o) fun q3 y5 ho_ hb => ?_; obtain ⟨e0, b0, d0, f0, k0, p0, HB⟩ := n_ (fa e0) <| n_ (fa b0) <| n_ (fa d0) <| n_ (cJ f0) <| n_ (cJ k0) <| n_ (lR_ (cN (cN ho_ f0) k0)) <| sB_; obtain ⟨w4, y4, C2⟩ := uV k0.o; subst C2; obtain ⟨z4, A4, D2⟩ := uV p0.o; subst D2) | (refine gR_ (k_ 90 Tryz.func22) (aG.calls _ _ _ _ _ _ _ _ _ (cR_ (uU k0.o).2.2) ((uU k0.o).2.1) (cR_ (uU p0.o).2.2) ((uU p0.o).2.1) c4.o) fun r3 z5 ho_ hb => ?_; obtain ⟨e0, b0, d0, f0, k0, p0, r0, HB⟩ := n_ (fa e0) <| n_ (fa b0) <| n_ (fa d0) <| n_ (cJ f0) <| n_ (cJ k0) <| n_ (cJ p0) <| n_ (lR_ (cN (cN (cN ho_ f0) k0) p0)) <| sB_) | (refine gR_ (k_ 93 Tryz.func99) (bf.calls _ _ _ _ e4.o) fun t3 B5 ho_ hb => ?_; obtain ⟨e0, b0, d0, f0, k0, p0, r0, B0, HB⟩ := n_ (fa e0) <| n_ (fa b0) <| n_ (fa d0) <| n_ (cJ f0) <| n_ (cJ k0) <| n_ (cJ p0) <| n_ (cJ r0) <| n_ (lR_ (cN (cN (cN (cN ho_ f0) k0) p0) r0)) <| sB_; obtain ⟨B4, C4, E2⟩ := uV r0.o; subst E2; obtain ⟨D4, E4, F2⟩ := uV B0.o; subst F2) | (refine gR_ (k_ 94 Tryz.func22) (aG.calls _ _ _ _ _ _ _ _ _ (cR_ (uU r0.o).2.2) ((uU r0.o).2.1) (cR_ (uU B0.o).2.2) ((uU B0.o).2.1) f4.o) fun v3 C5 ho_ hb => ?_; obtain ⟨e0, b0, d0, f0, k0, p0, r0, B0, K0, HB⟩ := n_ (fa e0) <| n_ (fa b0) <| n_ (fa d0) <| n_ (cJ f0) <| n_ (cJ k0) <| n_ (cJ p0) <| n_ (cJ r0) <| n_ (cJ B0) <| n_ (lR_ (cN (cN (cN (cN (cN ho_ f0) k0) p0) r0) B0)) <| sB_; obtain ⟨F4, G4, G2⟩ := uV K0.o; subst G2) | (refine gc_ (k_ 97 Tryz.func59) (aM.calls _ _ _ _ _ _ _ (cR_ (uU K0.o).2.2) ((uU K0.o).2.1) g4.o) fun D5 hb => ?_; obtain ⟨e0, b0, d0, f0, k0, p0, r0, B0, K0, HB⟩ := n_ (fN_ e0) <| n_ (fN_ b0) <| n_ (fN_ d0) <| n_ (fR_ f0) <| n_ (fR_ k0) <| n_ (fR_ p0) <| n_ (fR_ r0) <| n_ (fR_ B0) <| n_ (fR_ K0) <| sB_))
   go_ret2
   exact ⟨f1_, hB_⟩
  rw [Fa I1] at H
  have P1 := ya I1
  clear I1
  obtain ⟨H2, Y0⟩ : ∃ y_ : List (List Int), y_ = (([] : List (List Int))) := ⟨_, rfl⟩
  first | replace H := yb_ Y0 H | rw [← Y0] at H
  have z1 := c_ Y0
  clear Y0
  have H' := c_ H
  clear H
  go_wp2_with (first | ((refine cQ (N := 56) rfl ?_); (try (refine bh (by rfl) ?_; dsimp only)); refine xL (Kd.slice 3 (Kd.int .i64)) _ 33 ?hg (N' := 56) ?hd (xs := ([] : List (List Int))) (inner := []) (ok := (fun k_ => some k_ ≠ (n0 : Value).ownBlock ∧ some k_ ≠ (x0 : Value).ownBlock ∧ some k_ ≠ (u11 : Value).ownBlock)) (okp := (fun k_ => some k_ ≠ (n0 : Value).ownBlock ∧ some k_ ≠ (x0 : Value).ownBlock ∧ some k_ ≠ (u11 : Value).ownBlock)) ?hr ?hp (fun _ hk => hk) ((show ∀ k_, wr.heap.size ≤ k_ → (fun k_ => some k_ ≠ (n0 : Value).ownBlock ∧ some k_ ≠ (x0 : Value).ownBlock ∧ some k_ ≠ (u11 : Value).ownBlock) k_ from fun k_ hk => ⟨Kd.fresh' (wH (rN_ e0.o)) k_ hk, Kd.fresh' (wH (rN_ b0.o)) k_ hk, Kd.fresh' (wH (rN_ d0.o)) k_ hk⟩) _ (Ca _)) (Da _ _) (Ca _) (by simp) ?_; (case hd => rfl); (case hg => rfl); (case hr => first | (go_simp; done) | (go_simp; rfl)); (case hp => exact (eM.none _ _)); intro H4 E5 Q0 hb hg_ hnew_; clear hg_ hnew_; (first | rw [← z1.o] at Q0 | (simp only [Int.reduceToNat] at Q0; rw [← z1.o] at Q0)); obtain ⟨e0, b0, d0, R1, HB⟩ := b_ (vD (rN_ e0.o) (wm Q0) hb) <| b_ (vD (rN_ b0.o) (wm Q0) hb) <| b_ (vD (rN_ d0.o) (wm Q0) hb) <| b_ (wh Q0 (av (hB_))) <| sB_; clear hb Q0))
  go_loopg [15, 16] k3 (fun kq Z1 I4 w' => ∃ (R0 : List (List Int)) (L0 : Int), I4 = .int .i64 L0 ∧ aa (am.l2 kq a1 a2 d1 y0 D0 J0 F0 R0 L0 = some (r1, r2)) ∧ aa (kq ≤ k3) ∧ aa (Kd.N (Kd.slice 3 (Kd.int .i64)) 33 w' w.heap.size (fun k_ => some k_ ≠ (x0 : Value).ownBlock ∧ some k_ ≠ (u11 : Value).ownBlock ∧ some k_ ≠ (Z1 : Value).ownBlock) n0 d1) ∧ aa (Kd.N (Kd.slice 3 (Kd.int .i64)) 33 w' w.heap.size (fun k_ => some k_ ≠ (n0 : Value).ownBlock ∧ some k_ ≠ (u11 : Value).ownBlock ∧ some k_ ≠ (Z1 : Value).ownBlock) x0 y0) ∧ aa (Kd.N (Kd.slice 3 (Kd.int .i64)) 33 w' w.heap.size (fun k_ => some k_ ≠ (n0 : Value).ownBlock ∧ some k_ ≠ (x0 : Value).ownBlock ∧ some k_ ≠ (Z1 : Value).ownBlock) u11 D0) ∧ aa (Kd.N (Kd.slice 3 (Kd.int .i64)) 33 w' w.heap.size (fun k_ => some k_ ≠ (n0 : Value).ownBlock ∧ some k_ ≠ (x0 : Value).ownBlock ∧ some k_ ≠ (u11 : Value).ownBlock) Z1 R0) ∧ aa (Below w.heap.size w w'))
  case atStart => exact ⟨(H2), (0), f0_, H', ⟨Ca _⟩, ⟨by refine kN_ ?_; exact vp e0.o (fun _ hk => ⟨hk.1.1, ⟨hk.1.2, hk.2⟩⟩)⟩, ⟨by refine kN_ ?_; exact vp b0.o (fun _ hk => ⟨hk.1.1, ⟨hk.1.2, hk.2⟩⟩)⟩, ⟨by refine kN_ ?_; exact vp d0.o (fun _ hk => ⟨hk.1.1, ⟨hk.1.2, hk.2⟩⟩)⟩, ⟨rN_ R1.o⟩, ⟨hB_⟩⟩
  clear H'
  obtain ⟨R0, L0, rfl, HA, b2, e0, b0, d0, v0, HB⟩ := hrel
  rcases gk with _ | k4
  ·exact absurd HA.o (by simp [am.l2])
  have H := HA.o
  clear HA
  simp only [am.l2] at H
  by_cases J1 : L0 < 2
  ·rw [Fa J1] at H
   have S1 := ya J1
   clear J1
   obtain ⟨O0, n1⟩ : ∃ j_ : Int, (wrap64 ((wrap64 (L0 * 2)) + F0)) = j_ := ⟨_, rfl⟩
   first | rw [n1] at H | simp only [n1] at H
   have I2 : (IntKind.i64.wrap ((wrap64 (L0 * 2)) + F0)) = O0 := (bB _).trans n1
   obtain ⟨w3, H⟩ := iD_ H
   obtain ⟨y3, H⟩ := iD_ H
   obtain ⟨z3, H⟩ := iN_ H
   have T1 := c_ z3
   clear z3
   obtain ⟨J2, Z0⟩ : ∃ y_ : List (List Int), y_ = (R0 ++ [dV y0 (O0)]) := ⟨_, rfl⟩
   first | replace H := yb_ Z0 H | rw [← Z0] at H
   have U1 := c_ Z0
   clear Z0
   have H' := c_ H
   clear H
   obtain ⟨J4, T0, K2⟩ := vW b0.o
   subst K2
   have p1 : 0 ≤ ((O0) : Int) := oD_
   have q1 : (O0) < (y0.length : Int) := oD_
   obtain ⟨M0, D1, E1, L2, t1, b1, c1⟩ := mr (vv b0.o).2.2 (O0) p1 q1
   cases L2
   obtain ⟨ce995, hce995, hMe995, hcc995⟩ := xT b0.o [] (O0) p1 (by first | exact q1 | exact oD_ | (have e_ := (vv b0.o).1; omega))
   obtain ⟨ua995_0, uc995_0, rfl, ul995_0, ge995_0⟩ := wi hMe995
   have G0 := hcc995 0 _ rfl
   rw [Nat.add_zero, show ((Kd.slice 3 (Kd.int .i64))).sz = 1 from rfl, Nat.mul_one] at G0
   replace G0 := Ba (G0.symm.trans t1)
   injection G0 with hva_ hvn_ hvc_
   rw [hva_] at ge995_0
   rw [hvc_] at ul995_0
   have H0 := c_ (show Kd.V (Kd.int .i64) 3 _ w.heap.size _ _ (dV y0 (O0)) from xX ul995_0 ge995_0)
   clear hva_ hvn_ hvc_ ge995_0 ul995_0
   clear hcc995 hce995
   have c2 := c_ c1
   have f2 := c_ b1
   clear c1 b1
   replace p1 := Aa p1
   replace q1 := Aa q1
   go_wp2_with (first | ((refine cr (b := .append) (xs := #[.tmp 61, .tmp 69]) rfl ?_); (try (refine bh (by rfl) ?_; dsimp only)); at_builtin; refine wD (Kd.slice 3 (Kd.int .i64)) (w0 := w) w.heap.size rfl (.tmp 61) (.tmp 69) 44 33 (.slice none 0 0) 24 rfl Tryz.underlying44 gu rfl (by decide) (by omega) u15 R0 (dV y0 (O0)) [.slice D1 (dV y0 (O0)).length E1] (fun k_ => some k_ ≠ (n0 : Value).ownBlock ∧ some k_ ≠ (.slice (some M0) y0.length T0 : Value).ownBlock ∧ some k_ ≠ (u11 : Value).ownBlock) (fun k_ => ((fun k_ => some k_ ≠ (n0 : Value).ownBlock ∧ some k_ ≠ (.slice (some M0) y0.length T0 : Value).ownBlock ∧ some k_ ≠ (u11 : Value).ownBlock)) k_ ∧ some k_ ≠ (u15 : Value).ownBlock) rfl rfl ?aP (fun _ hk => hk) ?aF ?aO ?aB ?aS ?aL ?_; (case aP => exact (vX (vO (vU (ok' := (fun k_ => ((fun k_ => some k_ ≠ (n0 : Value).ownBlock ∧ some k_ ≠ (.slice (some M0) y0.length T0 : Value).ownBlock ∧ some k_ ≠ (u11 : Value).ownBlock)) k_ ∧ some k_ ≠ (u15 : Value).ownBlock)) (H0.o) (fun k_ hk => ⟨⟨hk.1.1, ⟨hk.2, hk.1.2.1⟩⟩, hk.1.2.2⟩))).2.1 (Kd.V_F (vU (ok' := (fun k_ => ((fun k_ => some k_ ≠ (n0 : Value).ownBlock ∧ some k_ ≠ (.slice (some M0) y0.length T0 : Value).ownBlock ∧ some k_ ≠ (u11 : Value).ownBlock)) k_ ∧ some k_ ≠ (u15 : Value).ownBlock)) (H0.o) (fun k_ hk => ⟨⟨hk.1.1, ⟨hk.2, hk.1.2.1⟩⟩, hk.1.2.2⟩))))); (case aB => exact (hB_)); (case aF => exact (fun k_ hk => ⟨Kd.fresh' (wH (rN_ e0.o)) k_ hk, Kd.fresh' (wH (rN_ b0.o)) k_ hk, Kd.fresh' (wH (rN_ d0.o)) k_ hk⟩)); (case aO => exact (rN_ v0.o)); (case aS => exact (av (hB_))); (case aL => have := T1.o; omega); intro K4 F5 ho hb hg hat; rw [← U1.o] at ho; obtain ⟨e0, b0, d0, H0, HB, V1⟩ := b_ (vP (ok := (fun k_ => some k_ ≠ (.slice (some M0) y0.length T0 : Value).ownBlock ∧ some k_ ≠ (u11 : Value).ownBlock)) (by refine kN_ ?_; exact vp e0.o (fun _ hk => ⟨⟨hk.1, hk.2.1⟩, hk.2.2⟩)) hg hat) <| b_ (vP (ok := (fun k_ => some k_ ≠ (n0 : Value).ownBlock ∧ some k_ ≠ (u11 : Value).ownBlock)) (by refine kN_ ?_; exact vp b0.o (fun _ hk => ⟨⟨hk.1, hk.2.1⟩, hk.2.2⟩)) hg hat) <| b_ (vP (ok := (fun k_ => some k_ ≠ (n0 : Value).ownBlock ∧ some k_ ≠ (.slice (some M0) y0.length T0 : Value).ownBlock)) (by refine kN_ ?_; exact vp d0.o (fun _ hk => ⟨⟨hk.1, hk.2.1⟩, hk.2.2⟩)) hg hat) <| b_ (xb (ok := (fun k_ => some k_ ≠ (n0 : Value).ownBlock ∧ some k_ ≠ (.slice (some M0) y0.length T0 : Value).ownBlock ∧ some k_ ≠ (u11 : Value).ownBlock)) (by refine kV_ ?_; exact vU H0.o (fun _ hk => ⟨⟨hk.1.1, ⟨hk.2, hk.1.2.1⟩⟩, hk.1.2.2⟩)) hg hat) <| b_ (hb) <| c_ (ho); clear ho hb hg hat))
   go_roundg k4
   case measure => have := F1.o; have := G1.o; have := Y1.o; have := b2.o; omega
   case rel => exact ⟨(J2), (wrap64 (L0 + 1)), f0_, H', ⟨by have := F1.o; have := G1.o; have := Y1.o; have := b2.o; omega⟩, ⟨by refine kN_ ?_; exact vp e0.o (fun _ hk => ⟨hk.1.1, ⟨hk.1.2, hk.2⟩⟩)⟩, ⟨by refine kN_ ?_; exact vp b0.o (fun _ hk => ⟨hk.1.1, ⟨hk.1.2, hk.2⟩⟩)⟩, ⟨by refine kN_ ?_; exact vp d0.o (fun _ hk => ⟨hk.1.1, ⟨hk.1.2, hk.2⟩⟩)⟩, ⟨rN_ V1.o⟩, ⟨hB_⟩⟩
  rw [Ga J1] at H
  have S1 := za J1
  clear J1
  obtain ⟨L4, M4, H⟩ := bN_ H
  obtain ⟨A3, N4, H⟩ := bN_ H
  obtain ⟨B3, O4, H⟩ := bN_ H
  obtain ⟨C3, P4, H⟩ := bN_ H
  obtain ⟨A1, Q4, H⟩ := bN_ H
  obtain ⟨M2, H⟩ := iN_ H
  have D3 := Aa M2
  have E3 := ya M2
  try have F3 : (9223372036854775807 < J0.size + A1.size) = False := eq_false (Nat.not_lt.2 M2)
  have H' := c_ H
  clear H
  obtain ⟨R4, S4, N2⟩ := vW v0.o
  subst N2
  obtain ⟨T4, U4, O2⟩ := vW d0.o
  subst O2
  go_wp2_with (first | (refine gR_ (k_ 73 Tryz.func23) (aV.calls _ _ _ _ _ _ _ _ _ (cR_ (vv v0.o).2.2) ((vv v0.o).2.1) (cR_ (vv d0.o).2.2) ((vv d0.o).2.1) M4.o) fun G3 G5 ho_ hb => ?_; obtain ⟨e0, b0, d0, v0, q0, HB⟩ := n_ (fa e0) <| n_ (fa b0) <| n_ (fa d0) <| n_ (fa v0) <| n_ (lR_ ho_) <| sB_; obtain ⟨V4, W4, P2⟩ := uV q0.o; subst P2) | (refine gR_ (k_ 74 Tryz.func96) (al.calls _ _ _ _ _ _ (cR_ (uU q0.o).2.2) ((uU q0.o).2.1) N4.o) fun H3 H5 ho_ hb => ?_; obtain ⟨e0, b0, d0, v0, q0, t0, HB⟩ := n_ (fa e0) <| n_ (fa b0) <| n_ (fa d0) <| n_ (fa v0) <| n_ (cJ q0) <| n_ (lR_ (cN ho_ q0)) <| sB_) | (refine gR_ (k_ 78 Tryz.func20) (bz.calls _ _ _ _ _ O4.o) fun I3 I5 ho_ hb => ?_; obtain ⟨e0, b0, d0, v0, q0, t0, C0, HB⟩ := n_ (fa e0) <| n_ (fa b0) <| n_ (fa d0) <| n_ (fa v0) <| n_ (cJ q0) <| n_ (cJ t0) <| n_ (lR_ (cN (cN ho_ q0) t0)) <| sB_; obtain ⟨X4, Y4, Q2⟩ := uV t0.o; subst Q2; obtain ⟨Z4, b5, R2⟩ := uV C0.o; subst R2) | (refine gR_ (k_ 79 Tryz.func22) (aG.calls _ _ _ _ _ _ _ _ _ (cR_ (uU t0.o).2.2) ((uU t0.o).2.1) (cR_ (uU C0.o).2.2) ((uU C0.o).2.1) P4.o) fun J3 J5 ho_ hb => ?_; obtain ⟨e0, b0, d0, v0, q0, t0, C0, N0, HB⟩ := n_ (fa e0) <| n_ (fa b0) <| n_ (fa d0) <| n_ (fa v0) <| n_ (cJ q0) <| n_ (cJ t0) <| n_ (cJ C0) <| n_ (lR_ (cN (cN (cN ho_ q0) t0) C0)) <| sB_; obtain ⟨c5, e5, T2⟩ := uV N0.o; subst T2) | (refine gc_ (k_ 82 Tryz.func59) (aM.calls _ _ _ _ _ _ _ (cR_ (uU N0.o).2.2) ((uU N0.o).2.1) Q4.o) fun K5 hb => ?_; obtain ⟨e0, b0, d0, v0, q0, t0, C0, N0, HB⟩ := n_ (fN_ e0) <| n_ (fN_ b0) <| n_ (fN_ d0) <| n_ (fN_ v0) <| n_ (fR_ q0) <| n_ (fR_ t0) <| n_ (fR_ C0) <| n_ (fR_ N0) <| sB_))
  go_roundg k4
  case measure => have := F1.o; have := G1.o; have := Y1.o; have := b2.o; omega
  case rel => exact ⟨(J0 ++ A1), (wrap64 (F0 + 1)), f0_, f0_, H', ⟨by have := F1.o; have := G1.o; have := Y1.o; have := b2.o; omega⟩, ⟨by refine kN_ ?_; exact vp e0.o (fun _ hk => ⟨hk.1.1.1.1.1, hk.1.1.1.1.2.1⟩)⟩, ⟨by refine kN_ ?_; exact vp b0.o (fun _ hk => ⟨hk.1.1.1.1.1, hk.1.1.1.1.2.1⟩)⟩, ⟨by refine kN_ ?_; exact vp d0.o (fun _ hk => ⟨hk.1.1.1.1.1, hk.1.1.1.1.2.1⟩)⟩, ⟨hB_⟩⟩
end Go.Proofs.YtmiackbomcjboaaGreatDoor.P
