-- printed texts of this session, regrouped
import Derived.Test.YtooanbpkknlmjaaGreatDoorHB6
import Derived.Test.YtooanbpkknlmjaaGreatDoorPx8
namespace Go.Proofs.YtooanbpkknlmjaaGreatDoor.P
open Go.RowKit YtooanbpkknlmjaaGreatDoorW.PrintWords YtooanbpkknlmjaaGreatDoorW.PrintLast YtooanbpkknlmjaaGreatDoorW.PrintMore
open Kd
attribute [local go_sem] dZ d4 eE ev dx dy dV dX
set_option linter.unusedVariables false
set_option linter.unusedSimpArgs false
set_option maxHeartbeats 8000000
set_option maxRecDepth 100000
mutual
def ak.l0 : Nat → List Int → ByteArray → Int → ByteArray → Int → Option (List Int)
 | 0, _, _, _, _, _ => none
 | k + 1, x7, x9, x10, x497000, x497001 => if x10 < 4000 then (ak.j1 k x7 x9 x10 (decide ((x7.length : Int) < 256)) x497000 x497001) else (ak.j1 k x7 x9 x10 false x497000 x497001)
def ak.j1 : Nat → List Int → ByteArray → Int → Bool → ByteArray → Int → Option (List Int)
 | 0, _, _, _, _, _, _ => none
 | k + 1, x7, x9, x10, x31, x497000, x497001 => if x31 = true then (if (wrap64 ((Int.tmod x10 56) * 3)) = 0 then ((aA.f k x497000 x497001 168).bind fun bt497 => (ak.j2 k x7 bt497.2.2 x10 (wrap64 ((Int.tmod x10 56) * 3)) bt497.1 bt497.2.1)) else (ak.j2 k x7 x9 x10 (wrap64 ((Int.tmod x10 56) * 3)) x497000 x497001)) else (ak.l1 k x7)
def ak.j2 : Nat → List Int → ByteArray → Int → Int → ByteArray → Int → Option (List Int)
 | 0, _, _, _, _, _, _ => none
 | k + 1, x7, x9, x10, x11, x497000, x497001 => if 0 ≤ x11 then (if x11 < (x9.size : Int) then (if 0 ≤ (wrap64 (x11 + 1)) then (if (wrap64 (x11 + 1)) < (x9.size : Int) then (if 0 ≤ (wrap64 (x11 + 2)) then (if (wrap64 (x11 + 2)) < (x9.size : Int) then (if (wrap64 ((wrap64 (bt x9 x11)) + (wrap64 (256 * (Int.tmod (wrap64 (bt x9 (wrap64 (x11 + 1)))) 16))))) < 3329 then (if x7.length < 17592186044416 then ((some (x7 ++ [wrap64 ((wrap64 (bt x9 x11)) + (wrap64 (256 * (Int.tmod (wrap64 (bt x9 (wrap64 (x11 + 1)))) 16))))] : List Int)).bind fun y501 => (if (wrap64 ((wrap64 (Int.tdiv (wrap64 (bt x9 (wrap64 (x11 + 1)))) 16)) + (wrap64 (16 * (wrap64 (bt x9 (wrap64 (x11 + 2)))))))) < 3329 then (if (y501.length : Int) < 256 then (if y501.length < 17592186044416 then (ak.l0 k (y501 ++ [wrap64 ((wrap64 (Int.tdiv (wrap64 (bt x9 (wrap64 (x11 + 1)))) 16)) + (wrap64 (16 * (wrap64 (bt x9 (wrap64 (x11 + 2)))))))]) x9 (wrap64 (x10 + 1)) x497000 x497001) else (none)) else (ak.l0 k y501 x9 (wrap64 (x10 + 1)) x497000 x497001)) else (ak.l0 k y501 x9 (wrap64 (x10 + 1)) x497000 x497001))) else (none)) else (if (wrap64 ((wrap64 (Int.tdiv (wrap64 (bt x9 (wrap64 (x11 + 1)))) 16)) + (wrap64 (16 * (wrap64 (bt x9 (wrap64 (x11 + 2)))))))) < 3329 then (if (x7.length : Int) < 256 then (if x7.length < 17592186044416 then (ak.l0 k (x7 ++ [wrap64 ((wrap64 (Int.tdiv (wrap64 (bt x9 (wrap64 (x11 + 1)))) 16)) + (wrap64 (16 * (wrap64 (bt x9 (wrap64 (x11 + 2)))))))]) x9 (wrap64 (x10 + 1)) x497000 x497001) else (none)) else (ak.l0 k x7 x9 (wrap64 (x10 + 1)) x497000 x497001)) else (ak.l0 k x7 x9 (wrap64 (x10 + 1)) x497000 x497001))) else (none)) else (none)) else (none)) else (none)) else (none)) else (none)
def ak.l1 : Nat → List Int → Option (List Int)
 | 0, _ => none
 | k + 1, x7 => if (x7.length : Int) < 256 then (if x7.length < 17592186044416 then (ak.l1 k (x7 ++ [0])) else (none)) else (some x7)
end
def ak.f (k : Nat) (a0 : ByteArray) (a1 : Int) (a2 : Int) : Option (List Int) := (cH.f a1).bind fun t492 => (if a0.size + t492.size ≤ 9223372036854775807 then ((cH.f a2).bind fun t493 => (if (a0 ++ t492).size + t493.size ≤ 9223372036854775807 then ((bZ.f k ((a0 ++ t492) ++ t493)).bind fun bt494 => (ak.l0 k (([] : List Int)) (⟨#[]⟩ : ByteArray) 0 bt494.1 bt494.2)) else (none))) else (none))
theorem ak.mono_l : ∀ k, (∀ y0 y1 y2 y3 y4, LeO (ak.l0 k y0 y1 y2 y3 y4) (ak.l0 (k + 1) y0 y1 y2 y3 y4)) ∧ (∀ y0 y1 y2 y3 y4 y5, LeO (ak.j1 k y0 y1 y2 y3 y4 y5) (ak.j1 (k + 1) y0 y1 y2 y3 y4 y5)) ∧ (∀ y0 y1 y2 y3 y4 y5, LeO (ak.j2 k y0 y1 y2 y3 y4 y5) (ak.j2 (k + 1) y0 y1 y2 y3 y4 y5)) ∧ (∀ y0, LeO (ak.l1 k y0) (ak.l1 (k + 1) y0))
 | 0 => ⟨fun _ _ _ _ _ r h => by simp [ak.l0] at h, fun _ _ _ _ _ _ r h => by simp [ak.j1] at h, fun _ _ _ _ _ _ r h => by simp [ak.j2] at h, fun _ r h => by simp [ak.l1] at h⟩
 | k + 1 => by
  obtain ⟨ih0, ih1, ih2, ih3⟩ := ak.mono_l k
  refine ⟨?_, ?_, ?_, ?_⟩ <;> (intros; (first | unfold ak.l0 | unfold ak.j1 | unfold ak.j2 | unfold ak.l1); exact o6_ ih0 ih1 ih2 ih3 bZ.mono aA.mono)
theorem ak.mono : ∀ a0 a1 a2 k, LeO (ak.f k a0 a1 a2) (ak.f (k + 1) a0 a1 a2) := by
 intro a0 a1 a2 k
 obtain ⟨ih0, ih1, ih2, ih3⟩ := ak.mono_l k
 unfold ak.f
 exact o6_ ih0 ih1 ih2 ih3 bZ.mono aA.mono
theorem ak.calls (k : Nat) (a0 : ByteArray) (a1 : Int) (a2 : Int) (r : List Int) (w : World) (h : ak.f k a0 a1 a2 = some r) :
  Calls Tryz.prog 73 #[.string a0, .int .i64 a1, .int .i64 a2] w fun e w' => ∃ D3 : Value, e = .returned (D3) ∧ Kd.R (Kd.int .i64) 3 w' w.heap.size (fun _ => True) D3 r ∧ Below w.heap.size w w' := by
 have hu85 := Tryz.underlying85
 have HB := c_ (Ba w.heap.size w)
 delta ak.f at h
 have H := h
 clear h
 obtain ⟨l3, V0⟩ : ∃ y_ : List Int, y_ = (([] : List Int)) := ⟨_, rfl⟩
 first | replace H := yb_ V0 H | rw [← V0] at H
 have N0 := c_ V0
 clear V0
 obtain ⟨O0, A4, H⟩ := bN_ H
 obtain ⟨c5, H⟩ := iN_ H
 have Z3 := ya c5
 have b4 := wa c5
 try have c4 : (9223372036854775807 < a0.size + O0.size) = False := eq_false (Nat.not_lt.2 c5)
 obtain ⟨R0, A6, H⟩ := bN_ H
 obtain ⟨c7, H⟩ := iN_ H
 have e4 := ya c7
 have f4 := wa c7
 try have m3 : (9223372036854775807 < (a0 ++ O0).size + R0.size) = False := eq_false (Nat.not_lt.2 c7)
 try (have n3 : (9223372036854775807 < (a0 ++ O0).size + R0.size) = False := m3; simp only [ByteArray.size_append] at n3)
 obtain ⟨⟨B1, b2⟩, A8, H⟩ := bN_ H
 have H' := c_ H
 clear H
 go_enter Tryz.func73, Tryz.ntmps73
 go_wp2_with (first | ((refine aI (N := 16) rfl ?_); (try (refine bn (by rfl) ?_; dsimp only)); refine tn (Kd.int .i64) _ 3 ?hg (N := 16) ?hd (xs := ([] : List Int)) (inner := []) (ok := fun _ => True) (okp := fun _ => True) ?hr ?hp (fun _ hk => hk) trivial (Ba _ _) (Aa _) (by simp) ?_; (case hd => rfl); (case hg => rfl); (case hr => first | (go_simp; done) | (go_simp; rfl)); (case hp => exact (bA.none _ _)); intro B2 w9 G0 hb hg_ hnew_; clear hg_ hnew_; (first | rw [← N0.o] at G0 | (simp only [Int.reduceToNat] at G0; rw [← N0.o] at G0)); obtain ⟨u0, HB⟩ := b_ (sZ G0 (ac (hB_))) <| c_ (ab (hB_) hb); clear hb G0) | (go_at_call 75; (with_reducible refine (cH.calls a1 O0 _ A4.o).mono ?_); rintro e E3 ⟨rfl, hb⟩; obtain ⟨u0, HB⟩ := b_ (tc (rR_ u0.o) hb) <| c_ (ab (hB_) hb); (try clear hb)) | (go_at_call 75; (with_reducible refine (cH.calls a2 R0 _ A6.o).mono ?_); rintro e F3 ⟨rfl, hb⟩; obtain ⟨u0, HB⟩ := b_ (tc (rR_ u0.o) hb) <| c_ (ab (hB_) hb); (try clear hb)) | (go_at_call 95; (with_reducible refine (bZ.calls k ((a0 ++ O0) ++ R0) B1 b2 _ A8.o).mono ?_); rintro e G3 ⟨rfl, hb⟩; obtain ⟨u0, HB⟩ := b_ (tc (rR_ u0.o) hb) <| c_ (ab (hB_) hb); (try clear hb)) | ((refine aI (N := 8) rfl ?_); (try (refine bn (by rfl) ?_; dsimp only)); refine cz ?hg (N := 8) ?hd (cs := #[.string (⟨#[]⟩ : ByteArray), .int .i64 0]) (t := 85) ?hr ?_; (case hd => rfl); (case hg => rfl); (case hr => first | (go_simp; done) | (go_simp; rfl)); intro p0 hg d2 hbox hb; obtain ⟨u0, HB, d0, e2, n0⟩ := b_ (tc (rR_ u0.o) hb) <| b_ (ab (hB_) hb) <| b_ (hbox) <| b_ (by rw [hg]; exact (ac (hB_)) : w.heap.size ≤ p0) <| c_ (by rw [hg]; exact (ac (hB_)) : w.heap.size ≤ p0); clear hb hbox hg; have W0 : d2.cell? ⟨p0, 0, none⟩ = some (.string (⟨#[]⟩ : ByteArray)) := (ar d0.o 0).trans rfl; have X0 : d2.cell? ⟨p0, 1, none⟩ = some (.int .i64 0) := (ar d0.o 1).trans rfl; have Y0 := aj d0.o 0; have Z0 := aj d0.o 1))
 repeat (go_quiet (first | ((refine aI (N := 16) rfl ?_); (try (refine bn (by rfl) ?_; dsimp only)); refine tn (Kd.int .i64) _ 3 ?hg (N := 16) ?hd (xs := ([] : List Int)) (inner := []) (ok := fun _ => True) (okp := fun _ => True) ?hr ?hp (fun _ hk => hk) trivial (Ba _ _) (Aa _) (by simp) ?_; (case hd => rfl); (case hg => rfl); (case hr => first | (go_simp; done) | (go_simp; rfl)); (case hp => exact (bA.none _ _)); intro B2 w9 G0 hb hg_ hnew_; clear hg_ hnew_; (first | rw [← N0.o] at G0 | (simp only [Int.reduceToNat] at G0; rw [← N0.o] at G0)); obtain ⟨u0, HB⟩ := b_ (sZ G0 (ac (hB_))) <| c_ (ab (hB_) hb); clear hb G0) | (go_at_call 75; (with_reducible refine (cH.calls a1 O0 _ A4.o).mono ?_); rintro e E3 ⟨rfl, hb⟩; obtain ⟨u0, HB⟩ := b_ (tc (rR_ u0.o) hb) <| c_ (ab (hB_) hb); (try clear hb)) | (go_at_call 75; (with_reducible refine (cH.calls a2 R0 _ A6.o).mono ?_); rintro e F3 ⟨rfl, hb⟩; obtain ⟨u0, HB⟩ := b_ (tc (rR_ u0.o) hb) <| c_ (ab (hB_) hb); (try clear hb)) | (go_at_call 95; (with_reducible refine (bZ.calls k ((a0 ++ O0) ++ R0) B1 b2 _ A8.o).mono ?_); rintro e G3 ⟨rfl, hb⟩; obtain ⟨u0, HB⟩ := b_ (tc (rR_ u0.o) hb) <| c_ (ab (hB_) hb); (try clear hb)) | ((refine aI (N := 8) rfl ?_); (try (refine bn (by rfl) ?_; dsimp only)); refine cz ?hg (N := 8) ?hd (cs := #[.string (⟨#[]⟩ : ByteArray), .int .i64 0]) (t := 85) ?hr ?_; (case hd => rfl); (case hg => rfl); (case hr => first | (go_simp; done) | (go_simp; rfl)); intro p0 hg d2 hbox hb; obtain ⟨u0, HB, d0, e2, n0⟩ := b_ (tc (rR_ u0.o) hb) <| b_ (ab (hB_) hb) <| b_ (hbox) <| b_ (by rw [hg]; exact (ac (hB_)) : w.heap.size ≤ p0) <| c_ (by rw [hg]; exact (ac (hB_)) : w.heap.size ≤ p0); clear hb hbox hg; have W0 : d2.cell? ⟨p0, 0, none⟩ = some (.string (⟨#[]⟩ : ByteArray)) := (ar d0.o 0).trans rfl; have X0 : d2.cell? ⟨p0, 1, none⟩ = some (.int .i64 0) := (ar d0.o 1).trans rfl; have Y0 := aj d0.o 0; have Z0 := aj d0.o 1)); try go_wp2_with (first | ((refine aI (N := 16) rfl ?_); (try (refine bn (by rfl) ?_; dsimp only)); refine tn (Kd.int .i64) _ 3 ?hg (N := 16) ?hd (xs := ([] : List Int)) (inner := []) (ok := fun _ => True) (okp := fun _ => True) ?hr ?hp (fun _ hk => hk) trivial (Ba _ _) (Aa _) (by simp) ?_; (case hd => rfl); (case hg => rfl); (case hr => first | (go_simp; done) | (go_simp; rfl)); (case hp => exact (bA.none _ _)); intro B2 w9 G0 hb hg_ hnew_; clear hg_ hnew_; (first | rw [← N0.o] at G0 | (simp only [Int.reduceToNat] at G0; rw [← N0.o] at G0)); obtain ⟨u0, HB⟩ := b_ (sZ G0 (ac (hB_))) <| c_ (ab (hB_) hb); clear hb G0) | (go_at_call 75; (with_reducible refine (cH.calls a1 O0 _ A4.o).mono ?_); rintro e E3 ⟨rfl, hb⟩; obtain ⟨u0, HB⟩ := b_ (tc (rR_ u0.o) hb) <| c_ (ab (hB_) hb); (try clear hb)) | (go_at_call 75; (with_reducible refine (cH.calls a2 R0 _ A6.o).mono ?_); rintro e F3 ⟨rfl, hb⟩; obtain ⟨u0, HB⟩ := b_ (tc (rR_ u0.o) hb) <| c_ (ab (hB_) hb); (try clear hb)) | (go_at_call 95; (with_reducible refine (bZ.calls k ((a0 ++ O0) ++ R0) B1 b2 _ A8.o).mono ?_); rintro e G3 ⟨rfl, hb⟩; obtain ⟨u0, HB⟩ := b_ (tc (rR_ u0.o) hb) <| c_ (ab (hB_) hb); (try clear hb)) | ((refine aI (N := 8) rfl ?_); (try (refine bn (by rfl) ?_; dsimp only)); refine cz ?hg (N := 8) ?hd (cs := #[.string (⟨#[]⟩ : ByteArray), .int .i64 0]) (t := 85) ?hr ?_; (case hd => rfl); (case hg => rfl); (case hr => first | (go_simp; done) | (go_simp; rfl)); intro p0 hg d2 hbox hb; obtain ⟨u0, HB, d0, e2, n0⟩ := b_ (tc (rR_ u0.o) hb) <| b_ (ab (hB_) hb) <| b_ (hbox) <| b_ (by rw [hg]; exact (ac (hB_)) : w.heap.size ≤ p0) <| c_ (by rw [hg]; exact (ac (hB_)) : w.heap.size ≤ p0); clear hb hbox hg; have W0 : d2.cell? ⟨p0, 0, none⟩ = some (.string (⟨#[]⟩ : ByteArray)) := (ar d0.o 0).trans rfl; have X0 : d2.cell? ⟨p0, 1, none⟩ = some (.int .i64 0) := (ar d0.o 1).trans rfl; have Y0 := aj d0.o 0; have Z0 := aj d0.o 1)))
 go_loopg [7, 9, 10] k (fun kq v7 v9 g4 w' => ∃ (y0 : List Int) (C1 : ByteArray) (B0 : Int) (f0 : ByteArray) (e0 : Int), v9 = .string C1 ∧ g4 = .int .i64 B0 ∧ aa (ak.l0 kq y0 C1 B0 f0 e0 = some r) ∧ aa (kq ≤ k) ∧ aa (Kd.R (Kd.int .i64) 3 w' w.heap.size (fun _ => True) v7 y0) ∧ aa (w'.heap[p0]? = some (.cells #[.string f0, .int .i64 e0] 85 (0, 0))) ∧ aa (Below w.heap.size w w'))
 case atStart => exact ⟨(l3), ((⟨#[]⟩ : ByteArray)), (0), (B1), (b2), f0_, f0_, H', ⟨Aa _⟩, ⟨by refine kR_ ?_; exact s9 (tv (tv (tx u0.o d0.o (by decide)) (fun _ hk => hk.2) _) (fun _ hk => hk.2) _) (fun _ hk => trivial)⟩, ⟨by refine kK_ ?_; refine cd (cs := #[.string B1, .int .i64 0]) ?_ 1 _ rfl; refine kK_ ?_; refine cd (cs := #[.string (⟨#[]⟩ : ByteArray), .int .i64 0]) ?_ 0 _ rfl; refine kK_ ?_; exact d0.o⟩, ⟨hS_ n0.o⟩⟩
 clear H'
 obtain ⟨y0, C1, B0, f0, e0, rfl, rfl, HA, Q0, r0, d0, HB⟩ := hrel
 rcases gk with _ | k1
 ·exact absurd HA.o (by simp [ak.l0])
 have H := HA.o
 clear HA
 simp only [ak.l0] at H
 have g2 := c_ H
 clear H
 go_upto_region 5 with (fail)
 repeat (go_quiet (fail); go_upto_region 5 with (fail))
 go_cut [31] (fun i4 wc => ∃ (kq : Nat) (P0 : Bool), i4 = .bool P0 ∧ aa (ak.j1 kq y0 C1 B0 P0 f0 e0 = some r) ∧ aa (kq ≤ k1) ∧ aa (Kd.R (Kd.int .i64) 3 wc w.heap.size (fun _ => True) u7 y0) ∧ aa (wc.heap[p0]? = some (.cells #[.string f0, .int .i64 e0] 85 (0, 0))) ∧ aa (Below w.heap.size w wc))
 case first =>
  have H := g2.o
  clear g2
  by_cases r2 : B0 < 4000
  ·rw [Da r2] at H
   have S0 := wa r2
   clear r2
   (first | rw [S0] | (simp only [bv, cG]; rw [S0]) | skip)
   have H' := c_ H
   clear H
   obtain ⟨l4, n4, p3⟩ := s7 r0.o
   subst p3
   go_wp2
   repeat (go_quiet (fail); try go_wp2)
   go_meet
   case rel => exact ⟨_, (decide ((y0.length : Int) < 256)), f0_, H', ⟨by have := Q0.o; first | omega | exact Aa _⟩, ⟨rR_ r0.o⟩, ⟨by refine kK_ ?_; exact d0.o⟩, ⟨hS_ n0.o⟩⟩
  rw [Ea r2] at H
  have S0 := xa r2
  clear r2
  (first | rw [S0] | (simp only [bv, cG]; rw [S0]) | skip)
  have H' := c_ H
  clear H
  go_wp2
  repeat (go_quiet (fail); try go_wp2)
  go_meet
  case rel => exact ⟨_, (false), f0_, H', ⟨by have := Q0.o; first | omega | exact Aa _⟩, ⟨rR_ r0.o⟩, ⟨by refine kK_ ?_; exact d0.o⟩, ⟨hS_ n0.o⟩⟩
 clear g2
 obtain ⟨kq, P0, rfl, HA, H0, r0, d0, HB⟩ := hcut
 rcases kq with _ | y1
 ·exact absurd HA.o (by simp [ak.j1])
 have H := HA.o
 clear HA
 simp only [ak.j1] at H
 by_cases c3 : P0 = true
 ·subst c3
  replace H := iT_ H
  have i2 := c_ H
  clear H
  go_upto_if 38 with (fail)
  repeat (go_quiet (fail); go_upto_if 38 with (fail))
  go_cut [9] (fun v9 wc => ∃ (kq : Nat) (b0 : ByteArray) (j0 : ByteArray) (k0 : Int), v9 = .string b0 ∧ aa (ak.j2 kq y0 b0 B0 (wrap64 ((Int.tmod B0 56) * 3)) j0 k0 = some r) ∧ aa (kq ≤ y1) ∧ aa (Kd.R (Kd.int .i64) 3 wc w.heap.size (fun _ => True) u7 y0) ∧ aa (wc.heap[p0]? = some (.cells #[.string j0, .int .i64 k0] 85 (0, 0))) ∧ aa (Below w.heap.size w wc))
  case first =>
   have H := i2.o
   clear i2
   by_cases l2 : (wrap64 ((Int.tmod B0 56) * 3)) = 0
   ·rw [Da l2] at H
    have T0 : ((wrap64 ((Int.tmod B0 56) * 3)) == 0) = true := beq_iff_eq.mpr l2
    have C2 : ((wrap64 ((Int.tmod B0 56) * 3)) != 0) = false := bne_eq_false_iff_eq.mpr l2
    clear l2
    (first | rw [T0] | (simp only [bv, cG]; rw [T0]) | skip)
    obtain ⟨⟨z1, D1, c2⟩, q3, H⟩ := bN_ H
    have H' := c_ H
    clear H
    have e3 : wc.cell? ⟨p0, 0, none⟩ = some (.string f0) := (ar d0.o 0).trans rfl
    have f3 : wc.cell? ⟨p0, 1, none⟩ = some (.int .i64 e0) := (ar d0.o 1).trans rfl
    have g3 := aj d0.o 0
    have i3 := aj d0.o 1
    go_wp2_with (first | (go_at_call 96; (with_reducible refine (aA.calls y1 f0 e0 168 z1 D1 c2 _ q3.o).mono ?_); rintro e H3 ⟨rfl, hb⟩; obtain ⟨r0, d0, HB⟩ := b_ (tc (rR_ r0.o) hb) <| b_ (bM (g := p0) (o := .cells #[.string f0, .int .i64 e0] 85 (0, 0)) (rK_ d0.o) hb) <| c_ (ab (hS_ n0.o) hb); (try clear hb)) | ((refine aI (N := 12) rfl ?_); (try (refine bn (by rfl) ?_; dsimp only)); refine cz ?hg (N := 12) ?hd (cs := #[.string (⟨#[]⟩ : ByteArray), .int .i64 0]) (t := 85) ?hr ?_; (case hd => rfl); (case hg => rfl); (case hr => first | (go_simp; done) | (go_simp; rfl)); intro C0 hg b1 hbox hb; obtain ⟨r0, d0, HB, E0, f2, E1, D0, F0⟩ := b_ (tc (rR_ r0.o) hb) <| b_ (bM (g := p0) (o := .cells #[.string f0, .int .i64 e0] 85 (0, 0)) (rK_ d0.o) hb) <| b_ (ab (hS_ n0.o) hb) <| b_ (hbox) <| b_ (by rw [hg]; exact (ac (hS_ n0.o)) : w.heap.size ≤ C0) <| b_ (by rw [hg]; exact (ac (hS_ n0.o)) : w.heap.size ≤ C0) <| b_ (by rw [hg]; exact Nat.ne_of_lt (eM (g := p0) (o := .cells #[.string f0, .int .i64 e0] 85 (0, 0)) (rK_ d0.o)) : p0 ≠ C0) <| c_ (by rw [hg]; exact Nat.ne_of_gt (eM (g := p0) (o := .cells #[.string f0, .int .i64 e0] 85 (0, 0)) (rK_ d0.o)) : C0 ≠ p0); clear hb hbox hg; have hnb26 := F0.o; have hnc26 := D0.o; have c1 : b1.cell? ⟨C0, 0, none⟩ = some (.string (⟨#[]⟩ : ByteArray)) := (ar E0.o 0).trans rfl; have d1 : b1.cell? ⟨C0, 1, none⟩ = some (.int .i64 0) := (ar E0.o 1).trans rfl; have e1 := aj E0.o 0; have f1 := aj E0.o 1; have g1 : b1.cell? ⟨p0, 0, none⟩ = some (.string f0) := (ar d0.o 0).trans rfl; have i1 : b1.cell? ⟨p0, 1, none⟩ = some (.int .i64 e0) := (ar d0.o 1).trans rfl; have m1 := aj d0.o 0; have n1 := aj d0.o 1))
    repeat (go_quiet (first | (go_at_call 96; (with_reducible refine (aA.calls y1 f0 e0 168 z1 D1 c2 _ q3.o).mono ?_); rintro e H3 ⟨rfl, hb⟩; obtain ⟨r0, d0, HB⟩ := b_ (tc (rR_ r0.o) hb) <| b_ (bM (g := p0) (o := .cells #[.string f0, .int .i64 e0] 85 (0, 0)) (rK_ d0.o) hb) <| c_ (ab (hS_ n0.o) hb); (try clear hb)) | ((refine aI (N := 12) rfl ?_); (try (refine bn (by rfl) ?_; dsimp only)); refine cz ?hg (N := 12) ?hd (cs := #[.string (⟨#[]⟩ : ByteArray), .int .i64 0]) (t := 85) ?hr ?_; (case hd => rfl); (case hg => rfl); (case hr => first | (go_simp; done) | (go_simp; rfl)); intro C0 hg b1 hbox hb; obtain ⟨r0, d0, HB, E0, f2, E1, D0, F0⟩ := b_ (tc (rR_ r0.o) hb) <| b_ (bM (g := p0) (o := .cells #[.string f0, .int .i64 e0] 85 (0, 0)) (rK_ d0.o) hb) <| b_ (ab (hS_ n0.o) hb) <| b_ (hbox) <| b_ (by rw [hg]; exact (ac (hS_ n0.o)) : w.heap.size ≤ C0) <| b_ (by rw [hg]; exact (ac (hS_ n0.o)) : w.heap.size ≤ C0) <| b_ (by rw [hg]; exact Nat.ne_of_lt (eM (g := p0) (o := .cells #[.string f0, .int .i64 e0] 85 (0, 0)) (rK_ d0.o)) : p0 ≠ C0) <| c_ (by rw [hg]; exact Nat.ne_of_gt (eM (g := p0) (o := .cells #[.string f0, .int .i64 e0] 85 (0, 0)) (rK_ d0.o)) : C0 ≠ p0); clear hb hbox hg; have hnb26 := F0.o; have hnc26 := D0.o; have c1 : b1.cell? ⟨C0, 0, none⟩ = some (.string (⟨#[]⟩ : ByteArray)) := (ar E0.o 0).trans rfl; have d1 : b1.cell? ⟨C0, 1, none⟩ = some (.int .i64 0) := (ar E0.o 1).trans rfl; have e1 := aj E0.o 0; have f1 := aj E0.o 1; have g1 : b1.cell? ⟨p0, 0, none⟩ = some (.string f0) := (ar d0.o 0).trans rfl; have i1 : b1.cell? ⟨p0, 1, none⟩ = some (.int .i64 e0) := (ar d0.o 1).trans rfl; have m1 := aj d0.o 0; have n1 := aj d0.o 1)); try go_wp2_with (first | (go_at_call 96; (with_reducible refine (aA.calls y1 f0 e0 168 z1 D1 c2 _ q3.o).mono ?_); rintro e H3 ⟨rfl, hb⟩; obtain ⟨r0, d0, HB⟩ := b_ (tc (rR_ r0.o) hb) <| b_ (bM (g := p0) (o := .cells #[.string f0, .int .i64 e0] 85 (0, 0)) (rK_ d0.o) hb) <| c_ (ab (hS_ n0.o) hb); (try clear hb)) | ((refine aI (N := 12) rfl ?_); (try (refine bn (by rfl) ?_; dsimp only)); refine cz ?hg (N := 12) ?hd (cs := #[.string (⟨#[]⟩ : ByteArray), .int .i64 0]) (t := 85) ?hr ?_; (case hd => rfl); (case hg => rfl); (case hr => first | (go_simp; done) | (go_simp; rfl)); intro C0 hg b1 hbox hb; obtain ⟨r0, d0, HB, E0, f2, E1, D0, F0⟩ := b_ (tc (rR_ r0.o) hb) <| b_ (bM (g := p0) (o := .cells #[.string f0, .int .i64 e0] 85 (0, 0)) (rK_ d0.o) hb) <| b_ (ab (hS_ n0.o) hb) <| b_ (hbox) <| b_ (by rw [hg]; exact (ac (hS_ n0.o)) : w.heap.size ≤ C0) <| b_ (by rw [hg]; exact (ac (hS_ n0.o)) : w.heap.size ≤ C0) <| b_ (by rw [hg]; exact Nat.ne_of_lt (eM (g := p0) (o := .cells #[.string f0, .int .i64 e0] 85 (0, 0)) (rK_ d0.o)) : p0 ≠ C0) <| c_ (by rw [hg]; exact Nat.ne_of_gt (eM (g := p0) (o := .cells #[.string f0, .int .i64 e0] 85 (0, 0)) (rK_ d0.o)) : C0 ≠ p0); clear hb hbox hg; have hnb26 := F0.o; have hnc26 := D0.o; have c1 : b1.cell? ⟨C0, 0, none⟩ = some (.string (⟨#[]⟩ : ByteArray)) := (ar E0.o 0).trans rfl; have d1 : b1.cell? ⟨C0, 1, none⟩ = some (.int .i64 0) := (ar E0.o 1).trans rfl; have e1 := aj E0.o 0; have f1 := aj E0.o 1; have g1 : b1.cell? ⟨p0, 0, none⟩ = some (.string f0) := (ar d0.o 0).trans rfl; have i1 : b1.cell? ⟨p0, 1, none⟩ = some (.int .i64 e0) := (ar d0.o 1).trans rfl; have m1 := aj d0.o 0; have n1 := aj d0.o 1)))
    go_meet
    case rel => exact ⟨_, (c2), (z1), (D1), f0_, H', ⟨by have := Q0.o; have := H0.o; first | omega | exact Aa _⟩, ⟨by refine kR_ ?_; exact s9 (tv (tv (tv (tv (tx (tx r0.o E0.o (by decide)) d0.o (by decide)) (fun _ hk => hk.1.2) (.string z1)) (fun _ hk => hk.1.2) (.int .i64 D1)) (fun _ hk => hk.2) _) (fun _ hk => hk.2) _) (fun _ hk => trivial)⟩, ⟨by refine kK_ ?_; refine cd (cs := #[.string z1, .int .i64 e0]) ?_ 1 _ rfl; refine kK_ ?_; refine cd (cs := #[.string f0, .int .i64 e0]) ?_ 0 _ rfl; refine kK_ ?_; refine d6 ?_ D0.o _; refine kK_ ?_; refine d6 ?_ D0.o _; refine kK_ ?_; exact d0.o⟩, ⟨(u0_ n0.o E1.o)⟩⟩
   rw [Ea l2] at H
   have T0 : ((wrap64 ((Int.tmod B0 56) * 3)) == 0) = false := beq_eq_false_iff_ne.mpr l2
   have C2 : ((wrap64 ((Int.tmod B0 56) * 3)) != 0) = true := bne_iff_ne.mpr l2
   (first | rw [T0] | (simp only [bv, cG]; rw [T0]) | skip)
   have H' := c_ H
   clear H
   go_wp2
   repeat (go_quiet (fail); try go_wp2)
   go_meet
   case rel => exact ⟨_, (C1), (f0), (e0), f0_, H', ⟨by have := Q0.o; have := H0.o; first | omega | exact Aa _⟩, ⟨rR_ r0.o⟩, ⟨by refine kK_ ?_; exact d0.o⟩, ⟨hS_ n0.o⟩⟩
  clear i2
  obtain ⟨kq, b0, j0, k0, rfl, HA, L0, r0, d0, HB⟩ := hcut
  rcases kq with _ | A1
  ·exact absurd HA.o (by simp [ak.j2])
  have H := HA.o
  clear HA
  simp only [ak.j2] at H
  obtain ⟨t0, F1⟩ : ∃ j_ : Int, (wrap64 ((Int.tmod B0 56) * 3)) = j_ := ⟨_, rfl⟩
  first | rw [F1] at H | simp only [F1] at H
  have r3 : (IntKind.i64.wrap ((Int.tmod B0 56) * 3)) = t0 := (bv _).trans F1
  obtain ⟨I3, H⟩ := iD_ H
  obtain ⟨J3, H⟩ := iD_ H
  obtain ⟨q0, G1⟩ : ∃ j_ : Int, (wrap64 ((t0) + 1)) = j_ := ⟨_, rfl⟩
  first | rw [G1] at H | simp only [G1] at H
  have t3 : (IntKind.i64.wrap ((t0) + 1)) = q0 := (bv _).trans G1
  obtain ⟨K3, H⟩ := iD_ H
  obtain ⟨L3, H⟩ := iD_ H
  obtain ⟨v0, H1⟩ : ∃ j_ : Int, (wrap64 ((t0) + 2)) = j_ := ⟨_, rfl⟩
  first | rw [H1] at H | simp only [H1] at H
  have u3 : (IntKind.i64.wrap ((t0) + 2)) = v0 := (bv _).trans H1
  obtain ⟨M3, H⟩ := iD_ H
  obtain ⟨N3, H⟩ := iD_ H
  by_cases t2 : (wrap64 ((wrap64 (bt b0 (t0))) + (wrap64 (256 * (Int.tmod (wrap64 (bt b0 (q0))) 16))))) < 3329
  ·rw [Da t2] at H
   have D2 := wa t2
   clear t2
   obtain ⟨O3, H⟩ := iN_ H
   have I0 := c_ O3
   clear O3
   obtain ⟨M0, p1⟩ : ∃ y_ : List Int, y_ = (y0 ++ [wrap64 ((wrap64 (bt b0 (t0))) + (wrap64 (256 * (Int.tmod (wrap64 (bt b0 (q0))) 16))))]) := ⟨_, rfl⟩
   first | replace H := yb_ p1 H | rw [← p1] at H
   have J0 := c_ p1
   clear p1
   by_cases u2 : (wrap64 ((wrap64 (Int.tdiv (wrap64 (bt b0 (q0))) 16)) + (wrap64 (16 * (wrap64 (bt b0 (v0))))))) < 3329
   rotate_left
   ·rw [Ea u2] at H
    have E2 := xa u2
    clear u2
    have H' := c_ H
    clear H
    have F2 := ya (oD_ : 0 ≤ ((t0) : Int))
    have G2 := ya (oD_ : (t0) < (b0.size : Int))
    have I1 := cP b0 (t0)
    have H2 := ya (oD_ : 0 ≤ ((q0) : Int))
    have I2 := ya (oD_ : (q0) < (b0.size : Int))
    have J1 := cP b0 (q0)
    have J2 := ya (oD_ : 0 ≤ ((q0) : Int))
    have K2 := ya (oD_ : (q0) < (b0.size : Int))
    have K1 := cP b0 (q0)
    have L2 := ya (oD_ : 0 ≤ ((v0) : Int))
    have M2 := ya (oD_ : (v0) < (b0.size : Int))
    have L1 := cP b0 (v0)
    go_wp2_with (first | ((refine aU (b := .append) (xs := #[.tmp 73, .tmp 75]) rfl ?_); (try (refine bn (by rfl) ?_; dsimp only)); at_builtin; refine tf (Kd.int .i64) (w0 := w) w.heap.size rfl (.tmp 73) (.tmp 75) 28 3 (.int .i64 0) 8 rfl Tryz.underlying28 cY rfl (by decide) (by omega) u7 y0 (wrap64 ((wrap64 (bt b0 (t0))) + (wrap64 (256 * (Int.tmod (wrap64 (bt b0 (q0))) 16))))) [.int .i64 (wrap64 ((wrap64 (bt b0 (t0))) + (wrap64 (256 * (Int.tmod (wrap64 (bt b0 (q0))) 16)))))] (fun _ => True) (fun _ => False) rfl rfl ?aP (fun _ hk => hk.elim) ?aF ?aO ?aB ?aS ?aL ?_; (case aP => exact rfl); (case aB => exact (hS_ n0.o)); (case aF => exact (fun _ _ => trivial)); (case aO => exact (rR_ r0.o)); (case aS => exact (ac (hS_ n0.o))); (case aL => have := I0.o; omega); intro U0 P3 ho hb hg hat; rw [← J0.o] at ho; obtain ⟨d0, HB, x0⟩ := b_ (cF (g := p0) (o := .cells #[.string j0, .int .i64 k0] 85 (0, 0)) (rK_ d0.o) hg (tW r0.o d0.o (by decide))) <| b_ (hb) <| c_ (ho); clear ho hb hg hat))
    repeat (go_quiet (first | ((refine aU (b := .append) (xs := #[.tmp 73, .tmp 75]) rfl ?_); (try (refine bn (by rfl) ?_; dsimp only)); at_builtin; refine tf (Kd.int .i64) (w0 := w) w.heap.size rfl (.tmp 73) (.tmp 75) 28 3 (.int .i64 0) 8 rfl Tryz.underlying28 cY rfl (by decide) (by omega) u7 y0 (wrap64 ((wrap64 (bt b0 (t0))) + (wrap64 (256 * (Int.tmod (wrap64 (bt b0 (q0))) 16))))) [.int .i64 (wrap64 ((wrap64 (bt b0 (t0))) + (wrap64 (256 * (Int.tmod (wrap64 (bt b0 (q0))) 16)))))] (fun _ => True) (fun _ => False) rfl rfl ?aP (fun _ hk => hk.elim) ?aF ?aO ?aB ?aS ?aL ?_; (case aP => exact rfl); (case aB => exact (hS_ n0.o)); (case aF => exact (fun _ _ => trivial)); (case aO => exact (rR_ r0.o)); (case aS => exact (ac (hS_ n0.o))); (case aL => have := I0.o; omega); intro U0 P3 ho hb hg hat; rw [← J0.o] at ho; obtain ⟨d0, HB, x0⟩ := b_ (cF (g := p0) (o := .cells #[.string j0, .int .i64 k0] 85 (0, 0)) (rK_ d0.o) hg (tW r0.o d0.o (by decide))) <| b_ (hb) <| c_ (ho); clear ho hb hg hat)); try go_wp2_with (first | ((refine aU (b := .append) (xs := #[.tmp 73, .tmp 75]) rfl ?_); (try (refine bn (by rfl) ?_; dsimp only)); at_builtin; refine tf (Kd.int .i64) (w0 := w) w.heap.size rfl (.tmp 73) (.tmp 75) 28 3 (.int .i64 0) 8 rfl Tryz.underlying28 cY rfl (by decide) (by omega) u7 y0 (wrap64 ((wrap64 (bt b0 (t0))) + (wrap64 (256 * (Int.tmod (wrap64 (bt b0 (q0))) 16))))) [.int .i64 (wrap64 ((wrap64 (bt b0 (t0))) + (wrap64 (256 * (Int.tmod (wrap64 (bt b0 (q0))) 16)))))] (fun _ => True) (fun _ => False) rfl rfl ?aP (fun _ hk => hk.elim) ?aF ?aO ?aB ?aS ?aL ?_; (case aP => exact rfl); (case aB => exact (hS_ n0.o)); (case aF => exact (fun _ _ => trivial)); (case aO => exact (rR_ r0.o)); (case aS => exact (ac (hS_ n0.o))); (case aL => have := I0.o; omega); intro U0 P3 ho hb hg hat; rw [← J0.o] at ho; obtain ⟨d0, HB, x0⟩ := b_ (cF (g := p0) (o := .cells #[.string j0, .int .i64 k0] 85 (0, 0)) (rK_ d0.o) hg (tW r0.o d0.o (by decide))) <| b_ (hb) <| c_ (ho); clear ho hb hg hat)))
    go_roundg A1
    case measure => have := Q0.o; have := H0.o; have := L0.o; omega
    case rel => exact ⟨(M0), (b0), (wrap64 (B0 + 1)), (j0), (k0), f0_, f0_, H', ⟨by have := Q0.o; have := H0.o; have := L0.o; omega⟩, ⟨rR_ x0.o⟩, ⟨by refine kK_ ?_; exact d0.o⟩, ⟨hS_ n0.o⟩⟩
   rw [Da u2] at H
   have E2 := wa u2
   clear u2
   by_cases v2 : (M0.length : Int) < 256
   ·rw [Da v2] at H
    have N2 := wa v2
    have O2 : decide (M0.length < 256) = true := wa (by omega)
    clear v2
    obtain ⟨Q3, H⟩ := iN_ H
    have M1 := c_ Q3
    clear Q3
    obtain ⟨v3, q1⟩ : ∃ y_ : List Int, y_ = (M0 ++ [wrap64 ((wrap64 (Int.tdiv (wrap64 (bt b0 (q0))) 16)) + (wrap64 (16 * (wrap64 (bt b0 (v0))))))]) := ⟨_, rfl⟩
    first | replace H := yb_ q1 H | rw [← q1] at H
    have N1 := c_ q1
    clear q1
    have H' := c_ H
    clear H
    have F2 := ya (oD_ : 0 ≤ ((t0) : Int))
    have G2 := ya (oD_ : (t0) < (b0.size : Int))
    have I1 := cP b0 (t0)
    have H2 := ya (oD_ : 0 ≤ ((q0) : Int))
    have I2 := ya (oD_ : (q0) < (b0.size : Int))
    have J1 := cP b0 (q0)
    have J2 := ya (oD_ : 0 ≤ ((q0) : Int))
    have K2 := ya (oD_ : (q0) < (b0.size : Int))
    have K1 := cP b0 (q0)
    have L2 := ya (oD_ : 0 ≤ ((v0) : Int))
    have M2 := ya (oD_ : (v0) < (b0.size : Int))
    have L1 := cP b0 (v0)
    go_wp2_with (first | ((refine aU (b := .append) (xs := #[.tmp 73, .tmp 75]) rfl ?_); (try (refine bn (by rfl) ?_; dsimp only)); at_builtin; refine tf (Kd.int .i64) (w0 := w) w.heap.size rfl (.tmp 73) (.tmp 75) 28 3 (.int .i64 0) 8 rfl Tryz.underlying28 cY rfl (by decide) (by omega) u7 y0 (wrap64 ((wrap64 (bt b0 (t0))) + (wrap64 (256 * (Int.tmod (wrap64 (bt b0 (q0))) 16))))) [.int .i64 (wrap64 ((wrap64 (bt b0 (t0))) + (wrap64 (256 * (Int.tmod (wrap64 (bt b0 (q0))) 16)))))] (fun _ => True) (fun _ => False) rfl rfl ?aP (fun _ hk => hk.elim) ?aF ?aO ?aB ?aS ?aL ?_; (case aP => exact rfl); (case aB => exact (hS_ n0.o)); (case aF => exact (fun _ _ => trivial)); (case aO => exact (rR_ r0.o)); (case aS => exact (ac (hS_ n0.o))); (case aL => have := I0.o; omega); intro U0 R3 ho hb hg hat; rw [← J0.o] at ho; obtain ⟨d0, HB, x0⟩ := b_ (cF (g := p0) (o := .cells #[.string j0, .int .i64 k0] 85 (0, 0)) (rK_ d0.o) hg (tW r0.o d0.o (by decide))) <| b_ (hb) <| c_ (ho); clear ho hb hg hat; obtain ⟨O1, P1, Q1⟩ := s7 x0.o; subst Q1) | ((refine aU (b := .append) (xs := #[.tmp 84, .tmp 86]) rfl ?_); (try (refine bn (by rfl) ?_; dsimp only)); at_builtin; refine tf (Kd.int .i64) (w0 := w) w.heap.size rfl (.tmp 84) (.tmp 86) 28 3 (.int .i64 0) 8 rfl Tryz.underlying28 cY rfl (by decide) (by omega) (.slice O1 M0.length P1) M0 (wrap64 ((wrap64 (Int.tdiv (wrap64 (bt b0 (q0))) 16)) + (wrap64 (16 * (wrap64 (bt b0 (v0))))))) [.int .i64 (wrap64 ((wrap64 (Int.tdiv (wrap64 (bt b0 (q0))) 16)) + (wrap64 (16 * (wrap64 (bt b0 (v0)))))))] (fun _ => True) (fun _ => False) rfl rfl ?aP (fun _ hk => hk.elim) ?aF ?aO ?aB ?aS ?aL ?_; (case aP => exact rfl); (case aB => exact (hS_ n0.o)); (case aF => exact (fun _ _ => trivial)); (case aO => exact (rR_ x0.o)); (case aS => exact (ac (hS_ n0.o))); (case aL => have := M1.o; omega); intro P2 S3 ho hb hg hat; rw [← N1.o] at ho; obtain ⟨d0, HB, R1⟩ := b_ (cF (g := p0) (o := .cells #[.string j0, .int .i64 k0] 85 (0, 0)) (rK_ d0.o) hg (tW x0.o d0.o (by decide))) <| b_ (hb) <| c_ (ho); clear ho hb hg hat))
    repeat (go_quiet (first | ((refine aU (b := .append) (xs := #[.tmp 73, .tmp 75]) rfl ?_); (try (refine bn (by rfl) ?_; dsimp only)); at_builtin; refine tf (Kd.int .i64) (w0 := w) w.heap.size rfl (.tmp 73) (.tmp 75) 28 3 (.int .i64 0) 8 rfl Tryz.underlying28 cY rfl (by decide) (by omega) u7 y0 (wrap64 ((wrap64 (bt b0 (t0))) + (wrap64 (256 * (Int.tmod (wrap64 (bt b0 (q0))) 16))))) [.int .i64 (wrap64 ((wrap64 (bt b0 (t0))) + (wrap64 (256 * (Int.tmod (wrap64 (bt b0 (q0))) 16)))))] (fun _ => True) (fun _ => False) rfl rfl ?aP (fun _ hk => hk.elim) ?aF ?aO ?aB ?aS ?aL ?_; (case aP => exact rfl); (case aB => exact (hS_ n0.o)); (case aF => exact (fun _ _ => trivial)); (case aO => exact (rR_ r0.o)); (case aS => exact (ac (hS_ n0.o))); (case aL => have := I0.o; omega); intro U0 R3 ho hb hg hat; rw [← J0.o] at ho; obtain ⟨d0, HB, x0⟩ := b_ (cF (g := p0) (o := .cells #[.string j0, .int .i64 k0] 85 (0, 0)) (rK_ d0.o) hg (tW r0.o d0.o (by decide))) <| b_ (hb) <| c_ (ho); clear ho hb hg hat; obtain ⟨O1, P1, Q1⟩ := s7 x0.o; subst Q1) | ((refine aU (b := .append) (xs := #[.tmp 84, .tmp 86]) rfl ?_); (try (refine bn (by rfl) ?_; dsimp only)); at_builtin; refine tf (Kd.int .i64) (w0 := w) w.heap.size rfl (.tmp 84) (.tmp 86) 28 3 (.int .i64 0) 8 rfl Tryz.underlying28 cY rfl (by decide) (by omega) (.slice O1 M0.length P1) M0 (wrap64 ((wrap64 (Int.tdiv (wrap64 (bt b0 (q0))) 16)) + (wrap64 (16 * (wrap64 (bt b0 (v0))))))) [.int .i64 (wrap64 ((wrap64 (Int.tdiv (wrap64 (bt b0 (q0))) 16)) + (wrap64 (16 * (wrap64 (bt b0 (v0)))))))] (fun _ => True) (fun _ => False) rfl rfl ?aP (fun _ hk => hk.elim) ?aF ?aO ?aB ?aS ?aL ?_; (case aP => exact rfl); (case aB => exact (hS_ n0.o)); (case aF => exact (fun _ _ => trivial)); (case aO => exact (rR_ x0.o)); (case aS => exact (ac (hS_ n0.o))); (case aL => have := M1.o; omega); intro P2 S3 ho hb hg hat; rw [← N1.o] at ho; obtain ⟨d0, HB, R1⟩ := b_ (cF (g := p0) (o := .cells #[.string j0, .int .i64 k0] 85 (0, 0)) (rK_ d0.o) hg (tW x0.o d0.o (by decide))) <| b_ (hb) <| c_ (ho); clear ho hb hg hat)); try go_wp2_with (first | ((refine aU (b := .append) (xs := #[.tmp 73, .tmp 75]) rfl ?_); (try (refine bn (by rfl) ?_; dsimp only)); at_builtin; refine tf (Kd.int .i64) (w0 := w) w.heap.size rfl (.tmp 73) (.tmp 75) 28 3 (.int .i64 0) 8 rfl Tryz.underlying28 cY rfl (by decide) (by omega) u7 y0 (wrap64 ((wrap64 (bt b0 (t0))) + (wrap64 (256 * (Int.tmod (wrap64 (bt b0 (q0))) 16))))) [.int .i64 (wrap64 ((wrap64 (bt b0 (t0))) + (wrap64 (256 * (Int.tmod (wrap64 (bt b0 (q0))) 16)))))] (fun _ => True) (fun _ => False) rfl rfl ?aP (fun _ hk => hk.elim) ?aF ?aO ?aB ?aS ?aL ?_; (case aP => exact rfl); (case aB => exact (hS_ n0.o)); (case aF => exact (fun _ _ => trivial)); (case aO => exact (rR_ r0.o)); (case aS => exact (ac (hS_ n0.o))); (case aL => have := I0.o; omega); intro U0 R3 ho hb hg hat; rw [← J0.o] at ho; obtain ⟨d0, HB, x0⟩ := b_ (cF (g := p0) (o := .cells #[.string j0, .int .i64 k0] 85 (0, 0)) (rK_ d0.o) hg (tW r0.o d0.o (by decide))) <| b_ (hb) <| c_ (ho); clear ho hb hg hat; obtain ⟨O1, P1, Q1⟩ := s7 x0.o; subst Q1) | ((refine aU (b := .append) (xs := #[.tmp 84, .tmp 86]) rfl ?_); (try (refine bn (by rfl) ?_; dsimp only)); at_builtin; refine tf (Kd.int .i64) (w0 := w) w.heap.size rfl (.tmp 84) (.tmp 86) 28 3 (.int .i64 0) 8 rfl Tryz.underlying28 cY rfl (by decide) (by omega) (.slice O1 M0.length P1) M0 (wrap64 ((wrap64 (Int.tdiv (wrap64 (bt b0 (q0))) 16)) + (wrap64 (16 * (wrap64 (bt b0 (v0))))))) [.int .i64 (wrap64 ((wrap64 (Int.tdiv (wrap64 (bt b0 (q0))) 16)) + (wrap64 (16 * (wrap64 (bt b0 (v0)))))))] (fun _ => True) (fun _ => False) rfl rfl ?aP (fun _ hk => hk.elim) ?aF ?aO ?aB ?aS ?aL ?_; (case aP => exact rfl); (case aB => exact (hS_ n0.o)); (case aF => exact (fun _ _ => trivial)); (case aO => exact (rR_ x0.o)); (case aS => exact (ac (hS_ n0.o))); (case aL => have := M1.o; omega); intro P2 S3 ho hb hg hat; rw [← N1.o] at ho; obtain ⟨d0, HB, R1⟩ := b_ (cF (g := p0) (o := .cells #[.string j0, .int .i64 k0] 85 (0, 0)) (rK_ d0.o) hg (tW x0.o d0.o (by decide))) <| b_ (hb) <| c_ (ho); clear ho hb hg hat)))
    go_roundg A1
    case measure => have := Q0.o; have := H0.o; have := L0.o; omega
    case rel => exact ⟨(v3), (b0), (wrap64 (B0 + 1)), (j0), (k0), f0_, f0_, H', ⟨by have := Q0.o; have := H0.o; have := L0.o; omega⟩, ⟨rR_ R1.o⟩, ⟨by refine kK_ ?_; exact d0.o⟩, ⟨hS_ n0.o⟩⟩
   rw [Ea v2] at H
   have N2 := xa v2
   have O2 : decide (M0.length < 256) = false := xa (by omega)
   clear v2
   have H' := c_ H
   clear H
   have F2 := ya (oD_ : 0 ≤ ((t0) : Int))
   have G2 := ya (oD_ : (t0) < (b0.size : Int))
   have I1 := cP b0 (t0)
   have H2 := ya (oD_ : 0 ≤ ((q0) : Int))
   have I2 := ya (oD_ : (q0) < (b0.size : Int))
   have J1 := cP b0 (q0)
   have J2 := ya (oD_ : 0 ≤ ((q0) : Int))
   have K2 := ya (oD_ : (q0) < (b0.size : Int))
   have K1 := cP b0 (q0)
   have L2 := ya (oD_ : 0 ≤ ((v0) : Int))
   have M2 := ya (oD_ : (v0) < (b0.size : Int))
   have L1 := cP b0 (v0)
   go_wp2_with (first | ((refine aU (b := .append) (xs := #[.tmp 73, .tmp 75]) rfl ?_); (try (refine bn (by rfl) ?_; dsimp only)); at_builtin; refine tf (Kd.int .i64) (w0 := w) w.heap.size rfl (.tmp 73) (.tmp 75) 28 3 (.int .i64 0) 8 rfl Tryz.underlying28 cY rfl (by decide) (by omega) u7 y0 (wrap64 ((wrap64 (bt b0 (t0))) + (wrap64 (256 * (Int.tmod (wrap64 (bt b0 (q0))) 16))))) [.int .i64 (wrap64 ((wrap64 (bt b0 (t0))) + (wrap64 (256 * (Int.tmod (wrap64 (bt b0 (q0))) 16)))))] (fun _ => True) (fun _ => False) rfl rfl ?aP (fun _ hk => hk.elim) ?aF ?aO ?aB ?aS ?aL ?_; (case aP => exact rfl); (case aB => exact (hS_ n0.o)); (case aF => exact (fun _ _ => trivial)); (case aO => exact (rR_ r0.o)); (case aS => exact (ac (hS_ n0.o))); (case aL => have := I0.o; omega); intro U0 T3 ho hb hg hat; rw [← J0.o] at ho; obtain ⟨d0, HB, x0⟩ := b_ (cF (g := p0) (o := .cells #[.string j0, .int .i64 k0] 85 (0, 0)) (rK_ d0.o) hg (tW r0.o d0.o (by decide))) <| b_ (hb) <| c_ (ho); clear ho hb hg hat; obtain ⟨Q2, R2, S1⟩ := s7 x0.o; subst S1))
   repeat (go_quiet (first | ((refine aU (b := .append) (xs := #[.tmp 73, .tmp 75]) rfl ?_); (try (refine bn (by rfl) ?_; dsimp only)); at_builtin; refine tf (Kd.int .i64) (w0 := w) w.heap.size rfl (.tmp 73) (.tmp 75) 28 3 (.int .i64 0) 8 rfl Tryz.underlying28 cY rfl (by decide) (by omega) u7 y0 (wrap64 ((wrap64 (bt b0 (t0))) + (wrap64 (256 * (Int.tmod (wrap64 (bt b0 (q0))) 16))))) [.int .i64 (wrap64 ((wrap64 (bt b0 (t0))) + (wrap64 (256 * (Int.tmod (wrap64 (bt b0 (q0))) 16)))))] (fun _ => True) (fun _ => False) rfl rfl ?aP (fun _ hk => hk.elim) ?aF ?aO ?aB ?aS ?aL ?_; (case aP => exact rfl); (case aB => exact (hS_ n0.o)); (case aF => exact (fun _ _ => trivial)); (case aO => exact (rR_ r0.o)); (case aS => exact (ac (hS_ n0.o))); (case aL => have := I0.o; omega); intro U0 T3 ho hb hg hat; rw [← J0.o] at ho; obtain ⟨d0, HB, x0⟩ := b_ (cF (g := p0) (o := .cells #[.string j0, .int .i64 k0] 85 (0, 0)) (rK_ d0.o) hg (tW r0.o d0.o (by decide))) <| b_ (hb) <| c_ (ho); clear ho hb hg hat; obtain ⟨Q2, R2, S1⟩ := s7 x0.o; subst S1)); try go_wp2_with (first | ((refine aU (b := .append) (xs := #[.tmp 73, .tmp 75]) rfl ?_); (try (refine bn (by rfl) ?_; dsimp only)); at_builtin; refine tf (Kd.int .i64) (w0 := w) w.heap.size rfl (.tmp 73) (.tmp 75) 28 3 (.int .i64 0) 8 rfl Tryz.underlying28 cY rfl (by decide) (by omega) u7 y0 (wrap64 ((wrap64 (bt b0 (t0))) + (wrap64 (256 * (Int.tmod (wrap64 (bt b0 (q0))) 16))))) [.int .i64 (wrap64 ((wrap64 (bt b0 (t0))) + (wrap64 (256 * (Int.tmod (wrap64 (bt b0 (q0))) 16)))))] (fun _ => True) (fun _ => False) rfl rfl ?aP (fun _ hk => hk.elim) ?aF ?aO ?aB ?aS ?aL ?_; (case aP => exact rfl); (case aB => exact (hS_ n0.o)); (case aF => exact (fun _ _ => trivial)); (case aO => exact (rR_ r0.o)); (case aS => exact (ac (hS_ n0.o))); (case aL => have := I0.o; omega); intro U0 T3 ho hb hg hat; rw [← J0.o] at ho; obtain ⟨d0, HB, x0⟩ := b_ (cF (g := p0) (o := .cells #[.string j0, .int .i64 k0] 85 (0, 0)) (rK_ d0.o) hg (tW r0.o d0.o (by decide))) <| b_ (hb) <| c_ (ho); clear ho hb hg hat; obtain ⟨Q2, R2, S1⟩ := s7 x0.o; subst S1)))
   go_roundg A1
   case measure => have := Q0.o; have := H0.o; have := L0.o; omega
   case rel => exact ⟨(M0), (b0), (wrap64 (B0 + 1)), (j0), (k0), f0_, f0_, H', ⟨by have := Q0.o; have := H0.o; have := L0.o; omega⟩, ⟨rR_ x0.o⟩, ⟨by refine kK_ ?_; exact d0.o⟩, ⟨hS_ n0.o⟩⟩
  rw [Ea t2] at H
  have D2 := xa t2
  clear t2
  by_cases y2 : (wrap64 ((wrap64 (Int.tdiv (wrap64 (bt b0 (q0))) 16)) + (wrap64 (16 * (wrap64 (bt b0 (v0))))))) < 3329
  rotate_left
  ·rw [Ea y2] at H
   have T2 := xa y2
   clear y2
   have H' := c_ H
   clear H
   have F2 := ya (oD_ : 0 ≤ ((t0) : Int))
   have G2 := ya (oD_ : (t0) < (b0.size : Int))
   have I1 := cP b0 (t0)
   have H2 := ya (oD_ : 0 ≤ ((q0) : Int))
   have I2 := ya (oD_ : (q0) < (b0.size : Int))
   have J1 := cP b0 (q0)
   have J2 := ya (oD_ : 0 ≤ ((q0) : Int))
   have K2 := ya (oD_ : (q0) < (b0.size : Int))
   have K1 := cP b0 (q0)
   have L2 := ya (oD_ : 0 ≤ ((v0) : Int))
   have M2 := ya (oD_ : (v0) < (b0.size : Int))
   have L1 := cP b0 (v0)
   go_wp2
   repeat (go_quiet (fail); try go_wp2)
   go_roundg A1
   case measure => have := Q0.o; have := H0.o; have := L0.o; omega
   case rel => exact ⟨(y0), (b0), (wrap64 (B0 + 1)), (j0), (k0), f0_, f0_, H', ⟨by have := Q0.o; have := H0.o; have := L0.o; omega⟩, ⟨rR_ r0.o⟩, ⟨by refine kK_ ?_; exact d0.o⟩, ⟨hS_ n0.o⟩⟩
  rw [Da y2] at H
  have T2 := wa y2
  clear y2
  by_cases z2 : (y0.length : Int) < 256
  ·rw [Da z2] at H
   have U2 := wa z2
   have V2 : decide (y0.length < 256) = true := wa (by omega)
   clear z2
   obtain ⟨U3, H⟩ := iN_ H
   have T1 := c_ U3
   clear U3
   obtain ⟨w3, r1⟩ : ∃ y_ : List Int, y_ = (y0 ++ [wrap64 ((wrap64 (Int.tdiv (wrap64 (bt b0 (q0))) 16)) + (wrap64 (16 * (wrap64 (bt b0 (v0))))))]) := ⟨_, rfl⟩
   first | replace H := yb_ r1 H | rw [← r1] at H
   have U1 := c_ r1
   clear r1
   have H' := c_ H
   clear H
   have F2 := ya (oD_ : 0 ≤ ((t0) : Int))
   have G2 := ya (oD_ : (t0) < (b0.size : Int))
   have I1 := cP b0 (t0)
   have H2 := ya (oD_ : 0 ≤ ((q0) : Int))
   have I2 := ya (oD_ : (q0) < (b0.size : Int))
   have J1 := cP b0 (q0)
   have J2 := ya (oD_ : 0 ≤ ((q0) : Int))
   have K2 := ya (oD_ : (q0) < (b0.size : Int))
   have K1 := cP b0 (q0)
   have L2 := ya (oD_ : 0 ≤ ((v0) : Int))
   have M2 := ya (oD_ : (v0) < (b0.size : Int))
   have L1 := cP b0 (v0)
   obtain ⟨m2, n2, y3⟩ := s7 r0.o
   subst y3
   go_wp2_with (first | ((refine aU (b := .append) (xs := #[.tmp 84, .tmp 86]) rfl ?_); (try (refine bn (by rfl) ?_; dsimp only)); at_builtin; refine tf (Kd.int .i64) (w0 := w) w.heap.size rfl (.tmp 84) (.tmp 86) 28 3 (.int .i64 0) 8 rfl Tryz.underlying28 cY rfl (by decide) (by omega) (.slice m2 y0.length n2) y0 (wrap64 ((wrap64 (Int.tdiv (wrap64 (bt b0 (q0))) 16)) + (wrap64 (16 * (wrap64 (bt b0 (v0))))))) [.int .i64 (wrap64 ((wrap64 (Int.tdiv (wrap64 (bt b0 (q0))) 16)) + (wrap64 (16 * (wrap64 (bt b0 (v0)))))))] (fun _ => True) (fun _ => False) rfl rfl ?aP (fun _ hk => hk.elim) ?aF ?aO ?aB ?aS ?aL ?_; (case aP => exact rfl); (case aB => exact (hS_ n0.o)); (case aF => exact (fun _ _ => trivial)); (case aO => exact (rR_ r0.o)); (case aS => exact (ac (hS_ n0.o))); (case aL => have := T1.o; omega); intro X2 V3 ho hb hg hat; rw [← U1.o] at ho; obtain ⟨d0, HB, V1⟩ := b_ (cF (g := p0) (o := .cells #[.string j0, .int .i64 k0] 85 (0, 0)) (rK_ d0.o) hg (tW r0.o d0.o (by decide))) <| b_ (hb) <| c_ (ho); clear ho hb hg hat))
   repeat (go_quiet (first | ((refine aU (b := .append) (xs := #[.tmp 84, .tmp 86]) rfl ?_); (try (refine bn (by rfl) ?_; dsimp only)); at_builtin; refine tf (Kd.int .i64) (w0 := w) w.heap.size rfl (.tmp 84) (.tmp 86) 28 3 (.int .i64 0) 8 rfl Tryz.underlying28 cY rfl (by decide) (by omega) (.slice m2 y0.length n2) y0 (wrap64 ((wrap64 (Int.tdiv (wrap64 (bt b0 (q0))) 16)) + (wrap64 (16 * (wrap64 (bt b0 (v0))))))) [.int .i64 (wrap64 ((wrap64 (Int.tdiv (wrap64 (bt b0 (q0))) 16)) + (wrap64 (16 * (wrap64 (bt b0 (v0)))))))] (fun _ => True) (fun _ => False) rfl rfl ?aP (fun _ hk => hk.elim) ?aF ?aO ?aB ?aS ?aL ?_; (case aP => exact rfl); (case aB => exact (hS_ n0.o)); (case aF => exact (fun _ _ => trivial)); (case aO => exact (rR_ r0.o)); (case aS => exact (ac (hS_ n0.o))); (case aL => have := T1.o; omega); intro X2 V3 ho hb hg hat; rw [← U1.o] at ho; obtain ⟨d0, HB, V1⟩ := b_ (cF (g := p0) (o := .cells #[.string j0, .int .i64 k0] 85 (0, 0)) (rK_ d0.o) hg (tW r0.o d0.o (by decide))) <| b_ (hb) <| c_ (ho); clear ho hb hg hat)); try go_wp2_with (first | ((refine aU (b := .append) (xs := #[.tmp 84, .tmp 86]) rfl ?_); (try (refine bn (by rfl) ?_; dsimp only)); at_builtin; refine tf (Kd.int .i64) (w0 := w) w.heap.size rfl (.tmp 84) (.tmp 86) 28 3 (.int .i64 0) 8 rfl Tryz.underlying28 cY rfl (by decide) (by omega) (.slice m2 y0.length n2) y0 (wrap64 ((wrap64 (Int.tdiv (wrap64 (bt b0 (q0))) 16)) + (wrap64 (16 * (wrap64 (bt b0 (v0))))))) [.int .i64 (wrap64 ((wrap64 (Int.tdiv (wrap64 (bt b0 (q0))) 16)) + (wrap64 (16 * (wrap64 (bt b0 (v0)))))))] (fun _ => True) (fun _ => False) rfl rfl ?aP (fun _ hk => hk.elim) ?aF ?aO ?aB ?aS ?aL ?_; (case aP => exact rfl); (case aB => exact (hS_ n0.o)); (case aF => exact (fun _ _ => trivial)); (case aO => exact (rR_ r0.o)); (case aS => exact (ac (hS_ n0.o))); (case aL => have := T1.o; omega); intro X2 V3 ho hb hg hat; rw [← U1.o] at ho; obtain ⟨d0, HB, V1⟩ := b_ (cF (g := p0) (o := .cells #[.string j0, .int .i64 k0] 85 (0, 0)) (rK_ d0.o) hg (tW r0.o d0.o (by decide))) <| b_ (hb) <| c_ (ho); clear ho hb hg hat)))
   go_roundg A1
   case measure => have := Q0.o; have := H0.o; have := L0.o; omega
   case rel => exact ⟨(w3), (b0), (wrap64 (B0 + 1)), (j0), (k0), f0_, f0_, H', ⟨by have := Q0.o; have := H0.o; have := L0.o; omega⟩, ⟨rR_ V1.o⟩, ⟨by refine kK_ ?_; exact d0.o⟩, ⟨hS_ n0.o⟩⟩
  rw [Ea z2] at H
  have U2 := xa z2
  have V2 : decide (y0.length < 256) = false := xa (by omega)
  clear z2
  have H' := c_ H
  clear H
  have F2 := ya (oD_ : 0 ≤ ((t0) : Int))
  have G2 := ya (oD_ : (t0) < (b0.size : Int))
  have I1 := cP b0 (t0)
  have H2 := ya (oD_ : 0 ≤ ((q0) : Int))
  have I2 := ya (oD_ : (q0) < (b0.size : Int))
  have J1 := cP b0 (q0)
  have J2 := ya (oD_ : 0 ≤ ((q0) : Int))
  have K2 := ya (oD_ : (q0) < (b0.size : Int))
  have K1 := cP b0 (q0)
  have L2 := ya (oD_ : 0 ≤ ((v0) : Int))
  have M2 := ya (oD_ : (v0) < (b0.size : Int))
  have L1 := cP b0 (v0)
  obtain ⟨q4, t4, z3⟩ := s7 r0.o
  subst z3
  go_wp2
  repeat (go_quiet (fail); try go_wp2)
  go_roundg A1
  case measure => have := Q0.o; have := H0.o; have := L0.o; omega
  case rel => exact ⟨(y0), (b0), (wrap64 (B0 + 1)), (j0), (k0), f0_, f0_, H', ⟨by have := Q0.o; have := H0.o; have := L0.o; omega⟩, ⟨rR_ r0.o⟩, ⟨by refine kK_ ?_; exact d0.o⟩, ⟨hS_ n0.o⟩⟩
 ·replace c3 := Ca c3
  subst c3
  replace H := iF_ H
  have H' := c_ H
  clear H
  go_wp2
  repeat (go_quiet (fail); try go_wp2)
  go_loopg [7] y1 (fun kq v7 w' => ∃ (K0 : List Int), aa (ak.l1 kq K0 = some r) ∧ aa (kq ≤ y1) ∧ aa (Kd.R (Kd.int .i64) 3 w' w.heap.size (fun _ => True) v7 K0) ∧ aa (w'.heap[p0]? = some (.cells #[.string f0, .int .i64 e0] 85 (0, 0))) ∧ aa (Below w.heap.size w w'))
  case atStart => exact ⟨(y0), H', ⟨Aa _⟩, ⟨rR_ r0.o⟩, ⟨by refine kK_ ?_; exact d0.o⟩, ⟨hS_ n0.o⟩⟩
  clear H'
  obtain ⟨K0, HA, W3, r0, d0, HB⟩ := hrel
  rcases gk with _ | k3
  ·exact absurd HA.o (by simp [ak.l1])
  have H := HA.o
  clear HA
  simp only [ak.l1] at H
  by_cases A2 : (K0.length : Int) < 256
  ·rw [Da A2] at H
   have Y2 := wa A2
   have Z2 : decide (K0.length < 256) = true := wa (by omega)
   clear A2
   obtain ⟨X3, H⟩ := iN_ H
   have X1 := c_ X3
   clear X3
   obtain ⟨A3, t1⟩ : ∃ y_ : List Int, y_ = (K0 ++ [0]) := ⟨_, rfl⟩
   first | replace H := yb_ t1 H | rw [← t1] at H
   have Y1 := c_ t1
   clear t1
   have H' := c_ H
   clear H
   obtain ⟨p2, q2, B3⟩ := s7 r0.o
   subst B3
   go_wp2_with (first | ((refine aU (b := .append) (xs := #[.tmp 91, .tmp 92]) rfl ?_); (try (refine bn (by rfl) ?_; dsimp only)); at_builtin; refine tf (Kd.int .i64) (w0 := w) w.heap.size rfl (.tmp 91) (.tmp 92) 28 3 (.int .i64 0) 8 rfl Tryz.underlying28 cY rfl (by decide) (by omega) (.slice p2 K0.length q2) K0 0 [.int .i64 0] (fun _ => True) (fun _ => False) rfl rfl ?aP (fun _ hk => hk.elim) ?aF ?aO ?aB ?aS ?aL ?_; (case aP => exact rfl); (case aB => exact (hS_ n0.o)); (case aF => exact (fun _ _ => trivial)); (case aO => exact (rR_ r0.o)); (case aS => exact (ac (hS_ n0.o))); (case aL => have := X1.o; omega); intro b3 Y3 ho hb hg hat; rw [← Y1.o] at ho; obtain ⟨d0, HB, Z1⟩ := b_ (cF (g := p0) (o := .cells #[.string f0, .int .i64 e0] 85 (0, 0)) (rK_ d0.o) hg (tW r0.o d0.o (by decide))) <| b_ (hb) <| c_ (ho); clear ho hb hg hat))
   repeat (go_quiet (first | ((refine aU (b := .append) (xs := #[.tmp 91, .tmp 92]) rfl ?_); (try (refine bn (by rfl) ?_; dsimp only)); at_builtin; refine tf (Kd.int .i64) (w0 := w) w.heap.size rfl (.tmp 91) (.tmp 92) 28 3 (.int .i64 0) 8 rfl Tryz.underlying28 cY rfl (by decide) (by omega) (.slice p2 K0.length q2) K0 0 [.int .i64 0] (fun _ => True) (fun _ => False) rfl rfl ?aP (fun _ hk => hk.elim) ?aF ?aO ?aB ?aS ?aL ?_; (case aP => exact rfl); (case aB => exact (hS_ n0.o)); (case aF => exact (fun _ _ => trivial)); (case aO => exact (rR_ r0.o)); (case aS => exact (ac (hS_ n0.o))); (case aL => have := X1.o; omega); intro b3 Y3 ho hb hg hat; rw [← Y1.o] at ho; obtain ⟨d0, HB, Z1⟩ := b_ (cF (g := p0) (o := .cells #[.string f0, .int .i64 e0] 85 (0, 0)) (rK_ d0.o) hg (tW r0.o d0.o (by decide))) <| b_ (hb) <| c_ (ho); clear ho hb hg hat)); try go_wp2_with (first | ((refine aU (b := .append) (xs := #[.tmp 91, .tmp 92]) rfl ?_); (try (refine bn (by rfl) ?_; dsimp only)); at_builtin; refine tf (Kd.int .i64) (w0 := w) w.heap.size rfl (.tmp 91) (.tmp 92) 28 3 (.int .i64 0) 8 rfl Tryz.underlying28 cY rfl (by decide) (by omega) (.slice p2 K0.length q2) K0 0 [.int .i64 0] (fun _ => True) (fun _ => False) rfl rfl ?aP (fun _ hk => hk.elim) ?aF ?aO ?aB ?aS ?aL ?_; (case aP => exact rfl); (case aB => exact (hS_ n0.o)); (case aF => exact (fun _ _ => trivial)); (case aO => exact (rR_ r0.o)); (case aS => exact (ac (hS_ n0.o))); (case aL => have := X1.o; omega); intro b3 Y3 ho hb hg hat; rw [← Y1.o] at ho; obtain ⟨d0, HB, Z1⟩ := b_ (cF (g := p0) (o := .cells #[.string f0, .int .i64 e0] 85 (0, 0)) (rK_ d0.o) hg (tW r0.o d0.o (by decide))) <| b_ (hb) <| c_ (ho); clear ho hb hg hat)))
   go_roundg k3
   case measure => have := Q0.o; have := H0.o; have := W3.o; omega
   case rel => exact ⟨(A3), H', ⟨by have := Q0.o; have := H0.o; have := W3.o; omega⟩, ⟨rR_ Z1.o⟩, ⟨by refine kK_ ?_; exact d0.o⟩, ⟨hS_ n0.o⟩⟩
  rw [Ea A2] at H
  have Y2 := xa A2
  have Z2 : decide (K0.length < 256) = false := xa (by omega)
  clear A2
  obtain rfl := za H
  obtain ⟨u4, v4, C3⟩ := s7 r0.o
  subst C3
  go_wp2
  repeat (go_quiet (fail); try go_wp2)
  go_ret
  exact ⟨_, f1_, rR_ r0.o, hS_ n0.o⟩
mutual
def aE.l0 : Nat → ByteArray → List (List Int) → Int → Option ((List (List Int)))
 | 0, _, _, _ => none
 | k + 1, x0, x3, x4 => if x4 < 2 then (aE.l1 k x0 x3 x4 0) else (some x3)
def aE.l1 : Nat → ByteArray → List (List Int) → Int → Int → Option ((List (List Int)))
 | 0, _, _, _, _ => none
 | k + 1, x0, x3, x4, x5 => if x5 < 2 then ((ak.f k x0 x5 x4).bind fun t516 => (if x3.length < 5864062014805 then (aE.l1 k x0 (x3 ++ [t516]) x4 (wrap64 (x5 + 1))) else (none))) else (aE.l0 k x0 x3 (wrap64 (x4 + 1)))
end
def aE.f (k : Nat) (a0 : ByteArray) : Option ((List (List Int))) := aE.l0 k a0 (([] : List (List Int))) 0
theorem aE.mono_l : ∀ k, (∀ y0 y1 y2, LeO (aE.l0 k y0 y1 y2) (aE.l0 (k + 1) y0 y1 y2)) ∧ (∀ y0 y1 y2 y3, LeO (aE.l1 k y0 y1 y2 y3) (aE.l1 (k + 1) y0 y1 y2 y3))
 | 0 => ⟨fun _ _ _ r h => by simp [aE.l0] at h, fun _ _ _ _ r h => by simp [aE.l1] at h⟩
 | k + 1 => by
  obtain ⟨ih0, ih1⟩ := aE.mono_l k
  refine ⟨?_, ?_⟩ <;> (intros; (first | unfold aE.l0 | unfold aE.l1); exact o3_ ih0 ih1 ak.mono)
theorem aE.mono : ∀ a0 k, LeO (aE.f k a0) (aE.f (k + 1) a0) := by
 intro a0 k
 obtain ⟨ih0, ih1⟩ := aE.mono_l k
 unfold aE.f
 exact o3_ ih0 ih1 ak.mono
theorem aE.calls (k : Nat) (a0 : ByteArray) (r : List (List Int)) (w : World) (h : aE.f k a0 = some r) :
  Calls Tryz.prog 35 #[.string a0] w fun e w' => ∃ K0 : Value, e = .returned (K0) ∧ Kd.S (Kd.slice 3 (Kd.int .i64)) 28 w' w.heap.size (fun _ => True) K0 r ∧ Below w.heap.size w w' := by
 have HB := c_ (Ba w.heap.size w)
 delta aE.f at h
 have H := h
 clear h
 obtain ⟨E0, f0⟩ : ∃ y_ : List (List Int), y_ = (([] : List (List Int))) := ⟨_, rfl⟩
 first | replace H := yb_ f0 H | rw [← f0] at H
 have r0 := c_ f0
 clear f0
 have H' := c_ H
 clear H
 go_enter Tryz.func35, Tryz.ntmps35
 go_wp2_with (first | ((refine aI (N := 6) rfl ?_); refine uM (Kd.slice 3 (Kd.int .i64)) _ 28 ?hg (N := 6) ?hd (xs := ([] : List (List Int))) (inner := []) (ok := fun _ => True) (okp := fun _ => True) ?hr ?hp (fun _ hk => hk) trivial (Ba _ _) (Aa _) (by simp) ?_; (case hd => rfl); (case hg => rfl); (case hr => first | (go_simp; done) | (go_simp; rfl)); (case hp => exact (bA.none _ _)); intro M0 w2 t0 hb hg_ hnew_; clear hg_ hnew_; (first | rw [← r0.o] at t0 | (simp only [Int.reduceToNat] at t0; rw [← r0.o] at t0)); obtain ⟨u0, HB⟩ := b_ (tz t0 (ac (hB_))) <| c_ (ab (hB_) hb); clear hb t0))
 go_loopg [3, 4] k (fun kq v3 v4 w' => ∃ (q0 : List (List Int)) (d0 : Int), v4 = .int .i64 d0 ∧ aa (aE.l0 kq a0 q0 d0 = some r) ∧ aa (kq ≤ k) ∧ aa (Kd.S (Kd.slice 3 (Kd.int .i64)) 28 w' w.heap.size (fun _ => True) v3 q0) ∧ aa (Below w.heap.size w w'))
 case atStart => exact ⟨(E0), (0), f0_, H', ⟨Aa _⟩, ⟨rS_ u0.o⟩, ⟨hB_⟩⟩
 clear H'
 obtain ⟨q0, d0, rfl, HA, C0, b0, HB⟩ := hrel
 rcases gk with _ | k1
 ·exact absurd HA.o (by simp [aE.l0])
 have H := HA.o
 clear HA
 simp only [aE.l0] at H
 by_cases c4 : d0 < 2
 rotate_left
 ·rw [Ea c4] at H
  have F0 := xa c4
  clear c4
  obtain rfl := za H
  go_wp2
  go_ret
  exact ⟨_, f1_, by refine kS_ ?_; exact b0.o, hB_⟩
 rw [Da c4] at H
 have F0 := wa c4
 clear c4
 have H' := c_ H
 clear H
 go_wp2
 go_loopg [3, 5] k1 (fun kq v3 v5 w' => ∃ (k0 : List (List Int)) (e0 : Int), v5 = .int .i64 e0 ∧ aa (aE.l1 kq a0 k0 d0 e0 = some r) ∧ aa (kq ≤ k1) ∧ aa (Kd.S (Kd.slice 3 (Kd.int .i64)) 28 w' w.heap.size (fun _ => True) v3 k0) ∧ aa (Below w.heap.size w w'))
 case atStart => exact ⟨(q0), (0), f0_, H', ⟨Aa _⟩, ⟨rS_ b0.o⟩, ⟨hB_⟩⟩
 clear H'
 obtain ⟨k0, e0, rfl, HA, D0, b0, HB⟩ := hrel
 rcases gk with _ | k2
 ·exact absurd HA.o (by simp [aE.l1])
 have H := HA.o
 clear HA
 simp only [aE.l1] at H
 by_cases c5 : e0 < 2
 ·rw [Da c5] at H
  have G0 := wa c5
  clear c5
  obtain ⟨n0, A6, H⟩ := bN_ H
  obtain ⟨c7, H⟩ := iN_ H
  have H0 := c_ c7
  clear c7
  obtain ⟨I0, j0⟩ : ∃ y_ : List (List Int), y_ = (k0 ++ [n0]) := ⟨_, rfl⟩
  first | replace H := yb_ j0 H | rw [← j0] at H
  have v0 := c_ j0
  clear j0
  have H' := c_ H
  clear H
  go_wp2_with (first | (refine gq_ 73 (some 19) Tryz.func73 #[.string a0, .int .i64 e0, .int .i64 d0] (ak.calls k2 a0 e0 d0 n0 _ A6.o) ?_; rintro e w8 ⟨N0, rfl, L0, hb⟩; refine ⟨_, rfl, ?_⟩; obtain ⟨b0, p0, HB⟩ := b_ (s6 (rS_ b0.o) (sY L0) hb) <| b_ (sZ L0 (ac (hB_))) <| c_ (ab (hB_) hb); obtain ⟨x0, y0, J0⟩ := s7 p0.o; subst J0) | ((refine aU (b := .append) (xs := #[.tmp 15, .tmp 20]) rfl ?_); at_builtin; refine tE (Kd.slice 3 (Kd.int .i64)) (w0 := w) w.heap.size rfl (.tmp 15) (.tmp 20) 46 28 (.slice none 0 0) 24 rfl Tryz.underlying46 gg rfl (by decide) (by omega) u3 k0 n0 [.slice x0 n0.length y0] (fun _ => True) (fun k_ => some k_ = (.slice x0 n0.length y0 : Value).ownBlock) rfl rfl ?aP (fun k_ hk_ => ((s9 (ok' := fun k_ => ((fun _ => True)) k_ ∧ some k_ ≠ (u3 : Value).ownBlock) (th (p0.o) (tk b0.o) (by decide)) (fun k_ hk => ⟨trivial, hk.2⟩))).1 k_ hk_.symm) ?aF ?aO ?aB ?aS ?aL ?_; (case aP => exact t9 (s9 (tG rfl (s9 (ok' := fun k_ => ((fun _ => True)) k_ ∧ some k_ ≠ (u3 : Value).ownBlock) (th (p0.o) (tk b0.o) (by decide)) (fun k_ hk => ⟨trivial, hk.2⟩))) (fun _ h_ => h_))); (case aB => exact (hB_)); (case aF => exact (fun _ _ => trivial)); (case aO => exact (by refine kS_ ?_; exact tq b0.o (fun k_ hk => ⟨trivial, fun e_ => hk.2 e_⟩))); (case aS => exact (ac (hB_))); (case aL => have := H0.o; omega); intro O0 w9 ho hb hg hat; rw [← v0.o] at ho; obtain ⟨HB, B0⟩ := b_ (hb) <| c_ (ho); clear ho hb hg hat))
  go_roundg k2
  case measure => have := C0.o; have := D0.o; omega
  case rel => exact ⟨(I0), (wrap64 (e0 + 1)), f0_, H', ⟨by have := C0.o; have := D0.o; omega⟩, ⟨rS_ B0.o⟩, ⟨hB_⟩⟩
 rw [Ea c5] at H
 have G0 := xa c5
 clear c5
 have H' := c_ H
 clear H
 go_wp2
 go_roundg k2
 case measure => have := C0.o; have := D0.o; omega
 case rel => exact ⟨(k0), (wrap64 (d0 + 1)), f0_, H', ⟨by have := C0.o; have := D0.o; omega⟩, ⟨rS_ b0.o⟩, ⟨hB_⟩⟩
def cR.f (k : Nat) (a0 : ByteArray) (a1 : Int) : Option (ByteArray × Bool) := (aY.f a1 0 4000).bind fun t522 => (if t522 = true then ((bZ.f k a0).bind fun bt523 => ((aA.f k bt523.1 bt523.2 a1).bind fun bt525 => (some (bt525.2.2, true)))) else (some ((⟨#[]⟩ : ByteArray), false)))
theorem cR.mono : ∀ a0 a1 k, LeO (cR.f k a0 a1) (cR.f (k + 1) a0 a1) := by
 intro a0 a1 k
 unfold cR.f
 exact o2_ bZ.mono aA.mono
theorem cR.calls (k : Nat) (a0 : ByteArray) (a1 : Int) (r1 : ByteArray) (r2 : Bool) (w : World) (h : cR.f k a0 a1 = some (r1, r2)) :
  Calls Tryz.prog 74 #[.string a0, .int .i64 a1] w fun e w' => e = .returned (.tuple #[.string r1, .bool r2]) ∧ Below w.heap.size w w' := by
 have hu85 := Tryz.underlying85
 have HB := c_ (Ba w.heap.size w)
 delta cR.f at h
 have H := h
 clear h
 obtain ⟨r0, A3, H⟩ := bN_ H
 by_cases c4 : r0 = true
 ·subst c4
  replace H := iT_ H
  obtain ⟨⟨e0, f0⟩, A5, H⟩ := bN_ H
  obtain ⟨⟨t0, u0, v0⟩, A6, H⟩ := bN_ H
  simp only [Option.some.injEq, Prod.mk.injEq] at H
  obtain ⟨rfl, rfl⟩ := H
  go_enter Tryz.func74, Tryz.ntmps74
  go_wp2_with (first | (refine gq_ 71 (some 9) Tryz.func71 #[.int .i64 a1, .int .i64 0, .int .i64 4000] (aY.calls a1 0 4000 true _ A3.o) ?_; rintro e w' ⟨rfl, ⟨nd, rfl⟩⟩; refine ⟨_, rfl, ?_⟩) | (refine gq_ 95 (some 13) Tryz.func95 #[.string a0] (bZ.calls k a0 e0 f0 _ A5.o) ?_; rintro e w7 ⟨rfl, hb⟩; refine ⟨_, rfl, ?_⟩; replace HB := c_ (ab (hB_) hb); (try clear hb)) | (refine gq_ 96 (some 15) Tryz.func96 #[.agg #[.string e0, .int .i64 f0], .int .i64 a1] (aA.calls k e0 f0 a1 t0 u0 v0 _ A6.o) ?_; rintro e w8 ⟨rfl, hb⟩; refine ⟨_, rfl, ?_⟩; replace HB := c_ (ab (hB_) hb); (try clear hb)) | ((refine aI (N := 6) rfl ?_); refine cz ?hg (N := 6) ?hd (cs := #[.string (⟨#[]⟩ : ByteArray), .int .i64 0]) (t := 85) ?hr ?_; (case hd => rfl); (case hg => rfl); (case hr => first | (go_simp; done) | (go_simp; rfl)); intro b0 hg w9 hbox hb; obtain ⟨HB, d0, x0, j0⟩ := b_ (ab (hB_) hb) <| b_ (hbox) <| b_ (by rw [hg]; exact (ac (hB_)) : w.heap.size ≤ b0) <| c_ (by rw [hg]; exact (ac (hB_)) : w.heap.size ≤ b0); clear hb hbox hg; have k0 : w9.cell? ⟨b0, 0, none⟩ = some (.string (⟨#[]⟩ : ByteArray)) := (ar d0.o 0).trans rfl; have n0 : w9.cell? ⟨b0, 1, none⟩ = some (.int .i64 0) := (ar d0.o 1).trans rfl; have p0 := aj d0.o 0; have q0 := aj d0.o 1))
  go_ret2
  exact ⟨f1_, hS_ j0.o⟩
 ·replace c4 := Ca c4
  subst c4
  replace H := iF_ H
  simp only [Option.some.injEq, Prod.mk.injEq] at H
  obtain ⟨rfl, rfl⟩ := H
  go_enter Tryz.func74, Tryz.ntmps74
  go_wp2_with (first | (refine gq_ 71 (some 9) Tryz.func71 #[.int .i64 a1, .int .i64 0, .int .i64 4000] (aY.calls a1 0 4000 false _ A3.o) ?_; rintro e w' ⟨rfl, ⟨nd, rfl⟩⟩; refine ⟨_, rfl, ?_⟩))
  go_ret2
  exact ⟨f1_, hB_⟩
def bE.l0 : Nat → List Int → ByteArray → Int → Option (List Int)
 | 0, _, _, _ => none
 | k + 1, x5, x6, x8 => if x8 < 256 then (if 0 ≤ (wrap64 (Int.tdiv x8 2)) then (if (wrap64 (Int.tdiv x8 2)) < (x6.size : Int) then (if (Int.tmod x8 2) = 1 then (if x5.length < 17592186044416 then (bE.l0 k (x5 ++ [Int.tmod (wrap64 ((wrap64 ((wrap64 ((wrap64 ((Int.tmod (wrap64 (Int.tdiv (wrap64 (bt x6 (wrap64 (Int.tdiv x8 2)))) 16)) 2) + (Int.tmod (wrap64 (Int.tdiv (wrap64 (Int.tdiv (wrap64 (bt x6 (wrap64 (Int.tdiv x8 2)))) 16)) 2)) 2))) - (Int.tmod (wrap64 (Int.tdiv (wrap64 (Int.tdiv (wrap64 (bt x6 (wrap64 (Int.tdiv x8 2)))) 16)) 4)) 2))) - (Int.tmod (wrap64 (Int.tdiv (wrap64 (Int.tdiv (wrap64 (bt x6 (wrap64 (Int.tdiv x8 2)))) 16)) 8)) 2))) + 3329)) 3329]) x6 (wrap64 (x8 + 1))) else (none)) else (if x5.length < 17592186044416 then (bE.l0 k (x5 ++ [Int.tmod (wrap64 ((wrap64 ((wrap64 ((wrap64 ((Int.tmod (wrap64 (bt x6 (wrap64 (Int.tdiv x8 2)))) 2) + (Int.tmod (wrap64 (Int.tdiv (wrap64 (bt x6 (wrap64 (Int.tdiv x8 2)))) 2)) 2))) - (Int.tmod (wrap64 (Int.tdiv (wrap64 (bt x6 (wrap64 (Int.tdiv x8 2)))) 4)) 2))) - (Int.tmod (wrap64 (Int.tdiv (wrap64 (bt x6 (wrap64 (Int.tdiv x8 2)))) 8)) 2))) + 3329)) 3329]) x6 (wrap64 (x8 + 1))) else (none))) else (none)) else (none)) else (some x5)
def bE.f (k : Nat) (a0 : ByteArray) (a1 : Int) : Option (List Int) := (cH.f a1).bind fun t532 => (if a0.size + t532.size ≤ 9223372036854775807 then ((cR.f k (a0 ++ t532) 128).bind fun bt533 => (bE.l0 k (([] : List Int)) bt533.1 0)) else (none))
theorem bE.mono_l : ∀ k, (∀ y0 y1 y2, LeO (bE.l0 k y0 y1 y2) (bE.l0 (k + 1) y0 y1 y2))
 | 0 => fun _ _ _ r h => by simp [bE.l0] at h
 | k + 1 => by
  have ih0 := bE.mono_l k
  intros; unfold bE.l0; exact o2_ ih0 cR.mono
theorem bE.mono : ∀ a0 a1 k, LeO (bE.f k a0 a1) (bE.f (k + 1) a0 a1) := by
 intro a0 a1 k
 have ih0 := bE.mono_l k
 unfold bE.f
 exact o2_ ih0 cR.mono
theorem bE.calls (k : Nat) (a0 : ByteArray) (a1 : Int) (r : List Int) (w : World) (h : bE.f k a0 a1 = some r) :
  Calls Tryz.prog 36 #[.string a0, .int .i64 a1] w fun e w' => ∃ R0 : Value, e = .returned (R0) ∧ Kd.R (Kd.int .i64) 3 w' w.heap.size (fun _ => True) R0 r ∧ Below w.heap.size w w' := by
 have HB := c_ (Ba w.heap.size w)
 delta bE.f at h
 have H := h
 clear h
 obtain ⟨L0, k0⟩ : ∃ y_ : List Int, y_ = (([] : List Int)) := ⟨_, rfl⟩
 first | replace H := yb_ k0 H | rw [← k0] at H
 have t0 := c_ k0
 clear k0
 obtain ⟨r0, A3, H⟩ := bN_ H
 obtain ⟨c4, H⟩ := iN_ H
 have W0 := ya c4
 have X0 := wa c4
 try have Y0 : (9223372036854775807 < a0.size + r0.size) = False := eq_false (Nat.not_lt.2 c4)
 obtain ⟨⟨d0, M0⟩, A5, H⟩ := bN_ H
 have H' := c_ H
 clear H
 go_enter Tryz.func36, Tryz.ntmps36
 go_wp2_with (first | ((refine aI (N := 10) rfl ?_); refine tn (Kd.int .i64) _ 3 ?hg (N := 10) ?hd (xs := ([] : List Int)) (inner := []) (ok := fun _ => True) (okp := fun _ => True) ?hr ?hp (fun _ hk => hk) trivial (Ba _ _) (Aa _) (by simp) ?_; (case hd => rfl); (case hg => rfl); (case hr => first | (go_simp; done) | (go_simp; rfl)); (case hp => exact (bA.none _ _)); intro Z0 w6 y0 hb hg_ hnew_; clear hg_ hnew_; (first | rw [← t0.o] at y0 | (simp only [Int.reduceToNat] at y0; rw [← t0.o] at y0)); obtain ⟨f0, HB⟩ := b_ (sZ y0 (ac (hB_))) <| c_ (ab (hB_) hb); clear hb y0) | (refine gq_ 75 (some 14) Tryz.func75 #[.int .i64 a1] (cH.calls a1 r0 _ A3.o) ?_; rintro e w8 ⟨rfl, hb⟩; refine ⟨_, rfl, ?_⟩; obtain ⟨f0, HB⟩ := b_ (tc (rR_ f0.o) hb) <| c_ (ab (hB_) hb); (try clear hb)) | (refine gq_ 74 (some 16) Tryz.func74 #[.string (a0 ++ r0), .int .i64 128] (cR.calls k (a0 ++ r0) 128 d0 M0 _ A5.o) ?_; rintro e w9 ⟨rfl, hb⟩; refine ⟨_, rfl, ?_⟩; obtain ⟨f0, HB⟩ := b_ (tc (rR_ f0.o) hb) <| c_ (ab (hB_) hb); (try clear hb)))
 go_loopg [5, 8] k (fun kq v5 v8 w' => ∃ (j0 : List Int) (e0 : Int), v8 = .int .i64 e0 ∧ aa (bE.l0 kq j0 d0 e0 = some r) ∧ aa (kq ≤ k) ∧ aa (Kd.R (Kd.int .i64) 3 w' w.heap.size (fun _ => True) v5 j0) ∧ aa (Below w.heap.size w w'))
 case atStart => exact ⟨(L0), (0), f0_, H', ⟨Aa _⟩, ⟨rR_ f0.o⟩, ⟨hB_⟩⟩
 clear H'
 obtain ⟨j0, e0, rfl, HA, K0, u0, HB⟩ := hrel
 rcases gk with _ | k1
 ·exact absurd HA.o (by simp [bE.l0])
 have H := HA.o
 clear HA
 simp only [bE.l0] at H
 by_cases x0 : e0 < 256
 rotate_left
 ·rw [Ea x0] at H
  have B0 := xa x0
  clear x0
  obtain rfl := za H
  go_wp2
  go_ret
  exact ⟨_, f1_, rR_ u0.o, hB_⟩
 rw [Da x0] at H
 have B0 := wa x0
 clear x0
 obtain ⟨b0, q0⟩ : ∃ j_ : Int, (wrap64 (Int.tdiv e0 2)) = j_ := ⟨_, rfl⟩
 first | rw [q0] at H | simp only [q0] at H
 have N0 : (IntKind.i64.wrap (Int.tdiv e0 2)) = b0 := (bv _).trans q0
 obtain ⟨S0, H⟩ := iD_ H
 obtain ⟨T0, H⟩ := iD_ H
 by_cases v0 : (Int.tmod e0 2) = 1
 ·rw [Da v0] at H
  have C0 : ((Int.tmod e0 2) == 1) = true := beq_iff_eq.mpr v0
  have D0 : ((Int.tmod e0 2) != 1) = false := bne_eq_false_iff_eq.mpr v0
  clear v0
  obtain ⟨U0, H⟩ := iN_ H
  have E0 := c_ U0
  clear U0
  obtain ⟨O0, n0⟩ : ∃ y_ : List Int, y_ = (j0 ++ [Int.tmod (wrap64 ((wrap64 ((wrap64 ((wrap64 ((Int.tmod (wrap64 (Int.tdiv (wrap64 (bt d0 (b0))) 16)) 2) + (Int.tmod (wrap64 (Int.tdiv (wrap64 (Int.tdiv (wrap64 (bt d0 (b0))) 16)) 2)) 2))) - (Int.tmod (wrap64 (Int.tdiv (wrap64 (Int.tdiv (wrap64 (bt d0 (b0))) 16)) 4)) 2))) - (Int.tmod (wrap64 (Int.tdiv (wrap64 (Int.tdiv (wrap64 (bt d0 (b0))) 16)) 8)) 2))) + 3329)) 3329]) := ⟨_, rfl⟩
  first | replace H := yb_ n0 H | rw [← n0] at H
  have F0 := c_ n0
  clear n0
  have H' := c_ H
  clear H
  have b1 := ya (oD_ : 0 ≤ ((b0) : Int))
  have c1 := ya (oD_ : (b0) < (d0.size : Int))
  have P0 := cP d0 (b0)
  go_wp2_with (first | ((refine aU (b := .append) (xs := #[.tmp 33, .tmp 50]) rfl ?_); at_builtin; refine tf (Kd.int .i64) (w0 := w) w.heap.size rfl (.tmp 33) (.tmp 50) 28 3 (.int .i64 0) 8 rfl Tryz.underlying28 cY rfl (by decide) (by omega) u5 j0 (Int.tmod (wrap64 ((wrap64 ((wrap64 ((wrap64 ((Int.tmod (wrap64 (Int.tdiv (wrap64 (bt d0 (b0))) 16)) 2) + (Int.tmod (wrap64 (Int.tdiv (wrap64 (Int.tdiv (wrap64 (bt d0 (b0))) 16)) 2)) 2))) - (Int.tmod (wrap64 (Int.tdiv (wrap64 (Int.tdiv (wrap64 (bt d0 (b0))) 16)) 4)) 2))) - (Int.tmod (wrap64 (Int.tdiv (wrap64 (Int.tdiv (wrap64 (bt d0 (b0))) 16)) 8)) 2))) + 3329)) 3329) [.int .i64 (Int.tmod (wrap64 ((wrap64 ((wrap64 ((wrap64 ((Int.tmod (wrap64 (Int.tdiv (wrap64 (bt d0 (b0))) 16)) 2) + (Int.tmod (wrap64 (Int.tdiv (wrap64 (Int.tdiv (wrap64 (bt d0 (b0))) 16)) 2)) 2))) - (Int.tmod (wrap64 (Int.tdiv (wrap64 (Int.tdiv (wrap64 (bt d0 (b0))) 16)) 4)) 2))) - (Int.tmod (wrap64 (Int.tdiv (wrap64 (Int.tdiv (wrap64 (bt d0 (b0))) 16)) 8)) 2))) + 3329)) 3329)] (fun _ => True) (fun _ => False) rfl rfl ?aP (fun _ hk => hk.elim) ?aF ?aO ?aB ?aS ?aL ?_; (case aP => exact rfl); (case aB => exact (hB_)); (case aF => exact (fun _ _ => trivial)); (case aO => exact (rR_ u0.o)); (case aS => exact (ac (hB_))); (case aL => have := E0.o; omega); intro d1 f1 ho hb hg hat; rw [← F0.o] at ho; obtain ⟨HB, G0⟩ := b_ (hb) <| c_ (ho); clear ho hb hg hat))
  go_roundg k1
  case measure => have := K0.o; omega
  case rel => exact ⟨(O0), (wrap64 (e0 + 1)), f0_, H', ⟨by have := K0.o; omega⟩, ⟨rR_ G0.o⟩, ⟨hB_⟩⟩
 rw [Ea v0] at H
 have C0 : ((Int.tmod e0 2) == 1) = false := beq_eq_false_iff_ne.mpr v0
 have D0 : ((Int.tmod e0 2) != 1) = true := bne_iff_ne.mpr v0
 obtain ⟨V0, H⟩ := iN_ H
 have H0 := c_ V0
 clear V0
 obtain ⟨Q0, p0⟩ : ∃ y_ : List Int, y_ = (j0 ++ [Int.tmod (wrap64 ((wrap64 ((wrap64 ((wrap64 ((Int.tmod (wrap64 (bt d0 (b0))) 2) + (Int.tmod (wrap64 (Int.tdiv (wrap64 (bt d0 (b0))) 2)) 2))) - (Int.tmod (wrap64 (Int.tdiv (wrap64 (bt d0 (b0))) 4)) 2))) - (Int.tmod (wrap64 (Int.tdiv (wrap64 (bt d0 (b0))) 8)) 2))) + 3329)) 3329]) := ⟨_, rfl⟩
 first | replace H := yb_ p0 H | rw [← p0] at H
 have I0 := c_ p0
 clear p0
 have H' := c_ H
 clear H
 have b1 := ya (oD_ : 0 ≤ ((b0) : Int))
 have c1 := ya (oD_ : (b0) < (d0.size : Int))
 have P0 := cP d0 (b0)
 go_wp2_with (first | ((refine aU (b := .append) (xs := #[.tmp 33, .tmp 50]) rfl ?_); at_builtin; refine tf (Kd.int .i64) (w0 := w) w.heap.size rfl (.tmp 33) (.tmp 50) 28 3 (.int .i64 0) 8 rfl Tryz.underlying28 cY rfl (by decide) (by omega) u5 j0 (Int.tmod (wrap64 ((wrap64 ((wrap64 ((wrap64 ((Int.tmod (wrap64 (bt d0 (b0))) 2) + (Int.tmod (wrap64 (Int.tdiv (wrap64 (bt d0 (b0))) 2)) 2))) - (Int.tmod (wrap64 (Int.tdiv (wrap64 (bt d0 (b0))) 4)) 2))) - (Int.tmod (wrap64 (Int.tdiv (wrap64 (bt d0 (b0))) 8)) 2))) + 3329)) 3329) [.int .i64 (Int.tmod (wrap64 ((wrap64 ((wrap64 ((wrap64 ((Int.tmod (wrap64 (bt d0 (b0))) 2) + (Int.tmod (wrap64 (Int.tdiv (wrap64 (bt d0 (b0))) 2)) 2))) - (Int.tmod (wrap64 (Int.tdiv (wrap64 (bt d0 (b0))) 4)) 2))) - (Int.tmod (wrap64 (Int.tdiv (wrap64 (bt d0 (b0))) 8)) 2))) + 3329)) 3329)] (fun _ => True) (fun _ => False) rfl rfl ?aP (fun _ hk => hk.elim) ?aF ?aO ?aB ?aS ?aL ?_; (case aP => exact rfl); (case aB => exact (hB_)); (case aF => exact (fun _ _ => trivial)); (case aO => exact (rR_ u0.o)); (case aS => exact (ac (hB_))); (case aL => have := H0.o; omega); intro e1 g1 ho hb hg hat; rw [← I0.o] at ho; obtain ⟨HB, J0⟩ := b_ (hb) <| c_ (ho); clear ho hb hg hat))
 go_roundg k1
 case measure => have := K0.o; omega
 case rel => exact ⟨(Q0), (wrap64 (e0 + 1)), f0_, H', ⟨by have := K0.o; omega⟩, ⟨rR_ J0.o⟩, ⟨hB_⟩⟩
mutual
def al.j0 : Nat → ByteArray → ByteArray → ByteArray → Bool → Option (ByteArray × Bool)
 | 0, _, _, _, _ => none
 | k + 1, x0, x1, x2, x31 => if x31 = true then (some ((⟨#[]⟩ : ByteArray), false)) else ((ba.f k x0).bind fun bt549 => (if 768 ≤ (x0.size : Int) then ((aE.f k (x0.extract 768 x0.size)).bind fun t553 => (al.l0 k x1 x2 bt549.1 t553 (([] : List (List Int))) 0)) else (none)))
def al.l0 : Nat → ByteArray → ByteArray → List (List Int) → List (List Int) → List (List Int) → Int → Option (ByteArray × Bool)
 | 0, _, _, _, _, _, _ => none
 | k + 1, x1, x2, x8, x10, x11, x12 => if x12 < 2 then ((bE.f k x2 x12).bind fun t559 => ((bh.f k t559).bind fun t562 => (if x11.length < 5864062014805 then (al.l0 k x1 x2 x8 x10 (x11 ++ [t562]) (wrap64 (x12 + 1))) else (none)))) else (al.l1 k x1 x2 x8 x10 x11 (⟨#[]⟩ : ByteArray) 0)
def al.l1 : Nat → ByteArray → ByteArray → List (List Int) → List (List Int) → List (List Int) → ByteArray → Int → Option (ByteArray × Bool)
 | 0, _, _, _, _, _, _, _ => none
 | k + 1, x1, x2, x8, x10, x11, x13, x14 => if x14 < 2 then (al.l2 k x1 x2 x8 x10 x11 x13 x14 (([] : List (List Int))) 0) else ((bf.f k x8 x11).bind fun t588 => ((am.f k t588).bind fun t591 => ((bE.f k x2 4).bind fun t594 => ((aH.f k t591 t594).bind fun t597 => ((bd.f k x1).bind fun t600 => ((aH.f k t597 t600).bind fun t603 => ((aK.f k t603 4).bind fun t606 => (if x13.size + t606.size ≤ 9223372036854775807 then (some (x13 ++ t606, true)) else (none)))))))))
def al.l2 : Nat → ByteArray → ByteArray → List (List Int) → List (List Int) → List (List Int) → ByteArray → Int → List (List Int) → Int → Option (ByteArray × Bool)
 | 0, _, _, _, _, _, _, _, _, _ => none
 | k + 1, x1, x2, x8, x10, x11, x13, x14, x15, x16 => if x16 < 2 then (if 0 ≤ (wrap64 ((wrap64 (x16 * 2)) + x14)) then (if (wrap64 ((wrap64 (x16 * 2)) + x14)) < (x10.length : Int) then (if x15.length < 5864062014805 then (al.l2 k x1 x2 x8 x10 x11 x13 x14 (x15 ++ [dw x10 (wrap64 ((wrap64 (x16 * 2)) + x14))]) (wrap64 (x16 + 1))) else (none)) else (none)) else (none)) else ((bf.f k x15 x11).bind fun t575 => ((am.f k t575).bind fun t578 => ((bE.f k x2 (wrap64 (2 + x14))).bind fun t581 => ((aH.f k t578 t581).bind fun t584 => ((aK.f k t584 10).bind fun t587 => (if x13.size + t587.size ≤ 9223372036854775807 then (al.l1 k x1 x2 x8 x10 x11 (x13 ++ t587) (wrap64 (x14 + 1))) else (none)))))))
end
def al.f (k : Nat) (a0 : ByteArray) (a1 : ByteArray) (a2 : ByteArray) : Option (ByteArray × Bool) := (cw.f k a0).bind fun t548 => (if t548 = true then (if (a1.size : Int) = 32 then (al.j0 k a0 a1 a2 ((a2.size : Int) != 32)) else (al.j0 k a0 a1 a2 true)) else (al.j0 k a0 a1 a2 true))
theorem al.mono_l : ∀ k, (∀ y0 y1 y2 y3, LeO (al.j0 k y0 y1 y2 y3) (al.j0 (k + 1) y0 y1 y2 y3)) ∧ (∀ y0 y1 y2 y3 y4 y5, LeO (al.l0 k y0 y1 y2 y3 y4 y5) (al.l0 (k + 1) y0 y1 y2 y3 y4 y5)) ∧ (∀ y0 y1 y2 y3 y4 y5 y6, LeO (al.l1 k y0 y1 y2 y3 y4 y5 y6) (al.l1 (k + 1) y0 y1 y2 y3 y4 y5 y6)) ∧ (∀ y0 y1 y2 y3 y4 y5 y6 y7 y8, LeO (al.l2 k y0 y1 y2 y3 y4 y5 y6 y7 y8) (al.l2 (k + 1) y0 y1 y2 y3 y4 y5 y6 y7 y8))
 | 0 => ⟨fun _ _ _ _ r h => by simp [al.j0] at h, fun _ _ _ _ _ _ r h => by simp [al.l0] at h, fun _ _ _ _ _ _ _ r h => by simp [al.l1] at h, fun _ _ _ _ _ _ _ _ _ r h => by simp [al.l2] at h⟩
 | k + 1 => by
  obtain ⟨ih0, ih1, ih2, ih3⟩ := al.mono_l k
  refine ⟨?_, ?_, ?_, ?_⟩ <;> (intros; (first | unfold al.j0 | unfold al.l0 | unfold al.l1 | unfold al.l2); exact qP ih0 ih1 ih2 ih3 am.mono bh.mono aH.mono cw.mono bE.mono bd.mono aE.mono ba.mono aK.mono bf.mono)
theorem al.mono : ∀ a0 a1 a2 k, LeO (al.f k a0 a1 a2) (al.f (k + 1) a0 a1 a2) := by
 intro a0 a1 a2 k
 obtain ⟨ih0, ih1, ih2, ih3⟩ := al.mono_l k
 unfold al.f
 exact qP ih0 ih1 ih2 ih3 am.mono bh.mono aH.mono cw.mono bE.mono bd.mono aE.mono ba.mono aK.mono bf.mono
theorem al.calls (k : Nat) (a0 : ByteArray) (a1 : ByteArray) (a2 : ByteArray) (r1 : ByteArray) (r2 : Bool) (w : World) (h : al.f k a0 a1 a2 = some (r1, r2)) :
  Calls Tryz.prog 14 #[.string a0, .string a1, .string a2] w fun e w' => e = .returned (.tuple #[.string r1, .bool r2]) ∧ Below w.heap.size w w' := by
 have HB := c_ (Ba w.heap.size w)
 delta al.f at h
 have H := h
 clear h
 have v2 := c_ H
 clear H
 go_enter Tryz.func14, Tryz.ntmps14
 go_upto_region 1 with (fail)
 go_cut [31] (fun b4 wc => ∃ (kq : Nat) (Y0 : Bool), b4 = .bool Y0 ∧ aa (al.j0 kq a0 a1 a2 Y0 = some (r1, r2)) ∧ aa (kq ≤ k) ∧ aa (Below w.heap.size w wc))
 case first =>
  have H := v2.o
  clear v2
  obtain ⟨y2, A5, H⟩ := bN_ H
  by_cases c6 : y2 = true
  ·subst c6
   replace H := iT_ H
   by_cases c7 : (a1.size : Int) = 32
   ·rw [Da c7] at H
    have j1 : ((a1.size : Int) == 32) = true := beq_iff_eq.mpr c7
    have z2 : ((a1.size : Int) != 32) = false := bne_eq_false_iff_eq.mpr c7
    clear c7
    (first | rw [j1] | (simp only [bv, cG]; rw [j1]) | skip)
    have H' := c_ H
    clear H
    go_wp2_with (first | (refine gq_ 34 (some 20) Tryz.func34 #[.string a0] (cw.calls k a0 true _ A5.o) ?_; rintro e w8 ⟨rfl, hb⟩; refine ⟨_, rfl, ?_⟩; replace HB := c_ (ab (hB_) hb); (try clear hb)))
    go_meet
    case rel => exact ⟨_, (((a2.size : Int) != 32)), f0_, H', ⟨by first | omega | exact Aa _⟩, ⟨hB_⟩⟩
   rw [Ea c7] at H
   have j1 : ((a1.size : Int) == 32) = false := beq_eq_false_iff_ne.mpr c7
   have z2 : ((a1.size : Int) != 32) = true := bne_iff_ne.mpr c7
   (first | rw [j1] | (simp only [bv, cG]; rw [j1]) | skip)
   have H' := c_ H
   clear H
   go_wp2_with (first | (refine gq_ 34 (some 20) Tryz.func34 #[.string a0] (cw.calls k a0 true _ A5.o) ?_; rintro e w9 ⟨rfl, hb⟩; refine ⟨_, rfl, ?_⟩; replace HB := c_ (ab (hB_) hb); (try clear hb)))
   go_meet
   case rel => exact ⟨_, (true), f0_, H', ⟨by first | omega | exact Aa _⟩, ⟨hB_⟩⟩
  ·replace c6 := Ca c6
   subst c6
   replace H := iF_ H
   have H' := c_ H
   clear H
   go_wp2_with (first | (refine gq_ 34 (some 20) Tryz.func34 #[.string a0] (cw.calls k a0 false _ A5.o) ?_; rintro e Y4 ⟨rfl, hb⟩; refine ⟨_, rfl, ?_⟩; replace HB := c_ (ab (hB_) hb); (try clear hb)))
   go_meet
   case rel => exact ⟨_, (true), f0_, H', ⟨by first | omega | exact Aa _⟩, ⟨hB_⟩⟩
 clear v2
 obtain ⟨kq, Y0, rfl, HA, P1, HB⟩ := hcut
 rcases kq with _ | j2
 ·exact absurd HA.o (by simp [al.j0])
 have H := HA.o
 clear HA
 simp only [al.j0] at H
 by_cases m2 : Y0 = true
 ·subst m2
  replace H := iT_ H
  simp only [Option.some.injEq, Prod.mk.injEq] at H
  obtain ⟨rfl, rfl⟩ := H
  go_wp2
  go_ret2
  exact ⟨f1_, hB_⟩
 ·replace m2 := Ca m2
  subst m2
  replace H := iF_ H
  obtain ⟨⟨O0, A2⟩, c4, H⟩ := bN_ H
  obtain ⟨B2, H⟩ := iN_ H
  have O3 := ya B2
  have P3 := wa B2
  clear B2
  obtain ⟨x0, e4, H⟩ := bN_ H
  obtain ⟨C2, Z0⟩ : ∃ y_ : List (List Int), y_ = (([] : List (List Int))) := ⟨_, rfl⟩
  first | replace H := yb_ Z0 H | rw [← Z0] at H
  have y1 := c_ Z0
  clear Z0
  have H' := c_ H
  clear H
  go_wp2_with (first | (refine gq_ 26 (some 34) Tryz.func26 #[.string a0] (ba.calls j2 a0 O0 A2 _ c4.o) ?_; rintro e Z4 ⟨n0, rfl, f0, hb⟩; refine ⟨_, rfl, ?_⟩; obtain ⟨I0, HB⟩ := b_ (uc (tu (ok' := fun k_ => True) (Kd.S_N (un f0)) (fun k_ hk_ => trivial)) (ac (hB_))) <| c_ (ab (hB_) hb); (try clear f0)) | (refine gq_ 35 (some 39) Tryz.func35 #[.string (a0.extract 768 a0.size)] (aE.calls j2 (a0.extract 768 a0.size) x0 _ e4.o) ?_; rintro e f4 ⟨u0, rfl, f0, hb⟩; refine ⟨_, rfl, ?_⟩; obtain ⟨I0, b1, HB⟩ := b_ (td (rN_ I0.o) (tL f0) hb) <| b_ (uc (tu (ok' := fun k_ => some k_ ≠ (n0 : Value).ownBlock) (Kd.S_N (un f0)) (fun k_ hk_ => (Kd.fresh' (uz (rN_ I0.o)) k_ hk_.2.1))) (ac (hB_))) <| c_ (ab (hB_) hb); (try clear f0)) | ((refine aI (N := 40) rfl ?_); (try (refine bn (by rfl) ?_; dsimp only)); refine vm (Kd.slice 3 (Kd.int .i64)) _ 28 ?hg (N' := 40) ?hd (xs := ([] : List (List Int))) (inner := []) (ok := (fun k_ => some k_ ≠ (n0 : Value).ownBlock ∧ some k_ ≠ (u0 : Value).ownBlock)) (okp := (fun k_ => some k_ ≠ (n0 : Value).ownBlock ∧ some k_ ≠ (u0 : Value).ownBlock)) ?hr ?hp (fun _ hk => hk) ((show ∀ k_, f4.heap.size ≤ k_ → (fun k_ => some k_ ≠ (n0 : Value).ownBlock ∧ some k_ ≠ (u0 : Value).ownBlock) k_ from fun k_ hk => ⟨Kd.fresh' (uz (rN_ I0.o)) k_ hk, Kd.fresh' (uz (rN_ b1.o)) k_ hk⟩) _ (Aa _)) (Ba _ _) (Aa _) (by simp) ?_; (case hd => rfl); (case hg => rfl); (case hr => first | (go_simp; done) | (go_simp; rfl)); (case hp => exact (bA.none _ _)); intro g4 b5 U0 hb hg_ hnew_; clear hg_ hnew_; (first | rw [← y1.o] at U0 | (simp only [Int.reduceToNat] at U0; rw [← y1.o] at U0)); obtain ⟨I0, b1, U1, HB⟩ := b_ (td (rN_ I0.o) (ui U0) hb) <| b_ (td (rN_ b1.o) (ui U0) hb) <| b_ (uc U0 (ac (hB_))) <| c_ (ab (hB_) hb); clear hb U0))
  go_loopg [11, 12] j2 (fun kq D2 i4 w' => ∃ (v0 : List (List Int)) (J0 : Int), i4 = .int .i64 J0 ∧ aa (al.l0 kq a1 a2 O0 x0 v0 J0 = some (r1, r2)) ∧ aa (kq ≤ j2) ∧ aa (Kd.N (Kd.slice 3 (Kd.int .i64)) 28 w' w.heap.size (fun k_ => some k_ ≠ (u0 : Value).ownBlock ∧ some k_ ≠ (D2 : Value).ownBlock) n0 O0) ∧ aa (Kd.N (Kd.slice 3 (Kd.int .i64)) 28 w' w.heap.size (fun k_ => some k_ ≠ (n0 : Value).ownBlock ∧ some k_ ≠ (D2 : Value).ownBlock) u0 x0) ∧ aa (Kd.N (Kd.slice 3 (Kd.int .i64)) 28 w' w.heap.size (fun k_ => some k_ ≠ (n0 : Value).ownBlock ∧ some k_ ≠ (u0 : Value).ownBlock) D2 v0) ∧ aa (Below w.heap.size w w'))
  case atStart => exact ⟨(C2), (0), f0_, H', ⟨Aa _⟩, ⟨by refine kN_ ?_; exact tu I0.o (fun _ hk => ⟨hk.1.2, hk.2⟩)⟩, ⟨rN_ b1.o⟩, ⟨rN_ U1.o⟩, ⟨hB_⟩⟩
  clear H'
  obtain ⟨v0, J0, rfl, HA, Q1, e0, b0, d0, HB⟩ := hrel
  rcases gk with _ | k2
  ·exact absurd HA.o (by simp [al.l0])
  have H := HA.o
  clear HA
  simp only [al.l0] at H
  by_cases R1 : J0 < 2
  ·rw [Da R1] at H
   have V1 := wa R1
   clear R1
   obtain ⟨P0, l4, H⟩ := bN_ H
   obtain ⟨i1, n4, H⟩ := bN_ H
   obtain ⟨Q3, H⟩ := iN_ H
   have X1 := c_ Q3
   clear Q3
   obtain ⟨E2, c1⟩ : ∃ y_ : List (List Int), y_ = (v0 ++ [i1]) := ⟨_, rfl⟩
   first | replace H := yb_ c1 H | rw [← c1] at H
   have Y1 := c_ c1
   clear c1
   have H' := c_ H
   clear H
   go_wp2_with (first | (refine gq_ 36 (some 48) Tryz.func36 #[.string a2, .int .i64 J0] (bE.calls k2 a2 J0 P0 _ l4.o) ?_; rintro e c5 ⟨q4, rfl, f0, hb⟩; refine ⟨_, rfl, ?_⟩; obtain ⟨e0, b0, d0, D0, HB⟩ := b_ (td (rN_ e0.o) (sY f0) hb) <| b_ (td (rN_ b0.o) (sY f0) hb) <| b_ (td (rN_ d0.o) (sY f0) hb) <| b_ (sZ f0 (ac (hB_))) <| c_ (ab (hB_) hb); obtain ⟨V0, W0, F2⟩ := s7 D0.o; subst F2) | (refine gq_ 27 (some 49) Tryz.func27 #[.slice V0 P0.length W0] (bh.calls k2 _ _ P0 i1 _ ?side1 ?side2 n4.o) ?_; (case side1 => exact cR_ (sX D0.o).2.2); (case side2 => exact (sX D0.o).2.1); rintro e e5 ⟨t4, rfl, f0, hb⟩; refine ⟨_, rfl, ?_⟩; obtain ⟨e0, b0, d0, D0, m1, HB⟩ := b_ (td (rN_ e0.o) (sY f0) hb) <| b_ (td (rN_ b0.o) (sY f0) hb) <| b_ (td (rN_ d0.o) (sY f0) hb) <| b_ (s5 (rR_ D0.o) (sY f0) hb) <| b_ (sZ (ta f0 (ti (rR_ D0.o))) (ac (hB_))) <| c_ (ab (hB_) hb); obtain ⟨A1, B1, G2⟩ := s7 m1.o; subst G2) | ((refine aU (b := .append) (xs := #[.tmp 45, .tmp 50]) rfl ?_); (try (refine bn (by rfl) ?_; dsimp only)); at_builtin; refine us (Kd.slice 3 (Kd.int .i64)) (w0 := w) w.heap.size rfl (.tmp 45) (.tmp 50) 46 28 (.slice none 0 0) 24 rfl Tryz.underlying46 gg rfl (by decide) (by omega) u11 v0 i1 [.slice A1 i1.length B1] (fun k_ => some k_ ≠ (n0 : Value).ownBlock ∧ some k_ ≠ (u0 : Value).ownBlock ∧ some k_ ≠ (.slice V0 P0.length W0 : Value).ownBlock) (fun k_ => ((fun k_ => some k_ ≠ (n0 : Value).ownBlock ∧ some k_ ≠ (u0 : Value).ownBlock ∧ some k_ ≠ (.slice V0 P0.length W0 : Value).ownBlock)) k_ ∧ some k_ ≠ (u11 : Value).ownBlock) rfl rfl ?aP (fun _ hk => hk) ?aF ?aO ?aB ?aS ?aL ?_; (case aP => exact (tZ (sX (s9 (ok' := (fun k_ => ((fun k_ => some k_ ≠ (n0 : Value).ownBlock ∧ some k_ ≠ (u0 : Value).ownBlock ∧ some k_ ≠ (.slice V0 P0.length W0 : Value).ownBlock)) k_ ∧ some k_ ≠ (u11 : Value).ownBlock)) (th (th (th (m1.o) (tP e0.o) (by decide)) (tP b0.o) (by decide)) (tP d0.o) (by decide)) (fun k_ hk => ⟨⟨hk.1.1.2, ⟨hk.1.2, hk.1.1.1.2⟩⟩, hk.2⟩))).2.1 (Kd.R_F (s9 (ok' := (fun k_ => ((fun k_ => some k_ ≠ (n0 : Value).ownBlock ∧ some k_ ≠ (u0 : Value).ownBlock ∧ some k_ ≠ (.slice V0 P0.length W0 : Value).ownBlock)) k_ ∧ some k_ ≠ (u11 : Value).ownBlock)) (th (th (th (m1.o) (tP e0.o) (by decide)) (tP b0.o) (by decide)) (tP d0.o) (by decide)) (fun k_ hk => ⟨⟨hk.1.1.2, ⟨hk.1.2, hk.1.1.1.2⟩⟩, hk.2⟩))))); (case aB => exact (hB_)); (case aF => exact (fun k_ hk => ⟨Kd.fresh' (uz (rN_ e0.o)) k_ hk, Kd.fresh' (uz (rN_ b0.o)) k_ hk, Kd.fresh' (ti (rR_ D0.o)) k_ hk⟩)); (case aO => exact (by refine kN_ ?_; exact tu d0.o (fun _ hk => ⟨hk.1.1.1, ⟨hk.1.1.2, hk.1.2⟩⟩))); (case aS => exact (ac (hB_))); (case aL => have := X1.o; omega); intro u4 f5 ho hb hg hat; rw [← Y1.o] at ho; obtain ⟨e0, b0, D0, HB, Z1⟩ := b_ (tS (ok := (fun k_ => some k_ ≠ (u0 : Value).ownBlock ∧ some k_ ≠ (.slice V0 P0.length W0 : Value).ownBlock ∧ some k_ ≠ (.slice A1 i1.length B1 : Value).ownBlock)) (by refine kN_ ?_; exact tu e0.o (fun _ hk => ⟨⟨hk.1.1.1, ⟨hk.1.2, hk.2⟩⟩, hk.1.1.2⟩)) hg hat) <| b_ (tS (ok := (fun k_ => some k_ ≠ (n0 : Value).ownBlock ∧ some k_ ≠ (.slice V0 P0.length W0 : Value).ownBlock ∧ some k_ ≠ (.slice A1 i1.length B1 : Value).ownBlock)) (by refine kN_ ?_; exact tu b0.o (fun _ hk => ⟨⟨hk.1.1.1, ⟨hk.1.2, hk.2⟩⟩, hk.1.1.2⟩)) hg hat) <| b_ (ua (rR_ D0.o) (tP (rN_ d0.o)) (by decide) hg) <| b_ (hb) <| c_ (ho); clear ho hb hg hat))
   go_roundg k2
   case measure => have := P1.o; have := Q1.o; omega
   case rel => exact ⟨(E2), (wrap64 (J0 + 1)), f0_, H', ⟨by have := P1.o; have := Q1.o; omega⟩, ⟨by refine kN_ ?_; exact tu e0.o (fun _ hk => ⟨hk.1.1, hk.2⟩)⟩, ⟨by refine kN_ ?_; exact tu b0.o (fun _ hk => ⟨hk.1.1, hk.2⟩)⟩, ⟨by refine kN_ ?_; exact tu Z1.o (fun _ hk => ⟨hk.1, hk.2.1⟩)⟩, ⟨hB_⟩⟩
  rw [Ea R1] at H
  have V1 := xa R1
  clear R1
  have H' := c_ H
  clear H
  go_wp2
  go_loopg [13, 14] k2 (fun kq v4 w4 w' => ∃ (K0 : ByteArray) (C0 : Int), v4 = .string K0 ∧ w4 = .int .i64 C0 ∧ aa (al.l1 kq a1 a2 O0 x0 v0 K0 C0 = some (r1, r2)) ∧ aa (kq ≤ k2) ∧ aa (Kd.N (Kd.slice 3 (Kd.int .i64)) 28 w' w.heap.size (fun k_ => some k_ ≠ (u0 : Value).ownBlock ∧ some k_ ≠ (u11 : Value).ownBlock) n0 O0) ∧ aa (Kd.N (Kd.slice 3 (Kd.int .i64)) 28 w' w.heap.size (fun k_ => some k_ ≠ (n0 : Value).ownBlock ∧ some k_ ≠ (u11 : Value).ownBlock) u0 x0) ∧ aa (Kd.N (Kd.slice 3 (Kd.int .i64)) 28 w' w.heap.size (fun k_ => some k_ ≠ (n0 : Value).ownBlock ∧ some k_ ≠ (u0 : Value).ownBlock) u11 v0) ∧ aa (Below w.heap.size w w'))
  case atStart => exact ⟨((⟨#[]⟩ : ByteArray)), (0), f0_, f0_, H', ⟨Aa _⟩, ⟨rN_ e0.o⟩, ⟨rN_ b0.o⟩, ⟨rN_ d0.o⟩, ⟨hB_⟩⟩
  clear H'
  obtain ⟨K0, C0, rfl, rfl, HA, n2, e0, b0, d0, HB⟩ := hrel
  rcases gk with _ | k3
  ·exact absurd HA.o (by simp [al.l1])
  have H := HA.o
  clear HA
  simp only [al.l1] at H
  by_cases S1 : C0 < 2
  rotate_left
  ·rw [Ea S1] at H
   have b2 := xa S1
   clear S1
   obtain ⟨C1, y4, H⟩ := bN_ H
   obtain ⟨D1, z4, H⟩ := bN_ H
   obtain ⟨E1, A4, H⟩ := bN_ H
   obtain ⟨F1, B4, H⟩ := bN_ H
   obtain ⟨G1, C4, H⟩ := bN_ H
   obtain ⟨H1, D4, H⟩ := bN_ H
   obtain ⟨c2, E4, H⟩ := bN_ H
   obtain ⟨H2, H⟩ := iN_ H
   have R3 := ya H2
   have S3 := wa H2
   try have T3 : (9223372036854775807 < K0.size + c2.size) = False := eq_false (Nat.not_lt.2 H2)
   simp only [Option.some.injEq, Prod.mk.injEq] at H
   obtain ⟨rfl, rfl⟩ := H
   obtain ⟨I2, J2, K2⟩ := tY e0.o
   subst K2
   obtain ⟨L2, M2, N2⟩ := tY d0.o
   subst N2
   go_wp2_with (first | (refine gq_ 31 (some 86) Tryz.func31 #[.slice I2 O0.length J2, .slice L2 v0.length M2] (bf.calls k3 _ _ O0 _ _ v0 C1 _ ?side1 ?side2 ?side3 ?side4 y4.o) ?_; (case side1 => exact cR_ (tB e0.o).2.2); (case side2 => exact (tB e0.o).2.1); (case side3 => exact cR_ (tB d0.o).2.2); (case side4 => exact (tB d0.o).2.1); rintro e i5 ⟨F4, rfl, f0, hb⟩; refine ⟨_, rfl, ?_⟩; obtain ⟨e0, b0, d0, k0, HB⟩ := b_ (td (rN_ e0.o) (sY f0) hb) <| b_ (td (rN_ b0.o) (sY f0) hb) <| b_ (td (rN_ d0.o) (sY f0) hb) <| b_ (sZ f0 (ac (hB_))) <| c_ (ab (hB_) hb); obtain ⟨O2, P2, Q2⟩ := s7 k0.o; subst Q2) | (refine gq_ 30 (some 87) Tryz.func30 #[.slice O2 C1.length P2] (am.calls k3 _ _ C1 D1 _ ?side1 ?side2 z4.o) ?_; (case side1 => exact cR_ (sX k0.o).2.2); (case side2 => exact (sX k0.o).2.1); rintro e p5 ⟨G4, rfl, f0, hb⟩; refine ⟨_, rfl, ?_⟩; obtain ⟨e0, b0, d0, k0, p0, HB⟩ := b_ (td (rN_ e0.o) (sY f0) hb) <| b_ (td (rN_ b0.o) (sY f0) hb) <| b_ (td (rN_ d0.o) (sY f0) hb) <| b_ (s5 (rR_ k0.o) (sY f0) hb) <| b_ (sZ (ta f0 (ti (rR_ k0.o))) (ac (hB_))) <| c_ (ab (hB_) hb); (try clear f0)) | (refine gq_ 36 (some 89) Tryz.func36 #[.string a2, .int .i64 4] (bE.calls k3 a2 4 E1 _ A4.o) ?_; rintro e q5 ⟨H4, rfl, f0, hb⟩; refine ⟨_, rfl, ?_⟩; obtain ⟨e0, b0, d0, k0, p0, q0, HB⟩ := b_ (td (rN_ e0.o) (sY f0) hb) <| b_ (td (rN_ b0.o) (sY f0) hb) <| b_ (td (rN_ d0.o) (sY f0) hb) <| b_ (s5 (rR_ k0.o) (sY f0) hb) <| b_ (s5 (rR_ p0.o) (sY f0) hb) <| b_ (sZ (ta (ta f0 (ti (rR_ k0.o))) (ti (rR_ p0.o))) (ac (hB_))) <| c_ (ab (hB_) hb); obtain ⟨R2, T2, U2⟩ := s7 p0.o; subst U2; obtain ⟨V2, X2, Y2⟩ := s7 q0.o; subst Y2) | (refine gq_ 37 (some 90) Tryz.func37 #[.slice R2 D1.length T2, .slice V2 E1.length X2] (aH.calls k3 _ _ D1 _ _ E1 F1 _ ?side1 ?side2 ?side3 ?side4 B4.o) ?_; (case side1 => exact cR_ (sX p0.o).2.2); (case side2 => exact (sX p0.o).2.1); (case side3 => exact cR_ (sX q0.o).2.2); (case side4 => exact (sX q0.o).2.1); rintro e u5 ⟨I4, rfl, f0, hb⟩; refine ⟨_, rfl, ?_⟩; obtain ⟨e0, b0, d0, k0, p0, q0, y0, HB⟩ := b_ (td (rN_ e0.o) (sY f0) hb) <| b_ (td (rN_ b0.o) (sY f0) hb) <| b_ (td (rN_ d0.o) (sY f0) hb) <| b_ (s5 (rR_ k0.o) (sY f0) hb) <| b_ (s5 (rR_ p0.o) (sY f0) hb) <| b_ (s5 (rR_ q0.o) (sY f0) hb) <| b_ (sZ (ta (ta (ta f0 (ti (rR_ k0.o))) (ti (rR_ p0.o))) (ti (rR_ q0.o))) (ac (hB_))) <| c_ (ab (hB_) hb); (try clear f0)) | (refine gq_ 38 (some 93) Tryz.func38 #[.string a1] (bd.calls k3 a1 G1 _ C4.o) ?_; rintro e v5 ⟨J4, rfl, f0, hb⟩; refine ⟨_, rfl, ?_⟩; obtain ⟨e0, b0, d0, k0, p0, q0, y0, E0, HB⟩ := b_ (td (rN_ e0.o) (sY f0) hb) <| b_ (td (rN_ b0.o) (sY f0) hb) <| b_ (td (rN_ d0.o) (sY f0) hb) <| b_ (s5 (rR_ k0.o) (sY f0) hb) <| b_ (s5 (rR_ p0.o) (sY f0) hb) <| b_ (s5 (rR_ q0.o) (sY f0) hb) <| b_ (s5 (rR_ y0.o) (sY f0) hb) <| b_ (sZ (ta (ta (ta (ta f0 (ti (rR_ k0.o))) (ti (rR_ p0.o))) (ti (rR_ q0.o))) (ti (rR_ y0.o))) (ac (hB_))) <| c_ (ab (hB_) hb); obtain ⟨Z2, b3, c3⟩ := s7 y0.o; subst c3; obtain ⟨e3, f3, g3⟩ := s7 E0.o; subst g3) | (refine gq_ 37 (some 94) Tryz.func37 #[.slice Z2 F1.length b3, .slice e3 G1.length f3] (aH.calls k3 _ _ F1 _ _ G1 H1 _ ?side1 ?side2 ?side3 ?side4 D4.o) ?_; (case side1 => exact cR_ (sX y0.o).2.2); (case side2 => exact (sX y0.o).2.1); (case side3 => exact cR_ (sX E0.o).2.2); (case side4 => exact (sX E0.o).2.1); rintro e w5 ⟨K4, rfl, f0, hb⟩; refine ⟨_, rfl, ?_⟩; obtain ⟨e0, b0, d0, k0, p0, q0, y0, E0, R0, HB⟩ := b_ (td (rN_ e0.o) (sY f0) hb) <| b_ (td (rN_ b0.o) (sY f0) hb) <| b_ (td (rN_ d0.o) (sY f0) hb) <| b_ (s5 (rR_ k0.o) (sY f0) hb) <| b_ (s5 (rR_ p0.o) (sY f0) hb) <| b_ (s5 (rR_ q0.o) (sY f0) hb) <| b_ (s5 (rR_ y0.o) (sY f0) hb) <| b_ (s5 (rR_ E0.o) (sY f0) hb) <| b_ (sZ (ta (ta (ta (ta (ta f0 (ti (rR_ k0.o))) (ti (rR_ p0.o))) (ti (rR_ q0.o))) (ti (rR_ y0.o))) (ti (rR_ E0.o))) (ac (hB_))) <| c_ (ab (hB_) hb); obtain ⟨i3, l3, m3⟩ := s7 R0.o; subst m3) | (refine gq_ 13 (some 97) Tryz.func13 #[.slice i3 H1.length l3, .int .i64 4] (aK.calls k3 _ _ H1 4 c2 _ ?side1 ?side2 E4.o) ?_; (case side1 => exact cR_ (sX R0.o).2.2); (case side2 => exact (sX R0.o).2.1); rintro e y5 ⟨rfl, hb⟩; refine ⟨_, rfl, ?_⟩; obtain ⟨e0, b0, d0, k0, p0, q0, y0, E0, R0, HB⟩ := b_ (tN (rN_ e0.o) hb) <| b_ (tN (rN_ b0.o) hb) <| b_ (tN (rN_ d0.o) hb) <| b_ (tc (rR_ k0.o) hb) <| b_ (tc (rR_ p0.o) hb) <| b_ (tc (rR_ q0.o) hb) <| b_ (tc (rR_ y0.o) hb) <| b_ (tc (rR_ E0.o) hb) <| b_ (tc (rR_ R0.o) hb) <| c_ (ab (hB_) hb); (try clear hb)))
   go_ret2
   exact ⟨f1_, hB_⟩
  rw [Da S1] at H
  have b2 := wa S1
  clear S1
  obtain ⟨n3, d1⟩ : ∃ y_ : List (List Int), y_ = (([] : List (List Int))) := ⟨_, rfl⟩
  first | replace H := yb_ d1 H | rw [← d1] at H
  have z1 := c_ d1
  clear d1
  have H' := c_ H
  clear H
  go_wp2_with (first | ((refine aI (N := 56) rfl ?_); (try (refine bn (by rfl) ?_; dsimp only)); refine vm (Kd.slice 3 (Kd.int .i64)) _ 28 ?hg (N' := 56) ?hd (xs := ([] : List (List Int))) (inner := []) (ok := (fun k_ => some k_ ≠ (n0 : Value).ownBlock ∧ some k_ ≠ (u0 : Value).ownBlock ∧ some k_ ≠ (u11 : Value).ownBlock)) (okp := (fun k_ => some k_ ≠ (n0 : Value).ownBlock ∧ some k_ ≠ (u0 : Value).ownBlock ∧ some k_ ≠ (u11 : Value).ownBlock)) ?hr ?hp (fun _ hk => hk) ((show ∀ k_, wr.heap.size ≤ k_ → (fun k_ => some k_ ≠ (n0 : Value).ownBlock ∧ some k_ ≠ (u0 : Value).ownBlock ∧ some k_ ≠ (u11 : Value).ownBlock) k_ from fun k_ hk => ⟨Kd.fresh' (uz (rN_ e0.o)) k_ hk, Kd.fresh' (uz (rN_ b0.o)) k_ hk, Kd.fresh' (uz (rN_ d0.o)) k_ hk⟩) _ (Aa _)) (Ba _ _) (Aa _) (by simp) ?_; (case hd => rfl); (case hg => rfl); (case hr => first | (go_simp; done) | (go_simp; rfl)); (case hp => exact (bA.none _ _)); intro L4 z5 S0 hb hg_ hnew_; clear hg_ hnew_; (first | rw [← z1.o] at S0 | (simp only [Int.reduceToNat] at S0; rw [← z1.o] at S0)); obtain ⟨e0, b0, d0, d2, HB⟩ := b_ (td (rN_ e0.o) (ui S0) hb) <| b_ (td (rN_ b0.o) (ui S0) hb) <| b_ (td (rN_ d0.o) (ui S0) hb) <| b_ (uc S0 (ac (hB_))) <| c_ (ab (hB_) hb); clear hb S0))
  go_loopg [15, 16] k3 (fun kq p2 M4 w' => ∃ (L0 : List (List Int)) (M0 : Int), M4 = .int .i64 M0 ∧ aa (al.l2 kq a1 a2 O0 x0 v0 K0 C0 L0 M0 = some (r1, r2)) ∧ aa (kq ≤ k3) ∧ aa (Kd.N (Kd.slice 3 (Kd.int .i64)) 28 w' w.heap.size (fun k_ => some k_ ≠ (u0 : Value).ownBlock ∧ some k_ ≠ (u11 : Value).ownBlock ∧ some k_ ≠ (p2 : Value).ownBlock) n0 O0) ∧ aa (Kd.N (Kd.slice 3 (Kd.int .i64)) 28 w' w.heap.size (fun k_ => some k_ ≠ (n0 : Value).ownBlock ∧ some k_ ≠ (u11 : Value).ownBlock ∧ some k_ ≠ (p2 : Value).ownBlock) u0 x0) ∧ aa (Kd.N (Kd.slice 3 (Kd.int .i64)) 28 w' w.heap.size (fun k_ => some k_ ≠ (n0 : Value).ownBlock ∧ some k_ ≠ (u0 : Value).ownBlock ∧ some k_ ≠ (p2 : Value).ownBlock) u11 v0) ∧ aa (Kd.N (Kd.slice 3 (Kd.int .i64)) 28 w' w.heap.size (fun k_ => some k_ ≠ (n0 : Value).ownBlock ∧ some k_ ≠ (u0 : Value).ownBlock ∧ some k_ ≠ (u11 : Value).ownBlock) p2 L0) ∧ aa (Below w.heap.size w w'))
  case atStart => exact ⟨(n3), (0), f0_, H', ⟨Aa _⟩, ⟨by refine kN_ ?_; exact tu e0.o (fun _ hk => ⟨hk.1.1, ⟨hk.1.2, hk.2⟩⟩)⟩, ⟨by refine kN_ ?_; exact tu b0.o (fun _ hk => ⟨hk.1.1, ⟨hk.1.2, hk.2⟩⟩)⟩, ⟨by refine kN_ ?_; exact tu d0.o (fun _ hk => ⟨hk.1.1, ⟨hk.1.2, hk.2⟩⟩)⟩, ⟨rN_ d2.o⟩, ⟨hB_⟩⟩
  clear H'
  obtain ⟨L0, M0, rfl, HA, q2, e0, b0, d0, r0, HB⟩ := hrel
  rcases gk with _ | k4
  ·exact absurd HA.o (by simp [al.l2])
  have H := HA.o
  clear HA
  simp only [al.l2] at H
  by_cases T1 : M0 < 2
  ·rw [Da T1] at H
   have e2 := wa T1
   clear T1
   obtain ⟨Q0, n1⟩ : ∃ j_ : Int, (wrap64 ((wrap64 (M0 * 2)) + C0)) = j_ := ⟨_, rfl⟩
   first | rw [n1] at H | simp only [n1] at H
   have p3 : (IntKind.i64.wrap ((wrap64 (M0 * 2)) + C0)) = Q0 := (bv _).trans n1
   obtain ⟨U3, H⟩ := iD_ H
   obtain ⟨V3, H⟩ := iD_ H
   obtain ⟨W3, H⟩ := iN_ H
   have f2 := c_ W3
   clear W3
   obtain ⟨q3, e1⟩ : ∃ y_ : List (List Int), y_ = (L0 ++ [dw x0 (Q0)]) := ⟨_, rfl⟩
   first | replace H := yb_ e1 H | rw [← e1] at H
   have g2 := c_ e1
   clear e1
   have H' := c_ H
   clear H
   obtain ⟨N4, X0, r3⟩ := tY b0.o
   subst r3
   have p1 : 0 ≤ ((Q0) : Int) := oD_
   have q1 : (Q0) < (x0.length : Int) := oD_
   obtain ⟨N0, I1, J1, t3, t1, f1, g1⟩ := lC (tB b0.o).2.2 (Q0) p1 q1
   cases t3
   obtain ⟨ce571, hce571, hMe571, hcc571⟩ := vt b0.o [] (Q0) p1 (by first | exact q1 | exact oD_ | (have e_ := (tB b0.o).1; omega))
   obtain ⟨ua571_0, uc571_0, rfl, ul571_0, ge571_0⟩ := ue hMe571
   have G0 := hcc571 0 _ rfl
   rw [Nat.add_zero, show ((Kd.slice 3 (Kd.int .i64))).sz = 1 from rfl, Nat.mul_one] at G0
   replace G0 := za (G0.symm.trans t1)
   injection G0 with hva_ hvn_ hvc_
   rw [hva_] at ge571_0
   rw [hvc_] at ul571_0
   have H0 := c_ (show Kd.V (Kd.int .i64) 3 _ w.heap.size _ _ (dw x0 (Q0)) from vu ul571_0 ge571_0)
   clear hva_ hvn_ hvc_ ge571_0 ul571_0
   clear hcc571 hce571
   have t2 := c_ g1
   have u2 := c_ f1
   clear g1 f1
   replace p1 := ya p1
   replace q1 := ya q1
   go_wp2_with (first | ((refine aU (b := .append) (xs := #[.tmp 61, .tmp 69]) rfl ?_); (try (refine bn (by rfl) ?_; dsimp only)); at_builtin; refine us (Kd.slice 3 (Kd.int .i64)) (w0 := w) w.heap.size rfl (.tmp 61) (.tmp 69) 46 28 (.slice none 0 0) 24 rfl Tryz.underlying46 gg rfl (by decide) (by omega) u15 L0 (dw x0 (Q0)) [.slice I1 (dw x0 (Q0)).length J1] (fun k_ => some k_ ≠ (n0 : Value).ownBlock ∧ some k_ ≠ (.slice (some N0) x0.length X0 : Value).ownBlock ∧ some k_ ≠ (u11 : Value).ownBlock) (fun k_ => ((fun k_ => some k_ ≠ (n0 : Value).ownBlock ∧ some k_ ≠ (.slice (some N0) x0.length X0 : Value).ownBlock ∧ some k_ ≠ (u11 : Value).ownBlock)) k_ ∧ some k_ ≠ (u15 : Value).ownBlock) rfl rfl ?aP (fun _ hk => hk) ?aF ?aO ?aB ?aS ?aL ?_; (case aP => exact (tZ (tR (tV (ok' := (fun k_ => ((fun k_ => some k_ ≠ (n0 : Value).ownBlock ∧ some k_ ≠ (.slice (some N0) x0.length X0 : Value).ownBlock ∧ some k_ ≠ (u11 : Value).ownBlock)) k_ ∧ some k_ ≠ (u15 : Value).ownBlock)) (H0.o) (fun k_ hk => ⟨⟨hk.1.1, ⟨hk.2, hk.1.2.1⟩⟩, hk.1.2.2⟩))).2.1 (Kd.V_F (tV (ok' := (fun k_ => ((fun k_ => some k_ ≠ (n0 : Value).ownBlock ∧ some k_ ≠ (.slice (some N0) x0.length X0 : Value).ownBlock ∧ some k_ ≠ (u11 : Value).ownBlock)) k_ ∧ some k_ ≠ (u15 : Value).ownBlock)) (H0.o) (fun k_ hk => ⟨⟨hk.1.1, ⟨hk.2, hk.1.2.1⟩⟩, hk.1.2.2⟩))))); (case aB => exact (hB_)); (case aF => exact (fun k_ hk => ⟨Kd.fresh' (uz (rN_ e0.o)) k_ hk, Kd.fresh' (uz (rN_ b0.o)) k_ hk, Kd.fresh' (uz (rN_ d0.o)) k_ hk⟩)); (case aO => exact (rN_ r0.o)); (case aS => exact (ac (hB_))); (case aL => have := f2.o; omega); intro O4 B5 ho hb hg hat; rw [← g2.o] at ho; obtain ⟨e0, b0, d0, H0, HB, i2⟩ := b_ (tS (ok := (fun k_ => some k_ ≠ (.slice (some N0) x0.length X0 : Value).ownBlock ∧ some k_ ≠ (u11 : Value).ownBlock)) (by refine kN_ ?_; exact tu e0.o (fun _ hk => ⟨⟨hk.1, hk.2.1⟩, hk.2.2⟩)) hg hat) <| b_ (tS (ok := (fun k_ => some k_ ≠ (n0 : Value).ownBlock ∧ some k_ ≠ (u11 : Value).ownBlock)) (by refine kN_ ?_; exact tu b0.o (fun _ hk => ⟨⟨hk.1, hk.2.1⟩, hk.2.2⟩)) hg hat) <| b_ (tS (ok := (fun k_ => some k_ ≠ (n0 : Value).ownBlock ∧ some k_ ≠ (.slice (some N0) x0.length X0 : Value).ownBlock)) (by refine kN_ ?_; exact tu d0.o (fun _ hk => ⟨⟨hk.1, hk.2.1⟩, hk.2.2⟩)) hg hat) <| b_ (uP (ok := (fun k_ => some k_ ≠ (n0 : Value).ownBlock ∧ some k_ ≠ (.slice (some N0) x0.length X0 : Value).ownBlock ∧ some k_ ≠ (u11 : Value).ownBlock)) (by refine kV_ ?_; exact tV H0.o (fun _ hk => ⟨⟨hk.1.1, ⟨hk.2, hk.1.2.1⟩⟩, hk.1.2.2⟩)) hg hat) <| b_ (hb) <| c_ (ho); clear ho hb hg hat))
   go_roundg k4
   case measure => have := P1.o; have := Q1.o; have := n2.o; have := q2.o; omega
   case rel => exact ⟨(q3), (wrap64 (M0 + 1)), f0_, H', ⟨by have := P1.o; have := Q1.o; have := n2.o; have := q2.o; omega⟩, ⟨by refine kN_ ?_; exact tu e0.o (fun _ hk => ⟨hk.1.1, ⟨hk.1.2, hk.2⟩⟩)⟩, ⟨by refine kN_ ?_; exact tu b0.o (fun _ hk => ⟨hk.1.1, ⟨hk.1.2, hk.2⟩⟩)⟩, ⟨by refine kN_ ?_; exact tu d0.o (fun _ hk => ⟨hk.1.1, ⟨hk.1.2, hk.2⟩⟩)⟩, ⟨rN_ i2.o⟩, ⟨hB_⟩⟩
  rw [Ea T1] at H
  have e2 := xa T1
  clear T1
  obtain ⟨K1, P4, H⟩ := bN_ H
  obtain ⟨L1, Q4, H⟩ := bN_ H
  obtain ⟨M1, R4, H⟩ := bN_ H
  obtain ⟨N1, S4, H⟩ := bN_ H
  obtain ⟨O1, T4, H⟩ := bN_ H
  obtain ⟨u3, H⟩ := iN_ H
  have X3 := ya u3
  have Y3 := wa u3
  try have Z3 : (9223372036854775807 < K0.size + O1.size) = False := eq_false (Nat.not_lt.2 u3)
  have H' := c_ H
  clear H
  obtain ⟨v3, w3, y3⟩ := tY r0.o
  subst y3
  obtain ⟨z3, A3, B3⟩ := tY d0.o
  subst B3
  go_wp2_with (first | (refine gq_ 31 (some 73) Tryz.func31 #[.slice v3 L0.length w3, .slice z3 v0.length A3] (bf.calls k4 _ _ L0 _ _ v0 K1 _ ?side1 ?side2 ?side3 ?side4 P4.o) ?_; (case side1 => exact cR_ (tB r0.o).2.2); (case side2 => exact (tB r0.o).2.1); (case side3 => exact cR_ (tB d0.o).2.2); (case side4 => exact (tB d0.o).2.1); rintro e C5 ⟨U4, rfl, f0, hb⟩; refine ⟨_, rfl, ?_⟩; obtain ⟨e0, b0, d0, r0, t0, HB⟩ := b_ (td (rN_ e0.o) (sY f0) hb) <| b_ (td (rN_ b0.o) (sY f0) hb) <| b_ (td (rN_ d0.o) (sY f0) hb) <| b_ (td (rN_ r0.o) (sY f0) hb) <| b_ (sZ f0 (ac (hB_))) <| c_ (ab (hB_) hb); obtain ⟨C3, D3, E3⟩ := s7 t0.o; subst E3) | (refine gq_ 30 (some 74) Tryz.func30 #[.slice C3 K1.length D3] (am.calls k4 _ _ K1 L1 _ ?side1 ?side2 Q4.o) ?_; (case side1 => exact cR_ (sX t0.o).2.2); (case side2 => exact (sX t0.o).2.1); rintro e D5 ⟨V4, rfl, f0, hb⟩; refine ⟨_, rfl, ?_⟩; obtain ⟨e0, b0, d0, r0, t0, B0, HB⟩ := b_ (td (rN_ e0.o) (sY f0) hb) <| b_ (td (rN_ b0.o) (sY f0) hb) <| b_ (td (rN_ d0.o) (sY f0) hb) <| b_ (td (rN_ r0.o) (sY f0) hb) <| b_ (s5 (rR_ t0.o) (sY f0) hb) <| b_ (sZ (ta f0 (ti (rR_ t0.o))) (ac (hB_))) <| c_ (ab (hB_) hb); (try clear f0)) | (refine gq_ 36 (some 78) Tryz.func36 #[.string a2, .int .i64 (wrap64 (2 + C0))] (bE.calls k4 a2 (wrap64 (2 + C0)) M1 _ R4.o) ?_; rintro e E5 ⟨W4, rfl, f0, hb⟩; refine ⟨_, rfl, ?_⟩; obtain ⟨e0, b0, d0, r0, t0, B0, F0, HB⟩ := b_ (td (rN_ e0.o) (sY f0) hb) <| b_ (td (rN_ b0.o) (sY f0) hb) <| b_ (td (rN_ d0.o) (sY f0) hb) <| b_ (td (rN_ r0.o) (sY f0) hb) <| b_ (s5 (rR_ t0.o) (sY f0) hb) <| b_ (s5 (rR_ B0.o) (sY f0) hb) <| b_ (sZ (ta (ta f0 (ti (rR_ t0.o))) (ti (rR_ B0.o))) (ac (hB_))) <| c_ (ab (hB_) hb); obtain ⟨F3, G3, H3⟩ := s7 B0.o; subst H3; obtain ⟨I3, J3, K3⟩ := s7 F0.o; subst K3) | (refine gq_ 37 (some 79) Tryz.func37 #[.slice F3 L1.length G3, .slice I3 M1.length J3] (aH.calls k4 _ _ L1 _ _ M1 N1 _ ?side1 ?side2 ?side3 ?side4 S4.o) ?_; (case side1 => exact cR_ (sX B0.o).2.2); (case side2 => exact (sX B0.o).2.1); (case side3 => exact cR_ (sX F0.o).2.2); (case side4 => exact (sX F0.o).2.1); rintro e F5 ⟨X4, rfl, f0, hb⟩; refine ⟨_, rfl, ?_⟩; obtain ⟨e0, b0, d0, r0, t0, B0, F0, T0, HB⟩ := b_ (td (rN_ e0.o) (sY f0) hb) <| b_ (td (rN_ b0.o) (sY f0) hb) <| b_ (td (rN_ d0.o) (sY f0) hb) <| b_ (td (rN_ r0.o) (sY f0) hb) <| b_ (s5 (rR_ t0.o) (sY f0) hb) <| b_ (s5 (rR_ B0.o) (sY f0) hb) <| b_ (s5 (rR_ F0.o) (sY f0) hb) <| b_ (sZ (ta (ta (ta f0 (ti (rR_ t0.o))) (ti (rR_ B0.o))) (ti (rR_ F0.o))) (ac (hB_))) <| c_ (ab (hB_) hb); obtain ⟨L3, M3, N3⟩ := s7 T0.o; subst N3) | (refine gq_ 13 (some 82) Tryz.func13 #[.slice L3 N1.length M3, .int .i64 10] (aK.calls k4 _ _ N1 10 O1 _ ?side1 ?side2 T4.o) ?_; (case side1 => exact cR_ (sX T0.o).2.2); (case side2 => exact (sX T0.o).2.1); rintro e G5 ⟨rfl, hb⟩; refine ⟨_, rfl, ?_⟩; obtain ⟨e0, b0, d0, r0, t0, B0, F0, T0, HB⟩ := b_ (tN (rN_ e0.o) hb) <| b_ (tN (rN_ b0.o) hb) <| b_ (tN (rN_ d0.o) hb) <| b_ (tN (rN_ r0.o) hb) <| b_ (tc (rR_ t0.o) hb) <| b_ (tc (rR_ B0.o) hb) <| b_ (tc (rR_ F0.o) hb) <| b_ (tc (rR_ T0.o) hb) <| c_ (ab (hB_) hb); (try clear hb)))
  go_roundg k4
  case measure => have := P1.o; have := Q1.o; have := n2.o; have := q2.o; omega
  case rel => exact ⟨(K0 ++ O1), (wrap64 (C0 + 1)), f0_, f0_, H', ⟨by have := P1.o; have := Q1.o; have := n2.o; have := q2.o; omega⟩, ⟨by refine kN_ ?_; exact tu e0.o (fun _ hk => ⟨hk.1.1.1.1.1, hk.1.1.1.1.2.1⟩)⟩, ⟨by refine kN_ ?_; exact tu b0.o (fun _ hk => ⟨hk.1.1.1.1.1, hk.1.1.1.1.2.1⟩)⟩, ⟨by refine kN_ ?_; exact tu d0.o (fun _ hk => ⟨hk.1.1.1.1.1, hk.1.1.1.1.2.1⟩)⟩, ⟨hB_⟩⟩
end Go.Proofs.YtooanbpkknlmjaaGreatDoor.P
