-- printed texts of this session, regrouped
import Derived.Test.YtooanbpkknlmjaaGreatDoorMWE
namespace Go.Proofs.YtooanbpkknlmjaaGreatDoor.P
open Go.RowKit YtooanbpkknlmjaaGreatDoorW.PrintWords YtooanbpkknlmjaaGreatDoorW.PrintLast YtooanbpkknlmjaaGreatDoorW.PrintMore
open Kd
attribute [local go_sem] dZ d4 eE ev dx dy dV dX
set_option linter.unusedVariables false
set_option linter.unusedSimpArgs false
set_option maxHeartbeats 8000000
set_option maxRecDepth 100000
def aY.f (a0 : Int) (a1 : Int) (a2 : Int) : Option (Bool) := if a0 ≥ a1 then (some (decide (a0 ≤ a2))) else (some false)
theorem aY.calls (a0 : Int) (a1 : Int) (a2 : Int) (r : Bool) (w : World) (h : aY.f a0 a1 a2 = some r) :
  Calls Tryz.prog 71 #[.int .i64 a0, .int .i64 a1, .int .i64 a2] w fun e w' => e = .returned (.bool r) ∧ cx w w' := by
 delta aY.f at h
 have H := h
 clear h
 by_cases c4 : a0 ≥ a1
 ·rw [Da c4] at H
  have b0 := wa c4
  clear c4
  obtain rfl := za H
  go_enter Tryz.func71, Tryz.ntmps71
  go_wp2
  go_ret
  exact ⟨f0_, d0_⟩
 rw [Ea c4] at H
 have b0 := xa c4
 clear c4
 obtain rfl := za H
 go_enter Tryz.func71, Tryz.ntmps71
 go_wp2
 go_ret
 exact ⟨f0_, d0_⟩
def ao.l0 : Nat → List Int → Int → Option (Bool)
 | 0, _, _ => none
 | k + 1, x0, x3 => if x3 < (x0.length : Int) then (if 0 ≤ x3 then ((aY.f (rd x0 x3) 0 3328).bind fun t102 => (if t102 = true then (ao.l0 k x0 (wrap64 (x3 + 1))) else (some false))) else (none)) else (some true)
def ao.f (k : Nat) (l0 : List Int) : Option (Bool) := if (l0.length : Int) = 256 then (ao.l0 k l0 0) else (some false)
theorem ao.mono_l : ∀ k, (∀ y0 y1, LeO (ao.l0 k y0 y1) (ao.l0 (k + 1) y0 y1))
 | 0 => fun _ _ r h => by simp [ao.l0] at h
 | k + 1 => by
  have ih0 := ao.mono_l k
  intros; unfold ao.l0; exact o1_ ih0
theorem ao.mono : ∀ a0 k, LeO (ao.f k a0) (ao.f (k + 1) a0) := by
 intro a0 k
 have ih0 := ao.mono_l k
 unfold ao.f
 exact o1_ ih0
theorem ao.calls (k : Nat) (A0 : Option Addr) (c0 : Nat) (l0 : List Int) (r : Bool) (w : World) (hr0 : Kd.C (Kd.int .i64) w A0 l0.length l0) (hc0 : l0.length ≤ c0) (h : ao.f k l0 = some r) :
  Calls Tryz.prog 65 #[.slice A0 l0.length c0] w fun e w' => e = .returned (.bool r) ∧ cx w w' := by
 have r0 := c_ hr0
 have v0 := c_ hc0
 clear hr0 hc0
 delta ao.f at h
 have H := h
 clear h
 by_cases c2 : (l0.length : Int) = 256
 rotate_left
 ·rw [Ea c2] at H
  have k0 : ((l0.length : Int) == 256) = false := beq_eq_false_iff_ne.mpr c2
  have n0 : ((l0.length : Int) != 256) = true := bne_iff_ne.mpr c2
  obtain rfl := za H
  go_enter Tryz.func65, Tryz.ntmps65
  go_wp2
  go_ret
  exact ⟨f0_, d0_⟩
 rw [Da c2] at H
 have k0 : ((l0.length : Int) == 256) = true := beq_iff_eq.mpr c2
 have n0 : ((l0.length : Int) != 256) = false := bne_eq_false_iff_eq.mpr c2
 clear c2
 have H' := c_ H
 clear H
 go_enter Tryz.func65, Tryz.ntmps65
 go_wp2
 go_loopg [3] k (fun kq v3 w' => ∃ (a0 : Int), v3 = .int .i64 a0 ∧ aa (ao.l0 kq l0 a0 = some r) ∧ aa (kq ≤ k) ∧ cx w w')
 case atStart => exact ⟨(0), f0_, H', ⟨Aa _⟩, d0_⟩
 clear H'
 obtain ⟨a0, rfl, HA, t0, ⟨m1, rfl⟩⟩ := hrel
 rcases gk with _ | k1
 ·exact absurd HA.o (by simp [ao.l0])
 have H := HA.o
 clear HA
 simp only [ao.l0] at H
 by_cases c3 : a0 < (l0.length : Int)
 rotate_left
 ·rw [Ea c3] at H
  have p0 := xa c3
  clear c3
  obtain rfl := za H
  go_wp2
  go_ret
  exact ⟨f0_, d0_⟩
 rw [Da c3] at H
 have p0 := wa c3
 clear c3
 obtain ⟨u0, H⟩ := iD_ H
 obtain ⟨q0, A5, H⟩ := bN_ H
 by_cases c6 : q0 = true
 ·subst c6
  replace H := iT_ H
  have H' := c_ H
  clear H
  have b0 : 0 ≤ (a0 : Int) := oD_
  have d0 : a0 < (l0.length : Int) := oD_
  obtain ⟨j0, f0, e0⟩ := tb r0.o a0 b0 d0
  cases f0
  replace b0 := ya b0
  replace d0 := ya d0
  go_wp2_with (first | (refine gq_ 71 (some 17) Tryz.func71 #[.int .i64 (rd l0 a0), .int .i64 0, .int .i64 3328] (aY.calls (rd l0 a0) 0 3328 true _ A5.o) ?_; rintro e w' ⟨rfl, ⟨nd, rfl⟩⟩; refine ⟨_, rfl, ?_⟩))
  go_roundg k1
  case measure => have := t0.o; omega
  case rel => exact ⟨(wrap64 (a0 + 1)), f0_, H', ⟨by have := t0.o; omega⟩, d0_⟩
 ·replace c6 := Ca c6
  subst c6
  replace H := iF_ H
  obtain rfl := za H
  have b0 : 0 ≤ (a0 : Int) := oD_
  have d0 : a0 < (l0.length : Int) := oD_
  obtain ⟨j0, f0, e0⟩ := tb r0.o a0 b0 d0
  cases f0
  replace b0 := ya b0
  replace d0 := ya d0
  go_wp2_with (first | (refine gq_ 71 (some 17) Tryz.func71 #[.int .i64 (rd l0 a0), .int .i64 0, .int .i64 3328] (aY.calls (rd l0 a0) 0 3328 false _ A5.o) ?_; rintro e w' ⟨rfl, ⟨nd, rfl⟩⟩; refine ⟨_, rfl, ?_⟩))
  go_ret
  exact ⟨f0_, d0_⟩
def au.l0 : Nat → Int → Int → Int → Option (Int)
 | 0, _, _, _ => none
 | k + 1, x0, x3, x4 => if x4 < x0 then (au.l0 k x0 (wrap64 (2 * x3)) (wrap64 (x4 + 1))) else (some x3)
def au.f (k : Nat) (a0 : Int) : Option (Int) := au.l0 k a0 1 0
theorem au.mono_l : ∀ k, (∀ y0 y1 y2, LeO (au.l0 k y0 y1 y2) (au.l0 (k + 1) y0 y1 y2))
 | 0 => fun _ _ _ r h => by simp [au.l0] at h
 | k + 1 => by
  have ih0 := au.mono_l k
  intros; unfold au.l0; exact o1_ ih0
theorem au.mono : ∀ a0 k, LeO (au.f k a0) (au.f (k + 1) a0) := by
 intro a0 k
 have ih0 := au.mono_l k
 unfold au.f
 exact o1_ ih0
theorem au.calls (k : Nat) (a0 : Int) (r : Int) (w : World) (h : au.f k a0 = some r) :
  Calls Tryz.prog 72 #[.int .i64 a0] w fun e w' => e = .returned (.int .i64 r) ∧ cx w w' := by
 delta au.f at h
 have H := h
 clear h
 have H' := c_ H
 clear H
 go_enter Tryz.func72, Tryz.ntmps72
 go_wp2
 go_loopg [3, 4] k (fun kq v3 v4 w' => ∃ (d0 : Int) (b0 : Int), v3 = .int .i64 d0 ∧ v4 = .int .i64 b0 ∧ aa (au.l0 kq a0 d0 b0 = some r) ∧ aa (kq ≤ k) ∧ cx w w')
 case atStart => exact ⟨(1), (0), f0_, f0_, H', ⟨Aa _⟩, d0_⟩
 clear H'
 obtain ⟨d0, b0, rfl, rfl, HA, f0, ⟨m1, rfl⟩⟩ := hrel
 rcases gk with _ | k1
 ·exact absurd HA.o (by simp [au.l0])
 have H := HA.o
 clear HA
 simp only [au.l0] at H
 by_cases c2 : b0 < a0
 ·rw [Da c2] at H
  have e0 := wa c2
  clear c2
  have H' := c_ H
  clear H
  go_wp2
  go_roundg k1
  case measure => have := f0.o; omega
  case rel => exact ⟨(wrap64 (2 * d0)), (wrap64 (b0 + 1)), f0_, f0_, H', ⟨by have := f0.o; omega⟩, d0_⟩
 rw [Ea c2] at H
 have e0 := xa c2
 clear c2
 obtain rfl := za H
 go_wp2
 go_ret
 exact ⟨f0_, d0_⟩
mutual
def aw.j0 : Nat → ByteArray → Int → Int → List Int → Bool → Option (List Int × Bool)
 | 0, _, _, _, _, _ => none
 | k + 1, x0, x1, x2, x8, x31 => if x31 = true then (some (x8, false)) else (aw.l0 k x0 x1 x2 x8 0 0 0 0)
def aw.l0 : Nat → ByteArray → Int → Int → List Int → Int → Int → Int → Int → Option (List Int × Bool)
 | 0, _, _, _, _, _, _, _, _ => none
 | k + 1, x0, x1, x2, x8, x9, x10, x11, x12 => if x12 < x2 then (aw.l1 k x0 x1 x2 x8 x9 x10 x11 x12) else (if x9 = 0 then (some (x8, true)) else (some ((([] : List Int)), false)))
def aw.l1 : Nat → ByteArray → Int → Int → List Int → Int → Int → Int → Int → Option (List Int × Bool)
 | 0, _, _, _, _, _, _, _, _ => none
 | k + 1, x0, x1, x2, x8, x9, x10, x11, x12 => if x10 < x1 then (if 0 ≤ x11 then (if x11 < (x0.size : Int) then ((au.f k x10).bind fun t111 => (aw.l1 k x0 x1 x2 x8 (wrap64 (x9 + (wrap64 ((wrap64 (bt x0 x11)) * t111)))) (wrap64 (x10 + 8)) (wrap64 (x11 + 1)) x12)) else (none)) else (none)) else ((au.f k x1).bind fun t112 => (if t112 = 0 then (none) else (if x8.length < 17592186044416 then ((au.f k x1).bind fun t116 => (if t116 = 0 then (none) else (aw.l0 k x0 x1 x2 (x8 ++ [Int.tmod x9 t112]) (wrap64 (Int.tdiv x9 t116)) (wrap64 (x10 - x1)) x11 (wrap64 (x12 + 1))))) else (none))))
end
def aw.f (k : Nat) (a0 : ByteArray) (a1 : Int) (a2 : Int) : Option (List Int × Bool) := (some (([] : List Int) : List Int)).bind fun y103 => ((aY.f a1 1 12).bind fun t106 => (if t106 = true then ((aY.f a2 0 1000).bind fun t107 => (if t107 = true then (aw.j0 k a0 a1 a2 y103 ((a0.size : Int) != (wrap64 (Int.tdiv (wrap64 ((wrap64 (a2 * a1)) + 7)) 8)))) else (aw.j0 k a0 a1 a2 y103 true))) else (aw.j0 k a0 a1 a2 y103 true)))
theorem aw.mono_l : ∀ k, (∀ y0 y1 y2 y3 y4, LeO (aw.j0 k y0 y1 y2 y3 y4) (aw.j0 (k + 1) y0 y1 y2 y3 y4)) ∧ (∀ y0 y1 y2 y3 y4 y5 y6 y7, LeO (aw.l0 k y0 y1 y2 y3 y4 y5 y6 y7) (aw.l0 (k + 1) y0 y1 y2 y3 y4 y5 y6 y7)) ∧ (∀ y0 y1 y2 y3 y4 y5 y6 y7, LeO (aw.l1 k y0 y1 y2 y3 y4 y5 y6 y7) (aw.l1 (k + 1) y0 y1 y2 y3 y4 y5 y6 y7))
 | 0 => ⟨fun _ _ _ _ _ r h => by simp [aw.j0] at h, fun _ _ _ _ _ _ _ _ r h => by simp [aw.l0] at h, fun _ _ _ _ _ _ _ _ r h => by simp [aw.l1] at h⟩
 | k + 1 => by
  obtain ⟨ih0, ih1, ih2⟩ := aw.mono_l k
  refine ⟨?_, ?_, ?_⟩ <;> (intros; (first | unfold aw.j0 | unfold aw.l0 | unfold aw.l1); exact o4_ ih0 ih1 ih2 au.mono)
theorem aw.mono : ∀ a0 a1 a2 k, LeO (aw.f k a0 a1 a2) (aw.f (k + 1) a0 a1 a2) := by
 intro a0 a1 a2 k
 obtain ⟨ih0, ih1, ih2⟩ := aw.mono_l k
 unfold aw.f
 exact o4_ ih0 ih1 ih2 au.mono
theorem aw.calls (k : Nat) (a0 : ByteArray) (a1 : Int) (a2 : Int) (r1 : List Int) (r2 : Bool) (w : World) (h : aw.f k a0 a1 a2 = some (r1, r2)) :
  Calls Tryz.prog 68 #[.string a0, .int .i64 a1, .int .i64 a2] w fun e w' => ∃ t1 : Value, e = .returned (.tuple #[t1, .bool r2]) ∧ Kd.R (Kd.int .i64) 3 w' w.heap.size (fun _ => True) t1 r1 ∧ Below w.heap.size w w' := by
 have HB := c_ (Ba w.heap.size w)
 delta aw.f at h
 have H := h
 clear h
 obtain ⟨L0, x0⟩ : ∃ y_ : List Int, y_ = (([] : List Int)) := ⟨_, rfl⟩
 first | replace H := yb_ x0 H | rw [← x0] at H
 have p0 := c_ x0
 clear x0
 have d1 := c_ H
 clear H
 go_enter Tryz.func68, Tryz.ntmps68
 go_upto_region 2 with (first | ((refine aI (N := 13) rfl ?_); (try (refine bn (by rfl) ?_; dsimp only)); refine tn (Kd.int .i64) _ 3 ?hg (N := 13) ?hd (xs := ([] : List Int)) (inner := []) (ok := fun _ => True) (okp := fun _ => True) ?hr ?hp (fun _ hk => hk) trivial (Ba _ _) (Aa _) (by simp) ?_; (case hd => rfl); (case hg => rfl); (case hr => first | (go_simp; done) | (go_simp; rfl)); (case hp => exact (bA.none _ _)); intro M0 w5 t0 hb hg_ hnew_; clear hg_ hnew_; (first | rw [← p0.o] at t0 | (simp only [Int.reduceToNat] at t0; rw [← p0.o] at t0)); obtain ⟨u0, HB⟩ := b_ (sZ t0 (ac (hB_))) <| c_ (ab (hB_) hb); clear hb t0))
 repeat (go_quiet (first | ((refine aI (N := 13) rfl ?_); (try (refine bn (by rfl) ?_; dsimp only)); refine tn (Kd.int .i64) _ 3 ?hg (N := 13) ?hd (xs := ([] : List Int)) (inner := []) (ok := fun _ => True) (okp := fun _ => True) ?hr ?hp (fun _ hk => hk) trivial (Ba _ _) (Aa _) (by simp) ?_; (case hd => rfl); (case hg => rfl); (case hr => first | (go_simp; done) | (go_simp; rfl)); (case hp => exact (bA.none _ _)); intro M0 w5 t0 hb hg_ hnew_; clear hg_ hnew_; (first | rw [← p0.o] at t0 | (simp only [Int.reduceToNat] at t0; rw [← p0.o] at t0)); obtain ⟨u0, HB⟩ := b_ (sZ t0 (ac (hB_))) <| c_ (ab (hB_) hb); clear hb t0)); go_upto_region 2 with (first | ((refine aI (N := 13) rfl ?_); (try (refine bn (by rfl) ?_; dsimp only)); refine tn (Kd.int .i64) _ 3 ?hg (N := 13) ?hd (xs := ([] : List Int)) (inner := []) (ok := fun _ => True) (okp := fun _ => True) ?hr ?hp (fun _ hk => hk) trivial (Ba _ _) (Aa _) (by simp) ?_; (case hd => rfl); (case hg => rfl); (case hr => first | (go_simp; done) | (go_simp; rfl)); (case hp => exact (bA.none _ _)); intro M0 w5 t0 hb hg_ hnew_; clear hg_ hnew_; (first | rw [← p0.o] at t0 | (simp only [Int.reduceToNat] at t0; rw [← p0.o] at t0)); obtain ⟨u0, HB⟩ := b_ (sZ t0 (ac (hB_))) <| c_ (ab (hB_) hb); clear hb t0)))
 (try simp only [Act.put, List.setIfInBounds_toArray, List.set_cons_zero, List.set_cons_succ])
 go_cut [31] (fun H1 wc => ∃ (kq : Nat) (y0 : Bool), H1 = .bool y0 ∧ aa (aw.j0 kq a0 a1 a2 L0 y0 = some (r1, r2)) ∧ aa (kq ≤ k) ∧ aa (Kd.R (Kd.int .i64) 3 wc w.heap.size (fun _ => True) M0 L0) ∧ aa (Below w.heap.size w wc))
 case first =>
  have H := d1.o
  clear d1
  obtain ⟨e1, A7, H⟩ := bN_ H
  by_cases c8 : e1 = true
  ·subst c8
   replace H := iT_ H
   obtain ⟨f1, A9, H⟩ := bN_ H
   by_cases V0 : f1 = true
   ·subst V0
    replace H := iT_ H
    have H' := c_ H
    clear H
    go_wp2_with (first | (go_at_call 71; (with_reducible refine (aY.calls a1 1 12 true _ A7.o).mono ?_); rintro e w' ⟨rfl, ⟨nd, rfl⟩⟩; (try first | exact ⟨rfl, _, World.drewN_drewN _ _ _⟩ | exact ⟨rfl, _, Eq.trans (World.drewN_drewN _ _ _) (congrArg (World.drewN _) (Nat.add_assoc _ _ _))⟩)) | (go_at_call 71; (with_reducible refine (aY.calls a2 0 1000 true _ A9.o).mono ?_); rintro e w' ⟨rfl, ⟨nd, rfl⟩⟩; (try first | exact ⟨rfl, _, World.drewN_drewN _ _ _⟩ | exact ⟨rfl, _, Eq.trans (World.drewN_drewN _ _ _) (congrArg (World.drewN _) (Nat.add_assoc _ _ _))⟩)))
    repeat (go_quiet (first | (go_at_call 71; (with_reducible refine (aY.calls a1 1 12 true _ A7.o).mono ?_); rintro e w' ⟨rfl, ⟨nd, rfl⟩⟩; (try first | exact ⟨rfl, _, World.drewN_drewN _ _ _⟩ | exact ⟨rfl, _, Eq.trans (World.drewN_drewN _ _ _) (congrArg (World.drewN _) (Nat.add_assoc _ _ _))⟩)) | (go_at_call 71; (with_reducible refine (aY.calls a2 0 1000 true _ A9.o).mono ?_); rintro e w' ⟨rfl, ⟨nd, rfl⟩⟩; (try first | exact ⟨rfl, _, World.drewN_drewN _ _ _⟩ | exact ⟨rfl, _, Eq.trans (World.drewN_drewN _ _ _) (congrArg (World.drewN _) (Nat.add_assoc _ _ _))⟩))); try go_wp2)
    go_meet
    case rel => exact ⟨_, (((a0.size : Int) != (wrap64 (Int.tdiv (wrap64 ((wrap64 (a2 * a1)) + 7)) 8)))), f0_, H', ⟨by first | omega | exact Aa _⟩, ⟨rR_ u0.o⟩, ⟨hB_⟩⟩
   ·replace V0 := Ca V0
    subst V0
    replace H := iF_ H
    have H' := c_ H
    clear H
    go_wp2_with (first | (go_at_call 71; (with_reducible refine (aY.calls a1 1 12 true _ A7.o).mono ?_); rintro e w' ⟨rfl, ⟨nd, rfl⟩⟩; (try first | exact ⟨rfl, _, World.drewN_drewN _ _ _⟩ | exact ⟨rfl, _, Eq.trans (World.drewN_drewN _ _ _) (congrArg (World.drewN _) (Nat.add_assoc _ _ _))⟩)) | (go_at_call 71; (with_reducible refine (aY.calls a2 0 1000 false _ A9.o).mono ?_); rintro e w' ⟨rfl, ⟨nd, rfl⟩⟩; (try first | exact ⟨rfl, _, World.drewN_drewN _ _ _⟩ | exact ⟨rfl, _, Eq.trans (World.drewN_drewN _ _ _) (congrArg (World.drewN _) (Nat.add_assoc _ _ _))⟩)))
    repeat (go_quiet (first | (go_at_call 71; (with_reducible refine (aY.calls a1 1 12 true _ A7.o).mono ?_); rintro e w' ⟨rfl, ⟨nd, rfl⟩⟩; (try first | exact ⟨rfl, _, World.drewN_drewN _ _ _⟩ | exact ⟨rfl, _, Eq.trans (World.drewN_drewN _ _ _) (congrArg (World.drewN _) (Nat.add_assoc _ _ _))⟩)) | (go_at_call 71; (with_reducible refine (aY.calls a2 0 1000 false _ A9.o).mono ?_); rintro e w' ⟨rfl, ⟨nd, rfl⟩⟩; (try first | exact ⟨rfl, _, World.drewN_drewN _ _ _⟩ | exact ⟨rfl, _, Eq.trans (World.drewN_drewN _ _ _) (congrArg (World.drewN _) (Nat.add_assoc _ _ _))⟩))); try go_wp2)
    go_meet
    case rel => exact ⟨_, (true), f0_, H', ⟨by first | omega | exact Aa _⟩, ⟨rR_ u0.o⟩, ⟨hB_⟩⟩
  ·replace c8 := Ca c8
   subst c8
   replace H := iF_ H
   have H' := c_ H
   clear H
   go_wp2_with (first | (go_at_call 71; (with_reducible refine (aY.calls a1 1 12 false _ A7.o).mono ?_); rintro e w' ⟨rfl, ⟨nd, rfl⟩⟩; (try first | exact ⟨rfl, _, World.drewN_drewN _ _ _⟩ | exact ⟨rfl, _, Eq.trans (World.drewN_drewN _ _ _) (congrArg (World.drewN _) (Nat.add_assoc _ _ _))⟩)))
   repeat (go_quiet (first | (go_at_call 71; (with_reducible refine (aY.calls a1 1 12 false _ A7.o).mono ?_); rintro e w' ⟨rfl, ⟨nd, rfl⟩⟩; (try first | exact ⟨rfl, _, World.drewN_drewN _ _ _⟩ | exact ⟨rfl, _, Eq.trans (World.drewN_drewN _ _ _) (congrArg (World.drewN _) (Nat.add_assoc _ _ _))⟩))); try go_wp2)
   go_meet
   case rel => exact ⟨_, (true), f0_, H', ⟨by first | omega | exact Aa _⟩, ⟨rR_ u0.o⟩, ⟨hB_⟩⟩
 clear d1
 obtain ⟨kq, y0, rfl, HA, W0, b0, HB⟩ := hcut
 rcases kq with _ | y1
 ·exact absurd HA.o (by simp [aw.j0])
 have H := HA.o
 clear HA
 simp only [aw.j0] at H
 by_cases X0 : y0 = true
 ·subst X0
  replace H := iT_ H
  simp only [Option.some.injEq, Prod.mk.injEq] at H
  obtain ⟨rfl, rfl⟩ := H
  go_wp2
  repeat (go_quiet (fail); try go_wp2)
  go_ret2
  exact ⟨_, f1_, rR_ b0.o, hB_⟩
 ·replace X0 := Ca X0
  subst X0
  replace H := iF_ H
  have H' := c_ H
  clear H
  go_wp2
  repeat (go_quiet (fail); try go_wp2)
  go_loopg [8, 9, 10, 11, 12] y1 (fun kq v8 v9 g1 i1 I1 w' => ∃ (v0 : List Int) (r0 : Int) (B0 : Int) (C0 : Int) (q0 : Int), v9 = .int .i64 r0 ∧ g1 = .int .i64 B0 ∧ i1 = .int .i64 C0 ∧ I1 = .int .i64 q0 ∧ aa (aw.l0 kq a0 a1 a2 v0 r0 B0 C0 q0 = some (r1, r2)) ∧ aa (kq ≤ y1) ∧ aa (Kd.R (Kd.int .i64) 3 w' w.heap.size (fun _ => True) v8 v0) ∧ aa (Below w.heap.size w w'))
  case atStart => exact ⟨(L0), (0), (0), (0), (0), f0_, f0_, f0_, f0_, H', ⟨Aa _⟩, ⟨rR_ b0.o⟩, ⟨hB_⟩⟩
  clear H'
  obtain ⟨v0, r0, B0, C0, q0, rfl, rfl, rfl, rfl, HA, Y0, b0, HB⟩ := hrel
  rcases gk with _ | k2
  ·exact absurd HA.o (by simp [aw.l0])
  have H := HA.o
  clear HA
  simp only [aw.l0] at H
  by_cases P0 : q0 < a2
  rotate_left
  ·rw [Ea P0] at H
   have R0 := xa P0
   clear P0
   by_cases N0 : r0 = 0
   ·rw [Da N0] at H
    have S0 : (r0 == 0) = true := beq_iff_eq.mpr N0
    have T0 : (r0 != 0) = false := bne_eq_false_iff_eq.mpr N0
    clear N0
    simp only [Option.some.injEq, Prod.mk.injEq] at H
    obtain ⟨rfl, rfl⟩ := H
    go_wp2
    repeat (go_quiet (fail); try go_wp2)
    go_ret2
    exact ⟨_, f1_, rR_ b0.o, hB_⟩
   rw [Ea N0] at H
   have S0 : (r0 == 0) = false := beq_eq_false_iff_ne.mpr N0
   have T0 : (r0 != 0) = true := bne_iff_ne.mpr N0
   obtain ⟨J1, D0⟩ : ∃ y_ : List Int, y_ = (([] : List Int)) := ⟨_, rfl⟩
   first | replace H := yb_ D0 H | rw [← D0] at H
   have E0 := c_ D0
   clear D0
   simp only [Option.some.injEq, Prod.mk.injEq] at H
   obtain ⟨rfl, rfl⟩ := H
   go_wp2_with (first | ((refine aI (N := 70) rfl ?_); (try (refine bn (by rfl) ?_; dsimp only)); refine tn (Kd.int .i64) _ 3 ?hg (N := 70) ?hd (xs := ([] : List Int)) (inner := []) (ok := fun _ => True) (okp := fun _ => True) ?hr ?hp (fun _ hk => hk) trivial (Ba _ _) (Aa _) (by simp) ?_; (case hd => rfl); (case hg => rfl); (case hr => first | (go_simp; done) | (go_simp; rfl)); (case hp => exact (bA.none _ _)); intro j1 K1 e0 hb hg_ hnew_; clear hg_ hnew_; (first | rw [← E0.o] at e0 | (simp only [Int.reduceToNat] at e0; rw [← E0.o] at e0)); obtain ⟨b0, H0, HB⟩ := b_ (s5 (rR_ b0.o) (sY e0) hb) <| b_ (sZ (ta e0 (ti (rR_ b0.o))) (ac (hB_))) <| c_ (ab (hB_) hb); clear hb e0))
   repeat (go_quiet (first | ((refine aI (N := 70) rfl ?_); (try (refine bn (by rfl) ?_; dsimp only)); refine tn (Kd.int .i64) _ 3 ?hg (N := 70) ?hd (xs := ([] : List Int)) (inner := []) (ok := fun _ => True) (okp := fun _ => True) ?hr ?hp (fun _ hk => hk) trivial (Ba _ _) (Aa _) (by simp) ?_; (case hd => rfl); (case hg => rfl); (case hr => first | (go_simp; done) | (go_simp; rfl)); (case hp => exact (bA.none _ _)); intro j1 K1 e0 hb hg_ hnew_; clear hg_ hnew_; (first | rw [← E0.o] at e0 | (simp only [Int.reduceToNat] at e0; rw [← E0.o] at e0)); obtain ⟨b0, H0, HB⟩ := b_ (s5 (rR_ b0.o) (sY e0) hb) <| b_ (sZ (ta e0 (ti (rR_ b0.o))) (ac (hB_))) <| c_ (ab (hB_) hb); clear hb e0)); try go_wp2)
   go_ret2
   exact ⟨_, f1_, by refine kR_ ?_; exact s9 H0.o (fun _ hk => trivial), hB_⟩
  rw [Da P0] at H
  have R0 := wa P0
  clear P0
  have H' := c_ H
  clear H
  go_wp2
  repeat (go_quiet (fail); try go_wp2)
  go_loopg [9, 10, 11] k2 (fun kq v9 g1 i1 w' => ∃ (k0 : Int) (f0 : Int) (d0 : Int), v9 = .int .i64 k0 ∧ g1 = .int .i64 f0 ∧ i1 = .int .i64 d0 ∧ aa (aw.l1 kq a0 a1 a2 v0 k0 f0 d0 q0 = some (r1, r2)) ∧ aa (kq ≤ k2) ∧ aa (Kd.R (Kd.int .i64) 3 w' w.heap.size (fun _ => True) u8 v0) ∧ aa (Below w.heap.size w w'))
  case atStart => exact ⟨(r0), (B0), (C0), f0_, f0_, f0_, H', ⟨Aa _⟩, ⟨rR_ b0.o⟩, ⟨hB_⟩⟩
  clear H'
  obtain ⟨k0, f0, d0, rfl, rfl, rfl, HA, Z0, b0, HB⟩ := hrel
  rcases gk with _ | k3
  ·exact absurd HA.o (by simp [aw.l1])
  have H := HA.o
  clear HA
  simp only [aw.l1] at H
  by_cases Q0 : f0 < a1
  ·rw [Da Q0] at H
   have U0 := wa Q0
   clear Q0
   obtain ⟨z1, H⟩ := iD_ H
   obtain ⟨A1, H⟩ := iD_ H
   obtain ⟨O0, B1, H⟩ := bN_ H
   have H' := c_ H
   clear H
   have N1 := ya (oD_ : 0 ≤ (d0 : Int))
   have O1 := ya (oD_ : d0 < (a0.size : Int))
   have L1 := cP a0 d0
   go_wp2_with (first | (go_at_call 72; (with_reducible refine (au.calls k3 f0 O0 _ B1.o).mono ?_); rintro e w' ⟨rfl, ⟨nd, rfl⟩⟩; (try first | exact ⟨rfl, _, World.drewN_drewN _ _ _⟩ | exact ⟨rfl, _, Eq.trans (World.drewN_drewN _ _ _) (congrArg (World.drewN _) (Nat.add_assoc _ _ _))⟩)))
   repeat (go_quiet (first | (go_at_call 72; (with_reducible refine (au.calls k3 f0 O0 _ B1.o).mono ?_); rintro e w' ⟨rfl, ⟨nd, rfl⟩⟩; (try first | exact ⟨rfl, _, World.drewN_drewN _ _ _⟩ | exact ⟨rfl, _, Eq.trans (World.drewN_drewN _ _ _) (congrArg (World.drewN _) (Nat.add_assoc _ _ _))⟩))); try go_wp2)
   go_roundg k3
   case measure => have := W0.o; have := Y0.o; have := Z0.o; omega
   case rel => exact ⟨(wrap64 (k0 + (wrap64 ((wrap64 (bt a0 d0)) * O0)))), (wrap64 (f0 + 8)), (wrap64 (d0 + 1)), f0_, f0_, f0_, H', ⟨by have := W0.o; have := Y0.o; have := Z0.o; omega⟩, ⟨rR_ b0.o⟩, ⟨hB_⟩⟩
  rw [Ea Q0] at H
  have U0 := xa Q0
  clear Q0
  obtain ⟨n0, m1, H⟩ := bN_ H
  by_cases b1 : n0 = 0
  ·rw [Da b1] at H
   exact absurd H (by simp)
  rw [Ea b1] at H
  have C1 : (n0 == 0) = false := beq_eq_false_iff_ne.mpr b1
  have D1 : (n0 != 0) = true := bne_iff_ne.mpr b1
  obtain ⟨E1, H⟩ := iN_ H
  have I0 := c_ E1
  clear E1
  obtain ⟨n1, F0⟩ : ∃ y_ : List Int, y_ = (v0 ++ [Int.tmod k0 n0]) := ⟨_, rfl⟩
  first | replace H := yb_ F0 H | rw [← F0] at H
  have J0 := c_ F0
  clear F0
  obtain ⟨G0, p1, H⟩ := bN_ H
  have QA21 := c_ (za (m1.o.symm.trans p1.o))
  by_cases c1 : G0 = 0
  ·rw [Da c1] at H
   exact absurd H (by simp)
  rw [Ea c1] at H
  have F1 : (G0 == 0) = false := beq_eq_false_iff_ne.mpr c1
  have G1 : (G0 != 0) = true := bne_iff_ne.mpr c1
  have H' := c_ H
  clear H
  go_wp2_with (first | (go_at_call 72; (with_reducible refine (au.calls k3 a1 n0 _ m1.o).mono ?_); rintro e w' ⟨rfl, ⟨nd, rfl⟩⟩; (try first | exact ⟨rfl, _, World.drewN_drewN _ _ _⟩ | exact ⟨rfl, _, Eq.trans (World.drewN_drewN _ _ _) (congrArg (World.drewN _) (Nat.add_assoc _ _ _))⟩)) | ((refine aU (b := .append) (xs := #[.tmp 54, .tmp 59]) rfl ?_); (try (refine bn (by rfl) ?_; dsimp only)); at_builtin; refine tf (Kd.int .i64) (w0 := w) w.heap.size rfl (.tmp 54) (.tmp 59) 28 3 (.int .i64 0) 8 rfl Tryz.underlying28 cY rfl (by decide) (by omega) u8 v0 (Int.tmod k0 n0) [.int .i64 (Int.tmod k0 n0)] (fun _ => True) (fun _ => False) rfl rfl ?aP (fun _ hk => hk.elim) ?aF ?aO ?aB ?aS ?aL ?_; (case aP => exact rfl); (case aB => exact (hB_)); (case aF => exact (fun _ _ => trivial)); (case aO => exact (rR_ b0.o)); (case aS => exact (ac (hB_))); (case aL => have := I0.o; omega); intro q1 M1 ho hb hg hat; rw [← J0.o] at ho; obtain ⟨HB, K0⟩ := b_ (hb) <| c_ (ho); clear ho hb hg hat) | (go_at_call 72; (with_reducible refine (au.calls k3 a1 G0 _ p1.o).mono ?_); rintro e w' ⟨rfl, ⟨nd, rfl⟩⟩; (try first | exact ⟨rfl, _, World.drewN_drewN _ _ _⟩ | exact ⟨rfl, _, Eq.trans (World.drewN_drewN _ _ _) (congrArg (World.drewN _) (Nat.add_assoc _ _ _))⟩)))
  repeat (go_quiet (first | (go_at_call 72; (with_reducible refine (au.calls k3 a1 n0 _ m1.o).mono ?_); rintro e w' ⟨rfl, ⟨nd, rfl⟩⟩; (try first | exact ⟨rfl, _, World.drewN_drewN _ _ _⟩ | exact ⟨rfl, _, Eq.trans (World.drewN_drewN _ _ _) (congrArg (World.drewN _) (Nat.add_assoc _ _ _))⟩)) | ((refine aU (b := .append) (xs := #[.tmp 54, .tmp 59]) rfl ?_); (try (refine bn (by rfl) ?_; dsimp only)); at_builtin; refine tf (Kd.int .i64) (w0 := w) w.heap.size rfl (.tmp 54) (.tmp 59) 28 3 (.int .i64 0) 8 rfl Tryz.underlying28 cY rfl (by decide) (by omega) u8 v0 (Int.tmod k0 n0) [.int .i64 (Int.tmod k0 n0)] (fun _ => True) (fun _ => False) rfl rfl ?aP (fun _ hk => hk.elim) ?aF ?aO ?aB ?aS ?aL ?_; (case aP => exact rfl); (case aB => exact (hB_)); (case aF => exact (fun _ _ => trivial)); (case aO => exact (rR_ b0.o)); (case aS => exact (ac (hB_))); (case aL => have := I0.o; omega); intro q1 M1 ho hb hg hat; rw [← J0.o] at ho; obtain ⟨HB, K0⟩ := b_ (hb) <| c_ (ho); clear ho hb hg hat) | (go_at_call 72; (with_reducible refine (au.calls k3 a1 G0 _ p1.o).mono ?_); rintro e w' ⟨rfl, ⟨nd, rfl⟩⟩; (try first | exact ⟨rfl, _, World.drewN_drewN _ _ _⟩ | exact ⟨rfl, _, Eq.trans (World.drewN_drewN _ _ _) (congrArg (World.drewN _) (Nat.add_assoc _ _ _))⟩))); try go_wp2)
  go_roundg k3
  case measure => have := W0.o; have := Y0.o; have := Z0.o; omega
  case rel => exact ⟨(n1), (wrap64 (Int.tdiv k0 G0)), (wrap64 (f0 - a1)), (d0), (wrap64 (q0 + 1)), (by first | rfl | (simp only [QA21.o]; done) | (simp; done) | (simp [*]; done)), (by first | rfl | (simp only [QA21.o]; done) | (simp; done) | (simp [*]; done)), (by first | rfl | (simp only [QA21.o]; done) | (simp; done) | (simp [*]; done)), (by first | rfl | (simp only [QA21.o]; done) | (simp; done) | (simp [*]; done)), H', ⟨by have := W0.o; have := Y0.o; have := Z0.o; omega⟩, ⟨rR_ K0.o⟩, ⟨hB_⟩⟩
def ch.f (k : Nat) (a0 : ByteArray) : Option (List Int × Bool) := (aw.f k a0 12 256).bind fun bt117 => (if bt117.2 = true then ((ao.f k bt117.1).bind fun t121 => (if t121 = true then (some (bt117.1, true)) else (some ((([] : List Int)), false)))) else (some ((([] : List Int)), false)))
theorem ch.mono : ∀ a0 k, LeO (ch.f k a0) (ch.f (k + 1) a0) := by
 intro a0 k
 unfold ch.f
 exact o2_ ao.mono aw.mono
theorem ch.calls (k : Nat) (a0 : ByteArray) (r1 : List Int) (r2 : Bool) (w : World) (h : ch.f k a0 = some (r1, r2)) :
  Calls Tryz.prog 64 #[.string a0] w fun e w' => ∃ y0 : Value, e = .returned (.tuple #[y0, .bool r2]) ∧ Kd.R (Kd.int .i64) 3 w' w.heap.size (fun _ => True) y0 r1 ∧ Below w.heap.size w w' := by
 have HB := c_ (Ba w.heap.size w)
 delta ch.f at h
 have H := h
 clear h
 obtain ⟨⟨k0, v0⟩, A2, H⟩ := bN_ H
 by_cases c3 : v0 = true
 ·subst c3
  replace H := iT_ H
  obtain ⟨x0, A4, H⟩ := bN_ H
  by_cases c5 : x0 = true
  ·subst c5
   replace H := iT_ H
   simp only [Option.some.injEq, Prod.mk.injEq] at H
   obtain ⟨rfl, rfl⟩ := H
   go_enter Tryz.func64, Tryz.ntmps64
   go_wp2_with (first | (refine gq_ 68 (some 8) Tryz.func68 #[.string a0, .int .i64 12, .int .i64 256] (aw.calls k a0 12 256 k0 true _ A2.o) ?_; rintro e w6 ⟨r0, rfl, q0, hb⟩; refine ⟨_, rfl, ?_⟩; obtain ⟨b0, HB⟩ := b_ (sZ q0 (ac (hB_))) <| c_ (ab (hB_) hb); obtain ⟨H0, I0, B0⟩ := s7 b0.o; subst B0) | (go_at_call 65; (with_reducible refine (ao.calls k _ _ k0 true _ ?side1 ?side2 A4.o).mono ?_); (case side1 => exact cR_ (sX b0.o).2.2); (case side2 => exact (sX b0.o).2.1); rintro e w' ⟨rfl, ⟨nd, rfl⟩⟩))
   go_ret2
   exact ⟨_, f1_, rR_ b0.o, hB_⟩
  ·replace c5 := Ca c5
   subst c5
   replace H := iF_ H
   obtain ⟨C0, d0⟩ : ∃ y_ : List Int, y_ = (([] : List Int)) := ⟨_, rfl⟩
   first | replace H := yb_ d0 H | rw [← d0] at H
   have n0 := c_ d0
   clear d0
   simp only [Option.some.injEq, Prod.mk.injEq] at H
   obtain ⟨rfl, rfl⟩ := H
   go_enter Tryz.func64, Tryz.ntmps64
   go_wp2_with (first | (refine gq_ 68 (some 8) Tryz.func68 #[.string a0, .int .i64 12, .int .i64 256] (aw.calls k a0 12 256 k0 true _ A2.o) ?_; rintro e w8 ⟨r0, rfl, q0, hb⟩; refine ⟨_, rfl, ?_⟩; obtain ⟨b0, HB⟩ := b_ (sZ q0 (ac (hB_))) <| c_ (ab (hB_) hb); obtain ⟨J0, K0, D0⟩ := s7 b0.o; subst D0) | (go_at_call 65; (with_reducible refine (ao.calls k _ _ k0 false _ ?side1 ?side2 A4.o).mono ?_); (case side1 => exact cR_ (sX b0.o).2.2); (case side2 => exact (sX b0.o).2.1); rintro e w' ⟨rfl, ⟨nd, rfl⟩⟩) | ((refine aI (N := 18) rfl ?_); refine tn (Kd.int .i64) _ 3 ?hg (N := 18) ?hd (xs := ([] : List Int)) (inner := []) (ok := fun _ => True) (okp := fun _ => True) ?hr ?hp (fun _ hk => hk) trivial (Ba _ _) (Aa _) (by simp) ?_; (case hd => rfl); (case hg => rfl); (case hr => first | (go_simp; done) | (go_simp; rfl)); (case hp => exact (bA.none _ _)); intro E0 L0 f0 hb hg_ hnew_; clear hg_ hnew_; (first | rw [← n0.o] at f0 | (simp only [Int.reduceToNat] at f0; rw [← n0.o] at f0)); obtain ⟨b0, t0, HB⟩ := b_ (s5 (rR_ b0.o) (sY f0) hb) <| b_ (sZ (ta f0 (ti (rR_ b0.o))) (ac (hB_))) <| c_ (ab (hB_) hb); clear hb f0))
   go_ret2
   exact ⟨_, f1_, by refine kR_ ?_; exact s9 t0.o (fun _ hk => trivial), hB_⟩
 ·replace c3 := Ca c3
  subst c3
  replace H := iF_ H
  obtain ⟨F0, e0⟩ : ∃ y_ : List Int, y_ = (([] : List Int)) := ⟨_, rfl⟩
  first | replace H := yb_ e0 H | rw [← e0] at H
  have p0 := c_ e0
  clear e0
  simp only [Option.some.injEq, Prod.mk.injEq] at H
  obtain ⟨rfl, rfl⟩ := H
  go_enter Tryz.func64, Tryz.ntmps64
  go_wp2_with (first | (refine gq_ 68 (some 8) Tryz.func68 #[.string a0, .int .i64 12, .int .i64 256] (aw.calls k a0 12 256 k0 false _ A2.o) ?_; rintro e M0 ⟨r0, rfl, q0, hb⟩; refine ⟨_, rfl, ?_⟩; obtain ⟨b0, HB⟩ := b_ (sZ q0 (ac (hB_))) <| c_ (ab (hB_) hb); (try clear q0)) | ((refine aI (N := 18) rfl ?_); refine tn (Kd.int .i64) _ 3 ?hg (N := 18) ?hd (xs := ([] : List Int)) (inner := []) (ok := fun _ => True) (okp := fun _ => True) ?hr ?hp (fun _ hk => hk) trivial (Ba _ _) (Aa _) (by simp) ?_; (case hd => rfl); (case hg => rfl); (case hr => first | (go_simp; done) | (go_simp; rfl)); (case hp => exact (bA.none _ _)); intro G0 N0 j0 hb hg_ hnew_; clear hg_ hnew_; (first | rw [← p0.o] at j0 | (simp only [Int.reduceToNat] at j0; rw [← p0.o] at j0)); obtain ⟨b0, u0, HB⟩ := b_ (s5 (rR_ b0.o) (sY j0) hb) <| b_ (sZ (ta j0 (ti (rR_ b0.o))) (ac (hB_))) <| c_ (ab (hB_) hb); clear hb j0))
  go_ret2
  exact ⟨_, f1_, by refine kR_ ?_; exact s9 u0.o (fun _ hk => trivial), hB_⟩
def ba.l0 : Nat → ByteArray → List (List Int) → Int → Option ((List (List Int)) × Bool)
 | 0, _, _, _ => none
 | k + 1, x0, x4, x5 => if x5 < 2 then (if 0 ≤ (wrap64 (x5 * 384)) then (if (wrap64 (x5 * 384)) ≤ (wrap64 ((wrap64 (x5 + 1)) * 384)) then (if (wrap64 ((wrap64 (x5 + 1)) * 384)) ≤ (x0.size : Int) then ((ch.f k (x0.extract ((wrap64 (x5 * 384)) : Int).toNat ((wrap64 ((wrap64 (x5 + 1)) * 384)) : Int).toNat)).bind fun bt131 => (if bt131.2 = true then (if x4.length < 5864062014805 then (ba.l0 k x0 (x4 ++ [bt131.1]) (wrap64 (x5 + 1))) else (none)) else (some ((([] : List (List Int))), false)))) else (none)) else (none)) else (none)) else (some (x4, true))
def ba.f (k : Nat) (a0 : ByteArray) : Option ((List (List Int)) × Bool) := ba.l0 k a0 (([] : List (List Int))) 0
theorem ba.mono_l : ∀ k, (∀ y0 y1 y2, LeO (ba.l0 k y0 y1 y2) (ba.l0 (k + 1) y0 y1 y2))
 | 0 => fun _ _ _ r h => by simp [ba.l0] at h
 | k + 1 => by
  have ih0 := ba.mono_l k
  intros; unfold ba.l0; exact o2_ ih0 ch.mono
theorem ba.mono : ∀ a0 k, LeO (ba.f k a0) (ba.f (k + 1) a0) := by
 intro a0 k
 have ih0 := ba.mono_l k
 unfold ba.f
 exact o2_ ih0 ch.mono
theorem ba.calls (k : Nat) (a0 : ByteArray) (r1 : List (List Int)) (r2 : Bool) (w : World) (h : ba.f k a0 = some (r1, r2)) :
  Calls Tryz.prog 26 #[.string a0] w fun e w' => ∃ P0 : Value, e = .returned (.tuple #[P0, .bool r2]) ∧ Kd.S (Kd.slice 3 (Kd.int .i64)) 28 w' w.heap.size (fun _ => True) P0 r1 ∧ Below w.heap.size w w' := by
 have HB := c_ (Ba w.heap.size w)
 delta ba.f at h
 have H := h
 clear h
 obtain ⟨J0, f0⟩ : ∃ y_ : List (List Int), y_ = (([] : List (List Int))) := ⟨_, rfl⟩
 first | replace H := yb_ f0 H | rw [← f0] at H
 have t0 := c_ f0
 clear f0
 have H' := c_ H
 clear H
 go_enter Tryz.func26, Tryz.ntmps26
 go_wp2_with (first | ((refine aI (N := 8) rfl ?_); refine uM (Kd.slice 3 (Kd.int .i64)) _ 28 ?hg (N := 8) ?hd (xs := ([] : List (List Int))) (inner := []) (ok := fun _ => True) (okp := fun _ => True) ?hr ?hp (fun _ hk => hk) trivial (Ba _ _) (Aa _) (by simp) ?_; (case hd => rfl); (case hg => rfl); (case hr => first | (go_simp; done) | (go_simp; rfl)); (case hp => exact (bA.none _ _)); intro T0 w2 x0 hb hg_ hnew_; clear hg_ hnew_; (first | rw [← t0.o] at x0 | (simp only [Int.reduceToNat] at x0; rw [← t0.o] at x0)); obtain ⟨y0, HB⟩ := b_ (tz x0 (ac (hB_))) <| c_ (ab (hB_) hb); clear hb x0))
 go_loopg [4, 5] k (fun kq v4 v5 w' => ∃ (r0 : List (List Int)) (b0 : Int), v5 = .int .i64 b0 ∧ aa (ba.l0 kq a0 r0 b0 = some (r1, r2)) ∧ aa (kq ≤ k) ∧ aa (Kd.S (Kd.slice 3 (Kd.int .i64)) 28 w' w.heap.size (fun _ => True) v4 r0) ∧ aa (Below w.heap.size w w'))
 case atStart => exact ⟨(J0), (0), f0_, H', ⟨Aa _⟩, ⟨rS_ y0.o⟩, ⟨hB_⟩⟩
 clear H'
 obtain ⟨r0, b0, rfl, HA, Q0, d0, HB⟩ := hrel
 rcases gk with _ | k1
 ·exact absurd HA.o (by simp [ba.l0])
 have H := HA.o
 clear HA
 simp only [ba.l0] at H
 by_cases c4 : b0 < 2
 rotate_left
 ·rw [Ea c4] at H
  have K0 := xa c4
  clear c4
  simp only [Option.some.injEq, Prod.mk.injEq] at H
  obtain ⟨rfl, rfl⟩ := H
  go_wp2
  go_ret2
  exact ⟨_, f1_, by refine kS_ ?_; exact d0.o, hB_⟩
 rw [Da c4] at H
 have K0 := wa c4
 clear c4
 obtain ⟨B0, n0⟩ : ∃ j_ : Int, (wrap64 (b0 * 384)) = j_ := ⟨_, rfl⟩
 first | rw [n0] at H | simp only [n0] at H
 have R0 : (IntKind.i64.wrap (b0 * 384)) = B0 := (bv _).trans n0
 obtain ⟨c6, H⟩ := iN_ H
 have U0 := ya c6
 have V0 := wa c6
 clear c6
 obtain ⟨c7, H⟩ := iN_ H
 have W0 := ya c7
 have X0 := wa c7
 obtain ⟨c8, H⟩ := iN_ H
 have Y0 := ya c8
 have Z0 := wa c8
 obtain ⟨⟨p0, L0⟩, A9, H⟩ := bN_ H
 by_cases I0 : L0 = true
 ·subst I0
  replace H := iT_ H
  obtain ⟨S0, H⟩ := iN_ H
  have C0 := c_ S0
  clear S0
  obtain ⟨M0, j0⟩ : ∃ y_ : List (List Int), y_ = (r0 ++ [p0]) := ⟨_, rfl⟩
  first | replace H := yb_ j0 H | rw [← j0] at H
  have D0 := c_ j0
  clear j0
  have H' := c_ H
  clear H
  go_wp2_with (first | ((with_reducible refine dM (f := 64) rfl ?_); refine gm (some 21) rfl rfl Tryz.func64 (by kernel_rfl) rfl #[.string (a0.extract ((B0) : Int).toNat ((wrap64 ((wrap64 (b0 + 1)) * 384)) : Int).toNat)] rfl (by (try simp only [List.map_toArray, List.map_cons, List.map_nil]); first | done | (simp only [n0]; rfl) | rfl | (simp only [List.length_drop, List.length_take]; rfl)) ?_; (with_reducible refine (ch.calls k1 (a0.extract ((B0) : Int).toNat ((wrap64 ((wrap64 (b0 + 1)) * 384)) : Int).toNat) p0 true _ A9.o).mono ?_); rintro e e1 ⟨N0, rfl, v0, hb⟩; refine ⟨_, rfl, ?_⟩; obtain ⟨d0, e0, HB⟩ := b_ (s6 (rS_ d0.o) (sY v0) hb) <| b_ (sZ v0 (ac (hB_))) <| c_ (ab (hB_) hb); obtain ⟨E0, F0, O0⟩ := s7 e0.o; subst O0) | ((refine aU (b := .append) (xs := #[.tmp 27, .tmp 29]) rfl ?_); at_builtin; refine tE (Kd.slice 3 (Kd.int .i64)) (w0 := w) w.heap.size rfl (.tmp 27) (.tmp 29) 46 28 (.slice none 0 0) 24 rfl Tryz.underlying46 gg rfl (by decide) (by omega) u4 r0 p0 [.slice E0 p0.length F0] (fun _ => True) (fun k_ => some k_ = (.slice E0 p0.length F0 : Value).ownBlock) rfl rfl ?aP (fun k_ hk_ => ((s9 (ok' := fun k_ => ((fun _ => True)) k_ ∧ some k_ ≠ (u4 : Value).ownBlock) (th (e0.o) (tk d0.o) (by decide)) (fun k_ hk => ⟨trivial, hk.2⟩))).1 k_ hk_.symm) ?aF ?aO ?aB ?aS ?aL ?_; (case aP => exact t9 (s9 (tG rfl (s9 (ok' := fun k_ => ((fun _ => True)) k_ ∧ some k_ ≠ (u4 : Value).ownBlock) (th (e0.o) (tk d0.o) (by decide)) (fun k_ hk => ⟨trivial, hk.2⟩))) (fun _ h_ => h_))); (case aB => exact (hB_)); (case aF => exact (fun _ _ => trivial)); (case aO => exact (by refine kS_ ?_; exact tq d0.o (fun k_ hk => ⟨trivial, fun e_ => hk.2 e_⟩))); (case aS => exact (ac (hB_))); (case aL => have := C0.o; omega); intro b1 f1 ho hb hg hat; rw [← D0.o] at ho; obtain ⟨HB, G0⟩ := b_ (hb) <| c_ (ho); clear ho hb hg hat))
  go_roundg k1
  case measure => have := Q0.o; omega
  case rel => exact ⟨(M0), (wrap64 (b0 + 1)), f0_, H', ⟨by have := Q0.o; omega⟩, ⟨rS_ G0.o⟩, ⟨hB_⟩⟩
 ·replace I0 := Ca I0
  subst I0
  replace H := iF_ H
  obtain ⟨c1, k0⟩ : ∃ y_ : List (List Int), y_ = (([] : List (List Int))) := ⟨_, rfl⟩
  first | replace H := yb_ k0 H | rw [← k0] at H
  have u0 := c_ k0
  clear k0
  simp only [Option.some.injEq, Prod.mk.injEq] at H
  obtain ⟨rfl, rfl⟩ := H
  go_wp2_with (first | ((with_reducible refine dM (f := 64) rfl ?_); refine gm (some 21) rfl rfl Tryz.func64 (by kernel_rfl) rfl #[.string (a0.extract ((B0) : Int).toNat ((wrap64 ((wrap64 (b0 + 1)) * 384)) : Int).toNat)] rfl (by (try simp only [List.map_toArray, List.map_cons, List.map_nil]); first | done | (simp only [n0]; rfl) | rfl | (simp only [List.length_drop, List.length_take]; rfl)) ?_; (with_reducible refine (ch.calls k1 (a0.extract ((B0) : Int).toNat ((wrap64 ((wrap64 (b0 + 1)) * 384)) : Int).toNat) p0 false _ A9.o).mono ?_); rintro e g1 ⟨N0, rfl, v0, hb⟩; refine ⟨_, rfl, ?_⟩; obtain ⟨d0, e0, HB⟩ := b_ (s6 (rS_ d0.o) (sY v0) hb) <| b_ (sZ v0 (ac (hB_))) <| c_ (ab (hB_) hb); (try clear v0)) | ((refine aI (N := 26) rfl ?_); refine uM (Kd.slice 3 (Kd.int .i64)) _ 28 ?hg (N := 26) ?hd (xs := ([] : List (List Int))) (inner := []) (ok := fun _ => True) (okp := fun _ => True) ?hr ?hp (fun _ hk => hk) trivial (Ba _ _) (Aa _) (by simp) ?_; (case hd => rfl); (case hg => rfl); (case hr => first | (go_simp; done) | (go_simp; rfl)); (case hp => exact (bA.none _ _)); intro d1 i1 q0 hb hg_ hnew_; clear hg_ hnew_; (first | rw [← u0.o] at q0 | (simp only [Int.reduceToNat] at q0; rw [← u0.o] at q0)); obtain ⟨d0, e0, H0, HB⟩ := b_ (s6 (rS_ d0.o) (tL q0) hb) <| b_ (tc (rR_ e0.o) hb) <| b_ (tz (tK (tK q0 (ux (rS_ d0.o))) (ti (rR_ e0.o))) (ac (hB_))) <| c_ (ab (hB_) hb); clear hb q0))
  go_ret2
  exact ⟨_, by first | rfl | (simp [dk, dh] <;> rfl) | (simp only [← n0]; first | rfl | (simp [dk, dh] <;> rfl)) | (simp [*, dk, dh] <;> rfl), by refine kS_ ?_; exact tq H0.o (fun _ hk => trivial), hB_⟩
mutual
def br.j0 : Nat → Int → Int → Option (Int)
 | 0, _, _ => none
 | k + 1, x0, x1 => br.l0 k x0 x1 1
def br.l0 : Nat → Int → Int → Int → Option (Int)
 | 0, _, _, _ => none
 | k + 1, x0, x1, x5 => if x1 > 0 then (if (Int.tmod x1 2) = 1 then (br.l0 k (Int.tmod (wrap64 (x0 * x0)) 3329) (wrap64 (Int.tdiv x1 2)) (Int.tmod (wrap64 (x5 * x0)) 3329)) else (br.l0 k (Int.tmod (wrap64 (x0 * x0)) 3329) (wrap64 (Int.tdiv x1 2)) x5)) else (some x5)
end
def br.f (k : Nat) (a0 : Int) (a1 : Int) : Option (Int) := (aY.f a1 0 1000000000).bind fun t141 => (if t141 = true then (if (Int.tmod a0 3329) < 0 then (br.j0 k (wrap64 ((Int.tmod a0 3329) + 3329)) a1) else (br.j0 k (Int.tmod a0 3329) a1)) else (some 0))
theorem br.mono_l : ∀ k, (∀ y0 y1, LeO (br.j0 k y0 y1) (br.j0 (k + 1) y0 y1)) ∧ (∀ y0 y1 y2, LeO (br.l0 k y0 y1 y2) (br.l0 (k + 1) y0 y1 y2))
 | 0 => ⟨fun _ _ r h => by simp [br.j0] at h, fun _ _ _ r h => by simp [br.l0] at h⟩
 | k + 1 => by
  obtain ⟨ih0, ih1⟩ := br.mono_l k
  refine ⟨?_, ?_⟩ <;> (intros; (first | unfold br.j0 | unfold br.l0); exact o2_ ih0 ih1)
theorem br.mono : ∀ a0 a1 k, LeO (br.f k a0 a1) (br.f (k + 1) a0 a1) := by
 intro a0 a1 k
 obtain ⟨ih0, ih1⟩ := br.mono_l k
 unfold br.f
 exact o2_ ih0 ih1
theorem br.calls (k : Nat) (a0 : Int) (a1 : Int) (r : Int) (w : World) (h : br.f k a0 a1 = some r) :
  Calls Tryz.prog 66 #[.int .i64 a0, .int .i64 a1] w fun e w' => e = .returned (.int .i64 r) ∧ cx w w' := by
 delta br.f at h
 have H := h
 clear h
 obtain ⟨q0, A3, H⟩ := bN_ H
 by_cases c4 : q0 = true
 ·subst c4
  replace H := iT_ H
  have r0 := c_ H
  clear H
  go_enter Tryz.func66, Tryz.ntmps66
  go_upto_if 12 with (first | (refine gq_ 71 (some 7) Tryz.func71 #[.int .i64 a1, .int .i64 0, .int .i64 1000000000] (aY.calls a1 0 1000000000 true _ A3.o) ?_; rintro e w' ⟨rfl, ⟨nd, rfl⟩⟩; refine ⟨_, rfl, ?_⟩))
  (try simp only [Act.put, List.setIfInBounds_toArray, List.set_cons_zero, List.set_cons_succ])
  go_cut [0] (fun v0 wc => ∃ (kq : Nat) (k0 : Int), v0 = .int .i64 k0 ∧ aa (br.j0 kq k0 a1 = some r) ∧ aa (kq ≤ k) ∧ cx w wc)
  case first =>
   have H := r0.o
   clear r0
   by_cases c6 : (Int.tmod a0 3329) < 0
   ·rw [Da c6] at H
    have e0 := wa c6
    clear c6
    (first | rw [e0] | (simp only [bv, cG]; rw [e0]) | skip)
    have H' := c_ H
    clear H
    go_wp2
    go_meet
    case rel => exact ⟨_, (wrap64 ((Int.tmod a0 3329) + 3329)), f0_, H', ⟨by first | omega | exact Aa _⟩, d0_⟩
   rw [Ea c6] at H
   have e0 := xa c6
   clear c6
   (first | rw [e0] | (simp only [bv, cG]; rw [e0]) | skip)
   have H' := c_ H
   clear H
   go_wp2
   go_meet
   case rel => exact ⟨_, (Int.tmod a0 3329), f0_, H', ⟨by first | omega | exact Aa _⟩, d0_⟩
  clear r0
  obtain ⟨kq, k0, rfl, HA, n0, ⟨mc4, rfl⟩⟩ := hcut
  rcases kq with _ | y0
  ·exact absurd HA.o (by simp [br.j0])
  have H := HA.o
  clear HA
  simp only [br.j0] at H
  have H' := c_ H
  clear H
  go_wp2
  go_loopg [0, 1, 5] y0 (fun kq v0 v1 v5 w' => ∃ (d0 : Int) (b0 : Int) (f0 : Int), v0 = .int .i64 d0 ∧ v1 = .int .i64 b0 ∧ v5 = .int .i64 f0 ∧ aa (br.l0 kq d0 b0 f0 = some r) ∧ aa (kq ≤ y0) ∧ cx w w')
  case atStart => exact ⟨(k0), (a1), (1), f0_, f0_, f0_, H', ⟨Aa _⟩, d0_⟩
  clear H'
  obtain ⟨d0, b0, f0, rfl, rfl, rfl, HA, p0, ⟨m2, rfl⟩⟩ := hrel
  rcases gk with _ | k2
  ·exact absurd HA.o (by simp [br.l0])
  have H := HA.o
  clear HA
  simp only [br.l0] at H
  by_cases c7 : b0 > 0
  ·rw [Da c7] at H
   have t0 := wa c7
   clear c7
   by_cases c8 : (Int.tmod b0 2) = 1
   ·rw [Da c8] at H
    have u0 : ((Int.tmod b0 2) == 1) = true := beq_iff_eq.mpr c8
    have x0 : ((Int.tmod b0 2) != 1) = false := bne_eq_false_iff_eq.mpr c8
    clear c8
    have H' := c_ H
    clear H
    go_wp2
    go_roundg k2
    case measure => have := n0.o; have := p0.o; omega
    case rel => exact ⟨(Int.tmod (wrap64 (d0 * d0)) 3329), (wrap64 (Int.tdiv b0 2)), (Int.tmod (wrap64 (f0 * d0)) 3329), f0_, f0_, f0_, H', ⟨by have := n0.o; have := p0.o; omega⟩, d0_⟩
   rw [Ea c8] at H
   have u0 : ((Int.tmod b0 2) == 1) = false := beq_eq_false_iff_ne.mpr c8
   have x0 : ((Int.tmod b0 2) != 1) = true := bne_iff_ne.mpr c8
   have H' := c_ H
   clear H
   go_wp2
   go_roundg k2
   case measure => have := n0.o; have := p0.o; omega
   case rel => exact ⟨(Int.tmod (wrap64 (d0 * d0)) 3329), (wrap64 (Int.tdiv b0 2)), (f0), f0_, f0_, f0_, H', ⟨by have := n0.o; have := p0.o; omega⟩, d0_⟩
  rw [Ea c7] at H
  have t0 := xa c7
  clear c7
  obtain rfl := za H
  go_wp2
  go_ret
  exact ⟨f0_, d0_⟩
 ·replace c4 := Ca c4
  subst c4
  replace H := iF_ H
  obtain rfl := za H
  go_enter Tryz.func66, Tryz.ntmps66
  go_wp2_with (first | (refine gq_ 71 (some 7) Tryz.func71 #[.int .i64 a1, .int .i64 0, .int .i64 1000000000] (aY.calls a1 0 1000000000 false _ A3.o) ?_; rintro e w' ⟨rfl, ⟨nd, rfl⟩⟩; refine ⟨_, rfl, ?_⟩))
  go_ret
  exact ⟨f0_, d0_⟩
mutual
def bi.j0 : Nat → Int → Option (Int)
 | 0, _ => none
 | k + 1, x0 => bi.l0 k x0 0 0
def bi.l0 : Nat → Int → Int → Int → Option (Int)
 | 0, _, _, _ => none
 | k + 1, x0, x3, x4 => if x4 < 7 then (bi.l0 k (wrap64 (Int.tdiv x0 2)) (wrap64 ((wrap64 (2 * x3)) + (Int.tmod x0 2))) (wrap64 (x4 + 1))) else (some x3)
end
def bi.f (k : Nat) (a0 : Int) : Option (Int) := if (Int.tmod a0 128) < 0 then (bi.j0 k (wrap64 ((Int.tmod a0 128) + 128))) else (bi.j0 k (Int.tmod a0 128))
theorem bi.mono_l : ∀ k, (∀ y0, LeO (bi.j0 k y0) (bi.j0 (k + 1) y0)) ∧ (∀ y0 y1 y2, LeO (bi.l0 k y0 y1 y2) (bi.l0 (k + 1) y0 y1 y2))
 | 0 => ⟨fun _ r h => by simp [bi.j0] at h, fun _ _ _ r h => by simp [bi.l0] at h⟩
 | k + 1 => by
  obtain ⟨ih0, ih1⟩ := bi.mono_l k
  refine ⟨?_, ?_⟩ <;> (intros; (first | unfold bi.j0 | unfold bi.l0); exact o2_ ih0 ih1)
theorem bi.mono : ∀ a0 k, LeO (bi.f k a0) (bi.f (k + 1) a0) := by
 intro a0 k
 obtain ⟨ih0, ih1⟩ := bi.mono_l k
 unfold bi.f
 exact o2_ ih0 ih1
theorem bi.calls (k : Nat) (a0 : Int) (r : Int) (w : World) (h : bi.f k a0 = some r) :
  Calls Tryz.prog 67 #[.int .i64 a0] w fun e w' => e = .returned (.int .i64 r) ∧ cx w w' := by
 delta bi.f at h
 have H := h
 clear h
 have n0 := c_ H
 clear H
 go_enter Tryz.func67, Tryz.ntmps67
 go_upto_if 8 with (fail)
 go_cut [0] (fun v0 wc => ∃ (kq : Nat) (f0 : Int), v0 = .int .i64 f0 ∧ aa (bi.j0 kq f0 = some r) ∧ aa (kq ≤ k) ∧ cx w wc)
 case first =>
  have H := n0.o
  clear n0
  by_cases c3 : (Int.tmod a0 128) < 0
  ·rw [Da c3] at H
   have b0 := wa c3
   clear c3
   (first | rw [b0] | (simp only [bv, cG]; rw [b0]) | skip)
   have H' := c_ H
   clear H
   go_wp2
   go_meet
   case rel => exact ⟨_, (wrap64 ((Int.tmod a0 128) + 128)), f0_, H', ⟨by first | omega | exact Aa _⟩, d0_⟩
  rw [Ea c3] at H
  have b0 := xa c3
  clear c3
  (first | rw [b0] | (simp only [bv, cG]; rw [b0]) | skip)
  have H' := c_ H
  clear H
  go_wp2
  go_meet
  case rel => exact ⟨_, (Int.tmod a0 128), f0_, H', ⟨by first | omega | exact Aa _⟩, d0_⟩
 clear n0
 obtain ⟨kq, f0, rfl, HA, q0, ⟨mc1, rfl⟩⟩ := hcut
 rcases kq with _ | r0
 ·exact absurd HA.o (by simp [bi.j0])
 have H := HA.o
 clear HA
 simp only [bi.j0] at H
 have H' := c_ H
 clear H
 go_wp2
 go_loopg [0, 3, 4] r0 (fun kq v0 v3 v4 w' => ∃ (d0 : Int) (k0 : Int) (e0 : Int), v0 = .int .i64 d0 ∧ v3 = .int .i64 k0 ∧ v4 = .int .i64 e0 ∧ aa (bi.l0 kq d0 k0 e0 = some r) ∧ aa (kq ≤ r0) ∧ cx w w')
 case atStart => exact ⟨(f0), (0), (0), f0_, f0_, f0_, H', ⟨Aa _⟩, d0_⟩
 clear H'
 obtain ⟨d0, k0, e0, rfl, rfl, rfl, HA, t0, ⟨m2, rfl⟩⟩ := hrel
 rcases gk with _ | k2
 ·exact absurd HA.o (by simp [bi.l0])
 have H := HA.o
 clear HA
 simp only [bi.l0] at H
 by_cases c4 : e0 < 7
 ·rw [Da c4] at H
  have p0 := wa c4
  clear c4
  have H' := c_ H
  clear H
  go_wp2
  go_roundg k2
  case measure => have := q0.o; have := t0.o; omega
  case rel => exact ⟨(wrap64 (Int.tdiv d0 2)), (wrap64 ((wrap64 (2 * k0)) + (Int.tmod d0 2))), (wrap64 (e0 + 1)), f0_, f0_, f0_, H', ⟨by have := q0.o; have := t0.o; omega⟩, d0_⟩
 rw [Ea c4] at H
 have p0 := xa c4
 clear c4
 obtain rfl := za H
 go_wp2
 go_ret
 exact ⟨f0_, d0_⟩
mutual
def bh.l0 : Nat → List Int → Int → Int → Option (List Int)
 | 0, _, _, _ => none
 | k + 1, x3, x4, x5 => if x5 ≥ 2 then (bh.l1 k x3 x4 x5 0) else (some x3)
def bh.l1 : Nat → List Int → Int → Int → Int → Option (List Int)
 | 0, _, _, _, _ => none
 | k + 1, x3, x4, x5, x6 => if x6 < 256 then ((bi.f k x4).bind fun t152 => ((br.f k 17 t152).bind fun t153 => (bh.l2 k x3 (wrap64 (x4 + 1)) x5 x6 t153 x6))) else (bh.l0 k x3 x4 (wrap64 (Int.tdiv x5 2)))
def bh.l2 : Nat → List Int → Int → Int → Int → Int → Int → Option (List Int)
 | 0, _, _, _, _, _, _ => none
 | k + 1, x3, x4, x5, x6, x7, x8 => if x8 < (wrap64 (x6 + x5)) then (if 0 ≤ (wrap64 (x8 + x5)) then (if (wrap64 (x8 + x5)) < (x3.length : Int) then (if 0 ≤ x8 then (if x8 < (x3.length : Int) then ((some (x3.set ((wrap64 (x8 + x5)) : Int).toNat (Int.tmod (wrap64 ((wrap64 ((rd x3 x8) - (Int.tmod (wrap64 (x7 * (rd x3 (wrap64 (x8 + x5))))) 3329))) + 3329)) 3329) : List Int)).bind fun y156 => (bh.l2 k (y156.set (x8 : Int).toNat (Int.tmod (wrap64 ((rd y156 x8) + (Int.tmod (wrap64 (x7 * (rd x3 (wrap64 (x8 + x5))))) 3329))) 3329)) x4 x5 x6 x7 (wrap64 (x8 + 1)))) else (none)) else (none)) else (none)) else (none)) else (bh.l1 k x3 x4 x5 (wrap64 (x6 + (wrap64 (2 * x5)))))
end
def bh.f (k : Nat) (l0 : List Int) : Option (List Int) := (ao.f k l0).bind fun t142 => (if t142 = true then ((some (([] : List Int) : List Int)).bind fun y146 => (if y146.length + l0.length < 17592186044416 then (bh.l0 k (y146 ++ l0) 1 128) else (none))) else (some (([] : List Int))))
theorem bh.mono_l : ∀ k, (∀ y0 y1 y2, LeO (bh.l0 k y0 y1 y2) (bh.l0 (k + 1) y0 y1 y2)) ∧ (∀ y0 y1 y2 y3, LeO (bh.l1 k y0 y1 y2 y3) (bh.l1 (k + 1) y0 y1 y2 y3)) ∧ (∀ y0 y1 y2 y3 y4 y5, LeO (bh.l2 k y0 y1 y2 y3 y4 y5) (bh.l2 (k + 1) y0 y1 y2 y3 y4 y5))
 | 0 => ⟨fun _ _ _ r h => by simp [bh.l0] at h, fun _ _ _ _ r h => by simp [bh.l1] at h, fun _ _ _ _ _ _ r h => by simp [bh.l2] at h⟩
 | k + 1 => by
  obtain ⟨ih0, ih1, ih2⟩ := bh.mono_l k
  refine ⟨?_, ?_, ?_⟩ <;> (intros; (first | unfold bh.l0 | unfold bh.l1 | unfold bh.l2); exact o6_ ih0 ih1 ih2 ao.mono br.mono bi.mono)
theorem bh.mono : ∀ a0 k, LeO (bh.f k a0) (bh.f (k + 1) a0) := by
 intro a0 k
 obtain ⟨ih0, ih1, ih2⟩ := bh.mono_l k
 unfold bh.f
 exact o6_ ih0 ih1 ih2 ao.mono br.mono bi.mono
theorem bh.calls (k : Nat) (A0 : Option Addr) (c0 : Nat) (l0 : List Int) (r : List Int) (w : World) (hr0 : Kd.C (Kd.int .i64) w A0 l0.length l0) (hc0 : l0.length ≤ c0) (h : bh.f k l0 = some r) :
  Calls Tryz.prog 27 #[.slice A0 l0.length c0] w fun e w' => ∃ Q1 : Value, e = .returned (Q1) ∧ Kd.R (Kd.int .i64) 3 w' w.heap.size (fun _ => True) Q1 r ∧ Below w.heap.size w w' := by
 have t1 := c_ hr0
 have R1 := c_ hc0
 clear hr0 hc0
 have HB := c_ (Ba w.heap.size w)
 delta bh.f at h
 have H := h
 clear h
 obtain ⟨y1, A2, H⟩ := bN_ H
 by_cases c3 : y1 = true
 ·subst c3
  replace H := iT_ H
  obtain ⟨V0, q0⟩ : ∃ y_ : List Int, y_ = (([] : List Int)) := ⟨_, rfl⟩
  first | replace H := yb_ q0 H | rw [← q0] at H
  have H0 := c_ q0
  clear q0
  obtain ⟨c4, H⟩ := iN_ H
  have z1 := c_ c4
  clear c4
  obtain ⟨A1, r0⟩ : ∃ y_ : List Int, y_ = (V0 ++ l0) := ⟨_, rfl⟩
  first | replace H := yb_ r0 H | rw [← r0] at H
  have W0 := c_ r0
  clear r0
  have H' := c_ H
  clear H
  go_enter Tryz.func27, Tryz.ntmps27
  go_wp2_with (first | (refine gq_ 65 (some 11) Tryz.func65 #[.slice A0 l0.length c0] (ao.calls k _ _ l0 true _ ?side1 ?side2 A2.o) ?_; (case side1 => exact cR_ t1.o); (case side2 => exact R1.o); rintro e w' ⟨rfl, ⟨nd, rfl⟩⟩; refine ⟨_, rfl, ?_⟩) | ((refine aI (N := 14) rfl ?_); refine tn (Kd.int .i64) _ 3 ?hg (N := 14) ?hd (xs := ([] : List Int)) (inner := []) (ok := fun _ => True) (okp := fun _ => True) ?hr ?hp (fun _ hk => hk) trivial (Ba _ _) (Aa _) (by simp) ?_; (case hd => rfl); (case hg => rfl); (case hr => first | (go_simp; done) | (go_simp; rfl)); (case hp => exact (bA.none _ _)); intro B1 w5 X0 hb hg_ hnew_; clear hg_ hnew_; (first | rw [← H0.o] at X0 | (simp only [Int.reduceToNat] at X0; rw [← H0.o] at X0)); obtain ⟨Y0, HB⟩ := b_ (sZ X0 (ac (hB_))) <| c_ (ab (hB_) hb); clear hb X0) | ((refine aU (b := .append) (xs := #[.tmp 14, .tmp 15]) rfl ?_); at_builtin; refine tA (Kd.int .i64) (w0 := w) w.heap.size rfl (.tmp 14) (.tmp 15) 28 3 (.int .i64 0) 8 rfl Tryz.underlying28 cY rfl (by decide) (by omega) B1 V0 l0 _ _ _ (fun _ => True) (fun _ => False) rfl rfl ?aO ?aR (fun _ _ h => h) (fun _ h => h.elim) ?aF ?aB ?aS ?aL ?_; (case aR => exact cR_ (tg t1.o HB.o)); (case aB => exact (hB_)); (case aF => exact (fun _ _ => trivial)); (case aO => exact (rR_ Y0.o)); (case aS => exact (ac (hB_))); (case aL => have := z1.o; omega); intro K0 w7 ho hb hg hat; rw [← W0.o] at ho; obtain ⟨HB, Z0⟩ := b_ (hb) <| c_ (ho); clear ho hb hg hat))
  go_loopg [4, 5] k (fun kq v4 v5 w' => ∃ (D0 : List Int) (E0 : Int) (f0 : Int), v4 = .int .i64 E0 ∧ v5 = .int .i64 f0 ∧ aa (bh.l0 kq D0 E0 f0 = some r) ∧ aa (kq ≤ k) ∧ aa (Kd.R (Kd.int .i64) 3 w' w.heap.size (fun _ => True) K0 D0) ∧ aa (Below w.heap.size w w'))
  case atStart => exact ⟨(A1), (1), (128), f0_, f0_, H', ⟨Aa _⟩, ⟨rR_ Z0.o⟩, ⟨hB_⟩⟩
  clear H'
  obtain ⟨D0, E0, f0, rfl, rfl, HA, S0, d0, HB⟩ := hrel
  rcases gk with _ | k1
  ·exact absurd HA.o (by simp [bh.l0])
  have H := HA.o
  clear HA
  simp only [bh.l0] at H
  by_cases c8 : f0 ≥ 2
  rotate_left
  ·rw [Ea c8] at H
   have C1 := xa c8
   clear c8
   obtain rfl := za H
   go_wp2
   go_ret
   exact ⟨_, f1_, rR_ d0.o, hB_⟩
  rw [Da c8] at H
  have C1 := wa c8
  clear c8
  have H' := c_ H
  clear H
  go_wp2
  go_loopg [4, 6] k1 (fun kq v4 v6 w' => ∃ (y0 : List Int) (k0 : Int) (n0 : Int), v4 = .int .i64 k0 ∧ v6 = .int .i64 n0 ∧ aa (bh.l1 kq y0 k0 f0 n0 = some r) ∧ aa (kq ≤ k1) ∧ aa (Kd.R (Kd.int .i64) 3 w' w.heap.size (fun _ => True) K0 y0) ∧ aa (Below w.heap.size w w'))
  case atStart => exact ⟨(D0), (E0), (0), f0_, f0_, H', ⟨Aa _⟩, ⟨rR_ d0.o⟩, ⟨hB_⟩⟩
  clear H'
  obtain ⟨y0, k0, n0, rfl, rfl, HA, T0, d0, HB⟩ := hrel
  rcases gk with _ | k2
  ·exact absurd HA.o (by simp [bh.l1])
  have H := HA.o
  clear HA
  simp only [bh.l1] at H
  by_cases c9 : n0 < 256
  rotate_left
  ·rw [Ea c9] at H
   have D1 := xa c9
   clear c9
   have H' := c_ H
   clear H
   go_wp2
   go_roundg k2
   case measure => have := S0.o; have := T0.o; omega
   case rel => exact ⟨(y0), (k0), (wrap64 (Int.tdiv f0 2)), f0_, f0_, H', ⟨by have := S0.o; have := T0.o; omega⟩, ⟨rR_ d0.o⟩, ⟨hB_⟩⟩
  rw [Da c9] at H
  have D1 := wa c9
  clear c9
  obtain ⟨L0, Y1, H⟩ := bN_ H
  obtain ⟨p0, Z1, H⟩ := bN_ H
  have H' := c_ H
  clear H
  go_wp2_with (first | (refine gq_ 67 (some 28) Tryz.func67 #[.int .i64 k0] (bi.calls k2 k0 L0 _ Y1.o) ?_; rintro e w' ⟨rfl, ⟨nd, rfl⟩⟩; refine ⟨_, rfl, ?_⟩) | (refine gq_ 66 (some 29) Tryz.func66 #[.int .i64 17, .int .i64 L0] (br.calls k2 17 L0 p0 _ Z1.o) ?_; rintro e w' ⟨rfl, ⟨nd, rfl⟩⟩; refine ⟨_, rfl, ?_⟩))
  go_loopg [8] k2 (fun kq v8 w' => ∃ (b0 : List Int) (a0 : Int), v8 = .int .i64 a0 ∧ aa (bh.l2 kq b0 (wrap64 (k0 + 1)) f0 n0 p0 a0 = some r) ∧ aa (kq ≤ k2) ∧ aa (Kd.R (Kd.int .i64) 3 w' w.heap.size (fun _ => True) K0 b0) ∧ aa (Below w.heap.size w w'))
  case atStart => exact ⟨(y0), (n0), f0_, H', ⟨Aa _⟩, ⟨rR_ d0.o⟩, ⟨hB_⟩⟩
  clear H'
  obtain ⟨b0, a0, rfl, HA, r1, d0, HB⟩ := hrel
  rcases gk with _ | k3
  ·exact absurd HA.o (by simp [bh.l2])
  have H := HA.o
  clear HA
  simp only [bh.l2] at H
  by_cases U0 : a0 < (wrap64 (n0 + f0))
  rotate_left
  ·rw [Ea U0] at H
   have b1 := xa U0
   clear U0
   have H' := c_ H
   clear H
   go_wp2
   go_roundg k3
   case measure => have := S0.o; have := T0.o; have := r1.o; omega
   case rel => exact ⟨(b0), ((wrap64 (k0 + 1))), (wrap64 (n0 + (wrap64 (2 * f0)))), f0_, f0_, H', ⟨by have := S0.o; have := T0.o; have := r1.o; omega⟩, ⟨rR_ d0.o⟩, ⟨hB_⟩⟩
  rw [Da U0] at H
  have b1 := wa U0
  clear U0
  obtain ⟨e0, B0⟩ : ∃ j_ : Int, (wrap64 (a0 + f0)) = j_ := ⟨_, rfl⟩
  first | rw [B0] at H | simp only [B0] at H
  have E1 : (IntKind.i64.wrap (a0 + f0)) = e0 := (bv _).trans B0
  obtain ⟨S1, H⟩ := iD_ H
  obtain ⟨T1, H⟩ := iD_ H
  obtain ⟨U1, H⟩ := iD_ H
  obtain ⟨V1, H⟩ := iD_ H
  obtain ⟨x0, t0⟩ : ∃ y_ : List Int, y_ = (b0.set ((e0) : Int).toNat (Int.tmod (wrap64 ((wrap64 ((rd b0 a0) - (Int.tmod (wrap64 (p0 * (rd b0 (e0)))) 3329))) + 3329)) 3329)) := ⟨_, rfl⟩
  first | replace H := yb_ t0 H | rw [← t0] at H
  have I0 := c_ t0
  clear t0
  obtain ⟨c1, u0⟩ : ∃ y_ : List Int, y_ = (x0.set (a0 : Int).toNat (Int.tmod (wrap64 ((rd x0 a0) + (Int.tmod (wrap64 (p0 * (rd b0 (e0)))) 3329))) 3329)) := ⟨_, rfl⟩
  first | replace H := yb_ u0 H | rw [← u0] at H
  have d1 := c_ u0
  clear u0
  have H' := c_ H
  clear H
  obtain ⟨b2, e1, F1⟩ := s7 d0.o
  subst F1
  have M0 : 0 ≤ ((e0) : Int) := oD_
  have N0 : (e0) < (b0.length : Int) := oD_
  obtain ⟨f1, G1, F0⟩ := tb (sX d0.o).2.2 (e0) M0 N0
  cases G1
  replace M0 := ya M0
  replace N0 := ya N0
  have O0 : 0 ≤ (a0 : Int) := oD_
  have P0 : a0 < (b0.length : Int) := oD_
  obtain ⟨g1, H1, G0⟩ := tb (sX d0.o).2.2 a0 O0 P0
  obtain rfl : f1 = g1 := (by injection H1)
  replace O0 := ya O0
  replace P0 := ya P0
  have I1 : 0 ≤ ((e0) : Int) := oD_
  have J1 : ((e0) : Int) < ((b0.length : Int) : Int) := oD_
  obtain ⟨go18, c2, i1, j1, gl18, cl18, HG18⟩ := tt d0.o (by omega)
  (first | cases i1 | (injection i1 with ea_ en_ ec_; (first | subst ea_ | (injection ea_ with ea_; subst ea_)); subst ec_; clear en_))
  have m1 := c_ j1
  have GG18 := c_ HG18
  clear j1 gl18 HG18
  (first | simp only [b9] at F0 | skip)
  (first | simp only [b9] at G0 | skip)
  obtain ⟨K1, hf18_0⟩ := te 0 d0.o ((e0) : Int) I1 J1
  replace I1 := ya I1
  replace J1 := ya J1
  have HP21 := tm d0.o ((e0) : Int) (Int.tmod (wrap64 ((wrap64 ((rd b0 a0) - (Int.tmod (wrap64 (p0 * (rd b0 (e0)))) 3329))) + 3329)) 3329)
  go_wp2_with (first | ((refine cn (t := 3) (p := 61) rfl ?_); refine ce (t := 3) (p := 61) (v := ?vo_w22) (w1 := (wr.setCell ⟨go18, ((e0) : Int).toNat, none⟩ (.int .i64 (Int.tmod (wrap64 ((wrap64 ((rd b0 a0) - (Int.tmod (wrap64 (p0 * (rd b0 (e0)))) 3329))) + 3329)) 3329)))) ?hg ?ho ?hn ?hr ?_; (case ho => rfl); (case hg => rfl); (case hn => rfl); (case hr => first | (go_simp; done) | (go_simp; rfl)); intro n1 hw; have hg : wr.grownBy n1 (some go18) := (by rw [hw]; exact HP21.2); have hp_ : Kd.R (Kd.int .i64) 3 n1 w.heap.size (fun _ => True) (.slice (some ⟨go18, 0, none⟩) b0.length e1) x0 := (by rw [hw, I0.o]; exact HP21.1); clear HP21; obtain ⟨d0, HB⟩ := b_ (hp_) <| c_ (by rw [hw]; exact cq (HB.o) m1.o : Below w.heap.size w n1); clear hg hw hp_; have Q0 : 0 ≤ (a0 : Int) := oD_; have R0 : a0 < (x0.length : Int) := (by have h_ : (a0 : Int) < ((b0.length : Int) : Int) := oD_; first | (have e_ := (sX d0.o).1; omega) | simpa only [I0.o, List.length_set] using h_); have ql157 : ((a0 : Int) < ((b0.length : Int) : Int)) = True := ya oD_; obtain ⟨p1, L1, j0⟩ := tb (sX d0.o).2.2 a0 Q0 R0; obtain rfl : (⟨go18, 0, none⟩ : Addr) = p1 := (by injection L1); (first | simp only [b9] at j0 | simp only [mU] at j0 | simp only [Addr.add, Nat.zero_add] at j0 | skip); replace Q0 := ya Q0; replace R0 := ya R0; have M1 : 0 ≤ (a0 : Int) := oD_; have N1 : (a0 : Int) < ((b0.length : Int) : Int) := oD_; obtain ⟨O1, hf19_0⟩ := te 0 d0.o (a0 : Int) M1 N1; replace M1 := ya M1; replace N1 := ya N1; obtain ⟨X1, hz23_⟩ := te 0 d0.o (a0 : Int) oD_ oD_; have HP23 := tm d0.o (a0 : Int) (Int.tmod (wrap64 ((rd x0 a0) + (Int.tmod (wrap64 (p0 * (rd b0 (e0)))) 3329))) 3329)) | ((refine cn (t := 3) (p := 71) rfl ?_); refine ce (t := 3) (p := 71) (v := ?vo_w24) (w1 := (n1.setCell ⟨go18, (a0 : Int).toNat, none⟩ (.int .i64 (Int.tmod (wrap64 ((rd x0 a0) + (Int.tmod (wrap64 (p0 * (rd b0 (e0)))) 3329))) 3329)))) ?hg ?ho ?hn ?hr ?_; (case ho => rfl); (case hg => rfl); (case hn => rfl); (case hr => first | (go_simp; done) | (go_simp; rfl)); intro P1 hw; have hg : n1.grownBy P1 (some go18) := (by rw [hw]; exact HP23.2); have hp_ : Kd.R (Kd.int .i64) 3 P1 w.heap.size (fun _ => True) (.slice (some ⟨go18, 0, none⟩) b0.length e1) c1 := (by rw [hw, d1.o]; exact HP23.1); clear HP23; obtain ⟨d0, HB⟩ := b_ (hp_) <| c_ (by rw [hw]; exact cq (HB.o) m1.o : Below w.heap.size w P1); clear hg hw hp_))
  go_roundg k3
  case measure => have := S0.o; have := T0.o; have := r1.o; omega
  case rel => exact ⟨(c1), (wrap64 (a0 + 1)), f0_, H', ⟨by have := S0.o; have := T0.o; have := r1.o; omega⟩, ⟨rR_ d0.o⟩, ⟨hB_⟩⟩
 ·replace c3 := Ca c3
  subst c3
  replace H := iF_ H
  obtain ⟨d2, v0⟩ : ∃ y_ : List Int, y_ = (([] : List Int)) := ⟨_, rfl⟩
  first | replace H := yb_ v0 H | rw [← v0] at H
  have J0 := c_ v0
  clear v0
  obtain rfl := za H
  go_enter Tryz.func27, Tryz.ntmps27
  go_wp2_with (first | (refine gq_ 65 (some 11) Tryz.func65 #[.slice A0 l0.length c0] (ao.calls k _ _ l0 false _ ?side1 ?side2 A2.o) ?_; (case side1 => exact cR_ t1.o); (case side2 => exact R1.o); rintro e w' ⟨rfl, ⟨nd, rfl⟩⟩; refine ⟨_, rfl, ?_⟩) | ((refine aI (N := 13) rfl ?_); refine tn (Kd.int .i64) _ 3 ?hg (N := 13) ?hd (xs := ([] : List Int)) (inner := []) (ok := fun _ => True) (okp := fun _ => True) ?hr ?hp (fun _ hk => hk) trivial (Ba _ _) (Aa _) (by simp) ?_; (case hd => rfl); (case hg => rfl); (case hr => first | (go_simp; done) | (go_simp; rfl)); (case hp => exact (bA.none _ _)); intro e2 f2 C0 hb hg_ hnew_; clear hg_ hnew_; (first | rw [← J0.o] at C0 | (simp only [Int.reduceToNat] at C0; rw [← J0.o] at C0)); obtain ⟨q1, HB⟩ := b_ (sZ C0 (ac (hB_))) <| c_ (ab (hB_) hb); clear hb C0))
  go_ret
  exact ⟨_, f1_, rR_ q1.o, hB_⟩
def bs.j0 : Nat → Int → Int → Bool → Option (Int)
 | 0, _, _, _ => none
 | k + 1, x0, x1, x15 => if x15 = true then (some 0) else ((au.f k (wrap64 (x1 - 1))).bind fun t162 => ((au.f k x1).bind fun t163 => (if t163 = 0 then (none) else (some (wrap64 (Int.tdiv (wrap64 ((wrap64 (3329 * x0)) + t162)) t163))))))
def bs.f (k : Nat) (a0 : Int) (a1 : Int) : Option (Int) := (aY.f a1 1 11).bind fun t159 => (if t159 = true then ((au.f k a1).bind fun t160 => ((aY.f a0 0 (wrap64 (t160 - 1))).bind fun t161 => (bs.j0 k a0 a1 (!t161)))) else (bs.j0 k a0 a1 true))
theorem bs.mono_l : ∀ k, (∀ y0 y1 y2, LeO (bs.j0 k y0 y1 y2) (bs.j0 (k + 1) y0 y1 y2))
 | 0 => fun _ _ _ r h => by simp [bs.j0] at h
 | k + 1 => by
  have ih0 := bs.mono_l k
  intros; unfold bs.j0; exact o2_ ih0 au.mono
theorem bs.mono : ∀ a0 a1 k, LeO (bs.f k a0 a1) (bs.f (k + 1) a0 a1) := by
 intro a0 a1 k
 have ih0 := bs.mono_l k
 unfold bs.f
 exact o2_ ih0 au.mono
theorem bs.calls (k : Nat) (a0 : Int) (a1 : Int) (r : Int) (w : World) (h : bs.f k a0 a1 = some r) :
  Calls Tryz.prog 69 #[.int .i64 a0, .int .i64 a1] w fun e w' => e = .returned (.int .i64 r) ∧ cx w w' := by
 delta bs.f at h
 have H := h
 clear h
 have n0 := c_ H
 clear H
 go_enter Tryz.func69, Tryz.ntmps69
 go_upto_region 1 with (fail)
 go_cut [15] (fun v0 wc => ∃ (kq : Nat) (b0 : Bool), v0 = .bool b0 ∧ aa (bs.j0 kq a0 a1 b0 = some r) ∧ aa (kq ≤ k) ∧ cx w wc)
 case first =>
  have H := n0.o
  clear n0
  obtain ⟨p0, A4, H⟩ := bN_ H
  by_cases c5 : p0 = true
  ·subst c5
   replace H := iT_ H
   obtain ⟨e0, A6, H⟩ := bN_ H
   obtain ⟨f0, A7, H⟩ := bN_ H
   have H' := c_ H
   clear H
   go_wp2_with (first | (refine gq_ 71 (some 6) Tryz.func71 #[.int .i64 a1, .int .i64 1, .int .i64 11] (aY.calls a1 1 11 true _ A4.o) ?_; rintro e w' ⟨rfl, ⟨nd, rfl⟩⟩; refine ⟨_, rfl, ?_⟩) | (go_at_call 72; (with_reducible refine (au.calls k a1 e0 _ A6.o).mono ?_); rintro e w' ⟨rfl, ⟨nd, rfl⟩⟩) | (go_at_call 71; (with_reducible refine (aY.calls a0 0 (wrap64 (e0 - 1)) f0 _ A7.o).mono ?_); rintro e w' ⟨rfl, ⟨nd, rfl⟩⟩))
   go_meet
   case rel => exact ⟨_, (!f0), f0_, H', ⟨by first | omega | exact Aa _⟩, d0_⟩
  ·replace c5 := Ca c5
   subst c5
   replace H := iF_ H
   have H' := c_ H
   clear H
   go_wp2_with (first | (refine gq_ 71 (some 6) Tryz.func71 #[.int .i64 a1, .int .i64 1, .int .i64 11] (aY.calls a1 1 11 false _ A4.o) ?_; rintro e w' ⟨rfl, ⟨nd, rfl⟩⟩; refine ⟨_, rfl, ?_⟩))
   go_meet
   case rel => exact ⟨_, (true), f0_, H', ⟨by first | omega | exact Aa _⟩, d0_⟩
 clear n0
 obtain ⟨kq, b0, rfl, HA, y0, ⟨mc2, rfl⟩⟩ := hcut
 rcases kq with _ | r0
 ·exact absurd HA.o (by simp [bs.j0])
 have H := HA.o
 clear HA
 simp only [bs.j0] at H
 by_cases c8 : b0 = true
 ·subst c8
  replace H := iT_ H
  obtain rfl := za H
  go_wp2
  go_ret
  exact ⟨f0_, d0_⟩
 ·replace c8 := Ca c8
  subst c8
  replace H := iF_ H
  obtain ⟨q0, A9, H⟩ := bN_ H
  obtain ⟨d0, x0, H⟩ := bN_ H
  by_cases k0 : d0 = 0
  ·rw [Da k0] at H
   exact absurd H (by simp)
  rw [Ea k0] at H
  have t0 : (d0 == 0) = false := beq_eq_false_iff_ne.mpr k0
  have u0 : (d0 != 0) = true := bne_iff_ne.mpr k0
  obtain rfl := za H
  go_wp2_with (first | (refine gq_ 72 (some 20) Tryz.func72 #[.int .i64 (wrap64 (a1 - 1))] (au.calls r0 (wrap64 (a1 - 1)) q0 _ A9.o) ?_; rintro e w' ⟨rfl, ⟨nd, rfl⟩⟩; refine ⟨_, rfl, ?_⟩) | (refine gq_ 72 (some 23) Tryz.func72 #[.int .i64 a1] (au.calls r0 a1 d0 _ x0.o) ?_; rintro e w' ⟨rfl, ⟨nd, rfl⟩⟩; refine ⟨_, rfl, ?_⟩))
  go_ret
  exact ⟨f0_, d0_⟩
def aJ.l0 : Nat → Int → List Int → Int → Option (List Int)
 | 0, _, _, _ => none
 | k + 1, x1, x5, x7 => if x7 < (x5.length : Int) then (if 0 ≤ x7 then ((bs.f k (rd x5 x7) x1).bind fun t169 => (aJ.l0 k x1 (x5.set (x7 : Int).toNat t169) (wrap64 (x7 + 1)))) else (none)) else (some x5)
def aJ.f (k : Nat) (a0 : ByteArray) (a1 : Int) : Option (List Int) := (aw.f k a0 a1 256).bind fun bt164 => (aJ.l0 k a1 bt164.1 0)
theorem aJ.mono_l : ∀ k, (∀ y0 y1 y2, LeO (aJ.l0 k y0 y1 y2) (aJ.l0 (k + 1) y0 y1 y2))
 | 0 => fun _ _ _ r h => by simp [aJ.l0] at h
 | k + 1 => by
  have ih0 := aJ.mono_l k
  intros; unfold aJ.l0; exact o3_ ih0 bs.mono aw.mono
theorem aJ.mono : ∀ a0 a1 k, LeO (aJ.f k a0 a1) (aJ.f (k + 1) a0 a1) := by
 intro a0 a1 k
 have ih0 := aJ.mono_l k
 unfold aJ.f
 exact o3_ ih0 bs.mono aw.mono
theorem aJ.calls (k : Nat) (a0 : ByteArray) (a1 : Int) (r : List Int) (w : World) (h : aJ.f k a0 a1 = some r) :
  Calls Tryz.prog 28 #[.string a0, .int .i64 a1] w fun e w' => ∃ F0 : Value, e = .returned (F0) ∧ Kd.R (Kd.int .i64) 3 w' w.heap.size (fun _ => True) F0 r ∧ Below w.heap.size w w' := by
 have HB := c_ (Ba w.heap.size w)
 delta aJ.f at h
 have H := h
 clear h
 obtain ⟨⟨q0, x0⟩, A3, H⟩ := bN_ H
 have H' := c_ H
 clear H
 go_enter Tryz.func28, Tryz.ntmps28
 go_wp2_with (first | (refine gq_ 68 (some 11) Tryz.func68 #[.string a0, .int .i64 a1, .int .i64 256] (aw.calls k a0 a1 256 q0 x0 _ A3.o) ?_; rintro e w4 ⟨y0, rfl, G0, hb⟩; refine ⟨_, rfl, ?_⟩; obtain ⟨r0, HB⟩ := b_ (sZ G0 (ac (hB_))) <| c_ (ab (hB_) hb); (try clear G0)))
 go_loopg [7] k (fun kq v7 w' => ∃ (d0 : List Int) (b0 : Int), v7 = .int .i64 b0 ∧ aa (aJ.l0 kq a1 d0 b0 = some r) ∧ aa (kq ≤ k) ∧ aa (Kd.R (Kd.int .i64) 3 w' w.heap.size (fun _ => True) y0 d0) ∧ aa (Below w.heap.size w w'))
 case atStart => exact ⟨(q0), (0), f0_, H', ⟨Aa _⟩, ⟨rR_ r0.o⟩, ⟨hB_⟩⟩
 clear H'
 obtain ⟨d0, b0, rfl, HA, H0, e0, HB⟩ := hrel
 rcases gk with _ | k1
 ·exact absurd HA.o (by simp [aJ.l0])
 have H := HA.o
 clear HA
 simp only [aJ.l0] at H
 by_cases c5 : b0 < (d0.length : Int)
 ·rw [Da c5] at H
  have B0 := wa c5
  clear c5
  obtain ⟨N0, H⟩ := iD_ H
  obtain ⟨j0, A7, H⟩ := bN_ H
  obtain ⟨t0, f0⟩ : ∃ y_ : List Int, y_ = (d0.set (b0 : Int).toNat j0) := ⟨_, rfl⟩
  first | replace H := yb_ f0 H | rw [← f0] at H
  have u0 := c_ f0
  clear f0
  have H' := c_ H
  clear H
  obtain ⟨S0, I0, O0⟩ := s7 e0.o
  subst O0
  have n0 : 0 ≤ (b0 : Int) := oD_
  have p0 : b0 < (d0.length : Int) := oD_
  obtain ⟨v0, C0, k0⟩ := tb (sX e0.o).2.2 b0 n0 p0
  cases C0
  replace n0 := ya n0
  replace p0 := ya p0
  go_wp2_with (first | (refine gq_ 69 (some 27) Tryz.func69 #[.int .i64 (rd d0 b0), .int .i64 a1] (bs.calls k1 (rd d0 b0) a1 j0 _ A7.o) ?_; rintro e w' ⟨rfl, ⟨nd, rfl⟩⟩; refine ⟨_, rfl, ?_⟩; (try (rw [da wr]; generalize hq_ : World.drewN wr _ = wr; obtain ⟨e0, HB⟩ := b_ (show Kd.R (Kd.int .i64) 3 wr w.heap.size (fun _ => True) (.slice (some v0) d0.length I0) d0 from by rw [← hq_]; exact (rR_ e0.o)) <| c_ (show Below w.heap.size w wr from by rw [← hq_]; exact (hB_)))); have p8 : 0 ≤ (b0 : Int) := oD_; have q8 : (b0 : Int) < ((d0.length : Int) : Int) := oD_; obtain ⟨go8, T0, J0, K0, gl8, cl8, HG8⟩ := tt e0.o (by omega); (first | cases J0 | (injection J0 with ea_ en_ ec_; (first | subst ea_ | (injection ea_ with ea_; subst ea_)); subst ec_; clear en_)); have P0 := c_ K0; have GG8 := c_ HG8; clear K0 gl8 HG8; (first | simp only [b9] at k0 | skip); obtain ⟨L0, hf8_0⟩ := te 0 e0.o (b0 : Int) p8 q8; replace p8 := ya p8; replace q8 := ya q8; obtain ⟨M0, hz10_⟩ := te 0 e0.o (b0 : Int) oD_ oD_; have HP10 := tm e0.o (b0 : Int) j0) | ((refine cn (t := 3) (p := 28) rfl ?_); refine ce (t := 3) (p := 28) (v := ?vo_w11) (w1 := (wr.setCell ⟨go8, (b0 : Int).toNat, none⟩ (.int .i64 j0))) ?hg ?ho ?hn ?hr ?_; (case ho => rfl); (case hg => rfl); (case hn => rfl); (case hr => first | (go_simp; done) | (go_simp; rfl)); intro D0 hw; have hg : wr.grownBy D0 (some go8) := (by rw [hw]; exact HP10.2); have hp_ : Kd.R (Kd.int .i64) 3 D0 w.heap.size (fun _ => True) (.slice (some ⟨go8, 0, none⟩) d0.length I0) t0 := (by rw [hw, u0.o]; exact HP10.1); clear HP10; obtain ⟨e0, HB⟩ := b_ (hp_) <| c_ (by rw [hw]; exact cq (HB.o) P0.o : Below w.heap.size w D0); clear hg hw hp_))
  go_roundg k1
  case measure => have := H0.o; omega
  case rel => exact ⟨(t0), (wrap64 (b0 + 1)), f0_, H', ⟨by have := H0.o; omega⟩, ⟨rR_ e0.o⟩, ⟨hB_⟩⟩
 rw [Ea c5] at H
 have B0 := xa c5
 clear c5
 obtain rfl := za H
 obtain ⟨Q0, R0, E0⟩ := s7 e0.o
 subst E0
 go_wp2
 go_ret
 exact ⟨_, f1_, rR_ e0.o, hB_⟩
mutual
def aC.j0 : Nat → List Int → List Int → List Int → Bool → Option (List Int)
 | 0, _, _, _, _ => none
 | k + 1, x0, x1, x5, x15 => if x15 = true then (some x5) else (aC.l0 k x0 x1 x5 0)
def aC.l0 : Nat → List Int → List Int → List Int → Int → Option (List Int)
 | 0, _, _, _, _ => none
 | k + 1, x0, x1, x5, x6 => if x6 < 256 then (if 0 ≤ x6 then (if x6 < (x0.length : Int) then (if x6 < (x1.length : Int) then (if x5.length < 17592186044416 then (aC.l0 k x0 x1 (x5 ++ [Int.tmod (wrap64 ((wrap64 ((rd x0 x6) - (rd x1 x6))) + 3329)) 3329]) (wrap64 (x6 + 1))) else (none)) else (none)) else (none)) else (none)) else (some x5)
end
def aC.f (k : Nat) (l0 : List Int) (l1 : List Int) : Option (List Int) := (some (([] : List Int) : List Int)).bind fun y171 => ((ao.f k l0).bind fun t174 => (if t174 = true then ((ao.f k l1).bind fun t175 => (aC.j0 k l0 l1 y171 (!t175))) else (aC.j0 k l0 l1 y171 true)))
theorem aC.mono_l : ∀ k, (∀ y0 y1 y2 y3, LeO (aC.j0 k y0 y1 y2 y3) (aC.j0 (k + 1) y0 y1 y2 y3)) ∧ (∀ y0 y1 y2 y3, LeO (aC.l0 k y0 y1 y2 y3) (aC.l0 (k + 1) y0 y1 y2 y3))
 | 0 => ⟨fun _ _ _ _ r h => by simp [aC.j0] at h, fun _ _ _ _ r h => by simp [aC.l0] at h⟩
 | k + 1 => by
  obtain ⟨ih0, ih1⟩ := aC.mono_l k
  refine ⟨?_, ?_⟩ <;> (intros; (first | unfold aC.j0 | unfold aC.l0); exact o3_ ih0 ih1 ao.mono)
theorem aC.mono : ∀ a0 a1 k, LeO (aC.f k a0 a1) (aC.f (k + 1) a0 a1) := by
 intro a0 a1 k
 obtain ⟨ih0, ih1⟩ := aC.mono_l k
 unfold aC.f
 exact o3_ ih0 ih1 ao.mono
def aC.T7 : Bool × List (List Nat × List Nat) := (true, [([], []), ([], []), ([], []), ([1, 2], [1, 2]), ([3], [3]), ([], []), ([], []), ([5, 6], [5, 6]), ([7], [7]), ([4, 8], [4, 8]), ([9], [9]), ([10], [10]), ([11], [11]), ([0, 12], [0, 12]), ([13, 13, 0, 1, 2, 3, 4, 5, 6, 7, 8, 9, 10, 11, 12, 13], [0, 13])])
def aC.B7 : List Nat := [0, 0, 0, 6, 14, 0, 0, 96, 224, 510, 1022, 2046, 4094, 8191, 16383]
theorem aC.tab7 : d8 .any (fb Tryz.f29 7) = aC.T7 := by kernel_rfl
theorem aC.bits7 : db aC.T7.2 aC.B7 = true := by kernel_rfl
theorem aC.calls (k : Nat) (A0 : Option Addr) (c0 : Nat) (l0 : List Int) (A1 : Option Addr) (c1 : Nat) (l1 : List Int) (r : List Int) (w : World) (hr0 : Kd.C (Kd.int .i64) w A0 l0.length l0) (hc0 : l0.length ≤ c0) (hr1 : Kd.C (Kd.int .i64) w A1 l1.length l1) (hc1 : l1.length ≤ c1) (h : aC.f k l0 l1 = some r) :
  Calls Tryz.prog 29 #[.slice A0 l0.length c0, .slice A1 l1.length c1] w fun e w' => ∃ T0 : Value, e = .returned (T0) ∧ Kd.R (Kd.int .i64) 3 w' w.heap.size (fun _ => True) T0 r ∧ Below w.heap.size w w' := by
 have M0 := c_ hr0
 have U0 := c_ hc0
 clear hr0 hc0
 have V0 := c_ hr1
 have f1 := c_ hc1
 clear hr1 hc1
 have HB := c_ (Ba w.heap.size w)
 delta aC.f at h
 have H := h
 clear h
 obtain ⟨v0, n0⟩ : ∃ y_ : List Int, y_ = (([] : List Int)) := ⟨_, rfl⟩
 first | replace H := yb_ n0 H | rw [← n0] at H
 have t0 := c_ n0
 clear n0
 have N0 := c_ H
 clear H
 go_enter Tryz.func29, Tryz.ntmps29
 go_upto_region 2 with (first | ((refine aI (N := 7) rfl ?_); refine tn (Kd.int .i64) _ 3 ?hg (N := 7) ?hd (xs := ([] : List Int)) (inner := []) (ok := fun _ => True) (okp := fun _ => True) ?hr ?hp (fun _ hk => hk) trivial (Ba _ _) (Aa _) (by simp) ?_; (case hd => rfl); (case hg => rfl); (case hr => first | (go_simp; done) | (go_simp; rfl)); (case hp => exact (bA.none _ _)); intro O0 w4 E0 hb hg_ hnew_; clear hg_ hnew_; (first | rw [← t0.o] at E0 | (simp only [Int.reduceToNat] at E0; rw [← t0.o] at E0)); obtain ⟨u0, HB⟩ := b_ (sZ E0 (ac (hB_))) <| c_ (ab (hB_) hb); clear hb E0))
 (try simp only [Act.put, List.setIfInBounds_toArray, List.set_cons_zero, List.set_cons_succ])
 go_cut [15] (fun g1 wc => ∃ (kq : Nat) (p0 : Bool), g1 = .bool p0 ∧ aa (aC.j0 kq l0 l1 v0 p0 = some r) ∧ aa (kq ≤ k) ∧ aa (Kd.R (Kd.int .i64) 3 wc w.heap.size (fun _ => True) O0 v0) ∧ aa (Below w.heap.size w wc))
 case first =>
  have H := N0.o
  clear N0
  obtain ⟨P0, A6, H⟩ := bN_ H
  by_cases c7 : P0 = true
  ·subst c7
   replace H := iT_ H
   obtain ⟨F0, A8, H⟩ := bN_ H
   have H' := c_ H
   clear H
   go_wp2_with (first | (refine gq_ 65 (some 9) Tryz.func65 #[.slice A0 l0.length c0] (ao.calls k _ _ l0 true _ ?side1 ?side2 A6.o) ?_; (case side1 => exact cR_ (tg M0.o HB.o)); (case side2 => exact U0.o); rintro e w' ⟨rfl, ⟨nd, rfl⟩⟩; refine ⟨_, rfl, ?_⟩) | (go_at_call 65; (with_reducible refine (ao.calls k _ _ l1 F0 _ ?side1 ?side2 A8.o).mono ?_); (case side1 => exact cR_ (tg V0.o (hB_))); (case side2 => exact f1.o); rintro e w' ⟨rfl, ⟨nd, rfl⟩⟩))
   go_meet
   case rel => exact ⟨_, (!F0), f0_, H', ⟨by first | omega | exact Aa _⟩, ⟨rR_ u0.o⟩, ⟨hB_⟩⟩
  ·replace c7 := Ca c7
   subst c7
   replace H := iF_ H
   have H' := c_ H
   clear H
   go_wp2_with (first | (refine gq_ 65 (some 9) Tryz.func65 #[.slice A0 l0.length c0] (ao.calls k _ _ l0 false _ ?side1 ?side2 A6.o) ?_; (case side1 => exact cR_ (tg M0.o HB.o)); (case side2 => exact U0.o); rintro e w' ⟨rfl, ⟨nd, rfl⟩⟩; refine ⟨_, rfl, ?_⟩))
   go_meet
   case rel => exact ⟨_, (true), f0_, H', ⟨by first | omega | exact Aa _⟩, ⟨rR_ u0.o⟩, ⟨hB_⟩⟩
 clear N0
 obtain ⟨kq, p0, rfl, HA, W0, k0, HB⟩ := hcut
 rcases kq with _ | X0
 ·exact absurd HA.o (by simp [aC.j0])
 have H := HA.o
 clear HA
 simp only [aC.j0] at H
 by_cases c9 : p0 = true
 ·subst c9
  replace H := iT_ H
  obtain rfl := za H
  go_wp2
  go_ret
  exact ⟨_, f1_, rR_ k0.o, hB_⟩
 ·replace c9 := Ca c9
  subst c9
  replace H := iF_ H
  have H' := c_ H
  clear H
  go_wp2
  go_loopg [5, 6] X0 (fun kq v5 v6 w' => ∃ (r0 : List Int) (a0 : Int), v6 = .int .i64 a0 ∧ aa (aC.l0 kq l0 l1 r0 a0 = some r) ∧ aa (kq ≤ X0) ∧ aa (Kd.R (Kd.int .i64) 3 w' w.heap.size (fun _ => True) v5 r0) ∧ aa (Below w.heap.size w w'))
  case atStart => exact ⟨(v0), (0), f0_, H', ⟨Aa _⟩, ⟨rR_ k0.o⟩, ⟨hB_⟩⟩
  clear H'
  obtain ⟨r0, a0, rfl, HA, Y0, k0, HB⟩ := hrel
  rcases gk with _ | k2
  ·exact absurd HA.o (by simp [aC.l0])
  have H := HA.o
  clear HA
  simp only [aC.l0] at H
  by_cases D0 : a0 < 256
  rotate_left
  ·rw [Ea D0] at H
   have G0 := xa D0
   clear D0
   obtain rfl := za H
   go_wp2
   go_ret
   exact ⟨_, f1_, rR_ k0.o, hB_⟩
  rw [Da D0] at H
  have G0 := wa D0
  clear D0
  obtain ⟨Z0, H⟩ := iD_ H
  obtain ⟨b1, H⟩ := iD_ H
  obtain ⟨d1, H⟩ := iD_ H
  obtain ⟨e1, H⟩ := iN_ H
  have H0 := c_ e1
  clear e1
  obtain ⟨Q0, q0⟩ : ∃ y_ : List Int, y_ = (r0 ++ [Int.tmod (wrap64 ((wrap64 ((rd l0 a0) - (rd l1 a0))) + 3329)) 3329]) := ⟨_, rfl⟩
  first | replace H := yb_ q0 H | rw [← q0] at H
  have I0 := c_ q0
  clear q0
  have H' := c_ H
  clear H
  try go_wp2
  obtain ⟨k0, HB⟩ := b_ (tl k0.o) <| c_ (b8 HB.o)
  have x0 : 0 ≤ (a0 : Int) := oD_
  have y0 : a0 < (l0.length : Int) := oD_
  obtain ⟨J0, R0, b0⟩ := tb M0.o a0 x0 y0
  have d0 := b0
  cases R0
  replace b0 := hc_ b0
  replace x0 := ya x0
  replace y0 := ya y0
  have B0 : 0 ≤ (a0 : Int) := oD_
  have C0 : a0 < (l1.length : Int) := oD_
  obtain ⟨K0, S0, e0⟩ := tb V0.o a0 B0 C0
  have f0 := e0
  cases S0
  replace e0 := hc_ e0
  replace B0 := ya B0
  replace C0 := ya C0
  refine d9 (n := 15) (S := fun w' => w'.cell? (J0.add (a0).toNat) = some (.int .i64 (rd l0 a0)) ∧ w'.cell? (K0.add (a0).toNat) = some (.int .i64 (rd l1 a0))) (ds := []) (bb_ 15 0) (by kernel_rfl) rfl rfl ⟨(hc_ d0), (hc_ f0)⟩ (fun hHeld => ?_); refine cN aC.tab7 aC.bits7 (fun HT_ HW_ => ?_)
  generalize wr.drew = j1 at k0 HB b0 e0 hHeld ⊢
  refine pT_ 0 21 15 1 ?_
  refine pT_ 1 22 15 3 ?_
  refine pT_ 2 23 15 7 ?_
  refine pT_ 3 24 15 15 ?_
  refine pT_ 5 26 15 47 ?_
  refine pT_ 6 27 15 111 ?_
  refine pT_ 7 28 15 239 ?_
  refine tS_ 4 25 (bb_ 15 255) (bx HT_.o HW_.o (by kernel_rfl)) hHeld ?_
  refine tS_ 8 29 (bb_ 15 511) (bx HT_.o HW_.o (by kernel_rfl)) hHeld ?_
  refine pT_ 9 30 15 1023 ?_
  refine pT_ 10 31 15 2047 ?_
  refine pT_ 11 32 15 4095 ?_
  refine fC (i := 12) (N := some 33) (bb_ 15 8191) rfl rfl (cD HT_.o (by kernel_rfl)) (by decide) (fun K hK => ?_)
  refine m0 (w1 := ?_) (v := ?_) (by rfl) rfl ?_ ?_
  rotate_left 2
  ·go_simp
   constructor
   ·rfl
   ·rfl
  refine hK _ _ ⟨(World.cell?_alloc_lt _ _ _ (World.block_lt_of_cell? _ _ ((hc_ d0)))).trans ((hc_ d0)), (World.cell?_alloc_lt _ _ _ (World.block_lt_of_cell? _ _ ((hc_ f0)))).trans ((hc_ f0))⟩ (fun hHeld => ?_)
  clear hK K
  refine dL (a' := ?_) ?_ ?_
  rotate_left
  ·show Act.put _ (some 33) _ = _
   simp only [Act.put, List.setIfInBounds_toArray, List.set_cons_zero, List.set_cons_succ, bv, cG]
   rfl
  refine fC (i := 13) (N := some 34) (bb_ 15 16383) rfl rfl (cD HT_.o (by kernel_rfl)) (by decide) (fun K hK => ?_)
  refine tD (Kd.int .i64) (w0 := w) w.heap.size (by rfl) (.tmp 21) (.tmp 33) 28 3 (.int .i64 0) 8 rfl Tryz.underlying28 cY rfl (by decide) (by omega) u5 r0 (Int.tmod (wrap64 ((wrap64 ((rd l0 a0) - (rd l1 a0))) + 3329)) 3329) [.int .i64 (Int.tmod (wrap64 ((wrap64 ((rd l0 a0) - (rd l1 a0))) + 3329)) 3329)] (fun _ => True) (fun _ => False) rfl rfl ?aP (fun _ hk => hk.elim) ?aF ?aO ?aB ?aS ?aL ?_
  (case aP => exact rfl)
  (case aB => exact (hB_))
  (case aF => exact (fun _ _ => trivial))
  (case aO => exact (rR_ k0.o))
  (case aS => exact (ac (hB_)))
  (case aL => have := H0.o; omega)
  intro i1 m1 ho hb hg hat
  rw [← I0.o] at ho
  obtain ⟨HB, L0⟩ := b_ (hb) <| c_ (ho)
  clear ho hb hg hat
  refine hK _ _ ⟨(hc_ d0), (hc_ f0)⟩ (fun hHeld => ?_)
  clear hK K
  refine dL (a' := ?_) ?_ ?_
  rotate_left
  ·show Act.put _ (some 34) _ = _
   simp only [Act.put, List.setIfInBounds_toArray, List.set_cons_zero, List.set_cons_succ, bv, cG]
   rfl
  refine pT_ 14 5 15 32767 ?_
  refine fc (du HT_.o (by kernel_rfl)) ?_
  try go_wp2
  go_roundg k2
  case measure => have := W0.o; have := Y0.o; omega
  case rel => exact ⟨(Q0), (wrap64 (a0 + 1)), f0_, H', ⟨by have := W0.o; have := Y0.o; omega⟩, ⟨rR_ L0.o⟩, ⟨hB_⟩⟩
mutual
def am.l0 : Nat → List Int → Int → Int → Option (List Int)
 | 0, _, _, _ => none
 | k + 1, x3, x4, x5 => if x5 ≤ 128 then (am.l1 k x3 x4 x5 0) else (am.l3 k x3 0)
def am.l1 : Nat → List Int → Int → Int → Int → Option (List Int)
 | 0, _, _, _, _ => none
 | k + 1, x3, x4, x5, x6 => if x6 < 256 then ((bi.f k x4).bind fun t191 => ((br.f k 17 t191).bind fun t192 => (am.l2 k x3 (wrap64 (x4 - 1)) x5 x6 t192 x6))) else (am.l0 k x3 x4 (wrap64 (x5 * 2)))
def am.l2 : Nat → List Int → Int → Int → Int → Int → Int → Option (List Int)
 | 0, _, _, _, _, _, _ => none
 | k + 1, x3, x4, x5, x6, x7, x8 => if x8 < (wrap64 (x6 + x5)) then (if 0 ≤ x8 then (if x8 < (x3.length : Int) then (if 0 ≤ (wrap64 (x8 + x5)) then (if (wrap64 (x8 + x5)) < (x3.length : Int) then ((some (x3.set (x8 : Int).toNat (Int.tmod (wrap64 ((rd x3 x8) + (rd x3 (wrap64 (x8 + x5))))) 3329) : List Int)).bind fun y195 => (am.l2 k (y195.set ((wrap64 (x8 + x5)) : Int).toNat (Int.tmod (wrap64 (x7 * (wrap64 ((wrap64 ((rd y195 (wrap64 (x8 + x5))) - (rd x3 x8))) + 3329)))) 3329)) x4 x5 x6 x7 (wrap64 (x8 + 1)))) else (none)) else (none)) else (none)) else (none)) else (am.l1 k x3 x4 x5 (wrap64 (x6 + (wrap64 (2 * x5)))))
def am.l3 : Nat → List Int → Int → Option (List Int)
 | 0, _, _ => none
 | k + 1, x3, x10 => if x10 < 256 then (if 0 ≤ x10 then (if x10 < (x3.length : Int) then (am.l3 k (x3.set (x10 : Int).toNat (Int.tmod (wrap64 ((rd x3 x10) * 3303)) 3329)) (wrap64 (x10 + 1))) else (none)) else (none)) else (some x3)
end
def am.f (k : Nat) (l0 : List Int) : Option (List Int) := (ao.f k l0).bind fun t181 => (if t181 = true then ((some (([] : List Int) : List Int)).bind fun y185 => (if y185.length + l0.length < 17592186044416 then (am.l0 k (y185 ++ l0) 127 2) else (none))) else (some (([] : List Int))))
theorem am.mono_l : ∀ k, (∀ y0 y1 y2, LeO (am.l0 k y0 y1 y2) (am.l0 (k + 1) y0 y1 y2)) ∧ (∀ y0 y1 y2 y3, LeO (am.l1 k y0 y1 y2 y3) (am.l1 (k + 1) y0 y1 y2 y3)) ∧ (∀ y0 y1 y2 y3 y4 y5, LeO (am.l2 k y0 y1 y2 y3 y4 y5) (am.l2 (k + 1) y0 y1 y2 y3 y4 y5)) ∧ (∀ y0 y1, LeO (am.l3 k y0 y1) (am.l3 (k + 1) y0 y1))
 | 0 => ⟨fun _ _ _ r h => by simp [am.l0] at h, fun _ _ _ _ r h => by simp [am.l1] at h, fun _ _ _ _ _ _ r h => by simp [am.l2] at h, fun _ _ r h => by simp [am.l3] at h⟩
 | k + 1 => by
  obtain ⟨ih0, ih1, ih2, ih3⟩ := am.mono_l k
  refine ⟨?_, ?_, ?_, ?_⟩ <;> (intros; (first | unfold am.l0 | unfold am.l1 | unfold am.l2 | unfold am.l3); exact o7_ ih0 ih1 ih2 ih3 ao.mono br.mono bi.mono)
theorem am.mono : ∀ a0 k, LeO (am.f k a0) (am.f (k + 1) a0) := by
 intro a0 k
 obtain ⟨ih0, ih1, ih2, ih3⟩ := am.mono_l k
 unfold am.f
 exact o7_ ih0 ih1 ih2 ih3 ao.mono br.mono bi.mono
theorem am.calls (k : Nat) (A0 : Option Addr) (c0 : Nat) (l0 : List Int) (r : List Int) (w : World) (hr0 : Kd.C (Kd.int .i64) w A0 l0.length l0) (hc0 : l0.length ≤ c0) (h : am.f k l0 = some r) :
  Calls Tryz.prog 30 #[.slice A0 l0.length c0] w fun e w' => ∃ p2 : Value, e = .returned (p2) ∧ Kd.R (Kd.int .i64) 3 w' w.heap.size (fun _ => True) p2 r ∧ Below w.heap.size w w' := by
 have I1 := c_ hr0
 have q2 := c_ hc0
 clear hr0 hc0
 have HB := c_ (Ba w.heap.size w)
 delta am.f at h
 have H := h
 clear h
 obtain ⟨J1, A2, H⟩ := bN_ H
 by_cases c3 : J1 = true
 ·subst c3
  replace H := iT_ H
  obtain ⟨c1, r0⟩ : ∃ y_ : List Int, y_ = (([] : List Int)) := ⟨_, rfl⟩
  first | replace H := yb_ r0 H | rw [← r0] at H
  have M0 := c_ r0
  clear r0
  obtain ⟨c4, H⟩ := iN_ H
  have K1 := c_ c4
  clear c4
  obtain ⟨L1, t0⟩ : ∃ y_ : List Int, y_ = (c1 ++ l0) := ⟨_, rfl⟩
  first | replace H := yb_ t0 H | rw [← t0] at H
  have d1 := c_ t0
  clear t0
  have H' := c_ H
  clear H
  go_enter Tryz.func30, Tryz.ntmps30
  go_wp2_with (first | (refine gq_ 65 (some 12) Tryz.func65 #[.slice A0 l0.length c0] (ao.calls k _ _ l0 true _ ?side1 ?side2 A2.o) ?_; (case side1 => exact cR_ I1.o); (case side2 => exact q2.o); rintro e w' ⟨rfl, ⟨nd, rfl⟩⟩; refine ⟨_, rfl, ?_⟩) | ((refine aI (N := 15) rfl ?_); refine tn (Kd.int .i64) _ 3 ?hg (N := 15) ?hd (xs := ([] : List Int)) (inner := []) (ok := fun _ => True) (okp := fun _ => True) ?hr ?hp (fun _ hk => hk) trivial (Ba _ _) (Aa _) (by simp) ?_; (case hd => rfl); (case hg => rfl); (case hr => first | (go_simp; done) | (go_simp; rfl)); (case hp => exact (bA.none _ _)); intro M1 w5 e1 hb hg_ hnew_; clear hg_ hnew_; (first | rw [← M0.o] at e1 | (simp only [Int.reduceToNat] at e1; rw [← M0.o] at e1)); obtain ⟨f1, HB⟩ := b_ (sZ e1 (ac (hB_))) <| c_ (ab (hB_) hb); clear hb e1) | ((refine aU (b := .append) (xs := #[.tmp 15, .tmp 16]) rfl ?_); at_builtin; refine tA (Kd.int .i64) (w0 := w) w.heap.size rfl (.tmp 15) (.tmp 16) 28 3 (.int .i64 0) 8 rfl Tryz.underlying28 cY rfl (by decide) (by omega) M1 c1 l0 _ _ _ (fun _ => True) (fun _ => False) rfl rfl ?aO ?aR (fun _ _ h => h) (fun _ h => h.elim) ?aF ?aB ?aS ?aL ?_; (case aR => exact cR_ (tg I1.o HB.o)); (case aB => exact (hB_)); (case aF => exact (fun _ _ => trivial)); (case aO => exact (rR_ f1.o)); (case aS => exact (ac (hB_))); (case aL => have := K1.o; omega); intro G0 w7 ho hb hg hat; rw [← d1.o] at ho; obtain ⟨HB, g1⟩ := b_ (hb) <| c_ (ho); clear ho hb hg hat))
  go_loopg [4, 5] k (fun kq v4 v5 w' => ∃ (C0 : List Int) (H0 : Int) (k0 : Int), v4 = .int .i64 H0 ∧ v5 = .int .i64 k0 ∧ aa (am.l0 kq C0 H0 k0 = some r) ∧ aa (kq ≤ k) ∧ aa (Kd.R (Kd.int .i64) 3 w' w.heap.size (fun _ => True) G0 C0) ∧ aa (Below w.heap.size w w'))
  case atStart => exact ⟨(L1), (127), (2), f0_, f0_, H', ⟨Aa _⟩, ⟨rR_ g1.o⟩, ⟨hB_⟩⟩
  clear H'
  obtain ⟨C0, H0, k0, rfl, rfl, HA, N0, a0, HB⟩ := hrel
  rcases gk with _ | k1
  ·exact absurd HA.o (by simp [am.l0])
  have H := HA.o
  clear HA
  simp only [am.l0] at H
  by_cases c8 : k0 ≤ 128
  rotate_left
  ·rw [Ea c8] at H
   have N1 := xa c8
   clear c8
   have H' := c_ H
   clear H
   go_wp2
   go_loopg [10] k1 (fun kq D2 w' => ∃ (j0 : List Int) (b0 : Int), D2 = .int .i64 b0 ∧ aa (am.l3 kq j0 b0 = some r) ∧ aa (kq ≤ k1) ∧ aa (Kd.R (Kd.int .i64) 3 w' w.heap.size (fun _ => True) G0 j0) ∧ aa (Below w.heap.size w w'))
   case atStart => exact ⟨(C0), (0), f0_, H', ⟨Aa _⟩, ⟨rR_ a0.o⟩, ⟨hB_⟩⟩
   clear H'
   obtain ⟨j0, b0, rfl, HA, I0, a0, HB⟩ := hrel
   rcases gk with _ | k2
   ·exact absurd HA.o (by simp [am.l3])
   have H := HA.o
   clear HA
   simp only [am.l3] at H
   by_cases Z0 : b0 < 256
   rotate_left
   ·rw [Ea Z0] at H
    have i1 := xa Z0
    clear Z0
    obtain rfl := za H
    go_wp2
    go_ret
    exact ⟨_, f1_, rR_ a0.o, hB_⟩
   rw [Da Z0] at H
   have i1 := wa Z0
   clear Z0
   obtain ⟨r2, H⟩ := iD_ H
   obtain ⟨t2, H⟩ := iD_ H
   obtain ⟨j1, u0⟩ : ∃ y_ : List Int, y_ = (j0.set (b0 : Int).toNat (Int.tmod (wrap64 ((rd j0 b0) * 3303)) 3329)) := ⟨_, rfl⟩
   first | replace H := yb_ u0 H | rw [← u0] at H
   have m1 := c_ u0
   clear u0
   have H' := c_ H
   clear H
   obtain ⟨E2, O1, P1⟩ := s7 a0.o
   subst P1
   have Q0 : 0 ≤ (b0 : Int) := oD_
   have R0 : b0 < (j0.length : Int) := oD_
   obtain ⟨u2, Q1, J0⟩ := tb (sX a0.o).2.2 b0 Q0 R0
   cases Q1
   replace Q0 := ya Q0
   replace R0 := ya R0
   have R1 : 0 ≤ (b0 : Int) := oD_
   have S1 : (b0 : Int) < ((j0.length : Int) : Int) := oD_
   obtain ⟨go28, F2, n1, p1, gl28, cl28, HG28⟩ := tt a0.o (by omega)
   (first | cases n1 | (injection n1 with ea_ en_ ec_; (first | subst ea_ | (injection ea_ with ea_; subst ea_)); subst ec_; clear en_))
   have T1 := c_ p1
   have GG28 := c_ HG28
   clear p1 gl28 HG28
   (first | simp only [b9] at J0 | skip)
   obtain ⟨U1, hf28_0⟩ := te 0 a0.o (b0 : Int) R1 S1
   replace R1 := ya R1
   replace S1 := ya S1
   have HP30 := tm a0.o (b0 : Int) (Int.tmod (wrap64 ((rd j0 b0) * 3303)) 3329)
   go_wp2_with (first | ((refine cn (t := 3) (p := 86) rfl ?_); refine ce (t := 3) (p := 86) (v := ?vo_w31) (w1 := (wr.setCell ⟨go28, (b0 : Int).toNat, none⟩ (.int .i64 (Int.tmod (wrap64 ((rd j0 b0) * 3303)) 3329)))) ?hg ?ho ?hn ?hr ?_; (case ho => rfl); (case hg => rfl); (case hn => rfl); (case hr => first | (go_simp; done) | (go_simp; rfl)); intro V1 hw; have hg : wr.grownBy V1 (some go28) := (by rw [hw]; exact HP30.2); have hp_ : Kd.R (Kd.int .i64) 3 V1 w.heap.size (fun _ => True) (.slice (some ⟨go28, 0, none⟩) j0.length O1) j1 := (by rw [hw, m1.o]; exact HP30.1); clear HP30; obtain ⟨a0, HB⟩ := b_ (hp_) <| c_ (by rw [hw]; exact cq (HB.o) T1.o : Below w.heap.size w V1); clear hg hw hp_))
   go_roundg k2
   case measure => have := N0.o; have := I0.o; omega
   case rel => exact ⟨(j1), (wrap64 (b0 + 1)), f0_, H', ⟨by have := N0.o; have := I0.o; omega⟩, ⟨rR_ a0.o⟩, ⟨hB_⟩⟩
  rw [Da c8] at H
  have N1 := wa c8
  clear c8
  have H' := c_ H
  clear H
  go_wp2
  go_loopg [4, 6] k1 (fun kq v4 v6 w' => ∃ (j0 : List Int) (p0 : Int) (q0 : Int), v4 = .int .i64 p0 ∧ v6 = .int .i64 q0 ∧ aa (am.l1 kq j0 p0 k0 q0 = some r) ∧ aa (kq ≤ k1) ∧ aa (Kd.R (Kd.int .i64) 3 w' w.heap.size (fun _ => True) G0 j0) ∧ aa (Below w.heap.size w w'))
  case atStart => exact ⟨(C0), (H0), (0), f0_, f0_, H', ⟨Aa _⟩, ⟨rR_ a0.o⟩, ⟨hB_⟩⟩
  clear H'
  obtain ⟨j0, p0, q0, rfl, rfl, HA, I0, a0, HB⟩ := hrel
  rcases gk with _ | k2
  ·exact absurd HA.o (by simp [am.l1])
  have H := HA.o
  clear HA
  simp only [am.l1] at H
  by_cases c9 : q0 < 256
  rotate_left
  ·rw [Ea c9] at H
   have X1 := xa c9
   clear c9
   have H' := c_ H
   clear H
   go_wp2
   go_roundg k2
   case measure => have := N0.o; have := I0.o; omega
   case rel => exact ⟨(j0), (p0), (wrap64 (k0 * 2)), f0_, f0_, H', ⟨by have := N0.o; have := I0.o; omega⟩, ⟨rR_ a0.o⟩, ⟨hB_⟩⟩
  rw [Da c9] at H
  have X1 := wa c9
  clear c9
  obtain ⟨S0, G2, H⟩ := bN_ H
  obtain ⟨D0, H2, H⟩ := bN_ H
  have H' := c_ H
  clear H
  go_wp2_with (first | (refine gq_ 67 (some 29) Tryz.func67 #[.int .i64 p0] (bi.calls k2 p0 S0 _ G2.o) ?_; rintro e w' ⟨rfl, ⟨nd, rfl⟩⟩; refine ⟨_, rfl, ?_⟩) | (refine gq_ 66 (some 30) Tryz.func66 #[.int .i64 17, .int .i64 S0] (br.calls k2 17 S0 D0 _ H2.o) ?_; rintro e w' ⟨rfl, ⟨nd, rfl⟩⟩; refine ⟨_, rfl, ?_⟩))
  go_loopg [8] k2 (fun kq v8 w' => ∃ (d0 : List Int) (e0 : Int), v8 = .int .i64 e0 ∧ aa (am.l2 kq d0 (wrap64 (p0 - 1)) k0 q0 D0 e0 = some r) ∧ aa (kq ≤ k2) ∧ aa (Kd.R (Kd.int .i64) 3 w' w.heap.size (fun _ => True) G0 d0) ∧ aa (Below w.heap.size w w'))
  case atStart => exact ⟨(j0), (q0), f0_, H', ⟨Aa _⟩, ⟨rR_ a0.o⟩, ⟨hB_⟩⟩
  clear H'
  obtain ⟨d0, e0, rfl, HA, H1, a0, HB⟩ := hrel
  rcases gk with _ | k3
  ·exact absurd HA.o (by simp [am.l2])
  have H := HA.o
  clear HA
  simp only [am.l2] at H
  by_cases b1 : e0 < (wrap64 (q0 + k0))
  rotate_left
  ·rw [Ea b1] at H
   have q1 := xa b1
   clear b1
   have H' := c_ H
   clear H
   go_wp2
   go_roundg k3
   case measure => have := N0.o; have := I0.o; have := H1.o; omega
   case rel => exact ⟨(d0), ((wrap64 (p0 - 1))), (wrap64 (q0 + (wrap64 (2 * k0)))), f0_, f0_, H', ⟨by have := N0.o; have := I0.o; have := H1.o; omega⟩, ⟨rR_ a0.o⟩, ⟨hB_⟩⟩
  rw [Da b1] at H
  have q1 := wa b1
  clear b1
  obtain ⟨v2, H⟩ := iD_ H
  obtain ⟨y2, H⟩ := iD_ H
  obtain ⟨f0, E0⟩ : ∃ j_ : Int, (wrap64 (e0 + k0)) = j_ := ⟨_, rfl⟩
  first | rw [E0] at H | simp only [E0] at H
  have Y1 : (IntKind.i64.wrap (e0 + k0)) = f0 := (bv _).trans E0
  obtain ⟨z2, H⟩ := iD_ H
  obtain ⟨B2, H⟩ := iD_ H
  obtain ⟨B0, v0⟩ : ∃ y_ : List Int, y_ = (d0.set (e0 : Int).toNat (Int.tmod (wrap64 ((rd d0 e0) + (rd d0 (f0)))) 3329)) := ⟨_, rfl⟩
  first | replace H := yb_ v0 H | rw [← v0] at H
  have O0 := c_ v0
  clear v0
  obtain ⟨r1, x0⟩ : ∃ y_ : List Int, y_ = (B0.set ((f0) : Int).toNat (Int.tmod (wrap64 (D0 * (wrap64 ((wrap64 ((rd B0 (f0)) - (rd d0 e0))) + 3329)))) 3329)) := ⟨_, rfl⟩
  first | replace H := yb_ x0 H | rw [← x0] at H
  have t1 := c_ x0
  clear x0
  have H' := c_ H
  clear H
  obtain ⟨I2, y1, Z1⟩ := s7 a0.o
  subst Z1
  have T0 : 0 ≤ (e0 : Int) := oD_
  have U0 : e0 < (d0.length : Int) := oD_
  obtain ⟨z1, b2, K0⟩ := tb (sX a0.o).2.2 e0 T0 U0
  cases b2
  replace T0 := ya T0
  replace U0 := ya U0
  have V0 : 0 ≤ ((f0) : Int) := oD_
  have W0 : (f0) < (d0.length : Int) := oD_
  obtain ⟨A1, c2, L0⟩ := tb (sX a0.o).2.2 (f0) V0 W0
  obtain rfl : z1 = A1 := (by injection c2)
  replace V0 := ya V0
  replace W0 := ya W0
  have d2 : 0 ≤ (e0 : Int) := oD_
  have e2 : (e0 : Int) < ((d0.length : Int) : Int) := oD_
  obtain ⟨go18, J2, B1, C1, gl18, cl18, HG18⟩ := tt a0.o (by omega)
  (first | cases B1 | (injection B1 with ea_ en_ ec_; (first | subst ea_ | (injection ea_ with ea_; subst ea_)); subst ec_; clear en_))
  have D1 := c_ C1
  have GG18 := c_ HG18
  clear C1 gl18 HG18
  (first | simp only [b9] at K0 | skip)
  (first | simp only [b9] at L0 | skip)
  obtain ⟨f2, hf18_0⟩ := te 0 a0.o (e0 : Int) d2 e2
  replace d2 := ya d2
  replace e2 := ya e2
  have HP21 := tm a0.o (e0 : Int) (Int.tmod (wrap64 ((rd d0 e0) + (rd d0 (f0)))) 3329)
  go_wp2_with (first | ((refine cn (t := 3) (p := 56) rfl ?_); refine ce (t := 3) (p := 56) (v := ?vo_w22) (w1 := (wr.setCell ⟨go18, (e0 : Int).toNat, none⟩ (.int .i64 (Int.tmod (wrap64 ((rd d0 e0) + (rd d0 (f0)))) 3329)))) ?hg ?ho ?hn ?hr ?_; (case ho => rfl); (case hg => rfl); (case hn => rfl); (case hr => first | (go_simp; done) | (go_simp; rfl)); intro E1 hw; have hg : wr.grownBy E1 (some go18) := (by rw [hw]; exact HP21.2); have hp_ : Kd.R (Kd.int .i64) 3 E1 w.heap.size (fun _ => True) (.slice (some ⟨go18, 0, none⟩) d0.length y1) B0 := (by rw [hw, O0.o]; exact HP21.1); clear HP21; obtain ⟨a0, HB⟩ := b_ (hp_) <| c_ (by rw [hw]; exact cq (HB.o) D1.o : Below w.heap.size w E1); clear hg hw hp_; have X0 : 0 ≤ ((f0) : Int) := oD_; have Y0 : (f0) < (B0.length : Int) := (by have h_ : ((f0) : Int) < ((d0.length : Int) : Int) := oD_; first | (have e_ := (sX a0.o).1; omega) | simpa only [O0.o, List.length_set] using h_); have ql196 : (((f0) : Int) < ((d0.length : Int) : Int)) = True := ya oD_; obtain ⟨F1, g2, n0⟩ := tb (sX a0.o).2.2 (f0) X0 Y0; obtain rfl : (⟨go18, 0, none⟩ : Addr) = F1 := (by injection g2); (first | simp only [b9] at n0 | simp only [mU] at n0 | simp only [Addr.add, Nat.zero_add] at n0 | skip); replace X0 := ya X0; replace Y0 := ya Y0; have i2 : 0 ≤ ((f0) : Int) := oD_; have j2 : ((f0) : Int) < ((d0.length : Int) : Int) := oD_; obtain ⟨m2, hf19_0⟩ := te 0 a0.o ((f0) : Int) i2 j2; replace i2 := ya i2; replace j2 := ya j2; obtain ⟨C2, hz23_⟩ := te 0 a0.o ((f0) : Int) oD_ oD_; have HP23 := tm a0.o ((f0) : Int) (Int.tmod (wrap64 (D0 * (wrap64 ((wrap64 ((rd B0 (f0)) - (rd d0 e0))) + 3329)))) 3329)) | ((refine cn (t := 3) (p := 73) rfl ?_); refine ce (t := 3) (p := 73) (v := ?vo_w24) (w1 := (E1.setCell ⟨go18, ((f0) : Int).toNat, none⟩ (.int .i64 (Int.tmod (wrap64 (D0 * (wrap64 ((wrap64 ((rd B0 (f0)) - (rd d0 e0))) + 3329)))) 3329)))) ?hg ?ho ?hn ?hr ?_; (case ho => rfl); (case hg => rfl); (case hn => rfl); (case hr => first | (go_simp; done) | (go_simp; rfl)); intro n2 hw; have hg : E1.grownBy n2 (some go18) := (by rw [hw]; exact HP23.2); have hp_ : Kd.R (Kd.int .i64) 3 n2 w.heap.size (fun _ => True) (.slice (some ⟨go18, 0, none⟩) d0.length y1) r1 := (by rw [hw, t1.o]; exact HP23.1); clear HP23; obtain ⟨a0, HB⟩ := b_ (hp_) <| c_ (by rw [hw]; exact cq (HB.o) D1.o : Below w.heap.size w n2); clear hg hw hp_))
  go_roundg k3
  case measure => have := N0.o; have := I0.o; have := H1.o; omega
  case rel => exact ⟨(r1), (wrap64 (e0 + 1)), f0_, H', ⟨by have := N0.o; have := I0.o; have := H1.o; omega⟩, ⟨rR_ a0.o⟩, ⟨hB_⟩⟩
 ·replace c3 := Ca c3
  subst c3
  replace H := iF_ H
  obtain ⟨K2, y0⟩ : ∃ y_ : List Int, y_ = (([] : List Int)) := ⟨_, rfl⟩
  first | replace H := yb_ y0 H | rw [← y0] at H
  have P0 := c_ y0
  clear y0
  obtain rfl := za H
  go_enter Tryz.func30, Tryz.ntmps30
  go_wp2_with (first | (refine gq_ 65 (some 12) Tryz.func65 #[.slice A0 l0.length c0] (ao.calls k _ _ l0 false _ ?side1 ?side2 A2.o) ?_; (case side1 => exact cR_ I1.o); (case side2 => exact q2.o); rintro e w' ⟨rfl, ⟨nd, rfl⟩⟩; refine ⟨_, rfl, ?_⟩) | ((refine aI (N := 14) rfl ?_); refine tn (Kd.int .i64) _ 3 ?hg (N := 14) ?hd (xs := ([] : List Int)) (inner := []) (ok := fun _ => True) (okp := fun _ => True) ?hr ?hp (fun _ hk => hk) trivial (Ba _ _) (Aa _) (by simp) ?_; (case hd => rfl); (case hg => rfl); (case hr => first | (go_simp; done) | (go_simp; rfl)); (case hp => exact (bA.none _ _)); intro L2 M2 F0 hb hg_ hnew_; clear hg_ hnew_; (first | rw [← P0.o] at F0 | (simp only [Int.reduceToNat] at F0; rw [← P0.o] at F0)); obtain ⟨G1, HB⟩ := b_ (sZ F0 (ac (hB_))) <| c_ (ab (hB_) hb); clear hb F0))
  go_ret
  exact ⟨_, f1_, rR_ G1.o, hB_⟩
def aH.l0 : Nat → List Int → List Int → List Int → Int → Option (List Int)
 | 0, _, _, _, _ => none
 | k + 1, x0, x1, x5, x6 => if x6 < 256 then ((ao.f k x0).bind fun t203 => (if t203 = true then ((ao.f k x1).bind fun t204 => (if t204 = true then (if 0 ≤ x6 then (if x6 < (x0.length : Int) then (if x6 < (x1.length : Int) then (if x5.length < 17592186044416 then (aH.l0 k x0 x1 (x5 ++ [Int.tmod (wrap64 ((rd x0 x6) + (rd x1 x6))) 3329]) (wrap64 (x6 + 1))) else (none)) else (none)) else (none)) else (none)) else (some x5))) else (some x5))) else (some x5)
def aH.f (k : Nat) (l0 : List Int) (l1 : List Int) : Option (List Int) := aH.l0 k l0 l1 (([] : List Int)) 0
theorem aH.mono_l : ∀ k, (∀ y0 y1 y2 y3, LeO (aH.l0 k y0 y1 y2 y3) (aH.l0 (k + 1) y0 y1 y2 y3))
 | 0 => fun _ _ _ _ r h => by simp [aH.l0] at h
 | k + 1 => by
  have ih0 := aH.mono_l k
  intros; unfold aH.l0; exact o2_ ih0 ao.mono
theorem aH.mono : ∀ a0 a1 k, LeO (aH.f k a0 a1) (aH.f (k + 1) a0 a1) := by
 intro a0 a1 k
 have ih0 := aH.mono_l k
 unfold aH.f
 exact o2_ ih0 ao.mono
def aH.T5 : Bool × List (List Nat × List Nat) := (true, [([], []), ([], []), ([], []), ([1, 2], [1, 2]), ([3], [3]), ([], []), ([], []), ([5, 6], [5, 6]), ([7], [7]), ([4, 8], [4, 8]), ([9], [9]), ([10], [10]), ([0, 11], [0, 11]), ([12, 12, 0, 1, 2, 3, 4, 5, 6, 7, 8, 9, 10, 11, 12], [0, 12])])
def aH.B5 : List Nat := [0, 0, 0, 6, 14, 0, 0, 96, 224, 510, 1022, 2046, 4095, 8191]
theorem aH.tab5 : d8 .any (fb Tryz.f37 5) = aH.T5 := by kernel_rfl
theorem aH.bits5 : db aH.T5.2 aH.B5 = true := by kernel_rfl
theorem aH.calls (k : Nat) (A0 : Option Addr) (c0 : Nat) (l0 : List Int) (A1 : Option Addr) (c1 : Nat) (l1 : List Int) (r : List Int) (w : World) (hr0 : Kd.C (Kd.int .i64) w A0 l0.length l0) (hc0 : l0.length ≤ c0) (hr1 : Kd.C (Kd.int .i64) w A1 l1.length l1) (hc1 : l1.length ≤ c1) (h : aH.f k l0 l1 = some r) :
  Calls Tryz.prog 37 #[.slice A0 l0.length c0, .slice A1 l1.length c1] w fun e w' => ∃ Q0 : Value, e = .returned (Q0) ∧ Kd.R (Kd.int .i64) 3 w' w.heap.size (fun _ => True) Q0 r ∧ Below w.heap.size w w' := by
 have G0 := c_ hr0
 have H0 := c_ hc0
 clear hr0 hc0
 have I0 := c_ hr1
 have R0 := c_ hc1
 clear hr1 hc1
 have HB := c_ (Ba w.heap.size w)
 delta aH.f at h
 have H := h
 clear h
 obtain ⟨J0, k0⟩ : ∃ y_ : List Int, y_ = (([] : List Int)) := ⟨_, rfl⟩
 first | replace H := yb_ k0 H | rw [← k0] at H
 have q0 := c_ k0
 clear k0
 have H' := c_ H
 clear H
 go_enter Tryz.func37, Tryz.ntmps37
 go_wp2_with (first | ((refine aI (N := 7) rfl ?_); refine tn (Kd.int .i64) _ 3 ?hg (N := 7) ?hd (xs := ([] : List Int)) (inner := []) (ok := fun _ => True) (okp := fun _ => True) ?hr ?hp (fun _ hk => hk) trivial (Ba _ _) (Aa _) (by simp) ?_; (case hd => rfl); (case hg => rfl); (case hr => first | (go_simp; done) | (go_simp; rfl)); (case hp => exact (bA.none _ _)); intro X0 w3 x0 hb hg_ hnew_; clear hg_ hnew_; (first | rw [← q0.o] at x0 | (simp only [Int.reduceToNat] at x0; rw [← q0.o] at x0)); obtain ⟨y0, HB⟩ := b_ (sZ x0 (ac (hB_))) <| c_ (ab (hB_) hb); clear hb x0))
 go_loopg [5, 6] k (fun kq v5 v6 w' => ∃ (p0 : List Int) (a0 : Int), v6 = .int .i64 a0 ∧ aa (aH.l0 kq l0 l1 p0 a0 = some r) ∧ aa (kq ≤ k) ∧ aa (Kd.R (Kd.int .i64) 3 w' w.heap.size (fun _ => True) v5 p0) ∧ aa (Below w.heap.size w w'))
 case atStart => exact ⟨(J0), (0), f0_, H', ⟨Aa _⟩, ⟨rR_ y0.o⟩, ⟨hB_⟩⟩
 clear H'
 obtain ⟨p0, a0, rfl, HA, S0, j0, HB⟩ := hrel
 rcases gk with _ | k1
 ·exact absurd HA.o (by simp [aH.l0])
 have H := HA.o
 clear HA
 simp only [aH.l0] at H
 by_cases c5 : a0 < 256
 rotate_left
 ·rw [Ea c5] at H
  have K0 := xa c5
  clear c5
  obtain rfl := za H
  go_wp2
  go_ret
  exact ⟨_, f1_, rR_ j0.o, hB_⟩
 rw [Da c5] at H
 have K0 := wa c5
 clear c5
 obtain ⟨L0, A6, H⟩ := bN_ H
 by_cases c7 : L0 = true
 ·subst c7
  replace H := iT_ H
  obtain ⟨M0, A8, H⟩ := bN_ H
  by_cases c9 : M0 = true
  ·subst c9
   replace H := iT_ H
   obtain ⟨T0, H⟩ := iD_ H
   obtain ⟨U0, H⟩ := iD_ H
   obtain ⟨V0, H⟩ := iD_ H
   obtain ⟨W0, H⟩ := iN_ H
   have B0 := c_ W0
   clear W0
   obtain ⟨N0, n0⟩ : ∃ y_ : List Int, y_ = (p0 ++ [Int.tmod (wrap64 ((rd l0 a0) + (rd l1 a0))) 3329]) := ⟨_, rfl⟩
   first | replace H := yb_ n0 H | rw [← n0] at H
   have C0 := c_ n0
   clear n0
   have H' := c_ H
   clear H
   try go_wp2_with (first | (go_at_call 65; (with_reducible refine (ao.calls k1 _ _ l0 true _ ?side1 ?side2 A6.o).mono ?_); (case side1 => exact cR_ (tg G0.o HB.o)); (case side2 => exact H0.o); rintro e w' ⟨rfl, ⟨nd, rfl⟩⟩) | (go_at_call 65; (with_reducible refine (ao.calls k1 _ _ l1 true _ ?side1 ?side2 A8.o).mono ?_); (case side1 => exact cR_ (tg I0.o (hB_))); (case side2 => exact R0.o); rintro e w' ⟨rfl, ⟨nd, rfl⟩⟩))
   (try (rw [da wr]; generalize hq_ : World.drewN wr _ = wr; obtain ⟨j0, HB⟩ := b_ (show Kd.R (Kd.int .i64) 3 wr w.heap.size (fun _ => True) u5 p0 from by rw [← hq_]; exact (rR_ j0.o)) <| c_ (show Below w.heap.size w wr from by rw [← hq_]; exact (hB_))))
   obtain ⟨j0, HB⟩ := b_ (tl j0.o) <| c_ (b8 HB.o)
   have r0 : 0 ≤ (a0 : Int) := oD_
   have t0 : a0 < (l0.length : Int) := oD_
   obtain ⟨D0, O0, b0⟩ := tb G0.o a0 r0 t0
   have d0 := b0
   cases O0
   replace b0 := hc_ b0
   replace r0 := ya r0
   replace t0 := ya t0
   have u0 : 0 ≤ (a0 : Int) := oD_
   have v0 : a0 < (l1.length : Int) := oD_
   obtain ⟨E0, P0, e0⟩ := tb I0.o a0 u0 v0
   have f0 := e0
   cases P0
   replace e0 := hc_ e0
   replace u0 := ya u0
   replace v0 := ya v0
   refine d9 (n := 14) (S := fun w' => w'.cell? (D0.add (a0).toNat) = some (.int .i64 (rd l0 a0)) ∧ w'.cell? (E0.add (a0).toNat) = some (.int .i64 (rd l1 a0))) (ds := []) (bb_ 14 0) (by kernel_rfl) rfl rfl ⟨(hc_ d0), (hc_ f0)⟩ (fun hHeld => ?_); refine cN aH.tab5 aH.bits5 (fun HT_ HW_ => ?_)
   generalize wr.drew = Z0 at j0 HB b0 e0 hHeld ⊢
   refine pT_ 0 20 14 1 ?_
   refine pT_ 1 21 14 3 ?_
   refine pT_ 2 22 14 7 ?_
   refine pT_ 3 23 14 15 ?_
   refine pT_ 5 25 14 47 ?_
   refine pT_ 6 26 14 111 ?_
   refine pT_ 7 27 14 239 ?_
   refine tS_ 4 24 (bb_ 14 255) (bx HT_.o HW_.o (by kernel_rfl)) hHeld ?_
   refine tS_ 8 28 (bb_ 14 511) (bx HT_.o HW_.o (by kernel_rfl)) hHeld ?_
   refine pT_ 9 29 14 1023 ?_
   refine pT_ 10 30 14 2047 ?_
   refine fC (i := 11) (N := some 31) (bb_ 14 4095) rfl rfl (cD HT_.o (by kernel_rfl)) (by decide) (fun K hK => ?_)
   refine m0 (w1 := ?_) (v := ?_) (by rfl) rfl ?_ ?_
   rotate_left 2
   ·go_simp
    constructor
    ·rfl
    ·rfl
   refine hK _ _ ⟨(World.cell?_alloc_lt _ _ _ (World.block_lt_of_cell? _ _ ((hc_ d0)))).trans ((hc_ d0)), (World.cell?_alloc_lt _ _ _ (World.block_lt_of_cell? _ _ ((hc_ f0)))).trans ((hc_ f0))⟩ (fun hHeld => ?_)
   clear hK K
   refine dL (a' := ?_) ?_ ?_
   rotate_left
   ·show Act.put _ (some 31) _ = _
    simp only [Act.put, List.setIfInBounds_toArray, List.set_cons_zero, List.set_cons_succ, bv, cG]
    rfl
   refine fC (i := 12) (N := some 32) (bb_ 14 8191) rfl rfl (cD HT_.o (by kernel_rfl)) (by decide) (fun K hK => ?_)
   refine tD (Kd.int .i64) (w0 := w) w.heap.size (by rfl) (.tmp 20) (.tmp 31) 28 3 (.int .i64 0) 8 rfl Tryz.underlying28 cY rfl (by decide) (by omega) u5 p0 (Int.tmod (wrap64 ((rd l0 a0) + (rd l1 a0))) 3329) [.int .i64 (Int.tmod (wrap64 ((rd l0 a0) + (rd l1 a0))) 3329)] (fun _ => True) (fun _ => False) rfl rfl ?aP (fun _ hk => hk.elim) ?aF ?aO ?aB ?aS ?aL ?_
   (case aP => exact rfl)
   (case aB => exact (hB_))
   (case aF => exact (fun _ _ => trivial))
   (case aO => exact (rR_ j0.o))
   (case aS => exact (ac (hB_)))
   (case aL => have := B0.o; omega)
   intro Y0 b1 ho hb hg hat
   rw [← C0.o] at ho
   obtain ⟨HB, F0⟩ := b_ (hb) <| c_ (ho)
   clear ho hb hg hat
   refine hK _ _ ⟨(hc_ d0), (hc_ f0)⟩ (fun hHeld => ?_)
   clear hK K
   refine dL (a' := ?_) ?_ ?_
   rotate_left
   ·show Act.put _ (some 32) _ = _
    simp only [Act.put, List.setIfInBounds_toArray, List.set_cons_zero, List.set_cons_succ, bv, cG]
    rfl
   refine pT_ 13 5 14 16383 ?_
   refine fc (du HT_.o (by kernel_rfl)) ?_
   try go_wp2
   go_roundg k1
   case measure => have := S0.o; omega
   case rel => exact ⟨(N0), (wrap64 (a0 + 1)), f0_, H', ⟨by have := S0.o; omega⟩, ⟨rR_ F0.o⟩, ⟨hB_⟩⟩
  ·replace c9 := Ca c9
   subst c9
   replace H := iF_ H
   obtain rfl := za H
   go_wp2_with (first | (go_at_call 65; (with_reducible refine (ao.calls k1 _ _ l0 true _ ?side1 ?side2 A6.o).mono ?_); (case side1 => exact cR_ (tg G0.o HB.o)); (case side2 => exact H0.o); rintro e w' ⟨rfl, ⟨nd, rfl⟩⟩) | (go_at_call 65; (with_reducible refine (ao.calls k1 _ _ l1 false _ ?side1 ?side2 A8.o).mono ?_); (case side1 => exact cR_ (tg I0.o (hB_))); (case side2 => exact R0.o); rintro e w' ⟨rfl, ⟨nd, rfl⟩⟩))
   go_ret
   exact ⟨_, f1_, rR_ j0.o, hB_⟩
 ·replace c7 := Ca c7
  subst c7
  replace H := iF_ H
  obtain rfl := za H
  go_wp2_with (first | (go_at_call 65; (with_reducible refine (ao.calls k1 _ _ l0 false _ ?side1 ?side2 A6.o).mono ?_); (case side1 => exact cR_ (tg G0.o HB.o)); (case side2 => exact H0.o); rintro e w' ⟨rfl, ⟨nd, rfl⟩⟩))
  go_ret
  exact ⟨_, f1_, rR_ j0.o, hB_⟩
end Go.Proofs.YtooanbpkknlmjaaGreatDoor.P
