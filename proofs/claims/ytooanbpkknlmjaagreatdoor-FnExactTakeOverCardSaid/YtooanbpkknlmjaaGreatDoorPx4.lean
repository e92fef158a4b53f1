-- printed texts of this session, regrouped
import Derived.Test.YtooanbpkknlmjaaGreatDoorPx3
namespace Go.Proofs.YtooanbpkknlmjaaGreatDoor.P
open Go.RowKit YtooanbpkknlmjaaGreatDoorW.PrintWords YtooanbpkknlmjaaGreatDoorW.PrintLast YtooanbpkknlmjaaGreatDoorW.PrintMore
open Kd
attribute [local go_sem] dZ d4 eE ev dx dy dV dX
set_option linter.unusedVariables false
set_option linter.unusedSimpArgs false
set_option maxHeartbeats 8000000
set_option maxRecDepth 100000
mutual
def aW.l0 : Nat → List Int → Int → Int → Option (List Int)
 | 0, _, _, _ => none
 | k + 1, x1, x2, x3 => if x3 < 24 then (aW.l1 k x1 x2 x3 0 1 0) else (some x1)
def aW.l1 : Nat → List Int → Int → Int → Int → Int → Int → Option (List Int)
 | 0, _, _, _, _, _, _ => none
 | k + 1, x1, x2, x3, x4, x5, x6 => if x6 < 7 then (if (Int.tmod x2 2) = 1 then (if (wrap64 (x2 * 2)) ≥ 256 then (aW.l1 k x1 (Go.bits .xor .i64 (wrap64 ((wrap64 (x2 * 2)) - 256)) 113) x3 (IntKind.u64.wrap (x4 + x5)) (IntKind.u64.wrap ((IntKind.u64.wrap (x5 * x5)) * 2)) (wrap64 (x6 + 1))) else (aW.l1 k x1 (wrap64 (x2 * 2)) x3 (IntKind.u64.wrap (x4 + x5)) (IntKind.u64.wrap ((IntKind.u64.wrap (x5 * x5)) * 2)) (wrap64 (x6 + 1)))) else (if (wrap64 (x2 * 2)) ≥ 256 then (aW.l1 k x1 (Go.bits .xor .i64 (wrap64 ((wrap64 (x2 * 2)) - 256)) 113) x3 x4 (IntKind.u64.wrap ((IntKind.u64.wrap (x5 * x5)) * 2)) (wrap64 (x6 + 1))) else (aW.l1 k x1 (wrap64 (x2 * 2)) x3 x4 (IntKind.u64.wrap ((IntKind.u64.wrap (x5 * x5)) * 2)) (wrap64 (x6 + 1))))) else (if x1.length < 17592186044416 then (aW.l0 k (x1 ++ [x4]) x2 (wrap64 (x3 + 1))) else (none))
end
def aW.f (k : Nat)  : Option (List Int) := aW.l0 k (([] : List Int)) 1 0
theorem aW.mono_l : ∀ k, (∀ y0 y1 y2, LeO (aW.l0 k y0 y1 y2) (aW.l0 (k + 1) y0 y1 y2)) ∧ (∀ y0 y1 y2 y3 y4 y5, LeO (aW.l1 k y0 y1 y2 y3 y4 y5) (aW.l1 (k + 1) y0 y1 y2 y3 y4 y5))
 | 0 => ⟨fun _ _ _ r h => by simp [aW.l0] at h, fun _ _ _ _ _ _ r h => by simp [aW.l1] at h⟩
 | k + 1 => by
  obtain ⟨ih0, ih1⟩ := aW.mono_l k
  refine ⟨?_, ?_⟩ <;> (intros; (first | unfold aW.l0 | unfold aW.l1); exact o2_ ih0 ih1)
theorem aW.mono : ∀ k, LeO (aW.f k ) (aW.f (k + 1) ) := by
 intro  k
 obtain ⟨ih0, ih1⟩ := aW.mono_l k
 unfold aW.f
 exact o2_ ih0 ih1
theorem aW.calls (k : Nat)  (r : List Int) (w : World) (h : aW.f k  = some r) :
  Calls Tryz.prog 112 #[] w fun e w' => ∃ L0 : Value, e = .returned (L0) ∧ Kd.R (Kd.int .u64) 93 w' w.heap.size (fun _ => True) L0 r ∧ Below w.heap.size w w' := by
 have HB := c_ (Ba w.heap.size w)
 delta aW.f at h
 have H := h
 clear h
 obtain ⟨C0, k0⟩ : ∃ y_ : List Int, y_ = (([] : List Int)) := ⟨_, rfl⟩
 first | replace H := yb_ k0 H | rw [← k0] at H
 have u0 := c_ k0
 clear k0
 have H' := c_ H
 clear H
 go_enter Tryz.func112, Tryz.ntmps112
 go_wp2_with (first | ((refine aI (N := 7) rfl ?_); refine tn (Kd.int .u64) _ 93 ?hg (N := 7) ?hd (xs := ([] : List Int)) (inner := []) (ok := fun _ => True) (okp := fun _ => True) ?hr ?hp (fun _ hk => hk) trivial (Ba _ _) (Aa _) (by simp) ?_; (case hd => rfl); (case hg => rfl); (case hr => first | (go_simp; done) | (go_simp; rfl)); (case hp => exact (bA.none _ _)); intro M0 w1 v0 hb hg_ hnew_; clear hg_ hnew_; (first | rw [← u0.o] at v0 | (simp only [Int.reduceToNat] at v0; rw [← u0.o] at v0)); obtain ⟨x0, HB⟩ := b_ (sZ v0 (ac (hB_))) <| c_ (ab (hB_) hb); clear hb v0))
 go_loopg [1, 2, 3] k (fun kq v1 v2 v3 w' => ∃ (j0 : List Int) (t0 : Int) (p0 : Int), v2 = .int .i64 t0 ∧ v3 = .int .i64 p0 ∧ aa (aW.l0 kq j0 t0 p0 = some r) ∧ aa (kq ≤ k) ∧ aa (Kd.R (Kd.int .u64) 93 w' w.heap.size (fun _ => True) v1 j0) ∧ aa (Below w.heap.size w w'))
 case atStart => exact ⟨(C0), (1), (0), f0_, f0_, H', ⟨Aa _⟩, ⟨rR_ x0.o⟩, ⟨hB_⟩⟩
 clear H'
 obtain ⟨j0, t0, p0, rfl, rfl, HA, q0, e0, HB⟩ := hrel
 rcases gk with _ | k1
 ·exact absurd HA.o (by simp [aW.l0])
 have H := HA.o
 clear HA
 simp only [aW.l0] at H
 by_cases c3 : p0 < 24
 rotate_left
 ·rw [Ea c3] at H
  have D0 := xa c3
  clear c3
  obtain rfl := za H
  go_wp2
  go_ret
  exact ⟨_, f1_, rR_ e0.o, hB_⟩
 rw [Da c3] at H
 have D0 := wa c3
 clear c3
 have H' := c_ H
 clear H
 go_wp2
 go_loopg [2, 4, 5, 6] k1 (fun kq v2 v4 v5 v6 w' => ∃ (a0 : Int) (d0 : Int) (b0 : Int) (f0 : Int), v2 = .int .i64 a0 ∧ v4 = .int .u64 d0 ∧ v5 = .int .u64 b0 ∧ v6 = .int .i64 f0 ∧ aa (aW.l1 kq j0 a0 p0 d0 b0 f0 = some r) ∧ aa (kq ≤ k1) ∧ aa (Kd.R (Kd.int .u64) 93 w' w.heap.size (fun _ => True) u1 j0) ∧ aa (Below w.heap.size w w'))
 case atStart => exact ⟨(t0), (0), (1), (0), f0_, f0_, f0_, f0_, H', ⟨Aa _⟩, ⟨rR_ e0.o⟩, ⟨hB_⟩⟩
 clear H'
 obtain ⟨a0, d0, b0, f0, rfl, rfl, rfl, rfl, HA, r0, e0, HB⟩ := hrel
 rcases gk with _ | k2
 ·exact absurd HA.o (by simp [aW.l1])
 have H := HA.o
 clear HA
 simp only [aW.l1] at H
 by_cases c4 : f0 < 7
 rotate_left
 ·rw [Ea c4] at H
  have E0 := xa c4
  clear c4
  obtain ⟨c8, H⟩ := iN_ H
  have F0 := c_ c8
  clear c8
  obtain ⟨G0, n0⟩ : ∃ y_ : List Int, y_ = (j0 ++ [d0]) := ⟨_, rfl⟩
  first | replace H := yb_ n0 H | rw [← n0] at H
  have y0 := c_ n0
  clear n0
  have H' := c_ H
  clear H
  go_wp2_with (first | ((refine aU (b := .append) (xs := #[.tmp 33, .tmp 35]) rfl ?_); at_builtin; refine tf (Kd.int .u64) (w0 := w) w.heap.size rfl (.tmp 33) (.tmp 35) 91 93 (.int .u64 0) 8 rfl Tryz.underlying91 jN rfl (by decide) (by omega) u1 j0 d0 [.int .u64 d0] (fun _ => True) (fun _ => False) rfl rfl ?aP (fun _ hk => hk.elim) ?aF ?aO ?aB ?aS ?aL ?_; (case aP => exact rfl); (case aB => exact (hB_)); (case aF => exact (fun _ _ => trivial)); (case aO => exact (rR_ e0.o)); (case aS => exact (ac (hB_))); (case aL => have := F0.o; omega); intro N0 w9 ho hb hg hat; rw [← y0.o] at ho; obtain ⟨HB, B0⟩ := b_ (hb) <| c_ (ho); clear ho hb hg hat))
  go_roundg k2
  case measure => have := q0.o; have := r0.o; omega
  case rel => exact ⟨(G0), (a0), (wrap64 (p0 + 1)), f0_, f0_, H', ⟨by have := q0.o; have := r0.o; omega⟩, ⟨rR_ B0.o⟩, ⟨hB_⟩⟩
 rw [Da c4] at H
 have E0 := wa c4
 clear c4
 by_cases c5 : (Int.tmod a0 2) = 1
 ·rw [Da c5] at H
  have H0 : ((Int.tmod a0 2) == 1) = true := beq_iff_eq.mpr c5
  have I0 : ((Int.tmod a0 2) != 1) = false := bne_eq_false_iff_eq.mpr c5
  clear c5
  by_cases c6 : (wrap64 (a0 * 2)) ≥ 256
  ·rw [Da c6] at H
   have J0 := wa c6
   clear c6
   have H' := c_ H
   clear H
   go_wp2
   go_roundg k2
   case measure => have := q0.o; have := r0.o; omega
   case rel => exact ⟨(Go.bits .xor .i64 (wrap64 ((wrap64 (a0 * 2)) - 256)) 113), (IntKind.u64.wrap (d0 + b0)), (IntKind.u64.wrap ((IntKind.u64.wrap (b0 * b0)) * 2)), (wrap64 (f0 + 1)), f0_, f0_, f0_, f0_, H', ⟨by have := q0.o; have := r0.o; omega⟩, ⟨rR_ e0.o⟩, ⟨hB_⟩⟩
  rw [Ea c6] at H
  have J0 := xa c6
  clear c6
  have H' := c_ H
  clear H
  go_wp2
  go_roundg k2
  case measure => have := q0.o; have := r0.o; omega
  case rel => exact ⟨(wrap64 (a0 * 2)), (IntKind.u64.wrap (d0 + b0)), (IntKind.u64.wrap ((IntKind.u64.wrap (b0 * b0)) * 2)), (wrap64 (f0 + 1)), f0_, f0_, f0_, f0_, H', ⟨by have := q0.o; have := r0.o; omega⟩, ⟨rR_ e0.o⟩, ⟨hB_⟩⟩
 rw [Ea c5] at H
 have H0 : ((Int.tmod a0 2) == 1) = false := beq_eq_false_iff_ne.mpr c5
 have I0 : ((Int.tmod a0 2) != 1) = true := bne_iff_ne.mpr c5
 by_cases c7 : (wrap64 (a0 * 2)) ≥ 256
 ·rw [Da c7] at H
  have K0 := wa c7
  clear c7
  have H' := c_ H
  clear H
  go_wp2
  go_roundg k2
  case measure => have := q0.o; have := r0.o; omega
  case rel => exact ⟨(Go.bits .xor .i64 (wrap64 ((wrap64 (a0 * 2)) - 256)) 113), (d0), (IntKind.u64.wrap ((IntKind.u64.wrap (b0 * b0)) * 2)), (wrap64 (f0 + 1)), f0_, f0_, f0_, f0_, H', ⟨by have := q0.o; have := r0.o; omega⟩, ⟨rR_ e0.o⟩, ⟨hB_⟩⟩
 rw [Ea c7] at H
 have K0 := xa c7
 clear c7
 have H' := c_ H
 clear H
 go_wp2
 go_roundg k2
 case measure => have := q0.o; have := r0.o; omega
 case rel => exact ⟨(wrap64 (a0 * 2)), (d0), (IntKind.u64.wrap ((IntKind.u64.wrap (b0 * b0)) * 2)), (wrap64 (f0 + 1)), f0_, f0_, f0_, f0_, H', ⟨by have := q0.o; have := r0.o; omega⟩, ⟨rR_ e0.o⟩, ⟨hB_⟩⟩
def bu.l0 : Nat → Int → Int → Int → Int → Option (Int)
 | 0, _, _, _, _ => none
 | k + 1, x0, x1, x5, x6 => if x6 < x1 then (bu.l0 k x0 x1 (IntKind.u64.wrap (x5 * 2)) (wrap64 (x6 + 1))) else (if x1 = 0 then (some x0) else (if x5 = 0 then (none) else (if (IntKind.u64.wrap ((IntKind.u64.wrap (Int.tdiv (9223372036854775808 : Int) x5)) * 2)) = 0 then (none) else (some (IntKind.u64.wrap ((IntKind.u64.wrap (x0 * x5)) + (IntKind.u64.wrap (Int.tdiv x0 (IntKind.u64.wrap ((IntKind.u64.wrap (Int.tdiv (9223372036854775808 : Int) x5)) * 2))))))))))
def bu.f (k : Nat) (a0 : Int) (a1 : Int) : Option (Int) := bu.l0 k a0 a1 1 0
theorem bu.mono_l : ∀ k, (∀ y0 y1 y2 y3, LeO (bu.l0 k y0 y1 y2 y3) (bu.l0 (k + 1) y0 y1 y2 y3))
 | 0 => fun _ _ _ _ r h => by simp [bu.l0] at h
 | k + 1 => by
  have ih0 := bu.mono_l k
  intros; unfold bu.l0; exact o1_ ih0
theorem bu.mono : ∀ a0 a1 k, LeO (bu.f k a0 a1) (bu.f (k + 1) a0 a1) := by
 intro a0 a1 k
 have ih0 := bu.mono_l k
 unfold bu.f
 exact o1_ ih0
theorem bu.calls (k : Nat) (a0 : Int) (a1 : Int) (r : Int) (w : World) (h : bu.f k a0 a1 = some r) :
  Calls Tryz.prog 118 #[.int .u64 a0, .int .i64 a1] w fun e w' => e = .returned (.int .u64 r) ∧ cx w w' := by
 delta bu.f at h
 have H := h
 clear h
 have H' := c_ H
 clear H
 go_enter Tryz.func118, Tryz.ntmps118
 go_wp2
 go_loopg [5, 6] k (fun kq v5 v6 w' => ∃ (b0 : Int) (d0 : Int), v5 = .int .u64 b0 ∧ v6 = .int .i64 d0 ∧ aa (bu.l0 kq a0 a1 b0 d0 = some r) ∧ aa (kq ≤ k) ∧ cx w w')
 case atStart => exact ⟨(1), (0), f0_, f0_, H', ⟨Aa _⟩, d0_⟩
 clear H'
 obtain ⟨b0, d0, rfl, rfl, HA, k0, ⟨m1, rfl⟩⟩ := hrel
 rcases gk with _ | k1
 ·exact absurd HA.o (by simp [bu.l0])
 have H := HA.o
 clear HA
 simp only [bu.l0] at H
 by_cases c3 : d0 < a1
 ·rw [Da c3] at H
  have e0 := wa c3
  clear c3
  have H' := c_ H
  clear H
  go_wp2
  go_roundg k1
  case measure => have := k0.o; omega
  case rel => exact ⟨(IntKind.u64.wrap (b0 * 2)), (wrap64 (d0 + 1)), f0_, f0_, H', ⟨by have := k0.o; omega⟩, d0_⟩
 rw [Ea c3] at H
 have e0 := xa c3
 clear c3
 by_cases c4 : a1 = 0
 ·rw [Da c4] at H
  have f0 : (a1 == 0) = true := beq_iff_eq.mpr c4
  have j0 : (a1 != 0) = false := bne_eq_false_iff_eq.mpr c4
  clear c4
  obtain rfl := za H
  go_wp2
  go_ret
  exact ⟨f0_, d0_⟩
 rw [Ea c4] at H
 have f0 : (a1 == 0) = false := beq_eq_false_iff_ne.mpr c4
 have j0 : (a1 != 0) = true := bne_iff_ne.mpr c4
 by_cases c5 : b0 = 0
 ·rw [Da c5] at H
  exact absurd H (by simp)
 rw [Ea c5] at H
 have n0 : (b0 == 0) = false := beq_eq_false_iff_ne.mpr c5
 have p0 : (b0 != 0) = true := bne_iff_ne.mpr c5
 by_cases c6 : (IntKind.u64.wrap ((IntKind.u64.wrap (Int.tdiv (9223372036854775808 : Int) b0)) * 2)) = 0
 ·rw [Da c6] at H
  exact absurd H (by simp)
 rw [Ea c6] at H
 have q0 : ((IntKind.u64.wrap ((IntKind.u64.wrap (Int.tdiv (9223372036854775808 : Int) b0)) * 2)) == 0) = false := beq_eq_false_iff_ne.mpr c6
 have r0 : ((IntKind.u64.wrap ((IntKind.u64.wrap (Int.tdiv (9223372036854775808 : Int) b0)) * 2)) != 0) = true := bne_iff_ne.mpr c6
 obtain rfl := za H
 go_wp2
 go_ret
 exact ⟨f0_, d0_⟩
mutual
def ae.l0 : Nat → List Int → List Int → Int → List Int → Int → Option (List Int)
 | 0, _, _, _, _, _ => none
 | k + 1, x0, x1, x2, x7, x8 => if x8 < 5 then (if 0 ≤ x8 then (if x8 < (x0.length : Int) then (if 0 ≤ (wrap64 (x8 + 5)) then (if (wrap64 (x8 + 5)) < (x0.length : Int) then (if 0 ≤ (wrap64 (x8 + 10)) then (if (wrap64 (x8 + 10)) < (x0.length : Int) then (if 0 ≤ (wrap64 (x8 + 15)) then (if (wrap64 (x8 + 15)) < (x0.length : Int) then (if 0 ≤ (wrap64 (x8 + 20)) then (if (wrap64 (x8 + 20)) < (x0.length : Int) then (if x8 < (x7.length : Int) then (ae.l0 k x0 x1 x2 (x7.set (x8 : Int).toNat (Go.bits .xor .u64 (Go.bits .xor .u64 (Go.bits .xor .u64 (Go.bits .xor .u64 (rd x0 x8) (rd x0 (wrap64 (x8 + 5)))) (rd x0 (wrap64 (x8 + 10)))) (rd x0 (wrap64 (x8 + 15)))) (rd x0 (wrap64 (x8 + 20))))) (wrap64 (x8 + 1))) else (none)) else (none)) else (none)) else (none)) else (none)) else (none)) else (none)) else (none)) else (none)) else (none)) else (none)) else (if 25 ≤ 35184372088832 then (ae.l1 k x0 x1 x2 x7 (List.replicate 25 0) 0) else (none))
def ae.l1 : Nat → List Int → List Int → Int → List Int → List Int → Int → Option (List Int)
 | 0, _, _, _, _, _, _ => none
 | k + 1, x0, x1, x2, x7, x9, x10 => if x10 < 5 then (if 0 ≤ (Int.tmod (wrap64 (x10 + 4)) 5) then (if (Int.tmod (wrap64 (x10 + 4)) 5) < (x7.length : Int) then (if 0 ≤ (Int.tmod (wrap64 (x10 + 1)) 5) then (if (Int.tmod (wrap64 (x10 + 1)) 5) < (x7.length : Int) then ((bu.f k (rd x7 (Int.tmod (wrap64 (x10 + 1)) 5)) 1).bind fun t449 => (ae.l2 k x0 x1 x2 x7 x9 x10 (Go.bits .xor .u64 (rd x7 (Int.tmod (wrap64 (x10 + 4)) 5)) t449) 0)) else (none)) else (none)) else (none)) else (none)) else (if 25 ≤ 35184372088832 then (ae.l3 k x2 x9 (List.replicate 25 0) 0) else (none))
def ae.l2 : Nat → List Int → List Int → Int → List Int → List Int → Int → Int → Int → Option (List Int)
 | 0, _, _, _, _, _, _, _, _ => none
 | k + 1, x0, x1, x2, x7, x9, x10, x11, x12 => if x12 < 5 then (if 0 ≤ (wrap64 (x10 + (wrap64 (5 * x12)))) then (if (wrap64 (x10 + (wrap64 (5 * x12)))) < (x0.length : Int) then (if (wrap64 (x10 + (wrap64 (5 * x12)))) < (x1.length : Int) then ((bu.f k (Go.bits .xor .u64 (rd x0 (wrap64 (x10 + (wrap64 (5 * x12))))) x11) (rd x1 (wrap64 (x10 + (wrap64 (5 * x12)))))).bind fun t452 => (if 0 ≤ (wrap64 (x12 + (wrap64 (5 * (Int.tmod (wrap64 ((wrap64 (2 * x10)) + (wrap64 (3 * x12)))) 5))))) then (if (wrap64 (x12 + (wrap64 (5 * (Int.tmod (wrap64 ((wrap64 (2 * x10)) + (wrap64 (3 * x12)))) 5))))) < (x9.length : Int) then (ae.l2 k x0 x1 x2 x7 (x9.set ((wrap64 (x12 + (wrap64 (5 * (Int.tmod (wrap64 ((wrap64 (2 * x10)) + (wrap64 (3 * x12)))) 5))))) : Int).toNat t452) x10 x11 (wrap64 (x12 + 1))) else (none)) else (none))) else (none)) else (none)) else (none)) else (ae.l1 k x0 x1 x2 x7 x9 (wrap64 (x10 + 1)))
def ae.l3 : Nat → Int → List Int → List Int → Int → Option (List Int)
 | 0, _, _, _, _ => none
 | k + 1, x2, x9, x13, x14 => if x14 < 5 then (ae.l4 k x2 x9 x13 x14 0) else (if 0 < (x13.length : Int) then (some (x13.set (0 : Int).toNat (Go.bits .xor .u64 (rd x13 0) x2))) else (none))
def ae.l4 : Nat → Int → List Int → List Int → Int → Int → Option (List Int)
 | 0, _, _, _, _, _ => none
 | k + 1, x2, x9, x13, x14, x15 => if x15 < 5 then (if 0 ≤ (wrap64 (x14 + (wrap64 (5 * x15)))) then (if (wrap64 (x14 + (wrap64 (5 * x15)))) < (x9.length : Int) then (if 0 ≤ (wrap64 ((Int.tmod (wrap64 (x14 + 1)) 5) + (wrap64 (5 * x15)))) then (if (wrap64 ((Int.tmod (wrap64 (x14 + 1)) 5) + (wrap64 (5 * x15)))) < (x9.length : Int) then (if 0 ≤ (wrap64 ((Int.tmod (wrap64 (x14 + 2)) 5) + (wrap64 (5 * x15)))) then (if (wrap64 ((Int.tmod (wrap64 (x14 + 2)) 5) + (wrap64 (5 * x15)))) < (x9.length : Int) then (if (wrap64 (x14 + (wrap64 (5 * x15)))) < (x13.length : Int) then (ae.l4 k x2 x9 (x13.set ((wrap64 (x14 + (wrap64 (5 * x15)))) : Int).toNat (Go.bits .xor .u64 (rd x9 (wrap64 (x14 + (wrap64 (5 * x15))))) (Go.bits .and .u64 (IntKind.u64.wrap (18446744073709551615 - (rd x9 (wrap64 ((Int.tmod (wrap64 (x14 + 1)) 5) + (wrap64 (5 * x15))))))) (rd x9 (wrap64 ((Int.tmod (wrap64 (x14 + 2)) 5) + (wrap64 (5 * x15)))))))) x14 (wrap64 (x15 + 1))) else (none)) else (none)) else (none)) else (none)) else (none)) else (none)) else (none)) else (ae.l3 k x2 x9 x13 (wrap64 (x14 + 1)))
end
def ae.f (k : Nat) (l0 : List Int) (l1 : List Int) (a2 : Int) : Option (List Int) := if 5 ≤ 35184372088832 then (ae.l0 k l0 l1 a2 (List.replicate 5 0) 0) else (none)
theorem ae.mono_l : ∀ k, (∀ y0 y1 y2 y3 y4, LeO (ae.l0 k y0 y1 y2 y3 y4) (ae.l0 (k + 1) y0 y1 y2 y3 y4)) ∧ (∀ y0 y1 y2 y3 y4 y5, LeO (ae.l1 k y0 y1 y2 y3 y4 y5) (ae.l1 (k + 1) y0 y1 y2 y3 y4 y5)) ∧ (∀ y0 y1 y2 y3 y4 y5 y6 y7, LeO (ae.l2 k y0 y1 y2 y3 y4 y5 y6 y7) (ae.l2 (k + 1) y0 y1 y2 y3 y4 y5 y6 y7)) ∧ (∀ y0 y1 y2 y3, LeO (ae.l3 k y0 y1 y2 y3) (ae.l3 (k + 1) y0 y1 y2 y3)) ∧ (∀ y0 y1 y2 y3 y4, LeO (ae.l4 k y0 y1 y2 y3 y4) (ae.l4 (k + 1) y0 y1 y2 y3 y4))
 | 0 => ⟨fun _ _ _ _ _ r h => by simp [ae.l0] at h, fun _ _ _ _ _ _ r h => by simp [ae.l1] at h, fun _ _ _ _ _ _ _ _ r h => by simp [ae.l2] at h, fun _ _ _ _ r h => by simp [ae.l3] at h, fun _ _ _ _ _ r h => by simp [ae.l4] at h⟩
 | k + 1 => by
  obtain ⟨ih0, ih1, ih2, ih3, ih4⟩ := ae.mono_l k
  refine ⟨?_, ?_, ?_, ?_, ?_⟩ <;> (intros; (first | unfold ae.l0 | unfold ae.l1 | unfold ae.l2 | unfold ae.l3 | unfold ae.l4); exact o6_ ih0 ih1 ih2 ih3 ih4 bu.mono)
theorem ae.mono : ∀ a0 a1 a2 k, LeO (ae.f k a0 a1 a2) (ae.f (k + 1) a0 a1 a2) := by
 intro a0 a1 a2 k
 obtain ⟨ih0, ih1, ih2, ih3, ih4⟩ := ae.mono_l k
 unfold ae.f
 exact o6_ ih0 ih1 ih2 ih3 ih4 bu.mono
def ae.T5 : Bool × List (List Nat × List Nat) := (true, [([], []), ([], []), ([], []), ([], []), ([2, 3], [2, 3]), ([4], [4]), ([], []), ([], []), ([7], [7]), ([6, 8], [6, 8]), ([9], [9]), ([5, 10], [5, 10]), ([], []), ([], []), ([13], [13]), ([12, 14], [12, 14]), ([15], [15]), ([11, 16], [11, 16]), ([], []), ([], []), ([19], [19]), ([18, 20], [18, 20]), ([21], [21]), ([17, 22], [17, 22]), ([], []), ([], []), ([25], [25]), ([24, 26], [24, 26]), ([27], [27]), ([23, 28], [23, 28]), ([0, 1, 0, 1, 2, 3, 4, 5, 6, 7, 8, 9, 10, 11, 12, 13, 14, 15, 16, 17, 18, 19, 20, 21, 22, 23, 24, 25, 26, 27, 28, 29], [0, 1]), ([30, 29, 0, 1, 2, 3, 4, 5, 6, 7, 8, 9, 10, 11, 12, 13, 14, 15, 16, 17, 18, 19, 20, 21, 22, 23, 24, 25, 26, 27, 28, 29], [29, 30])])
def ae.B5 : List Nat := [0, 0, 0, 0, 12, 28, 0, 0, 128, 448, 960, 2044, 0, 0, 8192, 28672, 61440, 131068, 0, 0, 524288, 1835008, 3932160, 8388604, 0, 0, 33554432, 117440512, 251658240, 536870908, 1073741823, 2147483647]
theorem ae.tab5 : d8 .any (fb Tryz.f113 5) = ae.T5 := by kernel_rfl
theorem ae.bits5 : db ae.T5.2 ae.B5 = true := by kernel_rfl
def ae.T10 : Bool × List (List Nat × List Nat) := (true, [([], []), ([], []), ([1], [1]), ([2], [2]), ([0, 3], [0, 3]), ([4], [4]), ([], []), ([], []), ([7], [7]), ([8], [8]), ([6, 9], [6, 9]), ([10], [10]), ([11], [11]), ([5, 12], [5, 12]), ([13, 12, 0, 1, 2, 3, 4, 5, 6, 7, 8, 9, 10, 11, 12, 13], [13])])
def ae.B10 : List Nat := [0, 0, 2, 6, 15, 31, 0, 0, 128, 384, 960, 1984, 4032, 8191, 16383]
theorem ae.tab10 : d8 .any (fb Tryz.f113 10) = ae.T10 := by kernel_rfl
theorem ae.bits10 : db ae.T10.2 ae.B10 = true := by kernel_rfl
def ae.T14 : Bool × List (List Nat × List Nat) := (true, [([], []), ([], []), ([], []), ([2], [2]), ([], []), ([4], [4]), ([3, 5], [3, 5]), ([6], [6]), ([7], [7]), ([1, 8], [1, 8]), ([], []), ([], []), ([], []), ([12], [12]), ([11, 13], [11, 13]), ([10, 14], [10, 14]), ([15], [15]), ([], []), ([16, 17], [16, 17]), ([], []), ([], []), ([], []), ([21], [21]), ([20, 22], [20, 22]), ([19, 23], [19, 23]), ([24], [24]), ([18, 25], [18, 25]), ([0, 9, 0, 1, 2, 3, 4, 5, 6, 7, 8, 9, 10, 11, 12, 13, 14, 15, 16, 17, 18, 19, 20, 21, 22, 23, 24, 25, 26], [0, 9]), ([27, 26, 26, 0, 1, 2, 3, 4, 5, 6, 7, 8, 9, 10, 11, 12, 13, 14, 15, 16, 17, 18, 19, 20, 21, 22, 23, 24, 25, 26], [26, 27])])
def ae.B14 : List Nat := [0, 0, 0, 4, 0, 16, 60, 124, 252, 510, 0, 0, 0, 4096, 14336, 31744, 64512, 0, 261120, 0, 0, 0, 2097152, 7340032, 16252928, 33030144, 67107840, 134217727, 268435455]
theorem ae.tab14 : d8 .any (fb Tryz.f113 14) = ae.T14 := by kernel_rfl
theorem ae.bits14 : db ae.T14.2 ae.B14 = true := by kernel_rfl
def ae.T22 : Bool × List (List Nat × List Nat) := (true, [([], []), ([], []), ([], []), ([2], [2]), ([1, 3], [1, 3]), ([], []), ([], []), ([], []), ([7], [7]), ([6, 8], [6, 8]), ([5, 9], [5, 9]), ([10], [10]), ([], []), ([], []), ([13], [13]), ([14], [14]), ([], []), ([16], [16]), ([15, 17], [15, 17]), ([12, 18], [12, 18]), ([19], [19]), ([20], [20]), ([], []), ([], []), ([23], [23]), ([24], [24]), ([], []), ([26], [26]), ([25, 27], [25, 27]), ([22, 28], [22, 28]), ([29], [29]), ([21, 30], [21, 30]), ([11, 31], [11, 31]), ([0, 4, 0, 1, 2, 3, 4, 5, 6, 7, 8, 9, 10, 11, 12, 13, 14, 15, 16, 17, 18, 19, 20, 21, 22, 23, 24, 25, 26, 27, 28, 29, 30, 31, 32], [0, 4]), ([33, 32, 0, 1, 2, 3, 4, 5, 6, 7, 8, 9, 10, 11, 12, 13, 14, 15, 16, 17, 18, 19, 20, 21, 22, 23, 24, 25, 26, 27, 28, 29, 30, 31, 32], [32, 33])])
def ae.B22 : List Nat := [0, 0, 0, 4, 14, 0, 0, 0, 128, 448, 992, 2016, 0, 0, 8192, 24576, 0, 65536, 253952, 520192, 1044480, 2093056, 0, 0, 8388608, 25165824, 0, 67108864, 260046848, 532676608, 1069547520, 2147479552, 4294967264, 8589934591, 17179869183]
theorem ae.tab22 : d8 .any (fb Tryz.f113 22) = ae.T22 := by kernel_rfl
theorem ae.bits22 : db ae.T22.2 ae.B22 = true := by kernel_rfl
theorem ae.calls (k : Nat) (A0 : Option Addr) (c0 : Nat) (l0 : List Int) (A1 : Option Addr) (c1 : Nat) (l1 : List Int) (a2 : Int) (r : List Int) (w : World) (hr0 : Kd.C (Kd.int .u64) w A0 l0.length l0) (hc0 : l0.length ≤ c0) (hr1 : Kd.C (Kd.int .i64) w A1 l1.length l1) (hc1 : l1.length ≤ c1) (h : ae.f k l0 l1 a2 = some r) :
  Calls Tryz.prog 113 #[.slice A0 l0.length c0, .slice A1 l1.length c1, .int .u64 a2] w fun e w' => ∃ P4 : Value, e = .returned (P4) ∧ Kd.R (Kd.int .u64) 93 w' w.heap.size (fun _ => True) P4 r ∧ Below w.heap.size w w' := by
 have K2 := c_ hr0
 have i6 := c_ hc0
 clear hr0 hc0
 have N5 := c_ hr1
 have k6 := c_ hc1
 clear hr1 hc1
 have HB := c_ (Ba w.heap.size w)
 delta ae.f at h
 have H := h
 clear h
 obtain ⟨c4, H⟩ := iN_ H
 have O5 := ya c4
 have P5 := wa c4
 clear c4
 obtain ⟨H3, V0⟩ : ∃ y_ : List Int, y_ = (List.replicate 5 0) := ⟨_, rfl⟩
 first | replace H := yb_ V0 H | rw [← V0] at H
 have S1 := c_ V0
 clear V0
 have H' := c_ H
 clear H
 go_enter Tryz.func113, Tryz.ntmps113
 go_wp2_with (first | ((refine aI (N := 16) rfl ?_); refine tw (Kd.int .u64) _ 93 rfl (N := 16) rfl 91 _ _ rfl 5 rfl rfl Tryz.underlying91 (.int .u64 0) 8 jN rfl (by decide) (by omega) 0 (ok := fun _ => True) (okp := fun _ => True) rfl (fun _ hk => hk) trivial (by omega) (by omega) (Ba _ _) (Aa _) ?_; intro X1 w5 P2 hb hg_ hnew_; clear hg_ hnew_; (first | rw [← S1.o] at P2 | (simp only [Int.reduceToNat] at P2; rw [← S1.o] at P2)); obtain ⟨Q2, HB⟩ := b_ (sZ P2 (ac (hB_))) <| c_ (ab (hB_) hb); clear hb P2))
 go_loopg [8] k (fun kq v8 w' => ∃ (k0 : List Int) (d0 : Int), v8 = .int .i64 d0 ∧ aa (ae.l0 kq l0 l1 a2 k0 d0 = some r) ∧ aa (kq ≤ k) ∧ aa (Kd.R (Kd.int .u64) 93 w' w.heap.size (fun _ => True) X1 k0) ∧ aa (Below w.heap.size w w'))
 case atStart => exact ⟨(H3), (0), f0_, H', ⟨Aa _⟩, ⟨rR_ Q2.o⟩, ⟨hB_⟩⟩
 clear H'
 obtain ⟨k0, d0, rfl, HA, J1, b0, HB⟩ := hrel
 rcases gk with _ | k1
 ·exact absurd HA.o (by simp [ae.l0])
 have H := HA.o
 clear HA
 simp only [ae.l0] at H
 by_cases c7 : d0 < 5
 ·rw [Da c7] at H
  have I3 := wa c7
  clear c7
  obtain ⟨Q5, H⟩ := iD_ H
  obtain ⟨R5, H⟩ := iD_ H
  obtain ⟨L0, y1⟩ : ∃ j_ : Int, (wrap64 (d0 + 5)) = j_ := ⟨_, rfl⟩
  first | rw [y1] at H | simp only [y1] at H
  have J3 : (IntKind.i64.wrap (d0 + 5)) = L0 := (bv _).trans y1
  obtain ⟨Q4, H⟩ := iD_ H
  obtain ⟨R4, H⟩ := iD_ H
  obtain ⟨M0, z1⟩ : ∃ j_ : Int, (wrap64 (d0 + 10)) = j_ := ⟨_, rfl⟩
  first | rw [z1] at H | simp only [z1] at H
  have K3 : (IntKind.i64.wrap (d0 + 10)) = M0 := (bv _).trans z1
  obtain ⟨S4, H⟩ := iD_ H
  obtain ⟨T4, H⟩ := iD_ H
  obtain ⟨N0, B1⟩ : ∃ j_ : Int, (wrap64 (d0 + 15)) = j_ := ⟨_, rfl⟩
  first | rw [B1] at H | simp only [B1] at H
  have L3 : (IntKind.i64.wrap (d0 + 15)) = N0 := (bv _).trans B1
  obtain ⟨U4, H⟩ := iD_ H
  obtain ⟨V4, H⟩ := iD_ H
  obtain ⟨O0, C1⟩ : ∃ j_ : Int, (wrap64 (d0 + 20)) = j_ := ⟨_, rfl⟩
  first | rw [C1] at H | simp only [C1] at H
  have M3 : (IntKind.i64.wrap (d0 + 20)) = O0 := (bv _).trans C1
  obtain ⟨W4, H⟩ := iD_ H
  obtain ⟨X4, H⟩ := iD_ H
  obtain ⟨Y4, H⟩ := iD_ H
  obtain ⟨N3, W0⟩ : ∃ y_ : List Int, y_ = (k0.set (d0 : Int).toNat (Go.bits .xor .u64 (Go.bits .xor .u64 (Go.bits .xor .u64 (Go.bits .xor .u64 (rd l0 d0) (rd l0 (L0))) (rd l0 (M0))) (rd l0 (N0))) (rd l0 (O0)))) := ⟨_, rfl⟩
  first | replace H := yb_ W0 H | rw [← W0] at H
  have R2 := c_ W0
  clear W0
  have H' := c_ H
  clear H
  try go_wp2
  obtain ⟨b0, HB⟩ := b_ (tl b0.o) <| c_ (b8 HB.o)
  have Y1 : 0 ≤ (d0 : Int) := oD_
  have Z1 : d0 < (l0.length : Int) := oD_
  obtain ⟨v0, O3, x0⟩ := tb K2.o d0 Y1 Z1
  have K1 := x0
  cases O3
  replace x0 := hc_ x0
  replace Y1 := ya Y1
  replace Z1 := ya Z1
  have b2 : 0 ≤ ((L0) : Int) := oD_
  have c2 : (L0) < (l0.length : Int) := oD_
  obtain ⟨T2, P3, y0⟩ := tb K2.o (L0) b2 c2
  have L1 := y0
  obtain rfl : v0 = T2 := (by injection P3)
  replace y0 := hc_ y0
  replace b2 := ya b2
  replace c2 := ya c2
  have d2 : 0 ≤ ((M0) : Int) := oD_
  have e2 : (M0) < (l0.length : Int) := oD_
  obtain ⟨U2, Q3, B0⟩ := tb K2.o (M0) d2 e2
  have M1 := B0
  obtain rfl : v0 = U2 := (by injection Q3)
  replace B0 := hc_ B0
  replace d2 := ya d2
  replace e2 := ya e2
  have f2 : 0 ≤ ((N0) : Int) := oD_
  have g2 : (N0) < (l0.length : Int) := oD_
  obtain ⟨V2, R3, C0⟩ := tb K2.o (N0) f2 g2
  have N1 := C0
  obtain rfl : v0 = V2 := (by injection R3)
  replace C0 := hc_ C0
  replace f2 := ya f2
  replace g2 := ya g2
  have i2 : 0 ≤ ((O0) : Int) := oD_
  have j2 : (O0) < (l0.length : Int) := oD_
  obtain ⟨X2, S3, D0⟩ := tb K2.o (O0) i2 j2
  have O1 := D0
  obtain rfl : v0 = X2 := (by injection S3)
  replace D0 := hc_ D0
  replace i2 := ya i2
  replace j2 := ya j2
  have T3 : 0 ≤ (d0 : Int) := oD_
  have U3 : (d0 : Int) < ((k0.length : Int) : Int) := oD_
  obtain ⟨go23, S5, Y2, Z2, gl23, cl23, HG23⟩ := tt b0.o (by omega)
  (first | cases Y2 | (injection Y2 with ea_ en_ ec_; (first | subst ea_ | (injection ea_ with ea_; subst ea_)); subst ec_; clear en_))
  have V3 := c_ Z2
  have GG23 := c_ HG23
  clear Z2 gl23 HG23
  obtain ⟨m2, hf23_0⟩ := te 0 b0.o (d0 : Int) T3 U3
  replace T3 := ya T3
  replace U3 := ya U3
  have HP25 := tO b0.o (d0 : Int) (Go.bits .xor .u64 (Go.bits .xor .u64 (Go.bits .xor .u64 (Go.bits .xor .u64 (rd l0 d0) (rd l0 (L0))) (rd l0 (M0))) (rd l0 (N0))) (rd l0 (O0)))
  rw [← R2.o] at HP25
  have HQ25 := c_ HP25
  clear HP25
  refine d9 (n := 32) (S := fun w' => w'.cell? (v0.add (d0).toNat) = some (.int .u64 (rd l0 d0)) ∧ w'.cell? (v0.add ((L0)).toNat) = some (.int .u64 (rd l0 (L0))) ∧ w'.cell? (v0.add ((M0)).toNat) = some (.int .u64 (rd l0 (M0))) ∧ w'.cell? (v0.add ((N0)).toNat) = some (.int .u64 (rd l0 (N0))) ∧ w'.cell? (v0.add ((O0)).toNat) = some (.int .u64 (rd l0 (O0)))) (ds := [31]) (bb_ 32 0) (by kernel_rfl) rfl rfl ⟨(hc_ K1), (hc_ L1), (hc_ M1), (hc_ N1), (hc_ O1)⟩ (fun hHeld => ?_); refine cN ae.tab5 ae.bits5 (fun HT_ HW_ => ?_)
  generalize wr.drew = q6 at b0 HB GG23 HQ25 hf23_0 m2 x0 y0 B0 C0 D0 hHeld ⊢
  refine pT_ 0 21 32 1 ?_
  refine pT_ 1 22 32 3 ?_
  refine pT_ 2 23 32 7 ?_
  refine pT_ 3 24 32 15 ?_
  refine pT_ 4 25 32 31 ?_
  refine pT_ 6 27 32 95 ?_
  refine pT_ 7 28 32 223 ?_
  refine pT_ 8 29 32 479 ?_
  refine pT_ 9 30 32 991 ?_
  refine pT_ 12 33 32 5087 ?_
  refine pT_ 13 34 32 13279 ?_
  refine pT_ 14 35 32 29663 ?_
  refine pT_ 15 36 32 62431 ?_
  refine pT_ 18 39 32 324575 ?_
  refine pT_ 19 40 32 848863 ?_
  refine pT_ 20 41 32 1897439 ?_
  refine pT_ 21 42 32 3994591 ?_
  refine pT_ 24 45 32 20771807 ?_
  refine pT_ 25 46 32 54326239 ?_
  refine pT_ 26 47 32 121435103 ?_
  refine pT_ 27 48 32 255652831 ?_
  refine tS_ 5 26 (bb_ 32 255652863) (bx HT_.o HW_.o (by kernel_rfl)) hHeld ?_
  refine tS_ 10 31 (bb_ 32 255653887) (bx HT_.o HW_.o (by kernel_rfl)) hHeld ?_
  refine pT_ 11 32 32 255655935 ?_
  refine tS_ 16 37 (bb_ 32 255721471) (bx HT_.o HW_.o (by kernel_rfl)) hHeld ?_
  refine pT_ 17 38 32 255852543 ?_
  refine tS_ 22 43 (bb_ 32 260046847) (bx HT_.o HW_.o (by kernel_rfl)) hHeld ?_
  refine pT_ 23 44 32 268435455 ?_
  refine tS_ 28 49 (bb_ 32 536870911) (bx HT_.o HW_.o (by kernel_rfl)) hHeld ?_
  refine pT_ 29 50 32 1073741823 ?_
  refine pT_ 30 51 32 2147483647 ?_
  refine gv (i := 31) (N := none) (bb_ 32 4294967295) rfl rfl (cD HT_.o (by kernel_rfl)) (by decide) (fun K hK => ?_)
  refine iw (w1 := ?_) (by rfl) rfl ?_ ?_
  rotate_left
  ·go_simp
   rfl
  refine hK _ _ ?_
  clear hK K
  refine fc (du HT_.o (by kernel_rfl)) ?_
  try go_wp2
  go_roundg k1
  case measure => have := J1.o; omega
  case rel => exact ⟨(N3), (wrap64 (d0 + 1)), f0_, H', ⟨by have := J1.o; omega⟩, ⟨rR_ HQ25.o⟩, ⟨hS_ V3.o⟩⟩
 rw [Ea c7] at H
 have I3 := xa c7
 clear c7
 obtain ⟨W3, H⟩ := iN_ H
 have Z4 := ya W3
 have b5 := wa W3
 clear W3
 obtain ⟨X3, X0⟩ : ∃ y_ : List Int, y_ = (List.replicate 25 0) := ⟨_, rfl⟩
 first | replace H := yb_ X0 H | rw [← X0] at H
 have T1 := c_ X0
 clear X0
 have H' := c_ H
 clear H
 go_wp2_with (first | ((refine aI (N := 52) rfl ?_); refine tw (Kd.int .u64) _ 93 rfl (N := 52) rfl 91 _ _ rfl 25 rfl rfl Tryz.underlying91 (.int .u64 0) 8 jN rfl (by decide) (by omega) 0 (ok := fun _ => True) (okp := fun _ => True) rfl (fun _ hk => hk) trivial (by omega) (by omega) (Ba _ _) (Aa _) ?_; intro H0 v6 r1 hb hg_ hnew_; clear hg_ hnew_; (first | rw [← T1.o] at r1 | (simp only [Int.reduceToNat] at r1; rw [← T1.o] at r1)); obtain ⟨b0, b3, HB⟩ := b_ (s5 (rR_ b0.o) (sY r1) hb) <| b_ (sZ (ta r1 (ti (rR_ b0.o))) (ac (hB_))) <| c_ (ab (hB_) hb); clear hb r1))
 go_loopg [10] k1 (fun kq T5 w' => ∃ (j0 : List Int) (n0 : Int), T5 = .int .i64 n0 ∧ aa (ae.l1 kq l0 l1 a2 k0 j0 n0 = some r) ∧ aa (kq ≤ k1) ∧ aa (Kd.R (Kd.int .u64) 93 w' w.heap.size (fun k_ => some k_ ≠ (H0 : Value).ownBlock) X1 k0) ∧ aa (Kd.R (Kd.int .u64) 93 w' w.heap.size (fun k_ => some k_ ≠ (X1 : Value).ownBlock) H0 j0) ∧ aa (Below w.heap.size w w'))
 case atStart => exact ⟨(X3), (0), f0_, H', ⟨Aa _⟩, ⟨by refine kR_ ?_; exact s9 b0.o (fun _ hk => hk.2)⟩, ⟨by refine kR_ ?_; exact s9 b3.o (fun _ hk => hk.2)⟩, ⟨hB_⟩⟩
 clear H'
 obtain ⟨j0, n0, rfl, HA, U1, b0, a0, HB⟩ := hrel
 rcases gk with _ | k2
 ·exact absurd HA.o (by simp [ae.l1])
 have H := HA.o
 clear HA
 simp only [ae.l1] at H
 by_cases L2 : n0 < 5
 ·rw [Da L2] at H
  have c3 := wa L2
  clear L2
  obtain ⟨P0, D1⟩ : ∃ j_ : Int, (Int.tmod (wrap64 (n0 + 4)) 5) = j_ := ⟨_, rfl⟩
  first | rw [D1] at H | simp only [D1] at H
  obtain ⟨c5, H⟩ := iD_ H
  obtain ⟨e5, H⟩ := iD_ H
  obtain ⟨S0, E1⟩ : ∃ j_ : Int, (Int.tmod (wrap64 (n0 + 1)) 5) = j_ := ⟨_, rfl⟩
  first | rw [E1] at H | simp only [E1] at H
  obtain ⟨f5, H⟩ := iD_ H
  obtain ⟨i5, H⟩ := iD_ H
  obtain ⟨P1, U5, H⟩ := bN_ H
  have H' := c_ H
  clear H
  try go_wp2
  obtain ⟨b0, a0, HB⟩ := b_ (tl b0.o) <| b_ (tl a0.o) <| c_ (b8 HB.o)
  obtain ⟨V5, e3, f3⟩ := s7 b0.o
  (first | subst f3 | (injection f3 with f1_ f2_ f3_; have f4_ := f1_.symm; have f5_ := f3_.symm; clear f1_ f2_ f3_; subst f4_; subst f5_))
  have n2 : 0 ≤ ((P0) : Int) := oD_
  have p2 : (P0) < (k0.length : Int) := oD_
  obtain ⟨Q0, Y3, Y0⟩ := tb (sX b0.o).2.2 (P0) n2 p2
  cases Y3
  replace n2 := ya n2
  replace p2 := ya p2
  have q2 : 0 ≤ ((S0) : Int) := oD_
  have r2 : (S0) < (k0.length : Int) := oD_
  obtain ⟨g3, Z3, Z0⟩ := tb (sX b0.o).2.2 (S0) q2 r2
  obtain rfl : Q0 = g3 := (by injection Z3)
  replace q2 := ya q2
  replace r2 := ya r2
  refine d9 (n := 15) (S := fun w' => w'.cell? (Q0.add ((P0)).toNat) = some (.int .u64 (rd k0 (P0))) ∧ w'.cell? (Q0.add ((S0)).toNat) = some (.int .u64 (rd k0 (S0)))) (ds := []) (bb_ 15 0) (by kernel_rfl) rfl rfl ⟨Y0, Z0⟩ (fun hHeld => ?_); refine cN ae.tab10 ae.bits10 (fun HT_ HW_ => ?_)
  generalize wr.drew = w6 at b0 a0 HB Y0 Z0 hHeld ⊢
  refine pT_ 0 57 15 1 ?_
  refine pT_ 1 58 15 3 ?_
  refine pT_ 2 59 15 7 ?_
  refine pT_ 3 60 15 15 ?_
  refine pT_ 4 61 15 31 ?_
  refine pT_ 6 63 15 95 ?_
  refine pT_ 7 64 15 223 ?_
  refine pT_ 8 65 15 479 ?_
  refine pT_ 9 66 15 991 ?_
  refine pT_ 10 67 15 2015 ?_
  refine tS_ 5 62 (bb_ 15 2047) (bx HT_.o HW_.o (by kernel_rfl)) hHeld ?_
  refine tS_ 11 68 (bb_ 15 4095) (bx HT_.o HW_.o (by kernel_rfl)) hHeld ?_
  refine fC (i := 12) (N := some 69) (bb_ 15 8191) rfl rfl (cD HT_.o (by kernel_rfl)) (by decide) (fun K hK => ?_)
  refine fv Tryz.func118 (by kernel_rfl) rfl #[.int .u64 (rd k0 (S0)), .int .i64 1] (by rfl) rfl rfl (by (try simp only [List.map_toArray, List.map_cons, List.map_nil]); first | done | (simp only [E1]; rfl) | rfl | (simp only [List.length_drop, List.length_take]; rfl)) ?_
  with_reducible refine (bu.calls k2 (rd k0 (S0)) 1 P1 _ U5.o).mono ?_
  rintro e w' ⟨rfl, ⟨nd, rfl⟩⟩
  refine ⟨_, rfl, ?_⟩
  refine hK _ _ ⟨hHeld.1, hHeld.2⟩ (fun hHeld => ?_)
  clear hK K
  refine dL (a' := ?_) ?_ ?_
  rotate_left
  ·show Act.put _ (some 69) _ = _
   simp only [Act.put, List.setIfInBounds_toArray, List.set_cons_zero, List.set_cons_succ, bv, cG]
   rfl
  refine pT_ 13 70 15 16383 ?_
  refine pT_ 14 11 15 32767 ?_
  refine fc (du HT_.o (by kernel_rfl)) ?_
  try go_wp2
  go_loopg [12] k2 (fun kq W5 w' => ∃ (t1 : List Int) (q0 : Int), W5 = .int .i64 q0 ∧ aa (ae.l2 kq l0 l1 a2 k0 t1 n0 (Go.bits .xor .u64 (rd k0 (P0)) P1) q0 = some r) ∧ aa (kq ≤ k2) ∧ aa (Kd.R (Kd.int .u64) 93 w' w.heap.size (fun k_ => some k_ ≠ (H0 : Value).ownBlock) (.slice (some Q0) k0.length e3) k0) ∧ aa (Kd.R (Kd.int .u64) 93 w' w.heap.size (fun k_ => some k_ ≠ ((.slice (some Q0) k0.length e3) : Value).ownBlock) H0 t1) ∧ aa (Below w.heap.size w w'))
  case atStart => exact ⟨(j0), (0), f0_, H', ⟨Aa _⟩, ⟨rR_ b0.o⟩, ⟨rR_ a0.o⟩, ⟨hB_⟩⟩
  clear H'
  obtain ⟨t1, q0, rfl, HA, Q1, b0, a0, HB⟩ := hrel
  rcases gk with _ | k3
  ·exact absurd HA.o (by simp [ae.l2])
  have H := HA.o
  clear HA
  simp only [ae.l2] at H
  by_cases M2 : q0 < 5
  rotate_left
  ·rw [Ea M2] at H
   have i3 := xa M2
   clear M2
   have H' := c_ H
   clear H
   go_wp2
   go_roundg k3
   case measure => have := J1.o; have := U1.o; have := Q1.o; omega
   case rel => exact ⟨(t1), (wrap64 (n0 + 1)), f0_, H', ⟨by have := J1.o; have := U1.o; have := Q1.o; omega⟩, ⟨rR_ b0.o⟩, ⟨rR_ a0.o⟩, ⟨hB_⟩⟩
  rw [Da M2] at H
  have i3 := wa M2
  clear M2
  obtain ⟨t0, b1⟩ : ∃ j_ : Int, (wrap64 (n0 + (wrap64 (5 * q0)))) = j_ := ⟨_, rfl⟩
  first | rw [b1] at H | simp only [b1] at H
  have b4 : (IntKind.i64.wrap (n0 + (wrap64 (5 * q0)))) = t0 := (bv _).trans b1
  obtain ⟨p5, H⟩ := iD_ H
  obtain ⟨q5, H⟩ := iD_ H
  obtain ⟨u5, H⟩ := iD_ H
  obtain ⟨t2, v5, H⟩ := bN_ H
  obtain ⟨T0, d1⟩ : ∃ j_ : Int, (wrap64 (q0 + (wrap64 (5 * (Int.tmod (wrap64 ((wrap64 (2 * n0)) + (wrap64 (3 * q0)))) 5))))) = j_ := ⟨_, rfl⟩
  first | rw [d1] at H | simp only [d1] at H
  (try rw [d1] at v5)
  have e4 : (IntKind.i64.wrap (q0 + (wrap64 (5 * (Int.tmod (wrap64 ((wrap64 (2 * n0)) + (wrap64 (3 * q0)))) 5))))) = T0 := (bv _).trans d1
  obtain ⟨y5, H⟩ := iD_ H
  obtain ⟨z5, H⟩ := iD_ H
  obtain ⟨f4, e1⟩ : ∃ y_ : List Int, y_ = (t1.set ((T0) : Int).toNat t2) := ⟨_, rfl⟩
  first | replace H := yb_ e1 H | rw [← e1] at H
  have m3 := c_ e1
  clear e1
  have H' := c_ H
  clear H
  try go_wp2
  obtain ⟨b0, a0, HB⟩ := b_ (tl b0.o) <| b_ (tl a0.o) <| c_ (b8 HB.o)
  have u2 : 0 ≤ ((t0) : Int) := oD_
  have v2 : (t0) < (l0.length : Int) := oD_
  obtain ⟨n3, g4, E0⟩ := tb K2.o (t0) u2 v2
  have f1 := E0
  cases g4
  replace E0 := hc_ E0
  replace u2 := ya u2
  replace v2 := ya v2
  have y2 : 0 ≤ ((t0) : Int) := oD_
  have z2 : (t0) < (l1.length : Int) := oD_
  obtain ⟨p3, i4, F0⟩ := tb N5.o (t0) y2 z2
  have g1 := F0
  cases i4
  replace F0 := hc_ F0
  replace y2 := ya y2
  replace z2 := ya z2
  refine d9 (n := 29) (S := fun w' => w'.cell? (n3.add ((t0)).toNat) = some (.int .u64 (rd l0 (t0))) ∧ w'.cell? (p3.add ((t0)).toNat) = some (.int .i64 (rd l1 (t0)))) (ds := [28]) (bb_ 29 0) (by kernel_rfl) rfl rfl ⟨(hc_ f1), (hc_ g1)⟩ (fun hHeld => ?_); refine cN ae.tab14 ae.bits14 (fun HT_ HW_ => ?_)
  generalize wr.drew = y6 at b0 a0 HB E0 F0 hHeld ⊢
  refine pT_ 0 75 29 1 ?_
  refine pT_ 1 76 29 3 ?_
  refine pT_ 2 77 29 7 ?_
  refine pT_ 3 78 29 15 ?_
  refine pT_ 4 79 29 31 ?_
  refine pT_ 5 80 29 63 ?_
  refine pT_ 6 81 29 127 ?_
  refine pT_ 7 82 29 255 ?_
  refine pT_ 8 83 29 511 ?_
  refine pT_ 9 84 29 1023 ?_
  refine pT_ 10 85 29 2047 ?_
  refine pT_ 11 86 29 4095 ?_
  refine pT_ 12 87 29 8191 ?_
  refine pT_ 13 88 29 16383 ?_
  refine pT_ 14 89 29 32767 ?_
  refine pT_ 15 90 29 65535 ?_
  refine pT_ 17 92 29 196607 ?_
  refine pT_ 19 94 29 720895 ?_
  refine pT_ 20 95 29 1769471 ?_
  refine pT_ 21 96 29 3866623 ?_
  refine pT_ 22 97 29 8060927 ?_
  refine pT_ 23 98 29 16449535 ?_
  refine pT_ 24 99 29 33226751 ?_
  refine tS_ 16 91 (bb_ 29 33292287) (bx HT_.o HW_.o (by kernel_rfl)) hHeld ?_
  refine pT_ 18 93 29 33554431 ?_
  refine tS_ 25 100 (bb_ 29 67108863) (bx HT_.o HW_.o (by kernel_rfl)) hHeld ?_
  refine fC (i := 26) (N := some 101) (bb_ 29 134217727) rfl rfl (cD HT_.o (by kernel_rfl)) (by decide) (fun K hK => ?_)
  refine fv Tryz.func118 (by kernel_rfl) rfl #[.int .u64 (Go.bits .xor .u64 (rd l0 (t0)) (Go.bits .xor .u64 (rd k0 (P0)) P1)), .int .i64 (rd l1 (t0))] (by rfl) rfl rfl (by (try simp only [List.map_toArray, List.map_cons, List.map_nil]); first | done | (simp only [D1, b1]; rfl) | rfl | (simp only [List.length_drop, List.length_take]; rfl)) ?_
  with_reducible refine (bu.calls k3 (Go.bits .xor .u64 (rd l0 (t0)) (Go.bits .xor .u64 (rd k0 (P0)) P1)) (rd l1 (t0)) t2 _ v5.o).mono ?_
  rintro e w' ⟨rfl, ⟨nd, rfl⟩⟩
  refine ⟨_, rfl, ?_⟩
  have n4 : 0 ≤ ((T0) : Int) := oD_
  have q4 : ((T0) : Int) < ((t1.length : Int) : Int) := oD_
  obtain ⟨go48, X5, q3, r3, gl48, cl48, HG48⟩ := tt a0.o (by omega)
  (first | cases q3 | (injection q3 with ea_ en_ ec_; (first | subst ea_ | (injection ea_ with ea_; subst ea_)); subst ec_; clear en_))
  have t4 := c_ r3
  have GG48 := c_ HG48
  clear r3 gl48 HG48
  obtain ⟨u4, hf48_0⟩ := te 0 a0.o ((T0) : Int) n4 q4
  replace n4 := ya n4
  replace q4 := ya q4
  have HP50 := tO a0.o ((T0) : Int) t2
  rw [← m3.o] at HP50
  have HQ50 := c_ HP50
  clear HP50
  refine hK _ _ ⟨(hc_ f1), (hc_ g1)⟩ (fun hHeld => ?_)
  clear hK K
  refine dL (a' := ?_) ?_ ?_
  rotate_left
  ·show Act.put _ (some 101) _ = _
   simp only [Act.put, List.setIfInBounds_toArray, List.set_cons_zero, List.set_cons_succ, bv, cG]
   rfl
  refine pT_ 27 102 29 268435455 ?_
  refine gv (i := 28) (N := none) (bb_ 29 536870911) rfl rfl (cD HT_.o (by kernel_rfl)) (by decide) (fun K hK => ?_)
  refine iw (w1 := ?_) (by rfl) rfl ?_ ?_
  rotate_left
  ·go_simp
   rfl
  refine hK _ _ ?_
  clear hK K
  refine fc (du HT_.o (by kernel_rfl)) ?_
  try go_wp2
  go_roundg k3
  case measure => have := J1.o; have := U1.o; have := Q1.o; omega
  case rel => exact ⟨(f4), (wrap64 (q0 + 1)), f0_, H', ⟨by have := J1.o; have := U1.o; have := Q1.o; omega⟩, ⟨by refine kR_ ?_; exact s9 (tv (p := ⟨go48, ((T0) : Int).toNat, none⟩) (s9 b0.o (fun k_ hk => (⟨hk, fun e_ => hk (by rw [e_]; rfl)⟩ : _ ∧ k_ ≠ go48))) (fun _ hk => hk.2) _) (fun _ hk => hk.1)⟩, ⟨rR_ HQ50.o⟩, ⟨hS_ t4.o⟩⟩
 rw [Ea L2] at H
 have c3 := xa L2
 clear L2
 obtain ⟨v4, H⟩ := iN_ H
 have A5 := ya v4
 have B5 := wa v4
 clear v4
 obtain ⟨w4, i1⟩ : ∃ y_ : List Int, y_ = (List.replicate 25 0) := ⟨_, rfl⟩
 first | replace H := yb_ i1 H | rw [← i1] at H
 have V1 := c_ i1
 clear i1
 have H' := c_ H
 clear H
 go_wp2_with (first | ((refine aI (N := 103) rfl ?_); refine tw (Kd.int .u64) _ 93 rfl (N := 103) rfl 91 _ _ rfl 25 rfl rfl Tryz.underlying91 (.int .u64 0) 8 jN rfl (by decide) (by omega) 0 (ok := fun _ => True) (okp := fun _ => True) rfl (fun _ hk => hk) trivial (by omega) (by omega) (Ba _ _) (Aa _) ?_; intro R1 z6 U0 hb hg_ hnew_; clear hg_ hnew_; (first | rw [← V1.o] at U0 | (simp only [Int.reduceToNat] at U0; rw [← V1.o] at U0)); obtain ⟨b0, a0, t3, HB⟩ := b_ (s5 (rR_ b0.o) (sY U0) hb) <| b_ (s5 (rR_ a0.o) (sY U0) hb) <| b_ (sZ (ta (ta U0 (ti (rR_ b0.o))) (ti (rR_ a0.o))) (ac (hB_))) <| c_ (ab (hB_) hb); clear hb U0))
 go_loopg [14] k2 (fun kq Y5 w' => ∃ (e0 : List Int) (p0 : Int), Y5 = .int .i64 p0 ∧ aa (ae.l3 kq a2 j0 e0 p0 = some r) ∧ aa (kq ≤ k2) ∧ aa (Kd.R (Kd.int .u64) 93 w' w.heap.size (fun k_ => some k_ ≠ (R1 : Value).ownBlock) H0 j0) ∧ aa (Kd.R (Kd.int .u64) 93 w' w.heap.size (fun k_ => some k_ ≠ (H0 : Value).ownBlock) R1 e0) ∧ aa (Below w.heap.size w w'))
 case atStart => exact ⟨(w4), (0), f0_, H', ⟨Aa _⟩, ⟨by refine kR_ ?_; exact s9 a0.o (fun _ hk => hk.2)⟩, ⟨by refine kR_ ?_; exact s9 t3.o (fun _ hk => hk.2)⟩, ⟨hB_⟩⟩
 clear H'
 obtain ⟨e0, p0, rfl, HA, Q1, a0, f0, HB⟩ := hrel
 rcases gk with _ | k3
 ·exact absurd HA.o (by simp [ae.l3])
 have H := HA.o
 clear HA
 simp only [ae.l3] at H
 by_cases N2 : p0 < 5
 rotate_left
 ·rw [Ea N2] at H
  have u3 := xa N2
  clear N2
  obtain ⟨C5, H⟩ := iN_ H
  have D5 := wa C5
  have E5 : decide (0 < e0.length) = true := wa (by omega)
  clear C5
  obtain ⟨y4, j1⟩ : ∃ y_ : List Int, y_ = (e0.set (0 : Int).toNat (Go.bits .xor .u64 (rd e0 0) a2)) := ⟨_, rfl⟩
  first | replace H := yb_ j1 H | rw [← j1] at H
  have v3 := c_ j1
  clear j1
  obtain rfl := za H
  obtain ⟨Z5, A2, z4⟩ := s7 f0.o
  subst z4
  have B2 : 0 ≤ (0 : Int) := (by omega)
  have C2 : 0 < (e0.length : Int) := oD_
  obtain ⟨F5, A4, I0⟩ := tb (sX f0.o).2.2 0 B2 C2
  cases A4
  have qi457 : (0 < e0.length) = True := ya (by omega)
  (try rw [show ((0 : Int)).toNat = 0 from rfl] at I0)
  (try rw [Addr.add_zero'] at I0)
  replace B2 := ya B2
  replace C2 := ya C2
  have B4 : 0 ≤ (0 : Int) := (by omega)
  have C4 : (0 : Int) < ((e0.length : Int) : Int) := oD_
  have qi71 : (0 < e0.length) = True := ya (by omega)
  obtain ⟨go71, b6, w3, y3, gl71, cl71, HG71⟩ := tt f0.o (by omega)
  (first | cases w3 | (injection w3 with ea_ en_ ec_; (first | subst ea_ | (injection ea_ with ea_; subst ea_)); subst ec_; clear en_))
  have D4 := c_ y3
  have GG71 := c_ HG71
  clear y3 gl71 HG71
  (first | simp only [b9] at I0 | skip)
  obtain ⟨F1, hf71_0⟩ := te 0 f0.o (0 : Int) B4 C4
  (try rw [show ((0 : Int)).toNat = 0 from rfl] at F1)
  (try simp only [Nat.reduceMul, Nat.zero_mul, Nat.zero_add, Nat.reduceAdd] at F1)
  (try rw [show ((0 : Int)).toNat = 0 from rfl] at hf71_0)
  (try simp only [Nat.reduceMul, Nat.zero_mul, Nat.zero_add, Nat.reduceAdd] at hf71_0)
  replace B4 := ya B4
  replace C4 := ya C4
  have HP73 := tm f0.o (0 : Int) (Go.bits .xor .u64 (rd e0 0) a2)
  go_wp2_with (first | ((refine cn (t := 93) (p := 152) rfl ?_); refine ce (t := 93) (p := 152) (v := ?vo_w74) (w1 := (wr.setCell ⟨go71, (0 : Int).toNat, none⟩ (.int .u64 (Go.bits .xor .u64 (rd e0 0) a2)))) ?hg ?ho ?hn ?hr ?_; (case ho => rfl); (case hg => rfl); (case hn => rfl); (case hr => first | (go_simp; done) | (go_simp; rfl)); intro E4 hw; have hg : wr.grownBy E4 (some go71) := (by rw [hw]; exact HP73.2); have hp_ : Kd.R (Kd.int .u64) 93 E4 w.heap.size (fun k_ => some k_ ≠ (H0 : Value).ownBlock) (.slice (some ⟨go71, 0, none⟩) e0.length A2) y4 := (by rw [hw, v3.o]; exact HP73.1); clear HP73; obtain ⟨a0, f0, HB⟩ := b_ (tC (v := (.slice (some ⟨go71, 0, none⟩) e0.length A2)) (v1 := (.slice (some ⟨go71, 0, none⟩) e0.length A2)) (ok := (fun _ => True)) (by refine kR_ ?_; exact s9 a0.o (fun _ hk => ⟨trivial, hk⟩)) hg (.inl rfl)) <| b_ (hp_) <| c_ (by rw [hw]; exact cq (HB.o) D4.o : Below w.heap.size w E4); clear hg hw hp_))
  go_ret
  exact ⟨_, f1_, by refine kR_ ?_; exact s9 f0.o (fun _ hk => trivial), hB_⟩
 rw [Da N2] at H
 have u3 := wa N2
 clear N2
 have H' := c_ H
 clear H
 go_wp2
 go_loopg [15] k3 (fun kq c6 w' => ∃ (G0 : List Int) (r0 : Int), c6 = .int .i64 r0 ∧ aa (ae.l4 kq a2 j0 G0 p0 r0 = some r) ∧ aa (kq ≤ k3) ∧ aa (Kd.R (Kd.int .u64) 93 w' w.heap.size (fun k_ => some k_ ≠ (R1 : Value).ownBlock) H0 j0) ∧ aa (Kd.R (Kd.int .u64) 93 w' w.heap.size (fun k_ => some k_ ≠ (H0 : Value).ownBlock) R1 G0) ∧ aa (Below w.heap.size w w'))
 case atStart => exact ⟨(e0), (0), f0_, H', ⟨Aa _⟩, ⟨rR_ a0.o⟩, ⟨rR_ f0.o⟩, ⟨hB_⟩⟩
 clear H'
 obtain ⟨G0, r0, rfl, HA, G3, a0, f0, HB⟩ := hrel
 rcases gk with _ | k4
 ·exact absurd HA.o (by simp [ae.l4])
 have H := HA.o
 clear HA
 simp only [ae.l4] at H
 by_cases O2 : r0 < 5
 rotate_left
 ·rw [Ea O2] at H
  have z3 := xa O2
  clear O2
  have H' := c_ H
  clear H
  go_wp2
  go_roundg k4
  case measure => have := J1.o; have := U1.o; have := Q1.o; have := G3.o; omega
  case rel => exact ⟨(G0), (wrap64 (p0 + 1)), f0_, H', ⟨by have := J1.o; have := U1.o; have := Q1.o; have := G3.o; omega⟩, ⟨rR_ a0.o⟩, ⟨rR_ f0.o⟩, ⟨hB_⟩⟩
 rw [Da O2] at H
 have z3 := wa O2
 clear O2
 obtain ⟨u0, G1⟩ : ∃ j_ : Int, (wrap64 (p0 + (wrap64 (5 * r0)))) = j_ := ⟨_, rfl⟩
 first | rw [G1] at H | simp only [G1] at H
 have F4 : (IntKind.i64.wrap (p0 + (wrap64 (5 * r0)))) = u0 := (bv _).trans G1
 obtain ⟨G5, H⟩ := iD_ H
 obtain ⟨H5, H⟩ := iD_ H
 obtain ⟨J0, H1⟩ : ∃ j_ : Int, (wrap64 ((Int.tmod (wrap64 (p0 + 1)) 5) + (wrap64 (5 * r0)))) = j_ := ⟨_, rfl⟩
 first | rw [H1] at H | simp only [H1] at H
 have G4 : (IntKind.i64.wrap ((Int.tmod (wrap64 (p0 + 1)) 5) + (wrap64 (5 * r0)))) = J0 := (bv _).trans H1
 obtain ⟨I5, H⟩ := iD_ H
 obtain ⟨J5, H⟩ := iD_ H
 obtain ⟨K0, I1⟩ : ∃ j_ : Int, (wrap64 ((Int.tmod (wrap64 (p0 + 2)) 5) + (wrap64 (5 * r0)))) = j_ := ⟨_, rfl⟩
 first | rw [I1] at H | simp only [I1] at H
 have H4 : (IntKind.i64.wrap ((Int.tmod (wrap64 (p0 + 2)) 5) + (wrap64 (5 * r0)))) = K0 := (bv _).trans I1
 obtain ⟨K5, H⟩ := iD_ H
 obtain ⟨L5, H⟩ := iD_ H
 obtain ⟨M5, H⟩ := iD_ H
 obtain ⟨I4, m1⟩ : ∃ y_ : List Int, y_ = (G0.set ((u0) : Int).toNat (Go.bits .xor .u64 (rd j0 (u0)) (Go.bits .and .u64 (IntKind.u64.wrap (18446744073709551615 - (rd j0 (J0)))) (rd j0 (K0))))) := ⟨_, rfl⟩
 first | replace H := yb_ m1 H | rw [← m1] at H
 have A3 := c_ m1
 clear m1
 have H' := c_ H
 clear H
 try go_wp2
 obtain ⟨a0, f0, HB⟩ := b_ (tl a0.o) <| b_ (tl f0.o) <| c_ (b8 HB.o)
 obtain ⟨e6, f6, B3⟩ := s7 a0.o
 (first | subst B3 | (injection B3 with f1_ f2_ f3_; have f4_ := f1_.symm; have f5_ := f3_.symm; clear f1_ f2_ f3_; subst f4_; subst f5_))
 have D2 : 0 ≤ ((u0) : Int) := oD_
 have E2 : (u0) < (j0.length : Int) := oD_
 obtain ⟨R0, J4, n1⟩ := tb (sX a0.o).2.2 (u0) D2 E2
 cases J4
 replace D2 := ya D2
 replace E2 := ya E2
 have F2 : 0 ≤ ((J0) : Int) := oD_
 have G2 : (J0) < (j0.length : Int) := oD_
 obtain ⟨C3, K4, p1⟩ := tb (sX a0.o).2.2 (J0) F2 G2
 obtain rfl : R0 = C3 := (by injection K4)
 replace F2 := ya F2
 replace G2 := ya G2
 have H2 : 0 ≤ ((K0) : Int) := oD_
 have I2 : (K0) < (j0.length : Int) := oD_
 obtain ⟨D3, L4, q1⟩ := tb (sX a0.o).2.2 (K0) H2 I2
 obtain rfl : R0 = D3 := (by injection L4)
 replace H2 := ya H2
 replace I2 := ya I2
 have M4 : 0 ≤ ((u0) : Int) := oD_
 have N4 : ((u0) : Int) < ((G0.length : Int) : Int) := oD_
 obtain ⟨go66, g6, E3, F3, gl66, cl66, HG66⟩ := tt f0.o (by omega)
 (first | cases E3 | (injection E3 with ea_ en_ ec_; (first | subst ea_ | (injection ea_ with ea_; subst ea_)); subst ec_; clear en_))
 have O4 := c_ F3
 have GG66 := c_ HG66
 clear F3 gl66 HG66
 obtain ⟨J2, hf66_0⟩ := te 0 f0.o ((u0) : Int) M4 N4
 replace M4 := ya M4
 replace N4 := ya N4
 have HP69 := tO f0.o ((u0) : Int) (Go.bits .xor .u64 (rd j0 (u0)) (Go.bits .and .u64 (IntKind.u64.wrap (18446744073709551615 - (rd j0 (J0)))) (rd j0 (K0))))
 rw [← A3.o] at HP69
 have HQ69 := c_ HP69
 clear HP69
 refine d9 (n := 35) (S := fun w' => w'.cell? (R0.add ((u0)).toNat) = some (.int .u64 (rd j0 (u0))) ∧ w'.cell? (R0.add ((J0)).toNat) = some (.int .u64 (rd j0 (J0))) ∧ w'.cell? (R0.add ((K0)).toNat) = some (.int .u64 (rd j0 (K0)))) (ds := [34]) (bb_ 35 0) (by kernel_rfl) rfl rfl ⟨n1, p1, q1⟩ (fun hHeld => ?_); refine cN ae.tab22 ae.bits22 (fun HT_ HW_ => ?_)
 generalize wr.drew = A6 at a0 f0 HB GG66 HQ69 hf66_0 n1 p1 q1 J2 hHeld ⊢
 refine pT_ 0 112 35 1 ?_
 refine pT_ 1 113 35 3 ?_
 refine pT_ 2 114 35 7 ?_
 refine pT_ 3 115 35 15 ?_
 refine pT_ 4 116 35 31 ?_
 refine pT_ 5 117 35 63 ?_
 refine pT_ 6 118 35 127 ?_
 refine pT_ 7 119 35 255 ?_
 refine pT_ 8 120 35 511 ?_
 refine pT_ 9 121 35 1023 ?_
 refine pT_ 10 122 35 2047 ?_
 refine pT_ 12 124 35 6143 ?_
 refine pT_ 13 125 35 14335 ?_
 refine pT_ 14 126 35 30719 ?_
 refine pT_ 15 127 35 63487 ?_
 refine pT_ 16 128 35 129023 ?_
 refine pT_ 17 129 35 260095 ?_
 refine pT_ 18 130 35 522239 ?_
 refine pT_ 19 131 35 1046527 ?_
 refine pT_ 22 134 35 5240831 ?_
 refine pT_ 23 135 35 13629439 ?_
 refine pT_ 24 136 35 30406655 ?_
 refine pT_ 25 137 35 63961087 ?_
 refine pT_ 26 138 35 131069951 ?_
 refine pT_ 27 139 35 265287679 ?_
 refine pT_ 28 140 35 533723135 ?_
 refine pT_ 29 141 35 1070594047 ?_
 refine tS_ 11 123 (bb_ 35 1070596095) (bx HT_.o HW_.o (by kernel_rfl)) hHeld ?_
 refine tS_ 20 132 (bb_ 35 1071644671) (bx HT_.o HW_.o (by kernel_rfl)) hHeld ?_
 refine pT_ 21 133 35 1073741823 ?_
 refine tS_ 30 142 (bb_ 35 2147483647) (bx HT_.o HW_.o (by kernel_rfl)) hHeld ?_
 refine pT_ 31 143 35 4294967295 ?_
 refine pT_ 32 144 35 8589934591 ?_
 refine pT_ 33 145 35 17179869183 ?_
 refine gv (i := 34) (N := none) (bb_ 35 34359738367) rfl rfl (cD HT_.o (by kernel_rfl)) (by decide) (fun K hK => ?_)
 refine iw (w1 := ?_) (by rfl) rfl ?_ ?_
 rotate_left
 ·go_simp
  rfl
 refine hK _ _ ?_
 clear hK K
 refine fc (du HT_.o (by kernel_rfl)) ?_
 try go_wp2
 go_roundg k4
 case measure => have := J1.o; have := U1.o; have := Q1.o; have := G3.o; omega
 case rel => exact ⟨(I4), (wrap64 (r0 + 1)), f0_, H', ⟨by have := J1.o; have := U1.o; have := Q1.o; have := G3.o; omega⟩, ⟨by refine kR_ ?_; exact s9 (tv (p := ⟨go66, ((u0) : Int).toNat, none⟩) (s9 a0.o (fun k_ hk => (⟨hk, fun e_ => hk (by rw [e_]; rfl)⟩ : _ ∧ k_ ≠ go66))) (fun _ hk => hk.2) (.int .u64 (Go.bits .xor .u64 (rd j0 (u0)) (Go.bits .and .u64 (IntKind.u64.wrap (18446744073709551615 - (rd j0 (J0)))) (rd j0 (K0)))))) (fun _ hk => hk.1)⟩, ⟨rR_ HQ69.o⟩, ⟨hS_ O4.o⟩⟩
def aX.l0 : Nat → List Int → List Int → List Int → Int → Option (List Int)
 | 0, _, _, _, _ => none
 | k + 1, x0, x3, x4, x5 => if x5 < 24 then (if 0 ≤ x5 then (if x5 < (x4.length : Int) then ((ae.f k x0 x3 (rd x4 x5)).bind fun t470 => (aX.l0 k t470 x3 x4 (wrap64 (x5 + 1)))) else (none)) else (none)) else (some x0)
def aX.f (k : Nat) (l0 : List Int) : Option (List Int) := (bF.f k).bind fun t463 => ((aW.f k).bind fun t466 => (aX.l0 k l0 t463 t466 0))
theorem aX.mono_l : ∀ k, (∀ y0 y1 y2 y3, LeO (aX.l0 k y0 y1 y2 y3) (aX.l0 (k + 1) y0 y1 y2 y3))
 | 0 => fun _ _ _ _ r h => by simp [aX.l0] at h
 | k + 1 => by
  have ih0 := aX.mono_l k
  intros; unfold aX.l0; exact o4_ ih0 ae.mono aW.mono bF.mono
theorem aX.mono : ∀ a0 k, LeO (aX.f k a0) (aX.f (k + 1) a0) := by
 intro a0 k
 have ih0 := aX.mono_l k
 unfold aX.f
 exact o4_ ih0 ae.mono aW.mono bF.mono
theorem aX.calls (k : Nat) (P0_ : Nat → Prop) (A0 : Option Addr) (c0 : Nat) (l0 : List Int) (r : List Int) (w : World) (hs0 : Kd.V (Kd.int .u64) 93 w w.heap.size (fun k_ => P0_ k_) (.slice A0 l0.length c0) l0) (h : aX.f k l0 = some r) :
  Calls Tryz.prog 106 #[.slice A0 l0.length c0] w fun e w' => ∃ N0 : Value, e = .returned (N0) ∧ Kd.V (Kd.int .u64) 93 w' w.heap.size (fun k_ => (P0_ k_ ∨ w.heap.size ≤ k_)) N0 r ∧ Below w.heap.size w w' := by
 have t0 := c_ (show Kd.V (Kd.int .u64) 93 w w.heap.size (fun k_ => (P0_ k_ ∨ w.heap.size ≤ k_)) (.slice A0 l0.length c0) l0 from tV hs0 (fun k_ hk => .inl hk))
 have HB := c_ (Ba w.heap.size w)
 delta aX.f at h
 have H := h
 clear h
 obtain ⟨k0, A2, H⟩ := bN_ H
 obtain ⟨d0, A3, H⟩ := bN_ H
 have H' := c_ H
 clear H
 go_enter Tryz.func106, Tryz.ntmps106
 go_wp2_with (first | (refine gq_ 111 (some 6) Tryz.func111 #[] (bF.calls k  k0 _ A2.o) ?_; rintro e w4 ⟨u0, rfl, j0, hb⟩; refine ⟨_, rfl, ?_⟩; obtain ⟨t0, n0, HB⟩ := b_ (ud (rV_ t0.o) (sY j0) hb) <| b_ (sZ (uI (M := fun k_ => (w.heap.size ≤ k_)) j0 (ac (hB_)) (fun k_ h_ => h_)) (ac (hB_))) <| c_ (ab (hB_) hb); (try clear j0)) | (refine gq_ 112 (some 7) Tryz.func112 #[] (aW.calls k  d0 _ A3.o) ?_; rintro e w5 ⟨x0, rfl, j0, hb⟩; refine ⟨_, rfl, ?_⟩; obtain ⟨t0, n0, y0, HB⟩ := b_ (ud (rV_ t0.o) (sY j0) hb) <| b_ (tc (rR_ n0.o) hb) <| b_ (sZ (uI (M := fun k_ => (w.heap.size ≤ k_)) j0 (ac (hB_)) (fun k_ h_ => h_)) (ac (hB_))) <| c_ (ab (hB_) hb); (try clear j0)))
 go_loopg [0, 5] k (fun kq v0 v5 w' => ∃ (p0 : List Int) (a0 : Int), v5 = .int .i64 a0 ∧ aa (aX.l0 kq p0 k0 d0 a0 = some r) ∧ aa (kq ≤ k) ∧ aa (Kd.V (Kd.int .u64) 93 w' w.heap.size (fun k_ => (P0_ k_ ∨ w.heap.size ≤ k_) ∧ some k_ ≠ (u0 : Value).ownBlock ∧ some k_ ≠ (x0 : Value).ownBlock) v0 p0) ∧ aa (Kd.R (Kd.int .i64) 3 w' w.heap.size (fun k_ => (w.heap.size ≤ k_)) u0 k0) ∧ aa (Kd.R (Kd.int .u64) 93 w' w.heap.size (fun k_ => (w.heap.size ≤ k_)) x0 d0) ∧ aa (Below w.heap.size w w'))
 case atStart => exact ⟨(l0), (0), f0_, H', ⟨Aa _⟩, ⟨by refine kV_ ?_; exact tV t0.o (fun _ hk => ⟨hk.1.1, ⟨hk.1.2, hk.2⟩⟩)⟩, ⟨by refine kR_ ?_; exact s9 n0.o (fun _ hk => hk.1)⟩, ⟨by refine kR_ ?_; exact s9 y0.o (fun _ hk => hk.1)⟩, ⟨hB_⟩⟩
 clear H'
 obtain ⟨p0, a0, rfl, HA, O0, e0, b0, f0, HB⟩ := hrel
 rcases gk with _ | k1
 ·exact absurd HA.o (by simp [aX.l0])
 have H := HA.o
 clear HA
 simp only [aX.l0] at H
 by_cases c6 : a0 < 24
 rotate_left
 ·rw [Ea c6] at H
  have E0 := xa c6
  clear c6
  obtain rfl := za H
  go_wp2
  go_ret
  exact ⟨_, f1_, by refine kV_ ?_; exact tV e0.o (fun _ hk => hk.1), hB_⟩
 rw [Da c6] at H
 have E0 := wa c6
 clear c6
 obtain ⟨Q0, H⟩ := iD_ H
 obtain ⟨R0, H⟩ := iD_ H
 obtain ⟨B0, A9, H⟩ := bN_ H
 have H' := c_ H
 clear H
 obtain ⟨S0, T0, F0⟩ := s7 f0.o
 subst F0
 have q0 : 0 ≤ (a0 : Int) := oD_
 have r0 : a0 < (d0.length : Int) := oD_
 obtain ⟨P0, G0, D0⟩ := tb (sX f0.o).2.2 a0 q0 r0
 cases G0
 replace q0 := ya q0
 replace r0 := ya r0
 obtain ⟨H0, I0, J0⟩ := uH e0.o
 subst J0
 obtain ⟨K0, L0, M0⟩ := s7 b0.o
 subst M0
 go_wp2_with (first | (refine gq_ 113 (some 18) Tryz.func113 #[.slice H0 p0.length I0, .slice K0 k0.length L0, .int .u64 (rd d0 a0)] (ae.calls k1 _ _ p0 _ _ k0 (rd d0 a0) B0 _ ?side1 ?side2 ?side3 ?side4 A9.o) ?_; (case side1 => exact cR_ (tR e0.o).2.2); (case side2 => exact (tR e0.o).2.1); (case side3 => exact cR_ (sX b0.o).2.2); (case side4 => exact (sX b0.o).2.1); rintro e V0 ⟨U0, rfl, j0, hb⟩; refine ⟨_, rfl, ?_⟩; obtain ⟨e0, b0, f0, C0, HB⟩ := b_ (ud (rV_ e0.o) (sY j0) hb) <| b_ (tc (rR_ b0.o) hb) <| b_ (s5 (rR_ f0.o) (sY j0) hb) <| b_ (sZ (ta (uI (M := fun k_ => (w.heap.size ≤ k_)) j0 (ac (hB_)) (fun k_ h_ => h_)) (ti (rR_ f0.o))) (ac (hB_))) <| c_ (ab (hB_) hb); (try clear j0)))
 go_roundg k1
 case measure => have := O0.o; omega
 case rel => exact ⟨(B0), (wrap64 (a0 + 1)), f0_, H', ⟨by have := O0.o; omega⟩, ⟨tV (Kd.R_V (th C0.o (um b0.o) (by decide))) (fun k_ hk => ⟨.inr hk.1.1.1, hk.2, hk.1.2⟩)⟩, ⟨rR_ b0.o⟩, ⟨by refine kR_ ?_; exact s9 f0.o (fun _ hk => hk.1)⟩, ⟨hB_⟩⟩
mutual
def aN.l0 : Nat → List Int → List Int → Int → Option (ByteArray)
 | 0, _, _, _ => none
 | k + 1, x0, x3, x4 => if x4 < (x0.length : Int) then (if 0 ≤ x4 then (aN.l1 k x0 x3 x4 (rd x0 x4) 0) else (none)) else (some (strOfNums x3))
def aN.l1 : Nat → List Int → List Int → Int → Int → Int → Option (ByteArray)
 | 0, _, _, _, _, _ => none
 | k + 1, x0, x3, x4, x5, x6 => if x6 < 8 then (if x3.length < 140737488355328 then (aN.l1 k x0 (x3 ++ [(Int.tmod x5 256) % 256]) x4 (IntKind.u64.wrap (Int.tdiv x5 256)) (wrap64 (x6 + 1))) else (none)) else (aN.l0 k x0 x3 (wrap64 (x4 + 1)))
end
def aN.f (k : Nat) (l0 : List Int) : Option (ByteArray) := aN.l0 k l0 (([] : List Int)) 0
theorem aN.mono_l : ∀ k, (∀ y0 y1 y2, LeO (aN.l0 k y0 y1 y2) (aN.l0 (k + 1) y0 y1 y2)) ∧ (∀ y0 y1 y2 y3 y4, LeO (aN.l1 k y0 y1 y2 y3 y4) (aN.l1 (k + 1) y0 y1 y2 y3 y4))
 | 0 => ⟨fun _ _ _ r h => by simp [aN.l0] at h, fun _ _ _ _ _ r h => by simp [aN.l1] at h⟩
 | k + 1 => by
  obtain ⟨ih0, ih1⟩ := aN.mono_l k
  refine ⟨?_, ?_⟩ <;> (intros; (first | unfold aN.l0 | unfold aN.l1); exact o2_ ih0 ih1)
theorem aN.mono : ∀ a0 k, LeO (aN.f k a0) (aN.f (k + 1) a0) := by
 intro a0 k
 obtain ⟨ih0, ih1⟩ := aN.mono_l k
 unfold aN.f
 exact o2_ ih0 ih1
theorem aN.calls (k : Nat) (A0 : Option Addr) (c0 : Nat) (l0 : List Int) (r : ByteArray) (w : World) (hr0 : Kd.C (Kd.int .u64) w A0 l0.length l0) (hc0 : l0.length ≤ c0) (h : aN.f k l0 = some r) :
  Calls Tryz.prog 107 #[.slice A0 l0.length c0] w fun e w' => e = .returned (.string r) ∧ Below w.heap.size w w' := by
 have K0 := c_ hr0
 have P0 := c_ hc0
 clear hr0 hc0
 have HB := c_ (Ba w.heap.size w)
 delta aN.f at h
 have H := h
 clear h
 obtain ⟨D0, d0⟩ : ∃ y_ : List Int, y_ = (([] : List Int)) := ⟨_, rfl⟩
 first | replace H := yb_ d0 H | rw [← d0] at H
 have q0 := c_ d0
 clear d0
 have H' := c_ H
 clear H
 go_enter Tryz.func107, Tryz.ntmps107
 go_wp2_with (first | ((refine aI (N := 7) rfl ?_); refine tn (Kd.int .u8) _ 5 ?hg (N := 7) ?hd (xs := ([] : List Int)) (inner := []) (ok := fun _ => True) (okp := fun _ => True) ?hr ?hp (fun _ hk => hk) trivial (Ba _ _) (Aa _) (by simp) ?_; (case hd => rfl); (case hg => rfl); (case hr => first | (go_simp; done) | (go_simp; rfl)); (case hp => exact (bA.none _ _)); intro L0 w2 u0 hb hg_ hnew_; clear hg_ hnew_; (first | rw [← q0.o] at u0 | (simp only [Int.reduceToNat] at u0; rw [← q0.o] at u0)); obtain ⟨v0, HB⟩ := b_ (sZ u0 (ac (hB_))) <| c_ (ab (hB_) hb); clear hb u0))
 go_loopg [3, 4] k (fun kq v3 v4 w' => ∃ (p0 : List Int) (a0 : Int), v4 = .int .i64 a0 ∧ aa (aN.l0 kq l0 p0 a0 = some r) ∧ aa (kq ≤ k) ∧ aa (Kd.R (Kd.int .u8) 5 w' w.heap.size (fun _ => True) v3 p0) ∧ aa (Below w.heap.size w w'))
 case atStart => exact ⟨(D0), (0), f0_, H', ⟨Aa _⟩, ⟨rR_ v0.o⟩, ⟨hB_⟩⟩
 clear H'
 obtain ⟨p0, a0, rfl, HA, B0, k0, HB⟩ := hrel
 rcases gk with _ | k1
 ·exact absurd HA.o (by simp [aN.l0])
 have H := HA.o
 clear HA
 simp only [aN.l0] at H
 by_cases c4 : a0 < (l0.length : Int)
 rotate_left
 ·rw [Ea c4] at H
  have E0 := xa c4
  clear c4
  obtain rfl := za H
  have M0 := dW (P := Tryz.prog) Tryz.underlying59 Tryz.underlying5 Tryz.underlying9 (tr k0.o)
  go_wp2
  go_ret
  exact ⟨f1_, hB_⟩
 rw [Da c4] at H
 have E0 := wa c4
 clear c4
 obtain ⟨N0, H⟩ := iD_ H
 have H' := c_ H
 clear H
 have r0 : 0 ≤ (a0 : Int) := oD_
 have t0 : a0 < (l0.length : Int) := oD_
 obtain ⟨J0, F0, e0⟩ := tb K0.o a0 r0 t0
 cases F0
 replace e0 := hc_ e0
 replace r0 := ya r0
 replace t0 := ya t0
 go_wp2
 go_loopg [3, 5, 6] k1 (fun kq v3 v5 v6 w' => ∃ (j0 : List Int) (b0 : Int) (n0 : Int), v5 = .int .u64 b0 ∧ v6 = .int .i64 n0 ∧ aa (aN.l1 kq l0 j0 a0 b0 n0 = some r) ∧ aa (kq ≤ k1) ∧ aa (Kd.R (Kd.int .u8) 5 w' w.heap.size (fun _ => True) v3 j0) ∧ aa (Below w.heap.size w w'))
 case atStart => exact ⟨(p0), (rd l0 a0), (0), f0_, f0_, H', ⟨Aa _⟩, ⟨rR_ k0.o⟩, ⟨hB_⟩⟩
 clear H'
 obtain ⟨j0, b0, n0, rfl, rfl, HA, C0, k0, HB⟩ := hrel
 rcases gk with _ | k2
 ·exact absurd HA.o (by simp [aN.l1])
 have H := HA.o
 clear HA
 simp only [aN.l1] at H
 by_cases c6 : n0 < 8
 ·rw [Da c6] at H
  have G0 := wa c6
  clear c6
  obtain ⟨c7, H⟩ := iN_ H
  have H0 := c_ c7
  clear c7
  obtain ⟨I0, f0⟩ : ∃ y_ : List Int, y_ = (j0 ++ [(Int.tmod b0 256) % 256]) := ⟨_, rfl⟩
  first | replace H := yb_ f0 H | rw [← f0] at H
  have x0 := c_ f0
  clear f0
  have H' := c_ H
  clear H
  go_wp2_with (first | ((refine aU (b := .append) (xs := #[.tmp 22, .tmp 26]) rfl ?_); at_builtin; refine tf (Kd.int .u8) (w0 := w) w.heap.size rfl (.tmp 22) (.tmp 26) 59 5 (.int .u8 0) 1 rfl Tryz.underlying59 iX rfl (by decide) (by omega) u3 j0 ((Int.tmod b0 256) % 256) [.int .u8 ((Int.tmod b0 256) % 256)] (fun _ => True) (fun _ => False) rfl rfl ?aP (fun _ hk => hk.elim) ?aF ?aO ?aB ?aS ?aL ?_; (case aP => exact rfl); (case aB => exact (hB_)); (case aF => exact (fun _ _ => trivial)); (case aO => exact (rR_ k0.o)); (case aS => exact (ac (hB_))); (case aL => have := H0.o; omega); intro O0 w8 ho hb hg hat; rw [← x0.o] at ho; obtain ⟨HB, y0⟩ := b_ (hb) <| c_ (ho); clear ho hb hg hat))
  go_roundg k2
  case measure => have := B0.o; have := C0.o; omega
  case rel => exact ⟨(I0), (IntKind.u64.wrap (Int.tdiv b0 256)), (wrap64 (n0 + 1)), f0_, f0_, H', ⟨by have := B0.o; have := C0.o; omega⟩, ⟨rR_ y0.o⟩, ⟨hB_⟩⟩
 rw [Ea c6] at H
 have G0 := xa c6
 clear c6
 have H' := c_ H
 clear H
 go_wp2
 go_roundg k2
 case measure => have := B0.o; have := C0.o; omega
 case rel => exact ⟨(j0), (wrap64 (a0 + 1)), f0_, H', ⟨by have := B0.o; have := C0.o; omega⟩, ⟨rR_ k0.o⟩, ⟨hB_⟩⟩
-- GIVEN: function 101 (cJ)
def cT.f (k : Nat) (a0 : ByteArray) : Option (ByteArray) := if (a0.size : Int) = 200 then ((aQ.f k a0).bind fun t482 => ((aX.f k t482).bind fun t485 => ((aN.f k t485).bind fun t488 => (some t488)))) else (some a0)
theorem cT.mono : ∀ a0 k, LeO (cT.f k a0) (cT.f (k + 1) a0) := by
 intro a0 k
 unfold cT.f
 exact o3_ aN.mono aQ.mono aX.mono
theorem cT.calls (k : Nat) (a0 : ByteArray) (r : ByteArray) (w : World) (h : cT.f k a0 = some r) :
  Calls Tryz.prog 102 #[.string a0] w fun e w' => e = .returned (.string r) ∧ Below w.heap.size w w' := by
 have HB := c_ (Ba w.heap.size w)
 delta cT.f at h
 have H := h
 clear h
 by_cases c2 : (a0.size : Int) = 200
 ·rw [Da c2] at H
  have j0 : ((a0.size : Int) == 200) = true := beq_iff_eq.mpr c2
  have k0 : ((a0.size : Int) != 200) = false := bne_eq_false_iff_eq.mpr c2
  clear c2
  obtain ⟨e0, A3, H⟩ := bN_ H
  obtain ⟨f0, A4, H⟩ := bN_ H
  obtain ⟨n0, A5, H⟩ := bN_ H
  obtain rfl := za H
  go_enter Tryz.func102, Tryz.ntmps102
  go_wp2_with (first | (refine gq_ 105 (some 8) Tryz.func105 #[.string a0] (aQ.calls k a0 e0 _ A3.o) ?_; rintro e w6 ⟨t0, rfl, p0, hb⟩; refine ⟨_, rfl, ?_⟩; obtain ⟨b0, HB⟩ := b_ (sZ p0 (ac (hB_))) <| c_ (ab (hB_) hb); obtain ⟨q0, r0, u0⟩ := s7 b0.o; subst u0) | (refine gq_ 106 (some 9) Tryz.func106 #[.slice q0 e0.length r0] (aX.calls k (fun k_ => some k_ = (.slice q0 e0.length r0 : Value).ownBlock) _ _ e0 f0 _ ?side1 A4.o) ?_; (case side1 => exact Kd.R_V (tG rfl (b0.o))); rintro e w8 ⟨v0, rfl, p0, hb⟩; refine ⟨_, rfl, ?_⟩; obtain ⟨b0, d0, HB⟩ := b_ (tc (rR_ b0.o) hb) <| b_ (u6 (tV (ok' := fun k_ => True) p0 (fun k_ hk_ => trivial)) (ac (hB_))) <| c_ (ab (hB_) hb); obtain ⟨x0, y0, B0⟩ := uH d0.o; subst B0) | (refine gq_ 107 (some 10) Tryz.func107 #[.slice x0 f0.length y0] (aN.calls k _ _ f0 n0 _ ?side1 ?side2 A5.o) ?_; (case side1 => exact cR_ (tR d0.o).2.2); (case side2 => exact (tR d0.o).2.1); rintro e C0 ⟨rfl, hb⟩; refine ⟨_, rfl, ?_⟩; obtain ⟨b0, d0, HB⟩ := b_ (tc (rR_ b0.o) hb) <| b_ (u9 (rV_ d0.o) hb) <| c_ (ab (hB_) hb); (try clear hb)))
  go_ret
  exact ⟨f1_, hB_⟩
 rw [Ea c2] at H
 have j0 : ((a0.size : Int) == 200) = false := beq_eq_false_iff_ne.mpr c2
 have k0 : ((a0.size : Int) != 200) = true := bne_iff_ne.mpr c2
 obtain rfl := za H
 go_enter Tryz.func102, Tryz.ntmps102
 go_wp2
 go_ret
 exact ⟨f1_, hB_⟩
-- GIVEN: function 96 (aA)
mutual
def bd.l0 : Nat → ByteArray → List Int → Int → Option (List Int)
 | 0, _, _, _ => none
 | k + 1, x0, x3, x4 => if x4 < 256 then (if 0 ≤ (wrap64 (Int.tdiv x4 8)) then (if (wrap64 (Int.tdiv x4 8)) < (x0.size : Int) then (bd.l1 k x0 x3 x4 (wrap64 (bt x0 (wrap64 (Int.tdiv x4 8)))) 0) else (none)) else (none)) else (some x3)
def bd.l1 : Nat → ByteArray → List Int → Int → Int → Int → Option (List Int)
 | 0, _, _, _, _, _ => none
 | k + 1, x0, x3, x4, x5, x6 => if x6 < (Int.tmod x4 8) then (bd.l1 k x0 x3 x4 (wrap64 (Int.tdiv x5 2)) (wrap64 (x6 + 1))) else ((bs.f k (Int.tmod x5 2) 1).bind fun t544 => (if x3.length < 17592186044416 then (bd.l0 k x0 (x3 ++ [t544]) (wrap64 (x4 + 1))) else (none)))
end
def bd.f (k : Nat) (a0 : ByteArray) : Option (List Int) := bd.l0 k a0 (([] : List Int)) 0
theorem bd.mono_l : ∀ k, (∀ y0 y1 y2, LeO (bd.l0 k y0 y1 y2) (bd.l0 (k + 1) y0 y1 y2)) ∧ (∀ y0 y1 y2 y3 y4, LeO (bd.l1 k y0 y1 y2 y3 y4) (bd.l1 (k + 1) y0 y1 y2 y3 y4))
 | 0 => ⟨fun _ _ _ r h => by simp [bd.l0] at h, fun _ _ _ _ _ r h => by simp [bd.l1] at h⟩
 | k + 1 => by
  obtain ⟨ih0, ih1⟩ := bd.mono_l k
  refine ⟨?_, ?_⟩ <;> (intros; (first | unfold bd.l0 | unfold bd.l1); exact o3_ ih0 ih1 bs.mono)
theorem bd.mono : ∀ a0 k, LeO (bd.f k a0) (bd.f (k + 1) a0) := by
 intro a0 k
 obtain ⟨ih0, ih1⟩ := bd.mono_l k
 unfold bd.f
 exact o3_ ih0 ih1 bs.mono
theorem bd.calls (k : Nat) (a0 : ByteArray) (r : List Int) (w : World) (h : bd.f k a0 = some r) :
  Calls Tryz.prog 38 #[.string a0] w fun e w' => ∃ I0 : Value, e = .returned (I0) ∧ Kd.R (Kd.int .i64) 3 w' w.heap.size (fun _ => True) I0 r ∧ Below w.heap.size w w' := by
 have HB := c_ (Ba w.heap.size w)
 delta bd.f at h
 have H := h
 clear h
 obtain ⟨E0, e0⟩ : ∃ y_ : List Int, y_ = (([] : List Int)) := ⟨_, rfl⟩
 first | replace H := yb_ e0 H | rw [← e0] at H
 have r0 := c_ e0
 clear e0
 have H' := c_ H
 clear H
 go_enter Tryz.func38, Tryz.ntmps38
 go_wp2_with (first | ((refine aI (N := 7) rfl ?_); refine tn (Kd.int .i64) _ 3 ?hg (N := 7) ?hd (xs := ([] : List Int)) (inner := []) (ok := fun _ => True) (okp := fun _ => True) ?hr ?hp (fun _ hk => hk) trivial (Ba _ _) (Aa _) (by simp) ?_; (case hd => rfl); (case hg => rfl); (case hr => first | (go_simp; done) | (go_simp; rfl)); (case hp => exact (bA.none _ _)); intro L0 w2 t0 hb hg_ hnew_; clear hg_ hnew_; (first | rw [← r0.o] at t0 | (simp only [Int.reduceToNat] at t0; rw [← r0.o] at t0)); obtain ⟨u0, HB⟩ := b_ (sZ t0 (ac (hB_))) <| c_ (ab (hB_) hb); clear hb t0))
 go_loopg [3, 4] k (fun kq v3 v4 w' => ∃ (d0 : List Int) (b0 : Int), v4 = .int .i64 b0 ∧ aa (bd.l0 kq a0 d0 b0 = some r) ∧ aa (kq ≤ k) ∧ aa (Kd.R (Kd.int .i64) 3 w' w.heap.size (fun _ => True) v3 d0) ∧ aa (Below w.heap.size w w'))
 case atStart => exact ⟨(E0), (0), f0_, H', ⟨Aa _⟩, ⟨rR_ u0.o⟩, ⟨hB_⟩⟩
 clear H'
 obtain ⟨d0, b0, rfl, HA, C0, k0, HB⟩ := hrel
 rcases gk with _ | k1
 ·exact absurd HA.o (by simp [bd.l0])
 have H := HA.o
 clear HA
 simp only [bd.l0] at H
 by_cases c4 : b0 < 256
 rotate_left
 ·rw [Ea c4] at H
  have F0 := xa c4
  clear c4
  obtain rfl := za H
  go_wp2
  go_ret
  exact ⟨_, f1_, rR_ k0.o, hB_⟩
 rw [Da c4] at H
 have F0 := wa c4
 clear c4
 obtain ⟨v0, p0⟩ : ∃ j_ : Int, (wrap64 (Int.tdiv b0 8)) = j_ := ⟨_, rfl⟩
 first | rw [p0] at H | simp only [p0] at H
 have J0 : (IntKind.i64.wrap (Int.tdiv b0 8)) = v0 := (bv _).trans p0
 obtain ⟨M0, H⟩ := iD_ H
 obtain ⟨N0, H⟩ := iD_ H
 have H' := c_ H
 clear H
 have p8 := ya (oD_ : 0 ≤ ((v0) : Int))
 have q8 := ya (oD_ : (v0) < (a0.size : Int))
 have Q0 := cP a0 (v0)
 go_wp2
 go_loopg [5, 6] k1 (fun kq v5 v6 w' => ∃ (j0 : Int) (n0 : Int), v5 = .int .i64 j0 ∧ v6 = .int .i64 n0 ∧ aa (bd.l1 kq a0 d0 b0 j0 n0 = some r) ∧ aa (kq ≤ k1) ∧ aa (Kd.R (Kd.int .i64) 3 w' w.heap.size (fun _ => True) u3 d0) ∧ aa (Below w.heap.size w w'))
 case atStart => exact ⟨(wrap64 (bt a0 (v0))), (0), (by first | rfl | (simp; done) | (simp only [← p0] <;> (first | rfl | simp)) | (simp [*]; done)), f0_, H', ⟨Aa _⟩, ⟨rR_ k0.o⟩, ⟨hB_⟩⟩
 clear H'
 obtain ⟨j0, n0, rfl, rfl, HA, D0, k0, HB⟩ := hrel
 rcases gk with _ | k2
 ·exact absurd HA.o (by simp [bd.l1])
 have H := HA.o
 clear HA
 simp only [bd.l1] at H
 by_cases c9 : n0 < (Int.tmod b0 8)
 ·rw [Da c9] at H
  have G0 := wa c9
  clear c9
  have H' := c_ H
  clear H
  go_wp2
  go_roundg k2
  case measure => have := C0.o; have := D0.o; omega
  case rel => exact ⟨(wrap64 (Int.tdiv j0 2)), (wrap64 (n0 + 1)), f0_, f0_, H', ⟨by have := C0.o; have := D0.o; omega⟩, ⟨rR_ k0.o⟩, ⟨hB_⟩⟩
 rw [Ea c9] at H
 have G0 := xa c9
 clear c9
 obtain ⟨q0, O0, H⟩ := bN_ H
 obtain ⟨K0, H⟩ := iN_ H
 have x0 := c_ K0
 clear K0
 obtain ⟨H0, f0⟩ : ∃ y_ : List Int, y_ = (d0 ++ [q0]) := ⟨_, rfl⟩
 first | replace H := yb_ f0 H | rw [← f0] at H
 have y0 := c_ f0
 clear f0
 have H' := c_ H
 clear H
 go_wp2_with (first | (refine gq_ 69 (some 28) Tryz.func69 #[.int .i64 (Int.tmod j0 2), .int .i64 1] (bs.calls k2 (Int.tmod j0 2) 1 q0 _ O0.o) ?_; rintro e w' ⟨rfl, ⟨nd, rfl⟩⟩; refine ⟨_, rfl, ?_⟩) | ((refine aU (b := .append) (xs := #[.tmp 25, .tmp 29]) rfl ?_); at_builtin; refine tf (Kd.int .i64) (w0 := w) w.heap.size rfl (.tmp 25) (.tmp 29) 28 3 (.int .i64 0) 8 rfl Tryz.underlying28 cY rfl (by decide) (by omega) u3 d0 q0 [.int .i64 q0] (fun _ => True) (fun _ => False) rfl rfl ?aP (fun _ hk => hk.elim) ?aF ?aO ?aB ?aS ?aL ?_; (case aP => exact rfl); (case aB => exact (hB_)); (case aF => exact (fun _ _ => trivial)); (case aO => exact (rR_ k0.o)); (case aS => exact (ac (hB_))); (case aL => have := x0.o; omega); intro P0 R0 ho hb hg hat; rw [← y0.o] at ho; obtain ⟨HB, B0⟩ := b_ (hb) <| c_ (ho); clear ho hb hg hat))
 go_roundg k2
 case measure => have := C0.o; have := D0.o; omega
 case rel => exact ⟨(H0), (wrap64 (b0 + 1)), f0_, H', ⟨by have := C0.o; have := D0.o; omega⟩, ⟨rR_ B0.o⟩, ⟨hB_⟩⟩
mutual
def ay.l0 : Nat → Int → List Int → List Int → Int → Int → Option (ByteArray)
 | 0, _, _, _, _, _ => none
 | k + 1, x1, x5, x17, x18, x19 => if x19 < x18 then (if 0 ≤ x19 then (if x19 < (x17.length : Int) then (ay.l1 k x1 x5 x19 (rd x17 x19) x17 x18 x19 x1 0) else (none)) else (none)) else (some (strOfNums x5))
def ay.l1 : Nat → Int → List Int → Int → Int → List Int → Int → Int → Int → Int → Option (ByteArray)
 | 0, _, _, _, _, _, _, _, _, _ => none
 | k + 1, x1, x5, x6, x7, x17, x18, x19, x24, x25 => if x25 < x24 then (if 0 ≤ (wrap64 (Int.tdiv (wrap64 ((wrap64 (x6 * x1)) + x25)) 8)) then (if (wrap64 (Int.tdiv (wrap64 ((wrap64 (x6 * x1)) + x25)) 8)) < (x5.length : Int) then (if 0 ≤ x25 then (if 0 ≤ (Int.tmod (wrap64 ((wrap64 (x6 * x1)) + x25)) 8) then (ay.l1 k x1 (x5.set ((wrap64 (Int.tdiv (wrap64 ((wrap64 (x6 * x1)) + x25)) 8)) : Int).toNat (Go.bits .or .u8 (rd x5 (wrap64 (Int.tdiv (wrap64 ((wrap64 (x6 * x1)) + x25)) 8))) (shl .u8 ((Go.bits .and .i64 (shr .i64 x7 x25) 1) % 256) (Int.tmod (wrap64 ((wrap64 (x6 * x1)) + x25)) 8)))) x6 x7 x17 x18 x19 x24 (wrap64 (x25 + 1))) else (none)) else (none)) else (none)) else (none)) else (ay.l0 k x1 x5 x17 x18 (wrap64 (x19 + 1)))
end
def ay.f (k : Nat) (l0 : List Int) (a1 : Int) : Option (ByteArray) := if 0 ≤ (wrap64 (Int.tdiv (wrap64 ((wrap64 ((l0.length : Int) * a1)) + 7)) 8)) then (if (wrap64 (Int.tdiv (wrap64 ((wrap64 ((l0.length : Int) * a1)) + 7)) 8) : Int).toNat ≤ 281474976710656 then (ay.l0 k a1 (List.replicate (wrap64 (Int.tdiv (wrap64 ((wrap64 ((l0.length : Int) * a1)) + 7)) 8) : Int).toNat 0) l0 (l0.length : Int) 0) else (none)) else (none)
theorem ay.mono_l : ∀ k, (∀ y0 y1 y2 y3 y4, LeO (ay.l0 k y0 y1 y2 y3 y4) (ay.l0 (k + 1) y0 y1 y2 y3 y4)) ∧ (∀ y0 y1 y2 y3 y4 y5 y6 y7 y8, LeO (ay.l1 k y0 y1 y2 y3 y4 y5 y6 y7 y8) (ay.l1 (k + 1) y0 y1 y2 y3 y4 y5 y6 y7 y8))
 | 0 => ⟨fun _ _ _ _ _ r h => by simp [ay.l0] at h, fun _ _ _ _ _ _ _ _ _ r h => by simp [ay.l1] at h⟩
 | k + 1 => by
  obtain ⟨ih0, ih1⟩ := ay.mono_l k
  refine ⟨?_, ?_⟩ <;> (intros; (first | unfold ay.l0 | unfold ay.l1); exact o2_ ih0 ih1)
theorem ay.mono : ∀ a0 a1 k, LeO (ay.f k a0 a1) (ay.f (k + 1) a0 a1) := by
 intro a0 a1 k
 obtain ⟨ih0, ih1⟩ := ay.mono_l k
 unfold ay.f
 exact o2_ ih0 ih1
def ay.T9 : Bool × List (List Nat × List Nat) := (true, [([], []), ([], []), ([1], [1]), ([0, 2], [0, 2]), ([3], [3]), ([], []), ([], []), ([5, 6], [5, 6]), ([7], [7]), ([8], [8]), ([], []), ([10], [10]), ([9, 11], [9, 11]), ([4, 12], [4, 12]), ([0, 2, 0, 1, 2, 3, 4, 5, 6, 7, 8, 9, 10, 11, 12, 13], [0, 2]), ([14, 13, 0, 1, 2, 3, 4, 5, 6, 7, 8, 9, 10, 11, 12, 13], [13, 14])])
def ay.B9 : List Nat := [0, 0, 2, 7, 15, 0, 0, 96, 224, 480, 0, 1024, 4064, 8191, 16383, 32767]
theorem ay.tab9 : d8 .any (fb Tryz.f19 9) = ay.T9 := by kernel_rfl
theorem ay.bits9 : db ay.T9.2 ay.B9 = true := by kernel_rfl
theorem ay.calls (k : Nat) (A0 : Option Addr) (c0 : Nat) (l0 : List Int) (a1 : Int) (r : ByteArray) (w : World) (hr0 : Kd.C (Kd.int .i64) w A0 l0.length l0) (hc0 : l0.length ≤ c0) (h : ay.f k l0 a1 = some r) :
  Calls Tryz.prog 19 #[.slice A0 l0.length c0, .int .i64 a1] w fun e w' => e = .returned (.string r) ∧ Below w.heap.size w w' := by
 have F1 := c_ hr0
 have Q1 := c_ hc0
 clear hr0 hc0
 have HB := c_ (Ba w.heap.size w)
 delta ay.f at h
 have H := h
 clear h
 obtain ⟨U0, y0⟩ : ∃ j_ : Int, (wrap64 (Int.tdiv (wrap64 ((wrap64 ((l0.length : Int) * a1)) + 7)) 8)) = j_ := ⟨_, rfl⟩
 first | rw [y0] at H | simp only [y0] at H
 have p1 : (IntKind.i64.wrap (Int.tdiv (wrap64 ((wrap64 ((l0.length : Int) * a1)) + 7)) 8)) = U0 := (bv _).trans y0
 obtain ⟨c4, H⟩ := iN_ H
 have G1 := ya c4
 have H1 := wa c4
 clear c4
 obtain ⟨c5, H⟩ := iN_ H
 have I1 := ya c5
 have J1 := wa c5
 clear c5
 obtain ⟨X0, p0⟩ : ∃ y_ : List Int, y_ = (List.replicate (U0 : Int).toNat 0) := ⟨_, rfl⟩
 first | replace H := yb_ p0 H | rw [← p0] at H
 have C0 := c_ p0
 clear p0
 have H' := c_ H
 clear H
 go_enter Tryz.func19, Tryz.ntmps19
 go_wp2_with (first | ((refine aI (N := 16) rfl ?_); refine tw (Kd.int .u8) _ 5 rfl (N := 16) rfl 59 _ _ rfl U0 rfl rfl Tryz.underlying59 (.int .u8 0) 1 iX rfl (by decide) (by omega) 0 (ok := fun _ => True) (okp := fun _ => True) rfl (fun _ hk => hk) trivial oD_ (Nat.le_trans (Nat.mul_le_mul_right _ (oD_ : U0.toNat ≤ 281474976710656)) (by omega)) (Ba _ _) (Aa _) ?_; intro M0 w6 N0 hb hg_ hnew_; clear hg_ hnew_; (first | rw [← C0.o] at N0 | (simp only [Int.reduceToNat] at N0; rw [← C0.o] at N0)); obtain ⟨O0, HB⟩ := b_ (sZ N0 (ac (hB_))) <| c_ (ab (hB_) hb); clear hb N0))
 go_loopg [19] k (fun kq K1 w' => ∃ (B0 : List Int) (a0 : Int), K1 = .int .i64 a0 ∧ aa (ay.l0 kq a1 B0 l0 (l0.length : Int) a0 = some r) ∧ aa (kq ≤ k) ∧ aa (Kd.R (Kd.int .u8) 5 w' w.heap.size (fun _ => True) M0 B0) ∧ aa (Below w.heap.size w w'))
 case atStart => exact ⟨(X0), (0), f0_, H', ⟨Aa _⟩, ⟨rR_ O0.o⟩, ⟨hB_⟩⟩
 clear H'
 obtain ⟨B0, a0, rfl, HA, V0, e0, HB⟩ := hrel
 rcases gk with _ | k1
 ·exact absurd HA.o (by simp [ay.l0])
 have H := HA.o
 clear HA
 simp only [ay.l0] at H
 by_cases c8 : a0 < (l0.length : Int)
 rotate_left
 ·rw [Ea c8] at H
  have Y0 := xa c8
  clear c8
  obtain rfl := za H
  have q1 := dW (P := Tryz.prog) Tryz.underlying59 Tryz.underlying5 Tryz.underlying9 (tr e0.o)
  go_wp2
  go_ret
  exact ⟨by first | rfl | (simp [dk, dh] <;> rfl) | (simp only [← y0]; first | rfl | (simp [dk, dh] <;> rfl)) | (simp [*, dk, dh] <;> rfl), hB_⟩
 rw [Da c8] at H
 have Y0 := wa c8
 clear c8
 obtain ⟨L1, H⟩ := iD_ H
 obtain ⟨r1, H⟩ := iD_ H
 have H' := c_ H
 clear H
 have E0 : 0 ≤ (a0 : Int) := oD_
 have F0 : a0 < (l0.length : Int) := oD_
 obtain ⟨t1, Z0, q0⟩ := tb F1.o a0 E0 F0
 cases Z0
 replace q0 := hc_ q0
 replace E0 := ya E0
 replace F0 := ya F0
 go_wp2
 go_loopg [25] k1 (fun kq M1 w' => ∃ (f0 : List Int) (b0 : Int), M1 = .int .i64 b0 ∧ aa (ay.l1 kq a1 f0 a0 (rd l0 a0) l0 (l0.length : Int) a0 a1 b0 = some r) ∧ aa (kq ≤ k1) ∧ aa (Kd.R (Kd.int .u8) 5 w' w.heap.size (fun _ => True) M0 f0) ∧ aa (Below w.heap.size w w'))
 case atStart => exact ⟨(B0), (0), f0_, H', ⟨Aa _⟩, ⟨rR_ e0.o⟩, ⟨hB_⟩⟩
 clear H'
 obtain ⟨f0, b0, rfl, HA, W0, e0, HB⟩ := hrel
 rcases gk with _ | k2
 ·exact absurd HA.o (by simp [ay.l1])
 have H := HA.o
 clear HA
 simp only [ay.l1] at H
 by_cases L0 : b0 < a1
 rotate_left
 ·rw [Ea L0] at H
  have P0 := xa L0
  clear L0
  have H' := c_ H
  clear H
  go_wp2
  go_roundg k2
  case measure => have := V0.o; have := W0.o; omega
  case rel => exact ⟨(f0), (wrap64 (a0 + 1)), f0_, H', ⟨by have := V0.o; have := W0.o; omega⟩, ⟨rR_ e0.o⟩, ⟨hB_⟩⟩
 rw [Da L0] at H
 have P0 := wa L0
 clear L0
 obtain ⟨d0, x0⟩ : ∃ j_ : Int, (wrap64 (Int.tdiv (wrap64 ((wrap64 (a0 * a1)) + b0)) 8)) = j_ := ⟨_, rfl⟩
 first | rw [x0] at H | simp only [x0] at H
 have b1 : (IntKind.i64.wrap (Int.tdiv (wrap64 ((wrap64 (a0 * a1)) + b0)) 8)) = d0 := (bv _).trans x0
 obtain ⟨y1, H⟩ := iD_ H
 obtain ⟨z1, H⟩ := iD_ H
 obtain ⟨c1, H⟩ := iN_ H
 have A1 := ya c1
 have B1 := wa c1
 clear c1
 obtain ⟨k0, r0⟩ : ∃ j_ : Int, (shr .i64 (rd l0 a0) b0) = j_ := ⟨_, rfl⟩
 first | rw [r0] at H | simp only [r0] at H
 have d1 : ((rd l0 a0) / 2 ^ min b0.toNat 64) = k0 := r0
 have e1 : b0 ≤ 64 → ((rd l0 a0) / 2 ^ b0.toNat) = k0 := fN r0
 obtain ⟨n0, D0⟩ : ∃ j_ : Int, (Int.tmod (wrap64 ((wrap64 (a0 * a1)) + b0)) 8) = j_ := ⟨_, rfl⟩
 first | rw [D0] at H | simp only [D0] at H
 obtain ⟨f1, H⟩ := iN_ H
 have C1 := ya f1
 have D1 := wa f1
 clear f1
 obtain ⟨v0, t0⟩ : ∃ j_ : Int, (shl .u8 ((Go.bits .and .i64 (k0) 1) % 256) (n0)) = j_ := ⟨_, rfl⟩
 first | rw [t0] at H | simp only [t0] at H
 have G0 : (IntKind.u8.wrap (((Go.bits .and .i64 (k0) 1) % 256) * 2 ^ min (n0).toNat 8)) = v0 := t0
 have H0 : (n0) ≤ 8 → (IntKind.u8.wrap (((Go.bits .and .i64 (k0) 1) % 256) * 2 ^ (n0).toNat)) = v0 := eX t0
 have hji19k : ((((Go.bits .and .i64 (k0) 1) % 256) * 2 ^ min (n0).toNat 8) % 256) = v0 := (IntKind.wrap_u8 _).symm.trans G0
 have hji19n : (n0) ≤ 8 → ((((Go.bits .and .i64 (k0) 1) % 256) * 2 ^ (n0).toNat) % 256) = v0 := fun h_ => (IntKind.wrap_u8 _).symm.trans (H0 h_)
 obtain ⟨g1, u0⟩ : ∃ y_ : List Int, y_ = (f0.set ((d0) : Int).toNat (Go.bits .or .u8 (rd f0 (d0)) (v0))) := ⟨_, rfl⟩
 first | replace H := yb_ u0 H | rw [← u0] at H
 have Q0 := c_ u0
 clear u0
 have H' := c_ H
 clear H
 try go_wp2
 obtain ⟨e0, HB⟩ := b_ (tl e0.o) <| c_ (b8 HB.o)
 obtain ⟨N1, O1, R0⟩ := s7 e0.o
 (first | subst R0 | (injection R0 with f1_ f2_ f3_; have f4_ := f1_.symm; have f5_ := f3_.symm; clear f1_ f2_ f3_; subst f4_; subst f5_))
 have I0 : 0 ≤ ((d0) : Int) := oD_
 have J0 : (d0) < (f0.length : Int) := oD_
 obtain ⟨E1, i1, j0⟩ := tb (sX e0.o).2.2 (d0) I0 J0
 cases i1
 replace I0 := ya I0
 replace J0 := ya J0
 have j1 : 0 ≤ ((d0) : Int) := oD_
 have m1 : ((d0) : Int) < ((f0.length : Int) : Int) := oD_
 obtain ⟨go20, P1, S0, T0, gl20, cl20, HG20⟩ := tt e0.o (by omega)
 (first | cases S0 | (injection S0 with ea_ en_ ec_; (first | subst ea_ | (injection ea_ with ea_; subst ea_)); subst ec_; clear en_))
 have n1 := c_ T0
 have GG20 := c_ HG20
 clear T0 gl20 HG20
 (first | simp only [b9] at j0 | skip)
 obtain ⟨K0, hf20_0⟩ := te 0 e0.o ((d0) : Int) j1 m1
 replace j1 := ya j1
 replace m1 := ya m1
 have HP23 := tO e0.o ((d0) : Int) (Go.bits .or .u8 (rd f0 (d0)) (v0))
 rw [← Q0.o] at HP23
 have HQ23 := c_ HP23
 clear HP23
 refine d9 (n := 16) (S := fun w' => w'.cell? ⟨go20, ((d0)).toNat, none⟩ = some (.int .u8 (rd f0 (d0)))) (ds := [15]) (bb_ 16 0) (by kernel_rfl) rfl rfl (j0) (fun hHeld => ?_); refine cN ay.tab9 ay.bits9 (fun HT_ HW_ => ?_)
 generalize wr.drew = R1 at e0 HB GG20 HQ23 hf20_0 K0 j0 hHeld ⊢
 refine pT_ 0 33 16 1 ?_
 refine pT_ 1 34 16 3 ?_
 refine pT_ 2 35 16 7 ?_
 refine pT_ 3 36 16 15 ?_
 refine pT_ 5 38 16 47 ?_
 refine pT_ 6 39 16 111 ?_
 refine pT_ 7 40 16 239 ?_
 refine pT_ 8 41 16 495 ?_
 refine pT_ 9 42 16 1007 ?_
 refine pT_ 10 43 16 2031 ?_
 refine pT_ 11 44 16 4079 ?_
 refine pT_ 12 45 16 8175 ?_
 refine tS_ 4 37 (bb_ 16 8191) (bx HT_.o HW_.o (by kernel_rfl)) hHeld ?_
 refine pT_ 13 46 16 16383 ?_
 refine pT_ 14 47 16 32767 ?_
 refine gv (i := 15) (N := none) (bb_ 16 65535) rfl rfl (cD HT_.o (by kernel_rfl)) (by decide) (fun K hK => ?_)
 refine iw (w1 := ?_) (by rfl) rfl ?_ ?_
 rotate_left
 ·go_simp
  rfl
 refine hK _ _ ?_
 clear hK K
 refine fc (du HT_.o (by kernel_rfl)) ?_
 try go_wp2
 (try simp only [hji19k])
 go_roundg k2
 case measure => have := V0.o; have := W0.o; omega
 case rel => exact ⟨(g1), (wrap64 (b0 + 1)), f0_, H', ⟨by have := V0.o; have := W0.o; omega⟩, ⟨rR_ HQ23.o⟩, ⟨hS_ n1.o⟩⟩
def bV.f (a0 : Int) (a1 : Int) (a2 : Int) : Option (Bool) := if a0 ≥ a1 then (some (decide (a0 ≤ a2))) else (some false)
theorem bV.calls (a0 : Int) (a1 : Int) (a2 : Int) (r : Bool) (w : World) (h : bV.f a0 a1 a2 = some r) :
  Calls Tryz.prog 79 #[.int .i64 a0, .int .i64 a1, .int .i64 a2] w fun e w' => e = .returned (.bool r) ∧ cx w w' := by
 delta bV.f at h
 have H := h
 clear h
 by_cases c4 : a0 ≥ a1
 ·rw [Da c4] at H
  have b0 := wa c4
  clear c4
  obtain rfl := za H
  go_enter Tryz.func79, Tryz.ntmps79
  go_wp2
  go_ret
  exact ⟨f0_, d0_⟩
 rw [Ea c4] at H
 have b0 := xa c4
 clear c4
 obtain rfl := za H
 go_enter Tryz.func79, Tryz.ntmps79
 go_wp2
 go_ret
 exact ⟨f0_, d0_⟩
end Go.Proofs.YtooanbpkknlmjaaGreatDoor.P
