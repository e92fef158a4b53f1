-- printed texts of this session, regrouped
import Derived.Test.YtooanbpkknlmjaaGreatDoorPx4
namespace Go.Proofs.YtooanbpkknlmjaaGreatDoor.P
open Go.RowKit YtooanbpkknlmjaaGreatDoorW.PrintWords YtooanbpkknlmjaaGreatDoorW.PrintLast YtooanbpkknlmjaaGreatDoorW.PrintMore
open Kd
attribute [local go_sem] dZ d4 eE ev dx dy dV dX
set_option linter.unusedVariables false
set_option linter.unusedSimpArgs false
set_option maxHeartbeats 8000000
set_option maxRecDepth 100000
mutual
def av.j0 : Nat → ByteArray → Int → Int → Bool → Option (List Int × Bool)
 | 0, _, _, _, _ => none
 | k + 1, x0, x1, x2, x30 => if x30 = true then (some (([] : List Int), false)) else (av.l0 k x0 x1 ([] : List Int) x2 0)
def av.l0 : Nat → ByteArray → Int → List Int → Int → Int → Option (List Int × Bool)
 | 0, _, _, _, _, _ => none
 | k + 1, x0, x1, x8, x31, x32 => if x32 < x31 then (av.l1 k x0 x1 x8 x32 0 x31 x32 x1 0) else ((ay.f k x8 x1).bind fun t627 => (if t627.toList = x0.toList then (some (x8, true)) else (some (([] : List Int), false))))
def av.l1 : Nat → ByteArray → Int → List Int → Int → Int → Int → Int → Int → Int → Option (List Int × Bool)
 | 0, _, _, _, _, _, _, _, _, _ => none
 | k + 1, x0, x1, x8, x9, x10, x31, x32, x35, x36 => if x36 < x35 then (if 0 ≤ (wrap64 (Int.tdiv (wrap64 ((wrap64 (x9 * x1)) + x36)) 8)) then (if (wrap64 (Int.tdiv (wrap64 ((wrap64 (x9 * x1)) + x36)) 8)) < (x0.size : Int) then (if 0 ≤ (Int.tmod (wrap64 ((wrap64 (x9 * x1)) + x36)) 8) then (if 0 ≤ x36 then (av.l1 k x0 x1 x8 x9 (Go.bits .or .i64 x10 (shl .i64 (wrap64 (Go.bits .and .u8 (shr .u8 (bt x0 (wrap64 (Int.tdiv (wrap64 ((wrap64 (x9 * x1)) + x36)) 8))) (Int.tmod (wrap64 ((wrap64 (x9 * x1)) + x36)) 8)) 1)) x36)) x31 x32 x35 (wrap64 (x36 + 1))) else (none)) else (none)) else (none)) else (none)) else (if x8.length < 17592186044416 then (av.l0 k x0 x1 (x8 ++ [x10]) x31 (wrap64 (x32 + 1))) else (none))
end
def av.f (k : Nat) (a0 : ByteArray) (a1 : Int) (a2 : Int) : Option (List Int × Bool) := (bV.f a1 1 12).bind fun t625 => (if t625 = true then ((bV.f a2 0 1000).bind fun t626 => (if t626 = true then (av.j0 k a0 a1 a2 ((a0.size : Int) != (wrap64 (Int.tdiv (wrap64 ((wrap64 (a2 * a1)) + 7)) 8)))) else (av.j0 k a0 a1 a2 true))) else (av.j0 k a0 a1 a2 true))
theorem av.mono_l : ∀ k, (∀ y0 y1 y2 y3, LeO (av.j0 k y0 y1 y2 y3) (av.j0 (k + 1) y0 y1 y2 y3)) ∧ (∀ y0 y1 y2 y3 y4, LeO (av.l0 k y0 y1 y2 y3 y4) (av.l0 (k + 1) y0 y1 y2 y3 y4)) ∧ (∀ y0 y1 y2 y3 y4 y5 y6 y7 y8, LeO (av.l1 k y0 y1 y2 y3 y4 y5 y6 y7 y8) (av.l1 (k + 1) y0 y1 y2 y3 y4 y5 y6 y7 y8))
 | 0 => ⟨fun _ _ _ _ r h => by simp [av.j0] at h, fun _ _ _ _ _ r h => by simp [av.l0] at h, fun _ _ _ _ _ _ _ _ _ r h => by simp [av.l1] at h⟩
 | k + 1 => by
  obtain ⟨ih0, ih1, ih2⟩ := av.mono_l k
  refine ⟨?_, ?_, ?_⟩ <;> (intros; (first | unfold av.j0 | unfold av.l0 | unfold av.l1); exact o4_ ih0 ih1 ih2 ay.mono)
theorem av.mono : ∀ a0 a1 a2 k, LeO (av.f k a0 a1 a2) (av.f (k + 1) a0 a1 a2) := by
 intro a0 a1 a2 k
 obtain ⟨ih0, ih1, ih2⟩ := av.mono_l k
 unfold av.f
 exact o4_ ih0 ih1 ih2 ay.mono
theorem av.calls (k : Nat) (a0 : ByteArray) (a1 : Int) (a2 : Int) (r1 : List Int) (r2 : Bool) (w : World) (h : av.f k a0 a1 a2 = some (r1, r2)) :
  Calls Tryz.prog 46 #[.string a0, .int .i64 a1, .int .i64 a2] w fun e w' => ∃ j1 : Value, e = .returned (.tuple #[j1, .bool r2]) ∧ Kd.R (Kd.int .i64) 3 w' w.heap.size (fun _ => True) j1 r1 ∧ Below w.heap.size w w' := by
 have HB := c_ (Ba w.heap.size w)
 delta av.f at h
 have H := h
 clear h
 have S0 := c_ H
 clear H
 go_enter Tryz.func46, Tryz.ntmps46
 go_upto_region 1 with (fail)
 go_cut [30] (fun C1 wc => ∃ (kq : Nat) (t0 : Bool), C1 = .bool t0 ∧ aa (av.j0 kq a0 a1 a2 t0 = some (r1, r2)) ∧ aa (kq ≤ k) ∧ aa (Below w.heap.size w wc))
 case first =>
  have H := S0.o
  clear S0
  obtain ⟨T0, A5, H⟩ := bN_ H
  by_cases c6 : T0 = true
  ·subst c6
   replace H := iT_ H
   obtain ⟨U0, A7, H⟩ := bN_ H
   by_cases c8 : U0 = true
   ·subst c8
    replace H := iT_ H
    have H' := c_ H
    clear H
    go_wp2_with (first | (refine gq_ 79 (some 14) Tryz.func79 #[.int .i64 a1, .int .i64 1, .int .i64 12] (bV.calls a1 1 12 true _ A5.o) ?_; rintro e w' ⟨rfl, ⟨nd, rfl⟩⟩; refine ⟨_, rfl, ?_⟩) | (go_at_call 79; (with_reducible refine (bV.calls a2 0 1000 true _ A7.o).mono ?_); rintro e w' ⟨rfl, ⟨nd, rfl⟩⟩))
    go_meet
    case rel => exact ⟨_, (((a0.size : Int) != (wrap64 (Int.tdiv (wrap64 ((wrap64 (a2 * a1)) + 7)) 8)))), f0_, H', ⟨by first | omega | exact Aa _⟩, ⟨hB_⟩⟩
   ·replace c8 := Ca c8
    subst c8
    replace H := iF_ H
    have H' := c_ H
    clear H
    go_wp2_with (first | (refine gq_ 79 (some 14) Tryz.func79 #[.int .i64 a1, .int .i64 1, .int .i64 12] (bV.calls a1 1 12 true _ A5.o) ?_; rintro e w' ⟨rfl, ⟨nd, rfl⟩⟩; refine ⟨_, rfl, ?_⟩) | (go_at_call 79; (with_reducible refine (bV.calls a2 0 1000 false _ A7.o).mono ?_); rintro e w' ⟨rfl, ⟨nd, rfl⟩⟩))
    go_meet
    case rel => exact ⟨_, (true), f0_, H', ⟨by first | omega | exact Aa _⟩, ⟨hB_⟩⟩
  ·replace c6 := Ca c6
   subst c6
   replace H := iF_ H
   have H' := c_ H
   clear H
   go_wp2_with (first | (refine gq_ 79 (some 14) Tryz.func79 #[.int .i64 a1, .int .i64 1, .int .i64 12] (bV.calls a1 1 12 false _ A5.o) ?_; rintro e w' ⟨rfl, ⟨nd, rfl⟩⟩; refine ⟨_, rfl, ?_⟩))
   go_meet
   case rel => exact ⟨_, (true), f0_, H', ⟨by first | omega | exact Aa _⟩, ⟨hB_⟩⟩
 clear S0
 obtain ⟨kq, t0, rfl, HA, P0, HB⟩ := hcut
 rcases kq with _ | m1
 ·exact absurd HA.o (by simp [av.j0])
 have H := HA.o
 clear HA
 simp only [av.j0] at H
 by_cases c9 : t0 = true
 ·subst c9
  replace H := iT_ H
  simp only [Option.some.injEq, Prod.mk.injEq] at H
  obtain ⟨rfl, rfl⟩ := H
  go_wp2
  go_ret2
  exact ⟨_, f1_, by first | exact tH _ _ _ _ _ | exact Kd.N_nil _ _ _ _ _ | exact Kd.V_nil _ _ _ _ _ | exact Kd.Q_nil _ _ _ _ _ | exact tJ _ _ _ _ _, hB_⟩
 ·replace c9 := Ca c9
  subst c9
  replace H := iF_ H
  have H' := c_ H
  clear H
  go_wp2
  go_loopg [8, 32] m1 (fun kq v8 D1 w' => ∃ (f0 : List Int) (d0 : Int), D1 = .int .i64 d0 ∧ aa (av.l0 kq a0 a1 f0 a2 d0 = some (r1, r2)) ∧ aa (kq ≤ m1) ∧ aa (Kd.R (Kd.int .i64) 3 w' w.heap.size (fun _ => True) v8 f0) ∧ aa (Below w.heap.size w w'))
  case atStart => exact ⟨(([] : List Int)), (0), f0_, H', ⟨Aa _⟩, ⟨by first | exact tH _ _ _ _ _ | exact Kd.N_nil _ _ _ _ _ | exact Kd.V_nil _ _ _ _ _ | exact Kd.Q_nil _ _ _ _ _ | exact tJ _ _ _ _ _⟩, ⟨hB_⟩⟩
  clear H'
  obtain ⟨f0, d0, rfl, HA, Q0, e0, HB⟩ := hrel
  rcases gk with _ | k2
  ·exact absurd HA.o (by simp [av.l0])
  have H := HA.o
  clear HA
  simp only [av.l0] at H
  by_cases G0 : d0 < a2
  rotate_left
  ·rw [Ea G0] at H
   have I0 := xa G0
   clear G0
   obtain ⟨p0, n1, H⟩ := bN_ H
   by_cases D0 : p0.toList = a0.toList
   ·rw [Da D0] at H
    have J0 : (p0.toList == a0.toList) = true := beq_iff_eq.mpr D0
    have K0 : (p0.toList != a0.toList) = false := bne_eq_false_iff_eq.mpr D0
    clear D0
    simp only [Option.some.injEq, Prod.mk.injEq] at H
    obtain ⟨rfl, rfl⟩ := H
    obtain ⟨V0, W0, X0⟩ := s7 e0.o
    subst X0
    go_wp2_with (first | (refine gq_ 19 (some 65) Tryz.func19 #[.slice V0 f0.length W0, .int .i64 a1] (ay.calls k2 _ _ f0 a1 p0 _ ?side1 ?side2 n1.o) ?_; (case side1 => exact cR_ (sX e0.o).2.2); (case side2 => exact (sX e0.o).2.1); rintro e I1 ⟨rfl, hb⟩; refine ⟨_, rfl, ?_⟩; obtain ⟨e0, HB⟩ := b_ (tc (rR_ e0.o) hb) <| c_ (ab (hB_) hb); (try clear hb)))
    go_ret2
    exact ⟨_, f1_, rR_ e0.o, hB_⟩
   rw [Ea D0] at H
   have J0 : (p0.toList == a0.toList) = false := beq_eq_false_iff_ne.mpr D0
   have K0 : (p0.toList != a0.toList) = true := bne_iff_ne.mpr D0
   simp only [Option.some.injEq, Prod.mk.injEq] at H
   obtain ⟨rfl, rfl⟩ := H
   obtain ⟨Y0, Z0, b1⟩ := s7 e0.o
   subst b1
   go_wp2_with (first | (refine gq_ 19 (some 65) Tryz.func19 #[.slice Y0 f0.length Z0, .int .i64 a1] (ay.calls k2 _ _ f0 a1 p0 _ ?side1 ?side2 n1.o) ?_; (case side1 => exact cR_ (sX e0.o).2.2); (case side2 => exact (sX e0.o).2.1); rintro e J1 ⟨rfl, hb⟩; refine ⟨_, rfl, ?_⟩; obtain ⟨e0, HB⟩ := b_ (tc (rR_ e0.o) hb) <| c_ (ab (hB_) hb); (try clear hb)))
   go_ret2
   exact ⟨_, f1_, by first | exact tH _ _ _ _ _ | exact Kd.N_nil _ _ _ _ _ | exact Kd.V_nil _ _ _ _ _ | exact Kd.Q_nil _ _ _ _ _ | exact tJ _ _ _ _ _, hB_⟩
  rw [Da G0] at H
  have I0 := wa G0
  clear G0
  have H' := c_ H
  clear H
  go_wp2
  go_loopg [10, 36] k2 (fun kq E1 F1 w' => ∃ (k0 : Int) (b0 : Int), E1 = .int .i64 k0 ∧ F1 = .int .i64 b0 ∧ aa (av.l1 kq a0 a1 f0 d0 k0 a2 d0 a1 b0 = some (r1, r2)) ∧ aa (kq ≤ k2) ∧ aa (Kd.R (Kd.int .i64) 3 w' w.heap.size (fun _ => True) u8 f0) ∧ aa (Below w.heap.size w w'))
  case atStart => exact ⟨(0), (0), f0_, f0_, H', ⟨Aa _⟩, ⟨rR_ e0.o⟩, ⟨hB_⟩⟩
  clear H'
  obtain ⟨k0, b0, rfl, rfl, HA, R0, e0, HB⟩ := hrel
  rcases gk with _ | k3
  ·exact absurd HA.o (by simp [av.l1])
  have H := HA.o
  clear HA
  simp only [av.l1] at H
  by_cases H0 : b0 < a1
  rotate_left
  ·rw [Ea H0] at H
   have L0 := xa H0
   clear H0
   obtain ⟨p1, H⟩ := iN_ H
   have M0 := c_ p1
   clear p1
   obtain ⟨c1, u0⟩ : ∃ y_ : List Int, y_ = (f0 ++ [k0]) := ⟨_, rfl⟩
   first | replace H := yb_ u0 H | rw [← u0] at H
   have N0 := c_ u0
   clear u0
   have H' := c_ H
   clear H
   go_wp2_with (first | ((refine aU (b := .append) (xs := #[.tmp 58, .tmp 60]) rfl ?_); (try (refine bn (by rfl) ?_; dsimp only)); at_builtin; refine tf (Kd.int .i64) (w0 := w) w.heap.size rfl (.tmp 58) (.tmp 60) 28 3 (.int .i64 0) 8 rfl Tryz.underlying28 cY rfl (by decide) (by omega) u8 f0 k0 [.int .i64 k0] (fun _ => True) (fun _ => False) rfl rfl ?aP (fun _ hk => hk.elim) ?aF ?aO ?aB ?aS ?aL ?_; (case aP => exact rfl); (case aB => exact (hB_)); (case aF => exact (fun _ _ => trivial)); (case aO => exact (rR_ e0.o)); (case aS => exact (ac (hB_))); (case aL => have := M0.o; omega); intro G1 K1 ho hb hg hat; rw [← N0.o] at ho; obtain ⟨HB, O0⟩ := b_ (hb) <| c_ (ho); clear ho hb hg hat))
   go_roundg k3
   case measure => have := P0.o; have := Q0.o; have := R0.o; omega
   case rel => exact ⟨(c1), (wrap64 (d0 + 1)), f0_, H', ⟨by have := P0.o; have := Q0.o; have := R0.o; omega⟩, ⟨rR_ O0.o⟩, ⟨hB_⟩⟩
  rw [Da H0] at H
  have L0 := wa H0
  clear H0
  obtain ⟨q0, x0⟩ : ∃ j_ : Int, (wrap64 (Int.tdiv (wrap64 ((wrap64 (d0 * a1)) + b0)) 8)) = j_ := ⟨_, rfl⟩
  first | rw [x0] at H | simp only [x0] at H
  have d1 : (IntKind.i64.wrap (Int.tdiv (wrap64 ((wrap64 (d0 * a1)) + b0)) 8)) = q0 := (bv _).trans x0
  obtain ⟨q1, H⟩ := iD_ H
  obtain ⟨t1, H⟩ := iD_ H
  obtain ⟨B0, C0⟩ : ∃ j_ : Int, (Int.tmod (wrap64 ((wrap64 (d0 * a1)) + b0)) 8) = j_ := ⟨_, rfl⟩
  first | rw [C0] at H | simp only [C0] at H
  obtain ⟨e1, H⟩ := iN_ H
  have y1 := ya e1
  have z1 := wa e1
  clear e1
  obtain ⟨r0, v0⟩ : ∃ j_ : Int, (shr .u8 (bt a0 (q0)) (B0)) = j_ := ⟨_, rfl⟩
  first | rw [v0] at H | simp only [v0] at H
  have f1 : ((bt a0 (q0)) / 2 ^ min (B0).toNat 8) = r0 := v0
  have g1 : (B0) ≤ 8 → ((bt a0 (q0)) / 2 ^ (B0).toNat) = r0 := fN v0
  obtain ⟨i1, H⟩ := iN_ H
  have A1 := ya i1
  have B1 := wa i1
  clear i1
  obtain ⟨y0, n0⟩ : ∃ j_ : Int, (shl .i64 (wrap64 (Go.bits .and .u8 (r0) 1)) b0) = j_ := ⟨_, rfl⟩
  first | rw [n0] at H | simp only [n0] at H
  have E0 : (IntKind.i64.wrap ((wrap64 (Go.bits .and .u8 (r0) 1)) * 2 ^ min b0.toNat 64)) = y0 := n0
  have F0 : b0 ≤ 64 → (IntKind.i64.wrap ((wrap64 (Go.bits .and .u8 (r0) 1)) * 2 ^ b0.toNat)) = y0 := eX n0
  have hji20y : (wrap64 ((wrap64 (Go.bits .and .u8 (r0) 1)) * 2 ^ min b0.toNat 64)) = y0 := (bv _).symm.trans E0
  have hji20x : b0 ≤ 64 → (wrap64 ((wrap64 (Go.bits .and .u8 (r0) 1)) * 2 ^ b0.toNat)) = y0 := fun h_ => (bv _).symm.trans (F0 h_)
  have H' := c_ H
  clear H
  have L1 := ya (oD_ : 0 ≤ ((q0) : Int))
  have M1 := ya (oD_ : (q0) < (a0.size : Int))
  have H1 := cP a0 (q0)
  go_wp2
  go_roundg k3
  case measure => have := P0.o; have := Q0.o; have := R0.o; omega
  case rel => exact ⟨(Go.bits .or .i64 k0 (y0)), (wrap64 (b0 + 1)), (by first | rfl | (simp; done) | (simp only [← n0] <;> (first | rfl | simp)) | (simp [*]; done)), f0_, H', ⟨by have := P0.o; have := Q0.o; have := R0.o; omega⟩, ⟨rR_ e0.o⟩, ⟨hB_⟩⟩
def ax.l0 : Nat → List Int → List Int → Int → Int → Option (Bool)
 | 0, _, _, _, _ => none
 | k + 1, x0, x5, x6, x7 => if x7 < x6 then (if 0 ≤ x7 then (if x7 < (x5.length : Int) then ((bV.f (rd x5 x7) 0 3328).bind fun t632 => (if t632 = true then (ax.l0 k x0 x5 x6 (wrap64 (x7 + 1))) else (some false))) else (none)) else (none)) else (some ((x0.length : Int) == 256))
def ax.f (k : Nat) (l0 : List Int) : Option (Bool) := ax.l0 k l0 l0 (l0.length : Int) 0
theorem ax.mono_l : ∀ k, (∀ y0 y1 y2 y3, LeO (ax.l0 k y0 y1 y2 y3) (ax.l0 (k + 1) y0 y1 y2 y3))
 | 0 => fun _ _ _ _ r h => by simp [ax.l0] at h
 | k + 1 => by
  have ih0 := ax.mono_l k
  intros; unfold ax.l0; exact o1_ ih0
theorem ax.mono : ∀ a0 k, LeO (ax.f k a0) (ax.f (k + 1) a0) := by
 intro a0 k
 have ih0 := ax.mono_l k
 unfold ax.f
 exact o1_ ih0
theorem ax.calls (k : Nat) (A0 : Option Addr) (c0 : Nat) (l0 : List Int) (r : Bool) (w : World) (hr0 : Kd.C (Kd.int .i64) w A0 l0.length l0) (hc0 : l0.length ≤ c0) (h : ax.f k l0 = some r) :
  Calls Tryz.prog 80 #[.slice A0 l0.length c0] w fun e w' => e = .returned (.bool r) ∧ cx w w' := by
 have p0 := c_ hr0
 have u0 := c_ hc0
 clear hr0 hc0
 delta ax.f at h
 have H := h
 clear h
 have H' := c_ H
 clear H
 go_enter Tryz.func80, Tryz.ntmps80
 go_wp2
 go_loopg [7] k (fun kq v7 w' => ∃ (a0 : Int), v7 = .int .i64 a0 ∧ aa (ax.l0 kq l0 l0 (l0.length : Int) a0 = some r) ∧ aa (kq ≤ k) ∧ cx w w')
 case atStart => exact ⟨(0), f0_, H', ⟨Aa _⟩, d0_⟩
 clear H'
 obtain ⟨a0, rfl, HA, q0, ⟨m1, rfl⟩⟩ := hrel
 rcases gk with _ | k1
 ·exact absurd HA.o (by simp [ax.l0])
 have H := HA.o
 clear HA
 simp only [ax.l0] at H
 by_cases c2 : a0 < (l0.length : Int)
 rotate_left
 ·rw [Ea c2] at H
  have k0 := xa c2
  clear c2
  obtain rfl := za H
  go_wp2
  go_ret
  exact ⟨f0_, d0_⟩
 rw [Da c2] at H
 have k0 := wa c2
 clear c2
 obtain ⟨r0, H⟩ := iD_ H
 obtain ⟨t0, H⟩ := iD_ H
 obtain ⟨n0, A5, H⟩ := bN_ H
 by_cases c6 : n0 = true
 ·subst c6
  replace H := iT_ H
  have H' := c_ H
  clear H
  have b0 : 0 ≤ (a0 : Int) := oD_
  have d0 : a0 < (l0.length : Int) := oD_
  obtain ⟨j0, f0, e0⟩ := tb p0.o a0 b0 d0
  cases f0
  replace b0 := ya b0
  replace d0 := ya d0
  go_wp2_with (first | (refine gq_ 79 (some 12) Tryz.func79 #[.int .i64 (rd l0 a0), .int .i64 0, .int .i64 3328] (bV.calls (rd l0 a0) 0 3328 true _ A5.o) ?_; rintro e w' ⟨rfl, ⟨nd, rfl⟩⟩; refine ⟨_, rfl, ?_⟩))
  go_roundg k1
  case measure => have := q0.o; omega
  case rel => exact ⟨(wrap64 (a0 + 1)), f0_, H', ⟨by have := q0.o; omega⟩, d0_⟩
 ·replace c6 := Ca c6
  subst c6
  replace H := iF_ H
  obtain rfl := za H
  have b0 : 0 ≤ (a0 : Int) := oD_
  have d0 : a0 < (l0.length : Int) := oD_
  obtain ⟨j0, f0, e0⟩ := tb p0.o a0 b0 d0
  cases f0
  replace b0 := ya b0
  replace d0 := ya d0
  go_wp2_with (first | (refine gq_ 79 (some 12) Tryz.func79 #[.int .i64 (rd l0 a0), .int .i64 0, .int .i64 3328] (bV.calls (rd l0 a0) 0 3328 false _ A5.o) ?_; rintro e w' ⟨rfl, ⟨nd, rfl⟩⟩; refine ⟨_, rfl, ?_⟩))
  go_ret
  exact ⟨f0_, d0_⟩
def ci.f (k : Nat) (a0 : ByteArray) : Option (List Int × Bool) := (av.f k a0 12 256).bind fun bt633 => (if bt633.2 = true then ((ax.f k bt633.1).bind fun t637 => (if t637 = true then (some (bt633.1, true)) else (some (([] : List Int), false)))) else (some (([] : List Int), false)))
theorem ci.mono : ∀ a0 k, LeO (ci.f k a0) (ci.f (k + 1) a0) := by
 intro a0 k
 unfold ci.f
 exact o2_ ax.mono av.mono
theorem ci.calls (k : Nat) (a0 : ByteArray) (r1 : List Int) (r2 : Bool) (w : World) (h : ci.f k a0 = some (r1, r2)) :
  Calls Tryz.prog 78 #[.string a0] w fun e w' => ∃ n0 : Value, e = .returned (.tuple #[n0, .bool r2]) ∧ Kd.R (Kd.int .i64) 3 w' w.heap.size (fun _ => True) n0 r1 ∧ Below w.heap.size w w' := by
 have HB := c_ (Ba w.heap.size w)
 delta ci.f at h
 have H := h
 clear h
 obtain ⟨⟨d0, j0⟩, A2, H⟩ := bN_ H
 by_cases c3 : j0 = true
 ·subst c3
  replace H := iT_ H
  obtain ⟨k0, A4, H⟩ := bN_ H
  by_cases c5 : k0 = true
  ·subst c5
   replace H := iT_ H
   simp only [Option.some.injEq, Prod.mk.injEq] at H
   obtain ⟨rfl, rfl⟩ := H
   go_enter Tryz.func78, Tryz.ntmps78
   go_wp2_with (first | (refine gq_ 46 (some 8) Tryz.func46 #[.string a0, .int .i64 12, .int .i64 256] (av.calls k a0 12 256 d0 true _ A2.o) ?_; rintro e w6 ⟨f0, rfl, e0, hb⟩; refine ⟨_, rfl, ?_⟩; obtain ⟨b0, HB⟩ := b_ (sZ e0 (ac (hB_))) <| c_ (ab (hB_) hb); obtain ⟨r0, t0, p0⟩ := s7 b0.o; subst p0) | (go_at_call 80; (with_reducible refine (ax.calls k _ _ d0 true _ ?side1 ?side2 A4.o).mono ?_); (case side1 => exact cR_ (sX b0.o).2.2); (case side2 => exact (sX b0.o).2.1); rintro e w' ⟨rfl, ⟨nd, rfl⟩⟩))
   go_ret2
   exact ⟨_, f1_, rR_ b0.o, hB_⟩
  ·replace c5 := Ca c5
   subst c5
   replace H := iF_ H
   simp only [Option.some.injEq, Prod.mk.injEq] at H
   obtain ⟨rfl, rfl⟩ := H
   go_enter Tryz.func78, Tryz.ntmps78
   go_wp2_with (first | (refine gq_ 46 (some 8) Tryz.func46 #[.string a0, .int .i64 12, .int .i64 256] (av.calls k a0 12 256 d0 true _ A2.o) ?_; rintro e w8 ⟨f0, rfl, e0, hb⟩; refine ⟨_, rfl, ?_⟩; obtain ⟨b0, HB⟩ := b_ (sZ e0 (ac (hB_))) <| c_ (ab (hB_) hb); obtain ⟨u0, v0, q0⟩ := s7 b0.o; subst q0) | (go_at_call 80; (with_reducible refine (ax.calls k _ _ d0 false _ ?side1 ?side2 A4.o).mono ?_); (case side1 => exact cR_ (sX b0.o).2.2); (case side2 => exact (sX b0.o).2.1); rintro e w' ⟨rfl, ⟨nd, rfl⟩⟩))
   go_ret2
   exact ⟨_, f1_, by first | exact tH _ _ _ _ _ | exact Kd.N_nil _ _ _ _ _ | exact Kd.V_nil _ _ _ _ _ | exact Kd.Q_nil _ _ _ _ _ | exact tJ _ _ _ _ _, hB_⟩
 ·replace c3 := Ca c3
  subst c3
  replace H := iF_ H
  simp only [Option.some.injEq, Prod.mk.injEq] at H
  obtain ⟨rfl, rfl⟩ := H
  go_enter Tryz.func78, Tryz.ntmps78
  go_wp2_with (first | (refine gq_ 46 (some 8) Tryz.func46 #[.string a0, .int .i64 12, .int .i64 256] (av.calls k a0 12 256 d0 false _ A2.o) ?_; rintro e x0 ⟨f0, rfl, e0, hb⟩; refine ⟨_, rfl, ?_⟩; obtain ⟨b0, HB⟩ := b_ (sZ e0 (ac (hB_))) <| c_ (ab (hB_) hb); (try clear e0)))
  go_ret2
  exact ⟨_, f1_, by first | exact tH _ _ _ _ _ | exact Kd.N_nil _ _ _ _ _ | exact Kd.V_nil _ _ _ _ _ | exact Kd.Q_nil _ _ _ _ _ | exact tJ _ _ _ _ _, hB_⟩
def bk.l0 : Nat → ByteArray → List (List Int) → Int → Option ((List (List Int)) × Bool)
 | 0, _, _, _ => none
 | k + 1, x0, x4, x8 => if x8 < 2 then (if 0 ≤ (wrap64 (x8 * 384)) then (if (wrap64 (x8 * 384)) ≤ (wrap64 ((wrap64 (x8 + 1)) * 384)) then (if (wrap64 ((wrap64 (x8 + 1)) * 384)) ≤ (x0.size : Int) then ((ci.f k (x0.extract ((wrap64 (x8 * 384)) : Int).toNat ((wrap64 ((wrap64 (x8 + 1)) * 384)) : Int).toNat)).bind fun bt638 => (if bt638.2 = true then (if x4.length < 5864062014805 then (bk.l0 k x0 (x4 ++ [bt638.1]) (wrap64 (x8 + 1))) else (none)) else (some (([] : List (List Int)), false)))) else (none)) else (none)) else (none)) else (some (x4, true))
def bk.f (k : Nat) (a0 : ByteArray) : Option ((List (List Int)) × Bool) := bk.l0 k a0 ([] : List (List Int)) 0
theorem bk.mono_l : ∀ k, (∀ y0 y1 y2, LeO (bk.l0 k y0 y1 y2) (bk.l0 (k + 1) y0 y1 y2))
 | 0 => fun _ _ _ r h => by simp [bk.l0] at h
 | k + 1 => by
  have ih0 := bk.mono_l k
  intros; unfold bk.l0; exact o2_ ih0 ci.mono
theorem bk.mono : ∀ a0 k, LeO (bk.f k a0) (bk.f (k + 1) a0) := by
 intro a0 k
 have ih0 := bk.mono_l k
 unfold bk.f
 exact o2_ ih0 ci.mono
theorem bk.calls (k : Nat) (a0 : ByteArray) (r1 : List (List Int)) (r2 : Bool) (w : World) (h : bk.f k a0 = some (r1, r2)) :
  Calls Tryz.prog 45 #[.string a0] w fun e w' => ∃ F0 : Value, e = .returned (.tuple #[F0, .bool r2]) ∧ Kd.S (Kd.slice 3 (Kd.int .i64)) 28 w' w.heap.size (fun _ => True) F0 r1 ∧ Below w.heap.size w w' := by
 have HB := c_ (Ba w.heap.size w)
 delta bk.f at h
 have H := h
 clear h
 have H' := c_ H
 clear H
 go_enter Tryz.func45, Tryz.ntmps45
 go_wp2
 go_loopg [4, 8] k (fun kq v4 v8 w' => ∃ (n0 : List (List Int)) (b0 : Int), v8 = .int .i64 b0 ∧ aa (bk.l0 kq a0 n0 b0 = some (r1, r2)) ∧ aa (kq ≤ k) ∧ aa (Kd.S (Kd.slice 3 (Kd.int .i64)) 28 w' w.heap.size (fun _ => True) v4 n0) ∧ aa (Below w.heap.size w w'))
 case atStart => exact ⟨(([] : List (List Int))), (0), f0_, H', ⟨Aa _⟩, ⟨by first | exact tJ _ _ _ _ _ | exact Kd.N_nil _ _ _ _ _ | exact Kd.V_nil _ _ _ _ _ | exact Kd.Q_nil _ _ _ _ _ | exact tH _ _ _ _ _⟩, ⟨hB_⟩⟩
 clear H'
 obtain ⟨n0, b0, rfl, HA, G0, d0, HB⟩ := hrel
 rcases gk with _ | k1
 ·exact absurd HA.o (by simp [bk.l0])
 have H := HA.o
 clear HA
 simp only [bk.l0] at H
 by_cases c2 : b0 < 2
 rotate_left
 ·rw [Ea c2] at H
  have x0 := xa c2
  clear c2
  simp only [Option.some.injEq, Prod.mk.injEq] at H
  obtain ⟨rfl, rfl⟩ := H
  go_wp2
  go_ret2
  exact ⟨_, f1_, by refine kS_ ?_; exact d0.o, hB_⟩
 rw [Da c2] at H
 have x0 := wa c2
 clear c2
 obtain ⟨q0, j0⟩ : ∃ j_ : Int, (wrap64 (b0 * 384)) = j_ := ⟨_, rfl⟩
 first | rw [j0] at H | simp only [j0] at H
 have H0 : (IntKind.i64.wrap (b0 * 384)) = q0 := (bv _).trans j0
 obtain ⟨c4, H⟩ := iN_ H
 have I0 := ya c4
 have J0 := wa c4
 clear c4
 obtain ⟨c5, H⟩ := iN_ H
 have K0 := ya c5
 have L0 := wa c5
 obtain ⟨c6, H⟩ := iN_ H
 have M0 := ya c6
 have N0 := wa c6
 obtain ⟨⟨k0, y0⟩, A7, H⟩ := bN_ H
 by_cases c8 : y0 = true
 ·subst c8
  replace H := iT_ H
  obtain ⟨c9, H⟩ := iN_ H
  have B0 := c_ c9
  clear c9
  obtain ⟨C0, e0⟩ : ∃ y_ : List (List Int), y_ = (n0 ++ [k0]) := ⟨_, rfl⟩
  first | replace H := yb_ e0 H | rw [← e0] at H
  have r0 := c_ e0
  clear e0
  have H' := c_ H
  clear H
  go_wp2_with (first | ((with_reducible refine dM (f := 78) rfl ?_); refine gm (some 19) rfl rfl Tryz.func78 (by kernel_rfl) rfl #[.string (a0.extract ((q0) : Int).toNat ((wrap64 ((wrap64 (b0 + 1)) * 384)) : Int).toNat)] rfl (by (try simp only [List.map_toArray, List.map_cons, List.map_nil]); first | done | (simp only [j0]; rfl) | rfl | (simp only [List.length_drop, List.length_take]; rfl)) ?_; (with_reducible refine (ci.calls k1 (a0.extract ((q0) : Int).toNat ((wrap64 ((wrap64 (b0 + 1)) * 384)) : Int).toNat) k0 true _ A7.o).mono ?_); rintro e P0 ⟨D0, rfl, p0, hb⟩; refine ⟨_, rfl, ?_⟩; obtain ⟨d0, f0, HB⟩ := b_ (s6 (rS_ d0.o) (sY p0) hb) <| b_ (sZ p0 (ac (hB_))) <| c_ (ab (hB_) hb); obtain ⟨t0, u0, E0⟩ := s7 f0.o; subst E0) | ((refine aU (b := .append) (xs := #[.tmp 24, .tmp 26]) rfl ?_); at_builtin; refine tE (Kd.slice 3 (Kd.int .i64)) (w0 := w) w.heap.size rfl (.tmp 24) (.tmp 26) 46 28 (.slice none 0 0) 24 rfl Tryz.underlying46 gg rfl (by decide) (by omega) u4 n0 k0 [.slice t0 k0.length u0] (fun _ => True) (fun k_ => some k_ = (.slice t0 k0.length u0 : Value).ownBlock) rfl rfl ?aP (fun k_ hk_ => ((s9 (ok' := fun k_ => ((fun _ => True)) k_ ∧ some k_ ≠ (u4 : Value).ownBlock) (th (f0.o) (tk d0.o) (by decide)) (fun k_ hk => ⟨trivial, hk.2⟩))).1 k_ hk_.symm) ?aF ?aO ?aB ?aS ?aL ?_; (case aP => exact t9 (s9 (tG rfl (s9 (ok' := fun k_ => ((fun _ => True)) k_ ∧ some k_ ≠ (u4 : Value).ownBlock) (th (f0.o) (tk d0.o) (by decide)) (fun k_ hk => ⟨trivial, hk.2⟩))) (fun _ h_ => h_))); (case aB => exact (hB_)); (case aF => exact (fun _ _ => trivial)); (case aO => exact (by refine kS_ ?_; exact tq d0.o (fun k_ hk => ⟨trivial, fun e_ => hk.2 e_⟩))); (case aS => exact (ac (hB_))); (case aL => have := B0.o; omega); intro O0 Q0 ho hb hg hat; rw [← r0.o] at ho; obtain ⟨HB, v0⟩ := b_ (hb) <| c_ (ho); clear ho hb hg hat))
  go_roundg k1
  case measure => have := G0.o; omega
  case rel => exact ⟨(C0), (wrap64 (b0 + 1)), f0_, H', ⟨by have := G0.o; omega⟩, ⟨rS_ v0.o⟩, ⟨hB_⟩⟩
 ·replace c8 := Ca c8
  subst c8
  replace H := iF_ H
  simp only [Option.some.injEq, Prod.mk.injEq] at H
  obtain ⟨rfl, rfl⟩ := H
  go_wp2_with (first | ((with_reducible refine dM (f := 78) rfl ?_); refine gm (some 19) rfl rfl Tryz.func78 (by kernel_rfl) rfl #[.string (a0.extract ((q0) : Int).toNat ((wrap64 ((wrap64 (b0 + 1)) * 384)) : Int).toNat)] rfl (by (try simp only [List.map_toArray, List.map_cons, List.map_nil]); first | done | (simp only [j0]; rfl) | rfl | (simp only [List.length_drop, List.length_take]; rfl)) ?_; (with_reducible refine (ci.calls k1 (a0.extract ((q0) : Int).toNat ((wrap64 ((wrap64 (b0 + 1)) * 384)) : Int).toNat) k0 false _ A7.o).mono ?_); rintro e R0 ⟨D0, rfl, p0, hb⟩; refine ⟨_, rfl, ?_⟩; obtain ⟨d0, f0, HB⟩ := b_ (s6 (rS_ d0.o) (sY p0) hb) <| b_ (sZ p0 (ac (hB_))) <| c_ (ab (hB_) hb); (try clear p0)))
  go_ret2
  exact ⟨_, by first | rfl | (simp [dk, dh] <;> rfl) | (simp only [← j0]; first | rfl | (simp [dk, dh] <;> rfl)) | (simp [*, dk, dh] <;> rfl), by first | exact tJ _ _ _ _ _ | exact Kd.N_nil _ _ _ _ _ | exact Kd.V_nil _ _ _ _ _ | exact Kd.Q_nil _ _ _ _ _ | exact tH _ _ _ _ _, hB_⟩
def dp.f (l0 : List Int) : Option (List Int) := if ([] : List Int).length + l0.length < 17592186044416 then (some (([] : List Int) ++ l0)) else (none)
theorem dp.calls (A0 : Option Addr) (c0 : Nat) (l0 : List Int) (r : List Int) (w : World) (hr0 : Kd.C (Kd.int .i64) w A0 l0.length l0) (hc0 : l0.length ≤ c0) (h : dp.f l0 = some r) :
  Calls Tryz.prog 81 #[.slice A0 l0.length c0] w fun e w' => ∃ f0 : Value, e = .returned (f0) ∧ Kd.R (Kd.int .i64) 3 w' w.heap.size (fun _ => True) f0 r ∧ Below w.heap.size w w' := by
 have j0 := c_ hr0
 have p0 := c_ hc0
 clear hr0 hc0
 have HB := c_ (Ba w.heap.size w)
 delta dp.f at h
 have H := h
 clear h
 obtain ⟨c2, H⟩ := iN_ H
 have e0 := c_ c2
 clear c2
 obtain ⟨k0, a0⟩ : ∃ y_ : List Int, y_ = (([] : List Int) ++ l0) := ⟨_, rfl⟩
 first | replace H := yb_ a0 H | rw [← a0] at H
 have b0 := c_ a0
 clear a0
 obtain rfl := za H
 go_enter Tryz.func81, Tryz.ntmps81
 go_wp2_with (first | ((with_reducible refine aU (b := .append) (xs := #[.const (.slice none 0 0), .tmp 3]) rfl ?_); at_builtin; refine tA (Kd.int .i64) (w0 := w) w.heap.size rfl (.const (.slice none 0 0)) (.tmp 3) 28 3 (.int .i64 0) 8 rfl Tryz.underlying28 cY rfl (by decide) (by omega) (.slice none 0 0) ([] : List Int) l0 _ _ _ (fun _ => True) (fun _ => False) rfl rfl ?aO ?aR (fun _ _ h => h) (fun _ h => h.elim) ?aF ?aB ?aS ?aL ?_; (case aR => exact cR_ j0.o); (case aB => exact (hB_)); (case aF => exact (fun _ _ => trivial)); (case aO => exact ((tH _ _ _ _ (fun _ => True)))); (case aS => exact (ac (hB_))); (case aL => have := e0.o; omega); intro n0 w3 ho hb hg hat; rw [← b0.o] at ho; obtain ⟨HB, d0⟩ := b_ (hb) <| c_ (ho); clear ho hb hg hat))
 go_ret
 exact ⟨_, f1_, rR_ d0.o, hB_⟩
def bW.f (a0 : Int) : Option (Int) := some (Int.tmod (wrap64 ((Int.tmod a0 3329) + 3329)) 3329)
theorem bW.calls (a0 : Int) (r : Int) (w : World) (h : bW.f a0 = some r) :
  Calls Tryz.prog 84 #[.int .i64 a0] w fun e w' => e = .returned (.int .i64 r) ∧ cx w w' := by
 delta bW.f at h
 have H := h
 clear h
 obtain rfl := za H
 go_enter Tryz.func84, Tryz.ntmps84
 go_wp2
 go_ret
 exact ⟨f0_, d0_⟩
def bB.l0 : Nat → Int → Int → Int → Option (Int)
 | 0, _, _, _ => none
 | k + 1, x0, x1, x5 => if x1 > 0 then (if (Int.tmod x1 2) = 1 then (bB.l0 k (Int.tmod (wrap64 (x0 * x0)) 3329) (wrap64 (Int.tdiv x1 2)) (Int.tmod (wrap64 (x5 * x0)) 3329)) else (bB.l0 k (Int.tmod (wrap64 (x0 * x0)) 3329) (wrap64 (Int.tdiv x1 2)) x5)) else (some x5)
def bB.f (k : Nat) (a0 : Int) (a1 : Int) : Option (Int) := (bV.f a1 0 1000000000).bind fun t648 => (if t648 = true then ((bW.f a0).bind fun t649 => (bB.l0 k t649 a1 1)) else (some 0))
theorem bB.mono_l : ∀ k, (∀ y0 y1 y2, LeO (bB.l0 k y0 y1 y2) (bB.l0 (k + 1) y0 y1 y2))
 | 0 => fun _ _ _ r h => by simp [bB.l0] at h
 | k + 1 => by
  have ih0 := bB.mono_l k
  intros; unfold bB.l0; exact o1_ ih0
theorem bB.mono : ∀ a0 a1 k, LeO (bB.f k a0 a1) (bB.f (k + 1) a0 a1) := by
 intro a0 a1 k
 have ih0 := bB.mono_l k
 unfold bB.f
 exact o1_ ih0
theorem bB.calls (k : Nat) (a0 : Int) (a1 : Int) (r : Int) (w : World) (h : bB.f k a0 a1 = some r) :
  Calls Tryz.prog 82 #[.int .i64 a0, .int .i64 a1] w fun e w' => e = .returned (.int .i64 r) ∧ cx w w' := by
 delta bB.f at h
 have H := h
 clear h
 obtain ⟨k0, A3, H⟩ := bN_ H
 by_cases c4 : k0 = true
 ·subst c4
  replace H := iT_ H
  obtain ⟨f0, A5, H⟩ := bN_ H
  have H' := c_ H
  clear H
  go_enter Tryz.func82, Tryz.ntmps82
  go_wp2_with (first | (refine gq_ 79 (some 7) Tryz.func79 #[.int .i64 a1, .int .i64 0, .int .i64 1000000000] (bV.calls a1 0 1000000000 true _ A3.o) ?_; rintro e w' ⟨rfl, ⟨nd, rfl⟩⟩; refine ⟨_, rfl, ?_⟩) | (refine gq_ 84 (some 10) Tryz.func84 #[.int .i64 a0] (bW.calls a0 f0 _ A5.o) ?_; rintro e w' ⟨rfl, ⟨nd, rfl⟩⟩; refine ⟨_, rfl, ?_⟩))
  go_loopg [0, 1, 5] k (fun kq v0 v1 v5 w' => ∃ (d0 : Int) (b0 : Int) (e0 : Int), v0 = .int .i64 d0 ∧ v1 = .int .i64 b0 ∧ v5 = .int .i64 e0 ∧ aa (bB.l0 kq d0 b0 e0 = some r) ∧ aa (kq ≤ k) ∧ cx w w')
  case atStart => exact ⟨(f0), (a1), (1), f0_, f0_, f0_, H', ⟨Aa _⟩, d0_⟩
  clear H'
  obtain ⟨d0, b0, e0, rfl, rfl, rfl, HA, j0, ⟨m1, rfl⟩⟩ := hrel
  rcases gk with _ | k1
  ·exact absurd HA.o (by simp [bB.l0])
  have H := HA.o
  clear HA
  simp only [bB.l0] at H
  by_cases c6 : b0 > 0
  ·rw [Da c6] at H
   have n0 := wa c6
   clear c6
   by_cases c7 : (Int.tmod b0 2) = 1
   ·rw [Da c7] at H
    have p0 : ((Int.tmod b0 2) == 1) = true := beq_iff_eq.mpr c7
    have q0 : ((Int.tmod b0 2) != 1) = false := bne_eq_false_iff_eq.mpr c7
    clear c7
    have H' := c_ H
    clear H
    go_wp2
    go_roundg k1
    case measure => have := j0.o; omega
    case rel => exact ⟨(Int.tmod (wrap64 (d0 * d0)) 3329), (wrap64 (Int.tdiv b0 2)), (Int.tmod (wrap64 (e0 * d0)) 3329), f0_, f0_, f0_, H', ⟨by have := j0.o; omega⟩, d0_⟩
   rw [Ea c7] at H
   have p0 : ((Int.tmod b0 2) == 1) = false := beq_eq_false_iff_ne.mpr c7
   have q0 : ((Int.tmod b0 2) != 1) = true := bne_iff_ne.mpr c7
   have H' := c_ H
   clear H
   go_wp2
   go_roundg k1
   case measure => have := j0.o; omega
   case rel => exact ⟨(Int.tmod (wrap64 (d0 * d0)) 3329), (wrap64 (Int.tdiv b0 2)), (e0), f0_, f0_, f0_, H', ⟨by have := j0.o; omega⟩, d0_⟩
  rw [Ea c6] at H
  have n0 := xa c6
  clear c6
  obtain rfl := za H
  go_wp2
  go_ret
  exact ⟨f0_, d0_⟩
 ·replace c4 := Ca c4
  subst c4
  replace H := iF_ H
  obtain rfl := za H
  go_enter Tryz.func82, Tryz.ntmps82
  go_wp2_with (first | (refine gq_ 79 (some 7) Tryz.func79 #[.int .i64 a1, .int .i64 0, .int .i64 1000000000] (bV.calls a1 0 1000000000 false _ A3.o) ?_; rintro e w' ⟨rfl, ⟨nd, rfl⟩⟩; refine ⟨_, rfl, ?_⟩))
  go_ret
  exact ⟨f0_, d0_⟩
def bw.l0 : Nat → Int → Int → Int → Option (Int)
 | 0, _, _, _ => none
 | k + 1, x0, x3, x5 => if x5 < 7 then (if 0 ≤ x5 then (bw.l0 k x0 (wrap64 ((wrap64 (2 * x3)) + (Go.bits .and .i64 (shr .i64 x0 x5) 1))) (wrap64 (x5 + 1))) else (none)) else (some x3)
def bw.f (k : Nat) (a0 : Int) : Option (Int) := bw.l0 k a0 0 0
theorem bw.mono_l : ∀ k, (∀ y0 y1 y2, LeO (bw.l0 k y0 y1 y2) (bw.l0 (k + 1) y0 y1 y2))
 | 0 => fun _ _ _ r h => by simp [bw.l0] at h
 | k + 1 => by
  have ih0 := bw.mono_l k
  intros; unfold bw.l0; exact o1_ ih0
theorem bw.mono : ∀ a0 k, LeO (bw.f k a0) (bw.f (k + 1) a0) := by
 intro a0 k
 have ih0 := bw.mono_l k
 unfold bw.f
 exact o1_ ih0
theorem bw.calls (k : Nat) (a0 : Int) (r : Int) (w : World) (h : bw.f k a0 = some r) :
  Calls Tryz.prog 83 #[.int .i64 a0] w fun e w' => e = .returned (.int .i64 r) ∧ cx w w' := by
 delta bw.f at h
 have H := h
 clear h
 have H' := c_ H
 clear H
 go_enter Tryz.func83, Tryz.ntmps83
 go_wp2
 go_loopg [3, 5] k (fun kq v3 v5 w' => ∃ (e0 : Int) (b0 : Int), v3 = .int .i64 e0 ∧ v5 = .int .i64 b0 ∧ aa (bw.l0 kq a0 e0 b0 = some r) ∧ aa (kq ≤ k) ∧ cx w w')
 case atStart => exact ⟨(0), (0), f0_, f0_, H', ⟨Aa _⟩, d0_⟩
 clear H'
 obtain ⟨e0, b0, rfl, rfl, HA, k0, ⟨m1, rfl⟩⟩ := hrel
 rcases gk with _ | k1
 ·exact absurd HA.o (by simp [bw.l0])
 have H := HA.o
 clear HA
 simp only [bw.l0] at H
 by_cases c2 : b0 < 7
 ·rw [Da c2] at H
  have f0 := wa c2
  clear c2
  obtain ⟨c3, H⟩ := iN_ H
  have q0 := ya c3
  have r0 := wa c3
  clear c3
  obtain ⟨j0, d0⟩ : ∃ j_ : Int, (shr .i64 a0 b0) = j_ := ⟨_, rfl⟩
  first | rw [d0] at H | simp only [d0] at H
  have n0 : (a0 / 2 ^ min b0.toNat 64) = j0 := d0
  have p0 : b0 ≤ 64 → (a0 / 2 ^ b0.toNat) = j0 := fN d0
  have H' := c_ H
  clear H
  go_wp2
  go_roundg k1
  case measure => have := k0.o; omega
  case rel => exact ⟨(wrap64 ((wrap64 (2 * e0)) + (Go.bits .and .i64 (j0) 1))), (wrap64 (b0 + 1)), (by first | rfl | (simp; done) | (simp only [← d0] <;> (first | rfl | simp)) | (simp [*]; done)), f0_, H', ⟨by have := k0.o; omega⟩, d0_⟩
 rw [Ea c2] at H
 have f0 := xa c2
 clear c2
 obtain rfl := za H
 go_wp2
 go_ret
 exact ⟨f0_, d0_⟩
theorem aM.cell_setCell_drewN (w : World) (n : Nat) (a b : Addr) (v : Value) : ((w.drewN n).setCell a v).cell? b = (w.setCell a v).cell? b := rfl
theorem aM.frozen_setCell (w : World) (a b : Addr) (v : Value) : (w.setCell a v).frozen? b = w.frozen? b := World.frozen?_setCell w a b v
attribute [local go_sem] aM.cell_setCell_drewN
mutual
def aM.l0 : Nat → List Int → Int → Int → Option (List Int)
 | 0, _, _, _ => none
 | k + 1, x3, x4, x5 => if x5 ≥ 2 then (aM.l1 k x3 x4 x5 0) else (some x3)
def aM.l1 : Nat → List Int → Int → Int → Int → Option (List Int)
 | 0, _, _, _, _ => none
 | k + 1, x3, x4, x5, x6 => if x6 < 256 then ((bw.f k x4).bind fun t654 => ((bB.f k 17 t654).bind fun t655 => (aM.l2 k x3 (wrap64 (x4 + 1)) x5 x6 t655 x6))) else (aM.l0 k x3 x4 (wrap64 (Int.tdiv x5 2)))
def aM.l2 : Nat → List Int → Int → Int → Int → Int → Int → Option (List Int)
 | 0, _, _, _, _, _, _ => none
 | k + 1, x3, x4, x5, x6, x7, x8 => if x8 < (wrap64 (x6 + x5)) then (if 0 ≤ (wrap64 (x8 + x5)) then (if (wrap64 (x8 + x5)) < (x3.length : Int) then (if 0 ≤ x8 then (if x8 < (x3.length : Int) then ((bW.f (wrap64 ((rd x3 x8) + (wrap64 (x7 * (rd x3 (wrap64 (x8 + x5)))))))).bind fun t658 => ((bW.f (wrap64 ((rd x3 x8) - (wrap64 (x7 * (rd x3 (wrap64 (x8 + x5)))))))).bind fun t660 => (aM.l2 k ((x3.set (x8 : Int).toNat t658).set ((wrap64 (x8 + x5)) : Int).toNat t660) x4 x5 x6 x7 (wrap64 (x8 + 1))))) else (none)) else (none)) else (none)) else (none)) else (aM.l1 k x3 x4 x5 (wrap64 (x6 + (wrap64 (2 * x5)))))
end
def aM.f (k : Nat) (l0 : List Int) : Option (List Int) := (ax.f k l0).bind fun t650 => (if t650 = true then ((dp.f l0).bind fun t651 => (aM.l0 k t651 1 128)) else (some ([] : List Int)))
theorem aM.mono_l : ∀ k, (∀ y0 y1 y2, LeO (aM.l0 k y0 y1 y2) (aM.l0 (k + 1) y0 y1 y2)) ∧ (∀ y0 y1 y2 y3, LeO (aM.l1 k y0 y1 y2 y3) (aM.l1 (k + 1) y0 y1 y2 y3)) ∧ (∀ y0 y1 y2 y3 y4 y5, LeO (aM.l2 k y0 y1 y2 y3 y4 y5) (aM.l2 (k + 1) y0 y1 y2 y3 y4 y5))
 | 0 => ⟨fun _ _ _ r h => by simp [aM.l0] at h, fun _ _ _ _ r h => by simp [aM.l1] at h, fun _ _ _ _ _ _ r h => by simp [aM.l2] at h⟩
 | k + 1 => by
  obtain ⟨ih0, ih1, ih2⟩ := aM.mono_l k
  refine ⟨?_, ?_, ?_⟩ <;> (intros; (first | unfold aM.l0 | unfold aM.l1 | unfold aM.l2); exact o6_ ih0 ih1 ih2 ax.mono bB.mono bw.mono)
theorem aM.mono : ∀ a0 k, LeO (aM.f k a0) (aM.f (k + 1) a0) := by
 intro a0 k
 obtain ⟨ih0, ih1, ih2⟩ := aM.mono_l k
 unfold aM.f
 exact o6_ ih0 ih1 ih2 ax.mono bB.mono bw.mono
def aM.T17 : Bool × List (List Nat × List Nat) := (true, [([], []), ([], []), ([], []), ([], []), ([], []), ([3, 4], [3, 4]), ([], []), ([], []), ([6, 7], [6, 7]), ([8], [8]), ([], []), ([9, 10], [9, 10]), ([11], [11]), ([], []), ([], []), ([13, 14], [13, 14]), ([15], [15]), ([], []), ([16, 17], [16, 17]), ([18, 12], [18]), ([0, 1, 0, 1, 6, 7, 8, 9, 10, 11, 12, 16, 19], [0, 1]), ([20, 12, 19, 0, 1, 6, 7, 8, 9, 10, 11, 12, 16, 19], [12, 20]), ([2, 5, 0, 1, 2, 3, 4, 5, 6, 7, 8, 9, 10, 11, 12, 13, 14, 15, 16, 17, 18, 19, 20, 21], [2, 5]), ([22, 19, 21, 0, 1, 2, 3, 4, 5, 6, 7, 8, 9, 10, 11, 12, 13, 14, 15, 16, 17, 18, 19, 20, 21], [19, 22])])
def aM.B17 : List Nat := [0, 0, 0, 0, 0, 24, 0, 0, 192, 448, 0, 1984, 4032, 0, 0, 24576, 57344, 0, 253952, 524224, 1048515, 2097091, 4194303, 8388607]
theorem aM.tab17 : d8 .any (fb Tryz.f47 17) = aM.T17 := by kernel_rfl
theorem aM.bits17 : db aM.T17.2 aM.B17 = true := by kernel_rfl
theorem aM.calls (k : Nat) (A0 : Option Addr) (c0 : Nat) (l0 : List Int) (r : List Int) (w : World) (hr0 : Kd.C (Kd.int .i64) w A0 l0.length l0) (hc0 : l0.length ≤ c0) (h : aM.f k l0 = some r) :
  Calls Tryz.prog 47 #[.slice A0 l0.length c0] w fun e w' => ∃ D1 : Value, e = .returned (D1) ∧ Kd.R (Kd.int .i64) 3 w' w.heap.size (fun _ => True) D1 r ∧ Below w.heap.size w w' := by
 have c1 := c_ hr0
 have d1 := c_ hc0
 clear hr0 hc0
 have HB := c_ (Ba w.heap.size w)
 delta aM.f at h
 have H := h
 clear h
 obtain ⟨e1, A2, H⟩ := bN_ H
 by_cases c3 : e1 = true
 ·subst c3
  replace H := iT_ H
  obtain ⟨Q0, A4, H⟩ := bN_ H
  have H' := c_ H
  clear H
  go_enter Tryz.func47, Tryz.ntmps47
  go_wp2_with (first | (refine gq_ 80 (some 11) Tryz.func80 #[.slice A0 l0.length c0] (ax.calls k _ _ l0 true _ ?side1 ?side2 A2.o) ?_; (case side1 => exact cR_ c1.o); (case side2 => exact d1.o); rintro e w' ⟨rfl, ⟨nd, rfl⟩⟩; refine ⟨_, rfl, ?_⟩) | (refine gq_ 81 (some 14) Tryz.func81 #[.slice A0 l0.length c0] (dp.calls _ _ l0 Q0 _ ?side1 ?side2 A4.o) ?_; (case side1 => exact cR_ c1.o); (case side2 => exact d1.o); rintro e w5 ⟨D0, rfl, E1, hb⟩; refine ⟨_, rfl, ?_⟩; obtain ⟨R0, HB⟩ := b_ (sZ E1 (ac (hB_))) <| c_ (ab (hB_) hb); (try clear E1)))
  go_loopg [4, 5] k (fun kq v4 v5 w' => ∃ (y0 : List Int) (B0 : Int) (f0 : Int), v4 = .int .i64 B0 ∧ v5 = .int .i64 f0 ∧ aa (aM.l0 kq y0 B0 f0 = some r) ∧ aa (kq ≤ k) ∧ aa (Kd.R (Kd.int .i64) 3 w' w.heap.size (fun _ => True) D0 y0) ∧ aa (Below w.heap.size w w'))
  case atStart => exact ⟨(Q0), (1), (128), f0_, f0_, H', ⟨Aa _⟩, ⟨rR_ R0.o⟩, ⟨hB_⟩⟩
  clear H'
  obtain ⟨y0, B0, f0, rfl, rfl, HA, N0, d0, HB⟩ := hrel
  rcases gk with _ | k1
  ·exact absurd HA.o (by simp [aM.l0])
  have H := HA.o
  clear HA
  simp only [aM.l0] at H
  by_cases c6 : f0 ≥ 2
  rotate_left
  ·rw [Ea c6] at H
   have f1 := xa c6
   clear c6
   obtain rfl := za H
   go_wp2
   go_ret
   exact ⟨_, f1_, rR_ d0.o, hB_⟩
  rw [Da c6] at H
  have f1 := wa c6
  clear c6
  have H' := c_ H
  clear H
  go_wp2
  go_loopg [4, 6] k1 (fun kq v4 v6 w' => ∃ (x0 : List Int) (n0 : Int) (p0 : Int), v4 = .int .i64 n0 ∧ v6 = .int .i64 p0 ∧ aa (aM.l1 kq x0 n0 f0 p0 = some r) ∧ aa (kq ≤ k1) ∧ aa (Kd.R (Kd.int .i64) 3 w' w.heap.size (fun _ => True) D0 x0) ∧ aa (Below w.heap.size w w'))
  case atStart => exact ⟨(y0), (B0), (0), f0_, f0_, H', ⟨Aa _⟩, ⟨rR_ d0.o⟩, ⟨hB_⟩⟩
  clear H'
  obtain ⟨x0, n0, p0, rfl, rfl, HA, O0, d0, HB⟩ := hrel
  rcases gk with _ | k2
  ·exact absurd HA.o (by simp [aM.l1])
  have H := HA.o
  clear HA
  simp only [aM.l1] at H
  by_cases c7 : p0 < 256
  rotate_left
  ·rw [Ea c7] at H
   have g1 := xa c7
   clear c7
   have H' := c_ H
   clear H
   go_wp2
   go_roundg k2
   case measure => have := N0.o; have := O0.o; omega
   case rel => exact ⟨(x0), (n0), (wrap64 (Int.tdiv f0 2)), f0_, f0_, H', ⟨by have := N0.o; have := O0.o; omega⟩, ⟨rR_ d0.o⟩, ⟨hB_⟩⟩
  rw [Da c7] at H
  have g1 := wa c7
  clear c7
  obtain ⟨E0, A8, H⟩ := bN_ H
  obtain ⟨v0, A9, H⟩ := bN_ H
  have H' := c_ H
  clear H
  go_wp2_with (first | (refine gq_ 83 (some 26) Tryz.func83 #[.int .i64 n0] (bw.calls k2 n0 E0 _ A8.o) ?_; rintro e w' ⟨rfl, ⟨nd, rfl⟩⟩; refine ⟨_, rfl, ?_⟩) | (refine gq_ 82 (some 27) Tryz.func82 #[.int .i64 17, .int .i64 E0] (bB.calls k2 17 E0 v0 _ A9.o) ?_; rintro e w' ⟨rfl, ⟨nd, rfl⟩⟩; refine ⟨_, rfl, ?_⟩))
  go_loopg [8] k2 (fun kq v8 w' => ∃ (b0 : List Int) (a0 : Int), v8 = .int .i64 a0 ∧ aa (aM.l2 kq b0 (wrap64 (n0 + 1)) f0 p0 v0 a0 = some r) ∧ aa (kq ≤ k2) ∧ aa (Kd.R (Kd.int .i64) 3 w' w.heap.size (fun _ => True) D0 b0) ∧ aa (Below w.heap.size w w'))
  case atStart => exact ⟨(x0), (p0), f0_, H', ⟨Aa _⟩, ⟨rR_ d0.o⟩, ⟨hB_⟩⟩
  clear H'
  obtain ⟨b0, a0, rfl, HA, b1, d0, HB⟩ := hrel
  rcases gk with _ | k3
  ·exact absurd HA.o (by simp [aM.l2])
  have H := HA.o
  clear HA
  simp only [aM.l2] at H
  by_cases P0 : a0 < (wrap64 (p0 + f0))
  rotate_left
  ·rw [Ea P0] at H
   have S0 := xa P0
   clear P0
   have H' := c_ H
   clear H
   go_wp2
   go_roundg k3
   case measure => have := N0.o; have := O0.o; have := b1.o; omega
   case rel => exact ⟨(b0), ((wrap64 (n0 + 1))), (wrap64 (p0 + (wrap64 (2 * f0)))), f0_, f0_, H', ⟨by have := N0.o; have := O0.o; have := b1.o; omega⟩, ⟨rR_ d0.o⟩, ⟨hB_⟩⟩
  rw [Da P0] at H
  have S0 := wa P0
  clear P0
  obtain ⟨e0, q0⟩ : ∃ j_ : Int, (wrap64 (a0 + f0)) = j_ := ⟨_, rfl⟩
  first | rw [q0] at H | simp only [q0] at H
  have i1 : (IntKind.i64.wrap (a0 + f0)) = e0 := (bv _).trans q0
  obtain ⟨F1, H⟩ := iD_ H
  obtain ⟨G1, H⟩ := iD_ H
  obtain ⟨H1, H⟩ := iD_ H
  obtain ⟨I1, H⟩ := iD_ H
  obtain ⟨F0, J1, H⟩ := bN_ H
  obtain ⟨G0, K1, H⟩ := bN_ H
  obtain ⟨j1, r0⟩ : ∃ y_ : List Int, y_ = (b0.set (a0 : Int).toNat F0) := ⟨_, rfl⟩
  first | replace H := yb_ r0 H | rw [← r0] at H
  have T0 := c_ r0
  clear r0
  obtain ⟨m1, t0⟩ : ∃ y_ : List Int, y_ = (j1.set ((e0) : Int).toNat G0) := ⟨_, rfl⟩
  first | replace H := yb_ t0 H | rw [← t0] at H
  have U0 := c_ t0
  clear t0
  have H' := c_ H
  clear H
  obtain ⟨L1, M1, n1⟩ := s7 d0.o
  subst n1
  have H0 : 0 ≤ ((e0) : Int) := oD_
  have I0 : (e0) < (b0.length : Int) := oD_
  obtain ⟨u0, p1, C0⟩ := tb (sX d0.o).2.2 (e0) H0 I0
  cases p1
  replace H0 := ya H0
  replace I0 := ya I0
  try go_wp2
  obtain ⟨d0, HB⟩ := b_ (tl d0.o) <| c_ (b8 HB.o)
  have J0 : 0 ≤ (a0 : Int) := oD_
  have K0 : a0 < (b0.length : Int) := oD_
  obtain ⟨V0, q1, j0⟩ := tb (sX d0.o).2.2 a0 J0 K0
  obtain rfl : u0 = V0 := (by injection q1)
  replace J0 := ya J0
  replace K0 := ya K0
  have L0 : 0 ≤ (a0 : Int) := oD_
  have M0 : a0 < (b0.length : Int) := oD_
  obtain ⟨W0, r1, k0⟩ := tb (sX d0.o).2.2 a0 L0 M0
  obtain rfl : u0 = W0 := (by injection r1)
  replace L0 := ya L0
  replace M0 := ya M0
  refine d9 (n := 24) (S := fun w' => w'.cell? (u0.add (a0).toNat) = some (.int .i64 (rd b0 a0)) ∧ w'.cell? (u0.add (a0).toNat) = some (.int .i64 (rd b0 a0))) (ds := [21, 23]) (bb_ 24 0) (by kernel_rfl) rfl rfl ⟨j0, k0⟩ (fun hHeld => ?_); refine cN aM.tab17 aM.bits17 (fun HT_ HW_ => ?_)
  generalize wr.drew = O1 at d0 HB j0 k0 hHeld ⊢
  refine pT_ 0 46 24 1 ?_
  refine pT_ 1 47 24 3 ?_
  refine pT_ 2 48 24 7 ?_
  refine pT_ 3 49 24 15 ?_
  refine pT_ 4 50 24 31 ?_
  refine pT_ 5 51 24 63 ?_
  refine pT_ 6 52 24 127 ?_
  refine pT_ 7 53 24 255 ?_
  refine pT_ 8 54 24 511 ?_
  refine pT_ 10 56 24 1535 ?_
  refine pT_ 13 59 24 9727 ?_
  refine pT_ 14 60 24 26111 ?_
  refine pT_ 15 61 24 58879 ?_
  refine pT_ 17 63 24 189951 ?_
  refine tS_ 9 55 (bb_ 24 190463) (bx HT_.o HW_.o (by kernel_rfl)) hHeld ?_
  refine pT_ 11 57 24 192511 ?_
  refine tS_ 16 62 (bb_ 24 258047) (bx HT_.o HW_.o (by kernel_rfl)) hHeld ?_
  refine pT_ 18 64 24 520191 ?_
  refine fC (i := 12) (N := some 58) (bb_ 24 524287) rfl rfl (cD HT_.o (by kernel_rfl)) (by decide) (fun K hK => ?_)
  refine fv Tryz.func84 (by kernel_rfl) rfl #[.int .i64 (wrap64 ((rd b0 a0) + (wrap64 (v0 * (rd b0 (e0))))))] (by rfl) rfl rfl (by (try simp only [List.map_toArray, List.map_cons, List.map_nil]); first | done | (simp only [q0]; rfl) | rfl | (simp only [List.length_drop, List.length_take]; rfl)) ?_
  with_reducible refine (bW.calls (wrap64 ((rd b0 a0) + (wrap64 (v0 * (rd b0 (e0)))))) F0 _ J1.o).mono ?_
  rintro e w' ⟨rfl, ⟨nd, rfl⟩⟩
  refine ⟨_, rfl, ?_⟩
  refine hK _ _ ⟨hHeld.1, hHeld.2⟩ (fun hHeld => ?_)
  clear hK K
  refine dL (a' := ?_) ?_ ?_
  rotate_left
  ·show Act.put _ (some 58) _ = _
   simp only [Act.put, List.setIfInBounds_toArray, List.set_cons_zero, List.set_cons_succ, bv, cG]
   rfl
  refine fC (i := 19) (N := some 65) (bb_ 24 1048575) rfl rfl (cD HT_.o (by kernel_rfl)) (by decide) (fun K hK => ?_)
  refine fv Tryz.func84 (by kernel_rfl) rfl #[.int .i64 (wrap64 ((rd b0 a0) - (wrap64 (v0 * (rd b0 (e0))))))] (by rfl) rfl rfl (by (try simp only [List.map_toArray, List.map_cons, List.map_nil]); first | done | (simp only [q0]; rfl) | rfl | (simp only [List.length_drop, List.length_take]; rfl)) ?_
  with_reducible refine (bW.calls (wrap64 ((rd b0 a0) - (wrap64 (v0 * (rd b0 (e0)))))) G0 _ K1.o).mono ?_
  rintro e w' ⟨rfl, ⟨nd, rfl⟩⟩
  refine ⟨_, rfl, ?_⟩
  have t1 : 0 ≤ (a0 : Int) := oD_
  have y1 : (a0 : Int) < ((b0.length : Int) : Int) := oD_
  obtain ⟨go18, N1, X0, Y0, gl18, cl18, HG18⟩ := tt d0.o (by omega)
  (first | cases X0 | (injection X0 with ea_ en_ ec_; (first | subst ea_ | (injection ea_ with ea_; subst ea_)); subst ec_; clear en_))
  have Z0 := c_ Y0
  have GG18 := c_ HG18
  clear Y0 gl18 HG18
  (first | simp only [b9] at C0 | skip)
  (first | simp only [b9] at j0 | skip)
  (first | simp only [b9] at k0 | skip)
  obtain ⟨z1, hf18_0⟩ := te 0 d0.o (a0 : Int) t1 y1
  replace t1 := ya t1
  replace y1 := ya y1
  have HP22 := tO d0.o (a0 : Int) F0
  rw [← T0.o] at HP22
  have HQ22 := c_ HP22
  clear HP22
  have A1 : 0 ≤ ((e0) : Int) := oD_
  have B1 : ((e0) : Int) < ((b0.length : Int) : Int) := oD_
  obtain ⟨C1, hf19_0⟩ := te 0 HQ22.o ((e0) : Int) A1 B1
  (first | simp only [aM.frozen_setCell] at hf19_0 | skip)
  replace A1 := ya A1
  replace B1 := ya B1
  have HP23 := tO HQ22.o ((e0) : Int) G0
  rw [← U0.o] at HP23
  have HQ23 := c_ HP23
  clear HP23
  refine hK _ _ ⟨hHeld.1, hHeld.2⟩ (fun hHeld => ?_)
  clear hK K
  refine dL (a' := ?_) ?_ ?_
  rotate_left
  ·show Act.put _ (some 65) _ = _
   simp only [Act.put, List.setIfInBounds_toArray, List.set_cons_zero, List.set_cons_succ, bv, cG]
   rfl
  refine pT_ 20 66 24 2097151 ?_
  refine gv (i := 21) (N := none) (bb_ 24 4194303) rfl rfl (cD HT_.o (by kernel_rfl)) (by decide) (fun K hK => ?_)
  refine iw (w1 := ?_) (by rfl) rfl ?_ ?_
  rotate_left
  ·go_simp
   rfl
  refine hK _ _ ?_
  clear hK K
  refine pT_ 22 67 24 8388607 ?_
  refine gv (i := 23) (N := none) (bb_ 24 16777215) rfl rfl (cD HT_.o (by kernel_rfl)) (by decide) (fun K hK => ?_)
  refine iw (w1 := ?_) (by rfl) rfl ?_ ?_
  rotate_left
  ·go_simp
   rfl
  refine hK _ _ ?_
  clear hK K
  refine fc (du HT_.o (by kernel_rfl)) ?_
  try go_wp2
  go_roundg k3
  case measure => have := N0.o; have := O0.o; have := b1.o; omega
  case rel => exact ⟨(m1), (wrap64 (a0 + 1)), f0_, H', ⟨by have := N0.o; have := O0.o; have := b1.o; omega⟩, ⟨rR_ HQ23.o⟩, ⟨(u0_ Z0.o Z0.o)⟩⟩
 ·replace c3 := Ca c3
  subst c3
  replace H := iF_ H
  obtain rfl := za H
  go_enter Tryz.func47, Tryz.ntmps47
  go_wp2_with (first | (refine gq_ 80 (some 11) Tryz.func80 #[.slice A0 l0.length c0] (ax.calls k _ _ l0 false _ ?side1 ?side2 A2.o) ?_; (case side1 => exact cR_ c1.o); (case side2 => exact d1.o); rintro e w' ⟨rfl, ⟨nd, rfl⟩⟩; refine ⟨_, rfl, ?_⟩))
  go_ret
  exact ⟨_, f1_, by first | exact tH _ _ _ _ _ | exact Kd.N_nil _ _ _ _ _ | exact Kd.V_nil _ _ _ _ _ | exact Kd.Q_nil _ _ _ _ _ | exact tJ _ _ _ _ _, hB_⟩
def dA.f (a0 : Int) (a1 : Int) : Option (Int) := (bV.f a1 1 11).bind fun t663 => (if t663 = true then (if 0 ≤ a1 then ((bV.f a0 0 (wrap64 ((shl .i64 1 a1) - 1))).bind fun t664 => (if t664 = true then (if 0 ≤ (wrap64 (a1 - 1)) then (some (shr .i64 (wrap64 ((wrap64 (3329 * a0)) + (shl .i64 1 (wrap64 (a1 - 1))))) a1)) else (none)) else (some 0))) else (none)) else (some 0))
theorem dA.calls (a0 : Int) (a1 : Int) (r : Int) (w : World) (h : dA.f a0 a1 = some r) :
  Calls Tryz.prog 85 #[.int .i64 a0, .int .i64 a1] w fun e w' => e = .returned (.int .i64 r) ∧ cx w w' := by
 delta dA.f at h
 have H := h
 clear h
 obtain ⟨v0, A3, H⟩ := bN_ H
 by_cases c4 : v0 = true
 ·subst c4
  replace H := iT_ H
  obtain ⟨c5, H⟩ := iN_ H
  have H0 := ya c5
  have I0 := wa c5
  clear c5
  obtain ⟨q0, f0⟩ : ∃ j_ : Int, (shl .i64 1 a1) = j_ := ⟨_, rfl⟩
  first | rw [f0] at H | simp only [f0] at H
  (try rw [f0] at A3)
  have r0 : (IntKind.i64.wrap (1 * 2 ^ min a1.toNat 64)) = q0 := f0
  have t0 : a1 ≤ 64 → (IntKind.i64.wrap (1 * 2 ^ a1.toNat)) = q0 := eX f0
  have hji6u : (IntKind.i64.wrap (2 ^ min a1.toNat 64)) = q0 := by have h_ := r0; rw [Int.one_mul] at h_; exact h_
  have hji6v : a1 ≤ 64 → (IntKind.i64.wrap (2 ^ a1.toNat)) = q0 := fun hle_ => by have h_ := t0 hle_; rw [Int.one_mul] at h_; exact h_
  have hji6y : (wrap64 (1 * 2 ^ min a1.toNat 64)) = q0 := (bv _).symm.trans r0
  have hji6x : a1 ≤ 64 → (wrap64 (1 * 2 ^ a1.toNat)) = q0 := fun h_ => (bv _).symm.trans (t0 h_)
  obtain ⟨x0, A7, H⟩ := bN_ H
  by_cases c8 : x0 = true
  ·subst c8
   replace H := iT_ H
   obtain ⟨k0, j0⟩ : ∃ j_ : Int, (wrap64 (a1 - 1)) = j_ := ⟨_, rfl⟩
   first | rw [j0] at H | simp only [j0] at H
   (try rw [j0] at A3)
   (try rw [j0] at A7)
   have D0 : (IntKind.i64.wrap (a1 - 1)) = k0 := (bv _).trans j0
   obtain ⟨y0, H⟩ := iN_ H
   have E0 := ya y0
   have F0 := wa y0
   clear y0
   obtain ⟨e0, b0⟩ : ∃ j_ : Int, (shl .i64 1 (k0)) = j_ := ⟨_, rfl⟩
   first | rw [b0] at H | simp only [b0] at H
   (try rw [b0] at A3)
   (try rw [b0] at A7)
   have n0 : (IntKind.i64.wrap (1 * 2 ^ min (k0).toNat 64)) = e0 := b0
   have p0 : (k0) ≤ 64 → (IntKind.i64.wrap (1 * 2 ^ (k0).toNat)) = e0 := eX b0
   have hji11u : (IntKind.i64.wrap (2 ^ min (k0).toNat 64)) = e0 := by have h_ := n0; rw [Int.one_mul] at h_; exact h_
   have hji11v : (k0) ≤ 64 → (IntKind.i64.wrap (2 ^ (k0).toNat)) = e0 := fun hle_ => by have h_ := p0 hle_; rw [Int.one_mul] at h_; exact h_
   have hji11y : (wrap64 (1 * 2 ^ min (k0).toNat 64)) = e0 := (bv _).symm.trans n0
   have hji11x : (k0) ≤ 64 → (wrap64 (1 * 2 ^ (k0).toNat)) = e0 := fun h_ => (bv _).symm.trans (p0 h_)
   have G0 := ya (oD_ : 0 ≤ a1)
   obtain ⟨u0, d0⟩ : ∃ j_ : Int, (shr .i64 (wrap64 ((wrap64 (3329 * a0)) + (e0))) a1) = j_ := ⟨_, rfl⟩
   first | rw [d0] at H | simp only [d0] at H
   (try rw [d0] at A3)
   (try rw [d0] at A7)
   have B0 : ((wrap64 ((wrap64 (3329 * a0)) + (e0))) / 2 ^ min a1.toNat 64) = u0 := d0
   have C0 : a1 ≤ 64 → ((wrap64 ((wrap64 (3329 * a0)) + (e0))) / 2 ^ a1.toNat) = u0 := fN d0
   obtain rfl := za H
   go_enter Tryz.func85, Tryz.ntmps85
   go_wp2_with (first | (refine gq_ 79 (some 6) Tryz.func79 #[.int .i64 a1, .int .i64 1, .int .i64 11] (bV.calls a1 1 11 true _ A3.o) ?_; rintro e w' ⟨rfl, ⟨nd, rfl⟩⟩; refine ⟨_, rfl, ?_⟩) | (go_at_call 79; (with_reducible refine (bV.calls a0 0 (wrap64 ((q0) - 1)) true _ A7.o).mono ?_); rintro e w' ⟨rfl, ⟨nd, rfl⟩⟩))
   go_ret
   exact ⟨by first | rfl | (simp; done) | (simp only [← f0, ← j0, ← b0, ← d0] <;> (first | rfl | simp)) | (simp [*]; done), d0_⟩
  ·replace c8 := Ca c8
   subst c8
   replace H := iF_ H
   obtain rfl := za H
   go_enter Tryz.func85, Tryz.ntmps85
   go_wp2_with (first | (refine gq_ 79 (some 6) Tryz.func79 #[.int .i64 a1, .int .i64 1, .int .i64 11] (bV.calls a1 1 11 true _ A3.o) ?_; rintro e w' ⟨rfl, ⟨nd, rfl⟩⟩; refine ⟨_, rfl, ?_⟩) | (go_at_call 79; (with_reducible refine (bV.calls a0 0 (wrap64 ((q0) - 1)) false _ A7.o).mono ?_); rintro e w' ⟨rfl, ⟨nd, rfl⟩⟩))
   go_ret
   exact ⟨by first | rfl | (simp; done) | (simp only [← f0] <;> (first | rfl | simp)) | (simp [*]; done), d0_⟩
 ·replace c4 := Ca c4
  subst c4
  replace H := iF_ H
  obtain rfl := za H
  go_enter Tryz.func85, Tryz.ntmps85
  go_wp2_with (first | (refine gq_ 79 (some 6) Tryz.func79 #[.int .i64 a1, .int .i64 1, .int .i64 11] (bV.calls a1 1 11 false _ A3.o) ?_; rintro e w' ⟨rfl, ⟨nd, rfl⟩⟩; refine ⟨_, rfl, ?_⟩))
  go_ret
  exact ⟨f0_, d0_⟩
def bj.l0 : Nat → Int → List Int → List Int → Int → Int → Option (List Int)
 | 0, _, _, _, _, _ => none
 | k + 1, x1, x5, x8, x9, x10 => if x10 < x9 then (if 0 ≤ x10 then (if x10 < (x8.length : Int) then ((dA.f (rd x8 x10) x1).bind fun t666 => (if x5.length < 17592186044416 then (bj.l0 k x1 (x5 ++ [t666]) x8 x9 (wrap64 (x10 + 1))) else (none))) else (none)) else (none)) else (some x5)
def bj.f (k : Nat) (l0 : List Int) (a1 : Int) : Option (List Int) := bj.l0 k a1 ([] : List Int) l0 (l0.length : Int) 0
theorem bj.mono_l : ∀ k, (∀ y0 y1 y2 y3 y4, LeO (bj.l0 k y0 y1 y2 y3 y4) (bj.l0 (k + 1) y0 y1 y2 y3 y4))
 | 0 => fun _ _ _ _ _ r h => by simp [bj.l0] at h
 | k + 1 => by
  have ih0 := bj.mono_l k
  intros; unfold bj.l0; exact o1_ ih0
theorem bj.mono : ∀ a0 a1 k, LeO (bj.f k a0 a1) (bj.f (k + 1) a0 a1) := by
 intro a0 a1 k
 have ih0 := bj.mono_l k
 unfold bj.f
 exact o1_ ih0
theorem bj.calls (k : Nat) (A0 : Option Addr) (c0 : Nat) (l0 : List Int) (a1 : Int) (r : List Int) (w : World) (hr0 : Kd.C (Kd.int .i64) w A0 l0.length l0) (hc0 : l0.length ≤ c0) (h : bj.f k l0 a1 = some r) :
  Calls Tryz.prog 48 #[.slice A0 l0.length c0, .int .i64 a1] w fun e w' => ∃ x0 : Value, e = .returned (x0) ∧ Kd.R (Kd.int .i64) 3 w' w.heap.size (fun _ => True) x0 r ∧ Below w.heap.size w w' := by
 have C0 := c_ hr0
 have H0 := c_ hc0
 clear hr0 hc0
 have HB := c_ (Ba w.heap.size w)
 delta bj.f at h
 have H := h
 clear h
 have H' := c_ H
 clear H
 go_enter Tryz.func48, Tryz.ntmps48
 go_wp2
 go_loopg [5, 10] k (fun kq v5 D0 w' => ∃ (e0 : List Int) (a0 : Int), D0 = .int .i64 a0 ∧ aa (bj.l0 kq a1 e0 l0 (l0.length : Int) a0 = some r) ∧ aa (kq ≤ k) ∧ aa (Kd.R (Kd.int .i64) 3 w' w.heap.size (fun _ => True) v5 e0) ∧ aa (Below w.heap.size w w'))
 case atStart => exact ⟨(([] : List Int)), (0), f0_, H', ⟨Aa _⟩, ⟨by first | exact tH _ _ _ _ _ | exact Kd.N_nil _ _ _ _ _ | exact Kd.V_nil _ _ _ _ _ | exact Kd.Q_nil _ _ _ _ _ | exact tJ _ _ _ _ _⟩, ⟨hB_⟩⟩
 clear H'
 obtain ⟨e0, a0, rfl, HA, y0, n0, HB⟩ := hrel
 rcases gk with _ | k1
 ·exact absurd HA.o (by simp [bj.l0])
 have H := HA.o
 clear HA
 simp only [bj.l0] at H
 by_cases c3 : a0 < (l0.length : Int)
 rotate_left
 ·rw [Ea c3] at H
  have r0 := xa c3
  clear c3
  obtain rfl := za H
  go_wp2
  go_ret
  exact ⟨_, f1_, rR_ n0.o, hB_⟩
 rw [Da c3] at H
 have r0 := wa c3
 clear c3
 obtain ⟨E0, H⟩ := iD_ H
 obtain ⟨F0, H⟩ := iD_ H
 obtain ⟨f0, A6, H⟩ := bN_ H
 obtain ⟨c7, H⟩ := iN_ H
 have t0 := c_ c7
 clear c7
 obtain ⟨u0, b0⟩ : ∃ y_ : List Int, y_ = (e0 ++ [f0]) := ⟨_, rfl⟩
 first | replace H := yb_ b0 H | rw [← b0] at H
 have p0 := c_ b0
 clear b0
 have H' := c_ H
 clear H
 have j0 : 0 ≤ (a0 : Int) := oD_
 have k0 : a0 < (l0.length : Int) := oD_
 obtain ⟨B0, v0, d0⟩ := tb C0.o a0 j0 k0
 cases v0
 replace d0 := hc_ d0
 replace j0 := ya j0
 replace k0 := ya k0
 go_wp2_with (first | (refine gq_ 85 (some 17) Tryz.func85 #[.int .i64 (rd l0 a0), .int .i64 a1] (dA.calls (rd l0 a0) a1 f0 _ A6.o) ?_; rintro e w' ⟨rfl, ⟨nd, rfl⟩⟩; refine ⟨_, rfl, ?_⟩) | ((refine aU (b := .append) (xs := #[.tmp 14, .tmp 18]) rfl ?_); at_builtin; refine tf (Kd.int .i64) (w0 := w) w.heap.size rfl (.tmp 14) (.tmp 18) 28 3 (.int .i64 0) 8 rfl Tryz.underlying28 cY rfl (by decide) (by omega) u5 e0 f0 [.int .i64 f0] (fun _ => True) (fun _ => False) rfl rfl ?aP (fun _ hk => hk.elim) ?aF ?aO ?aB ?aS ?aL ?_; (case aP => exact rfl); (case aB => exact (hB_)); (case aF => exact (fun _ _ => trivial)); (case aO => exact (rR_ n0.o)); (case aS => exact (ac (hB_))); (case aL => have := t0.o; omega); intro G0 w8 ho hb hg hat; rw [← p0.o] at ho; obtain ⟨HB, q0⟩ := b_ (hb) <| c_ (ho); clear ho hb hg hat))
 go_roundg k1
 case measure => have := y0.o; omega
 case rel => exact ⟨(u0), (wrap64 (a0 + 1)), f0_, H', ⟨by have := y0.o; omega⟩, ⟨rR_ q0.o⟩, ⟨hB_⟩⟩
def dT.f (a0 : Int) (a1 : Int) : Option (Int) := some (wrap64 (a0 - a1))
theorem dT.calls (a0 : Int) (a1 : Int) (r : Int) (w : World) (h : dT.f a0 a1 = some r) :
  Calls Tryz.prog 87 #[.int .i64 a0, .int .i64 a1] w fun e w' => e = .returned (.int .i64 r) ∧ cx w w' := by
 delta dT.f at h
 have H := h
 clear h
 obtain rfl := za H
 go_enter Tryz.func87, Tryz.ntmps87
 go_wp2
 go_ret
 exact ⟨f0_, d0_⟩
mutual
def ag.j0 : Nat → List Int → List Int → Bool → Option (List Int)
 | 0, _, _, _ => none
 | k + 1, x0, x1, x16 => if x16 = true then (some ([] : List Int)) else (if 256 ≤ 35184372088832 then ((some (List.replicate 256 0 : List Int)).bind fun y672 => (ag.l0 k x0 x1 y672 (y672.length : Int) 0)) else (none))
def ag.l0 : Nat → List Int → List Int → List Int → Int → Int → Option (List Int)
 | 0, _, _, _, _, _ => none
 | k + 1, x0, x1, x7, x19, x20 => if x20 < x19 then (if 0 ≤ x20 then (if x20 < (x0.length : Int) then (if x20 < (x1.length : Int) then ((dT.f (rd x0 x20) (rd x1 x20)).bind fun t677 => ((bW.f t677).bind fun t678 => (if x20 < (x7.length : Int) then (ag.l0 k x0 x1 (x7.set (x20 : Int).toNat t678) x19 (wrap64 (x20 + 1))) else (none)))) else (none)) else (none)) else (none)) else (some x7)
end
def ag.f (k : Nat) (l0 : List Int) (l1 : List Int) : Option (List Int) := (ax.f k l0).bind fun t670 => (if t670 = true then ((ax.f k l1).bind fun t671 => (ag.j0 k l0 l1 (!t671))) else (ag.j0 k l0 l1 true))
theorem ag.mono_l : ∀ k, (∀ y0 y1 y2, LeO (ag.j0 k y0 y1 y2) (ag.j0 (k + 1) y0 y1 y2)) ∧ (∀ y0 y1 y2 y3 y4, LeO (ag.l0 k y0 y1 y2 y3 y4) (ag.l0 (k + 1) y0 y1 y2 y3 y4))
 | 0 => ⟨fun _ _ _ r h => by simp [ag.j0] at h, fun _ _ _ _ _ r h => by simp [ag.l0] at h⟩
 | k + 1 => by
  obtain ⟨ih0, ih1⟩ := ag.mono_l k
  refine ⟨?_, ?_⟩ <;> (intros; (first | unfold ag.j0 | unfold ag.l0); exact o3_ ih0 ih1 ax.mono)
theorem ag.mono : ∀ a0 a1 k, LeO (ag.f k a0 a1) (ag.f (k + 1) a0 a1) := by
 intro a0 a1 k
 obtain ⟨ih0, ih1⟩ := ag.mono_l k
 unfold ag.f
 exact o3_ ih0 ih1 ax.mono
def ag.T7 : Bool × List (List Nat × List Nat) := (true, [([], []), ([], []), ([], []), ([], []), ([], []), ([3, 4], [3, 4]), ([5], [5]), ([], []), ([], []), ([7, 8], [7, 8]), ([9], [9]), ([2, 6, 10], [2, 6, 10]), ([11, 11], [11]), ([0, 1, 0, 1, 2, 3, 4, 5, 6, 7, 8, 9, 10, 11, 12], [0, 1]), ([13, 12, 12, 0, 1, 2, 3, 4, 5, 6, 7, 8, 9, 10, 11, 12], [12, 13])])
def ag.B7 : List Nat := [0, 0, 0, 0, 0, 24, 56, 0, 0, 384, 896, 2044, 4092, 8191, 16383]
theorem ag.tab7 : d8 .any (fb Tryz.f86 7) = ag.T7 := by kernel_rfl
theorem ag.bits7 : db ag.T7.2 ag.B7 = true := by kernel_rfl
theorem ag.calls (k : Nat) (A0 : Option Addr) (c0 : Nat) (l0 : List Int) (A1 : Option Addr) (c1 : Nat) (l1 : List Int) (r : List Int) (w : World) (hr0 : Kd.C (Kd.int .i64) w A0 l0.length l0) (hc0 : l0.length ≤ c0) (hr1 : Kd.C (Kd.int .i64) w A1 l1.length l1) (hc1 : l1.length ≤ c1) (h : ag.f k l0 l1 = some r) :
  Calls Tryz.prog 86 #[.slice A0 l0.length c0, .slice A1 l1.length c1, .func (.func 87) #[] #[]] w fun e w' => ∃ i1 : Value, e = .returned (i1) ∧ Kd.R (Kd.int .i64) 3 w' w.heap.size (fun _ => True) i1 r ∧ Below w.heap.size w w' := by
 have S0 := c_ hr0
 have j1 := c_ hc0
 clear hr0 hc0
 have m1 := c_ hr1
 have B1 := c_ hc1
 clear hr1 hc1
 have HB := c_ (Ba w.heap.size w)
 delta ag.f at h
 have H := h
 clear h
 have T0 := c_ H
 clear H
 go_enter Tryz.func86, Tryz.ntmps86
 go_upto_region 1 with (fail)
 go_cut [16] (fun C1 wc => ∃ (kq : Nat) (p0 : Bool), C1 = .bool p0 ∧ aa (ag.j0 kq l0 l1 p0 = some r) ∧ aa (kq ≤ k) ∧ aa (Below w.heap.size w wc))
 case first =>
  have H := T0.o
  clear T0
  obtain ⟨U0, A4, H⟩ := bN_ H
  by_cases c5 : U0 = true
  ·subst c5
   replace H := iT_ H
   obtain ⟨J0, A6, H⟩ := bN_ H
   have H' := c_ H
   clear H
   go_wp2_with (first | (refine gq_ 80 (some 10) Tryz.func80 #[.slice A0 l0.length c0] (ax.calls k _ _ l0 true _ ?side1 ?side2 A4.o) ?_; (case side1 => exact cR_ (tg S0.o HB.o)); (case side2 => exact j1.o); rintro e w' ⟨rfl, ⟨nd, rfl⟩⟩; refine ⟨_, rfl, ?_⟩) | (go_at_call 80; (with_reducible refine (ax.calls k _ _ l1 J0 _ ?side1 ?side2 A6.o).mono ?_); (case side1 => exact cR_ (tg m1.o (hB_))); (case side2 => exact B1.o); rintro e w' ⟨rfl, ⟨nd, rfl⟩⟩))
   go_meet
   case rel => exact ⟨_, (!J0), f0_, H', ⟨by first | omega | exact Aa _⟩, ⟨hB_⟩⟩
  ·replace c5 := Ca c5
   subst c5
   replace H := iF_ H
   have H' := c_ H
   clear H
   go_wp2_with (first | (refine gq_ 80 (some 10) Tryz.func80 #[.slice A0 l0.length c0] (ax.calls k _ _ l0 false _ ?side1 ?side2 A4.o) ?_; (case side1 => exact cR_ (tg S0.o HB.o)); (case side2 => exact j1.o); rintro e w' ⟨rfl, ⟨nd, rfl⟩⟩; refine ⟨_, rfl, ?_⟩))
   go_meet
   case rel => exact ⟨_, (true), f0_, H', ⟨by first | omega | exact Aa _⟩, ⟨hB_⟩⟩
 clear T0
 obtain ⟨kq, p0, rfl, HA, n1, HB⟩ := hcut
 rcases kq with _ | p1
 ·exact absurd HA.o (by simp [ag.j0])
 have H := HA.o
 clear HA
 simp only [ag.j0] at H
 by_cases c7 : p0 = true
 ·subst c7
  replace H := iT_ H
  obtain rfl := za H
  go_wp2
  go_ret
  exact ⟨_, f1_, by first | exact tH _ _ _ _ _ | exact Kd.N_nil _ _ _ _ _ | exact Kd.V_nil _ _ _ _ _ | exact Kd.Q_nil _ _ _ _ _ | exact tJ _ _ _ _ _, hB_⟩
 ·replace c7 := Ca c7
  subst c7
  replace H := iF_ H
  obtain ⟨c8, H⟩ := iN_ H
  have D1 := ya c8
  have E1 := wa c8
  clear c8
  obtain ⟨x0, q0⟩ : ∃ y_ : List Int, y_ = (List.replicate 256 0) := ⟨_, rfl⟩
  first | replace H := yb_ q0 H | rw [← q0] at H
  have y0 := c_ q0
  clear q0
  have H' := c_ H
  clear H
  go_wp2_with (first | ((refine aI (N := 17) rfl ?_); refine tw (Kd.int .i64) _ 3 rfl (N := 17) rfl 28 _ _ rfl 256 rfl rfl Tryz.underlying28 (.int .i64 0) 8 cY rfl (by decide) (by omega) 0 (ok := fun _ => True) (okp := fun _ => True) rfl (fun _ hk => hk) trivial (by omega) (by omega) (Ba _ _) (Aa _) ?_; intro F1 w9 t0 hb hg_ hnew_; clear hg_ hnew_; (first | rw [← y0.o] at t0 | (simp only [Int.reduceToNat] at t0; rw [← y0.o] at t0)); obtain ⟨B0, HB⟩ := b_ (sZ t0 (ac (hB_))) <| c_ (ab (hB_) hb); clear hb t0; obtain ⟨V0, W0, X0⟩ := s7 B0.o; subst X0))
  go_loopg [20] p1 (fun kq G1 w' => ∃ (u0 : List Int) (a0 : Int), G1 = .int .i64 a0 ∧ aa (ag.l0 kq l0 l1 u0 (x0.length : Int) a0 = some r) ∧ aa (kq ≤ p1) ∧ aa (Kd.R (Kd.int .i64) 3 w' w.heap.size (fun _ => True) (.slice V0 x0.length W0) u0) ∧ aa (Below w.heap.size w w'))
  case atStart => exact ⟨(x0), (0), f0_, H', ⟨Aa _⟩, ⟨rR_ B0.o⟩, ⟨hB_⟩⟩
  clear H'
  obtain ⟨u0, a0, rfl, HA, q1, f0, HB⟩ := hrel
  have b0 := (sX f0.o).1
  rw [b0] at f0
  (try simp only [b0])
  rcases gk with _ | k2
  ·exact absurd HA.o (by simp [ag.l0])
  have H := HA.o
  clear HA
  simp only [ag.l0] at H
  by_cases I0 : a0 < (x0.length : Int)
  rotate_left
  ·rw [Ea I0] at H
   have v0 := xa I0
   (try simp only [b0] at v0)
   clear I0
   obtain rfl := za H
   go_wp2
   go_ret
   exact ⟨_, f1_, rR_ f0.o, hB_⟩
  rw [Da I0] at H
  have v0 := wa I0
  (try simp only [b0] at v0)
  clear I0
  obtain ⟨r1, H⟩ := iD_ H
  obtain ⟨t1, H⟩ := iN_ H
  have K0 := wa t1
  (try simp only [b0] at K0)
  clear t1
  obtain ⟨y1, H⟩ := iN_ H
  have L0 := wa y1
  (try simp only [b0] at L0)
  clear y1
  obtain ⟨C0, H1, H⟩ := bN_ H
  obtain ⟨D0, I1, H⟩ := bN_ H
  obtain ⟨z1, H⟩ := iN_ H
  have M0 := wa z1
  (try simp only [b0] at M0)
  clear z1
  obtain ⟨Y0, r0⟩ : ∃ y_ : List Int, y_ = (u0.set (a0 : Int).toNat D0) := ⟨_, rfl⟩
  first | replace H := yb_ r0 H | rw [← r0] at H
  have N0 := c_ r0
  clear r0
  have H' := c_ H
  clear H
  try go_wp2
  obtain ⟨f0, HB⟩ := b_ (tl f0.o) <| c_ (b8 HB.o)
  have E0 : 0 ≤ (a0 : Int) := oD_
  have F0 : a0 < (l0.length : Int) := oD_
  obtain ⟨O0, Z0, d0⟩ := tb S0.o a0 E0 F0
  have k0 := d0
  cases Z0
  replace d0 := hc_ d0
  replace E0 := ya E0
  replace F0 := ya F0
  have G0 : 0 ≤ (a0 : Int) := oD_
  have H0 : a0 < (l1.length : Int) := oD_
  obtain ⟨P0, b1, e0⟩ := tb m1.o a0 G0 H0
  have n0 := e0
  cases b1
  replace e0 := hc_ e0
  replace G0 := ya G0
  replace H0 := ya H0
  refine d9 (n := 15) (S := fun w' => w'.cell? (O0.add (a0).toNat) = some (.int .i64 (rd l0 a0)) ∧ w'.cell? (P0.add (a0).toNat) = some (.int .i64 (rd l1 a0))) (ds := [14]) (bb_ 15 0) (by kernel_rfl) rfl rfl ⟨(hc_ k0), (hc_ n0)⟩ (fun hHeld => ?_); refine cN ag.tab7 ag.bits7 (fun HT_ HW_ => ?_)
  generalize wr.drew = K1 at f0 HB d0 e0 hHeld ⊢
  refine pT_ 0 23 15 1 ?_
  refine pT_ 1 24 15 3 ?_
  refine pT_ 2 25 15 7 ?_
  refine pT_ 3 26 15 15 ?_
  refine pT_ 4 27 15 31 ?_
  refine pT_ 5 28 15 63 ?_
  refine pT_ 7 30 15 191 ?_
  refine pT_ 8 31 15 447 ?_
  refine pT_ 9 32 15 959 ?_
  refine tS_ 6 29 (bb_ 15 1023) (bx HT_.o HW_.o (by kernel_rfl)) hHeld ?_
  refine tS_ 10 33 (bb_ 15 2047) (bx HT_.o HW_.o (by kernel_rfl)) hHeld ?_
  refine fC (i := 11) (N := some 34) (bb_ 15 4095) rfl rfl (cD HT_.o (by kernel_rfl)) (by decide) (fun K hK => ?_)
  refine Go.Proofs.YtooanbpkknlmjaaGreatDoor.Kit.goesW_ (.tmp 25) Tryz.func87 (by kernel_rfl) rfl #[.int .i64 (rd l0 a0), .int .i64 (rd l1 a0)] (by rfl) rfl rfl aM_ (by first | rfl | (simp; done)) ?_
  with_reducible refine (dT.calls (rd l0 a0) (rd l1 a0) C0 _ H1.o).mono ?_
  rintro e w' ⟨rfl, ⟨nd, rfl⟩⟩
  refine ⟨_, rfl, ?_⟩
  refine hK _ _ ⟨(hc_ k0), (hc_ n0)⟩ (fun hHeld => ?_)
  clear hK K
  refine dL (a' := ?_) ?_ ?_
  rotate_left
  ·show Act.put _ (some 34) _ = _
   simp only [Act.put, List.setIfInBounds_toArray, List.set_cons_zero, List.set_cons_succ, bv, cG]
   rfl
  refine fC (i := 12) (N := some 35) (bb_ 15 8191) rfl rfl (cD HT_.o (by kernel_rfl)) (by decide) (fun K hK => ?_)
  refine fv Tryz.func84 (by kernel_rfl) rfl #[.int .i64 C0] (by rfl) rfl rfl aM_ ?_
  with_reducible refine (bW.calls C0 D0 _ I1.o).mono ?_
  rintro e w' ⟨rfl, ⟨nd, rfl⟩⟩
  refine ⟨_, rfl, ?_⟩
  have d1 : 0 ≤ (a0 : Int) := oD_
  have e1 : (a0 : Int) < ((u0.length : Int) : Int) := oD_
  obtain ⟨go19, J1, Q0, R0, gl19, cl19, HG19⟩ := tt f0.o (by omega)
  (first | cases Q0 | (injection Q0 with ea_ en_ ec_; (first | subst ea_ | (injection ea_ with ea_; subst ea_)); subst ec_; clear en_))
  have f1 := c_ R0
  have GG19 := c_ HG19
  clear R0 gl19 HG19
  obtain ⟨g1, hf19_0⟩ := te 0 f0.o (a0 : Int) d1 e1
  replace d1 := ya d1
  replace e1 := ya e1
  have HP21 := tO f0.o (a0 : Int) D0
  rw [← N0.o] at HP21
  have HQ21 := c_ HP21
  clear HP21
  refine hK _ _ ⟨(hc_ k0), (hc_ n0)⟩ (fun hHeld => ?_)
  clear hK K
  refine dL (a' := ?_) ?_ ?_
  rotate_left
  ·show Act.put _ (some 35) _ = _
   simp only [Act.put, List.setIfInBounds_toArray, List.set_cons_zero, List.set_cons_succ, bv, cG]
   rfl
  refine pT_ 13 36 15 16383 ?_
  refine gv (i := 14) (N := none) (bb_ 15 32767) rfl rfl (cD HT_.o (by kernel_rfl)) (by decide) (fun K hK => ?_)
  refine iw (w1 := ?_) (by rfl) rfl ?_ ?_
  rotate_left
  ·go_simp
   rfl
  refine hK _ _ ?_
  clear hK K
  refine fc (du HT_.o (by kernel_rfl)) ?_
  try go_wp2
  (try simp only [← b0])
  go_roundg k2
  case measure => have := n1.o; have := q1.o; omega
  case rel => exact ⟨(Y0), (wrap64 (a0 + 1)), f0_, H', ⟨by have := n1.o; have := q1.o; omega⟩, ⟨by (try simp only [b0]); refine kR_ ?_; exact HQ21.o⟩, ⟨hS_ f1.o⟩⟩
def cp.f (k : Nat) (l0 : List Int) (l1 : List Int) : Option (List Int) := (ag.f k l0 l1).bind fun t680 => (some t680)
theorem cp.mono : ∀ a0 a1 k, LeO (cp.f k a0 a1) (cp.f (k + 1) a0 a1) := by
 intro a0 a1 k
 unfold cp.f
 exact o1_ ag.mono
theorem cp.calls (k : Nat) (A0 : Option Addr) (c0 : Nat) (l0 : List Int) (A1 : Option Addr) (c1 : Nat) (l1 : List Int) (r : List Int) (w : World) (hr0 : Kd.C (Kd.int .i64) w A0 l0.length l0) (hc0 : l0.length ≤ c0) (hr1 : Kd.C (Kd.int .i64) w A1 l1.length l1) (hc1 : l1.length ≤ c1) (h : cp.f k l0 l1 = some r) :
  Calls Tryz.prog 49 #[.slice A0 l0.length c0, .slice A1 l1.length c1] w fun e w' => ∃ d0 : Value, e = .returned (d0) ∧ Kd.R (Kd.int .i64) 3 w' w.heap.size (fun _ => True) d0 r ∧ Below w.heap.size w w' := by
 have f0 := c_ hr0
 have j0 := c_ hc0
 clear hr0 hc0
 have k0 := c_ hr1
 have n0 := c_ hc1
 clear hr1 hc1
 have HB := c_ (Ba w.heap.size w)
 delta cp.f at h
 have H := h
 clear h
 obtain ⟨b0, A3, H⟩ := bN_ H
 obtain rfl := za H
 go_enter Tryz.func49, Tryz.ntmps49
 go_wp2_with (first | (refine gq_ 86 (some 7) Tryz.func86 #[.slice A0 l0.length c0, .slice A1 l1.length c1, .func (.func 87) #[] #[]] (ag.calls k _ _ l0 _ _ l1 b0 _ ?side1 ?side2 ?side3 ?side4 A3.o) ?_; (case side1 => exact cR_ f0.o); (case side2 => exact j0.o); (case side3 => exact cR_ k0.o); (case side4 => exact n0.o); rintro e w4 ⟨p0, rfl, e0, hb⟩; refine ⟨_, rfl, ?_⟩; obtain ⟨a0, HB⟩ := b_ (sZ e0 (ac (hB_))) <| c_ (ab (hB_) hb); (try clear e0)))
 go_ret
 exact ⟨_, f1_, rR_ a0.o, hB_⟩
theorem ai.cell_setCell_drewN (w : World) (n : Nat) (a b : Addr) (v : Value) : ((w.drewN n).setCell a v).cell? b = (w.setCell a v).cell? b := rfl
theorem ai.frozen_setCell (w : World) (a b : Addr) (v : Value) : (w.setCell a v).frozen? b = w.frozen? b := World.frozen?_setCell w a b v
attribute [local go_sem] ai.cell_setCell_drewN
mutual
def ai.l0 : Nat → List Int → Int → Int → Option (List Int)
 | 0, _, _, _ => none
 | k + 1, x3, x4, x5 => if x5 ≤ 128 then (ai.l1 k x3 x4 x5 0) else (ai.l3 k x3 (x3.length : Int) 0)
def ai.l1 : Nat → List Int → Int → Int → Int → Option (List Int)
 | 0, _, _, _, _ => none
 | k + 1, x3, x4, x5, x6 => if x6 < 256 then ((bw.f k x4).bind fun t687 => ((bB.f k 17 t687).bind fun t688 => (ai.l2 k x3 (wrap64 (x4 - 1)) x5 x6 t688 x6))) else (ai.l0 k x3 x4 (wrap64 (x5 * 2)))
def ai.l2 : Nat → List Int → Int → Int → Int → Int → Int → Option (List Int)
 | 0, _, _, _, _, _, _ => none
 | k + 1, x3, x4, x5, x6, x7, x8 => if x8 < (wrap64 (x6 + x5)) then (if 0 ≤ x8 then (if x8 < (x3.length : Int) then (if 0 ≤ (wrap64 (x8 + x5)) then (if (wrap64 (x8 + x5)) < (x3.length : Int) then ((bW.f (wrap64 ((rd x3 x8) + (rd x3 (wrap64 (x8 + x5)))))).bind fun t691 => ((bW.f (wrap64 (x7 * (wrap64 ((rd x3 (wrap64 (x8 + x5))) - (rd x3 x8)))))).bind fun t693 => (ai.l2 k ((x3.set (x8 : Int).toNat t691).set ((wrap64 (x8 + x5)) : Int).toNat t693) x4 x5 x6 x7 (wrap64 (x8 + 1))))) else (none)) else (none)) else (none)) else (none)) else (ai.l1 k x3 x4 x5 (wrap64 (x6 + (wrap64 (2 * x5)))))
def ai.l3 : Nat → List Int → Int → Int → Option (List Int)
 | 0, _, _, _ => none
 | k + 1, x3, x72, x73 => if x73 < x72 then (if 0 ≤ x73 then (if x73 < (x3.length : Int) then ((bW.f (wrap64 ((rd x3 x73) * 3303))).bind fun t697 => (ai.l3 k (x3.set (x73 : Int).toNat t697) x72 (wrap64 (x73 + 1)))) else (none)) else (none)) else (some x3)
end
def ai.f (k : Nat) (l0 : List Int) : Option (List Int) := (ax.f k l0).bind fun t683 => (if t683 = true then ((dp.f l0).bind fun t684 => (ai.l0 k t684 127 2)) else (some ([] : List Int)))
theorem ai.mono_l : ∀ k, (∀ y0 y1 y2, LeO (ai.l0 k y0 y1 y2) (ai.l0 (k + 1) y0 y1 y2)) ∧ (∀ y0 y1 y2 y3, LeO (ai.l1 k y0 y1 y2 y3) (ai.l1 (k + 1) y0 y1 y2 y3)) ∧ (∀ y0 y1 y2 y3 y4 y5, LeO (ai.l2 k y0 y1 y2 y3 y4 y5) (ai.l2 (k + 1) y0 y1 y2 y3 y4 y5)) ∧ (∀ y0 y1 y2, LeO (ai.l3 k y0 y1 y2) (ai.l3 (k + 1) y0 y1 y2))
 | 0 => ⟨fun _ _ _ r h => by simp [ai.l0] at h, fun _ _ _ _ r h => by simp [ai.l1] at h, fun _ _ _ _ _ _ r h => by simp [ai.l2] at h, fun _ _ _ r h => by simp [ai.l3] at h⟩
 | k + 1 => by
  obtain ⟨ih0, ih1, ih2, ih3⟩ := ai.mono_l k
  refine ⟨?_, ?_, ?_, ?_⟩ <;> (intros; (first | unfold ai.l0 | unfold ai.l1 | unfold ai.l2 | unfold ai.l3); exact o7_ ih0 ih1 ih2 ih3 ax.mono bB.mono bw.mono)
theorem ai.mono : ∀ a0 k, LeO (ai.f k a0) (ai.f (k + 1) a0) := by
 intro a0 k
 obtain ⟨ih0, ih1, ih2, ih3⟩ := ai.mono_l k
 unfold ai.f
 exact o7_ ih0 ih1 ih2 ih3 ax.mono bB.mono bw.mono
def ai.T17 : Bool × List (List Nat × List Nat) := (true, [([], []), ([], []), ([], []), ([], []), ([], []), ([3, 4], [3, 4]), ([], []), ([], []), ([], []), ([], []), ([8, 9], [8, 9]), ([7, 10], [7, 10]), ([11], [11]), ([6, 12], [6, 12]), ([13], [13]), ([], []), ([], []), ([], []), ([], []), ([17, 18], [17, 18]), ([16, 19], [16, 19]), ([20], [20]), ([], []), ([21, 22], [21, 22]), ([15, 23], [15, 23]), ([24, 14], [24]), ([0, 1, 0, 1, 6, 7, 8, 9, 10, 11, 12, 13, 14, 21, 25], [0, 1]), ([26, 14, 25, 0, 1, 6, 7, 8, 9, 10, 11, 12, 13, 14, 21, 25], [14, 26]), ([2, 5, 0, 1, 2, 3, 4, 5, 6, 7, 8, 9, 10, 11, 12, 13, 14, 15, 16, 17, 18, 19, 20, 21, 22, 23, 24, 25, 26, 27], [2, 5]), ([28, 25, 27, 0, 1, 2, 3, 4, 5, 6, 7, 8, 9, 10, 11, 12, 13, 14, 15, 16, 17, 18, 19, 20, 21, 22, 23, 24, 25, 26, 27], [25, 28])])
def ai.B17 : List Nat := [0, 0, 0, 0, 0, 24, 0, 0, 0, 0, 768, 1920, 3968, 8128, 16320, 0, 0, 0, 0, 393216, 983040, 2031616, 0, 8323072, 16744448, 33554368, 67108803, 134217667, 268435455, 536870911]
theorem ai.tab17 : d8 .any (fb Tryz.f50 17) = ai.T17 := by kernel_rfl
theorem ai.bits17 : db ai.T17.2 ai.B17 = true := by kernel_rfl
theorem ai.calls (k : Nat) (A0 : Option Addr) (c0 : Nat) (l0 : List Int) (r : List Int) (w : World) (hr0 : Kd.C (Kd.int .i64) w A0 l0.length l0) (hc0 : l0.length ≤ c0) (h : ai.f k l0 = some r) :
  Calls Tryz.prog 50 #[.slice A0 l0.length c0] w fun e w' => ∃ d2 : Value, e = .returned (d2) ∧ Kd.R (Kd.int .i64) 3 w' w.heap.size (fun _ => True) d2 r ∧ Below w.heap.size w w' := by
 have B1 := c_ hr0
 have C1 := c_ hc0
 clear hr0 hc0
 have HB := c_ (Ba w.heap.size w)
 delta ai.f at h
 have H := h
 clear h
 obtain ⟨D1, A2, H⟩ := bN_ H
 by_cases c3 : D1 = true
 ·subst c3
  replace H := iT_ H
  obtain ⟨b1, A4, H⟩ := bN_ H
  have H' := c_ H
  clear H
  go_enter Tryz.func50, Tryz.ntmps50
  go_wp2_with (first | (refine gq_ 80 (some 12) Tryz.func80 #[.slice A0 l0.length c0] (ax.calls k _ _ l0 true _ ?side1 ?side2 A2.o) ?_; (case side1 => exact cR_ B1.o); (case side2 => exact C1.o); rintro e w' ⟨rfl, ⟨nd, rfl⟩⟩; refine ⟨_, rfl, ?_⟩) | (refine gq_ 81 (some 15) Tryz.func81 #[.slice A0 l0.length c0] (dp.calls _ _ l0 b1 _ ?side1 ?side2 A4.o) ?_; (case side1 => exact cR_ B1.o); (case side2 => exact C1.o); rintro e w5 ⟨L0, rfl, e2, hb⟩; refine ⟨_, rfl, ?_⟩; obtain ⟨c1, HB⟩ := b_ (sZ e2 (ac (hB_))) <| c_ (ab (hB_) hb); (try clear e2)))
  go_loopg [4, 5] k (fun kq v4 v5 w' => ∃ (r0 : List Int) (E0 : Int) (k0 : Int), v4 = .int .i64 E0 ∧ v5 = .int .i64 k0 ∧ aa (ai.l0 kq r0 E0 k0 = some r) ∧ aa (kq ≤ k) ∧ aa (Kd.R (Kd.int .i64) 3 w' w.heap.size (fun _ => True) L0 r0) ∧ aa (Below w.heap.size w w'))
  case atStart => exact ⟨(b1), (127), (2), f0_, f0_, H', ⟨Aa _⟩, ⟨rR_ c1.o⟩, ⟨hB_⟩⟩
  clear H'
  obtain ⟨r0, E0, k0, rfl, rfl, HA, K0, a0, HB⟩ := hrel
  rcases gk with _ | k1
  ·exact absurd HA.o (by simp [ai.l0])
  have H := HA.o
  clear HA
  simp only [ai.l0] at H
  by_cases c6 : k0 ≤ 128
  rotate_left
  ·rw [Ea c6] at H
   have E1 := xa c6
   clear c6
   have H' := c_ H
   clear H
   obtain ⟨F1, M0, G1⟩ := s7 a0.o
   subst G1
   go_wp2
   go_loopg [73] k1 (fun kq q2 w' => ∃ (j0 : List Int) (b0 : Int), q2 = .int .i64 b0 ∧ aa (ai.l3 kq j0 (r0.length : Int) b0 = some r) ∧ aa (kq ≤ k1) ∧ aa (Kd.R (Kd.int .i64) 3 w' w.heap.size (fun _ => True) (.slice F1 r0.length M0) j0) ∧ aa (Below w.heap.size w w'))
   case atStart => exact ⟨(r0), (0), f0_, H', ⟨Aa _⟩, ⟨rR_ a0.o⟩, ⟨hB_⟩⟩
   clear H'
   obtain ⟨j0, b0, rfl, HA, F0, a0, HB⟩ := hrel
   have n0 := (sX a0.o).1
   rw [n0] at a0
   (try simp only [n0])
   rcases gk with _ | k2
   ·exact absurd HA.o (by simp [ai.l3])
   have H := HA.o
   clear HA
   simp only [ai.l3] at H
   by_cases Y0 : b0 < (r0.length : Int)
   rotate_left
   ·rw [Ea Y0] at H
    have D0 := xa Y0
    (try simp only [n0] at D0)
    clear Y0
    obtain rfl := za H
    go_wp2
    go_ret
    exact ⟨_, f1_, rR_ a0.o, hB_⟩
   rw [Da Y0] at H
   have D0 := wa Y0
   (try simp only [n0] at D0)
   clear Y0
   obtain ⟨f2, H⟩ := iD_ H
   obtain ⟨g2, H⟩ := iN_ H
   have d1 := wa g2
   (try simp only [n0] at d1)
   clear g2
   obtain ⟨G0, r2, H⟩ := bN_ H
   obtain ⟨e1, x0⟩ : ∃ y_ : List Int, y_ = (j0.set (b0 : Int).toNat G0) := ⟨_, rfl⟩
   first | replace H := yb_ x0 H | rw [← x0] at H
   have f1 := c_ x0
   clear x0
   have H' := c_ H
   clear H
   have N0 : 0 ≤ (b0 : Int) := oD_
   have O0 : b0 < (j0.length : Int) := oD_
   obtain ⟨g1, H1, H0⟩ := tb (sX a0.o).2.2 b0 N0 O0
   cases H1
   replace N0 := ya N0
   replace O0 := ya O0
   go_wp2_with (first | (refine gq_ 84 (some 83) Tryz.func84 #[.int .i64 (wrap64 ((rd j0 b0) * 3303))] (bW.calls (wrap64 ((rd j0 b0) * 3303)) G0 _ r2.o) ?_; rintro e w' ⟨rfl, ⟨nd, rfl⟩⟩; refine ⟨_, rfl, ?_⟩; (try (rw [da wr]; generalize hq_ : World.drewN wr _ = wr; obtain ⟨a0, HB⟩ := b_ (show Kd.R (Kd.int .i64) 3 wr w.heap.size (fun _ => True) (.slice (some g1) j0.length M0) j0 from by rw [← hq_]; exact (rR_ a0.o)) <| c_ (show Below w.heap.size w wr from by rw [← hq_]; exact (hB_)))); have I1 : 0 ≤ (b0 : Int) := oD_; have J1 : (b0 : Int) < ((j0.length : Int) : Int) := oD_; obtain ⟨go29, t2, i1, j1, gl29, cl29, HG29⟩ := tt a0.o (by omega); (first | cases i1 | (injection i1 with ea_ en_ ec_; (first | subst ea_ | (injection ea_ with ea_; subst ea_)); subst ec_; clear en_)); have K1 := c_ j1; have GG29 := c_ HG29; clear j1 gl29 HG29; (first | simp only [b9] at H0 | skip); obtain ⟨L1, hf29_0⟩ := te 0 a0.o (b0 : Int) I1 J1; replace I1 := ya I1; replace J1 := ya J1; obtain ⟨i2, hz30_⟩ := te 0 a0.o (b0 : Int) oD_ oD_; have HP30 := tm a0.o (b0 : Int) G0) | ((refine cn (t := 3) (p := 84) rfl ?_); refine ce (t := 3) (p := 84) (v := ?vo_w31) (w1 := (wr.setCell ⟨go29, (b0 : Int).toNat, none⟩ (.int .i64 G0))) ?hg ?ho ?hn ?hr ?_; (case ho => rfl); (case hg => rfl); (case hn => rfl); (case hr => first | (go_simp; done) | (go_simp; rfl)); intro M1 hw; have hg : wr.grownBy M1 (some go29) := (by rw [hw]; exact HP30.2); have hp_ : Kd.R (Kd.int .i64) 3 M1 w.heap.size (fun _ => True) (.slice (some ⟨go29, 0, none⟩) j0.length M0) e1 := (by rw [hw, f1.o]; exact HP30.1); clear HP30; obtain ⟨a0, HB⟩ := b_ (hp_) <| c_ (by rw [hw]; exact cq (HB.o) K1.o : Below w.heap.size w M1); clear hg hw hp_))
   (try simp only [← n0])
   go_roundg k2
   case measure => have := K0.o; have := F0.o; omega
   case rel => exact ⟨(e1), (wrap64 (b0 + 1)), f0_, H', ⟨by have := K0.o; have := F0.o; omega⟩, ⟨by (try simp only [n0]); refine kR_ ?_; exact a0.o⟩, ⟨hB_⟩⟩
  rw [Da c6] at H
  have E1 := wa c6
  clear c6
  have H' := c_ H
  clear H
  go_wp2
  go_loopg [4, 6] k1 (fun kq v4 v6 w' => ∃ (j0 : List Int) (t0 : Int) (u0 : Int), v4 = .int .i64 t0 ∧ v6 = .int .i64 u0 ∧ aa (ai.l1 kq j0 t0 k0 u0 = some r) ∧ aa (kq ≤ k1) ∧ aa (Kd.R (Kd.int .i64) 3 w' w.heap.size (fun _ => True) L0 j0) ∧ aa (Below w.heap.size w w'))
  case atStart => exact ⟨(r0), (E0), (0), f0_, f0_, H', ⟨Aa _⟩, ⟨rR_ a0.o⟩, ⟨hB_⟩⟩
  clear H'
  obtain ⟨j0, t0, u0, rfl, rfl, HA, F0, a0, HB⟩ := hrel
  rcases gk with _ | k2
  ·exact absurd HA.o (by simp [ai.l1])
  have H := HA.o
  clear HA
  simp only [ai.l1] at H
  by_cases c7 : u0 < 256
  rotate_left
  ·rw [Ea c7] at H
   have N1 := xa c7
   clear c7
   have H' := c_ H
   clear H
   go_wp2
   go_roundg k2
   case measure => have := K0.o; have := F0.o; omega
   case rel => exact ⟨(j0), (t0), (wrap64 (k0 * 2)), f0_, f0_, H', ⟨by have := K0.o; have := F0.o; omega⟩, ⟨rR_ a0.o⟩, ⟨hB_⟩⟩
  rw [Da c7] at H
  have N1 := wa c7
  clear c7
  obtain ⟨P0, A8, H⟩ := bN_ H
  obtain ⟨I0, A9, H⟩ := bN_ H
  have H' := c_ H
  clear H
  go_wp2_with (first | (refine gq_ 83 (some 27) Tryz.func83 #[.int .i64 t0] (bw.calls k2 t0 P0 _ A8.o) ?_; rintro e w' ⟨rfl, ⟨nd, rfl⟩⟩; refine ⟨_, rfl, ?_⟩) | (refine gq_ 82 (some 28) Tryz.func82 #[.int .i64 17, .int .i64 P0] (bB.calls k2 17 P0 I0 _ A9.o) ?_; rintro e w' ⟨rfl, ⟨nd, rfl⟩⟩; refine ⟨_, rfl, ?_⟩))
  go_loopg [8] k2 (fun kq v8 w' => ∃ (d0 : List Int) (f0 : Int), v8 = .int .i64 f0 ∧ aa (ai.l2 kq d0 (wrap64 (t0 - 1)) k0 u0 I0 f0 = some r) ∧ aa (kq ≤ k2) ∧ aa (Kd.R (Kd.int .i64) 3 w' w.heap.size (fun _ => True) L0 d0) ∧ aa (Below w.heap.size w w'))
  case atStart => exact ⟨(j0), (u0), f0_, H', ⟨Aa _⟩, ⟨rR_ a0.o⟩, ⟨hB_⟩⟩
  clear H'
  obtain ⟨d0, f0, rfl, HA, A1, a0, HB⟩ := hrel
  rcases gk with _ | k3
  ·exact absurd HA.o (by simp [ai.l2])
  have H := HA.o
  clear HA
  simp only [ai.l2] at H
  by_cases Z0 : f0 < (wrap64 (u0 + k0))
  rotate_left
  ·rw [Ea Z0] at H
   have m1 := xa Z0
   clear Z0
   have H' := c_ H
   clear H
   go_wp2
   go_roundg k3
   case measure => have := K0.o; have := F0.o; have := A1.o; omega
   case rel => exact ⟨(d0), ((wrap64 (t0 - 1))), (wrap64 (u0 + (wrap64 (2 * k0)))), f0_, f0_, H', ⟨by have := K0.o; have := F0.o; have := A1.o; omega⟩, ⟨rR_ a0.o⟩, ⟨hB_⟩⟩
  rw [Da Z0] at H
  have m1 := wa Z0
  clear Z0
  obtain ⟨j2, H⟩ := iD_ H
  obtain ⟨m2, H⟩ := iD_ H
  obtain ⟨e0, v0⟩ : ∃ j_ : Int, (wrap64 (f0 + k0)) = j_ := ⟨_, rfl⟩
  first | rw [v0] at H | simp only [v0] at H
  have O1 : (IntKind.i64.wrap (f0 + k0)) = e0 := (bv _).trans v0
  obtain ⟨n2, H⟩ := iD_ H
  obtain ⟨p2, H⟩ := iD_ H
  obtain ⟨Q0, u2, H⟩ := bN_ H
  obtain ⟨R0, v2, H⟩ := bN_ H
  obtain ⟨P1, y0⟩ : ∃ y_ : List Int, y_ = (d0.set (f0 : Int).toNat Q0) := ⟨_, rfl⟩
  first | replace H := yb_ y0 H | rw [← y0] at H
  have n1 := c_ y0
  clear y0
  obtain ⟨Q1, B0⟩ : ∃ y_ : List Int, y_ = (P1.set ((e0) : Int).toNat R0) := ⟨_, rfl⟩
  first | replace H := yb_ B0 H | rw [← B0] at H
  have p1 := c_ B0
  clear B0
  have H' := c_ H
  clear H
  obtain ⟨y2, z2, R1⟩ := s7 a0.o
  subst R1
  have S0 : 0 ≤ (f0 : Int) := oD_
  have T0 : f0 < (d0.length : Int) := oD_
  obtain ⟨C0, S1, J0⟩ := tb (sX a0.o).2.2 f0 S0 T0
  cases S1
  replace S0 := ya S0
  replace T0 := ya T0
  try go_wp2
  obtain ⟨a0, HB⟩ := b_ (tl a0.o) <| c_ (b8 HB.o)
  have U0 : 0 ≤ ((e0) : Int) := oD_
  have V0 : (e0) < (d0.length : Int) := oD_
  obtain ⟨q1, T1, p0⟩ := tb (sX a0.o).2.2 (e0) U0 V0
  obtain rfl : C0 = q1 := (by injection T1)
  replace U0 := ya U0
  replace V0 := ya V0
  have W0 : 0 ≤ ((e0) : Int) := oD_
  have X0 : (e0) < (d0.length : Int) := oD_
  obtain ⟨r1, U1, q0⟩ := tb (sX a0.o).2.2 (e0) W0 X0
  obtain rfl : C0 = r1 := (by injection U1)
  replace W0 := ya W0
  replace X0 := ya X0
  refine d9 (n := 30) (S := fun w' => w'.cell? (C0.add ((e0)).toNat) = some (.int .i64 (rd d0 (e0))) ∧ w'.cell? (C0.add ((e0)).toNat) = some (.int .i64 (rd d0 (e0)))) (ds := [27, 29]) (bb_ 30 0) (by kernel_rfl) rfl rfl ⟨p0, q0⟩ (fun hHeld => ?_); refine cN ai.tab17 ai.bits17 (fun HT_ HW_ => ?_)
  generalize wr.drew = C2 at a0 HB p0 q0 hHeld ⊢
  refine pT_ 0 43 30 1 ?_
  refine pT_ 1 44 30 3 ?_
  refine pT_ 2 45 30 7 ?_
  refine pT_ 3 46 30 15 ?_
  refine pT_ 4 47 30 31 ?_
  refine pT_ 5 48 30 63 ?_
  refine pT_ 6 49 30 127 ?_
  refine pT_ 7 50 30 255 ?_
  refine pT_ 8 51 30 511 ?_
  refine pT_ 9 52 30 1023 ?_
  refine pT_ 10 53 30 2047 ?_
  refine pT_ 11 54 30 4095 ?_
  refine pT_ 15 58 30 36863 ?_
  refine pT_ 16 59 30 102399 ?_
  refine pT_ 17 60 30 233471 ?_
  refine pT_ 18 61 30 495615 ?_
  refine pT_ 19 62 30 1019903 ?_
  refine pT_ 20 63 30 2068479 ?_
  refine pT_ 22 65 30 6262783 ?_
  refine tS_ 12 55 (bb_ 30 6266879) (bx HT_.o HW_.o (by kernel_rfl)) hHeld ?_
  refine pT_ 13 56 30 6275071 ?_
  refine tS_ 21 64 (bb_ 30 8372223) (bx HT_.o HW_.o (by kernel_rfl)) hHeld ?_
  refine pT_ 23 66 30 16760831 ?_
  refine pT_ 24 67 30 33538047 ?_
  refine fC (i := 14) (N := some 57) (bb_ 30 33554431) rfl rfl (cD HT_.o (by kernel_rfl)) (by decide) (fun K hK => ?_)
  refine fv Tryz.func84 (by kernel_rfl) rfl #[.int .i64 (wrap64 ((rd d0 f0) + (rd d0 (e0))))] (by rfl) rfl rfl (by (try simp only [List.map_toArray, List.map_cons, List.map_nil]); first | done | (simp only [v0]; rfl) | rfl | (simp only [List.length_drop, List.length_take]; rfl)) ?_
  with_reducible refine (bW.calls (wrap64 ((rd d0 f0) + (rd d0 (e0)))) Q0 _ u2.o).mono ?_
  rintro e w' ⟨rfl, ⟨nd, rfl⟩⟩
  refine ⟨_, rfl, ?_⟩
  refine hK _ _ ⟨hHeld.1, hHeld.2⟩ (fun hHeld => ?_)
  clear hK K
  refine dL (a' := ?_) ?_ ?_
  rotate_left
  ·show Act.put _ (some 57) _ = _
   simp only [Act.put, List.setIfInBounds_toArray, List.set_cons_zero, List.set_cons_succ, bv, cG]
   rfl
  refine fC (i := 25) (N := some 68) (bb_ 30 67108863) rfl rfl (cD HT_.o (by kernel_rfl)) (by decide) (fun K hK => ?_)
  refine fv Tryz.func84 (by kernel_rfl) rfl #[.int .i64 (wrap64 (I0 * (wrap64 ((rd d0 (e0)) - (rd d0 f0)))))] (by rfl) rfl rfl (by (try simp only [List.map_toArray, List.map_cons, List.map_nil]); first | done | (simp only [v0]; rfl) | rfl | (simp only [List.length_drop, List.length_take]; rfl)) ?_
  with_reducible refine (bW.calls (wrap64 (I0 * (wrap64 ((rd d0 (e0)) - (rd d0 f0))))) R0 _ v2.o).mono ?_
  rintro e w' ⟨rfl, ⟨nd, rfl⟩⟩
  refine ⟨_, rfl, ?_⟩
  have V1 : 0 ≤ (f0 : Int) := oD_
  have X1 : (f0 : Int) < ((d0.length : Int) : Int) := oD_
  obtain ⟨go18, B2, t1, y1, gl18, cl18, HG18⟩ := tt a0.o (by omega)
  (first | cases t1 | (injection t1 with ea_ en_ ec_; (first | subst ea_ | (injection ea_ with ea_; subst ea_)); subst ec_; clear en_))
  have z1 := c_ y1
  have GG18 := c_ HG18
  clear y1 gl18 HG18
  (first | simp only [b9] at J0 | skip)
  (first | simp only [b9] at p0 | skip)
  (first | simp only [b9] at q0 | skip)
  obtain ⟨Y1, hf18_0⟩ := te 0 a0.o (f0 : Int) V1 X1
  replace V1 := ya V1
  replace X1 := ya X1
  have HP22 := tO a0.o (f0 : Int) Q0
  rw [← n1.o] at HP22
  have HQ22 := c_ HP22
  clear HP22
  have Z1 : 0 ≤ ((e0) : Int) := oD_
  have b2 : ((e0) : Int) < ((d0.length : Int) : Int) := oD_
  obtain ⟨c2, hf19_0⟩ := te 0 HQ22.o ((e0) : Int) Z1 b2
  (first | simp only [ai.frozen_setCell] at hf19_0 | skip)
  replace Z1 := ya Z1
  replace b2 := ya b2
  have HP23 := tO HQ22.o ((e0) : Int) R0
  rw [← p1.o] at HP23
  have HQ23 := c_ HP23
  clear HP23
  refine hK _ _ ⟨hHeld.1, hHeld.2⟩ (fun hHeld => ?_)
  clear hK K
  refine dL (a' := ?_) ?_ ?_
  rotate_left
  ·show Act.put _ (some 68) _ = _
   simp only [Act.put, List.setIfInBounds_toArray, List.set_cons_zero, List.set_cons_succ, bv, cG]
   rfl
  refine pT_ 26 69 30 134217727 ?_
  refine gv (i := 27) (N := none) (bb_ 30 268435455) rfl rfl (cD HT_.o (by kernel_rfl)) (by decide) (fun K hK => ?_)
  refine iw (w1 := ?_) (by rfl) rfl ?_ ?_
  rotate_left
  ·go_simp
   rfl
  refine hK _ _ ?_
  clear hK K
  refine pT_ 28 70 30 536870911 ?_
  refine gv (i := 29) (N := none) (bb_ 30 1073741823) rfl rfl (cD HT_.o (by kernel_rfl)) (by decide) (fun K hK => ?_)
  refine iw (w1 := ?_) (by rfl) rfl ?_ ?_
  rotate_left
  ·go_simp
   rfl
  refine hK _ _ ?_
  clear hK K
  refine fc (du HT_.o (by kernel_rfl)) ?_
  try go_wp2
  go_roundg k3
  case measure => have := K0.o; have := F0.o; have := A1.o; omega
  case rel => exact ⟨(Q1), (wrap64 (f0 + 1)), f0_, H', ⟨by have := K0.o; have := F0.o; have := A1.o; omega⟩, ⟨rR_ HQ23.o⟩, ⟨(u0_ z1.o z1.o)⟩⟩
 ·replace c3 := Ca c3
  subst c3
  replace H := iF_ H
  obtain rfl := za H
  go_enter Tryz.func50, Tryz.ntmps50
  go_wp2_with (first | (refine gq_ 80 (some 12) Tryz.func80 #[.slice A0 l0.length c0] (ax.calls k _ _ l0 false _ ?side1 ?side2 A2.o) ?_; (case side1 => exact cR_ B1.o); (case side2 => exact C1.o); rintro e w' ⟨rfl, ⟨nd, rfl⟩⟩; refine ⟨_, rfl, ?_⟩))
  go_ret
  exact ⟨_, f1_, by first | exact tH _ _ _ _ _ | exact Kd.N_nil _ _ _ _ _ | exact Kd.V_nil _ _ _ _ _ | exact Kd.Q_nil _ _ _ _ _ | exact tJ _ _ _ _ _, hB_⟩
def dS.f (a0 : Int) (a1 : Int) : Option (Int) := some (wrap64 (a0 + a1))
theorem dS.calls (a0 : Int) (a1 : Int) (r : Int) (w : World) (h : dS.f a0 a1 = some r) :
  Calls Tryz.prog 89 #[.int .i64 a0, .int .i64 a1] w fun e w' => e = .returned (.int .i64 r) ∧ cx w w' := by
 delta dS.f at h
 have H := h
 clear h
 obtain rfl := za H
 go_enter Tryz.func89, Tryz.ntmps89
 go_wp2
 go_ret
 exact ⟨f0_, d0_⟩
mutual
def ah.j0 : Nat → List Int → List Int → Bool → Option (List Int)
 | 0, _, _, _ => none
 | k + 1, x0, x1, x16 => if x16 = true then (some ([] : List Int)) else (if 256 ≤ 35184372088832 then ((some (List.replicate 256 0 : List Int)).bind fun y701 => (ah.l0 k x0 x1 y701 (y701.length : Int) 0)) else (none))
def ah.l0 : Nat → List Int → List Int → List Int → Int → Int → Option (List Int)
 | 0, _, _, _, _, _ => none
 | k + 1, x0, x1, x7, x19, x20 => if x20 < x19 then (if 0 ≤ x20 then (if x20 < (x0.length : Int) then (if x20 < (x1.length : Int) then ((dS.f (rd x0 x20) (rd x1 x20)).bind fun t706 => ((bW.f t706).bind fun t707 => (if x20 < (x7.length : Int) then (ah.l0 k x0 x1 (x7.set (x20 : Int).toNat t707) x19 (wrap64 (x20 + 1))) else (none)))) else (none)) else (none)) else (none)) else (some x7)
end
def ah.f (k : Nat) (l0 : List Int) (l1 : List Int) : Option (List Int) := (ax.f k l0).bind fun t699 => (if t699 = true then ((ax.f k l1).bind fun t700 => (ah.j0 k l0 l1 (!t700))) else (ah.j0 k l0 l1 true))
theorem ah.mono_l : ∀ k, (∀ y0 y1 y2, LeO (ah.j0 k y0 y1 y2) (ah.j0 (k + 1) y0 y1 y2)) ∧ (∀ y0 y1 y2 y3 y4, LeO (ah.l0 k y0 y1 y2 y3 y4) (ah.l0 (k + 1) y0 y1 y2 y3 y4))
 | 0 => ⟨fun _ _ _ r h => by simp [ah.j0] at h, fun _ _ _ _ _ r h => by simp [ah.l0] at h⟩
 | k + 1 => by
  obtain ⟨ih0, ih1⟩ := ah.mono_l k
  refine ⟨?_, ?_⟩ <;> (intros; (first | unfold ah.j0 | unfold ah.l0); exact o3_ ih0 ih1 ax.mono)
theorem ah.mono : ∀ a0 a1 k, LeO (ah.f k a0 a1) (ah.f (k + 1) a0 a1) := by
 intro a0 a1 k
 obtain ⟨ih0, ih1⟩ := ah.mono_l k
 unfold ah.f
 exact o3_ ih0 ih1 ax.mono
def ah.T7 : Bool × List (List Nat × List Nat) := (true, [([], []), ([], []), ([], []), ([], []), ([], []), ([3, 4], [3, 4]), ([5], [5]), ([], []), ([], []), ([7, 8], [7, 8]), ([9], [9]), ([2, 6, 10], [2, 6, 10]), ([11, 11], [11]), ([0, 1, 0, 1, 2, 3, 4, 5, 6, 7, 8, 9, 10, 11, 12], [0, 1]), ([13, 12, 12, 0, 1, 2, 3, 4, 5, 6, 7, 8, 9, 10, 11, 12], [12, 13])])
def ah.B7 : List Nat := [0, 0, 0, 0, 0, 24, 56, 0, 0, 384, 896, 2044, 4092, 8191, 16383]
theorem ah.tab7 : d8 .any (fb Tryz.f86 7) = ah.T7 := by kernel_rfl
theorem ah.bits7 : db ah.T7.2 ah.B7 = true := by kernel_rfl
theorem ah.calls (k : Nat) (A0 : Option Addr) (c0 : Nat) (l0 : List Int) (A1 : Option Addr) (c1 : Nat) (l1 : List Int) (r : List Int) (w : World) (hr0 : Kd.C (Kd.int .i64) w A0 l0.length l0) (hc0 : l0.length ≤ c0) (hr1 : Kd.C (Kd.int .i64) w A1 l1.length l1) (hc1 : l1.length ≤ c1) (h : ah.f k l0 l1 = some r) :
  Calls Tryz.prog 86 #[.slice A0 l0.length c0, .slice A1 l1.length c1, .func (.func 89) #[] #[]] w fun e w' => ∃ i1 : Value, e = .returned (i1) ∧ Kd.R (Kd.int .i64) 3 w' w.heap.size (fun _ => True) i1 r ∧ Below w.heap.size w w' := by
 have S0 := c_ hr0
 have j1 := c_ hc0
 clear hr0 hc0
 have m1 := c_ hr1
 have B1 := c_ hc1
 clear hr1 hc1
 have HB := c_ (Ba w.heap.size w)
 delta ah.f at h
 have H := h
 clear h
 have T0 := c_ H
 clear H
 go_enter Tryz.func86, Tryz.ntmps86
 go_upto_region 1 with (fail)
 go_cut [16] (fun C1 wc => ∃ (kq : Nat) (p0 : Bool), C1 = .bool p0 ∧ aa (ah.j0 kq l0 l1 p0 = some r) ∧ aa (kq ≤ k) ∧ aa (Below w.heap.size w wc))
 case first =>
  have H := T0.o
  clear T0
  obtain ⟨U0, A4, H⟩ := bN_ H
  by_cases c5 : U0 = true
  ·subst c5
   replace H := iT_ H
   obtain ⟨J0, A6, H⟩ := bN_ H
   have H' := c_ H
   clear H
   go_wp2_with (first | (refine gq_ 80 (some 10) Tryz.func80 #[.slice A0 l0.length c0] (ax.calls k _ _ l0 true _ ?side1 ?side2 A4.o) ?_; (case side1 => exact cR_ (tg S0.o HB.o)); (case side2 => exact j1.o); rintro e w' ⟨rfl, ⟨nd, rfl⟩⟩; refine ⟨_, rfl, ?_⟩) | (go_at_call 80; (with_reducible refine (ax.calls k _ _ l1 J0 _ ?side1 ?side2 A6.o).mono ?_); (case side1 => exact cR_ (tg m1.o (hB_))); (case side2 => exact B1.o); rintro e w' ⟨rfl, ⟨nd, rfl⟩⟩))
   go_meet
   case rel => exact ⟨_, (!J0), f0_, H', ⟨by first | omega | exact Aa _⟩, ⟨hB_⟩⟩
  ·replace c5 := Ca c5
   subst c5
   replace H := iF_ H
   have H' := c_ H
   clear H
   go_wp2_with (first | (refine gq_ 80 (some 10) Tryz.func80 #[.slice A0 l0.length c0] (ax.calls k _ _ l0 false _ ?side1 ?side2 A4.o) ?_; (case side1 => exact cR_ (tg S0.o HB.o)); (case side2 => exact j1.o); rintro e w' ⟨rfl, ⟨nd, rfl⟩⟩; refine ⟨_, rfl, ?_⟩))
   go_meet
   case rel => exact ⟨_, (true), f0_, H', ⟨by first | omega | exact Aa _⟩, ⟨hB_⟩⟩
 clear T0
 obtain ⟨kq, p0, rfl, HA, n1, HB⟩ := hcut
 rcases kq with _ | p1
 ·exact absurd HA.o (by simp [ah.j0])
 have H := HA.o
 clear HA
 simp only [ah.j0] at H
 by_cases c7 : p0 = true
 ·subst c7
  replace H := iT_ H
  obtain rfl := za H
  go_wp2
  go_ret
  exact ⟨_, f1_, by first | exact tH _ _ _ _ _ | exact Kd.N_nil _ _ _ _ _ | exact Kd.V_nil _ _ _ _ _ | exact Kd.Q_nil _ _ _ _ _ | exact tJ _ _ _ _ _, hB_⟩
 ·replace c7 := Ca c7
  subst c7
  replace H := iF_ H
  obtain ⟨c8, H⟩ := iN_ H
  have D1 := ya c8
  have E1 := wa c8
  clear c8
  obtain ⟨x0, q0⟩ : ∃ y_ : List Int, y_ = (List.replicate 256 0) := ⟨_, rfl⟩
  first | replace H := yb_ q0 H | rw [← q0] at H
  have y0 := c_ q0
  clear q0
  have H' := c_ H
  clear H
  go_wp2_with (first | ((refine aI (N := 17) rfl ?_); refine tw (Kd.int .i64) _ 3 rfl (N := 17) rfl 28 _ _ rfl 256 rfl rfl Tryz.underlying28 (.int .i64 0) 8 cY rfl (by decide) (by omega) 0 (ok := fun _ => True) (okp := fun _ => True) rfl (fun _ hk => hk) trivial (by omega) (by omega) (Ba _ _) (Aa _) ?_; intro F1 w9 t0 hb hg_ hnew_; clear hg_ hnew_; (first | rw [← y0.o] at t0 | (simp only [Int.reduceToNat] at t0; rw [← y0.o] at t0)); obtain ⟨B0, HB⟩ := b_ (sZ t0 (ac (hB_))) <| c_ (ab (hB_) hb); clear hb t0; obtain ⟨V0, W0, X0⟩ := s7 B0.o; subst X0))
  go_loopg [20] p1 (fun kq G1 w' => ∃ (u0 : List Int) (a0 : Int), G1 = .int .i64 a0 ∧ aa (ah.l0 kq l0 l1 u0 (x0.length : Int) a0 = some r) ∧ aa (kq ≤ p1) ∧ aa (Kd.R (Kd.int .i64) 3 w' w.heap.size (fun _ => True) (.slice V0 x0.length W0) u0) ∧ aa (Below w.heap.size w w'))
  case atStart => exact ⟨(x0), (0), f0_, H', ⟨Aa _⟩, ⟨rR_ B0.o⟩, ⟨hB_⟩⟩
  clear H'
  obtain ⟨u0, a0, rfl, HA, q1, f0, HB⟩ := hrel
  have b0 := (sX f0.o).1
  rw [b0] at f0
  (try simp only [b0])
  rcases gk with _ | k2
  ·exact absurd HA.o (by simp [ah.l0])
  have H := HA.o
  clear HA
  simp only [ah.l0] at H
  by_cases I0 : a0 < (x0.length : Int)
  rotate_left
  ·rw [Ea I0] at H
   have v0 := xa I0
   (try simp only [b0] at v0)
   clear I0
   obtain rfl := za H
   go_wp2
   go_ret
   exact ⟨_, f1_, rR_ f0.o, hB_⟩
  rw [Da I0] at H
  have v0 := wa I0
  (try simp only [b0] at v0)
  clear I0
  obtain ⟨r1, H⟩ := iD_ H
  obtain ⟨t1, H⟩ := iN_ H
  have K0 := wa t1
  (try simp only [b0] at K0)
  clear t1
  obtain ⟨y1, H⟩ := iN_ H
  have L0 := wa y1
  (try simp only [b0] at L0)
  clear y1
  obtain ⟨C0, H1, H⟩ := bN_ H
  obtain ⟨D0, I1, H⟩ := bN_ H
  obtain ⟨z1, H⟩ := iN_ H
  have M0 := wa z1
  (try simp only [b0] at M0)
  clear z1
  obtain ⟨Y0, r0⟩ : ∃ y_ : List Int, y_ = (u0.set (a0 : Int).toNat D0) := ⟨_, rfl⟩
  first | replace H := yb_ r0 H | rw [← r0] at H
  have N0 := c_ r0
  clear r0
  have H' := c_ H
  clear H
  try go_wp2
  obtain ⟨f0, HB⟩ := b_ (tl f0.o) <| c_ (b8 HB.o)
  have E0 : 0 ≤ (a0 : Int) := oD_
  have F0 : a0 < (l0.length : Int) := oD_
  obtain ⟨O0, Z0, d0⟩ := tb S0.o a0 E0 F0
  have k0 := d0
  cases Z0
  replace d0 := hc_ d0
  replace E0 := ya E0
  replace F0 := ya F0
  have G0 : 0 ≤ (a0 : Int) := oD_
  have H0 : a0 < (l1.length : Int) := oD_
  obtain ⟨P0, b1, e0⟩ := tb m1.o a0 G0 H0
  have n0 := e0
  cases b1
  replace e0 := hc_ e0
  replace G0 := ya G0
  replace H0 := ya H0
  refine d9 (n := 15) (S := fun w' => w'.cell? (O0.add (a0).toNat) = some (.int .i64 (rd l0 a0)) ∧ w'.cell? (P0.add (a0).toNat) = some (.int .i64 (rd l1 a0))) (ds := [14]) (bb_ 15 0) (by kernel_rfl) rfl rfl ⟨(hc_ k0), (hc_ n0)⟩ (fun hHeld => ?_); refine cN ah.tab7 ah.bits7 (fun HT_ HW_ => ?_)
  generalize wr.drew = K1 at f0 HB d0 e0 hHeld ⊢
  refine pT_ 0 23 15 1 ?_
  refine pT_ 1 24 15 3 ?_
  refine pT_ 2 25 15 7 ?_
  refine pT_ 3 26 15 15 ?_
  refine pT_ 4 27 15 31 ?_
  refine pT_ 5 28 15 63 ?_
  refine pT_ 7 30 15 191 ?_
  refine pT_ 8 31 15 447 ?_
  refine pT_ 9 32 15 959 ?_
  refine tS_ 6 29 (bb_ 15 1023) (bx HT_.o HW_.o (by kernel_rfl)) hHeld ?_
  refine tS_ 10 33 (bb_ 15 2047) (bx HT_.o HW_.o (by kernel_rfl)) hHeld ?_
  refine fC (i := 11) (N := some 34) (bb_ 15 4095) rfl rfl (cD HT_.o (by kernel_rfl)) (by decide) (fun K hK => ?_)
  refine Go.Proofs.YtooanbpkknlmjaaGreatDoor.Kit.goesW_ (.tmp 25) Tryz.func89 (by kernel_rfl) rfl #[.int .i64 (rd l0 a0), .int .i64 (rd l1 a0)] (by rfl) rfl rfl aM_ (by first | rfl | (simp; done)) ?_
  with_reducible refine (dS.calls (rd l0 a0) (rd l1 a0) C0 _ H1.o).mono ?_
  rintro e w' ⟨rfl, ⟨nd, rfl⟩⟩
  refine ⟨_, rfl, ?_⟩
  refine hK _ _ ⟨(hc_ k0), (hc_ n0)⟩ (fun hHeld => ?_)
  clear hK K
  refine dL (a' := ?_) ?_ ?_
  rotate_left
  ·show Act.put _ (some 34) _ = _
   simp only [Act.put, List.setIfInBounds_toArray, List.set_cons_zero, List.set_cons_succ, bv, cG]
   rfl
  refine fC (i := 12) (N := some 35) (bb_ 15 8191) rfl rfl (cD HT_.o (by kernel_rfl)) (by decide) (fun K hK => ?_)
  refine fv Tryz.func84 (by kernel_rfl) rfl #[.int .i64 C0] (by rfl) rfl rfl aM_ ?_
  with_reducible refine (bW.calls C0 D0 _ I1.o).mono ?_
  rintro e w' ⟨rfl, ⟨nd, rfl⟩⟩
  refine ⟨_, rfl, ?_⟩
  have d1 : 0 ≤ (a0 : Int) := oD_
  have e1 : (a0 : Int) < ((u0.length : Int) : Int) := oD_
  obtain ⟨go19, J1, Q0, R0, gl19, cl19, HG19⟩ := tt f0.o (by omega)
  (first | cases Q0 | (injection Q0 with ea_ en_ ec_; (first | subst ea_ | (injection ea_ with ea_; subst ea_)); subst ec_; clear en_))
  have f1 := c_ R0
  have GG19 := c_ HG19
  clear R0 gl19 HG19
  obtain ⟨g1, hf19_0⟩ := te 0 f0.o (a0 : Int) d1 e1
  replace d1 := ya d1
  replace e1 := ya e1
  have HP21 := tO f0.o (a0 : Int) D0
  rw [← N0.o] at HP21
  have HQ21 := c_ HP21
  clear HP21
  refine hK _ _ ⟨(hc_ k0), (hc_ n0)⟩ (fun hHeld => ?_)
  clear hK K
  refine dL (a' := ?_) ?_ ?_
  rotate_left
  ·show Act.put _ (some 35) _ = _
   simp only [Act.put, List.setIfInBounds_toArray, List.set_cons_zero, List.set_cons_succ, bv, cG]
   rfl
  refine pT_ 13 36 15 16383 ?_
  refine gv (i := 14) (N := none) (bb_ 15 32767) rfl rfl (cD HT_.o (by kernel_rfl)) (by decide) (fun K hK => ?_)
  refine iw (w1 := ?_) (by rfl) rfl ?_ ?_
  rotate_left
  ·go_simp
   rfl
  refine hK _ _ ?_
  clear hK K
  refine fc (du HT_.o (by kernel_rfl)) ?_
  try go_wp2
  (try simp only [← b0])
  go_roundg k2
  case measure => have := n1.o; have := q1.o; omega
  case rel => exact ⟨(Y0), (wrap64 (a0 + 1)), f0_, H', ⟨by have := n1.o; have := q1.o; omega⟩, ⟨by (try simp only [b0]); refine kR_ ?_; exact HQ21.o⟩, ⟨hS_ f1.o⟩⟩
def bK.f (k : Nat) (l0 : List Int) (l1 : List Int) : Option (List Int) := (ah.f k l0 l1).bind fun t709 => (some t709)
theorem bK.mono : ∀ a0 a1 k, LeO (bK.f k a0 a1) (bK.f (k + 1) a0 a1) := by
 intro a0 a1 k
 unfold bK.f
 exact o1_ ah.mono
theorem bK.calls (k : Nat) (A0 : Option Addr) (c0 : Nat) (l0 : List Int) (A1 : Option Addr) (c1 : Nat) (l1 : List Int) (r : List Int) (w : World) (hr0 : Kd.C (Kd.int .i64) w A0 l0.length l0) (hc0 : l0.length ≤ c0) (hr1 : Kd.C (Kd.int .i64) w A1 l1.length l1) (hc1 : l1.length ≤ c1) (h : bK.f k l0 l1 = some r) :
  Calls Tryz.prog 56 #[.slice A0 l0.length c0, .slice A1 l1.length c1] w fun e w' => ∃ d0 : Value, e = .returned (d0) ∧ Kd.R (Kd.int .i64) 3 w' w.heap.size (fun _ => True) d0 r ∧ Below w.heap.size w w' := by
 have f0 := c_ hr0
 have j0 := c_ hc0
 clear hr0 hc0
 have k0 := c_ hr1
 have n0 := c_ hc1
 clear hr1 hc1
 have HB := c_ (Ba w.heap.size w)
 delta bK.f at h
 have H := h
 clear h
 obtain ⟨b0, A3, H⟩ := bN_ H
 obtain rfl := za H
 go_enter Tryz.func56, Tryz.ntmps56
 go_wp2_with (first | (refine gq_ 86 (some 7) Tryz.func86 #[.slice A0 l0.length c0, .slice A1 l1.length c1, .func (.func 89) #[] #[]] (ah.calls k _ _ l0 _ _ l1 b0 _ ?side1 ?side2 ?side3 ?side4 A3.o) ?_; (case side1 => exact cR_ f0.o); (case side2 => exact j0.o); (case side3 => exact cR_ k0.o); (case side4 => exact n0.o); rintro e w4 ⟨p0, rfl, e0, hb⟩; refine ⟨_, rfl, ?_⟩; obtain ⟨a0, HB⟩ := b_ (sZ e0 (ac (hB_))) <| c_ (ab (hB_) hb); (try clear e0)))
 go_ret
 exact ⟨_, f1_, rR_ a0.o, hB_⟩
end Go.Proofs.YtooanbpkknlmjaaGreatDoor.P
