-- printed texts of this session, regrouped
import Derived.Test.YtmdlpmddljbkeaaGreatDoorPx4
namespace Go.Proofs.YtmdlpmddljbkeaaGreatDoor.P
open Go.RowKit YtmdlpmddljbkeaaGreatDoorW.PrintWords YtmdlpmddljbkeaaGreatDoorW.PrintLast YtmdlpmddljbkeaaGreatDoorW.PrintMore
open Kd
attribute [local go_sem] d3 dW eG eI dD dC dZ dY
set_option linter.unusedVariables false
set_option linter.unusedSimpArgs false
set_option maxHeartbeats 8000000
set_option maxRecDepth 100000
mutual
def aQ.l0 : Nat → List Int → Int → Int → Option (ByteArray × Bool)
 | 0, _, _, _ => none
 | k + 1, x0, x1, x6 => if x6 < (x0.length : Int) then (if 0 ≤ x6 then ((ay.f k x1).bind fun t573 => ((aX.f (rd x0 x6) 0 (wrap64 (t573 - 1))).bind fun t574 => (if t574 = true then (aQ.l0 k x0 x1 (wrap64 (x6 + 1))) else (some ((⟨#[]⟩ : ByteArray), false))))) else (none)) else (aQ.l1 k x0 x1 (([] : List Int)) 0 0 0)
def aQ.l1 : Nat → List Int → Int → List Int → Int → Int → Int → Option (ByteArray × Bool)
 | 0, _, _, _, _, _, _ => none
 | k + 1, x0, x1, x7, x8, x9, x10 => if x10 < (x0.length : Int) then (if 0 ≤ x10 then ((ay.f k x9).bind fun t582 => (aQ.l2 k x0 x1 x7 (wrap64 (x8 + (wrap64 ((rd x0 x10) * t582)))) (wrap64 (x9 + x1)) x10)) else (none)) else (if x9 > 0 then (if x7.length < 140737488355328 then (some (strOfNums (x7 ++ [(x8) % 256]), true)) else (none)) else (some (strOfNums x7, true)))
def aQ.l2 : Nat → List Int → Int → List Int → Int → Int → Int → Option (ByteArray × Bool)
 | 0, _, _, _, _, _, _ => none
 | k + 1, x0, x1, x7, x8, x9, x10 => if x9 ≥ 8 then (if x7.length < 140737488355328 then (aQ.l2 k x0 x1 (x7 ++ [(Int.tmod x8 256) % 256]) (wrap64 (Int.tdiv x8 256)) (wrap64 (x9 - 8)) x10) else (none)) else (aQ.l1 k x0 x1 x7 x8 x9 (wrap64 (x10 + 1)))
end
def aQ.f (k : Nat) (l0 : List Int) (a1 : Int) : Option (ByteArray × Bool) := (aX.f a1 1 12).bind fun t571 => (if t571 = true then (aQ.l0 k l0 a1 0) else (some ((⟨#[]⟩ : ByteArray), false)))
theorem aQ.mono_l : ∀ k, (∀ y0 y1 y2, LeO (aQ.l0 k y0 y1 y2) (aQ.l0 (k + 1) y0 y1 y2)) ∧ (∀ y0 y1 y2 y3 y4 y5, LeO (aQ.l1 k y0 y1 y2 y3 y4 y5) (aQ.l1 (k + 1) y0 y1 y2 y3 y4 y5)) ∧ (∀ y0 y1 y2 y3 y4 y5, LeO (aQ.l2 k y0 y1 y2 y3 y4 y5) (aQ.l2 (k + 1) y0 y1 y2 y3 y4 y5))
 | 0 => ⟨fun _ _ _ r h => by simp [aQ.l0] at h, fun _ _ _ _ _ _ r h => by simp [aQ.l1] at h, fun _ _ _ _ _ _ r h => by simp [aQ.l2] at h⟩
 | k + 1 => by
  obtain ⟨ih0, ih1, ih2⟩ := aQ.mono_l k
  refine ⟨?_, ?_, ?_⟩ <;> (intros; (first | unfold aQ.l0 | unfold aQ.l1 | unfold aQ.l2); exact o4_ ih0 ih1 ih2 ay.mono)
theorem aQ.mono : ∀ a0 a1 k, LeO (aQ.f k a0 a1) (aQ.f (k + 1) a0 a1) := by
 intro a0 a1 k
 obtain ⟨ih0, ih1, ih2⟩ := aQ.mono_l k
 unfold aQ.f
 exact o4_ ih0 ih1 ih2 ay.mono
theorem aQ.calls (k : Nat) (A0 : Option Addr) (c0 : Nat) (l0 : List Int) (a1 : Int) (r1 : ByteArray) (r2 : Bool) (w : World) (hr0 : Kd.C (Kd.int .i64) w A0 l0.length l0) (hc0 : l0.length ≤ c0) (h : aQ.f k l0 a1 = some (r1, r2)) :
  Calls Tryz.prog 62 #[.slice A0 l0.length c0, .int .i64 a1] w fun e w' => e = .returned (.tuple #[.string r1, .bool r2]) ∧ Below w.heap.size w w' := by
 have Z0 := c_ hr0
 have J1 := c_ hc0
 clear hr0 hc0
 have HB := c_ (Da w.heap.size w)
 delta aQ.f at h
 have H := h
 clear h
 obtain ⟨b1, A3, H⟩ := bN_ H
 by_cases c4 : b1 = true
 ·subst c4
  replace H := iT_ H
  have H' := c_ H
  clear H
  go_enter Tryz.func62, Tryz.ntmps62
  go_wp2_with (first | (go_at_call 97; refine mp_ (aX.calls _ _ _ _ _ A3.o) fun nd => ?_; (try exact dD_)))
  repeat (go_quiet (first | (go_at_call 97; refine mp_ (aX.calls _ _ _ _ _ A3.o) fun nd => ?_; (try exact dD_))); try go_wp2)
  go_loopg [6] k (fun kq v6 w' => ∃ (d0 : Int), v6 = .int .i64 d0 ∧ aa (aQ.l0 kq l0 a1 d0 = some (r1, r2)) ∧ aa (kq ≤ k) ∧ aa (Below w.heap.size w w'))
  case atStart => exact ⟨(0), f0_, H', ⟨Ca _⟩, ⟨hB_⟩⟩
  clear H'
  obtain ⟨d0, rfl, HA, O0, HB⟩ := hrel
  rcases gk with _ | k1
  ·exact absurd HA.o (by simp [aQ.l0])
  have H := HA.o
  clear HA
  simp only [aQ.l0] at H
  by_cases c5 : d0 < (l0.length : Int)
  ·rw [Fa c5] at H
   have c1 := ya c5
   clear c5
   obtain ⟨C1, H⟩ := iD_ H
   obtain ⟨D1, A7, H⟩ := bN_ H
   obtain ⟨e1, A8, H⟩ := bN_ H
   by_cases c9 : e1 = true
   ·subst c9
    replace H := iT_ H
    have H' := c_ H
    clear H
    have f0 : 0 ≤ (d0 : Int) := oD_
    have j0 : d0 < (l0.length : Int) := oD_
    obtain ⟨S0, L0, b0⟩ := uZ Z0.o d0 f0 j0
    cases L0
    replace b0 := hc_ b0
    replace f0 := Aa f0
    replace j0 := Aa j0
    go_wp2_with (first | (go_at_call 98; refine mp_ (ay.calls _ _ _ _ A7.o) fun nd => ?_; (try exact dD_)) | (go_at_call 97; refine mp_ (aX.calls _ _ _ _ _ A8.o) fun nd => ?_; (try exact dD_)))
    repeat (go_quiet (first | (go_at_call 98; refine mp_ (ay.calls _ _ _ _ A7.o) fun nd => ?_; (try exact dD_)) | (go_at_call 97; refine mp_ (aX.calls _ _ _ _ _ A8.o) fun nd => ?_; (try exact dD_))); try go_wp2)
    go_roundg k1
    case measure => have := O0.o; omega
    case rel => exact ⟨(wrap64 (d0 + 1)), f0_, H', ⟨by have := O0.o; omega⟩, ⟨hB_⟩⟩
   ·replace c9 := Ea c9
    subst c9
    replace H := iF_ H
    simp only [Option.some.injEq, Prod.mk.injEq] at H
    obtain ⟨rfl, rfl⟩ := H
    have f0 : 0 ≤ (d0 : Int) := oD_
    have j0 : d0 < (l0.length : Int) := oD_
    obtain ⟨S0, L0, b0⟩ := uZ Z0.o d0 f0 j0
    cases L0
    replace b0 := hc_ b0
    replace f0 := Aa f0
    replace j0 := Aa j0
    go_wp2_with (first | (go_at_call 98; refine mp_ (ay.calls _ _ _ _ A7.o) fun nd => ?_; (try exact dD_)) | (go_at_call 97; refine mp_ (aX.calls _ _ _ _ _ A8.o) fun nd => ?_; (try exact dD_)))
    repeat (go_quiet (first | (go_at_call 98; refine mp_ (ay.calls _ _ _ _ A7.o) fun nd => ?_; (try exact dD_)) | (go_at_call 97; refine mp_ (aX.calls _ _ _ _ _ A8.o) fun nd => ?_; (try exact dD_))); try go_wp2)
    go_ret2
    exact ⟨f1_, hB_⟩
  rw [Ga c5] at H
  have c1 := za c5
  clear c5
  obtain ⟨f1, k0⟩ : ∃ y_ : List Int, y_ = (([] : List Int)) := ⟨_, rfl⟩
  first | replace H := yb_ k0 H | rw [← k0] at H
  have E0 := c_ k0
  clear k0
  have H' := c_ H
  clear H
  go_wp2_with (first | (refine lj_ 29 .u8 5 E0 fun g1 E1 F0 HB => ?_))
  repeat (go_quiet (first | (refine lj_ 29 .u8 5 E0 fun g1 E1 F0 HB => ?_)); try go_wp2)
  go_loopg [7, 8, 9, 10] k1 (fun kq v7 v8 v9 F1 w' => ∃ (x0 : List Int) (y0 : Int) (B0 : Int) (a0 : Int), v8 = .int .i64 y0 ∧ v9 = .int .i64 B0 ∧ F1 = .int .i64 a0 ∧ aa (aQ.l1 kq l0 a1 x0 y0 B0 a0 = some (r1, r2)) ∧ aa (kq ≤ k1) ∧ aa (Kd.R (Kd.int .u8) 5 w' w.heap.size (fun _ => True) v7 x0) ∧ aa (Below w.heap.size w w'))
  case atStart => exact ⟨(f1), (0), (0), (0), f0_, f0_, f0_, H', ⟨Ca _⟩, ⟨rR_ F0.o⟩, ⟨hB_⟩⟩
  clear H'
  obtain ⟨x0, y0, B0, a0, rfl, rfl, rfl, HA, X0, e0, HB⟩ := hrel
  rcases gk with _ | k2
  ·exact absurd HA.o (by simp [aQ.l1])
  have H := HA.o
  clear HA
  simp only [aQ.l1] at H
  by_cases P0 : a0 < (l0.length : Int)
  rotate_left
  ·rw [Ga P0] at H
   have T0 := za P0
   clear P0
   by_cases Q0 : B0 > 0
   ·rw [Fa Q0] at H
    have U0 := ya Q0
    clear Q0
    obtain ⟨q1, H⟩ := iN_ H
    have G0 := c_ q1
    clear q1
    obtain ⟨G1, n0⟩ : ∃ y_ : List Int, y_ = (x0 ++ [(y0) % 256]) := ⟨_, rfl⟩
    first | replace H := yb_ n0 H | rw [← n0] at H
    have H0 := c_ n0
    clear n0
    simp only [Option.some.injEq, Prod.mk.injEq] at H
    obtain ⟨rfl, rfl⟩ := H
    go_wp2_with (first | (refine ga_ 62 65 ?_; at_builtin; refine ap_ e0 H0 G0 Tryz.underlying22 jq fun i1 H1 C0 HB hg hat => ?_; have V0 := dS (P := Tryz.prog) Tryz.underlying22 Tryz.underlying5 Tryz.underlying9 (vn C0.o)))
    repeat (go_quiet (first | (refine ga_ 62 65 ?_; at_builtin; refine ap_ e0 H0 G0 Tryz.underlying22 jq fun i1 H1 C0 HB hg hat => ?_; have V0 := dS (P := Tryz.prog) Tryz.underlying22 Tryz.underlying5 Tryz.underlying9 (vn C0.o))); try go_wp2)
    go_ret2
    exact ⟨f1_, hB_⟩
   rw [Ga Q0] at H
   have U0 := za Q0
   clear Q0
   simp only [Option.some.injEq, Prod.mk.injEq] at H
   obtain ⟨rfl, rfl⟩ := H
   have t1 := dS (P := Tryz.prog) Tryz.underlying22 Tryz.underlying5 Tryz.underlying9 (vn e0.o)
   go_wp2
   repeat (go_quiet (fail); try go_wp2)
   go_ret2
   exact ⟨f1_, hB_⟩
  rw [Fa P0] at H
  have T0 := ya P0
  clear P0
  obtain ⟨y1, H⟩ := iD_ H
  obtain ⟨j1, z1, H⟩ := bN_ H
  have H' := c_ H
  clear H
  have M0 : 0 ≤ (a0 : Int) := oD_
  have N0 : a0 < (l0.length : Int) := oD_
  obtain ⟨A1, m1, p0⟩ := uZ Z0.o a0 M0 N0
  cases m1
  replace p0 := hc_ p0
  replace M0 := Aa M0
  replace N0 := Aa N0
  go_wp2_with (first | (go_at_call 98; refine mp_ (ay.calls _ _ _ _ z1.o) fun nd => ?_; (try exact dD_)))
  repeat (go_quiet (first | (go_at_call 98; refine mp_ (ay.calls _ _ _ _ z1.o) fun nd => ?_; (try exact dD_))); try go_wp2)
  go_loopg [7, 8, 9] k2 (fun kq v7 v8 v9 w' => ∃ (D0 : List Int) (r0 : Int) (v0 : Int), v8 = .int .i64 r0 ∧ v9 = .int .i64 v0 ∧ aa (aQ.l2 kq l0 a1 D0 r0 v0 a0 = some (r1, r2)) ∧ aa (kq ≤ k2) ∧ aa (Kd.R (Kd.int .u8) 5 w' w.heap.size (fun _ => True) v7 D0) ∧ aa (Below w.heap.size w w'))
  case atStart => exact ⟨(x0), (wrap64 (y0 + (wrap64 ((rd l0 a0) * j1)))), (wrap64 (B0 + a1)), f0_, f0_, H', ⟨Ca _⟩, ⟨rR_ e0.o⟩, ⟨hB_⟩⟩
  clear H'
  obtain ⟨D0, r0, v0, rfl, rfl, HA, Y0, e0, HB⟩ := hrel
  rcases gk with _ | k3
  ·exact absurd HA.o (by simp [aQ.l2])
  have H := HA.o
  clear HA
  simp only [aQ.l2] at H
  by_cases R0 : v0 ≥ 8
  ·rw [Fa R0] at H
   have W0 := ya R0
   clear R0
   obtain ⟨B1, H⟩ := iN_ H
   have I0 := c_ B1
   clear B1
   obtain ⟨n1, q0⟩ : ∃ y_ : List Int, y_ = (D0 ++ [(Int.tmod r0 256) % 256]) := ⟨_, rfl⟩
   first | replace H := yb_ q0 H | rw [← q0] at H
   have J0 := c_ q0
   clear q0
   have H' := c_ H
   clear H
   go_wp2_with (first | (refine ga_ 50 54 ?_; at_builtin; refine ap_ e0 J0 I0 Tryz.underlying22 jq fun p1 I1 K0 HB hg hat => ?_))
   repeat (go_quiet (first | (refine ga_ 50 54 ?_; at_builtin; refine ap_ e0 J0 I0 Tryz.underlying22 jq fun p1 I1 K0 HB hg hat => ?_)); try go_wp2)
   go_roundg k3
   case measure => have := O0.o; have := X0.o; have := Y0.o; omega
   case rel => exact ⟨(n1), (wrap64 (Int.tdiv r0 256)), (wrap64 (v0 - 8)), f0_, f0_, H', ⟨by have := O0.o; have := X0.o; have := Y0.o; omega⟩, ⟨rR_ K0.o⟩, ⟨hB_⟩⟩
  rw [Ga R0] at H
  have W0 := za R0
  clear R0
  have H' := c_ H
  clear H
  go_wp2
  repeat (go_quiet (fail); try go_wp2)
  go_roundg k3
  case measure => have := O0.o; have := X0.o; have := Y0.o; omega
  case rel => exact ⟨(D0), (r0), (v0), (wrap64 (a0 + 1)), f0_, f0_, f0_, H', ⟨by have := O0.o; have := X0.o; have := Y0.o; omega⟩, ⟨rR_ e0.o⟩, ⟨hB_⟩⟩
 ·replace c4 := Ea c4
  subst c4
  replace H := iF_ H
  simp only [Option.some.injEq, Prod.mk.injEq] at H
  obtain ⟨rfl, rfl⟩ := H
  go_enter Tryz.func62, Tryz.ntmps62
  go_wp2_with (first | (go_at_call 97; refine mp_ (aX.calls _ _ _ _ _ A3.o) fun nd => ?_; (try exact dD_)))
  repeat (go_quiet (first | (go_at_call 97; refine mp_ (aX.calls _ _ _ _ _ A3.o) fun nd => ?_; (try exact dD_))); try go_wp2)
  go_ret2
  exact ⟨f1_, hB_⟩
def cq.f (k : Nat) (l0 : List Int) : Option (ByteArray) := (ak.f k l0).bind fun t586 => (if t586 = true then ((aQ.f k l0 12).bind fun bt587 => (some bt587.1)) else (some (⟨#[]⟩ : ByteArray)))
theorem cq.mono : ∀ a0 k, LeO (cq.f k a0) (cq.f (k + 1) a0) := by
 intro a0 k
 unfold cq.f
 exact o2_ aQ.mono ak.mono
theorem cq.calls (k : Nat) (A0 : Option Addr) (c0 : Nat) (l0 : List Int) (r : ByteArray) (w : World) (hr0 : Kd.C (Kd.int .i64) w A0 l0.length l0) (hc0 : l0.length ≤ c0) (h : cq.f k l0 = some r) :
  Calls Tryz.prog 28 #[.slice A0 l0.length c0] w fun e w' => e = .returned (.string r) ∧ Below w.heap.size w w' := by
 have a0 := c_ hr0
 have b0 := c_ hc0
 clear hr0 hc0
 have HB := c_ (Da w.heap.size w)
 delta cq.f at h
 have H := h
 clear h
 obtain ⟨d0, A2, H⟩ := bN_ H
 by_cases c3 : d0 = true
 ·subst c3
  replace H := iT_ H
  obtain ⟨⟨e0, f0⟩, A4, H⟩ := bN_ H
  obtain rfl := Ba H
  go_enter Tryz.func28, Tryz.ntmps28
  go_wp2_with (first | (refine gp_ (k_ 6 Tryz.func57) (ak.calls _ _ _ _ _ _ (cR_ a0.o) b0.o A2.o) fun nd => ?_) | (refine gb_ (k_ 10 Tryz.func62) (aQ.calls _ _ _ _ _ _ _ _ (cR_ a0.o) b0.o A4.o) fun w5 HB => ?_))
  go_ret
  exact ⟨f1_, hB_⟩
 ·replace c3 := Ea c3
  subst c3
  replace H := iF_ H
  obtain rfl := Ba H
  go_enter Tryz.func28, Tryz.ntmps28
  go_wp2_with (first | (refine gp_ (k_ 6 Tryz.func57) (ak.calls _ _ _ _ _ _ (cR_ a0.o) b0.o A2.o) fun nd => ?_))
  go_ret
  exact ⟨f1_, hB_⟩
def aM.l0 : Nat → List Int → List Int → List Int → Int → Option (List Int)
 | 0, _, _, _, _ => none
 | k + 1, x0, x1, x5, x6 => if x6 < 256 then ((ak.f k x0).bind fun t592 => (if t592 = true then ((ak.f k x1).bind fun t593 => (if t593 = true then (if 0 ≤ x6 then (if x6 < (x0.length : Int) then (if x6 < (x1.length : Int) then (if x5.length < 17592186044416 then (aM.l0 k x0 x1 (x5 ++ [Int.tmod (wrap64 ((rd x0 x6) + (rd x1 x6))) 3329]) (wrap64 (x6 + 1))) else (none)) else (none)) else (none)) else (none)) else (some x5))) else (some x5))) else (some x5)
def aM.f (k : Nat) (l0 : List Int) (l1 : List Int) : Option (List Int) := aM.l0 k l0 l1 (([] : List Int)) 0
theorem aM.mono_l : ∀ k, (∀ y0 y1 y2 y3, LeO (aM.l0 k y0 y1 y2 y3) (aM.l0 (k + 1) y0 y1 y2 y3))
 | 0 => fun _ _ _ _ r h => by simp [aM.l0] at h
 | k + 1 => by
  have ih0 := aM.mono_l k
  intros; unfold aM.l0; exact o2_ ih0 ak.mono
theorem aM.mono : ∀ a0 a1 k, LeO (aM.f k a0 a1) (aM.f (k + 1) a0 a1) := by
 intro a0 a1 k
 have ih0 := aM.mono_l k
 unfold aM.f
 exact o2_ ih0 ak.mono
def aM.T5 : Bool × List (List Nat × List Nat) := (true, [([], []), ([], []), ([], []), ([1, 2], [1, 2]), ([3], [3]), ([], []), ([], []), ([5, 6], [5, 6]), ([7], [7]), ([4, 8], [4, 8]), ([9], [9]), ([10], [10]), ([0, 11], [0, 11]), ([12, 12, 0, 1, 2, 3, 4, 5, 6, 7, 8, 9, 10, 11, 12], [0, 12])])
def aM.B5 : List Nat := [0, 0, 0, 6, 14, 0, 0, 96, 224, 510, 1022, 2046, 4095, 8191]
theorem aM.tab5 : eu .any (fu Tryz.f29 5) = aM.T5 := by kernel_rfl
theorem aM.bits5 : dd aM.T5.2 aM.B5 = true := by kernel_rfl
theorem aM.calls (k : Nat) (A0 : Option Addr) (c0 : Nat) (l0 : List Int) (A1 : Option Addr) (c1 : Nat) (l1 : List Int) (r : List Int) (w : World) (hr0 : Kd.C (Kd.int .i64) w A0 l0.length l0) (hc0 : l0.length ≤ c0) (hr1 : Kd.C (Kd.int .i64) w A1 l1.length l1) (hc1 : l1.length ≤ c1) (h : aM.f k l0 l1 = some r) :
  Calls Tryz.prog 29 #[.slice A0 l0.length c0, .slice A1 l1.length c1] w fun e w' => ∃ R0 : Value, e = .returned (R0) ∧ Kd.R (Kd.int .i64) 3 w' w.heap.size (fun _ => True) R0 r ∧ Below w.heap.size w w' := by
 have H0 := c_ hr0
 have I0 := c_ hc0
 clear hr0 hc0
 have J0 := c_ hr1
 have S0 := c_ hc1
 clear hr1 hc1
 have HB := c_ (Da w.heap.size w)
 delta aM.f at h
 have H := h
 clear h
 obtain ⟨K0, k0⟩ : ∃ y_ : List Int, y_ = (([] : List Int)) := ⟨_, rfl⟩
 first | replace H := yb_ k0 H | rw [← k0] at H
 have y0 := c_ k0
 clear k0
 have H' := c_ H
 clear H
 go_enter Tryz.func29, Tryz.ntmps29
 go_wp2_with (first | (refine lj_ 7 .i64 3 y0 fun Y0 w3 B0 HB => ?_))
 go_loopg [5, 6] k (fun kq v5 v6 w' => ∃ (p0 : List Int) (a0 : Int), v6 = .int .i64 a0 ∧ aa (aM.l0 kq l0 l1 p0 a0 = some r) ∧ aa (kq ≤ k) ∧ aa (Kd.R (Kd.int .i64) 3 w' w.heap.size (fun _ => True) v5 p0) ∧ aa (Below w.heap.size w w'))
 case atStart => exact ⟨(K0), (0), f0_, H', ⟨Ca _⟩, ⟨rR_ B0.o⟩, ⟨hB_⟩⟩
 clear H'
 obtain ⟨p0, a0, rfl, HA, T0, j0, HB⟩ := hrel
 rcases gk with _ | k1
 ·exact absurd HA.o (by simp [aM.l0])
 have H := HA.o
 clear HA
 simp only [aM.l0] at H
 by_cases c5 : a0 < 256
 rotate_left
 ·rw [Ga c5] at H
  have L0 := za c5
  clear c5
  obtain rfl := Ba H
  go_wp2
  go_ret
  exact ⟨_, f1_, rR_ j0.o, hB_⟩
 rw [Fa c5] at H
 have L0 := ya c5
 clear c5
 obtain ⟨M0, A6, H⟩ := bN_ H
 by_cases c7 : M0 = true
 ·subst c7
  replace H := iT_ H
  obtain ⟨N0, A8, H⟩ := bN_ H
  by_cases c9 : N0 = true
  ·subst c9
   replace H := iT_ H
   obtain ⟨U0, H⟩ := iD_ H
   obtain ⟨V0, H⟩ := iD_ H
   obtain ⟨W0, H⟩ := iD_ H
   obtain ⟨X0, H⟩ := iN_ H
   have C0 := c_ X0
   clear X0
   obtain ⟨O0, n0⟩ : ∃ y_ : List Int, y_ = (p0 ++ [Int.tmod (wrap64 ((rd l0 a0) + (rd l1 a0))) 3329]) := ⟨_, rfl⟩
   first | replace H := yb_ n0 H | rw [← n0] at H
   have D0 := c_ n0
   clear n0
   have H' := c_ H
   clear H
   try go_wp2_with (first | (go_at_call 57; refine mp_ (ak.calls _ _ _ _ _ _ (cR_ (vf H0.o HB.o)) I0.o A6.o) fun nd => ?_) | (go_at_call 57; refine mp_ (ak.calls _ _ _ _ _ _ (cR_ (vf J0.o (hB_))) S0.o A8.o) fun nd => ?_))
   (try (rw [dh wr]; generalize hq_ : World.drewN wr _ = wr; obtain ⟨j0, HB⟩ := b_ (show Kd.R (Kd.int .i64) 3 wr w.heap.size (fun _ => True) u5 p0 from by rw [← hq_]; exact (rR_ j0.o)) <| c_ (show Below w.heap.size w wr from by rw [← hq_]; exact (hB_))))
   obtain ⟨j0, HB⟩ := b_ (vl j0.o) <| c_ (bx HB.o)
   have q0 : 0 ≤ (a0 : Int) := oD_
   have r0 : a0 < (l0.length : Int) := oD_
   obtain ⟨E0, P0, b0⟩ := uZ H0.o a0 q0 r0
   have d0 := b0
   cases P0
   replace b0 := hc_ b0
   replace q0 := Aa q0
   replace r0 := Aa r0
   have v0 : 0 ≤ (a0 : Int) := oD_
   have x0 : a0 < (l1.length : Int) := oD_
   obtain ⟨F0, Q0, e0⟩ := uZ J0.o a0 v0 x0
   have f0 := e0
   cases Q0
   replace e0 := hc_ e0
   replace v0 := Aa v0
   replace x0 := Aa x0
   refine ej (n := 14) (S := fun w' => w'.cell? (E0.add (a0).toNat) = some (.int .i64 (rd l0 a0)) ∧ w'.cell? (F0.add (a0).toNat) = some (.int .i64 (rd l1 a0))) (ds := []) (bb_ 14 0) (by kernel_rfl) rfl rfl ⟨(hc_ d0), (hc_ f0)⟩ (fun hHeld => ?_); refine cK aM.tab5 aM.bits5 (fun HT_ HW_ => ?_)
   generalize wr.drew = b1 at j0 HB b0 e0 hHeld ⊢
   refine pT_ 0 20 14 1 ?_
   refine pT_ 1 21 14 3 ?_
   refine pT_ 2 22 14 7 ?_
   refine pT_ 3 23 14 15 ?_
   refine pT_ 5 25 14 47 ?_
   refine pT_ 6 26 14 111 ?_
   refine pT_ 7 27 14 239 ?_
   refine tS_ 4 24 (bb_ 14 255) (bA HT_.o HW_.o (by kernel_rfl)) hHeld ?_
   refine tS_ 8 28 (bb_ 14 511) (bA HT_.o HW_.o (by kernel_rfl)) hHeld ?_
   refine pT_ 9 29 14 1023 ?_
   refine pT_ 10 30 14 2047 ?_
   refine fB (i := 11) (N := some 31) (bb_ 14 4095) rfl rfl (cz HT_.o (by kernel_rfl)) (by decide) (fun K hK => ?_)
   refine nR (w1 := ?_) (v := ?_) (by rfl) rfl ?_ ?_
   rotate_left 2
   ·go_simp
    constructor
    ·rfl
    ·rfl
   refine hK _ _ ⟨(World.cell?_alloc_lt _ _ _ (World.block_lt_of_cell? _ _ ((hc_ d0)))).trans ((hc_ d0)), (World.cell?_alloc_lt _ _ _ (World.block_lt_of_cell? _ _ ((hc_ f0)))).trans ((hc_ f0))⟩ (fun hHeld => ?_)
   clear hK K
   refine dH (a' := ?_) ?_ ?_
   rotate_left
   ·show Act.put _ (some 31) _ = _
    simp only [Act.put, List.setIfInBounds_toArray, List.set_cons_zero, List.set_cons_succ, bq, ct]
    rfl
   refine fB (i := 12) (N := some 32) (bb_ 14 8191) rfl rfl (cz HT_.o (by kernel_rfl)) (by decide) (fun K hK => ?_)
   refine vy (Kd.int .i64) (w0 := w) w.heap.size (by rfl) (.tmp 20) (.tmp 31) 45 3 (.int .i64 0) 8 rfl Tryz.underlying45 df rfl (by decide) (by omega) u5 p0 (Int.tmod (wrap64 ((rd l0 a0) + (rd l1 a0))) 3329) [.int .i64 (Int.tmod (wrap64 ((rd l0 a0) + (rd l1 a0))) 3329)] (fun _ => True) (fun _ => False) rfl rfl ?aP (fun _ hk => hk.elim) ?aF ?aO ?aB ?aS ?aL ?_
   (case aP => exact rfl)
   (case aB => exact (hB_))
   (case aF => exact (fun _ _ => trivial))
   (case aO => exact (rR_ j0.o))
   (case aS => exact (au (hB_)))
   (case aL => have := C0.o; omega)
   intro Z0 e1 ho hb hg hat
   rw [← D0.o] at ho
   obtain ⟨HB, G0⟩ := b_ (hb) <| c_ (ho)
   clear ho hb hg hat
   refine hK _ _ ⟨(hc_ d0), (hc_ f0)⟩ (fun hHeld => ?_)
   clear hK K
   refine dH (a' := ?_) ?_ ?_
   rotate_left
   ·show Act.put _ (some 32) _ = _
    simp only [Act.put, List.setIfInBounds_toArray, List.set_cons_zero, List.set_cons_succ, bq, ct]
    rfl
   refine pT_ 13 5 14 16383 ?_
   refine fq (dA HT_.o (by kernel_rfl)) ?_
   try go_wp2
   go_roundg k1
   case measure => have := T0.o; omega
   case rel => exact ⟨(O0), (wrap64 (a0 + 1)), f0_, H', ⟨by have := T0.o; omega⟩, ⟨rR_ G0.o⟩, ⟨hB_⟩⟩
  ·replace c9 := Ea c9
   subst c9
   replace H := iF_ H
   obtain rfl := Ba H
   go_wp2_with (first | (go_at_call 57; refine mp_ (ak.calls _ _ _ _ _ _ (cR_ (vf H0.o HB.o)) I0.o A6.o) fun nd => ?_) | (go_at_call 57; refine mp_ (ak.calls _ _ _ _ _ _ (cR_ (vf J0.o (hB_))) S0.o A8.o) fun nd => ?_))
   go_ret
   exact ⟨_, f1_, rR_ j0.o, hB_⟩
 ·replace c7 := Ea c7
  subst c7
  replace H := iF_ H
  obtain rfl := Ba H
  go_wp2_with (first | (go_at_call 57; refine mp_ (ak.calls _ _ _ _ _ _ (cR_ (vf H0.o HB.o)) I0.o A6.o) fun nd => ?_))
  go_ret
  exact ⟨_, f1_, rR_ j0.o, hB_⟩
mutual
def az.j0 : Nat → List Int → List Int → List Int → Bool → Option (List Int)
 | 0, _, _, _, _ => none
 | k + 1, x0, x1, x5, x17 => if x17 = true then (some x5) else (az.l0 k x0 x1 x5 0)
def az.l0 : Nat → List Int → List Int → List Int → Int → Option (List Int)
 | 0, _, _, _, _ => none
 | k + 1, x0, x1, x5, x6 => if x6 < 128 then ((aZ.f k x6).bind fun t604 => ((bn.f k 17 (wrap64 ((wrap64 (2 * t604)) + 1))).bind fun t605 => (if 0 ≤ (wrap64 ((wrap64 (2 * x6)) + 1)) then (if (wrap64 ((wrap64 (2 * x6)) + 1)) < (x0.length : Int) then (if (wrap64 ((wrap64 (2 * x6)) + 1)) < (x1.length : Int) then (if 0 ≤ (wrap64 (2 * x6)) then (if (wrap64 (2 * x6)) < (x0.length : Int) then (if (wrap64 (2 * x6)) < (x1.length : Int) then ((some (([Int.tmod (wrap64 ((wrap64 ((rd x0 (wrap64 (2 * x6))) * (rd x1 (wrap64 (2 * x6))))) + (wrap64 ((Int.tmod (wrap64 ((rd x0 (wrap64 ((wrap64 (2 * x6)) + 1))) * (rd x1 (wrap64 ((wrap64 (2 * x6)) + 1))))) 3329) * t605)))) 3329, Int.tmod (wrap64 ((wrap64 ((rd x0 (wrap64 (2 * x6))) * (rd x1 (wrap64 ((wrap64 (2 * x6)) + 1))))) + (wrap64 ((rd x0 (wrap64 ((wrap64 (2 * x6)) + 1))) * (rd x1 (wrap64 (2 * x6))))))) 3329] : List Int) : List Int)).bind fun y614 => (if x5.length + y614.length < 17592186044416 then (az.l0 k x0 x1 (x5 ++ y614) (wrap64 (x6 + 1))) else (none))) else (none)) else (none)) else (none)) else (none)) else (none)) else (none)))) else (some x5)
end
def az.f (k : Nat) (l0 : List Int) (l1 : List Int) : Option (List Int) := (some (([] : List Int) : List Int)).bind fun y599 => ((ak.f k l0).bind fun t602 => (if t602 = true then ((ak.f k l1).bind fun t603 => (az.j0 k l0 l1 y599 (!t603))) else (az.j0 k l0 l1 y599 true)))
theorem az.mono_l : ∀ k, (∀ y0 y1 y2 y3, LeO (az.j0 k y0 y1 y2 y3) (az.j0 (k + 1) y0 y1 y2 y3)) ∧ (∀ y0 y1 y2 y3, LeO (az.l0 k y0 y1 y2 y3) (az.l0 (k + 1) y0 y1 y2 y3))
 | 0 => ⟨fun _ _ _ _ r h => by simp [az.j0] at h, fun _ _ _ _ r h => by simp [az.l0] at h⟩
 | k + 1 => by
  obtain ⟨ih0, ih1⟩ := az.mono_l k
  refine ⟨?_, ?_⟩ <;> (intros; (first | unfold az.j0 | unfold az.l0); exact o5_ ih0 ih1 ak.mono bn.mono aZ.mono)
theorem az.mono : ∀ a0 a1 k, LeO (az.f k a0 a1) (az.f (k + 1) a0 a1) := by
 intro a0 a1 k
 obtain ⟨ih0, ih1⟩ := az.mono_l k
 unfold az.f
 exact o5_ ih0 ih1 ak.mono bn.mono aZ.mono
def az.T8 : Bool × List (List Nat × List Nat) := (true, [([], []), ([], []), ([1], [1]), ([2], [2]), ([0, 3], [0, 3]), ([4], [4]), ([], []), ([], []), ([7], [7]), ([8], [8]), ([6, 9], [6, 9]), ([10], [10]), ([5, 11], [5, 11]), ([12], [12]), ([], []), ([13, 14], [13, 14]), ([15, 0, 1, 2, 3, 4, 5, 6, 7, 8, 9, 10, 11, 12, 13, 14, 15], [15])])
def az.B8 : List Nat := [0, 0, 2, 6, 15, 31, 0, 0, 128, 384, 960, 1984, 4095, 8191, 0, 32767, 65535]
theorem az.tab8 : eu .any (fu Tryz.f63 8) = az.T8 := by kernel_rfl
theorem az.bits8 : dd az.T8.2 az.B8 = true := by kernel_rfl
def az.T9 : Bool × List (List Nat × List Nat) := (true, [([], []), ([], []), ([], []), ([2], [2]), ([1, 3], [1, 3]), ([4], [4]), ([], []), ([], []), ([7], [7]), ([6, 8], [6, 8]), ([9], [9]), ([5, 10], [5, 10]), ([], []), ([11, 12], [11, 12]), ([13], [13]), ([], []), ([], []), ([16], [16]), ([15, 17], [15, 17]), ([18], [18]), ([], []), ([], []), ([21], [21]), ([22], [22]), ([20, 23], [20, 23]), ([24], [24]), ([19, 25], [19, 25]), ([], []), ([], []), ([28], [28]), ([29], [29]), ([27, 30], [27, 30]), ([31], [31]), ([], []), ([], []), ([34], [34]), ([33, 35], [33, 35]), ([36], [36]), ([32, 37], [32, 37]), ([26, 38], [26, 38]), ([39], [39]), ([14, 40], [14, 40]), ([0, 41], [0, 41]), ([42, 42, 0, 1, 2, 3, 4, 5, 6, 7, 8, 9, 10, 11, 12, 13, 14, 15, 16, 17, 18, 19, 20, 21, 22, 23, 24, 25, 26, 27, 28, 29, 30, 31, 32, 33, 34, 35, 36, 37, 38, 39, 40, 41, 42], [0, 42])])
def az.B9 : List Nat := [0, 0, 0, 4, 14, 30, 0, 0, 128, 448, 960, 2046, 0, 8190, 16382, 0, 0, 65536, 229376, 491520, 0, 0, 2097152, 6291456, 15728640, 32505856, 67076096, 0, 0, 268435456, 805306368, 2013265920, 4160749568, 0, 0, 17179869184, 60129542144, 128849018880, 274743689216, 549755781120, 1099511595008, 2199023255550, 4398046511103, 8796093022207]
theorem az.tab9 : eu .any (fu Tryz.f63 9) = az.T9 := by kernel_rfl
theorem az.bits9 : dd az.T9.2 az.B9 = true := by kernel_rfl
theorem az.calls (k : Nat) (A0 : Option Addr) (c0 : Nat) (l0 : List Int) (A1 : Option Addr) (c1 : Nat) (l1 : List Int) (r : List Int) (w : World) (hr0 : Kd.C (Kd.int .i64) w A0 l0.length l0) (hc0 : l0.length ≤ c0) (hr1 : Kd.C (Kd.int .i64) w A1 l1.length l1) (hc1 : l1.length ≤ c1) (h : az.f k l0 l1 = some r) :
  Calls Tryz.prog 63 #[.slice A0 l0.length c0, .slice A1 l1.length c1] w fun e w' => ∃ q2 : Value, e = .returned (q2) ∧ Kd.R (Kd.int .i64) 3 w' w.heap.size (fun _ => True) q2 r ∧ Below w.heap.size w w' := by
 have B1 := c_ hr0
 have r2 := c_ hc0
 clear hr0 hc0
 have D1 := c_ hr1
 have G2 := c_ hc1
 clear hr1 hc1
 have HB := c_ (Da w.heap.size w)
 delta az.f at h
 have H := h
 clear h
 obtain ⟨W0, L0⟩ : ∃ y_ : List Int, y_ = (([] : List Int)) := ⟨_, rfl⟩
 first | replace H := yb_ L0 H | rw [← L0] at H
 have E1 := c_ L0
 clear L0
 have Q1 := c_ H
 clear H
 go_enter Tryz.func63, Tryz.ntmps63
 go_upto_region 2 with (first | (refine lj_ 9 .i64 3 E1 fun R1 w4 U0 HB => ?_))
 (try simp only [Act.put, List.setIfInBounds_toArray, List.set_cons_zero, List.set_cons_succ])
 go_cut [17] (fun H2 wc => ∃ (kq : Nat) (M0 : Bool), H2 = .bool M0 ∧ aa (az.j0 kq l0 l1 W0 M0 = some r) ∧ aa (kq ≤ k) ∧ aa (Kd.R (Kd.int .i64) 3 wc w.heap.size (fun _ => True) R1 W0) ∧ aa (Below w.heap.size w wc))
 case first =>
  have H := Q1.o
  clear Q1
  obtain ⟨S1, A6, H⟩ := bN_ H
  by_cases c7 : S1 = true
  ·subst c7
   replace H := iT_ H
   obtain ⟨T1, A8, H⟩ := bN_ H
   have H' := c_ H
   clear H
   go_wp2_with (first | (refine gp_ (k_ 11 Tryz.func57) (ak.calls _ _ _ _ _ _ (cR_ (vf B1.o HB.o)) r2.o A6.o) fun nd => ?_) | (go_at_call 57; refine mp_ (ak.calls _ _ _ _ _ _ (cR_ (vf D1.o (hB_))) G2.o A8.o) fun nd => ?_))
   go_meet
   case rel => exact ⟨_, (!T1), f0_, H', ⟨by first | omega | exact Ca _⟩, ⟨rR_ U0.o⟩, ⟨hB_⟩⟩
  ·replace c7 := Ea c7
   subst c7
   replace H := iF_ H
   have H' := c_ H
   clear H
   go_wp2_with (first | (refine gp_ (k_ 11 Tryz.func57) (ak.calls _ _ _ _ _ _ (cR_ (vf B1.o HB.o)) r2.o A6.o) fun nd => ?_))
   go_meet
   case rel => exact ⟨_, (true), f0_, H', ⟨by first | omega | exact Ca _⟩, ⟨rR_ U0.o⟩, ⟨hB_⟩⟩
 clear Q1
 obtain ⟨kq, M0, rfl, HA, t2, d0, HB⟩ := hcut
 rcases kq with _ | v2
 ·exact absurd HA.o (by simp [az.j0])
 have H := HA.o
 clear HA
 simp only [az.j0] at H
 by_cases c9 : M0 = true
 ·subst c9
  replace H := iT_ H
  obtain rfl := Ba H
  go_wp2
  go_ret
  exact ⟨_, f1_, rR_ d0.o, hB_⟩
 ·replace c9 := Ea c9
  subst c9
  replace H := iF_ H
  have H' := c_ H
  clear H
  go_wp2
  go_loopg [5, 6] v2 (fun kq v5 v6 w' => ∃ (P0 : List Int) (D0 : Int), v6 = .int .i64 D0 ∧ aa (az.l0 kq l0 l1 P0 D0 = some r) ∧ aa (kq ≤ v2) ∧ aa (Kd.R (Kd.int .i64) 3 w' w.heap.size (fun _ => True) v5 P0) ∧ aa (Below w.heap.size w w'))
  case atStart => exact ⟨(W0), (0), f0_, H', ⟨Ca _⟩, ⟨rR_ d0.o⟩, ⟨hB_⟩⟩
  clear H'
  obtain ⟨P0, D0, rfl, HA, y2, d0, HB⟩ := hrel
  rcases gk with _ | k2
  ·exact absurd HA.o (by simp [az.l0])
  have H := HA.o
  clear HA
  simp only [az.l0] at H
  by_cases C1 : D0 < 128
  rotate_left
  ·rw [Ga C1] at H
   have F1 := za C1
   clear C1
   obtain rfl := Ba H
   go_wp2
   go_ret
   exact ⟨_, f1_, rR_ d0.o, hB_⟩
  rw [Fa C1] at H
  have F1 := ya C1
  clear C1
  obtain ⟨I2, U1, H⟩ := bN_ H
  obtain ⟨R0, V1, H⟩ := bN_ H
  obtain ⟨a0, B0⟩ : ∃ j_ : Int, (wrap64 ((wrap64 (2 * D0)) + 1)) = j_ := ⟨_, rfl⟩
  first | rw [B0] at H | simp only [B0] at H
  (try rw [B0] at U1)
  (try rw [B0] at V1)
  have X1 : (IntKind.i64.wrap ((wrap64 (2 * D0)) + 1)) = a0 := (bq _).trans B0
  obtain ⟨z2, H⟩ := iD_ H
  obtain ⟨A2, H⟩ := iD_ H
  obtain ⟨B2, H⟩ := iD_ H
  obtain ⟨b0, C0⟩ : ∃ j_ : Int, (wrap64 (2 * D0)) = j_ := ⟨_, rfl⟩
  first | rw [C0] at H | simp only [C0] at H
  (try rw [C0] at U1)
  (try rw [C0] at V1)
  have Y1 : (IntKind.i64.wrap (2 * D0)) = b0 := (bq _).trans C0
  have hji13_ji17 : wrap64 (b0 + 1) = a0 := by rw [← C0]; exact B0
  have hji13_ji17w : IntKind.i64.wrap (b0 + 1) = a0 := (bq _).trans hji13_ji17
  obtain ⟨C2, H⟩ := iD_ H
  obtain ⟨D2, H⟩ := iD_ H
  obtain ⟨E2, H⟩ := iD_ H
  obtain ⟨X0, N0⟩ : ∃ y_ : List Int, y_ = (([Int.tmod (wrap64 ((wrap64 ((rd l0 (b0)) * (rd l1 (b0)))) + (wrap64 ((Int.tmod (wrap64 ((rd l0 (a0)) * (rd l1 (a0)))) 3329) * R0)))) 3329, Int.tmod (wrap64 ((wrap64 ((rd l0 (b0)) * (rd l1 (a0)))) + (wrap64 ((rd l0 (a0)) * (rd l1 (b0)))))) 3329] : List Int)) := ⟨_, rfl⟩
  first | replace H := yb_ N0 H | rw [← N0] at H
  have V0 := c_ N0
  clear N0
  obtain ⟨F2, H⟩ := iN_ H
  have G1 := c_ F2
  clear F2
  obtain ⟨Z1, O0⟩ : ∃ y_ : List Int, y_ = (P0 ++ X0) := ⟨_, rfl⟩
  first | replace H := yb_ O0 H | rw [← O0] at H
  have H1 := c_ O0
  clear O0
  have H' := c_ H
  clear H
  try go_wp2_with (first | (refine gp_ (k_ 24 Tryz.func59) (aZ.calls _ _ _ _ U1.o) fun nd => ?_) | (refine gp_ (k_ 27 Tryz.func58) (bn.calls _ _ _ _ _ V1.o) fun nd => ?_))
  (try (rw [dh wr]; generalize hq_ : World.drewN wr _ = wr; obtain ⟨d0, HB⟩ := b_ (show Kd.R (Kd.int .i64) 3 wr w.heap.size (fun _ => True) u5 P0 from by rw [← hq_]; exact (rR_ d0.o)) <| c_ (show Below w.heap.size w wr from by rw [← hq_]; exact (hB_))))
  obtain ⟨d0, HB⟩ := b_ (vl d0.o) <| c_ (bx HB.o)
  have Y0 : 0 ≤ ((a0) : Int) := oD_
  have Z0 : (a0) < (l0.length : Int) := oD_
  obtain ⟨x0, b2, e0⟩ := uZ B1.o (a0) Y0 Z0
  have S0 := e0
  cases b2
  replace e0 := hc_ e0
  replace Y0 := Aa Y0
  replace Z0 := Aa Z0
  have b1 : 0 ≤ ((a0) : Int) := oD_
  have e1 : (a0) < (l1.length : Int) := oD_
  obtain ⟨y0, c2, f0⟩ := uZ D1.o (a0) b1 e1
  have T0 := f0
  cases c2
  replace f0 := hc_ f0
  replace b1 := Aa b1
  replace e1 := Aa e1
  refine ej (n := 17) (S := fun w' => w'.cell? (x0.add ((a0)).toNat) = some (.int .i64 (rd l0 (a0))) ∧ w'.cell? (y0.add ((a0)).toNat) = some (.int .i64 (rd l1 (a0)))) (ds := []) (bb_ 17 0) (by kernel_rfl) rfl rfl ⟨(hc_ S0), (hc_ T0)⟩ (fun hHeld => ?_); refine cK az.tab8 az.bits8 (fun HT_ HW_ => ?_)
  generalize wr.drew = J2 at d0 HB e0 f0 hHeld ⊢
  refine pT_ 0 28 17 1 ?_
  refine pT_ 1 29 17 3 ?_
  refine pT_ 2 30 17 7 ?_
  refine pT_ 3 31 17 15 ?_
  refine pT_ 4 32 17 31 ?_
  refine pT_ 6 34 17 95 ?_
  refine pT_ 7 35 17 223 ?_
  refine pT_ 8 36 17 479 ?_
  refine pT_ 9 37 17 991 ?_
  refine pT_ 10 38 17 2015 ?_
  refine pT_ 14 42 17 18399 ?_
  refine tS_ 5 33 (bb_ 17 18431) (bA HT_.o HW_.o (by kernel_rfl)) hHeld ?_
  refine tS_ 11 39 (bb_ 17 20479) (bA HT_.o HW_.o (by kernel_rfl)) hHeld ?_
  refine pT_ 12 40 17 24575 ?_
  refine pT_ 13 41 17 32767 ?_
  refine pT_ 15 43 17 65535 ?_
  refine pT_ 16 8 17 131071 ?_
  refine fq (dA HT_.o (by kernel_rfl)) ?_
  try go_wp2
  obtain ⟨d0, HB⟩ := b_ (vl d0.o) <| c_ (bx HB.o)
  have f1 : 0 ≤ ((b0) : Int) := oD_
  have g1 : (b0) < (l0.length : Int) := oD_
  obtain ⟨I1, f2, k0⟩ := uZ B1.o (b0) f1 g1
  have E0 := k0
  obtain rfl : x0 = I1 := (by injection f2)
  replace k0 := hc_ k0
  replace f1 := Aa f1
  replace g1 := Aa g1
  have i1 : 0 ≤ ((b0) : Int) := oD_
  have j1 : (b0) < (l1.length : Int) := oD_
  obtain ⟨J1, g2, n0⟩ := uZ D1.o (b0) i1 j1
  have F0 := n0
  obtain rfl : y0 = J1 := (by injection g2)
  replace n0 := hc_ n0
  replace i1 := Aa i1
  replace j1 := Aa j1
  have m1 : 0 ≤ ((b0) : Int) := oD_
  have n1 : (b0) < (l0.length : Int) := oD_
  obtain ⟨K1, i2, p0⟩ := uZ B1.o (b0) m1 n1
  have G0 := p0
  obtain rfl : x0 = K1 := (by injection i2)
  replace p0 := hc_ p0
  replace m1 := Aa m1
  replace n1 := Aa n1
  have p1 : 0 ≤ ((a0) : Int) := oD_
  have q1 : (a0) < (l1.length : Int) := oD_
  obtain ⟨L1, j2, q0⟩ := uZ D1.o (a0) p1 q1
  have H0 := q0
  obtain rfl : y0 = L1 := (by injection j2)
  replace q0 := hc_ q0
  replace p1 := Aa p1
  replace q1 := Aa q1
  have r1 : 0 ≤ ((a0) : Int) := oD_
  have t1 : (a0) < (l0.length : Int) := oD_
  obtain ⟨M1, l2, r0⟩ := uZ B1.o (a0) r1 t1
  have I0 := r0
  obtain rfl : x0 = M1 := (by injection l2)
  replace r0 := hc_ r0
  replace r1 := Aa r1
  replace t1 := Aa t1
  have y1 : 0 ≤ ((b0) : Int) := oD_
  have z1 : (b0) < (l1.length : Int) := oD_
  obtain ⟨N1, m2, v0⟩ := uZ D1.o (b0) y1 z1
  have J0 := v0
  obtain rfl : y0 = N1 := (by injection m2)
  replace v0 := hc_ v0
  replace y1 := Aa y1
  replace z1 := Aa z1
  refine ej (n := 44) (S := fun w' => w'.cell? (x0.add ((b0)).toNat) = some (.int .i64 (rd l0 (b0))) ∧ w'.cell? (y0.add ((b0)).toNat) = some (.int .i64 (rd l1 (b0))) ∧ w'.cell? (x0.add ((b0)).toNat) = some (.int .i64 (rd l0 (b0))) ∧ w'.cell? (y0.add ((a0)).toNat) = some (.int .i64 (rd l1 (a0))) ∧ w'.cell? (x0.add ((a0)).toNat) = some (.int .i64 (rd l0 (a0))) ∧ w'.cell? (y0.add ((b0)).toNat) = some (.int .i64 (rd l1 (b0)))) (ds := []) (bb_ 44 0) (by kernel_rfl) rfl rfl ⟨(hc_ E0), (hc_ F0), (hc_ G0), (hc_ H0), (hc_ I0), (hc_ J0)⟩ (fun hHeld => ?_); refine cK az.tab9 az.bits9 (fun HT_ HW_ => ?_)
  generalize J2.drew = M2 at d0 HB k0 n0 p0 q0 r0 v0 hHeld ⊢
  refine pT_ 0 44 44 1 ?_
  refine pT_ 1 45 44 3 ?_
  refine pT_ 2 46 44 7 ?_
  refine pT_ 3 47 44 15 ?_
  refine pT_ 4 48 44 31 ?_
  refine pT_ 6 50 44 95 ?_
  refine pT_ 7 51 44 223 ?_
  refine pT_ 8 52 44 479 ?_
  refine pT_ 9 53 44 991 ?_
  refine pT_ 12 56 44 5087 ?_
  refine pT_ 15 59 44 37855 ?_
  refine pT_ 16 60 44 103391 ?_
  refine pT_ 17 61 44 234463 ?_
  refine pT_ 18 62 44 496607 ?_
  refine pT_ 20 64 44 1545183 ?_
  refine pT_ 21 65 44 3642335 ?_
  refine pT_ 22 66 44 7836639 ?_
  refine pT_ 23 67 44 16225247 ?_
  refine pT_ 24 68 44 33002463 ?_
  refine pT_ 27 71 44 167220191 ?_
  refine pT_ 28 72 44 435655647 ?_
  refine pT_ 29 73 44 972526559 ?_
  refine pT_ 30 74 44 2046268383 ?_
  refine pT_ 31 75 44 4193752031 ?_
  refine pT_ 33 77 44 12783686623 ?_
  refine pT_ 34 78 44 29963555807 ?_
  refine pT_ 35 79 44 64323294175 ?_
  refine pT_ 36 80 44 133042770911 ?_
  refine tS_ 5 49 (bb_ 44 133042770943) (bA HT_.o HW_.o (by kernel_rfl)) hHeld ?_
  refine tS_ 10 54 (bb_ 44 133042771967) (bA HT_.o HW_.o (by kernel_rfl)) hHeld ?_
  refine pT_ 11 55 44 133042774015 ?_
  refine pT_ 13 57 44 133042782207 ?_
  refine pT_ 14 58 44 133042798591 ?_
  refine tS_ 19 63 (bb_ 44 133043322879) (bA HT_.o HW_.o (by kernel_rfl)) hHeld ?_
  refine tS_ 25 69 (bb_ 44 133076877311) (bA HT_.o HW_.o (by kernel_rfl)) hHeld ?_
  refine pT_ 26 70 44 133143986175 ?_
  refine tS_ 32 76 (bb_ 44 137438953471) (bA HT_.o HW_.o (by kernel_rfl)) hHeld ?_
  refine tS_ 37 81 (bb_ 44 274877906943) (bA HT_.o HW_.o (by kernel_rfl)) hHeld ?_
  refine pT_ 38 82 44 549755813887 ?_
  refine pT_ 39 83 44 1099511627775 ?_
  refine pT_ 40 84 44 2199023255551 ?_
  refine fB (i := 41) (N := some 85) (bb_ 44 4398046511103) rfl rfl (cz HT_.o (by kernel_rfl)) (by decide) (fun K hK => ?_)
  refine wb (Kd.int .i64) _ 3 ?hg (N := 85) ?hd (xs := ([Int.tmod (wrap64 ((wrap64 ((rd l0 (b0)) * (rd l1 (b0)))) + (wrap64 ((Int.tmod (wrap64 ((rd l0 (a0)) * (rd l1 (a0)))) 3329) * R0)))) 3329, Int.tmod (wrap64 ((wrap64 ((rd l0 (b0)) * (rd l1 (a0)))) + (wrap64 ((rd l0 (a0)) * (rd l1 (b0)))))) 3329] : List Int)) (inner := [.int .i64 (Int.tmod (wrap64 ((wrap64 ((rd l0 (b0)) * (rd l1 (b0)))) + (wrap64 ((Int.tmod (wrap64 ((rd l0 (a0)) * (rd l1 (a0)))) 3329) * R0)))) 3329), .int .i64 (Int.tmod (wrap64 ((wrap64 ((rd l0 (b0)) * (rd l1 (a0)))) + (wrap64 ((rd l0 (a0)) * (rd l1 (b0)))))) 3329)]) (ok := fun _ => True) (okp := fun _ => True) ?hr ?hp (fun _ hk => hk) trivial (Da _ _) (Ca _) (by simp) ?_; (case hd => rfl); (case hg => rfl); (case hr => first | (go_simp; done) | (go_simp; rfl)); (case hp => exact (eW.one (show Kd.M (Kd.int .i64) _ _ _ (Int.tmod (wrap64 ((wrap64 ((rd l0 (b0)) * (rd l1 (b0)))) + (wrap64 ((Int.tmod (wrap64 ((rd l0 (a0)) * (rd l1 (a0)))) 3329) * R0)))) 3329) [.int .i64 (Int.tmod (wrap64 ((wrap64 ((rd l0 (b0)) * (rd l1 (b0)))) + (wrap64 ((Int.tmod (wrap64 ((rd l0 (a0)) * (rd l1 (a0)))) 3329) * R0)))) 3329)] from rfl) (eW.one (show Kd.M (Kd.int .i64) _ _ _ (Int.tmod (wrap64 ((wrap64 ((rd l0 (b0)) * (rd l1 (a0)))) + (wrap64 ((rd l0 (a0)) * (rd l1 (b0)))))) 3329) [.int .i64 (Int.tmod (wrap64 ((wrap64 ((rd l0 (b0)) * (rd l1 (a0)))) + (wrap64 ((rd l0 (a0)) * (rd l1 (b0)))))) 3329)] from rfl) (eW.none _ _))))
  intro K2 N2 Q0 hb hg_ hnew_
  clear hg_ hnew_
  (first | rw [← V0.o] at Q0 | (simp only [Int.reduceToNat] at Q0; rw [← V0.o] at Q0))
  obtain ⟨d0, K0, HB⟩ := b_ (vj (rR_ d0.o) (vg Q0) hb) <| b_ (vb (vp Q0 (vE (rR_ d0.o))) (au (hB_))) <| sB_
  clear hb Q0
  obtain ⟨n2, p2, O1⟩ := uY K0.o
  (first | subst O1 | (injection O1 with f1_ f2_ f3_; have f4_ := f1_.symm; have f5_ := f3_.symm; clear f1_ f2_ f3_; subst f4_; subst f5_))
  refine hK _ _ ⟨(hc_ E0), (hc_ F0), (hc_ G0), (hc_ H0), (hc_ I0), (hc_ J0)⟩ (fun hHeld => ?_)
  clear hK K
  refine dH (a' := ?_) ?_ ?_
  rotate_left
  ·show Act.put _ (some 85) _ = _
   simp only [Act.put, List.setIfInBounds_toArray, List.set_cons_zero, List.set_cons_succ, bq, ct]
   rfl
  refine fB (i := 42) (N := some 86) (bb_ 44 8796093022207) rfl rfl (cz HT_.o (by kernel_rfl)) (by decide) (fun K hK => ?_)
  refine vK (Kd.int .i64) (w0 := w) w.heap.size (by rfl) (.tmp 44) (.tmp 85) 45 3 (.int .i64 0) 8 rfl Tryz.underlying45 df rfl (by decide) (by omega) u5 P0 X0 _ _ _ (fun k_ => some k_ ≠ (.slice n2 X0.length p2 : Value).ownBlock) (fun _ => False) rfl rfl ?aO ?aR (fun _ _ h => h) (fun _ h => h.elim) ?aF ?aB ?aS ?aL ?_
  (case aR => exact cR_ (uX K0.o).2.2)
  (case aB => exact (hB_))
  (case aF => exact (fun k_ hk => Kd.fresh' (vE (rR_ K0.o)) k_ hk))
  (case aO => exact (by refine kR_ ?_; exact va d0.o (fun _ hk => hk.2)))
  (case aS => exact (au (hB_)))
  (case aL => have := G1.o; omega)
  intro L2 O2 ho hb hg hat
  rw [← H1.o] at ho
  obtain ⟨K0, HB, P1⟩ := b_ (vx (ok := (fun _ => True)) (rR_ K0.o) hg hat) <| b_ (hb) <| c_ (ho)
  clear ho hb hg hat
  refine hK _ _ ⟨(hc_ E0), (hc_ F0), (hc_ G0), (hc_ H0), (hc_ I0), (hc_ J0)⟩ (fun hHeld => ?_)
  clear hK K
  refine dH (a' := ?_) ?_ ?_
  rotate_left
  ·show Act.put _ (some 86) _ = _
   simp only [Act.put, List.setIfInBounds_toArray, List.set_cons_zero, List.set_cons_succ, bq, ct]
   rfl
  refine pT_ 43 5 44 17592186044415 ?_
  refine fq (dA HT_.o (by kernel_rfl)) ?_
  try go_wp2
  go_roundg k2
  case measure => have := t2.o; have := y2.o; omega
  case rel => exact ⟨(Z1), (wrap64 (D0 + 1)), f0_, H', ⟨by have := t2.o; have := y2.o; omega⟩, ⟨by refine kR_ ?_; exact va P1.o (fun _ hk => trivial)⟩, ⟨hB_⟩⟩
def bb.l0 : Nat → List (List Int) → List (List Int) → List Int → Int → Option (List Int)
 | 0, _, _, _, _ => none
 | k + 1, x0, x1, x5, x6 => if x6 < (x0.length : Int) then (if 0 ≤ x6 then (if x6 < (x1.length : Int) then ((az.f k (dE x0 x6) (dE x1 x6)).bind fun t625 => ((aM.f k x5 t625).bind fun t628 => (bb.l0 k x0 x1 t628 (wrap64 (x6 + 1))))) else (none)) else (none)) else (some x5)
def bb.f (k : Nat) (l0 : List (List Int)) (l1 : List (List Int)) : Option (List Int) := if 256 ≤ 35184372088832 then (bb.l0 k l0 l1 (List.replicate 256 0) 0) else (none)
theorem bb.mono_l : ∀ k, (∀ y0 y1 y2 y3, LeO (bb.l0 k y0 y1 y2 y3) (bb.l0 (k + 1) y0 y1 y2 y3))
 | 0 => fun _ _ _ _ r h => by simp [bb.l0] at h
 | k + 1 => by
  have ih0 := bb.mono_l k
  intros; unfold bb.l0; exact o3_ ih0 az.mono aM.mono
theorem bb.mono : ∀ a0 a1 k, LeO (bb.f k a0 a1) (bb.f (k + 1) a0 a1) := by
 intro a0 a1 k
 have ih0 := bb.mono_l k
 unfold bb.f
 exact o3_ ih0 az.mono aM.mono
def bb.T5 : Bool × List (List Nat × List Nat) := (true, [([], []), ([], []), ([], []), ([1, 2], [1, 2]), ([3], [3]), ([], []), ([], []), ([5, 6], [5, 6]), ([7], [7]), ([4, 8], [4, 8]), ([0, 9, 9], [0, 9]), ([10, 10, 0, 1, 2, 3, 4, 5, 6, 7, 8, 9, 10], [0, 10])])
def bb.B5 : List Nat := [0, 0, 0, 6, 14, 0, 0, 96, 224, 510, 1023, 2047]
theorem bb.tab5 : eu .any (fu Tryz.f30 5) = bb.T5 := by kernel_rfl
theorem bb.bits5 : dd bb.T5.2 bb.B5 = true := by kernel_rfl
theorem bb.calls (k : Nat) (A0 : Option Addr) (c0 : Nat) (l0 : List (List Int)) (A1 : Option Addr) (c1 : Nat) (l1 : List (List Int)) (r : List Int) (w : World) (hr0 : Kd.C (Kd.slice 3 (Kd.int .i64)) w A0 l0.length l0) (hc0 : l0.length ≤ c0) (hr1 : Kd.C (Kd.slice 3 (Kd.int .i64)) w A1 l1.length l1) (hc1 : l1.length ≤ c1) (h : bb.f k l0 l1 = some r) :
  Calls Tryz.prog 30 #[.slice A0 l0.length c0, .slice A1 l1.length c1] w fun e w' => ∃ j1 : Value, e = .returned (j1) ∧ Kd.R (Kd.int .i64) 3 w' w.heap.size (fun _ => True) j1 r ∧ Below w.heap.size w w' := by
 have n1 := c_ hr0
 have E1 := c_ hc0
 clear hr0 hc0
 have p1 := c_ hr1
 have F1 := c_ hc1
 clear hr1 hc1
 have HB := c_ (Da w.heap.size w)
 delta bb.f at h
 have H := h
 clear h
 obtain ⟨c3, H⟩ := iN_ H
 have q1 := Aa c3
 have r1 := ya c3
 clear c3
 obtain ⟨X0, n0⟩ : ∃ y_ : List Int, y_ = (List.replicate 256 0) := ⟨_, rfl⟩
 first | replace H := yb_ n0 H | rw [← n0] at H
 have I0 := c_ n0
 clear n0
 have H' := c_ H
 clear H
 go_enter Tryz.func30, Tryz.ntmps30
 go_wp2_with (first | ((refine cO (N := 7) rfl ?_); refine vu (Kd.int .i64) _ 3 rfl (N := 7) rfl 45 _ _ rfl 256 rfl rfl Tryz.underlying45 (.int .i64 0) 8 df rfl (by decide) (by omega) 0 (ok := fun _ => True) (okp := fun _ => True) rfl (fun _ hk => hk) trivial (by omega) (by omega) (Da _ _) (Ca _) ?_; intro t1 w4 P0 hb hg_ hnew_; clear hg_ hnew_; (first | rw [← I0.o] at P0 | (simp only [Int.reduceToNat] at P0; rw [← I0.o] at P0)); obtain ⟨Q0, HB⟩ := b_ (vb P0 (au (hB_))) <| sB_; clear hb P0))
 go_loopg [5, 6] k (fun kq v5 v6 w' => ∃ (B0 : List Int) (a0 : Int), v6 = .int .i64 a0 ∧ aa (bb.l0 kq l0 l1 B0 a0 = some r) ∧ aa (kq ≤ k) ∧ aa (Kd.R (Kd.int .i64) 3 w' w.heap.size (fun _ => True) v5 B0) ∧ aa (Below w.heap.size w w'))
 case atStart => exact ⟨(X0), (0), f0_, H', ⟨Ca _⟩, ⟨rR_ Q0.o⟩, ⟨hB_⟩⟩
 clear H'
 obtain ⟨B0, a0, rfl, HA, m1, b0, HB⟩ := hrel
 rcases gk with _ | k1
 ·exact absurd HA.o (by simp [bb.l0])
 have H := HA.o
 clear HA
 simp only [bb.l0] at H
 by_cases c6 : a0 < (l0.length : Int)
 rotate_left
 ·rw [Ga c6] at H
  have Y0 := za c6
  clear c6
  obtain rfl := Ba H
  go_wp2
  go_ret
  exact ⟨_, f1_, rR_ b0.o, hB_⟩
 rw [Fa c6] at H
 have Y0 := ya c6
 clear c6
 obtain ⟨y1, H⟩ := iD_ H
 obtain ⟨z1, H⟩ := iD_ H
 obtain ⟨J0, A9, H⟩ := bN_ H
 obtain ⟨R0, B1, H⟩ := bN_ H
 have H' := c_ H
 clear H
 try go_wp2
 obtain ⟨b0, HB⟩ := b_ (vl b0.o) <| c_ (bx HB.o)
 have K0 : 0 ≤ (a0 : Int) := oD_
 have L0 : a0 < (l0.length : Int) := oD_
 obtain ⟨S0, C0, D0, Z0, d0, p0, q0⟩ := kP n1.o a0 K0 L0
 have j0 := d0
 cases Z0
 replace d0 := hc_ d0
 have r0 := c_ q0
 have G0 := c_ p0
 clear q0 p0
 replace K0 := Aa K0
 replace L0 := Aa L0
 have M0 : 0 ≤ (a0 : Int) := oD_
 have N0 : a0 < (l1.length : Int) := oD_
 obtain ⟨T0, E0, F0, b1, e0, v0, x0⟩ := kP p1.o a0 M0 N0
 have k0 := e0
 cases b1
 replace e0 := hc_ e0
 have y0 := c_ x0
 have H0 := c_ v0
 clear x0 v0
 replace M0 := Aa M0
 replace N0 := Aa N0
 refine ej (n := 12) (S := fun w' => w'.cell? (S0.add (a0).toNat) = some (.slice C0 (dE l0 a0).length D0) ∧ w'.cell? (T0.add (a0).toNat) = some (.slice E0 (dE l1 a0).length F0)) (ds := []) (bb_ 12 0) (by kernel_rfl) rfl rfl ⟨(hc_ j0), (hc_ k0)⟩ (fun hHeld => ?_); refine cK bb.tab5 bb.bits5 (fun HT_ HW_ => ?_)
 generalize wr.drew = G1 at b0 HB r0 y0 d0 e0 hHeld ⊢
 refine pT_ 0 14 12 1 ?_
 refine pT_ 1 15 12 3 ?_
 refine pT_ 2 16 12 7 ?_
 refine pT_ 3 17 12 15 ?_
 refine pT_ 5 19 12 47 ?_
 refine pT_ 6 20 12 111 ?_
 refine pT_ 7 21 12 239 ?_
 refine tS_ 4 18 (bb_ 12 255) (bA HT_.o HW_.o (by kernel_rfl)) hHeld ?_
 refine tS_ 8 22 (bb_ 12 511) (bA HT_.o HW_.o (by kernel_rfl)) hHeld ?_
 refine fB (i := 9) (N := some 23) (bb_ 12 1023) rfl rfl (cz HT_.o (by kernel_rfl)) (by decide) (fun K hK => ?_)
 refine fj Tryz.func63 (by kernel_rfl) rfl #[.slice C0 (dE l0 a0).length D0, .slice E0 (dE l1 a0).length F0] (by rfl) rfl rfl aM_ ?_
 with_reducible refine (az.calls k1 _ _ (dE l0 a0) _ _ (dE l1 a0) J0 _ ?side1 ?side2 ?side3 ?side4 A9.o).mono ?_
 (case side1 => exact cR_ (vf r0.o HB.o))
 (case side2 => exact G0.o)
 (case side3 => exact cR_ (vf y0.o HB.o))
 (case side4 => exact H0.o)
 rintro e H1 ⟨C1, rfl, O0, hb⟩
 refine ⟨_, rfl, ?_⟩
 obtain ⟨b0, f0, HB⟩ := b_ (vj (rR_ b0.o) (vg O0) hb) <| b_ (vb (vp O0 (vE (rR_ b0.o))) (au (hB_))) <| sB_
 obtain ⟨e1, f1, U0⟩ := uY b0.o
 (first | subst U0 | (injection U0 with f1_ f2_ f3_; have f4_ := f1_.symm; have f5_ := f3_.symm; clear f1_ f2_ f3_; subst f4_; subst f5_))
 obtain ⟨g1, i1, V0⟩ := uY f0.o
 (first | subst V0 | (injection V0 with f1_ f2_ f3_; have f4_ := f1_.symm; have f5_ := f3_.symm; clear f1_ f2_ f3_; subst f4_; subst f5_))
 refine hK _ _ ⟨(hc_ j0), (hc_ k0)⟩ (fun hHeld => ?_)
 clear hK K
 refine dH (a' := ?_) ?_ ?_
 rotate_left
 ·show Act.put _ (some 23) _ = _
  simp only [Act.put, List.setIfInBounds_toArray, List.set_cons_zero, List.set_cons_succ, bq, ct]
  rfl
 refine fB (i := 10) (N := some 24) (bb_ 12 2047) rfl rfl (cz HT_.o (by kernel_rfl)) (by decide) (fun K hK => ?_)
 refine fj Tryz.func29 (by kernel_rfl) rfl #[.slice e1 B0.length f1, .slice g1 J0.length i1] (by rfl) rfl rfl aM_ ?_
 with_reducible refine (aM.calls k1 _ _ B0 _ _ J0 R0 _ ?side1 ?side2 ?side3 ?side4 B1.o).mono ?_
 (case side1 => exact cR_ (uX b0.o).2.2)
 (case side2 => exact (uX b0.o).2.1)
 (case side3 => exact cR_ (uX f0.o).2.2)
 (case side4 => exact (uX f0.o).2.1)
 rintro e I1 ⟨D1, rfl, O0, hb⟩
 refine ⟨_, rfl, ?_⟩
 obtain ⟨b0, f0, W0, HB⟩ := b_ (vj (rR_ b0.o) (vg O0) hb) <| b_ (vj (rR_ f0.o) (vg O0) hb) <| b_ (vb (vp (vp O0 (vE (rR_ b0.o))) (vE (rR_ f0.o))) (au (hB_))) <| sB_
 refine hK _ _ ⟨(hc_ j0), (hc_ k0)⟩ (fun hHeld => ?_)
 clear hK K
 refine dH (a' := ?_) ?_ ?_
 rotate_left
 ·show Act.put _ (some 24) _ = _
  simp only [Act.put, List.setIfInBounds_toArray, List.set_cons_zero, List.set_cons_succ, bq, ct]
  rfl
 refine pT_ 11 5 12 4095 ?_
 refine fq (dA HT_.o (by kernel_rfl)) ?_
 try go_wp2
 go_roundg k1
 case measure => have := m1.o; omega
 case rel => exact ⟨(R0), (wrap64 (a0 + 1)), f0_, H', ⟨by have := m1.o; omega⟩, ⟨by refine kR_ ?_; exact va W0.o (fun _ hk => trivial)⟩, ⟨hB_⟩⟩
mutual
def ar.j0 : Nat → ByteArray → Int → Int → Bool → Option (List Int × Bool)
 | 0, _, _, _, _ => none
 | k + 1, x0, x1, x2, x30 => if x30 = true then (some (([] : List Int), false)) else (ar.l0 k x0 x1 ([] : List Int) x2 0)
def ar.l0 : Nat → ByteArray → Int → List Int → Int → Int → Option (List Int × Bool)
 | 0, _, _, _, _, _ => none
 | k + 1, x0, x1, x8, x31, x32 => if x32 < x31 then (ar.l1 k x0 x1 x8 x32 0 x31 x32 x1 0) else ((aq.f k x8 x1).bind fun t672 => (if t672.toList = x0.toList then (some (x8, true)) else (some (([] : List Int), false))))
def ar.l1 : Nat → ByteArray → Int → List Int → Int → Int → Int → Int → Int → Int → Option (List Int × Bool)
 | 0, _, _, _, _, _, _, _, _, _ => none
 | k + 1, x0, x1, x8, x9, x10, x31, x32, x35, x36 => if x36 < x35 then (if 0 ≤ (wrap64 (Int.tdiv (wrap64 ((wrap64 (x9 * x1)) + x36)) 8)) then (if (wrap64 (Int.tdiv (wrap64 ((wrap64 (x9 * x1)) + x36)) 8)) < (x0.size : Int) then (if 0 ≤ (Int.tmod (wrap64 ((wrap64 (x9 * x1)) + x36)) 8) then (if 0 ≤ x36 then (ar.l1 k x0 x1 x8 x9 (Go.bits .or .i64 x10 (shl .i64 (wrap64 (Go.bits .and .u8 (shr .u8 (bt x0 (wrap64 (Int.tdiv (wrap64 ((wrap64 (x9 * x1)) + x36)) 8))) (Int.tmod (wrap64 ((wrap64 (x9 * x1)) + x36)) 8)) 1)) x36)) x31 x32 x35 (wrap64 (x36 + 1))) else (none)) else (none)) else (none)) else (none)) else (if x8.length < 17592186044416 then (ar.l0 k x0 x1 (x8 ++ [x10]) x31 (wrap64 (x32 + 1))) else (none))
end
def ar.f (k : Nat) (a0 : ByteArray) (a1 : Int) (a2 : Int) : Option (List Int × Bool) := (b7.f a1 1 12).bind fun t670 => (if t670 = true then ((b7.f a2 0 1000).bind fun t671 => (if t671 = true then (ar.j0 k a0 a1 a2 ((a0.size : Int) != (wrap64 (Int.tdiv (wrap64 ((wrap64 (a2 * a1)) + 7)) 8)))) else (ar.j0 k a0 a1 a2 true))) else (ar.j0 k a0 a1 a2 true))
theorem ar.mono_l : ∀ k, (∀ y0 y1 y2 y3, LeO (ar.j0 k y0 y1 y2 y3) (ar.j0 (k + 1) y0 y1 y2 y3)) ∧ (∀ y0 y1 y2 y3 y4, LeO (ar.l0 k y0 y1 y2 y3 y4) (ar.l0 (k + 1) y0 y1 y2 y3 y4)) ∧ (∀ y0 y1 y2 y3 y4 y5 y6 y7 y8, LeO (ar.l1 k y0 y1 y2 y3 y4 y5 y6 y7 y8) (ar.l1 (k + 1) y0 y1 y2 y3 y4 y5 y6 y7 y8))
 | 0 => ⟨fun _ _ _ _ r h => by simp [ar.j0] at h, fun _ _ _ _ _ r h => by simp [ar.l0] at h, fun _ _ _ _ _ _ _ _ _ r h => by simp [ar.l1] at h⟩
 | k + 1 => by
  obtain ⟨ih0, ih1, ih2⟩ := ar.mono_l k
  refine ⟨?_, ?_, ?_⟩ <;> (intros; (first | unfold ar.j0 | unfold ar.l0 | unfold ar.l1); exact o4_ ih0 ih1 ih2 aq.mono)
theorem ar.mono : ∀ a0 a1 a2 k, LeO (ar.f k a0 a1 a2) (ar.f (k + 1) a0 a1 a2) := by
 intro a0 a1 a2 k
 obtain ⟨ih0, ih1, ih2⟩ := ar.mono_l k
 unfold ar.f
 exact o4_ ih0 ih1 ih2 aq.mono
theorem ar.calls (k : Nat) (a0 : ByteArray) (a1 : Int) (a2 : Int) (r1 : List Int) (r2 : Bool) (w : World) (h : ar.f k a0 a1 a2 = some (r1, r2)) :
  Calls Tryz.prog 66 #[.string a0, .int .i64 a1, .int .i64 a2] w fun e w' => ∃ i1 : Value, e = .returned (.tuple #[i1, .bool r2]) ∧ Kd.R (Kd.int .i64) 3 w' w.heap.size (fun _ => True) i1 r1 ∧ Below w.heap.size w w' := by
 have HB := c_ (Da w.heap.size w)
 delta ar.f at h
 have H := h
 clear h
 have U0 := c_ H
 clear H
 go_enter Tryz.func66, Tryz.ntmps66
 go_upto_region 1 with (fail)
 go_cut [30] (fun B1 wc => ∃ (kq : Nat) (q0 : Bool), B1 = .bool q0 ∧ aa (ar.j0 kq a0 a1 a2 q0 = some (r1, r2)) ∧ aa (kq ≤ k) ∧ aa (Below w.heap.size w wc))
 case first =>
  have H := U0.o
  clear U0
  obtain ⟨V0, A5, H⟩ := bN_ H
  by_cases c6 : V0 = true
  ·subst c6
   replace H := iT_ H
   obtain ⟨W0, A7, H⟩ := bN_ H
   by_cases c8 : W0 = true
   ·subst c8
    replace H := iT_ H
    have H' := c_ H
    clear H
    go_wp2_with (first | (refine gp_ (k_ 14 Tryz.func92) (b7.calls _ _ _ _ _ A5.o) fun nd => ?_) | (go_at_call 92; refine mp_ (b7.calls _ _ _ _ _ A7.o) fun nd => ?_))
    go_meet
    case rel => exact ⟨_, (((a0.size : Int) != (wrap64 (Int.tdiv (wrap64 ((wrap64 (a2 * a1)) + 7)) 8)))), f0_, H', ⟨by first | omega | exact Ca _⟩, ⟨hB_⟩⟩
   ·replace c8 := Ea c8
    subst c8
    replace H := iF_ H
    have H' := c_ H
    clear H
    go_wp2_with (first | (refine gp_ (k_ 14 Tryz.func92) (b7.calls _ _ _ _ _ A5.o) fun nd => ?_) | (go_at_call 92; refine mp_ (b7.calls _ _ _ _ _ A7.o) fun nd => ?_))
    go_meet
    case rel => exact ⟨_, (true), f0_, H', ⟨by first | omega | exact Ca _⟩, ⟨hB_⟩⟩
  ·replace c6 := Ea c6
   subst c6
   replace H := iF_ H
   have H' := c_ H
   clear H
   go_wp2_with (first | (refine gp_ (k_ 14 Tryz.func92) (b7.calls _ _ _ _ _ A5.o) fun nd => ?_))
   go_meet
   case rel => exact ⟨_, (true), f0_, H', ⟨by first | omega | exact Ca _⟩, ⟨hB_⟩⟩
 clear U0
 obtain ⟨kq, q0, rfl, HA, R0, HB⟩ := hcut
 rcases kq with _ | j1
 ·exact absurd HA.o (by simp [ar.j0])
 have H := HA.o
 clear HA
 simp only [ar.j0] at H
 by_cases c9 : q0 = true
 ·subst c9
  replace H := iT_ H
  simp only [Option.some.injEq, Prod.mk.injEq] at H
  obtain ⟨rfl, rfl⟩ := H
  go_wp2
  go_ret2
  exact ⟨_, f1_, by first | exact vB _ _ _ _ _ | exact Kd.N_nil _ _ _ _ _ | exact Kd.V_nil _ _ _ _ _ | exact Kd.Q_nil _ _ _ _ _ | exact vC _ _ _ _ _, hB_⟩
 ·replace c9 := Ea c9
  subst c9
  replace H := iF_ H
  have H' := c_ H
  clear H
  go_wp2
  go_loopg [8, 32] j1 (fun kq v8 C1 w' => ∃ (x0 : List Int) (d0 : Int), C1 = .int .i64 d0 ∧ aa (ar.l0 kq a0 a1 x0 a2 d0 = some (r1, r2)) ∧ aa (kq ≤ j1) ∧ aa (Kd.R (Kd.int .i64) 3 w' w.heap.size (fun _ => True) v8 x0) ∧ aa (Below w.heap.size w w'))
  case atStart => exact ⟨(([] : List Int)), (0), f0_, H', ⟨Ca _⟩, ⟨by first | exact vB _ _ _ _ _ | exact Kd.N_nil _ _ _ _ _ | exact Kd.V_nil _ _ _ _ _ | exact Kd.Q_nil _ _ _ _ _ | exact vC _ _ _ _ _⟩, ⟨hB_⟩⟩
  clear H'
  obtain ⟨x0, d0, rfl, HA, S0, e0, HB⟩ := hrel
  rcases gk with _ | k2
  ·exact absurd HA.o (by simp [ar.l0])
  have H := HA.o
  clear HA
  simp only [ar.l0] at H
  by_cases I0 : d0 < a2
  rotate_left
  ·rw [Ga I0] at H
   have K0 := za I0
   clear I0
   obtain ⟨y0, m1, H⟩ := bN_ H
   by_cases F0 : y0.toList = a0.toList
   ·rw [Fa F0] at H
    have L0 : (y0.toList == a0.toList) = true := beq_iff_eq.mpr F0
    have M0 : (y0.toList != a0.toList) = false := bne_eq_false_iff_eq.mpr F0
    clear F0
    simp only [Option.some.injEq, Prod.mk.injEq] at H
    obtain ⟨rfl, rfl⟩ := H
    obtain ⟨D1, E1, X0⟩ := uY e0.o
    subst X0
    go_wp2_with (first | (refine gc_ (k_ 65 Tryz.func39) (aq.calls _ _ _ _ _ _ _ (cR_ (uX e0.o).2.2) ((uX e0.o).2.1) m1.o) fun L1 hb => ?_; obtain ⟨e0, HB⟩ := n_ (fR_ e0) <| sB_))
    go_ret2
    exact ⟨_, f1_, rR_ e0.o, hB_⟩
   rw [Ga F0] at H
   have L0 : (y0.toList == a0.toList) = false := beq_eq_false_iff_ne.mpr F0
   have M0 : (y0.toList != a0.toList) = true := bne_iff_ne.mpr F0
   simp only [Option.some.injEq, Prod.mk.injEq] at H
   obtain ⟨rfl, rfl⟩ := H
   obtain ⟨F1, G1, Y0⟩ := uY e0.o
   subst Y0
   go_wp2_with (first | (refine gc_ (k_ 65 Tryz.func39) (aq.calls _ _ _ _ _ _ _ (cR_ (uX e0.o).2.2) ((uX e0.o).2.1) m1.o) fun M1 hb => ?_; obtain ⟨e0, HB⟩ := n_ (fR_ e0) <| sB_))
   go_ret2
   exact ⟨_, f1_, by first | exact vB _ _ _ _ _ | exact Kd.N_nil _ _ _ _ _ | exact Kd.V_nil _ _ _ _ _ | exact Kd.Q_nil _ _ _ _ _ | exact vC _ _ _ _ _, hB_⟩
  rw [Fa I0] at H
  have K0 := ya I0
  clear I0
  have H' := c_ H
  clear H
  go_wp2
  go_loopg [10, 36] k2 (fun kq H1 I1 w' => ∃ (f0 : Int) (b0 : Int), H1 = .int .i64 f0 ∧ I1 = .int .i64 b0 ∧ aa (ar.l1 kq a0 a1 x0 d0 f0 a2 d0 a1 b0 = some (r1, r2)) ∧ aa (kq ≤ k2) ∧ aa (Kd.R (Kd.int .i64) 3 w' w.heap.size (fun _ => True) u8 x0) ∧ aa (Below w.heap.size w w'))
  case atStart => exact ⟨(0), (0), f0_, f0_, H', ⟨Ca _⟩, ⟨rR_ e0.o⟩, ⟨hB_⟩⟩
  clear H'
  obtain ⟨f0, b0, rfl, rfl, HA, T0, e0, HB⟩ := hrel
  rcases gk with _ | k3
  ·exact absurd HA.o (by simp [ar.l1])
  have H := HA.o
  clear HA
  simp only [ar.l1] at H
  by_cases J0 : b0 < a1
  rotate_left
  ·rw [Ga J0] at H
   have N0 := za J0
   clear J0
   obtain ⟨n1, H⟩ := iN_ H
   have O0 := c_ n1
   clear n1
   obtain ⟨Z0, r0⟩ : ∃ y_ : List Int, y_ = (x0 ++ [f0]) := ⟨_, rfl⟩
   first | replace H := yb_ r0 H | rw [← r0] at H
   have P0 := c_ r0
   clear r0
   have H' := c_ H
   clear H
   go_wp2_with (first | (refine ga_ 58 60 ?_; (try (refine bi (by rfl) ?_; dsimp only)); at_builtin; refine ap_ e0 P0 O0 Tryz.underlying45 df fun J1 N1 Q0 HB hg hat => ?_))
   go_roundg k3
   case measure => have := R0.o; have := S0.o; have := T0.o; omega
   case rel => exact ⟨(Z0), (wrap64 (d0 + 1)), f0_, H', ⟨by have := R0.o; have := S0.o; have := T0.o; omega⟩, ⟨rR_ Q0.o⟩, ⟨hB_⟩⟩
  rw [Fa J0] at H
  have N0 := ya J0
  clear J0
  obtain ⟨n0, B0⟩ : ∃ j_ : Int, (wrap64 (Int.tdiv (wrap64 ((wrap64 (d0 * a1)) + b0)) 8)) = j_ := ⟨_, rfl⟩
  first | rw [B0] at H | simp only [B0] at H
  have b1 : (IntKind.i64.wrap (Int.tdiv (wrap64 ((wrap64 (d0 * a1)) + b0)) 8)) = n0 := (bq _).trans B0
  obtain ⟨p1, H⟩ := iD_ H
  obtain ⟨q1, H⟩ := iD_ H
  obtain ⟨D0, E0⟩ : ∃ j_ : Int, (Int.tmod (wrap64 ((wrap64 (d0 * a1)) + b0)) 8) = j_ := ⟨_, rfl⟩
  first | rw [E0] at H | simp only [E0] at H
  obtain ⟨c1, H⟩ := iN_ H
  have t1 := Aa c1
  have y1 := ya c1
  clear c1
  obtain ⟨p0, v0⟩ : ∃ j_ : Int, (shr .u8 (bt a0 (n0)) (D0)) = j_ := ⟨_, rfl⟩
  first | rw [v0] at H | simp only [v0] at H
  have e1 : ((bt a0 (n0)) / 2 ^ min (D0).toNat 8) = p0 := v0
  have f1 : (D0) ≤ 8 → ((bt a0 (n0)) / 2 ^ (D0).toNat) = p0 := gf v0
  obtain ⟨g1, H⟩ := iN_ H
  have z1 := Aa g1
  have A1 := ya g1
  clear g1
  obtain ⟨C0, k0⟩ : ∃ j_ : Int, (shl .i64 (wrap64 (Go.bits .and .u8 (p0) 1)) b0) = j_ := ⟨_, rfl⟩
  first | rw [k0] at H | simp only [k0] at H
  have G0 : (IntKind.i64.wrap ((wrap64 (Go.bits .and .u8 (p0) 1)) * 2 ^ min b0.toNat 64)) = C0 := k0
  have H0 : b0 ≤ 64 → (IntKind.i64.wrap ((wrap64 (Go.bits .and .u8 (p0) 1)) * 2 ^ b0.toNat)) = C0 := fA k0
  have hji20y : (wrap64 ((wrap64 (Go.bits .and .u8 (p0) 1)) * 2 ^ min b0.toNat 64)) = C0 := (bq _).symm.trans G0
  have hji20x : b0 ≤ 64 → (wrap64 ((wrap64 (Go.bits .and .u8 (p0) 1)) * 2 ^ b0.toNat)) = C0 := fun h_ => (bq _).symm.trans (H0 h_)
  have H' := c_ H
  clear H
  have O1 := Aa (oD_ : 0 ≤ ((n0) : Int))
  have P1 := Aa (oD_ : (n0) < (a0.size : Int))
  have K1 := cQ a0 (n0)
  go_wp2
  go_roundg k3
  case measure => have := R0.o; have := S0.o; have := T0.o; omega
  case rel => exact ⟨(Go.bits .or .i64 f0 (C0)), (wrap64 (b0 + 1)), (by first | rfl | (simp; done) | (simp only [← k0] <;> (first | rfl | simp)) | (simp [*]; done)), f0_, H', ⟨by have := R0.o; have := S0.o; have := T0.o; omega⟩, ⟨rR_ e0.o⟩, ⟨hB_⟩⟩
def cu.f (k : Nat) (a0 : ByteArray) : Option (List Int × Bool) := (ar.f k a0 12 256).bind fun bt676 => (if bt676.2 = true then ((ap.f k bt676.1).bind fun t680 => (if t680 = true then (some (bt676.1, true)) else (some (([] : List Int), false)))) else (some (([] : List Int), false)))
theorem cu.mono : ∀ a0 k, LeO (cu.f k a0) (cu.f (k + 1) a0) := by
 intro a0 k
 unfold cu.f
 exact o2_ ap.mono ar.mono
theorem cu.calls (k : Nat) (a0 : ByteArray) (r1 : List Int) (r2 : Bool) (w : World) (h : cu.f k a0 = some (r1, r2)) :
  Calls Tryz.prog 64 #[.string a0] w fun e w' => ∃ j0 : Value, e = .returned (.tuple #[j0, .bool r2]) ∧ Kd.R (Kd.int .i64) 3 w' w.heap.size (fun _ => True) j0 r1 ∧ Below w.heap.size w w' := by
 have HB := c_ (Da w.heap.size w)
 delta cu.f at h
 have H := h
 clear h
 obtain ⟨⟨k0, e0⟩, A2, H⟩ := bN_ H
 by_cases c3 : e0 = true
 ·subst c3
  replace H := iT_ H
  obtain ⟨f0, A4, H⟩ := bN_ H
  by_cases c5 : f0 = true
  ·subst c5
   replace H := iT_ H
   simp only [Option.some.injEq, Prod.mk.injEq] at H
   obtain ⟨rfl, rfl⟩ := H
   go_enter Tryz.func64, Tryz.ntmps64
   go_wp2_with (first | (refine gR_ (k_ 8 Tryz.func66) (ar.calls _ _ _ _ _ _ _ A2.o) fun d0 w6 ho_ hb => ?_; obtain ⟨b0, HB⟩ := n_ (lR_ ho_) <| sB_; obtain ⟨q0, r0, n0⟩ := uY b0.o; subst n0) | (go_at_call 51; refine mp_ (ap.calls _ _ _ _ _ _ (cR_ (uX b0.o).2.2) ((uX b0.o).2.1) A4.o) fun nd => ?_))
   go_ret2
   exact ⟨_, f1_, rR_ b0.o, hB_⟩
  ·replace c5 := Ea c5
   subst c5
   replace H := iF_ H
   simp only [Option.some.injEq, Prod.mk.injEq] at H
   obtain ⟨rfl, rfl⟩ := H
   go_enter Tryz.func64, Tryz.ntmps64
   go_wp2_with (first | (refine gR_ (k_ 8 Tryz.func66) (ar.calls _ _ _ _ _ _ _ A2.o) fun d0 w8 ho_ hb => ?_; obtain ⟨b0, HB⟩ := n_ (lR_ ho_) <| sB_; obtain ⟨v0, x0, p0⟩ := uY b0.o; subst p0) | (go_at_call 51; refine mp_ (ap.calls _ _ _ _ _ _ (cR_ (uX b0.o).2.2) ((uX b0.o).2.1) A4.o) fun nd => ?_))
   go_ret2
   exact ⟨_, f1_, by first | exact vB _ _ _ _ _ | exact Kd.N_nil _ _ _ _ _ | exact Kd.V_nil _ _ _ _ _ | exact Kd.Q_nil _ _ _ _ _ | exact vC _ _ _ _ _, hB_⟩
 ·replace c3 := Ea c3
  subst c3
  replace H := iF_ H
  simp only [Option.some.injEq, Prod.mk.injEq] at H
  obtain ⟨rfl, rfl⟩ := H
  go_enter Tryz.func64, Tryz.ntmps64
  go_wp2_with (first | (refine gR_ (k_ 8 Tryz.func66) (ar.calls _ _ _ _ _ _ _ A2.o) fun d0 y0 ho_ hb => ?_; obtain ⟨b0, HB⟩ := n_ (lR_ ho_) <| sB_))
  go_ret2
  exact ⟨_, f1_, by first | exact vB _ _ _ _ _ | exact Kd.N_nil _ _ _ _ _ | exact Kd.V_nil _ _ _ _ _ | exact Kd.Q_nil _ _ _ _ _ | exact vC _ _ _ _ _, hB_⟩
def bg.l0 : Nat → ByteArray → List (List Int) → Int → Option ((List (List Int)) × Bool)
 | 0, _, _, _ => none
 | k + 1, x0, x4, x8 => if x8 < 2 then (if 0 ≤ (wrap64 (x8 * 384)) then (if (wrap64 (x8 * 384)) ≤ (wrap64 ((wrap64 (x8 + 1)) * 384)) then (if (wrap64 ((wrap64 (x8 + 1)) * 384)) ≤ (x0.size : Int) then ((cu.f k (x0.extract ((wrap64 (x8 * 384)) : Int).toNat ((wrap64 ((wrap64 (x8 + 1)) * 384)) : Int).toNat)).bind fun bt681 => (if bt681.2 = true then (if x4.length < 5864062014805 then (bg.l0 k x0 (x4 ++ [bt681.1]) (wrap64 (x8 + 1))) else (none)) else (some (([] : List (List Int)), false)))) else (none)) else (none)) else (none)) else (some (x4, true))
def bg.f (k : Nat) (a0 : ByteArray) : Option ((List (List Int)) × Bool) := bg.l0 k a0 ([] : List (List Int)) 0
theorem bg.mono_l : ∀ k, (∀ y0 y1 y2, LeO (bg.l0 k y0 y1 y2) (bg.l0 (k + 1) y0 y1 y2))
 | 0 => fun _ _ _ r h => by simp [bg.l0] at h
 | k + 1 => by
  have ih0 := bg.mono_l k
  intros; unfold bg.l0; exact o2_ ih0 cu.mono
theorem bg.mono : ∀ a0 k, LeO (bg.f k a0) (bg.f (k + 1) a0) := by
 intro a0 k
 have ih0 := bg.mono_l k
 unfold bg.f
 exact o2_ ih0 cu.mono
theorem bg.calls (k : Nat) (a0 : ByteArray) (r1 : List (List Int)) (r2 : Bool) (w : World) (h : bg.f k a0 = some (r1, r2)) :
  Calls Tryz.prog 31 #[.string a0] w fun e w' => ∃ H0 : Value, e = .returned (.tuple #[H0, .bool r2]) ∧ Kd.S (Kd.slice 3 (Kd.int .i64)) 45 w' w.heap.size (fun _ => True) H0 r1 ∧ Below w.heap.size w w' := by
 have HB := c_ (Da w.heap.size w)
 delta bg.f at h
 have H := h
 clear h
 have H' := c_ H
 clear H
 go_enter Tryz.func31, Tryz.ntmps31
 go_wp2
 go_loopg [4, 8] k (fun kq v4 v8 w' => ∃ (n0 : List (List Int)) (b0 : Int), v8 = .int .i64 b0 ∧ aa (bg.l0 kq a0 n0 b0 = some (r1, r2)) ∧ aa (kq ≤ k) ∧ aa (Kd.S (Kd.slice 3 (Kd.int .i64)) 45 w' w.heap.size (fun _ => True) v4 n0) ∧ aa (Below w.heap.size w w'))
 case atStart => exact ⟨(([] : List (List Int))), (0), f0_, H', ⟨Ca _⟩, ⟨by first | exact vC _ _ _ _ _ | exact Kd.N_nil _ _ _ _ _ | exact Kd.V_nil _ _ _ _ _ | exact Kd.Q_nil _ _ _ _ _ | exact vB _ _ _ _ _⟩, ⟨hB_⟩⟩
 clear H'
 obtain ⟨n0, b0, rfl, HA, I0, d0, HB⟩ := hrel
 rcases gk with _ | k1
 ·exact absurd HA.o (by simp [bg.l0])
 have H := HA.o
 clear HA
 simp only [bg.l0] at H
 by_cases c2 : b0 < 2
 rotate_left
 ·rw [Ga c2] at H
  have B0 := za c2
  clear c2
  simp only [Option.some.injEq, Prod.mk.injEq] at H
  obtain ⟨rfl, rfl⟩ := H
  go_wp2
  go_ret2
  exact ⟨_, f1_, by refine kS_ ?_; exact d0.o, hB_⟩
 rw [Fa c2] at H
 have B0 := ya c2
 clear c2
 obtain ⟨q0, j0⟩ : ∃ j_ : Int, (wrap64 (b0 * 384)) = j_ := ⟨_, rfl⟩
 first | rw [j0] at H | simp only [j0] at H
 have J0 : (IntKind.i64.wrap (b0 * 384)) = q0 := (bq _).trans j0
 obtain ⟨c4, H⟩ := iN_ H
 have K0 := Aa c4
 have L0 := ya c4
 clear c4
 obtain ⟨c5, H⟩ := iN_ H
 have M0 := Aa c5
 have N0 := ya c5
 obtain ⟨c6, H⟩ := iN_ H
 have O0 := Aa c6
 have P0 := ya c6
 obtain ⟨⟨k0, C0⟩, A7, H⟩ := bN_ H
 by_cases c8 : C0 = true
 ·subst c8
  replace H := iT_ H
  obtain ⟨c9, H⟩ := iN_ H
  have D0 := c_ c9
  clear c9
  obtain ⟨E0, e0⟩ : ∃ y_ : List (List Int), y_ = (n0 ++ [k0]) := ⟨_, rfl⟩
  first | replace H := yb_ e0 H | rw [← e0] at H
  have r0 := c_ e0
  clear e0
  have H' := c_ H
  clear H
  go_wp2_with (first | ((with_reducible refine eQ (f := 64) rfl ?_); refine iI (some 19) rfl rfl Tryz.func64 (by kernel_rfl) rfl #[.string (a0.extract ((q0) : Int).toNat ((wrap64 ((wrap64 (b0 + 1)) * 384)) : Int).toNat)] rfl (by (try simp only [List.map_toArray, List.map_cons, List.map_nil]); first | done | (simp only [j0]; rfl) | rfl | (simp only [List.length_drop, List.length_take]; rfl)) ?_; (with_reducible refine (cu.calls k1 (a0.extract ((q0) : Int).toNat ((wrap64 ((wrap64 (b0 + 1)) * 384)) : Int).toNat) k0 true _ A7.o).mono ?_); rintro e R0 ⟨F0, rfl, p0, hb⟩; refine ⟨_, rfl, ?_⟩; obtain ⟨d0, f0, HB⟩ := b_ (vd (rS_ d0.o) (vg p0) hb) <| b_ (vb p0 (au (hB_))) <| sB_; obtain ⟨v0, x0, G0⟩ := uY f0.o; subst G0) | ((refine cH (b := .append) (xs := #[.tmp 24, .tmp 26]) rfl ?_); at_builtin; refine vw (Kd.slice 3 (Kd.int .i64)) (w0 := w) w.heap.size rfl (.tmp 24) (.tmp 26) 41 45 (.slice none 0 0) 24 rfl Tryz.underlying41 gN rfl (by decide) (by omega) u4 n0 k0 [.slice v0 k0.length x0] (fun _ => True) (fun k_ => some k_ = (.slice v0 k0.length x0 : Value).ownBlock) rfl rfl ?aP (fun k_ hk_ => ((va (ok' := fun k_ => ((fun _ => True)) k_ ∧ some k_ ≠ (u4 : Value).ownBlock) (vh (f0.o) (vi d0.o) (by decide)) (fun k_ hk => ⟨trivial, hk.2⟩))).1 k_ hk_.symm) ?aF ?aO ?aB ?aS ?aL ?_; (case aP => exact vP (va (vA rfl (va (ok' := fun k_ => ((fun _ => True)) k_ ∧ some k_ ≠ (u4 : Value).ownBlock) (vh (f0.o) (vi d0.o) (by decide)) (fun k_ hk => ⟨trivial, hk.2⟩))) (fun _ h_ => h_))); (case aB => exact (hB_)); (case aF => exact (fun _ _ => trivial)); (case aO => exact (by refine kS_ ?_; exact vk d0.o (fun k_ hk => ⟨trivial, fun e_ => hk.2 e_⟩))); (case aS => exact (au (hB_))); (case aL => have := D0.o; omega); intro Q0 S0 ho hb hg hat; rw [← r0.o] at ho; obtain ⟨HB, y0⟩ := b_ (hb) <| c_ (ho); clear ho hb hg hat))
  go_roundg k1
  case measure => have := I0.o; omega
  case rel => exact ⟨(E0), (wrap64 (b0 + 1)), f0_, H', ⟨by have := I0.o; omega⟩, ⟨rS_ y0.o⟩, ⟨hB_⟩⟩
 ·replace c8 := Ea c8
  subst c8
  replace H := iF_ H
  simp only [Option.some.injEq, Prod.mk.injEq] at H
  obtain ⟨rfl, rfl⟩ := H
  go_wp2_with (first | ((with_reducible refine eQ (f := 64) rfl ?_); refine iI (some 19) rfl rfl Tryz.func64 (by kernel_rfl) rfl #[.string (a0.extract ((q0) : Int).toNat ((wrap64 ((wrap64 (b0 + 1)) * 384)) : Int).toNat)] rfl (by (try simp only [List.map_toArray, List.map_cons, List.map_nil]); first | done | (simp only [j0]; rfl) | rfl | (simp only [List.length_drop, List.length_take]; rfl)) ?_; (with_reducible refine (cu.calls k1 (a0.extract ((q0) : Int).toNat ((wrap64 ((wrap64 (b0 + 1)) * 384)) : Int).toNat) k0 false _ A7.o).mono ?_); rintro e T0 ⟨F0, rfl, p0, hb⟩; refine ⟨_, rfl, ?_⟩; obtain ⟨d0, f0, HB⟩ := b_ (vd (rS_ d0.o) (vg p0) hb) <| b_ (vb p0 (au (hB_))) <| sB_; (try clear p0)))
  go_ret2
  exact ⟨_, by first | rfl | (simp [eN, eL] <;> rfl) | (simp only [← j0]; first | rfl | (simp [eN, eL] <;> rfl)) | (simp [*, eN, eL] <;> rfl), by first | exact vC _ _ _ _ _ | exact Kd.N_nil _ _ _ _ _ | exact Kd.V_nil _ _ _ _ _ | exact Kd.Q_nil _ _ _ _ _ | exact vB _ _ _ _ _, hB_⟩
def ch.f (k : Nat) (a0 : ByteArray) : Option (Bool) := if (a0.size : Int) = 800 then ((bg.f k a0).bind fun bt688 => (some bt688.2)) else (some false)
theorem ch.mono : ∀ a0 k, LeO (ch.f k a0) (ch.f (k + 1) a0) := by
 intro a0 k
 unfold ch.f
 exact o1_ bg.mono
theorem ch.calls (k : Nat) (a0 : ByteArray) (r : Bool) (w : World) (h : ch.f k a0 = some r) :
  Calls Tryz.prog 8 #[.string a0] w fun e w' => e = .returned (.bool r) ∧ Below w.heap.size w w' := by
 have HB := c_ (Da w.heap.size w)
 delta ch.f at h
 have H := h
 clear h
 by_cases c2 : (a0.size : Int) = 800
 ·rw [Fa c2] at H
  have b0 : ((a0.size : Int) == 800) = true := beq_iff_eq.mpr c2
  have d0 : ((a0.size : Int) != 800) = false := bne_eq_false_iff_eq.mpr c2
  clear c2
  obtain ⟨⟨f0, j0⟩, A3, H⟩ := bN_ H
  obtain rfl := Ba H
  go_enter Tryz.func8, Tryz.ntmps8
  go_wp2_with (first | (refine gR_ (k_ 10 Tryz.func31) (bg.calls _ _ _ _ _ A3.o) fun k0 w4 ho_ hb => ?_; obtain ⟨e0, HB⟩ := n_ (lS_ ho_) <| sB_))
  go_ret
  exact ⟨f1_, hB_⟩
 rw [Ga c2] at H
 have b0 : ((a0.size : Int) == 800) = false := beq_eq_false_iff_ne.mpr c2
 have d0 : ((a0.size : Int) != 800) = true := bne_iff_ne.mpr c2
 obtain rfl := Ba H
 go_enter Tryz.func8, Tryz.ntmps8
 go_wp2
 go_ret
 exact ⟨f1_, hB_⟩
def dI.f (a0 : Int) (a1 : Int) : Option (Int) := (b7.f a1 1 11).bind fun t692 => (if t692 = true then (if 0 ≤ a1 then ((b7.f a0 0 (wrap64 ((shl .i64 1 a1) - 1))).bind fun t693 => (if t693 = true then (if 0 ≤ (wrap64 (a1 - 1)) then (some (shr .i64 (wrap64 ((wrap64 (3329 * a0)) + (shl .i64 1 (wrap64 (a1 - 1))))) a1)) else (none)) else (some 0))) else (none)) else (some 0))
theorem dI.calls (a0 : Int) (a1 : Int) (r : Int) (w : World) (h : dI.f a0 a1 = some r) :
  Calls Tryz.prog 69 #[.int .i64 a0, .int .i64 a1] w fun e w' => e = .returned (.int .i64 r) ∧ cr w w' := by
 delta dI.f at h
 have H := h
 clear h
 obtain ⟨y0, A3, H⟩ := bN_ H
 by_cases c4 : y0 = true
 ·subst c4
  replace H := iT_ H
  obtain ⟨c5, H⟩ := iN_ H
  have J0 := Aa c5
  have K0 := ya c5
  clear c5
  obtain ⟨v0, f0⟩ : ∃ j_ : Int, (shl .i64 1 a1) = j_ := ⟨_, rfl⟩
  first | rw [f0] at H | simp only [f0] at H
  (try rw [f0] at A3)
  have q0 : (IntKind.i64.wrap (1 * 2 ^ min a1.toNat 64)) = v0 := f0
  have r0 : a1 ≤ 64 → (IntKind.i64.wrap (1 * 2 ^ a1.toNat)) = v0 := fA f0
  have hji6u : (IntKind.i64.wrap (2 ^ min a1.toNat 64)) = v0 := by have h_ := q0; rw [Int.one_mul] at h_; exact h_
  have hji6v : a1 ≤ 64 → (IntKind.i64.wrap (2 ^ a1.toNat)) = v0 := fun hle_ => by have h_ := r0 hle_; rw [Int.one_mul] at h_; exact h_
  have hji6y : (wrap64 (1 * 2 ^ min a1.toNat 64)) = v0 := (bq _).symm.trans q0
  have hji6x : a1 ≤ 64 → (wrap64 (1 * 2 ^ a1.toNat)) = v0 := fun h_ => (bq _).symm.trans (r0 h_)
  obtain ⟨B0, A7, H⟩ := bN_ H
  by_cases c8 : B0 = true
  ·subst c8
   replace H := iT_ H
   obtain ⟨k0, j0⟩ : ∃ j_ : Int, (wrap64 (a1 - 1)) = j_ := ⟨_, rfl⟩
   first | rw [j0] at H | simp only [j0] at H
   (try rw [j0] at A3)
   (try rw [j0] at A7)
   have F0 : (IntKind.i64.wrap (a1 - 1)) = k0 := (bq _).trans j0
   obtain ⟨C0, H⟩ := iN_ H
   have G0 := Aa C0
   have H0 := ya C0
   clear C0
   obtain ⟨e0, b0⟩ : ∃ j_ : Int, (shl .i64 1 (k0)) = j_ := ⟨_, rfl⟩
   first | rw [b0] at H | simp only [b0] at H
   (try rw [b0] at A3)
   (try rw [b0] at A7)
   have n0 : (IntKind.i64.wrap (1 * 2 ^ min (k0).toNat 64)) = e0 := b0
   have p0 : (k0) ≤ 64 → (IntKind.i64.wrap (1 * 2 ^ (k0).toNat)) = e0 := fA b0
   have hji11u : (IntKind.i64.wrap (2 ^ min (k0).toNat 64)) = e0 := by have h_ := n0; rw [Int.one_mul] at h_; exact h_
   have hji11v : (k0) ≤ 64 → (IntKind.i64.wrap (2 ^ (k0).toNat)) = e0 := fun hle_ => by have h_ := p0 hle_; rw [Int.one_mul] at h_; exact h_
   have hji11y : (wrap64 (1 * 2 ^ min (k0).toNat 64)) = e0 := (bq _).symm.trans n0
   have hji11x : (k0) ≤ 64 → (wrap64 (1 * 2 ^ (k0).toNat)) = e0 := fun h_ => (bq _).symm.trans (p0 h_)
   have I0 := Aa (oD_ : 0 ≤ a1)
   obtain ⟨x0, d0⟩ : ∃ j_ : Int, (shr .i64 (wrap64 ((wrap64 (3329 * a0)) + (e0))) a1) = j_ := ⟨_, rfl⟩
   first | rw [d0] at H | simp only [d0] at H
   (try rw [d0] at A3)
   (try rw [d0] at A7)
   have D0 : ((wrap64 ((wrap64 (3329 * a0)) + (e0))) / 2 ^ min a1.toNat 64) = x0 := d0
   have E0 : a1 ≤ 64 → ((wrap64 ((wrap64 (3329 * a0)) + (e0))) / 2 ^ a1.toNat) = x0 := gf d0
   obtain rfl := Ba H
   go_enter Tryz.func69, Tryz.ntmps69
   go_wp2_with (first | (refine gp_ (k_ 6 Tryz.func92) (b7.calls _ _ _ _ _ A3.o) fun nd => ?_) | (go_at_call 92; refine mp_ (b7.calls _ _ _ _ _ A7.o) fun nd => ?_))
   go_ret
   exact ⟨by first | rfl | (simp; done) | (simp only [← f0, ← j0, ← b0, ← d0] <;> (first | rfl | simp)) | (simp [*]; done), d0_⟩
  ·replace c8 := Ea c8
   subst c8
   replace H := iF_ H
   obtain rfl := Ba H
   go_enter Tryz.func69, Tryz.ntmps69
   go_wp2_with (first | (refine gp_ (k_ 6 Tryz.func92) (b7.calls _ _ _ _ _ A3.o) fun nd => ?_) | (go_at_call 92; refine mp_ (b7.calls _ _ _ _ _ A7.o) fun nd => ?_))
   go_ret
   exact ⟨by first | rfl | (simp; done) | (simp only [← f0] <;> (first | rfl | simp)) | (simp [*]; done), d0_⟩
 ·replace c4 := Ea c4
  subst c4
  replace H := iF_ H
  obtain rfl := Ba H
  go_enter Tryz.func69, Tryz.ntmps69
  go_wp2_with (first | (refine gp_ (k_ 6 Tryz.func92) (b7.calls _ _ _ _ _ A3.o) fun nd => ?_))
  go_ret
  exact ⟨f0_, d0_⟩
def bC.l0 : Nat → ByteArray → List Int → Int → Int → Option (List Int)
 | 0, _, _, _, _ => none
 | k + 1, x0, x3, x7, x8 => if x8 < x7 then (if 0 ≤ (wrap64 (Int.tdiv x8 8)) then (if (wrap64 (Int.tdiv x8 8)) < (x0.size : Int) then (if 0 ≤ (Int.tmod x8 8) then ((dI.f (wrap64 (Go.bits .and .u8 (shr .u8 (bt x0 (wrap64 (Int.tdiv x8 8))) (Int.tmod x8 8)) 1)) 1).bind fun t697 => (if 0 ≤ x8 then (if x8 < (x3.length : Int) then (bC.l0 k x0 (x3.set (x8 : Int).toNat t697) x7 (wrap64 (x8 + 1))) else (none)) else (none))) else (none)) else (none)) else (none)) else (some x3)
def bC.f (k : Nat) (a0 : ByteArray) : Option (List Int) := if 256 ≤ 35184372088832 then ((some (List.replicate 256 0 : List Int)).bind fun y694 => (bC.l0 k a0 y694 (y694.length : Int) 0)) else (none)
theorem bC.mono_l : ∀ k, (∀ y0 y1 y2 y3, LeO (bC.l0 k y0 y1 y2 y3) (bC.l0 (k + 1) y0 y1 y2 y3))
 | 0 => fun _ _ _ _ r h => by simp [bC.l0] at h
 | k + 1 => by
  have ih0 := bC.mono_l k
  intros; unfold bC.l0; exact o1_ ih0
theorem bC.mono : ∀ a0 k, LeO (bC.f k a0) (bC.f (k + 1) a0) := by
 intro a0 k
 have ih0 := bC.mono_l k
 unfold bC.f
 exact o1_ ih0
theorem bC.calls (k : Nat) (a0 : ByteArray) (r : List Int) (w : World) (h : bC.f k a0 = some r) :
  Calls Tryz.prog 35 #[.string a0] w fun e w' => ∃ S0 : Value, e = .returned (S0) ∧ Kd.R (Kd.int .i64) 3 w' w.heap.size (fun _ => True) S0 r ∧ Below w.heap.size w w' := by
 have HB := c_ (Da w.heap.size w)
 delta bC.f at h
 have H := h
 clear h
 obtain ⟨c2, H⟩ := iN_ H
 have e1 := Aa c2
 have f1 := ya c2
 clear c2
 obtain ⟨p0, k0⟩ : ∃ y_ : List Int, y_ = (List.replicate 256 0) := ⟨_, rfl⟩
 first | replace H := yb_ k0 H | rw [← k0] at H
 have v0 := c_ k0
 clear k0
 have H' := c_ H
 clear H
 go_enter Tryz.func35, Tryz.ntmps35
 go_wp2_with (first | ((refine cO (N := 5) rfl ?_); refine vu (Kd.int .i64) _ 3 rfl (N := 5) rfl 45 _ _ rfl 256 rfl rfl Tryz.underlying45 (.int .i64 0) 8 df rfl (by decide) (by omega) 0 (ok := fun _ => True) (okp := fun _ => True) rfl (fun _ hk => hk) trivial (by omega) (by omega) (Da _ _) (Ca _) ?_; intro g1 w3 F0 hb hg_ hnew_; clear hg_ hnew_; (first | rw [← v0.o] at F0 | (simp only [Int.reduceToNat] at F0; rw [← v0.o] at F0)); obtain ⟨x0, HB⟩ := b_ (vb F0 (au (hB_))) <| sB_; clear hb F0; obtain ⟨T0, U0, i1⟩ := uY x0.o; subst i1))
 go_loopg [8] k (fun kq v8 w' => ∃ (j0 : List Int) (b0 : Int), v8 = .int .i64 b0 ∧ aa (bC.l0 kq a0 j0 (p0.length : Int) b0 = some r) ∧ aa (kq ≤ k) ∧ aa (Kd.R (Kd.int .i64) 3 w' w.heap.size (fun _ => True) (.slice T0 p0.length U0) j0) ∧ aa (Below w.heap.size w w'))
 case atStart => exact ⟨(p0), (0), f0_, H', ⟨Ca _⟩, ⟨rR_ x0.o⟩, ⟨hB_⟩⟩
 clear H'
 obtain ⟨j0, b0, rfl, HA, V0, d0, HB⟩ := hrel
 have e0 := (uX d0.o).1
 rw [e0] at d0
 (try simp only [e0])
 rcases gk with _ | k1
 ·exact absurd HA.o (by simp [bC.l0])
 have H := HA.o
 clear HA
 simp only [bC.l0] at H
 by_cases c6 : b0 < (p0.length : Int)
 rotate_left
 ·rw [Ga c6] at H
  have B0 := za c6
  (try simp only [e0] at B0)
  clear c6
  obtain rfl := Ba H
  go_wp2
  go_ret
  exact ⟨_, f1_, rR_ d0.o, hB_⟩
 rw [Fa c6] at H
 have B0 := ya c6
 (try simp only [e0] at B0)
 clear c6
 obtain ⟨C0, D0⟩ : ∃ j_ : Int, (wrap64 (Int.tdiv b0 8)) = j_ := ⟨_, rfl⟩
 first | rw [D0] at H | simp only [D0] at H
 have W0 : (IntKind.i64.wrap (Int.tdiv b0 8)) = C0 := (bq _).trans D0
 obtain ⟨j1, H⟩ := iD_ H
 obtain ⟨l1, H⟩ := iD_ H
 obtain ⟨q0, y0⟩ : ∃ j_ : Int, (Int.tmod b0 8) = j_ := ⟨_, rfl⟩
 first | rw [y0] at H | simp only [y0] at H
 obtain ⟨K0, H⟩ := iN_ H
 have X0 := Aa K0
 have Y0 := ya K0
 clear K0
 obtain ⟨r0, f0⟩ : ∃ j_ : Int, (shr .u8 (bt a0 (C0)) (q0)) = j_ := ⟨_, rfl⟩
 first | rw [f0] at H | simp only [f0] at H
 have L0 : ((bt a0 (C0)) / 2 ^ min (q0).toNat 8) = r0 := f0
 have M0 : (q0) ≤ 8 → ((bt a0 (C0)) / 2 ^ (q0).toNat) = r0 := gf f0
 obtain ⟨E0, m1, H⟩ := bN_ H
 obtain ⟨Z0, H⟩ := iD_ H
 obtain ⟨b1, H⟩ := iN_ H
 have G0 := ya b1
 (try simp only [e0] at G0)
 clear b1
 obtain ⟨N0, n0⟩ : ∃ y_ : List Int, y_ = (j0.set (b0 : Int).toNat E0) := ⟨_, rfl⟩
 first | replace H := yb_ n0 H | rw [← n0] at H
 have H0 := c_ n0
 clear n0
 have H' := c_ H
 clear H
 have q1 := Aa (oD_ : 0 ≤ ((C0) : Int))
 have r1 := Aa (oD_ : (C0) < (a0.size : Int))
 have n1 := cQ a0 (C0)
 go_wp2_with (first | ((with_reducible refine eQ (f := 69) rfl ?_); refine iI (some 22) rfl rfl Tryz.func69 (by kernel_rfl) rfl #[.int .i64 (wrap64 (Go.bits .and .u8 (r0) 1)), .int .i64 1] rfl (by (try simp only [List.map_toArray, List.map_cons, List.map_nil]); first | done | (simp only [f0]; rfl) | rfl | (simp only [List.length_drop, List.length_take]; rfl)) ?_; (with_reducible refine (dI.calls (wrap64 (Go.bits .and .u8 (r0) 1)) 1 E0 _ m1.o).mono ?_); rintro e w' ⟨rfl, ⟨nd, rfl⟩⟩; refine ⟨_, rfl, ?_⟩; (try (rw [dh wr]; generalize hq_ : World.drewN wr _ = wr; obtain ⟨d0, HB⟩ := b_ (show Kd.R (Kd.int .i64) 3 wr w.heap.size (fun _ => True) (.slice T0 j0.length U0) j0 from by rw [← hq_]; exact (rR_ d0.o)) <| c_ (show Below w.heap.size w wr from by rw [← hq_]; exact (hB_)))); have O0 : 0 ≤ (b0 : Int) := oD_; have P0 : (b0 : Int) < ((j0.length : Int) : Int) := oD_; obtain ⟨go17, p1, I0, J0, gl17, cl17, HG17⟩ := vq d0.o (by omega); (first | cases I0 | (injection I0 with ea_ en_ ec_; (first | subst ea_ | (injection ea_ with ea_; subst ea_)); subst ec_; clear en_)); have Q0 := c_ J0; have GG17 := c_ HG17; clear J0 gl17 HG17; obtain ⟨R0, hf17_0⟩ := vc 0 d0.o (b0 : Int) O0 P0; replace O0 := Aa O0; replace P0 := Aa P0; obtain ⟨c1, hz18_⟩ := vc 0 d0.o (b0 : Int) oD_ oD_; have HP18 := vm d0.o (b0 : Int) E0) | ((refine cx (t := 3) (p := 23) rfl ?_); refine st_ 3 23 HP18 H0 Q0 fun t1 hw hp_ hg HBn => ?_; obtain ⟨d0, HB⟩ := b_ (hp_) <| c_ HBn.o; clear hg hw hp_))
 (try simp only [← e0])
 go_roundg k1
 case measure => have := V0.o; omega
 case rel => exact ⟨(N0), (wrap64 (b0 + 1)), f0_, H', ⟨by have := V0.o; omega⟩, ⟨by (try simp only [e0]); refine kR_ ?_; exact d0.o⟩, ⟨hB_⟩⟩
def eB.f (a0 : Int) (a1 : Int) : Option (Int) := (b7.f a0 0 3328).bind fun t699 => (if t699 = true then ((b7.f a1 1 11).bind fun t700 => (if t700 = true then (if 0 ≤ a1 then (if (shl .i64 1 a1) = 0 then (none) else (some (Int.tmod (wrap64 (Int.tdiv (wrap64 ((shl .i64 a0 a1) + 1664)) 3329)) (shl .i64 1 a1)))) else (none)) else (some 0))) else (some 0))
theorem eB.calls (a0 : Int) (a1 : Int) (r : Int) (w : World) (h : eB.f a0 a1 = some r) :
  Calls Tryz.prog 75 #[.int .i64 a0, .int .i64 a1] w fun e w' => e = .returned (.int .i64 r) ∧ cr w w' := by
 delta eB.f at h
 have H := h
 clear h
 obtain ⟨r0, A3, H⟩ := bN_ H
 by_cases c4 : r0 = true
 ·subst c4
  replace H := iT_ H
  obtain ⟨v0, A5, H⟩ := bN_ H
  by_cases c6 : v0 = true
  ·subst c6
   replace H := iT_ H
   obtain ⟨c7, H⟩ := iN_ H
   have B0 := Aa c7
   have C0 := ya c7
   clear c7
   obtain ⟨p0, e0⟩ : ∃ j_ : Int, (shl .i64 a0 a1) = j_ := ⟨_, rfl⟩
   first | rw [e0] at H | simp only [e0] at H
   (try rw [e0] at A3)
   (try rw [e0] at A5)
   have k0 : (IntKind.i64.wrap (a0 * 2 ^ min a1.toNat 64)) = p0 := e0
   have n0 : a1 ≤ 64 → (IntKind.i64.wrap (a0 * 2 ^ a1.toNat)) = p0 := fA e0
   have hji8y : (wrap64 (a0 * 2 ^ min a1.toNat 64)) = p0 := (bq _).symm.trans k0
   have hji8x : a1 ≤ 64 → (wrap64 (a0 * 2 ^ a1.toNat)) = p0 := fun h_ => (bq _).symm.trans (n0 h_)
   have D0 := Aa (oD_ : 0 ≤ a1)
   obtain ⟨d0, b0⟩ : ∃ j_ : Int, (shl .i64 1 a1) = j_ := ⟨_, rfl⟩
   first | rw [b0] at H | simp only [b0] at H
   (try rw [b0] at A3)
   (try rw [b0] at A5)
   have f0 : (IntKind.i64.wrap (1 * 2 ^ min a1.toNat 64)) = d0 := b0
   have j0 : a1 ≤ 64 → (IntKind.i64.wrap (1 * 2 ^ a1.toNat)) = d0 := fA b0
   have hji10u : (IntKind.i64.wrap (2 ^ min a1.toNat 64)) = d0 := by have h_ := f0; rw [Int.one_mul] at h_; exact h_
   have hji10v : a1 ≤ 64 → (IntKind.i64.wrap (2 ^ a1.toNat)) = d0 := fun hle_ => by have h_ := j0 hle_; rw [Int.one_mul] at h_; exact h_
   have hji10y : (wrap64 (1 * 2 ^ min a1.toNat 64)) = d0 := (bq _).symm.trans f0
   have hji10x : a1 ≤ 64 → (wrap64 (1 * 2 ^ a1.toNat)) = d0 := fun h_ => (bq _).symm.trans (j0 h_)
   by_cases q0 : (d0) = 0
   ·rw [Fa q0] at H
    exact absurd H (by simp)
   rw [Ga q0] at H
   have x0 : ((d0) == 0) = false := beq_eq_false_iff_ne.mpr q0
   have y0 : ((d0) != 0) = true := bne_iff_ne.mpr q0
   obtain rfl := Ba H
   go_enter Tryz.func75, Tryz.ntmps75
   go_wp2_with (first | (go_at_call 92; refine mp_ (b7.calls _ _ _ _ _ A3.o) fun nd => ?_; (try exact dD_)) | (go_at_call 92; refine mp_ (b7.calls _ _ _ _ _ A5.o) fun nd => ?_; (try exact dD_)))
   repeat (go_quiet (first | (go_at_call 92; refine mp_ (b7.calls _ _ _ _ _ A3.o) fun nd => ?_; (try exact dD_)) | (go_at_call 92; refine mp_ (b7.calls _ _ _ _ _ A5.o) fun nd => ?_; (try exact dD_))); try go_wp2)
   go_ret
   exact ⟨by first | rfl | (simp; done) | (simp only [← e0, ← b0] <;> (first | rfl | simp)) | (simp [*]; done), d0_⟩
  ·replace c6 := Ea c6
   subst c6
   replace H := iF_ H
   obtain rfl := Ba H
   go_enter Tryz.func75, Tryz.ntmps75
   go_wp2_with (first | (go_at_call 92; refine mp_ (b7.calls _ _ _ _ _ A3.o) fun nd => ?_; (try exact dD_)) | (go_at_call 92; refine mp_ (b7.calls _ _ _ _ _ A5.o) fun nd => ?_; (try exact dD_)))
   repeat (go_quiet (first | (go_at_call 92; refine mp_ (b7.calls _ _ _ _ _ A3.o) fun nd => ?_; (try exact dD_)) | (go_at_call 92; refine mp_ (b7.calls _ _ _ _ _ A5.o) fun nd => ?_; (try exact dD_))); try go_wp2)
   go_ret
   exact ⟨f0_, d0_⟩
 ·replace c4 := Ea c4
  subst c4
  replace H := iF_ H
  obtain rfl := Ba H
  go_enter Tryz.func75, Tryz.ntmps75
  go_wp2_with (first | (go_at_call 92; refine mp_ (b7.calls _ _ _ _ _ A3.o) fun nd => ?_; (try exact dD_)))
  repeat (go_quiet (first | (go_at_call 92; refine mp_ (b7.calls _ _ _ _ _ A3.o) fun nd => ?_; (try exact dD_))); try go_wp2)
  go_ret
  exact ⟨f0_, d0_⟩
def bj.l0 : Nat → Int → List Int → List Int → Int → Int → Option (List Int)
 | 0, _, _, _, _, _ => none
 | k + 1, x1, x5, x8, x9, x10 => if x10 < x9 then (if 0 ≤ x10 then (if x10 < (x8.length : Int) then ((eB.f (rd x8 x10) x1).bind fun t702 => (if x5.length < 17592186044416 then (bj.l0 k x1 (x5 ++ [t702]) x8 x9 (wrap64 (x10 + 1))) else (none))) else (none)) else (none)) else (some x5)
def bj.f (k : Nat) (l0 : List Int) (a1 : Int) : Option (List Int) := bj.l0 k a1 ([] : List Int) l0 (l0.length : Int) 0
theorem bj.mono_l : ∀ k, (∀ y0 y1 y2 y3 y4, LeO (bj.l0 k y0 y1 y2 y3 y4) (bj.l0 (k + 1) y0 y1 y2 y3 y4))
 | 0 => fun _ _ _ _ _ r h => by simp [bj.l0] at h
 | k + 1 => by
  have ih0 := bj.mono_l k
  intros; unfold bj.l0; exact o1_ ih0
theorem bj.mono : ∀ a0 a1 k, LeO (bj.f k a0 a1) (bj.f (k + 1) a0 a1) := by
 intro a0 a1 k
 have ih0 := bj.mono_l k
 unfold bj.f
 exact o1_ ih0
theorem bj.calls (k : Nat) (A0 : Option Addr) (c0 : Nat) (l0 : List Int) (a1 : Int) (r : List Int) (w : World) (hr0 : Kd.C (Kd.int .i64) w A0 l0.length l0) (hc0 : l0.length ≤ c0) (h : bj.f k l0 a1 = some r) :
  Calls Tryz.prog 40 #[.slice A0 l0.length c0, .int .i64 a1] w fun e w' => ∃ B0 : Value, e = .returned (B0) ∧ Kd.R (Kd.int .i64) 3 w' w.heap.size (fun _ => True) B0 r ∧ Below w.heap.size w w' := by
 have E0 := c_ hr0
 have J0 := c_ hc0
 clear hr0 hc0
 have HB := c_ (Da w.heap.size w)
 delta bj.f at h
 have H := h
 clear h
 have H' := c_ H
 clear H
 go_enter Tryz.func40, Tryz.ntmps40
 go_wp2
 go_loopg [5, 10] k (fun kq v5 F0 w' => ∃ (e0 : List Int) (a0 : Int), F0 = .int .i64 a0 ∧ aa (bj.l0 kq a1 e0 l0 (l0.length : Int) a0 = some r) ∧ aa (kq ≤ k) ∧ aa (Kd.R (Kd.int .i64) 3 w' w.heap.size (fun _ => True) v5 e0) ∧ aa (Below w.heap.size w w'))
 case atStart => exact ⟨(([] : List Int)), (0), f0_, H', ⟨Ca _⟩, ⟨by first | exact vB _ _ _ _ _ | exact Kd.N_nil _ _ _ _ _ | exact Kd.V_nil _ _ _ _ _ | exact Kd.Q_nil _ _ _ _ _ | exact vC _ _ _ _ _⟩, ⟨hB_⟩⟩
 clear H'
 obtain ⟨e0, a0, rfl, HA, C0, k0, HB⟩ := hrel
 rcases gk with _ | k1
 ·exact absurd HA.o (by simp [bj.l0])
 have H := HA.o
 clear HA
 simp only [bj.l0] at H
 by_cases c3 : a0 < (l0.length : Int)
 rotate_left
 ·rw [Ga c3] at H
  have q0 := za c3
  clear c3
  obtain rfl := Ba H
  go_wp2
  go_ret
  exact ⟨_, f1_, rR_ k0.o, hB_⟩
 rw [Fa c3] at H
 have q0 := ya c3
 clear c3
 obtain ⟨G0, H⟩ := iD_ H
 obtain ⟨H0, H⟩ := iD_ H
 obtain ⟨r0, A6, H⟩ := bN_ H
 obtain ⟨c7, H⟩ := iN_ H
 have v0 := c_ c7
 clear c7
 obtain ⟨x0, b0⟩ : ∃ y_ : List Int, y_ = (e0 ++ [r0]) := ⟨_, rfl⟩
 first | replace H := yb_ b0 H | rw [← b0] at H
 have n0 := c_ b0
 clear b0
 have H' := c_ H
 clear H
 have f0 : 0 ≤ (a0 : Int) := oD_
 have j0 : a0 < (l0.length : Int) := oD_
 obtain ⟨D0, y0, d0⟩ := uZ E0.o a0 f0 j0
 cases y0
 replace d0 := hc_ d0
 replace f0 := Aa f0
 replace j0 := Aa j0
 go_wp2_with (first | (refine gp_ (k_ 17 Tryz.func75) (eB.calls _ _ _ _ A6.o) fun nd => ?_) | (refine ga_ 14 18 ?_; at_builtin; refine ap_ k0 n0 v0 Tryz.underlying45 df fun I0 w8 p0 HB hg hat => ?_))
 go_roundg k1
 case measure => have := C0.o; omega
 case rel => exact ⟨(x0), (wrap64 (a0 + 1)), f0_, H', ⟨by have := C0.o; omega⟩, ⟨rR_ p0.o⟩, ⟨hB_⟩⟩
end Go.Proofs.YtmdlpmddljbkeaaGreatDoor.P
