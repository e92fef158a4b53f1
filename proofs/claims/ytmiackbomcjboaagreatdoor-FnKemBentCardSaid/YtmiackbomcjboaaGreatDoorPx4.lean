-- printed texts of this session, regrouped
import Derived.Test.YtmiackbomcjboaaGreatDoorPx3
namespace Go.Proofs.YtmiackbomcjboaaGreatDoor.P
open Go.RowKit YtmiackbomcjboaaGreatDoorW.PrintWords YtmiackbomcjboaaGreatDoorW.PrintLast YtmiackbomcjboaaGreatDoorW.PrintMore
open Kd
attribute [local go_sem] d9 eg eV eU dK dL d8 eh
set_option linter.unusedVariables false
set_option linter.unusedSimpArgs false
set_option maxHeartbeats 8000000
set_option maxRecDepth 100000
mutual
def aW.l0 : Nat → List Int → Int → Int → Option (ByteArray × Bool)
 | 0, _, _, _ => none
 | k + 1, x0, x1, x6 => if x6 < (x0.length : Int) then (if 0 ≤ x6 then ((ax.f k x1).bind fun t396 => ((aZ.f (rd x0 x6) 0 (wrap64 (t396 - 1))).bind fun t397 => (if t397 = true then (aW.l0 k x0 x1 (wrap64 (x6 + 1))) else (some ((⟨#[]⟩ : ByteArray), false))))) else (none)) else (aW.l1 k x0 x1 (([] : List Int)) 0 0 0)
def aW.l1 : Nat → List Int → Int → List Int → Int → Int → Int → Option (ByteArray × Bool)
 | 0, _, _, _, _, _, _ => none
 | k + 1, x0, x1, x7, x8, x9, x10 => if x10 < (x0.length : Int) then (if 0 ≤ x10 then ((ax.f k x9).bind fun t405 => (aW.l2 k x0 x1 x7 (wrap64 (x8 + (wrap64 ((rd x0 x10) * t405)))) (wrap64 (x9 + x1)) x10)) else (none)) else (if x9 > 0 then (if x7.length < 140737488355328 then (some (strOfNums (x7 ++ [(x8) % 256]), true)) else (none)) else (some (strOfNums x7, true)))
def aW.l2 : Nat → List Int → Int → List Int → Int → Int → Int → Option (ByteArray × Bool)
 | 0, _, _, _, _, _, _ => none
 | k + 1, x0, x1, x7, x8, x9, x10 => if x9 ≥ 8 then (if x7.length < 140737488355328 then (aW.l2 k x0 x1 (x7 ++ [(Int.tmod x8 256) % 256]) (wrap64 (Int.tdiv x8 256)) (wrap64 (x9 - 8)) x10) else (none)) else (aW.l1 k x0 x1 x7 x8 x9 (wrap64 (x10 + 1)))
end
def aW.f (k : Nat) (l0 : List Int) (a1 : Int) : Option (ByteArray × Bool) := (aZ.f a1 1 12).bind fun t394 => (if t394 = true then (aW.l0 k l0 a1 0) else (some ((⟨#[]⟩ : ByteArray), false)))
theorem aW.mono_l : ∀ k, (∀ y0 y1 y2, LeO (aW.l0 k y0 y1 y2) (aW.l0 (k + 1) y0 y1 y2)) ∧ (∀ y0 y1 y2 y3 y4 y5, LeO (aW.l1 k y0 y1 y2 y3 y4 y5) (aW.l1 (k + 1) y0 y1 y2 y3 y4 y5)) ∧ (∀ y0 y1 y2 y3 y4 y5, LeO (aW.l2 k y0 y1 y2 y3 y4 y5) (aW.l2 (k + 1) y0 y1 y2 y3 y4 y5))
 | 0 => ⟨fun _ _ _ r h => by simp [aW.l0] at h, fun _ _ _ _ _ _ r h => by simp [aW.l1] at h, fun _ _ _ _ _ _ r h => by simp [aW.l2] at h⟩
 | k + 1 => by
  obtain ⟨ih0, ih1, ih2⟩ := aW.mono_l k
  refine ⟨?_, ?_, ?_⟩ <;> (intros; (first | unfold aW.l0 | unfold aW.l1 | unfold aW.l2); exact o4_ ih0 ih1 ih2 ax.mono)
theorem aW.mono : ∀ a0 a1 k, LeO (aW.f k a0 a1) (aW.f (k + 1) a0 a1) := by
 intro a0 a1 k
 obtain ⟨ih0, ih1, ih2⟩ := aW.mono_l k
 unfold aW.f
 exact o4_ ih0 ih1 ih2 ax.mono
theorem aW.calls (k : Nat) (A0 : Option Addr) (c0 : Nat) (l0 : List Int) (a1 : Int) (r1 : ByteArray) (r2 : Bool) (w : World) (hr0 : Kd.C (Kd.int .i64) w A0 l0.length l0) (hc0 : l0.length ≤ c0) (h : aW.f k l0 a1 = some (r1, r2)) :
  Calls Tryz.prog 52 #[.slice A0 l0.length c0, .int .i64 a1] w fun e w' => e = .returned (.tuple #[.string r1, .bool r2]) ∧ Below w.heap.size w w' := by
 have Y0 := c_ hr0
 have H1 := c_ hc0
 clear hr0 hc0
 have HB := c_ (Da w.heap.size w)
 delta aW.f at h
 have H := h
 clear h
 obtain ⟨Z0, A3, H⟩ := bN_ H
 by_cases c4 : Z0 = true
 ·subst c4
  replace H := iT_ H
  have H' := c_ H
  clear H
  go_enter Tryz.func52, Tryz.ntmps52
  go_wp2_with (first | (go_at_call 87; refine mp_ (aZ.calls _ _ _ _ _ A3.o) fun nd => ?_; (try exact dD_)))
  repeat (go_quiet (first | (go_at_call 87; refine mp_ (aZ.calls _ _ _ _ _ A3.o) fun nd => ?_; (try exact dD_))); try go_wp2)
  go_loopg [6] k (fun kq v6 w' => ∃ (d0 : Int), v6 = .int .i64 d0 ∧ aa (aW.l0 kq l0 a1 d0 = some (r1, r2)) ∧ aa (kq ≤ k) ∧ aa (Below w.heap.size w w'))
  case atStart => exact ⟨(0), f0_, H', ⟨Ca _⟩, ⟨hB_⟩⟩
  clear H'
  obtain ⟨d0, rfl, HA, N0, HB⟩ := hrel
  rcases gk with _ | k1
  ·exact absurd HA.o (by simp [aW.l0])
  have H := HA.o
  clear HA
  simp only [aW.l0] at H
  by_cases c5 : d0 < (l0.length : Int)
  ·rw [Fa c5] at H
   have b1 := ya c5
   clear c5
   obtain ⟨A1, H⟩ := iD_ H
   obtain ⟨B1, A7, H⟩ := bN_ H
   obtain ⟨c1, A8, H⟩ := bN_ H
   by_cases c9 : c1 = true
   ·subst c9
    replace H := iT_ H
    have H' := c_ H
    clear H
    have f0 : 0 ≤ (d0 : Int) := oD_
    have j0 : d0 < (l0.length : Int) := oD_
    obtain ⟨R0, K0, b0⟩ := uX Y0.o d0 f0 j0
    cases K0
    replace b0 := hc_ b0
    replace f0 := Aa f0
    replace j0 := Aa j0
    go_wp2_with (first | (go_at_call 88; refine mp_ (ax.calls _ _ _ _ A7.o) fun nd => ?_; (try exact dD_)) | (go_at_call 87; refine mp_ (aZ.calls _ _ _ _ _ A8.o) fun nd => ?_; (try exact dD_)))
    repeat (go_quiet (first | (go_at_call 88; refine mp_ (ax.calls _ _ _ _ A7.o) fun nd => ?_; (try exact dD_)) | (go_at_call 87; refine mp_ (aZ.calls _ _ _ _ _ A8.o) fun nd => ?_; (try exact dD_))); try go_wp2)
    go_roundg k1
    case measure => have := N0.o; omega
    case rel => exact ⟨(wrap64 (d0 + 1)), f0_, H', ⟨by have := N0.o; omega⟩, ⟨hB_⟩⟩
   ·replace c9 := Ea c9
    subst c9
    replace H := iF_ H
    simp only [Option.some.injEq, Prod.mk.injEq] at H
    obtain ⟨rfl, rfl⟩ := H
    have f0 : 0 ≤ (d0 : Int) := oD_
    have j0 : d0 < (l0.length : Int) := oD_
    obtain ⟨R0, K0, b0⟩ := uX Y0.o d0 f0 j0
    cases K0
    replace b0 := hc_ b0
    replace f0 := Aa f0
    replace j0 := Aa j0
    go_wp2_with (first | (go_at_call 88; refine mp_ (ax.calls _ _ _ _ A7.o) fun nd => ?_; (try exact dD_)) | (go_at_call 87; refine mp_ (aZ.calls _ _ _ _ _ A8.o) fun nd => ?_; (try exact dD_)))
    repeat (go_quiet (first | (go_at_call 88; refine mp_ (ax.calls _ _ _ _ A7.o) fun nd => ?_; (try exact dD_)) | (go_at_call 87; refine mp_ (aZ.calls _ _ _ _ _ A8.o) fun nd => ?_; (try exact dD_))); try go_wp2)
    go_ret2
    exact ⟨f1_, hB_⟩
  rw [Ga c5] at H
  have b1 := za c5
  clear c5
  obtain ⟨d1, k0⟩ : ∃ y_ : List Int, y_ = (([] : List Int)) := ⟨_, rfl⟩
  first | replace H := yb_ k0 H | rw [← k0] at H
  have D0 := c_ k0
  clear k0
  have H' := c_ H
  clear H
  go_wp2_with (first | (refine lj_ 29 .u8 5 D0 fun e1 C1 E0 HB => ?_))
  repeat (go_quiet (first | (refine lj_ 29 .u8 5 D0 fun e1 C1 E0 HB => ?_)); try go_wp2)
  go_loopg [7, 8, 9, 10] k1 (fun kq v7 v8 v9 D1 w' => ∃ (v0 : List Int) (x0 : Int) (y0 : Int) (a0 : Int), v8 = .int .i64 x0 ∧ v9 = .int .i64 y0 ∧ D1 = .int .i64 a0 ∧ aa (aW.l1 kq l0 a1 v0 x0 y0 a0 = some (r1, r2)) ∧ aa (kq ≤ k1) ∧ aa (Kd.R (Kd.int .u8) 5 w' w.heap.size (fun _ => True) v7 v0) ∧ aa (Below w.heap.size w w'))
  case atStart => exact ⟨(d1), (0), (0), (0), f0_, f0_, f0_, H', ⟨Ca _⟩, ⟨rR_ E0.o⟩, ⟨hB_⟩⟩
  clear H'
  obtain ⟨v0, x0, y0, a0, rfl, rfl, rfl, HA, W0, e0, HB⟩ := hrel
  rcases gk with _ | k2
  ·exact absurd HA.o (by simp [aW.l1])
  have H := HA.o
  clear HA
  simp only [aW.l1] at H
  by_cases O0 : a0 < (l0.length : Int)
  rotate_left
  ·rw [Ga O0] at H
   have S0 := za O0
   clear O0
   by_cases P0 : y0 > 0
   ·rw [Fa P0] at H
    have T0 := ya P0
    clear P0
    obtain ⟨n1, H⟩ := iN_ H
    have F0 := c_ n1
    clear n1
    obtain ⟨E1, n0⟩ : ∃ y_ : List Int, y_ = (v0 ++ [(x0) % 256]) := ⟨_, rfl⟩
    first | replace H := yb_ n0 H | rw [← n0] at H
    have G0 := c_ n0
    clear n0
    simp only [Option.some.injEq, Prod.mk.injEq] at H
    obtain ⟨rfl, rfl⟩ := H
    go_wp2_with (first | (refine ga_ 62 65 ?_; at_builtin; refine ap_ e0 G0 F0 Tryz.underlying22 jj fun f1 F1 B0 HB hg hat => ?_; have U0 := d4 (P := Tryz.prog) Tryz.underlying22 Tryz.underlying5 Tryz.underlying9 (vl B0.o)))
    repeat (go_quiet (first | (refine ga_ 62 65 ?_; at_builtin; refine ap_ e0 G0 F0 Tryz.underlying22 jj fun f1 F1 B0 HB hg hat => ?_; have U0 := d4 (P := Tryz.prog) Tryz.underlying22 Tryz.underlying5 Tryz.underlying9 (vl B0.o))); try go_wp2)
    go_ret2
    exact ⟨f1_, hB_⟩
   rw [Ga P0] at H
   have T0 := za P0
   clear P0
   simp only [Option.some.injEq, Prod.mk.injEq] at H
   obtain ⟨rfl, rfl⟩ := H
   have p1 := d4 (P := Tryz.prog) Tryz.underlying22 Tryz.underlying5 Tryz.underlying9 (vl e0.o)
   go_wp2
   repeat (go_quiet (fail); try go_wp2)
   go_ret2
   exact ⟨f1_, hB_⟩
  rw [Fa O0] at H
  have S0 := ya O0
  clear O0
  obtain ⟨q1, H⟩ := iD_ H
  obtain ⟨g1, t1, H⟩ := bN_ H
  have H' := c_ H
  clear H
  have L0 : 0 ≤ (a0 : Int) := oD_
  have M0 : a0 < (l0.length : Int) := oD_
  obtain ⟨y1, i1, p0⟩ := uX Y0.o a0 L0 M0
  cases i1
  replace p0 := hc_ p0
  replace L0 := Aa L0
  replace M0 := Aa M0
  go_wp2_with (first | (go_at_call 88; refine mp_ (ax.calls _ _ _ _ t1.o) fun nd => ?_; (try exact dD_)))
  repeat (go_quiet (first | (go_at_call 88; refine mp_ (ax.calls _ _ _ _ t1.o) fun nd => ?_; (try exact dD_))); try go_wp2)
  go_loopg [7, 8, 9] k2 (fun kq v7 v8 v9 w' => ∃ (C0 : List Int) (r0 : Int) (t0 : Int), v8 = .int .i64 r0 ∧ v9 = .int .i64 t0 ∧ aa (aW.l2 kq l0 a1 C0 r0 t0 a0 = some (r1, r2)) ∧ aa (kq ≤ k2) ∧ aa (Kd.R (Kd.int .u8) 5 w' w.heap.size (fun _ => True) v7 C0) ∧ aa (Below w.heap.size w w'))
  case atStart => exact ⟨(v0), (wrap64 (x0 + (wrap64 ((rd l0 a0) * g1)))), (wrap64 (y0 + a1)), f0_, f0_, H', ⟨Ca _⟩, ⟨rR_ e0.o⟩, ⟨hB_⟩⟩
  clear H'
  obtain ⟨C0, r0, t0, rfl, rfl, HA, X0, e0, HB⟩ := hrel
  rcases gk with _ | k3
  ·exact absurd HA.o (by simp [aW.l2])
  have H := HA.o
  clear HA
  simp only [aW.l2] at H
  by_cases Q0 : t0 ≥ 8
  ·rw [Fa Q0] at H
   have V0 := ya Q0
   clear Q0
   obtain ⟨z1, H⟩ := iN_ H
   have H0 := c_ z1
   clear z1
   obtain ⟨j1, q0⟩ : ∃ y_ : List Int, y_ = (C0 ++ [(Int.tmod r0 256) % 256]) := ⟨_, rfl⟩
   first | replace H := yb_ q0 H | rw [← q0] at H
   have I0 := c_ q0
   clear q0
   have H' := c_ H
   clear H
   go_wp2_with (first | (refine ga_ 50 54 ?_; at_builtin; refine ap_ e0 I0 H0 Tryz.underlying22 jj fun m1 G1 J0 HB hg hat => ?_))
   repeat (go_quiet (first | (refine ga_ 50 54 ?_; at_builtin; refine ap_ e0 I0 H0 Tryz.underlying22 jj fun m1 G1 J0 HB hg hat => ?_)); try go_wp2)
   go_roundg k3
   case measure => have := N0.o; have := W0.o; have := X0.o; omega
   case rel => exact ⟨(j1), (wrap64 (Int.tdiv r0 256)), (wrap64 (t0 - 8)), f0_, f0_, H', ⟨by have := N0.o; have := W0.o; have := X0.o; omega⟩, ⟨rR_ J0.o⟩, ⟨hB_⟩⟩
  rw [Ga Q0] at H
  have V0 := za Q0
  clear Q0
  have H' := c_ H
  clear H
  go_wp2
  repeat (go_quiet (fail); try go_wp2)
  go_roundg k3
  case measure => have := N0.o; have := W0.o; have := X0.o; omega
  case rel => exact ⟨(C0), (r0), (t0), (wrap64 (a0 + 1)), f0_, f0_, f0_, H', ⟨by have := N0.o; have := W0.o; have := X0.o; omega⟩, ⟨rR_ e0.o⟩, ⟨hB_⟩⟩
 ·replace c4 := Ea c4
  subst c4
  replace H := iF_ H
  simp only [Option.some.injEq, Prod.mk.injEq] at H
  obtain ⟨rfl, rfl⟩ := H
  go_enter Tryz.func52, Tryz.ntmps52
  go_wp2_with (first | (go_at_call 87; refine mp_ (aZ.calls _ _ _ _ _ A3.o) fun nd => ?_; (try exact dD_)))
  repeat (go_quiet (first | (go_at_call 87; refine mp_ (aZ.calls _ _ _ _ _ A3.o) fun nd => ?_; (try exact dD_))); try go_wp2)
  go_ret2
  exact ⟨f1_, hB_⟩
def cp.f (k : Nat) (l0 : List Int) : Option (ByteArray) := (au.f k l0).bind fun t409 => (if t409 = true then ((aW.f k l0 12).bind fun bt410 => (some bt410.1)) else (some (⟨#[]⟩ : ByteArray)))
theorem cp.mono : ∀ a0 k, LeO (cp.f k a0) (cp.f (k + 1) a0) := by
 intro a0 k
 unfold cp.f
 exact o2_ aW.mono au.mono
theorem cp.calls (k : Nat) (A0 : Option Addr) (c0 : Nat) (l0 : List Int) (r : ByteArray) (w : World) (hr0 : Kd.C (Kd.int .i64) w A0 l0.length l0) (hc0 : l0.length ≤ c0) (h : cp.f k l0 = some r) :
  Calls Tryz.prog 21 #[.slice A0 l0.length c0] w fun e w' => e = .returned (.string r) ∧ Below w.heap.size w w' := by
 have a0 := c_ hr0
 have b0 := c_ hc0
 clear hr0 hc0
 have HB := c_ (Da w.heap.size w)
 delta cp.f at h
 have H := h
 clear h
 obtain ⟨d0, A2, H⟩ := bN_ H
 by_cases c3 : d0 = true
 ·subst c3
  replace H := iT_ H
  obtain ⟨⟨e0, f0⟩, A4, H⟩ := bN_ H
  obtain rfl := Ba H
  go_enter Tryz.func21, Tryz.ntmps21
  go_wp2_with (first | (refine gp_ (k_ 6 Tryz.func47) (au.calls _ _ _ _ _ _ (cR_ a0.o) b0.o A2.o) fun nd => ?_) | (refine gb_ (k_ 10 Tryz.func52) (aW.calls _ _ _ _ _ _ _ _ (cR_ a0.o) b0.o A4.o) fun w5 HB => ?_))
  go_ret
  exact ⟨f1_, hB_⟩
 ·replace c3 := Ea c3
  subst c3
  replace H := iF_ H
  obtain rfl := Ba H
  go_enter Tryz.func21, Tryz.ntmps21
  go_wp2_with (first | (refine gp_ (k_ 6 Tryz.func47) (au.calls _ _ _ _ _ _ (cR_ a0.o) b0.o A2.o) fun nd => ?_))
  go_ret
  exact ⟨f1_, hB_⟩
def aG.l0 : Nat → List Int → List Int → List Int → Int → Option (List Int)
 | 0, _, _, _, _ => none
 | k + 1, x0, x1, x5, x6 => if x6 < 256 then ((au.f k x0).bind fun t415 => (if t415 = true then ((au.f k x1).bind fun t416 => (if t416 = true then (if 0 ≤ x6 then (if x6 < (x0.length : Int) then (if x6 < (x1.length : Int) then (if x5.length < 17592186044416 then (aG.l0 k x0 x1 (x5 ++ [Int.tmod (wrap64 ((rd x0 x6) + (rd x1 x6))) 3329]) (wrap64 (x6 + 1))) else (none)) else (none)) else (none)) else (none)) else (some x5))) else (some x5))) else (some x5)
def aG.f (k : Nat) (l0 : List Int) (l1 : List Int) : Option (List Int) := aG.l0 k l0 l1 (([] : List Int)) 0
theorem aG.mono_l : ∀ k, (∀ y0 y1 y2 y3, LeO (aG.l0 k y0 y1 y2 y3) (aG.l0 (k + 1) y0 y1 y2 y3))
 | 0 => fun _ _ _ _ r h => by simp [aG.l0] at h
 | k + 1 => by
  have ih0 := aG.mono_l k
  intros; unfold aG.l0; exact o2_ ih0 au.mono
theorem aG.mono : ∀ a0 a1 k, LeO (aG.f k a0 a1) (aG.f (k + 1) a0 a1) := by
 intro a0 a1 k
 have ih0 := aG.mono_l k
 unfold aG.f
 exact o2_ ih0 au.mono
def aG.T5 : Bool × List (List Nat × List Nat) := (true, [([], []), ([], []), ([], []), ([1, 2], [1, 2]), ([3], [3]), ([], []), ([], []), ([5, 6], [5, 6]), ([7], [7]), ([4, 8], [4, 8]), ([9], [9]), ([10], [10]), ([0, 11], [0, 11]), ([12, 12, 0, 1, 2, 3, 4, 5, 6, 7, 8, 9, 10, 11, 12], [0, 12])])
def aG.B5 : List Nat := [0, 0, 0, 6, 14, 0, 0, 96, 224, 510, 1022, 2046, 4095, 8191]
theorem aG.tab5 : eH .any (fJ Tryz.f22 5) = aG.T5 := by kernel_rfl
theorem aG.bits5 : dw aG.T5.2 aG.B5 = true := by kernel_rfl
theorem aG.calls (k : Nat) (A0 : Option Addr) (c0 : Nat) (l0 : List Int) (A1 : Option Addr) (c1 : Nat) (l1 : List Int) (r : List Int) (w : World) (hr0 : Kd.C (Kd.int .i64) w A0 l0.length l0) (hc0 : l0.length ≤ c0) (hr1 : Kd.C (Kd.int .i64) w A1 l1.length l1) (hc1 : l1.length ≤ c1) (h : aG.f k l0 l1 = some r) :
  Calls Tryz.prog 22 #[.slice A0 l0.length c0, .slice A1 l1.length c1] w fun e w' => ∃ Q0 : Value, e = .returned (Q0) ∧ Kd.R (Kd.int .i64) 3 w' w.heap.size (fun _ => True) Q0 r ∧ Below w.heap.size w w' := by
 have G0 := c_ hr0
 have H0 := c_ hc0
 clear hr0 hc0
 have I0 := c_ hr1
 have R0 := c_ hc1
 clear hr1 hc1
 have HB := c_ (Da w.heap.size w)
 delta aG.f at h
 have H := h
 clear h
 obtain ⟨J0, k0⟩ : ∃ y_ : List Int, y_ = (([] : List Int)) := ⟨_, rfl⟩
 first | replace H := yb_ k0 H | rw [← k0] at H
 have x0 := c_ k0
 clear k0
 have H' := c_ H
 clear H
 go_enter Tryz.func22, Tryz.ntmps22
 go_wp2_with (first | (refine lj_ 7 .i64 3 x0 fun X0 w3 y0 HB => ?_))
 go_loopg [5, 6] k (fun kq v5 v6 w' => ∃ (p0 : List Int) (a0 : Int), v6 = .int .i64 a0 ∧ aa (aG.l0 kq l0 l1 p0 a0 = some r) ∧ aa (kq ≤ k) ∧ aa (Kd.R (Kd.int .i64) 3 w' w.heap.size (fun _ => True) v5 p0) ∧ aa (Below w.heap.size w w'))
 case atStart => exact ⟨(J0), (0), f0_, H', ⟨Ca _⟩, ⟨rR_ y0.o⟩, ⟨hB_⟩⟩
 clear H'
 obtain ⟨p0, a0, rfl, HA, S0, j0, HB⟩ := hrel
 rcases gk with _ | k1
 ·exact absurd HA.o (by simp [aG.l0])
 have H := HA.o
 clear HA
 simp only [aG.l0] at H
 by_cases c5 : a0 < 256
 rotate_left
 ·rw [Ga c5] at H
  have K0 := za c5
  clear c5
  obtain rfl := Ba H
  go_wp2
  go_ret
  exact ⟨_, f1_, rR_ j0.o, hB_⟩
 rw [Fa c5] at H
 have K0 := ya c5
 clear c5
 obtain ⟨L0, A6, H⟩ := bN_ H
 by_cases c7 : L0 = true
 ·subst c7
  replace H := iT_ H
  obtain ⟨M0, A8, H⟩ := bN_ H
  by_cases c9 : M0 = true
  ·subst c9
   replace H := iT_ H
   obtain ⟨T0, H⟩ := iD_ H
   obtain ⟨U0, H⟩ := iD_ H
   obtain ⟨V0, H⟩ := iD_ H
   obtain ⟨W0, H⟩ := iN_ H
   have B0 := c_ W0
   clear W0
   obtain ⟨N0, n0⟩ : ∃ y_ : List Int, y_ = (p0 ++ [Int.tmod (wrap64 ((rd l0 a0) + (rd l1 a0))) 3329]) := ⟨_, rfl⟩
   first | replace H := yb_ n0 H | rw [← n0] at H
   have C0 := c_ n0
   clear n0
   have H' := c_ H
   clear H
   try go_wp2_with (first | (go_at_call 47; refine mp_ (au.calls _ _ _ _ _ _ (cR_ (vb G0.o HB.o)) H0.o A6.o) fun nd => ?_) | (go_at_call 47; refine mp_ (au.calls _ _ _ _ _ _ (cR_ (vb I0.o (hB_))) R0.o A8.o) fun nd => ?_))
   (try (rw [dt wr]; generalize hq_ : World.drewN wr _ = wr; obtain ⟨j0, HB⟩ := b_ (show Kd.R (Kd.int .i64) 3 wr w.heap.size (fun _ => True) u5 p0 from by rw [← hq_]; exact (rR_ j0.o)) <| c_ (show Below w.heap.size w wr from by rw [← hq_]; exact (hB_))))
   obtain ⟨j0, HB⟩ := b_ (vh j0.o) <| c_ (bE HB.o)
   have q0 : 0 ≤ (a0 : Int) := oD_
   have r0 : a0 < (l0.length : Int) := oD_
   obtain ⟨D0, O0, b0⟩ := uX G0.o a0 q0 r0
   have d0 := b0
   cases O0
   replace b0 := hc_ b0
   replace q0 := Aa q0
   replace r0 := Aa r0
   have t0 : 0 ≤ (a0 : Int) := oD_
   have v0 : a0 < (l1.length : Int) := oD_
   obtain ⟨E0, P0, e0⟩ := uX I0.o a0 t0 v0
   have f0 := e0
   cases P0
   replace e0 := hc_ e0
   replace t0 := Aa t0
   replace v0 := Aa v0
   refine eI (n := 14) (S := fun w' => w'.cell? (D0.add (a0).toNat) = some (.int .i64 (rd l0 a0)) ∧ w'.cell? (E0.add (a0).toNat) = some (.int .i64 (rd l1 a0))) (ds := []) (bb_ 14 0) (by kernel_rfl) rfl rfl ⟨(hc_ d0), (hc_ f0)⟩ (fun hHeld => ?_); refine cW aG.tab5 aG.bits5 (fun HT_ HW_ => ?_)
   generalize wr.drew = Z0 at j0 HB b0 e0 hHeld ⊢
   refine pT_ 0 20 14 1 ?_
   refine pT_ 1 21 14 3 ?_
   refine pT_ 2 22 14 7 ?_
   refine pT_ 3 23 14 15 ?_
   refine pT_ 5 25 14 47 ?_
   refine pT_ 6 26 14 111 ?_
   refine pT_ 7 27 14 239 ?_
   refine tS_ 4 24 (bb_ 14 255) (bF HT_.o HW_.o (by kernel_rfl)) hHeld ?_
   refine tS_ 8 28 (bb_ 14 511) (bF HT_.o HW_.o (by kernel_rfl)) hHeld ?_
   refine pT_ 9 29 14 1023 ?_
   refine pT_ 10 30 14 2047 ?_
   refine gh (i := 11) (N := some 31) (bb_ 14 4095) rfl rfl (cO HT_.o (by kernel_rfl)) (by decide) (fun K hK => ?_)
   refine nR (w1 := ?_) (v := ?_) (by rfl) rfl ?_ ?_
   rotate_left 2
   ·go_simp
    constructor
    ·rfl
    ·rfl
   refine hK _ _ ⟨(World.cell?_alloc_lt _ _ _ (World.block_lt_of_cell? _ _ ((hc_ d0)))).trans ((hc_ d0)), (World.cell?_alloc_lt _ _ _ (World.block_lt_of_cell? _ _ ((hc_ f0)))).trans ((hc_ f0))⟩ (fun hHeld => ?_)
   clear hK K
   refine er (a' := ?_) ?_ ?_
   rotate_left
   ·show Act.put _ (some 31) _ = _
    simp only [Act.put, List.setIfInBounds_toArray, List.set_cons_zero, List.set_cons_succ, bB, cG]
    rfl
   refine gh (i := 12) (N := some 32) (bb_ 14 8191) rfl rfl (cO HT_.o (by kernel_rfl)) (by decide) (fun K hK => ?_)
   refine vz (Kd.int .i64) (w0 := w) w.heap.size (by rfl) (.tmp 20) (.tmp 31) 33 3 (.int .i64 0) 8 rfl Tryz.underlying33 di rfl (by decide) (by omega) u5 p0 (Int.tmod (wrap64 ((rd l0 a0) + (rd l1 a0))) 3329) [.int .i64 (Int.tmod (wrap64 ((rd l0 a0) + (rd l1 a0))) 3329)] (fun _ => True) (fun _ => False) rfl rfl ?aP (fun _ hk => hk.elim) ?aF ?aO ?aB ?aS ?aL ?_
   (case aP => exact rfl)
   (case aB => exact (hB_))
   (case aF => exact (fun _ _ => trivial))
   (case aO => exact (rR_ j0.o))
   (case aS => exact (av (hB_)))
   (case aL => have := B0.o; omega)
   intro Y0 b1 ho hb hg hat
   rw [← C0.o] at ho
   obtain ⟨HB, F0⟩ := b_ (hb) <| c_ (ho)
   clear ho hb hg hat
   refine hK _ _ ⟨(hc_ d0), (hc_ f0)⟩ (fun hHeld => ?_)
   clear hK K
   refine er (a' := ?_) ?_ ?_
   rotate_left
   ·show Act.put _ (some 32) _ = _
    simp only [Act.put, List.setIfInBounds_toArray, List.set_cons_zero, List.set_cons_succ, bB, cG]
    rfl
   refine pT_ 13 5 14 16383 ?_
   refine fK (dN HT_.o (by kernel_rfl)) ?_
   try go_wp2
   go_roundg k1
   case measure => have := S0.o; omega
   case rel => exact ⟨(N0), (wrap64 (a0 + 1)), f0_, H', ⟨by have := S0.o; omega⟩, ⟨rR_ F0.o⟩, ⟨hB_⟩⟩
  ·replace c9 := Ea c9
   subst c9
   replace H := iF_ H
   obtain rfl := Ba H
   go_wp2_with (first | (go_at_call 47; refine mp_ (au.calls _ _ _ _ _ _ (cR_ (vb G0.o HB.o)) H0.o A6.o) fun nd => ?_) | (go_at_call 47; refine mp_ (au.calls _ _ _ _ _ _ (cR_ (vb I0.o (hB_))) R0.o A8.o) fun nd => ?_))
   go_ret
   exact ⟨_, f1_, rR_ j0.o, hB_⟩
 ·replace c7 := Ea c7
  subst c7
  replace H := iF_ H
  obtain rfl := Ba H
  go_wp2_with (first | (go_at_call 47; refine mp_ (au.calls _ _ _ _ _ _ (cR_ (vb G0.o HB.o)) H0.o A6.o) fun nd => ?_))
  go_ret
  exact ⟨_, f1_, rR_ j0.o, hB_⟩
mutual
def aH.j0 : Nat → List Int → List Int → List Int → Bool → Option (List Int)
 | 0, _, _, _, _ => none
 | k + 1, x0, x1, x5, x17 => if x17 = true then (some x5) else (aH.l0 k x0 x1 x5 0)
def aH.l0 : Nat → List Int → List Int → List Int → Int → Option (List Int)
 | 0, _, _, _, _ => none
 | k + 1, x0, x1, x5, x6 => if x6 < 128 then ((bi.f k x6).bind fun t427 => ((bv.f k 17 (wrap64 ((wrap64 (2 * t427)) + 1))).bind fun t428 => (if 0 ≤ (wrap64 ((wrap64 (2 * x6)) + 1)) then (if (wrap64 ((wrap64 (2 * x6)) + 1)) < (x0.length : Int) then (if (wrap64 ((wrap64 (2 * x6)) + 1)) < (x1.length : Int) then (if 0 ≤ (wrap64 (2 * x6)) then (if (wrap64 (2 * x6)) < (x0.length : Int) then (if (wrap64 (2 * x6)) < (x1.length : Int) then ((some (([Int.tmod (wrap64 ((wrap64 ((rd x0 (wrap64 (2 * x6))) * (rd x1 (wrap64 (2 * x6))))) + (wrap64 ((Int.tmod (wrap64 ((rd x0 (wrap64 ((wrap64 (2 * x6)) + 1))) * (rd x1 (wrap64 ((wrap64 (2 * x6)) + 1))))) 3329) * t428)))) 3329, Int.tmod (wrap64 ((wrap64 ((rd x0 (wrap64 (2 * x6))) * (rd x1 (wrap64 ((wrap64 (2 * x6)) + 1))))) + (wrap64 ((rd x0 (wrap64 ((wrap64 (2 * x6)) + 1))) * (rd x1 (wrap64 (2 * x6))))))) 3329] : List Int) : List Int)).bind fun y437 => (if x5.length + y437.length < 17592186044416 then (aH.l0 k x0 x1 (x5 ++ y437) (wrap64 (x6 + 1))) else (none))) else (none)) else (none)) else (none)) else (none)) else (none)) else (none)))) else (some x5)
end
def aH.f (k : Nat) (l0 : List Int) (l1 : List Int) : Option (List Int) := (some (([] : List Int) : List Int)).bind fun y422 => ((au.f k l0).bind fun t425 => (if t425 = true then ((au.f k l1).bind fun t426 => (aH.j0 k l0 l1 y422 (!t426))) else (aH.j0 k l0 l1 y422 true)))
theorem aH.mono_l : ∀ k, (∀ y0 y1 y2 y3, LeO (aH.j0 k y0 y1 y2 y3) (aH.j0 (k + 1) y0 y1 y2 y3)) ∧ (∀ y0 y1 y2 y3, LeO (aH.l0 k y0 y1 y2 y3) (aH.l0 (k + 1) y0 y1 y2 y3))
 | 0 => ⟨fun _ _ _ _ r h => by simp [aH.j0] at h, fun _ _ _ _ r h => by simp [aH.l0] at h⟩
 | k + 1 => by
  obtain ⟨ih0, ih1⟩ := aH.mono_l k
  refine ⟨?_, ?_⟩ <;> (intros; (first | unfold aH.j0 | unfold aH.l0); exact o5_ ih0 ih1 au.mono bv.mono bi.mono)
theorem aH.mono : ∀ a0 a1 k, LeO (aH.f k a0 a1) (aH.f (k + 1) a0 a1) := by
 intro a0 a1 k
 obtain ⟨ih0, ih1⟩ := aH.mono_l k
 unfold aH.f
 exact o5_ ih0 ih1 au.mono bv.mono bi.mono
def aH.T8 : Bool × List (List Nat × List Nat) := (true, [([], []), ([], []), ([1], [1]), ([2], [2]), ([0, 3], [0, 3]), ([4], [4]), ([], []), ([], []), ([7], [7]), ([8], [8]), ([6, 9], [6, 9]), ([10], [10]), ([5, 11], [5, 11]), ([12], [12]), ([], []), ([13, 14], [13, 14]), ([15, 0, 1, 2, 3, 4, 5, 6, 7, 8, 9, 10, 11, 12, 13, 14, 15], [15])])
def aH.B8 : List Nat := [0, 0, 2, 6, 15, 31, 0, 0, 128, 384, 960, 1984, 4095, 8191, 0, 32767, 65535]
theorem aH.tab8 : eH .any (fJ Tryz.f53 8) = aH.T8 := by kernel_rfl
theorem aH.bits8 : dw aH.T8.2 aH.B8 = true := by kernel_rfl
def aH.T9 : Bool × List (List Nat × List Nat) := (true, [([], []), ([], []), ([], []), ([2], [2]), ([1, 3], [1, 3]), ([4], [4]), ([], []), ([], []), ([7], [7]), ([6, 8], [6, 8]), ([9], [9]), ([5, 10], [5, 10]), ([], []), ([11, 12], [11, 12]), ([13], [13]), ([], []), ([], []), ([16], [16]), ([15, 17], [15, 17]), ([18], [18]), ([], []), ([], []), ([21], [21]), ([22], [22]), ([20, 23], [20, 23]), ([24], [24]), ([19, 25], [19, 25]), ([], []), ([], []), ([28], [28]), ([29], [29]), ([27, 30], [27, 30]), ([31], [31]), ([], []), ([], []), ([34], [34]), ([33, 35], [33, 35]), ([36], [36]), ([32, 37], [32, 37]), ([26, 38], [26, 38]), ([39], [39]), ([14, 40], [14, 40]), ([0, 41], [0, 41]), ([42, 42, 0, 1, 2, 3, 4, 5, 6, 7, 8, 9, 10, 11, 12, 13, 14, 15, 16, 17, 18, 19, 20, 21, 22, 23, 24, 25, 26, 27, 28, 29, 30, 31, 32, 33, 34, 35, 36, 37, 38, 39, 40, 41, 42], [0, 42])])
def aH.B9 : List Nat := [0, 0, 0, 4, 14, 30, 0, 0, 128, 448, 960, 2046, 0, 8190, 16382, 0, 0, 65536, 229376, 491520, 0, 0, 2097152, 6291456, 15728640, 32505856, 67076096, 0, 0, 268435456, 805306368, 2013265920, 4160749568, 0, 0, 17179869184, 60129542144, 128849018880, 274743689216, 549755781120, 1099511595008, 2199023255550, 4398046511103, 8796093022207]
theorem aH.tab9 : eH .any (fJ Tryz.f53 9) = aH.T9 := by kernel_rfl
theorem aH.bits9 : dw aH.T9.2 aH.B9 = true := by kernel_rfl
theorem aH.calls (k : Nat) (A0 : Option Addr) (c0 : Nat) (l0 : List Int) (A1 : Option Addr) (c1 : Nat) (l1 : List Int) (r : List Int) (w : World) (hr0 : Kd.C (Kd.int .i64) w A0 l0.length l0) (hc0 : l0.length ≤ c0) (hr1 : Kd.C (Kd.int .i64) w A1 l1.length l1) (hc1 : l1.length ≤ c1) (h : aH.f k l0 l1 = some r) :
  Calls Tryz.prog 53 #[.slice A0 l0.length c0, .slice A1 l1.length c1] w fun e w' => ∃ n2 : Value, e = .returned (n2) ∧ Kd.R (Kd.int .i64) 3 w' w.heap.size (fun _ => True) n2 r ∧ Below w.heap.size w w' := by
 have y1 := c_ hr0
 have p2 := c_ hc0
 clear hr0 hc0
 have B1 := c_ hr1
 have E2 := c_ hc1
 clear hr1 hc1
 have HB := c_ (Da w.heap.size w)
 delta aH.f at h
 have H := h
 clear h
 obtain ⟨V0, K0⟩ : ∃ y_ : List Int, y_ = (([] : List Int)) := ⟨_, rfl⟩
 first | replace H := yb_ K0 H | rw [← K0] at H
 have C1 := c_ K0
 clear K0
 have O1 := c_ H
 clear H
 go_enter Tryz.func53, Tryz.ntmps53
 go_upto_region 2 with (first | (refine lj_ 9 .i64 3 C1 fun P1 w4 T0 HB => ?_))
 (try simp only [Act.put, List.setIfInBounds_toArray, List.set_cons_zero, List.set_cons_succ])
 go_cut [17] (fun F2 wc => ∃ (kq : Nat) (L0 : Bool), F2 = .bool L0 ∧ aa (aH.j0 kq l0 l1 V0 L0 = some r) ∧ aa (kq ≤ k) ∧ aa (Kd.R (Kd.int .i64) 3 wc w.heap.size (fun _ => True) P1 V0) ∧ aa (Below w.heap.size w wc))
 case first =>
  have H := O1.o
  clear O1
  obtain ⟨Q1, A6, H⟩ := bN_ H
  by_cases c7 : Q1 = true
  ·subst c7
   replace H := iT_ H
   obtain ⟨R1, A8, H⟩ := bN_ H
   have H' := c_ H
   clear H
   go_wp2_with (first | (refine gp_ (k_ 11 Tryz.func47) (au.calls _ _ _ _ _ _ (cR_ (vb y1.o HB.o)) p2.o A6.o) fun nd => ?_) | (go_at_call 47; refine mp_ (au.calls _ _ _ _ _ _ (cR_ (vb B1.o (hB_))) E2.o A8.o) fun nd => ?_))
   go_meet
   case rel => exact ⟨_, (!R1), f0_, H', ⟨by first | omega | exact Ca _⟩, ⟨rR_ T0.o⟩, ⟨hB_⟩⟩
  ·replace c7 := Ea c7
   subst c7
   replace H := iF_ H
   have H' := c_ H
   clear H
   go_wp2_with (first | (refine gp_ (k_ 11 Tryz.func47) (au.calls _ _ _ _ _ _ (cR_ (vb y1.o HB.o)) p2.o A6.o) fun nd => ?_))
   go_meet
   case rel => exact ⟨_, (true), f0_, H', ⟨by first | omega | exact Ca _⟩, ⟨rR_ T0.o⟩, ⟨hB_⟩⟩
 clear O1
 obtain ⟨kq, L0, rfl, HA, q2, d0, HB⟩ := hcut
 rcases kq with _ | r2
 ·exact absurd HA.o (by simp [aH.j0])
 have H := HA.o
 clear HA
 simp only [aH.j0] at H
 by_cases c9 : L0 = true
 ·subst c9
  replace H := iT_ H
  obtain rfl := Ba H
  go_wp2
  go_ret
  exact ⟨_, f1_, rR_ d0.o, hB_⟩
 ·replace c9 := Ea c9
  subst c9
  replace H := iF_ H
  have H' := c_ H
  clear H
  go_wp2
  go_loopg [5, 6] r2 (fun kq v5 v6 w' => ∃ (O0 : List Int) (C0 : Int), v6 = .int .i64 C0 ∧ aa (aH.l0 kq l0 l1 O0 C0 = some r) ∧ aa (kq ≤ r2) ∧ aa (Kd.R (Kd.int .i64) 3 w' w.heap.size (fun _ => True) v5 O0) ∧ aa (Below w.heap.size w w'))
  case atStart => exact ⟨(V0), (0), f0_, H', ⟨Ca _⟩, ⟨rR_ d0.o⟩, ⟨hB_⟩⟩
  clear H'
  obtain ⟨O0, C0, rfl, HA, t2, d0, HB⟩ := hrel
  rcases gk with _ | k2
  ·exact absurd HA.o (by simp [aH.l0])
  have H := HA.o
  clear HA
  simp only [aH.l0] at H
  by_cases z1 : C0 < 128
  rotate_left
  ·rw [Ga z1] at H
   have D1 := za z1
   clear z1
   obtain rfl := Ba H
   go_wp2
   go_ret
   exact ⟨_, f1_, rR_ d0.o, hB_⟩
  rw [Fa z1] at H
  have D1 := ya z1
  clear z1
  obtain ⟨G2, S1, H⟩ := bN_ H
  obtain ⟨Q0, T1, H⟩ := bN_ H
  obtain ⟨a0, y0⟩ : ∃ j_ : Int, (wrap64 ((wrap64 (2 * C0)) + 1)) = j_ := ⟨_, rfl⟩
  first | rw [y0] at H | simp only [y0] at H
  (try rw [y0] at S1)
  (try rw [y0] at T1)
  have U1 : (IntKind.i64.wrap ((wrap64 (2 * C0)) + 1)) = a0 := (bB _).trans y0
  obtain ⟨v2, H⟩ := iD_ H
  obtain ⟨y2, H⟩ := iD_ H
  obtain ⟨z2, H⟩ := iD_ H
  obtain ⟨b0, B0⟩ : ∃ j_ : Int, (wrap64 (2 * C0)) = j_ := ⟨_, rfl⟩
  first | rw [B0] at H | simp only [B0] at H
  (try rw [B0] at S1)
  (try rw [B0] at T1)
  have V1 : (IntKind.i64.wrap (2 * C0)) = b0 := (bB _).trans B0
  have hji13_ji17 : wrap64 (b0 + 1) = a0 := by rw [← B0]; exact y0
  have hji13_ji17w : IntKind.i64.wrap (b0 + 1) = a0 := (bB _).trans hji13_ji17
  obtain ⟨A2, H⟩ := iD_ H
  obtain ⟨B2, H⟩ := iD_ H
  obtain ⟨C2, H⟩ := iD_ H
  obtain ⟨W0, M0⟩ : ∃ y_ : List Int, y_ = (([Int.tmod (wrap64 ((wrap64 ((rd l0 (b0)) * (rd l1 (b0)))) + (wrap64 ((Int.tmod (wrap64 ((rd l0 (a0)) * (rd l1 (a0)))) 3329) * Q0)))) 3329, Int.tmod (wrap64 ((wrap64 ((rd l0 (b0)) * (rd l1 (a0)))) + (wrap64 ((rd l0 (a0)) * (rd l1 (b0)))))) 3329] : List Int)) := ⟨_, rfl⟩
  first | replace H := yb_ M0 H | rw [← M0] at H
  have U0 := c_ M0
  clear M0
  obtain ⟨D2, H⟩ := iN_ H
  have E1 := c_ D2
  clear D2
  obtain ⟨X1, N0⟩ : ∃ y_ : List Int, y_ = (O0 ++ W0) := ⟨_, rfl⟩
  first | replace H := yb_ N0 H | rw [← N0] at H
  have F1 := c_ N0
  clear N0
  have H' := c_ H
  clear H
  try go_wp2_with (first | (refine gp_ (k_ 24 Tryz.func49) (bi.calls _ _ _ _ S1.o) fun nd => ?_) | (refine gp_ (k_ 27 Tryz.func48) (bv.calls _ _ _ _ _ T1.o) fun nd => ?_))
  (try (rw [dt wr]; generalize hq_ : World.drewN wr _ = wr; obtain ⟨d0, HB⟩ := b_ (show Kd.R (Kd.int .i64) 3 wr w.heap.size (fun _ => True) u5 O0 from by rw [← hq_]; exact (rR_ d0.o)) <| c_ (show Below w.heap.size w wr from by rw [← hq_]; exact (hB_))))
  obtain ⟨d0, HB⟩ := b_ (vh d0.o) <| c_ (bE HB.o)
  have X0 : 0 ≤ ((a0) : Int) := oD_
  have Y0 : (a0) < (l0.length : Int) := oD_
  obtain ⟨v0, Y1, e0⟩ := uX y1.o (a0) X0 Y0
  have R0 := e0
  cases Y1
  replace e0 := hc_ e0
  replace X0 := Aa X0
  replace Y0 := Aa Y0
  have Z0 : 0 ≤ ((a0) : Int) := oD_
  have b1 : (a0) < (l1.length : Int) := oD_
  obtain ⟨x0, Z1, f0⟩ := uX B1.o (a0) Z0 b1
  have S0 := f0
  cases Z1
  replace f0 := hc_ f0
  replace Z0 := Aa Z0
  replace b1 := Aa b1
  refine eI (n := 17) (S := fun w' => w'.cell? (v0.add ((a0)).toNat) = some (.int .i64 (rd l0 (a0))) ∧ w'.cell? (x0.add ((a0)).toNat) = some (.int .i64 (rd l1 (a0)))) (ds := []) (bb_ 17 0) (by kernel_rfl) rfl rfl ⟨(hc_ R0), (hc_ S0)⟩ (fun hHeld => ?_); refine cW aH.tab8 aH.bits8 (fun HT_ HW_ => ?_)
  generalize wr.drew = H2 at d0 HB e0 f0 hHeld ⊢
  refine pT_ 0 28 17 1 ?_
  refine pT_ 1 29 17 3 ?_
  refine pT_ 2 30 17 7 ?_
  refine pT_ 3 31 17 15 ?_
  refine pT_ 4 32 17 31 ?_
  refine pT_ 6 34 17 95 ?_
  refine pT_ 7 35 17 223 ?_
  refine pT_ 8 36 17 479 ?_
  refine pT_ 9 37 17 991 ?_
  refine pT_ 10 38 17 2015 ?_
  refine pT_ 14 42 17 18399 ?_
  refine tS_ 5 33 (bb_ 17 18431) (bF HT_.o HW_.o (by kernel_rfl)) hHeld ?_
  refine tS_ 11 39 (bb_ 17 20479) (bF HT_.o HW_.o (by kernel_rfl)) hHeld ?_
  refine pT_ 12 40 17 24575 ?_
  refine pT_ 13 41 17 32767 ?_
  refine pT_ 15 43 17 65535 ?_
  refine pT_ 16 8 17 131071 ?_
  refine fK (dN HT_.o (by kernel_rfl)) ?_
  try go_wp2
  obtain ⟨d0, HB⟩ := b_ (vh d0.o) <| c_ (bE HB.o)
  have d1 : 0 ≤ ((b0) : Int) := oD_
  have e1 : (b0) < (l0.length : Int) := oD_
  obtain ⟨G1, b2, k0⟩ := uX y1.o (b0) d1 e1
  have D0 := k0
  obtain rfl : v0 = G1 := (by injection b2)
  replace k0 := hc_ k0
  replace d1 := Aa d1
  replace e1 := Aa e1
  have f1 : 0 ≤ ((b0) : Int) := oD_
  have g1 : (b0) < (l1.length : Int) := oD_
  obtain ⟨H1, c2, n0⟩ := uX B1.o (b0) f1 g1
  have E0 := n0
  obtain rfl : x0 = H1 := (by injection c2)
  replace n0 := hc_ n0
  replace f1 := Aa f1
  replace g1 := Aa g1
  have i1 : 0 ≤ ((b0) : Int) := oD_
  have j1 : (b0) < (l0.length : Int) := oD_
  obtain ⟨I1, f2, p0⟩ := uX y1.o (b0) i1 j1
  have F0 := p0
  obtain rfl : v0 = I1 := (by injection f2)
  replace p0 := hc_ p0
  replace i1 := Aa i1
  replace j1 := Aa j1
  have m1 : 0 ≤ ((a0) : Int) := oD_
  have n1 : (a0) < (l1.length : Int) := oD_
  obtain ⟨J1, g2, q0⟩ := uX B1.o (a0) m1 n1
  have G0 := q0
  obtain rfl : x0 = J1 := (by injection g2)
  replace q0 := hc_ q0
  replace m1 := Aa m1
  replace n1 := Aa n1
  have p1 : 0 ≤ ((a0) : Int) := oD_
  have q1 : (a0) < (l0.length : Int) := oD_
  obtain ⟨K1, i2, r0⟩ := uX y1.o (a0) p1 q1
  have H0 := r0
  obtain rfl : v0 = K1 := (by injection i2)
  replace r0 := hc_ r0
  replace p1 := Aa p1
  replace q1 := Aa q1
  have r1 : 0 ≤ ((b0) : Int) := oD_
  have t1 : (b0) < (l1.length : Int) := oD_
  obtain ⟨L1, j2, t0⟩ := uX B1.o (b0) r1 t1
  have I0 := t0
  obtain rfl : x0 = L1 := (by injection j2)
  replace t0 := hc_ t0
  replace r1 := Aa r1
  replace t1 := Aa t1
  refine eI (n := 44) (S := fun w' => w'.cell? (v0.add ((b0)).toNat) = some (.int .i64 (rd l0 (b0))) ∧ w'.cell? (x0.add ((b0)).toNat) = some (.int .i64 (rd l1 (b0))) ∧ w'.cell? (v0.add ((b0)).toNat) = some (.int .i64 (rd l0 (b0))) ∧ w'.cell? (x0.add ((a0)).toNat) = some (.int .i64 (rd l1 (a0))) ∧ w'.cell? (v0.add ((a0)).toNat) = some (.int .i64 (rd l0 (a0))) ∧ w'.cell? (x0.add ((b0)).toNat) = some (.int .i64 (rd l1 (b0)))) (ds := []) (bb_ 44 0) (by kernel_rfl) rfl rfl ⟨(hc_ D0), (hc_ E0), (hc_ F0), (hc_ G0), (hc_ H0), (hc_ I0)⟩ (fun hHeld => ?_); refine cW aH.tab9 aH.bits9 (fun HT_ HW_ => ?_)
  generalize H2.drew = K2 at d0 HB k0 n0 p0 q0 r0 t0 hHeld ⊢
  refine pT_ 0 44 44 1 ?_
  refine pT_ 1 45 44 3 ?_
  refine pT_ 2 46 44 7 ?_
  refine pT_ 3 47 44 15 ?_
  refine pT_ 4 48 44 31 ?_
  refine pT_ 6 50 44 95 ?_
  refine pT_ 7 51 44 223 ?_
  refine pT_ 8 52 44 479 ?_
  refine pT_ 9 53 44 991 ?_
  refine pT_ 12 56 44 5087 ?_
  refine pT_ 15 59 44 37855 ?_
  refine pT_ 16 60 44 103391 ?_
  refine pT_ 17 61 44 234463 ?_
  refine pT_ 18 62 44 496607 ?_
  refine pT_ 20 64 44 1545183 ?_
  refine pT_ 21 65 44 3642335 ?_
  refine pT_ 22 66 44 7836639 ?_
  refine pT_ 23 67 44 16225247 ?_
  refine pT_ 24 68 44 33002463 ?_
  refine pT_ 27 71 44 167220191 ?_
  refine pT_ 28 72 44 435655647 ?_
  refine pT_ 29 73 44 972526559 ?_
  refine pT_ 30 74 44 2046268383 ?_
  refine pT_ 31 75 44 4193752031 ?_
  refine pT_ 33 77 44 12783686623 ?_
  refine pT_ 34 78 44 29963555807 ?_
  refine pT_ 35 79 44 64323294175 ?_
  refine pT_ 36 80 44 133042770911 ?_
  refine tS_ 5 49 (bb_ 44 133042770943) (bF HT_.o HW_.o (by kernel_rfl)) hHeld ?_
  refine tS_ 10 54 (bb_ 44 133042771967) (bF HT_.o HW_.o (by kernel_rfl)) hHeld ?_
  refine pT_ 11 55 44 133042774015 ?_
  refine pT_ 13 57 44 133042782207 ?_
  refine pT_ 14 58 44 133042798591 ?_
  refine tS_ 19 63 (bb_ 44 133043322879) (bF HT_.o HW_.o (by kernel_rfl)) hHeld ?_
  refine tS_ 25 69 (bb_ 44 133076877311) (bF HT_.o HW_.o (by kernel_rfl)) hHeld ?_
  refine pT_ 26 70 44 133143986175 ?_
  refine tS_ 32 76 (bb_ 44 137438953471) (bF HT_.o HW_.o (by kernel_rfl)) hHeld ?_
  refine tS_ 37 81 (bb_ 44 274877906943) (bF HT_.o HW_.o (by kernel_rfl)) hHeld ?_
  refine pT_ 38 82 44 549755813887 ?_
  refine pT_ 39 83 44 1099511627775 ?_
  refine pT_ 40 84 44 2199023255551 ?_
  refine gh (i := 41) (N := some 85) (bb_ 44 4398046511103) rfl rfl (cO HT_.o (by kernel_rfl)) (by decide) (fun K hK => ?_)
  refine wF (Kd.int .i64) _ 3 ?hg (N := 85) ?hd (xs := ([Int.tmod (wrap64 ((wrap64 ((rd l0 (b0)) * (rd l1 (b0)))) + (wrap64 ((Int.tmod (wrap64 ((rd l0 (a0)) * (rd l1 (a0)))) 3329) * Q0)))) 3329, Int.tmod (wrap64 ((wrap64 ((rd l0 (b0)) * (rd l1 (a0)))) + (wrap64 ((rd l0 (a0)) * (rd l1 (b0)))))) 3329] : List Int)) (inner := [.int .i64 (Int.tmod (wrap64 ((wrap64 ((rd l0 (b0)) * (rd l1 (b0)))) + (wrap64 ((Int.tmod (wrap64 ((rd l0 (a0)) * (rd l1 (a0)))) 3329) * Q0)))) 3329), .int .i64 (Int.tmod (wrap64 ((wrap64 ((rd l0 (b0)) * (rd l1 (a0)))) + (wrap64 ((rd l0 (a0)) * (rd l1 (b0)))))) 3329)]) (ok := fun _ => True) (okp := fun _ => True) ?hr ?hp (fun _ hk => hk) trivial (Da _ _) (Ca _) (by simp) ?_; (case hd => rfl); (case hg => rfl); (case hr => first | (go_simp; done) | (go_simp; rfl)); (case hp => exact (eM.one (show Kd.M (Kd.int .i64) _ _ _ (Int.tmod (wrap64 ((wrap64 ((rd l0 (b0)) * (rd l1 (b0)))) + (wrap64 ((Int.tmod (wrap64 ((rd l0 (a0)) * (rd l1 (a0)))) 3329) * Q0)))) 3329) [.int .i64 (Int.tmod (wrap64 ((wrap64 ((rd l0 (b0)) * (rd l1 (b0)))) + (wrap64 ((Int.tmod (wrap64 ((rd l0 (a0)) * (rd l1 (a0)))) 3329) * Q0)))) 3329)] from rfl) (eM.one (show Kd.M (Kd.int .i64) _ _ _ (Int.tmod (wrap64 ((wrap64 ((rd l0 (b0)) * (rd l1 (a0)))) + (wrap64 ((rd l0 (a0)) * (rd l1 (b0)))))) 3329) [.int .i64 (Int.tmod (wrap64 ((wrap64 ((rd l0 (b0)) * (rd l1 (a0)))) + (wrap64 ((rd l0 (a0)) * (rd l1 (b0)))))) 3329)] from rfl) (eM.none _ _))))
  intro I2 L2 P0 hb hg_ hnew_
  clear hg_ hnew_
  (first | rw [← U0.o] at P0 | (simp only [Int.reduceToNat] at P0; rw [← U0.o] at P0))
  obtain ⟨d0, J0, HB⟩ := b_ (vg (rR_ d0.o) (vd P0) hb) <| b_ (uY (vq P0 (vF (rR_ d0.o))) (av (hB_))) <| sB_
  clear hb P0
  obtain ⟨l2, m2, M1⟩ := uV J0.o
  (first | subst M1 | (injection M1 with f1_ f2_ f3_; have f4_ := f1_.symm; have f5_ := f3_.symm; clear f1_ f2_ f3_; subst f4_; subst f5_))
  refine hK _ _ ⟨(hc_ D0), (hc_ E0), (hc_ F0), (hc_ G0), (hc_ H0), (hc_ I0)⟩ (fun hHeld => ?_)
  clear hK K
  refine er (a' := ?_) ?_ ?_
  rotate_left
  ·show Act.put _ (some 85) _ = _
   simp only [Act.put, List.setIfInBounds_toArray, List.set_cons_zero, List.set_cons_succ, bB, cG]
   rfl
  refine gh (i := 42) (N := some 86) (bb_ 44 8796093022207) rfl rfl (cO HT_.o (by kernel_rfl)) (by decide) (fun K hK => ?_)
  refine vL (Kd.int .i64) (w0 := w) w.heap.size (by rfl) (.tmp 44) (.tmp 85) 33 3 (.int .i64 0) 8 rfl Tryz.underlying33 di rfl (by decide) (by omega) u5 O0 W0 _ _ _ (fun k_ => some k_ ≠ (.slice l2 W0.length m2 : Value).ownBlock) (fun _ => False) rfl rfl ?aO ?aR (fun _ _ h => h) (fun _ h => h.elim) ?aF ?aB ?aS ?aL ?_
  (case aR => exact cR_ (uU J0.o).2.2)
  (case aB => exact (hB_))
  (case aF => exact (fun k_ hk => Kd.fresh' (vF (rR_ J0.o)) k_ hk))
  (case aO => exact (by refine kR_ ?_; exact uW d0.o (fun _ hk => hk.2)))
  (case aS => exact (av (hB_)))
  (case aL => have := E1.o; omega)
  intro J2 M2 ho hb hg hat
  rw [← F1.o] at ho
  obtain ⟨J0, HB, N1⟩ := b_ (vw (ok := (fun _ => True)) (rR_ J0.o) hg hat) <| b_ (hb) <| c_ (ho)
  clear ho hb hg hat
  refine hK _ _ ⟨(hc_ D0), (hc_ E0), (hc_ F0), (hc_ G0), (hc_ H0), (hc_ I0)⟩ (fun hHeld => ?_)
  clear hK K
  refine er (a' := ?_) ?_ ?_
  rotate_left
  ·show Act.put _ (some 86) _ = _
   simp only [Act.put, List.setIfInBounds_toArray, List.set_cons_zero, List.set_cons_succ, bB, cG]
   rfl
  refine pT_ 43 5 44 17592186044415 ?_
  refine fK (dN HT_.o (by kernel_rfl)) ?_
  try go_wp2
  go_roundg k2
  case measure => have := q2.o; have := t2.o; omega
  case rel => exact ⟨(X1), (wrap64 (C0 + 1)), f0_, H', ⟨by have := q2.o; have := t2.o; omega⟩, ⟨by refine kR_ ?_; exact uW N1.o (fun _ hk => trivial)⟩, ⟨hB_⟩⟩
def aV.l0 : Nat → List (List Int) → List (List Int) → List Int → Int → Option (List Int)
 | 0, _, _, _, _ => none
 | k + 1, x0, x1, x5, x6 => if x6 < (x0.length : Int) then (if 0 ≤ x6 then (if x6 < (x1.length : Int) then ((aH.f k (dV x0 x6) (dV x1 x6)).bind fun t448 => ((aG.f k x5 t448).bind fun t451 => (aV.l0 k x0 x1 t451 (wrap64 (x6 + 1))))) else (none)) else (none)) else (some x5)
def aV.f (k : Nat) (l0 : List (List Int)) (l1 : List (List Int)) : Option (List Int) := if 256 ≤ 35184372088832 then (aV.l0 k l0 l1 (List.replicate 256 0) 0) else (none)
theorem aV.mono_l : ∀ k, (∀ y0 y1 y2 y3, LeO (aV.l0 k y0 y1 y2 y3) (aV.l0 (k + 1) y0 y1 y2 y3))
 | 0 => fun _ _ _ _ r h => by simp [aV.l0] at h
 | k + 1 => by
  have ih0 := aV.mono_l k
  intros; unfold aV.l0; exact o3_ ih0 aH.mono aG.mono
theorem aV.mono : ∀ a0 a1 k, LeO (aV.f k a0 a1) (aV.f (k + 1) a0 a1) := by
 intro a0 a1 k
 have ih0 := aV.mono_l k
 unfold aV.f
 exact o3_ ih0 aH.mono aG.mono
def aV.T5 : Bool × List (List Nat × List Nat) := (true, [([], []), ([], []), ([], []), ([1, 2], [1, 2]), ([3], [3]), ([], []), ([], []), ([5, 6], [5, 6]), ([7], [7]), ([4, 8], [4, 8]), ([0, 9, 9], [0, 9]), ([10, 10, 0, 1, 2, 3, 4, 5, 6, 7, 8, 9, 10], [0, 10])])
def aV.B5 : List Nat := [0, 0, 0, 6, 14, 0, 0, 96, 224, 510, 1023, 2047]
theorem aV.tab5 : eH .any (fJ Tryz.f23 5) = aV.T5 := by kernel_rfl
theorem aV.bits5 : dw aV.T5.2 aV.B5 = true := by kernel_rfl
theorem aV.calls (k : Nat) (A0 : Option Addr) (c0 : Nat) (l0 : List (List Int)) (A1 : Option Addr) (c1 : Nat) (l1 : List (List Int)) (r : List Int) (w : World) (hr0 : Kd.C (Kd.slice 3 (Kd.int .i64)) w A0 l0.length l0) (hc0 : l0.length ≤ c0) (hr1 : Kd.C (Kd.slice 3 (Kd.int .i64)) w A1 l1.length l1) (hc1 : l1.length ≤ c1) (h : aV.f k l0 l1 = some r) :
  Calls Tryz.prog 23 #[.slice A0 l0.length c0, .slice A1 l1.length c1] w fun e w' => ∃ g1 : Value, e = .returned (g1) ∧ Kd.R (Kd.int .i64) 3 w' w.heap.size (fun _ => True) g1 r ∧ Below w.heap.size w w' := by
 have j1 := c_ hr0
 have C1 := c_ hc0
 clear hr0 hc0
 have m1 := c_ hr1
 have D1 := c_ hc1
 clear hr1 hc1
 have HB := c_ (Da w.heap.size w)
 delta aV.f at h
 have H := h
 clear h
 obtain ⟨c3, H⟩ := iN_ H
 have n1 := Aa c3
 have p1 := ya c3
 clear c3
 obtain ⟨W0, n0⟩ : ∃ y_ : List Int, y_ = (List.replicate 256 0) := ⟨_, rfl⟩
 first | replace H := yb_ n0 H | rw [← n0] at H
 have H0 := c_ n0
 clear n0
 have H' := c_ H
 clear H
 go_enter Tryz.func23, Tryz.ntmps23
 go_wp2_with (first | ((refine cQ (N := 7) rfl ?_); refine vs (Kd.int .i64) _ 3 rfl (N := 7) rfl 33 _ _ rfl 256 rfl rfl Tryz.underlying33 (.int .i64 0) 8 di rfl (by decide) (by omega) 0 (ok := fun _ => True) (okp := fun _ => True) rfl (fun _ hk => hk) trivial (by omega) (by omega) (Da _ _) (Ca _) ?_; intro q1 w4 O0 hb hg_ hnew_; clear hg_ hnew_; (first | rw [← H0.o] at O0 | (simp only [Int.reduceToNat] at O0; rw [← H0.o] at O0)); obtain ⟨P0, HB⟩ := b_ (uY O0 (av (hB_))) <| sB_; clear hb O0))
 go_loopg [5, 6] k (fun kq v5 v6 w' => ∃ (y0 : List Int) (a0 : Int), v6 = .int .i64 a0 ∧ aa (aV.l0 kq l0 l1 y0 a0 = some r) ∧ aa (kq ≤ k) ∧ aa (Kd.R (Kd.int .i64) 3 w' w.heap.size (fun _ => True) v5 y0) ∧ aa (Below w.heap.size w w'))
 case atStart => exact ⟨(W0), (0), f0_, H', ⟨Ca _⟩, ⟨rR_ P0.o⟩, ⟨hB_⟩⟩
 clear H'
 obtain ⟨y0, a0, rfl, HA, i1, b0, HB⟩ := hrel
 rcases gk with _ | k1
 ·exact absurd HA.o (by simp [aV.l0])
 have H := HA.o
 clear HA
 simp only [aV.l0] at H
 by_cases c6 : a0 < (l0.length : Int)
 rotate_left
 ·rw [Ga c6] at H
  have X0 := za c6
  clear c6
  obtain rfl := Ba H
  go_wp2
  go_ret
  exact ⟨_, f1_, rR_ b0.o, hB_⟩
 rw [Fa c6] at H
 have X0 := ya c6
 clear c6
 obtain ⟨r1, H⟩ := iD_ H
 obtain ⟨t1, H⟩ := iD_ H
 obtain ⟨I0, A9, H⟩ := bN_ H
 obtain ⟨Q0, y1, H⟩ := bN_ H
 have H' := c_ H
 clear H
 try go_wp2
 obtain ⟨b0, HB⟩ := b_ (vh b0.o) <| c_ (bE HB.o)
 have J0 : 0 ≤ (a0 : Int) := oD_
 have K0 : a0 < (l0.length : Int) := oD_
 obtain ⟨R0, B0, C0, Y0, d0, p0, q0⟩ := mr j1.o a0 J0 K0
 have j0 := d0
 cases Y0
 replace d0 := hc_ d0
 have r0 := c_ q0
 have F0 := c_ p0
 clear q0 p0
 replace J0 := Aa J0
 replace K0 := Aa K0
 have L0 : 0 ≤ (a0 : Int) := oD_
 have M0 : a0 < (l1.length : Int) := oD_
 obtain ⟨S0, D0, E0, Z0, e0, t0, v0⟩ := mr m1.o a0 L0 M0
 have k0 := e0
 cases Z0
 replace e0 := hc_ e0
 have x0 := c_ v0
 have G0 := c_ t0
 clear v0 t0
 replace L0 := Aa L0
 replace M0 := Aa M0
 refine eI (n := 12) (S := fun w' => w'.cell? (R0.add (a0).toNat) = some (.slice B0 (dV l0 a0).length C0) ∧ w'.cell? (S0.add (a0).toNat) = some (.slice D0 (dV l1 a0).length E0)) (ds := []) (bb_ 12 0) (by kernel_rfl) rfl rfl ⟨(hc_ j0), (hc_ k0)⟩ (fun hHeld => ?_); refine cW aV.tab5 aV.bits5 (fun HT_ HW_ => ?_)
 generalize wr.drew = E1 at b0 HB r0 x0 d0 e0 hHeld ⊢
 refine pT_ 0 14 12 1 ?_
 refine pT_ 1 15 12 3 ?_
 refine pT_ 2 16 12 7 ?_
 refine pT_ 3 17 12 15 ?_
 refine pT_ 5 19 12 47 ?_
 refine pT_ 6 20 12 111 ?_
 refine pT_ 7 21 12 239 ?_
 refine tS_ 4 18 (bb_ 12 255) (bF HT_.o HW_.o (by kernel_rfl)) hHeld ?_
 refine tS_ 8 22 (bb_ 12 511) (bF HT_.o HW_.o (by kernel_rfl)) hHeld ?_
 refine gh (i := 9) (N := some 23) (bb_ 12 1023) rfl rfl (cO HT_.o (by kernel_rfl)) (by decide) (fun K hK => ?_)
 refine fX Tryz.func53 (by kernel_rfl) rfl #[.slice B0 (dV l0 a0).length C0, .slice D0 (dV l1 a0).length E0] (by rfl) rfl rfl aM_ ?_
 with_reducible refine (aH.calls k1 _ _ (dV l0 a0) _ _ (dV l1 a0) I0 _ ?side1 ?side2 ?side3 ?side4 A9.o).mono ?_
 (case side1 => exact cR_ (vb r0.o HB.o))
 (case side2 => exact F0.o)
 (case side3 => exact cR_ (vb x0.o HB.o))
 (case side4 => exact G0.o)
 rintro e F1 ⟨z1, rfl, N0, hb⟩
 refine ⟨_, rfl, ?_⟩
 obtain ⟨b0, f0, HB⟩ := b_ (vg (rR_ b0.o) (vd N0) hb) <| b_ (uY (vq N0 (vF (rR_ b0.o))) (av (hB_))) <| sB_
 obtain ⟨b1, d1, T0⟩ := uV b0.o
 (first | subst T0 | (injection T0 with f1_ f2_ f3_; have f4_ := f1_.symm; have f5_ := f3_.symm; clear f1_ f2_ f3_; subst f4_; subst f5_))
 obtain ⟨e1, f1, U0⟩ := uV f0.o
 (first | subst U0 | (injection U0 with f1_ f2_ f3_; have f4_ := f1_.symm; have f5_ := f3_.symm; clear f1_ f2_ f3_; subst f4_; subst f5_))
 refine hK _ _ ⟨(hc_ j0), (hc_ k0)⟩ (fun hHeld => ?_)
 clear hK K
 refine er (a' := ?_) ?_ ?_
 rotate_left
 ·show Act.put _ (some 23) _ = _
  simp only [Act.put, List.setIfInBounds_toArray, List.set_cons_zero, List.set_cons_succ, bB, cG]
  rfl
 refine gh (i := 10) (N := some 24) (bb_ 12 2047) rfl rfl (cO HT_.o (by kernel_rfl)) (by decide) (fun K hK => ?_)
 refine fX Tryz.func22 (by kernel_rfl) rfl #[.slice b1 y0.length d1, .slice e1 I0.length f1] (by rfl) rfl rfl aM_ ?_
 with_reducible refine (aG.calls k1 _ _ y0 _ _ I0 Q0 _ ?side1 ?side2 ?side3 ?side4 y1.o).mono ?_
 (case side1 => exact cR_ (uU b0.o).2.2)
 (case side2 => exact (uU b0.o).2.1)
 (case side3 => exact cR_ (uU f0.o).2.2)
 (case side4 => exact (uU f0.o).2.1)
 rintro e G1 ⟨B1, rfl, N0, hb⟩
 refine ⟨_, rfl, ?_⟩
 obtain ⟨b0, f0, V0, HB⟩ := b_ (vg (rR_ b0.o) (vd N0) hb) <| b_ (vg (rR_ f0.o) (vd N0) hb) <| b_ (uY (vq (vq N0 (vF (rR_ b0.o))) (vF (rR_ f0.o))) (av (hB_))) <| sB_
 refine hK _ _ ⟨(hc_ j0), (hc_ k0)⟩ (fun hHeld => ?_)
 clear hK K
 refine er (a' := ?_) ?_ ?_
 rotate_left
 ·show Act.put _ (some 24) _ = _
  simp only [Act.put, List.setIfInBounds_toArray, List.set_cons_zero, List.set_cons_succ, bB, cG]
  rfl
 refine pT_ 11 5 12 4095 ?_
 refine fK (dN HT_.o (by kernel_rfl)) ?_
 try go_wp2
 go_roundg k1
 case measure => have := i1.o; omega
 case rel => exact ⟨(Q0), (wrap64 (a0 + 1)), f0_, H', ⟨by have := i1.o; omega⟩, ⟨by refine kR_ ?_; exact uW V0.o (fun _ hk => trivial)⟩, ⟨hB_⟩⟩
def b8.f (a0 : Int) (a1 : Int) (a2 : Int) : Option (Bool) := if a0 ≥ a1 then (some (decide (a0 ≤ a2))) else (some false)
theorem b8.calls (a0 : Int) (a1 : Int) (a2 : Int) (r : Bool) (w : World) (h : b8.f a0 a1 a2 = some r) :
  Calls Tryz.prog 100 #[.int .i64 a0, .int .i64 a1, .int .i64 a2] w fun e w' => e = .returned (.bool r) ∧ cx w w' := by
 delta b8.f at h
 have H := h
 clear h
 by_cases c4 : a0 ≥ a1
 ·rw [Fa c4] at H
  have b0 := ya c4
  clear c4
  obtain rfl := Ba H
  go_enter Tryz.func100, Tryz.ntmps100
  go_wp2
  go_ret
  exact ⟨f0_, d0_⟩
 rw [Ga c4] at H
 have b0 := za c4
 clear c4
 obtain rfl := Ba H
 go_enter Tryz.func100, Tryz.ntmps100
 go_wp2
 go_ret
 exact ⟨f0_, d0_⟩
def aw.l0 : Nat → List Int → List Int → Int → Int → Option (Bool)
 | 0, _, _, _, _ => none
 | k + 1, x0, x5, x6, x7 => if x7 < x6 then (if 0 ≤ x7 then (if x7 < (x5.length : Int) then ((b8.f (rd x5 x7) 0 3328).bind fun t494 => (if t494 = true then (aw.l0 k x0 x5 x6 (wrap64 (x7 + 1))) else (some false))) else (none)) else (none)) else (some ((x0.length : Int) == 256))
def aw.f (k : Nat) (l0 : List Int) : Option (Bool) := aw.l0 k l0 l0 (l0.length : Int) 0
theorem aw.mono_l : ∀ k, (∀ y0 y1 y2 y3, LeO (aw.l0 k y0 y1 y2 y3) (aw.l0 (k + 1) y0 y1 y2 y3))
 | 0 => fun _ _ _ _ r h => by simp [aw.l0] at h
 | k + 1 => by
  have ih0 := aw.mono_l k
  intros; unfold aw.l0; exact o1_ ih0
theorem aw.mono : ∀ a0 k, LeO (aw.f k a0) (aw.f (k + 1) a0) := by
 intro a0 k
 have ih0 := aw.mono_l k
 unfold aw.f
 exact o1_ ih0
theorem aw.calls (k : Nat) (A0 : Option Addr) (c0 : Nat) (l0 : List Int) (r : Bool) (w : World) (hr0 : Kd.C (Kd.int .i64) w A0 l0.length l0) (hc0 : l0.length ≤ c0) (h : aw.f k l0 = some r) :
  Calls Tryz.prog 65 #[.slice A0 l0.length c0] w fun e w' => e = .returned (.bool r) ∧ cx w w' := by
 have p0 := c_ hr0
 have v0 := c_ hc0
 clear hr0 hc0
 delta aw.f at h
 have H := h
 clear h
 have H' := c_ H
 clear H
 go_enter Tryz.func65, Tryz.ntmps65
 go_wp2
 go_loopg [7] k (fun kq v7 w' => ∃ (a0 : Int), v7 = .int .i64 a0 ∧ aa (aw.l0 kq l0 l0 (l0.length : Int) a0 = some r) ∧ aa (kq ≤ k) ∧ cx w w')
 case atStart => exact ⟨(0), f0_, H', ⟨Ca _⟩, d0_⟩
 clear H'
 obtain ⟨a0, rfl, HA, q0, ⟨m1, rfl⟩⟩ := hrel
 rcases gk with _ | k1
 ·exact absurd HA.o (by simp [aw.l0])
 have H := HA.o
 clear HA
 simp only [aw.l0] at H
 by_cases c2 : a0 < (l0.length : Int)
 rotate_left
 ·rw [Ga c2] at H
  have k0 := za c2
  clear c2
  obtain rfl := Ba H
  go_wp2
  go_ret
  exact ⟨f0_, d0_⟩
 rw [Fa c2] at H
 have k0 := ya c2
 clear c2
 obtain ⟨r0, H⟩ := iD_ H
 obtain ⟨t0, H⟩ := iD_ H
 obtain ⟨n0, A5, H⟩ := bN_ H
 by_cases c6 : n0 = true
 ·subst c6
  replace H := iT_ H
  have H' := c_ H
  clear H
  have b0 : 0 ≤ (a0 : Int) := oD_
  have d0 : a0 < (l0.length : Int) := oD_
  obtain ⟨j0, f0, e0⟩ := uX p0.o a0 b0 d0
  cases f0
  replace b0 := Aa b0
  replace d0 := Aa d0
  go_wp2_with (first | (refine gp_ (k_ 12 Tryz.func100) (b8.calls _ _ _ _ _ A5.o) fun nd => ?_))
  go_roundg k1
  case measure => have := q0.o; omega
  case rel => exact ⟨(wrap64 (a0 + 1)), f0_, H', ⟨by have := q0.o; omega⟩, d0_⟩
 ·replace c6 := Ea c6
  subst c6
  replace H := iF_ H
  obtain rfl := Ba H
  have b0 : 0 ≤ (a0 : Int) := oD_
  have d0 : a0 < (l0.length : Int) := oD_
  obtain ⟨j0, f0, e0⟩ := uX p0.o a0 b0 d0
  cases f0
  replace b0 := Aa b0
  replace d0 := Aa d0
  go_wp2_with (first | (refine gp_ (k_ 12 Tryz.func100) (b8.calls _ _ _ _ _ A5.o) fun nd => ?_))
  go_ret
  exact ⟨f0_, d0_⟩
mutual
def aA.l0 : Nat → Int → List Int → List Int → Int → Int → Option (ByteArray)
 | 0, _, _, _, _, _ => none
 | k + 1, x1, x5, x17, x18, x19 => if x19 < x18 then (if 0 ≤ x19 then (if x19 < (x17.length : Int) then (aA.l1 k x1 x5 x19 (rd x17 x19) x17 x18 x19 x1 0) else (none)) else (none)) else (some (strOfNums x5))
def aA.l1 : Nat → Int → List Int → Int → Int → List Int → Int → Int → Int → Int → Option (ByteArray)
 | 0, _, _, _, _, _, _, _, _, _ => none
 | k + 1, x1, x5, x6, x7, x17, x18, x19, x24, x25 => if x25 < x24 then (if 0 ≤ (wrap64 (Int.tdiv (wrap64 ((wrap64 (x6 * x1)) + x25)) 8)) then (if (wrap64 (Int.tdiv (wrap64 ((wrap64 (x6 * x1)) + x25)) 8)) < (x5.length : Int) then (if 0 ≤ x25 then (if 0 ≤ (Int.tmod (wrap64 ((wrap64 (x6 * x1)) + x25)) 8) then (aA.l1 k x1 (x5.set ((wrap64 (Int.tdiv (wrap64 ((wrap64 (x6 * x1)) + x25)) 8)) : Int).toNat (Go.bits .or .u8 (rd x5 (wrap64 (Int.tdiv (wrap64 ((wrap64 (x6 * x1)) + x25)) 8))) (shl .u8 ((Go.bits .and .i64 (shr .i64 x7 x25) 1) % 256) (Int.tmod (wrap64 ((wrap64 (x6 * x1)) + x25)) 8)))) x6 x7 x17 x18 x19 x24 (wrap64 (x25 + 1))) else (none)) else (none)) else (none)) else (none)) else (aA.l0 k x1 x5 x17 x18 (wrap64 (x19 + 1)))
end
def aA.f (k : Nat) (l0 : List Int) (a1 : Int) : Option (ByteArray) := if 0 ≤ (wrap64 (Int.tdiv (wrap64 ((wrap64 ((l0.length : Int) * a1)) + 7)) 8)) then (if (wrap64 (Int.tdiv (wrap64 ((wrap64 ((l0.length : Int) * a1)) + 7)) 8) : Int).toNat ≤ 281474976710656 then (aA.l0 k a1 (List.replicate (wrap64 (Int.tdiv (wrap64 ((wrap64 ((l0.length : Int) * a1)) + 7)) 8) : Int).toNat 0) l0 (l0.length : Int) 0) else (none)) else (none)
theorem aA.mono_l : ∀ k, (∀ y0 y1 y2 y3 y4, LeO (aA.l0 k y0 y1 y2 y3 y4) (aA.l0 (k + 1) y0 y1 y2 y3 y4)) ∧ (∀ y0 y1 y2 y3 y4 y5 y6 y7 y8, LeO (aA.l1 k y0 y1 y2 y3 y4 y5 y6 y7 y8) (aA.l1 (k + 1) y0 y1 y2 y3 y4 y5 y6 y7 y8))
 | 0 => ⟨fun _ _ _ _ _ r h => by simp [aA.l0] at h, fun _ _ _ _ _ _ _ _ _ r h => by simp [aA.l1] at h⟩
 | k + 1 => by
  obtain ⟨ih0, ih1⟩ := aA.mono_l k
  refine ⟨?_, ?_⟩ <;> (intros; (first | unfold aA.l0 | unfold aA.l1); exact o2_ ih0 ih1)
theorem aA.mono : ∀ a0 a1 k, LeO (aA.f k a0 a1) (aA.f (k + 1) a0 a1) := by
 intro a0 a1 k
 obtain ⟨ih0, ih1⟩ := aA.mono_l k
 unfold aA.f
 exact o2_ ih0 ih1
def aA.T9 : Bool × List (List Nat × List Nat) := (true, [([], []), ([], []), ([1], [1]), ([0, 2], [0, 2]), ([3], [3]), ([], []), ([], []), ([5, 6], [5, 6]), ([7], [7]), ([8], [8]), ([], []), ([10], [10]), ([9, 11], [9, 11]), ([4, 12], [4, 12]), ([0, 2, 0, 1, 2, 3, 4, 5, 6, 7, 8, 9, 10, 11, 12, 13], [0, 2]), ([14, 13, 0, 1, 2, 3, 4, 5, 6, 7, 8, 9, 10, 11, 12, 13], [13, 14])])
def aA.B9 : List Nat := [0, 0, 2, 7, 15, 0, 0, 96, 224, 480, 0, 1024, 4064, 8191, 16383, 32767]
theorem aA.tab9 : eH .any (fJ Tryz.f37 9) = aA.T9 := by kernel_rfl
theorem aA.bits9 : dw aA.T9.2 aA.B9 = true := by kernel_rfl
theorem aA.calls (k : Nat) (A0 : Option Addr) (c0 : Nat) (l0 : List Int) (a1 : Int) (r : ByteArray) (w : World) (hr0 : Kd.C (Kd.int .i64) w A0 l0.length l0) (hc0 : l0.length ≤ c0) (h : aA.f k l0 a1 = some r) :
  Calls Tryz.prog 37 #[.slice A0 l0.length c0, .int .i64 a1] w fun e w' => e = .returned (.string r) ∧ Below w.heap.size w w' := by
 have G1 := c_ hr0
 have R1 := c_ hc0
 clear hr0 hc0
 have HB := c_ (Da w.heap.size w)
 delta aA.f at h
 have H := h
 clear h
 obtain ⟨V0, B0⟩ : ∃ j_ : Int, (wrap64 (Int.tdiv (wrap64 ((wrap64 ((l0.length : Int) * a1)) + 7)) 8)) = j_ := ⟨_, rfl⟩
 first | rw [B0] at H | simp only [B0] at H
 have q1 : (IntKind.i64.wrap (Int.tdiv (wrap64 ((wrap64 ((l0.length : Int) * a1)) + 7)) 8)) = V0 := (bB _).trans B0
 obtain ⟨c4, H⟩ := iN_ H
 have H1 := Aa c4
 have I1 := ya c4
 clear c4
 obtain ⟨c5, H⟩ := iN_ H
 have J1 := Aa c5
 have K1 := ya c5
 clear c5
 obtain ⟨Y0, p0⟩ : ∃ y_ : List Int, y_ = (List.replicate (V0 : Int).toNat 0) := ⟨_, rfl⟩
 first | replace H := yb_ p0 H | rw [← p0] at H
 have D0 := c_ p0
 clear p0
 have H' := c_ H
 clear H
 go_enter Tryz.func37, Tryz.ntmps37
 go_wp2_with (first | ((refine cQ (N := 16) rfl ?_); refine vs (Kd.int .u8) _ 5 rfl (N := 16) rfl 22 _ _ rfl V0 rfl rfl Tryz.underlying22 (.int .u8 0) 1 jj rfl (by decide) (by omega) 0 (ok := fun _ => True) (okp := fun _ => True) rfl (fun _ hk => hk) trivial oD_ (Nat.le_trans (Nat.mul_le_mul_right _ (oD_ : V0.toNat ≤ 281474976710656)) (by omega)) (Da _ _) (Ca _) ?_; intro N0 w6 O0 hb hg_ hnew_; clear hg_ hnew_; (first | rw [← D0.o] at O0 | (simp only [Int.reduceToNat] at O0; rw [← D0.o] at O0)); obtain ⟨P0, HB⟩ := b_ (uY O0 (av (hB_))) <| sB_; clear hb O0))
 go_loopg [19] k (fun kq L1 w' => ∃ (C0 : List Int) (a0 : Int), L1 = .int .i64 a0 ∧ aa (aA.l0 kq a1 C0 l0 (l0.length : Int) a0 = some r) ∧ aa (kq ≤ k) ∧ aa (Kd.R (Kd.int .u8) 5 w' w.heap.size (fun _ => True) N0 C0) ∧ aa (Below w.heap.size w w'))
 case atStart => exact ⟨(Y0), (0), f0_, H', ⟨Ca _⟩, ⟨rR_ P0.o⟩, ⟨hB_⟩⟩
 clear H'
 obtain ⟨C0, a0, rfl, HA, W0, e0, HB⟩ := hrel
 rcases gk with _ | k1
 ·exact absurd HA.o (by simp [aA.l0])
 have H := HA.o
 clear HA
 simp only [aA.l0] at H
 by_cases c8 : a0 < (l0.length : Int)
 rotate_left
 ·rw [Ga c8] at H
  have Z0 := za c8
  clear c8
  obtain rfl := Ba H
  have r1 := d4 (P := Tryz.prog) Tryz.underlying22 Tryz.underlying5 Tryz.underlying9 (vl e0.o)
  go_wp2
  go_ret
  exact ⟨by first | rfl | (simp [dE, dB] <;> rfl) | (simp only [← B0]; first | rfl | (simp [dE, dB] <;> rfl)) | (simp [*, dE, dB] <;> rfl), hB_⟩
 rw [Fa c8] at H
 have Z0 := ya c8
 clear c8
 obtain ⟨M1, H⟩ := iD_ H
 obtain ⟨t1, H⟩ := iD_ H
 have H' := c_ H
 clear H
 have F0 : 0 ≤ (a0 : Int) := oD_
 have G0 : a0 < (l0.length : Int) := oD_
 obtain ⟨y1, b1, q0⟩ := uX G1.o a0 F0 G0
 cases b1
 replace q0 := hc_ q0
 replace F0 := Aa F0
 replace G0 := Aa G0
 go_wp2
 go_loopg [25] k1 (fun kq N1 w' => ∃ (f0 : List Int) (b0 : Int), N1 = .int .i64 b0 ∧ aa (aA.l1 kq a1 f0 a0 (rd l0 a0) l0 (l0.length : Int) a0 a1 b0 = some r) ∧ aa (kq ≤ k1) ∧ aa (Kd.R (Kd.int .u8) 5 w' w.heap.size (fun _ => True) N0 f0) ∧ aa (Below w.heap.size w w'))
 case atStart => exact ⟨(C0), (0), f0_, H', ⟨Ca _⟩, ⟨rR_ e0.o⟩, ⟨hB_⟩⟩
 clear H'
 obtain ⟨f0, b0, rfl, HA, X0, e0, HB⟩ := hrel
 rcases gk with _ | k2
 ·exact absurd HA.o (by simp [aA.l1])
 have H := HA.o
 clear HA
 simp only [aA.l1] at H
 by_cases M0 : b0 < a1
 rotate_left
 ·rw [Ga M0] at H
  have Q0 := za M0
  clear M0
  have H' := c_ H
  clear H
  go_wp2
  go_roundg k2
  case measure => have := W0.o; have := X0.o; omega
  case rel => exact ⟨(f0), (wrap64 (a0 + 1)), f0_, H', ⟨by have := W0.o; have := X0.o; omega⟩, ⟨rR_ e0.o⟩, ⟨hB_⟩⟩
 rw [Fa M0] at H
 have Q0 := ya M0
 clear M0
 obtain ⟨d0, y0⟩ : ∃ j_ : Int, (wrap64 (Int.tdiv (wrap64 ((wrap64 (a0 * a1)) + b0)) 8)) = j_ := ⟨_, rfl⟩
 first | rw [y0] at H | simp only [y0] at H
 have c1 : (IntKind.i64.wrap (Int.tdiv (wrap64 ((wrap64 (a0 * a1)) + b0)) 8)) = d0 := (bB _).trans y0
 obtain ⟨z1, H⟩ := iD_ H
 obtain ⟨A1, H⟩ := iD_ H
 obtain ⟨d1, H⟩ := iN_ H
 have B1 := Aa d1
 have C1 := ya d1
 clear d1
 obtain ⟨k0, r0⟩ : ∃ j_ : Int, (shr .i64 (rd l0 a0) b0) = j_ := ⟨_, rfl⟩
 first | rw [r0] at H | simp only [r0] at H
 have e1 : ((rd l0 a0) / 2 ^ min b0.toNat 64) = k0 := r0
 have f1 : b0 ≤ 64 → ((rd l0 a0) / 2 ^ b0.toNat) = k0 := gq r0
 obtain ⟨n0, E0⟩ : ∃ j_ : Int, (Int.tmod (wrap64 ((wrap64 (a0 * a1)) + b0)) 8) = j_ := ⟨_, rfl⟩
 first | rw [E0] at H | simp only [E0] at H
 obtain ⟨g1, H⟩ := iN_ H
 have D1 := Aa g1
 have E1 := ya g1
 clear g1
 obtain ⟨x0, t0⟩ : ∃ j_ : Int, (shl .u8 ((Go.bits .and .i64 (k0) 1) % 256) (n0)) = j_ := ⟨_, rfl⟩
 first | rw [t0] at H | simp only [t0] at H
 have H0 : (IntKind.u8.wrap (((Go.bits .and .i64 (k0) 1) % 256) * 2 ^ min (n0).toNat 8)) = x0 := t0
 have I0 : (n0) ≤ 8 → (IntKind.u8.wrap (((Go.bits .and .i64 (k0) 1) % 256) * 2 ^ (n0).toNat)) = x0 := fI t0
 have hji19k : ((((Go.bits .and .i64 (k0) 1) % 256) * 2 ^ min (n0).toNat 8) % 256) = x0 := (IntKind.wrap_u8 _).symm.trans H0
 have hji19n : (n0) ≤ 8 → ((((Go.bits .and .i64 (k0) 1) % 256) * 2 ^ (n0).toNat) % 256) = x0 := fun h_ => (IntKind.wrap_u8 _).symm.trans (I0 h_)
 obtain ⟨i1, v0⟩ : ∃ y_ : List Int, y_ = (f0.set ((d0) : Int).toNat (Go.bits .or .u8 (rd f0 (d0)) (x0))) := ⟨_, rfl⟩
 first | replace H := yb_ v0 H | rw [← v0] at H
 have R0 := c_ v0
 clear v0
 have H' := c_ H
 clear H
 try go_wp2
 obtain ⟨e0, HB⟩ := b_ (vh e0.o) <| c_ (bE HB.o)
 obtain ⟨O1, P1, S0⟩ := uV e0.o
 (first | subst S0 | (injection S0 with f1_ f2_ f3_; have f4_ := f1_.symm; have f5_ := f3_.symm; clear f1_ f2_ f3_; subst f4_; subst f5_))
 have J0 : 0 ≤ ((d0) : Int) := oD_
 have K0 : (d0) < (f0.length : Int) := oD_
 obtain ⟨F1, j1, j0⟩ := uX (uU e0.o).2.2 (d0) J0 K0
 cases j1
 replace J0 := Aa J0
 replace K0 := Aa K0
 have m1 : 0 ≤ ((d0) : Int) := oD_
 have n1 : ((d0) : Int) < ((f0.length : Int) : Int) := oD_
 obtain ⟨go20, Q1, T0, U0, gl20, cl20, HG20⟩ := vm e0.o (by omega)
 (first | cases T0 | (injection T0 with ea_ en_ ec_; (first | subst ea_ | (injection ea_ with ea_; subst ea_)); subst ec_; clear en_))
 have p1 := c_ U0
 have GG20 := c_ HG20
 clear U0 gl20 HG20
 (first | simp only [ch] at j0 | skip)
 obtain ⟨L0, hf20_0⟩ := uZ 0 e0.o ((d0) : Int) m1 n1
 replace m1 := Aa m1
 replace n1 := Aa n1
 have HP23 := vG e0.o ((d0) : Int) (Go.bits .or .u8 (rd f0 (d0)) (x0))
 rw [← R0.o] at HP23
 have HQ23 := c_ HP23
 clear HP23
 refine eI (n := 16) (S := fun w' => w'.cell? ⟨go20, ((d0)).toNat, none⟩ = some (.int .u8 (rd f0 (d0)))) (ds := [15]) (bb_ 16 0) (by kernel_rfl) rfl rfl (j0) (fun hHeld => ?_); refine cW aA.tab9 aA.bits9 (fun HT_ HW_ => ?_)
 generalize wr.drew = S1 at e0 HB GG20 HQ23 hf20_0 L0 j0 hHeld ⊢
 refine pT_ 0 33 16 1 ?_
 refine pT_ 1 34 16 3 ?_
 refine pT_ 2 35 16 7 ?_
 refine pT_ 3 36 16 15 ?_
 refine pT_ 5 38 16 47 ?_
 refine pT_ 6 39 16 111 ?_
 refine pT_ 7 40 16 239 ?_
 refine pT_ 8 41 16 495 ?_
 refine pT_ 9 42 16 1007 ?_
 refine pT_ 10 43 16 2031 ?_
 refine pT_ 11 44 16 4079 ?_
 refine pT_ 12 45 16 8175 ?_
 refine tS_ 4 37 (bb_ 16 8191) (bF HT_.o HW_.o (by kernel_rfl)) hHeld ?_
 refine pT_ 13 46 16 16383 ?_
 refine pT_ 14 47 16 32767 ?_
 refine hZ (i := 15) (N := none) (bb_ 16 65535) rfl rfl (cO HT_.o (by kernel_rfl)) (by decide) (fun K hK => ?_)
 refine js (w1 := ?_) (by rfl) rfl ?_ ?_
 rotate_left
 ·go_simp
  rfl
 refine hK _ _ ?_
 clear hK K
 refine fK (dN HT_.o (by kernel_rfl)) ?_
 try go_wp2
 (try simp only [hji19k])
 go_roundg k2
 case measure => have := W0.o; have := X0.o; omega
 case rel => exact ⟨(i1), (wrap64 (b0 + 1)), f0_, H', ⟨by have := W0.o; have := X0.o; omega⟩, ⟨rR_ HQ23.o⟩, ⟨hS_ p1.o⟩⟩
mutual
def ay.j0 : Nat → ByteArray → Int → Int → Bool → Option (List Int × Bool)
 | 0, _, _, _, _ => none
 | k + 1, x0, x1, x2, x30 => if x30 = true then (some (([] : List Int), false)) else (ay.l0 k x0 x1 ([] : List Int) x2 0)
def ay.l0 : Nat → ByteArray → Int → List Int → Int → Int → Option (List Int × Bool)
 | 0, _, _, _, _, _ => none
 | k + 1, x0, x1, x8, x31, x32 => if x32 < x31 then (ay.l1 k x0 x1 x8 x32 0 x31 x32 x1 0) else ((aA.f k x8 x1).bind fun t503 => (if t503.toList = x0.toList then (some (x8, true)) else (some (([] : List Int), false))))
def ay.l1 : Nat → ByteArray → Int → List Int → Int → Int → Int → Int → Int → Int → Option (List Int × Bool)
 | 0, _, _, _, _, _, _, _, _, _ => none
 | k + 1, x0, x1, x8, x9, x10, x31, x32, x35, x36 => if x36 < x35 then (if 0 ≤ (wrap64 (Int.tdiv (wrap64 ((wrap64 (x9 * x1)) + x36)) 8)) then (if (wrap64 (Int.tdiv (wrap64 ((wrap64 (x9 * x1)) + x36)) 8)) < (x0.size : Int) then (if 0 ≤ (Int.tmod (wrap64 ((wrap64 (x9 * x1)) + x36)) 8) then (if 0 ≤ x36 then (ay.l1 k x0 x1 x8 x9 (Go.bits .or .i64 x10 (shl .i64 (wrap64 (Go.bits .and .u8 (shr .u8 (bt x0 (wrap64 (Int.tdiv (wrap64 ((wrap64 (x9 * x1)) + x36)) 8))) (Int.tmod (wrap64 ((wrap64 (x9 * x1)) + x36)) 8)) 1)) x36)) x31 x32 x35 (wrap64 (x36 + 1))) else (none)) else (none)) else (none)) else (none)) else (if x8.length < 17592186044416 then (ay.l0 k x0 x1 (x8 ++ [x10]) x31 (wrap64 (x32 + 1))) else (none))
end
def ay.f (k : Nat) (a0 : ByteArray) (a1 : Int) (a2 : Int) : Option (List Int × Bool) := (b8.f a1 1 12).bind fun t501 => (if t501 = true then ((b8.f a2 0 1000).bind fun t502 => (if t502 = true then (ay.j0 k a0 a1 a2 ((a0.size : Int) != (wrap64 (Int.tdiv (wrap64 ((wrap64 (a2 * a1)) + 7)) 8)))) else (ay.j0 k a0 a1 a2 true))) else (ay.j0 k a0 a1 a2 true))
theorem ay.mono_l : ∀ k, (∀ y0 y1 y2 y3, LeO (ay.j0 k y0 y1 y2 y3) (ay.j0 (k + 1) y0 y1 y2 y3)) ∧ (∀ y0 y1 y2 y3 y4, LeO (ay.l0 k y0 y1 y2 y3 y4) (ay.l0 (k + 1) y0 y1 y2 y3 y4)) ∧ (∀ y0 y1 y2 y3 y4 y5 y6 y7 y8, LeO (ay.l1 k y0 y1 y2 y3 y4 y5 y6 y7 y8) (ay.l1 (k + 1) y0 y1 y2 y3 y4 y5 y6 y7 y8))
 | 0 => ⟨fun _ _ _ _ r h => by simp [ay.j0] at h, fun _ _ _ _ _ r h => by simp [ay.l0] at h, fun _ _ _ _ _ _ _ _ _ r h => by simp [ay.l1] at h⟩
 | k + 1 => by
  obtain ⟨ih0, ih1, ih2⟩ := ay.mono_l k
  refine ⟨?_, ?_, ?_⟩ <;> (intros; (first | unfold ay.j0 | unfold ay.l0 | unfold ay.l1); exact o4_ ih0 ih1 ih2 aA.mono)
theorem ay.mono : ∀ a0 a1 a2 k, LeO (ay.f k a0 a1 a2) (ay.f (k + 1) a0 a1 a2) := by
 intro a0 a1 a2 k
 obtain ⟨ih0, ih1, ih2⟩ := ay.mono_l k
 unfold ay.f
 exact o4_ ih0 ih1 ih2 aA.mono
theorem ay.calls (k : Nat) (a0 : ByteArray) (a1 : Int) (a2 : Int) (r1 : List Int) (r2 : Bool) (w : World) (h : ay.f k a0 a1 a2 = some (r1, r2)) :
  Calls Tryz.prog 76 #[.string a0, .int .i64 a1, .int .i64 a2] w fun e w' => ∃ f1 : Value, e = .returned (.tuple #[f1, .bool r2]) ∧ Kd.R (Kd.int .i64) 3 w' w.heap.size (fun _ => True) f1 r1 ∧ Below w.heap.size w w' := by
 have HB := c_ (Da w.heap.size w)
 delta ay.f at h
 have H := h
 clear h
 have T0 := c_ H
 clear H
 go_enter Tryz.func76, Tryz.ntmps76
 go_upto_region 1 with (fail)
 go_cut [30] (fun z1 wc => ∃ (kq : Nat) (q0 : Bool), z1 = .bool q0 ∧ aa (ay.j0 kq a0 a1 a2 q0 = some (r1, r2)) ∧ aa (kq ≤ k) ∧ aa (Below w.heap.size w wc))
 case first =>
  have H := T0.o
  clear T0
  obtain ⟨U0, A5, H⟩ := bN_ H
  by_cases c6 : U0 = true
  ·subst c6
   replace H := iT_ H
   obtain ⟨V0, A7, H⟩ := bN_ H
   by_cases c8 : V0 = true
   ·subst c8
    replace H := iT_ H
    have H' := c_ H
    clear H
    go_wp2_with (first | (refine gp_ (k_ 14 Tryz.func100) (b8.calls _ _ _ _ _ A5.o) fun nd => ?_) | (go_at_call 100; refine mp_ (b8.calls _ _ _ _ _ A7.o) fun nd => ?_))
    go_meet
    case rel => exact ⟨_, (((a0.size : Int) != (wrap64 (Int.tdiv (wrap64 ((wrap64 (a2 * a1)) + 7)) 8)))), f0_, H', ⟨by first | omega | exact Ca _⟩, ⟨hB_⟩⟩
   ·replace c8 := Ea c8
    subst c8
    replace H := iF_ H
    have H' := c_ H
    clear H
    go_wp2_with (first | (refine gp_ (k_ 14 Tryz.func100) (b8.calls _ _ _ _ _ A5.o) fun nd => ?_) | (go_at_call 100; refine mp_ (b8.calls _ _ _ _ _ A7.o) fun nd => ?_))
    go_meet
    case rel => exact ⟨_, (true), f0_, H', ⟨by first | omega | exact Ca _⟩, ⟨hB_⟩⟩
  ·replace c6 := Ea c6
   subst c6
   replace H := iF_ H
   have H' := c_ H
   clear H
   go_wp2_with (first | (refine gp_ (k_ 14 Tryz.func100) (b8.calls _ _ _ _ _ A5.o) fun nd => ?_))
   go_meet
   case rel => exact ⟨_, (true), f0_, H', ⟨by first | omega | exact Ca _⟩, ⟨hB_⟩⟩
 clear T0
 obtain ⟨kq, q0, rfl, HA, Q0, HB⟩ := hcut
 rcases kq with _ | g1
 ·exact absurd HA.o (by simp [ay.j0])
 have H := HA.o
 clear HA
 simp only [ay.j0] at H
 by_cases c9 : q0 = true
 ·subst c9
  replace H := iT_ H
  simp only [Option.some.injEq, Prod.mk.injEq] at H
  obtain ⟨rfl, rfl⟩ := H
  go_wp2
  go_ret2
  exact ⟨_, f1_, by first | exact vB _ _ _ _ _ | exact Kd.N_nil _ _ _ _ _ | exact Kd.V_nil _ _ _ _ _ | exact Kd.Q_nil _ _ _ _ _ | exact vC _ _ _ _ _, hB_⟩
 ·replace c9 := Ea c9
  subst c9
  replace H := iF_ H
  have H' := c_ H
  clear H
  go_wp2
  go_loopg [8, 32] g1 (fun kq v8 A1 w' => ∃ (v0 : List Int) (d0 : Int), A1 = .int .i64 d0 ∧ aa (ay.l0 kq a0 a1 v0 a2 d0 = some (r1, r2)) ∧ aa (kq ≤ g1) ∧ aa (Kd.R (Kd.int .i64) 3 w' w.heap.size (fun _ => True) v8 v0) ∧ aa (Below w.heap.size w w'))
  case atStart => exact ⟨(([] : List Int)), (0), f0_, H', ⟨Ca _⟩, ⟨by first | exact vB _ _ _ _ _ | exact Kd.N_nil _ _ _ _ _ | exact Kd.V_nil _ _ _ _ _ | exact Kd.Q_nil _ _ _ _ _ | exact vC _ _ _ _ _⟩, ⟨hB_⟩⟩
  clear H'
  obtain ⟨v0, d0, rfl, HA, R0, e0, HB⟩ := hrel
  rcases gk with _ | k2
  ·exact absurd HA.o (by simp [ay.l0])
  have H := HA.o
  clear HA
  simp only [ay.l0] at H
  by_cases H0 : d0 < a2
  rotate_left
  ·rw [Ga H0] at H
   have J0 := za H0
   clear H0
   obtain ⟨x0, i1, H⟩ := bN_ H
   by_cases E0 : x0.toList = a0.toList
   ·rw [Fa E0] at H
    have K0 : (x0.toList == a0.toList) = true := beq_iff_eq.mpr E0
    have L0 : (x0.toList != a0.toList) = false := bne_eq_false_iff_eq.mpr E0
    clear E0
    simp only [Option.some.injEq, Prod.mk.injEq] at H
    obtain ⟨rfl, rfl⟩ := H
    obtain ⟨B1, C1, W0⟩ := uV e0.o
    subst W0
    go_wp2_with (first | (refine gc_ (k_ 65 Tryz.func37) (aA.calls _ _ _ _ _ _ _ (cR_ (uU e0.o).2.2) ((uU e0.o).2.1) i1.o) fun J1 hb => ?_; obtain ⟨e0, HB⟩ := n_ (fR_ e0) <| sB_))
    go_ret2
    exact ⟨_, f1_, rR_ e0.o, hB_⟩
   rw [Ga E0] at H
   have K0 : (x0.toList == a0.toList) = false := beq_eq_false_iff_ne.mpr E0
   have L0 : (x0.toList != a0.toList) = true := bne_iff_ne.mpr E0
   simp only [Option.some.injEq, Prod.mk.injEq] at H
   obtain ⟨rfl, rfl⟩ := H
   obtain ⟨D1, E1, X0⟩ := uV e0.o
   subst X0
   go_wp2_with (first | (refine gc_ (k_ 65 Tryz.func37) (aA.calls _ _ _ _ _ _ _ (cR_ (uU e0.o).2.2) ((uU e0.o).2.1) i1.o) fun K1 hb => ?_; obtain ⟨e0, HB⟩ := n_ (fR_ e0) <| sB_))
   go_ret2
   exact ⟨_, f1_, by first | exact vB _ _ _ _ _ | exact Kd.N_nil _ _ _ _ _ | exact Kd.V_nil _ _ _ _ _ | exact Kd.Q_nil _ _ _ _ _ | exact vC _ _ _ _ _, hB_⟩
  rw [Fa H0] at H
  have J0 := ya H0
  clear H0
  have H' := c_ H
  clear H
  go_wp2
  go_loopg [10, 36] k2 (fun kq F1 G1 w' => ∃ (f0 : Int) (b0 : Int), F1 = .int .i64 f0 ∧ G1 = .int .i64 b0 ∧ aa (ay.l1 kq a0 a1 v0 d0 f0 a2 d0 a1 b0 = some (r1, r2)) ∧ aa (kq ≤ k2) ∧ aa (Kd.R (Kd.int .i64) 3 w' w.heap.size (fun _ => True) u8 v0) ∧ aa (Below w.heap.size w w'))
  case atStart => exact ⟨(0), (0), f0_, f0_, H', ⟨Ca _⟩, ⟨rR_ e0.o⟩, ⟨hB_⟩⟩
  clear H'
  obtain ⟨f0, b0, rfl, rfl, HA, S0, e0, HB⟩ := hrel
  rcases gk with _ | k3
  ·exact absurd HA.o (by simp [ay.l1])
  have H := HA.o
  clear HA
  simp only [ay.l1] at H
  by_cases I0 : b0 < a1
  rotate_left
  ·rw [Ga I0] at H
   have M0 := za I0
   clear I0
   obtain ⟨j1, H⟩ := iN_ H
   have N0 := c_ j1
   clear j1
   obtain ⟨Y0, r0⟩ : ∃ y_ : List Int, y_ = (v0 ++ [f0]) := ⟨_, rfl⟩
   first | replace H := yb_ r0 H | rw [← r0] at H
   have O0 := c_ r0
   clear r0
   have H' := c_ H
   clear H
   go_wp2_with (first | (refine ga_ 58 60 ?_; (try (refine bh (by rfl) ?_; dsimp only)); at_builtin; refine ap_ e0 O0 N0 Tryz.underlying33 di fun H1 L1 P0 HB hg hat => ?_))
   go_roundg k3
   case measure => have := Q0.o; have := R0.o; have := S0.o; omega
   case rel => exact ⟨(Y0), (wrap64 (d0 + 1)), f0_, H', ⟨by have := Q0.o; have := R0.o; have := S0.o; omega⟩, ⟨rR_ P0.o⟩, ⟨hB_⟩⟩
  rw [Fa I0] at H
  have M0 := ya I0
  clear I0
  obtain ⟨n0, y0⟩ : ∃ j_ : Int, (wrap64 (Int.tdiv (wrap64 ((wrap64 (d0 * a1)) + b0)) 8)) = j_ := ⟨_, rfl⟩
  first | rw [y0] at H | simp only [y0] at H
  have Z0 : (IntKind.i64.wrap (Int.tdiv (wrap64 ((wrap64 (d0 * a1)) + b0)) 8)) = n0 := (bB _).trans y0
  obtain ⟨m1, H⟩ := iD_ H
  obtain ⟨n1, H⟩ := iD_ H
  obtain ⟨C0, D0⟩ : ∃ j_ : Int, (Int.tmod (wrap64 ((wrap64 (d0 * a1)) + b0)) 8) = j_ := ⟨_, rfl⟩
  first | rw [D0] at H | simp only [D0] at H
  obtain ⟨b1, H⟩ := iN_ H
  have p1 := Aa b1
  have q1 := ya b1
  clear b1
  obtain ⟨p0, t0⟩ : ∃ j_ : Int, (shr .u8 (bt a0 (n0)) (C0)) = j_ := ⟨_, rfl⟩
  first | rw [t0] at H | simp only [t0] at H
  have c1 : ((bt a0 (n0)) / 2 ^ min (C0).toNat 8) = p0 := t0
  have d1 : (C0) ≤ 8 → ((bt a0 (n0)) / 2 ^ (C0).toNat) = p0 := gq t0
  obtain ⟨e1, H⟩ := iN_ H
  have t1 := Aa e1
  have y1 := ya e1
  clear e1
  obtain ⟨B0, k0⟩ : ∃ j_ : Int, (shl .i64 (wrap64 (Go.bits .and .u8 (p0) 1)) b0) = j_ := ⟨_, rfl⟩
  first | rw [k0] at H | simp only [k0] at H
  have F0 : (IntKind.i64.wrap ((wrap64 (Go.bits .and .u8 (p0) 1)) * 2 ^ min b0.toNat 64)) = B0 := k0
  have G0 : b0 ≤ 64 → (IntKind.i64.wrap ((wrap64 (Go.bits .and .u8 (p0) 1)) * 2 ^ b0.toNat)) = B0 := fI k0
  have hji20y : (wrap64 ((wrap64 (Go.bits .and .u8 (p0) 1)) * 2 ^ min b0.toNat 64)) = B0 := (bB _).symm.trans F0
  have hji20x : b0 ≤ 64 → (wrap64 ((wrap64 (Go.bits .and .u8 (p0) 1)) * 2 ^ b0.toNat)) = B0 := fun h_ => (bB _).symm.trans (G0 h_)
  have H' := c_ H
  clear H
  have M1 := Aa (oD_ : 0 ≤ ((n0) : Int))
  have N1 := Aa (oD_ : (n0) < (a0.size : Int))
  have I1 := cY a0 (n0)
  go_wp2
  go_roundg k3
  case measure => have := Q0.o; have := R0.o; have := S0.o; omega
  case rel => exact ⟨(Go.bits .or .i64 f0 (B0)), (wrap64 (b0 + 1)), (by first | rfl | (simp; done) | (simp only [← k0] <;> (first | rfl | simp)) | (simp [*]; done)), f0_, H', ⟨by have := Q0.o; have := R0.o; have := S0.o; omega⟩, ⟨rR_ e0.o⟩, ⟨hB_⟩⟩
def cv.f (k : Nat) (a0 : ByteArray) : Option (List Int × Bool) := (ay.f k a0 12 256).bind fun bt507 => (if bt507.2 = true then ((aw.f k bt507.1).bind fun t511 => (if t511 = true then (some (bt507.1, true)) else (some (([] : List Int), false)))) else (some (([] : List Int), false)))
theorem cv.mono : ∀ a0 k, LeO (cv.f k a0) (cv.f (k + 1) a0) := by
 intro a0 k
 unfold cv.f
 exact o2_ aw.mono ay.mono
theorem cv.calls (k : Nat) (a0 : ByteArray) (r1 : List Int) (r2 : Bool) (w : World) (h : cv.f k a0 = some (r1, r2)) :
  Calls Tryz.prog 61 #[.string a0] w fun e w' => ∃ j0 : Value, e = .returned (.tuple #[j0, .bool r2]) ∧ Kd.R (Kd.int .i64) 3 w' w.heap.size (fun _ => True) j0 r1 ∧ Below w.heap.size w w' := by
 have HB := c_ (Da w.heap.size w)
 delta cv.f at h
 have H := h
 clear h
 obtain ⟨⟨k0, e0⟩, A2, H⟩ := bN_ H
 by_cases c3 : e0 = true
 ·subst c3
  replace H := iT_ H
  obtain ⟨f0, A4, H⟩ := bN_ H
  by_cases c5 : f0 = true
  ·subst c5
   replace H := iT_ H
   simp only [Option.some.injEq, Prod.mk.injEq] at H
   obtain ⟨rfl, rfl⟩ := H
   go_enter Tryz.func61, Tryz.ntmps61
   go_wp2_with (first | (refine gR_ (k_ 8 Tryz.func76) (ay.calls _ _ _ _ _ _ _ A2.o) fun d0 w6 ho_ hb => ?_; obtain ⟨b0, HB⟩ := n_ (lR_ ho_) <| sB_; obtain ⟨q0, r0, n0⟩ := uV b0.o; subst n0) | (go_at_call 65; refine mp_ (aw.calls _ _ _ _ _ _ (cR_ (uU b0.o).2.2) ((uU b0.o).2.1) A4.o) fun nd => ?_))
   go_ret2
   exact ⟨_, f1_, rR_ b0.o, hB_⟩
  ·replace c5 := Ea c5
   subst c5
   replace H := iF_ H
   simp only [Option.some.injEq, Prod.mk.injEq] at H
   obtain ⟨rfl, rfl⟩ := H
   go_enter Tryz.func61, Tryz.ntmps61
   go_wp2_with (first | (refine gR_ (k_ 8 Tryz.func76) (ay.calls _ _ _ _ _ _ _ A2.o) fun d0 w8 ho_ hb => ?_; obtain ⟨b0, HB⟩ := n_ (lR_ ho_) <| sB_; obtain ⟨t0, v0, p0⟩ := uV b0.o; subst p0) | (go_at_call 65; refine mp_ (aw.calls _ _ _ _ _ _ (cR_ (uU b0.o).2.2) ((uU b0.o).2.1) A4.o) fun nd => ?_))
   go_ret2
   exact ⟨_, f1_, by first | exact vB _ _ _ _ _ | exact Kd.N_nil _ _ _ _ _ | exact Kd.V_nil _ _ _ _ _ | exact Kd.Q_nil _ _ _ _ _ | exact vC _ _ _ _ _, hB_⟩
 ·replace c3 := Ea c3
  subst c3
  replace H := iF_ H
  simp only [Option.some.injEq, Prod.mk.injEq] at H
  obtain ⟨rfl, rfl⟩ := H
  go_enter Tryz.func61, Tryz.ntmps61
  go_wp2_with (first | (refine gR_ (k_ 8 Tryz.func76) (ay.calls _ _ _ _ _ _ _ A2.o) fun d0 x0 ho_ hb => ?_; obtain ⟨b0, HB⟩ := n_ (lR_ ho_) <| sB_))
  go_ret2
  exact ⟨_, f1_, by first | exact vB _ _ _ _ _ | exact Kd.N_nil _ _ _ _ _ | exact Kd.V_nil _ _ _ _ _ | exact Kd.Q_nil _ _ _ _ _ | exact vC _ _ _ _ _, hB_⟩
def bp.l0 : Nat → ByteArray → List (List Int) → Int → Option ((List (List Int)) × Bool)
 | 0, _, _, _ => none
 | k + 1, x0, x4, x8 => if x8 < 2 then (if 0 ≤ (wrap64 (x8 * 384)) then (if (wrap64 (x8 * 384)) ≤ (wrap64 ((wrap64 (x8 + 1)) * 384)) then (if (wrap64 ((wrap64 (x8 + 1)) * 384)) ≤ (x0.size : Int) then ((cv.f k (x0.extract ((wrap64 (x8 * 384)) : Int).toNat ((wrap64 ((wrap64 (x8 + 1)) * 384)) : Int).toNat)).bind fun bt512 => (if bt512.2 = true then (if x4.length < 5864062014805 then (bp.l0 k x0 (x4 ++ [bt512.1]) (wrap64 (x8 + 1))) else (none)) else (some (([] : List (List Int)), false)))) else (none)) else (none)) else (none)) else (some (x4, true))
def bp.f (k : Nat) (a0 : ByteArray) : Option ((List (List Int)) × Bool) := bp.l0 k a0 ([] : List (List Int)) 0
theorem bp.mono_l : ∀ k, (∀ y0 y1 y2, LeO (bp.l0 k y0 y1 y2) (bp.l0 (k + 1) y0 y1 y2))
 | 0 => fun _ _ _ r h => by simp [bp.l0] at h
 | k + 1 => by
  have ih0 := bp.mono_l k
  intros; unfold bp.l0; exact o2_ ih0 cv.mono
theorem bp.mono : ∀ a0 k, LeO (bp.f k a0) (bp.f (k + 1) a0) := by
 intro a0 k
 have ih0 := bp.mono_l k
 unfold bp.f
 exact o2_ ih0 cv.mono
theorem bp.calls (k : Nat) (a0 : ByteArray) (r1 : List (List Int)) (r2 : Bool) (w : World) (h : bp.f k a0 = some (r1, r2)) :
  Calls Tryz.prog 30 #[.string a0] w fun e w' => ∃ G0 : Value, e = .returned (.tuple #[G0, .bool r2]) ∧ Kd.S (Kd.slice 3 (Kd.int .i64)) 33 w' w.heap.size (fun _ => True) G0 r1 ∧ Below w.heap.size w w' := by
 have HB := c_ (Da w.heap.size w)
 delta bp.f at h
 have H := h
 clear h
 have H' := c_ H
 clear H
 go_enter Tryz.func30, Tryz.ntmps30
 go_wp2
 go_loopg [4, 8] k (fun kq v4 v8 w' => ∃ (n0 : List (List Int)) (b0 : Int), v8 = .int .i64 b0 ∧ aa (bp.l0 kq a0 n0 b0 = some (r1, r2)) ∧ aa (kq ≤ k) ∧ aa (Kd.S (Kd.slice 3 (Kd.int .i64)) 33 w' w.heap.size (fun _ => True) v4 n0) ∧ aa (Below w.heap.size w w'))
 case atStart => exact ⟨(([] : List (List Int))), (0), f0_, H', ⟨Ca _⟩, ⟨by first | exact vC _ _ _ _ _ | exact Kd.N_nil _ _ _ _ _ | exact Kd.V_nil _ _ _ _ _ | exact Kd.Q_nil _ _ _ _ _ | exact vB _ _ _ _ _⟩, ⟨hB_⟩⟩
 clear H'
 obtain ⟨n0, b0, rfl, HA, H0, d0, HB⟩ := hrel
 rcases gk with _ | k1
 ·exact absurd HA.o (by simp [bp.l0])
 have H := HA.o
 clear HA
 simp only [bp.l0] at H
 by_cases c2 : b0 < 2
 rotate_left
 ·rw [Ga c2] at H
  have y0 := za c2
  clear c2
  simp only [Option.some.injEq, Prod.mk.injEq] at H
  obtain ⟨rfl, rfl⟩ := H
  go_wp2
  go_ret2
  exact ⟨_, f1_, by refine kS_ ?_; exact d0.o, hB_⟩
 rw [Fa c2] at H
 have y0 := ya c2
 clear c2
 obtain ⟨q0, j0⟩ : ∃ j_ : Int, (wrap64 (b0 * 384)) = j_ := ⟨_, rfl⟩
 first | rw [j0] at H | simp only [j0] at H
 have I0 : (IntKind.i64.wrap (b0 * 384)) = q0 := (bB _).trans j0
 obtain ⟨c4, H⟩ := iN_ H
 have J0 := Aa c4
 have K0 := ya c4
 clear c4
 obtain ⟨c5, H⟩ := iN_ H
 have L0 := Aa c5
 have M0 := ya c5
 obtain ⟨c6, H⟩ := iN_ H
 have N0 := Aa c6
 have O0 := ya c6
 obtain ⟨⟨k0, B0⟩, A7, H⟩ := bN_ H
 by_cases c8 : B0 = true
 ·subst c8
  replace H := iT_ H
  obtain ⟨c9, H⟩ := iN_ H
  have C0 := c_ c9
  clear c9
  obtain ⟨D0, e0⟩ : ∃ y_ : List (List Int), y_ = (n0 ++ [k0]) := ⟨_, rfl⟩
  first | replace H := yb_ e0 H | rw [← e0] at H
  have r0 := c_ e0
  clear e0
  have H' := c_ H
  clear H
  go_wp2_with (first | ((with_reducible refine ep (f := 61) rfl ?_); refine gS (some 19) rfl rfl Tryz.func61 (by kernel_rfl) rfl #[.string (a0.extract ((q0) : Int).toNat ((wrap64 ((wrap64 (b0 + 1)) * 384)) : Int).toNat)] rfl (by (try simp only [List.map_toArray, List.map_cons, List.map_nil]); first | done | (simp only [j0]; rfl) | rfl | (simp only [List.length_drop, List.length_take]; rfl)) ?_; (with_reducible refine (cv.calls k1 (a0.extract ((q0) : Int).toNat ((wrap64 ((wrap64 (b0 + 1)) * 384)) : Int).toNat) k0 true _ A7.o).mono ?_); rintro e Q0 ⟨E0, rfl, p0, hb⟩; refine ⟨_, rfl, ?_⟩; obtain ⟨d0, f0, HB⟩ := b_ (vc (rS_ d0.o) (vd p0) hb) <| b_ (uY p0 (av (hB_))) <| sB_; obtain ⟨t0, v0, F0⟩ := uV f0.o; subst F0) | ((refine cr (b := .append) (xs := #[.tmp 24, .tmp 26]) rfl ?_); at_builtin; refine vu (Kd.slice 3 (Kd.int .i64)) (w0 := w) w.heap.size rfl (.tmp 24) (.tmp 26) 44 33 (.slice none 0 0) 24 rfl Tryz.underlying44 gu rfl (by decide) (by omega) u4 n0 k0 [.slice t0 k0.length v0] (fun _ => True) (fun k_ => some k_ = (.slice t0 k0.length v0 : Value).ownBlock) rfl rfl ?aP (fun k_ hk_ => ((uW (ok' := fun k_ => ((fun _ => True)) k_ ∧ some k_ ≠ (u4 : Value).ownBlock) (va (f0.o) (ve d0.o) (by decide)) (fun k_ hk => ⟨trivial, hk.2⟩))).1 k_ hk_.symm) ?aF ?aO ?aB ?aS ?aL ?_; (case aP => exact vY (uW (vx rfl (uW (ok' := fun k_ => ((fun _ => True)) k_ ∧ some k_ ≠ (u4 : Value).ownBlock) (va (f0.o) (ve d0.o) (by decide)) (fun k_ hk => ⟨trivial, hk.2⟩))) (fun _ h_ => h_))); (case aB => exact (hB_)); (case aF => exact (fun _ _ => trivial)); (case aO => exact (by refine kS_ ?_; exact vi d0.o (fun k_ hk => ⟨trivial, fun e_ => hk.2 e_⟩))); (case aS => exact (av (hB_))); (case aL => have := C0.o; omega); intro P0 R0 ho hb hg hat; rw [← r0.o] at ho; obtain ⟨HB, x0⟩ := b_ (hb) <| c_ (ho); clear ho hb hg hat))
  go_roundg k1
  case measure => have := H0.o; omega
  case rel => exact ⟨(D0), (wrap64 (b0 + 1)), f0_, H', ⟨by have := H0.o; omega⟩, ⟨rS_ x0.o⟩, ⟨hB_⟩⟩
 ·replace c8 := Ea c8
  subst c8
  replace H := iF_ H
  simp only [Option.some.injEq, Prod.mk.injEq] at H
  obtain ⟨rfl, rfl⟩ := H
  go_wp2_with (first | ((with_reducible refine ep (f := 61) rfl ?_); refine gS (some 19) rfl rfl Tryz.func61 (by kernel_rfl) rfl #[.string (a0.extract ((q0) : Int).toNat ((wrap64 ((wrap64 (b0 + 1)) * 384)) : Int).toNat)] rfl (by (try simp only [List.map_toArray, List.map_cons, List.map_nil]); first | done | (simp only [j0]; rfl) | rfl | (simp only [List.length_drop, List.length_take]; rfl)) ?_; (with_reducible refine (cv.calls k1 (a0.extract ((q0) : Int).toNat ((wrap64 ((wrap64 (b0 + 1)) * 384)) : Int).toNat) k0 false _ A7.o).mono ?_); rintro e S0 ⟨E0, rfl, p0, hb⟩; refine ⟨_, rfl, ?_⟩; obtain ⟨d0, f0, HB⟩ := b_ (vc (rS_ d0.o) (vd p0) hb) <| b_ (uY p0 (av (hB_))) <| sB_; (try clear p0)))
  go_ret2
  exact ⟨_, by first | rfl | (simp [dE, dB] <;> rfl) | (simp only [← j0]; first | rfl | (simp [dE, dB] <;> rfl)) | (simp [*, dE, dB] <;> rfl), by first | exact vC _ _ _ _ _ | exact Kd.N_nil _ _ _ _ _ | exact Kd.V_nil _ _ _ _ _ | exact Kd.Q_nil _ _ _ _ _ | exact vB _ _ _ _ _, hB_⟩
def cB.f (k : Nat) (a0 : ByteArray) : Option (Bool) := if (a0.size : Int) = 800 then ((bp.f k a0).bind fun bt519 => (some bt519.2)) else (some false)
theorem cB.mono : ∀ a0 k, LeO (cB.f k a0) (cB.f (k + 1) a0) := by
 intro a0 k
 unfold cB.f
 exact o1_ bp.mono
theorem cB.calls (k : Nat) (a0 : ByteArray) (r : Bool) (w : World) (h : cB.f k a0 = some r) :
  Calls Tryz.prog 29 #[.string a0] w fun e w' => e = .returned (.bool r) ∧ Below w.heap.size w w' := by
 have HB := c_ (Da w.heap.size w)
 delta cB.f at h
 have H := h
 clear h
 by_cases c2 : (a0.size : Int) = 800
 ·rw [Fa c2] at H
  have b0 : ((a0.size : Int) == 800) = true := beq_iff_eq.mpr c2
  have d0 : ((a0.size : Int) != 800) = false := bne_eq_false_iff_eq.mpr c2
  clear c2
  obtain ⟨⟨f0, j0⟩, A3, H⟩ := bN_ H
  obtain rfl := Ba H
  go_enter Tryz.func29, Tryz.ntmps29
  go_wp2_with (first | (refine gR_ (k_ 10 Tryz.func30) (bp.calls _ _ _ _ _ A3.o) fun k0 w4 ho_ hb => ?_; obtain ⟨e0, HB⟩ := n_ (lS_ ho_) <| sB_))
  go_ret
  exact ⟨f1_, hB_⟩
 rw [Ga c2] at H
 have b0 : ((a0.size : Int) == 800) = false := beq_eq_false_iff_ne.mpr c2
 have d0 : ((a0.size : Int) != 800) = true := bne_iff_ne.mpr c2
 obtain rfl := Ba H
 go_enter Tryz.func29, Tryz.ntmps29
 go_wp2
 go_ret
 exact ⟨f1_, hB_⟩
def dF.f (l0 : List Int) : Option (List Int) := if ([] : List Int).length + l0.length < 17592186044416 then (some (([] : List Int) ++ l0)) else (none)
theorem dF.calls (A0 : Option Addr) (c0 : Nat) (l0 : List Int) (r : List Int) (w : World) (hr0 : Kd.C (Kd.int .i64) w A0 l0.length l0) (hc0 : l0.length ≤ c0) (h : dF.f l0 = some r) :
  Calls Tryz.prog 66 #[.slice A0 l0.length c0] w fun e w' => ∃ f0 : Value, e = .returned (f0) ∧ Kd.R (Kd.int .i64) 3 w' w.heap.size (fun _ => True) f0 r ∧ Below w.heap.size w w' := by
 have j0 := c_ hr0
 have p0 := c_ hc0
 clear hr0 hc0
 have HB := c_ (Da w.heap.size w)
 delta dF.f at h
 have H := h
 clear h
 obtain ⟨c2, H⟩ := iN_ H
 have e0 := c_ c2
 clear c2
 obtain ⟨k0, a0⟩ : ∃ y_ : List Int, y_ = (([] : List Int) ++ l0) := ⟨_, rfl⟩
 first | replace H := yb_ a0 H | rw [← a0] at H
 have b0 := c_ a0
 clear a0
 obtain rfl := Ba H
 go_enter Tryz.func66, Tryz.ntmps66
 go_wp2_with (first | ((with_reducible refine cr (b := .append) (xs := #[.const (.slice none 0 0), .tmp 3]) rfl ?_); at_builtin; refine vt (Kd.int .i64) (w0 := w) w.heap.size rfl (.const (.slice none 0 0)) (.tmp 3) 33 3 (.int .i64 0) 8 rfl Tryz.underlying33 di rfl (by decide) (by omega) (.slice none 0 0) ([] : List Int) l0 _ _ _ (fun _ => True) (fun _ => False) rfl rfl ?aO ?aR (fun _ _ h => h) (fun _ h => h.elim) ?aF ?aB ?aS ?aL ?_; (case aR => exact cR_ j0.o); (case aB => exact (hB_)); (case aF => exact (fun _ _ => trivial)); (case aO => exact ((vB _ _ _ _ (fun _ => True)))); (case aS => exact (av (hB_))); (case aL => have := e0.o; omega); intro n0 w3 ho hb hg hat; rw [← b0.o] at ho; obtain ⟨HB, d0⟩ := b_ (hb) <| c_ (ho); clear ho hb hg hat))
 go_ret
 exact ⟨_, f1_, rR_ d0.o, hB_⟩
def cd.f (a0 : Int) : Option (Int) := some (Int.tmod (wrap64 ((Int.tmod a0 3329) + 3329)) 3329)
theorem cd.calls (a0 : Int) (r : Int) (w : World) (h : cd.f a0 = some r) :
  Calls Tryz.prog 69 #[.int .i64 a0] w fun e w' => e = .returned (.int .i64 r) ∧ cx w w' := by
 delta cd.f at h
 have H := h
 clear h
 obtain rfl := Ba H
 go_enter Tryz.func69, Tryz.ntmps69
 go_wp2
 go_ret
 exact ⟨f0_, d0_⟩
end Go.Proofs.YtmiackbomcjboaaGreatDoor.P
