-- printed texts of this session, regrouped
import Derived.Test.YtmdlpmddljbkeaaGreatDoorPx6
namespace Go.Proofs.YtmdlpmddljbkeaaGreatDoor.P
open Go.RowKit YtmdlpmddljbkeaaGreatDoorW.PrintWords YtmdlpmddljbkeaaGreatDoorW.PrintLast YtmdlpmddljbkeaaGreatDoorW.PrintMore
open Kd
attribute [local go_sem] d3 dW eG eI dD dC dZ dY
set_option linter.unusedVariables false
set_option linter.unusedSimpArgs false
set_option maxHeartbeats 8000000
set_option maxRecDepth 100000
mutual
def aD.j0 : Nat → List Int → List Int → List Int → Bool → Option (List Int)
 | 0, _, _, _, _ => none
 | k + 1, x0, x1, x5, x15 => if x15 = true then (some x5) else (aD.l0 k x0 x1 x5 0)
def aD.l0 : Nat → List Int → List Int → List Int → Int → Option (List Int)
 | 0, _, _, _, _ => none
 | k + 1, x0, x1, x5, x6 => if x6 < 256 then (if 0 ≤ x6 then (if x6 < (x0.length : Int) then (if x6 < (x1.length : Int) then (if x5.length < 17592186044416 then (aD.l0 k x0 x1 (x5 ++ [Int.tmod (wrap64 ((wrap64 ((rd x0 x6) - (rd x1 x6))) + 3329)) 3329]) (wrap64 (x6 + 1))) else (none)) else (none)) else (none)) else (none)) else (some x5)
end
def aD.f (k : Nat) (l0 : List Int) (l1 : List Int) : Option (List Int) := (some (([] : List Int) : List Int)).bind fun y893 => ((ak.f k l0).bind fun t896 => (if t896 = true then ((ak.f k l1).bind fun t897 => (aD.j0 k l0 l1 y893 (!t897))) else (aD.j0 k l0 l1 y893 true)))
theorem aD.mono_l : ∀ k, (∀ y0 y1 y2 y3, LeO (aD.j0 k y0 y1 y2 y3) (aD.j0 (k + 1) y0 y1 y2 y3)) ∧ (∀ y0 y1 y2 y3, LeO (aD.l0 k y0 y1 y2 y3) (aD.l0 (k + 1) y0 y1 y2 y3))
 | 0 => ⟨fun _ _ _ _ r h => by simp [aD.j0] at h, fun _ _ _ _ r h => by simp [aD.l0] at h⟩
 | k + 1 => by
  obtain ⟨ih0, ih1⟩ := aD.mono_l k
  refine ⟨?_, ?_⟩ <;> (intros; (first | unfold aD.j0 | unfold aD.l0); exact o3_ ih0 ih1 ak.mono)
theorem aD.mono : ∀ a0 a1 k, LeO (aD.f k a0 a1) (aD.f (k + 1) a0 a1) := by
 intro a0 a1 k
 obtain ⟨ih0, ih1⟩ := aD.mono_l k
 unfold aD.f
 exact o3_ ih0 ih1 ak.mono
def aD.T7 : Bool × List (List Nat × List Nat) := (true, [([], []), ([], []), ([], []), ([1, 2], [1, 2]), ([3], [3]), ([], []), ([], []), ([5, 6], [5, 6]), ([7], [7]), ([4, 8], [4, 8]), ([9], [9]), ([10], [10]), ([11], [11]), ([0, 12], [0, 12]), ([13, 13, 0, 1, 2, 3, 4, 5, 6, 7, 8, 9, 10, 11, 12, 13], [0, 13])])
def aD.B7 : List Nat := [0, 0, 0, 6, 14, 0, 0, 96, 224, 510, 1022, 2046, 4094, 8191, 16383]
theorem aD.tab7 : eu .any (fu Tryz.f72 7) = aD.T7 := by kernel_rfl
theorem aD.bits7 : dd aD.T7.2 aD.B7 = true := by kernel_rfl
theorem aD.calls (k : Nat) (A0 : Option Addr) (c0 : Nat) (l0 : List Int) (A1 : Option Addr) (c1 : Nat) (l1 : List Int) (r : List Int) (w : World) (hr0 : Kd.C (Kd.int .i64) w A0 l0.length l0) (hc0 : l0.length ≤ c0) (hr1 : Kd.C (Kd.int .i64) w A1 l1.length l1) (hc1 : l1.length ≤ c1) (h : aD.f k l0 l1 = some r) :
  Calls Tryz.prog 72 #[.slice A0 l0.length c0, .slice A1 l1.length c1] w fun e w' => ∃ U0 : Value, e = .returned (U0) ∧ Kd.R (Kd.int .i64) 3 w' w.heap.size (fun _ => True) U0 r ∧ Below w.heap.size w w' := by
 have M0 := c_ hr0
 have V0 := c_ hc0
 clear hr0 hc0
 have W0 := c_ hr1
 have i1 := c_ hc1
 clear hr1 hc1
 have HB := c_ (Da w.heap.size w)
 delta aD.f at h
 have H := h
 clear h
 obtain ⟨x0, n0⟩ : ∃ y_ : List Int, y_ = (([] : List Int)) := ⟨_, rfl⟩
 first | replace H := yb_ n0 H | rw [← n0] at H
 have F0 := c_ n0
 clear n0
 have N0 := c_ H
 clear H
 go_enter Tryz.func72, Tryz.ntmps72
 go_upto_region 2 with (first | (refine lj_ 7 .i64 3 F0 fun O0 w4 v0 HB => ?_))
 (try simp only [Act.put, List.setIfInBounds_toArray, List.set_cons_zero, List.set_cons_succ])
 go_cut [15] (fun j1 wc => ∃ (kq : Nat) (p0 : Bool), j1 = .bool p0 ∧ aa (aD.j0 kq l0 l1 x0 p0 = some r) ∧ aa (kq ≤ k) ∧ aa (Kd.R (Kd.int .i64) 3 wc w.heap.size (fun _ => True) O0 x0) ∧ aa (Below w.heap.size w wc))
 case first =>
  have H := N0.o
  clear N0
  obtain ⟨P0, A6, H⟩ := bN_ H
  by_cases c7 : P0 = true
  ·subst c7
   replace H := iT_ H
   obtain ⟨Q0, A8, H⟩ := bN_ H
   have H' := c_ H
   clear H
   go_wp2_with (first | (refine gp_ (k_ 9 Tryz.func57) (ak.calls _ _ _ _ _ _ (cR_ (vf M0.o HB.o)) V0.o A6.o) fun nd => ?_) | (go_at_call 57; refine mp_ (ak.calls _ _ _ _ _ _ (cR_ (vf W0.o (hB_))) i1.o A8.o) fun nd => ?_))
   go_meet
   case rel => exact ⟨_, (!Q0), f0_, H', ⟨by first | omega | exact Ca _⟩, ⟨rR_ v0.o⟩, ⟨hB_⟩⟩
  ·replace c7 := Ea c7
   subst c7
   replace H := iF_ H
   have H' := c_ H
   clear H
   go_wp2_with (first | (refine gp_ (k_ 9 Tryz.func57) (ak.calls _ _ _ _ _ _ (cR_ (vf M0.o HB.o)) V0.o A6.o) fun nd => ?_))
   go_meet
   case rel => exact ⟨_, (true), f0_, H', ⟨by first | omega | exact Ca _⟩, ⟨rR_ v0.o⟩, ⟨hB_⟩⟩
 clear N0
 obtain ⟨kq, p0, rfl, HA, X0, k0, HB⟩ := hcut
 rcases kq with _ | Y0
 ·exact absurd HA.o (by simp [aD.j0])
 have H := HA.o
 clear HA
 simp only [aD.j0] at H
 by_cases c9 : p0 = true
 ·subst c9
  replace H := iT_ H
  obtain rfl := Ba H
  go_wp2
  go_ret
  exact ⟨_, f1_, rR_ k0.o, hB_⟩
 ·replace c9 := Ea c9
  subst c9
  replace H := iF_ H
  have H' := c_ H
  clear H
  go_wp2
  go_loopg [5, 6] Y0 (fun kq v5 v6 w' => ∃ (r0 : List Int) (a0 : Int), v6 = .int .i64 a0 ∧ aa (aD.l0 kq l0 l1 r0 a0 = some r) ∧ aa (kq ≤ Y0) ∧ aa (Kd.R (Kd.int .i64) 3 w' w.heap.size (fun _ => True) v5 r0) ∧ aa (Below w.heap.size w w'))
  case atStart => exact ⟨(x0), (0), f0_, H', ⟨Ca _⟩, ⟨rR_ k0.o⟩, ⟨hB_⟩⟩
  clear H'
  obtain ⟨r0, a0, rfl, HA, Z0, k0, HB⟩ := hrel
  rcases gk with _ | k2
  ·exact absurd HA.o (by simp [aD.l0])
  have H := HA.o
  clear HA
  simp only [aD.l0] at H
  by_cases E0 : a0 < 256
  rotate_left
  ·rw [Ga E0] at H
   have G0 := za E0
   clear E0
   obtain rfl := Ba H
   go_wp2
   go_ret
   exact ⟨_, f1_, rR_ k0.o, hB_⟩
  rw [Fa E0] at H
  have G0 := ya E0
  clear E0
  obtain ⟨b1, H⟩ := iD_ H
  obtain ⟨e1, H⟩ := iD_ H
  obtain ⟨f1, H⟩ := iD_ H
  obtain ⟨g1, H⟩ := iN_ H
  have H0 := c_ g1
  clear g1
  obtain ⟨R0, q0⟩ : ∃ y_ : List Int, y_ = (r0 ++ [Int.tmod (wrap64 ((wrap64 ((rd l0 a0) - (rd l1 a0))) + 3329)) 3329]) := ⟨_, rfl⟩
  first | replace H := yb_ q0 H | rw [← q0] at H
  have I0 := c_ q0
  clear q0
  have H' := c_ H
  clear H
  try go_wp2
  obtain ⟨k0, HB⟩ := b_ (vl k0.o) <| c_ (bx HB.o)
  have y0 : 0 ≤ (a0 : Int) := oD_
  have B0 : a0 < (l0.length : Int) := oD_
  obtain ⟨J0, S0, b0⟩ := uZ M0.o a0 y0 B0
  have d0 := b0
  cases S0
  replace b0 := hc_ b0
  replace y0 := Aa y0
  replace B0 := Aa B0
  have C0 : 0 ≤ (a0 : Int) := oD_
  have D0 : a0 < (l1.length : Int) := oD_
  obtain ⟨K0, T0, e0⟩ := uZ W0.o a0 C0 D0
  have f0 := e0
  cases T0
  replace e0 := hc_ e0
  replace C0 := Aa C0
  replace D0 := Aa D0
  refine ej (n := 15) (S := fun w' => w'.cell? (J0.add (a0).toNat) = some (.int .i64 (rd l0 a0)) ∧ w'.cell? (K0.add (a0).toNat) = some (.int .i64 (rd l1 a0))) (ds := []) (bb_ 15 0) (by kernel_rfl) rfl rfl ⟨(hc_ d0), (hc_ f0)⟩ (fun hHeld => ?_); refine cK aD.tab7 aD.bits7 (fun HT_ HW_ => ?_)
  generalize wr.drew = n1 at k0 HB b0 e0 hHeld ⊢
  refine pT_ 0 21 15 1 ?_
  refine pT_ 1 22 15 3 ?_
  refine pT_ 2 23 15 7 ?_
  refine pT_ 3 24 15 15 ?_
  refine pT_ 5 26 15 47 ?_
  refine pT_ 6 27 15 111 ?_
  refine pT_ 7 28 15 239 ?_
  refine tS_ 4 25 (bb_ 15 255) (bA HT_.o HW_.o (by kernel_rfl)) hHeld ?_
  refine tS_ 8 29 (bb_ 15 511) (bA HT_.o HW_.o (by kernel_rfl)) hHeld ?_
  refine pT_ 9 30 15 1023 ?_
  refine pT_ 10 31 15 2047 ?_
  refine pT_ 11 32 15 4095 ?_
  refine fB (i := 12) (N := some 33) (bb_ 15 8191) rfl rfl (cz HT_.o (by kernel_rfl)) (by decide) (fun K hK => ?_)
  refine nR (w1 := ?_) (v := ?_) (by rfl) rfl ?_ ?_
  rotate_left 2
  ·go_simp
   constructor
   ·rfl
   ·rfl
  refine hK _ _ ⟨(World.cell?_alloc_lt _ _ _ (World.block_lt_of_cell? _ _ ((hc_ d0)))).trans ((hc_ d0)), (World.cell?_alloc_lt _ _ _ (World.block_lt_of_cell? _ _ ((hc_ f0)))).trans ((hc_ f0))⟩ (fun hHeld => ?_)
  clear hK K
  refine dH (a' := ?_) ?_ ?_
  rotate_left
  ·show Act.put _ (some 33) _ = _
   simp only [Act.put, List.setIfInBounds_toArray, List.set_cons_zero, List.set_cons_succ, bq, ct]
   rfl
  refine fB (i := 13) (N := some 34) (bb_ 15 16383) rfl rfl (cz HT_.o (by kernel_rfl)) (by decide) (fun K hK => ?_)
  refine vy (Kd.int .i64) (w0 := w) w.heap.size (by rfl) (.tmp 21) (.tmp 33) 45 3 (.int .i64 0) 8 rfl Tryz.underlying45 df rfl (by decide) (by omega) u5 r0 (Int.tmod (wrap64 ((wrap64 ((rd l0 a0) - (rd l1 a0))) + 3329)) 3329) [.int .i64 (Int.tmod (wrap64 ((wrap64 ((rd l0 a0) - (rd l1 a0))) + 3329)) 3329)] (fun _ => True) (fun _ => False) rfl rfl ?aP (fun _ hk => hk.elim) ?aF ?aO ?aB ?aS ?aL ?_
  (case aP => exact rfl)
  (case aB => exact (hB_))
  (case aF => exact (fun _ _ => trivial))
  (case aO => exact (rR_ k0.o))
  (case aS => exact (au (hB_)))
  (case aL => have := H0.o; omega)
  intro m1 p1 ho hb hg hat
  rw [← I0.o] at ho
  obtain ⟨HB, L0⟩ := b_ (hb) <| c_ (ho)
  clear ho hb hg hat
  refine hK _ _ ⟨(hc_ d0), (hc_ f0)⟩ (fun hHeld => ?_)
  clear hK K
  refine dH (a' := ?_) ?_ ?_
  rotate_left
  ·show Act.put _ (some 34) _ = _
   simp only [Act.put, List.setIfInBounds_toArray, List.set_cons_zero, List.set_cons_succ, bq, ct]
   rfl
  refine pT_ 14 5 15 32767 ?_
  refine fq (dA HT_.o (by kernel_rfl)) ?_
  try go_wp2
  go_roundg k2
  case measure => have := X0.o; have := Z0.o; omega
  case rel => exact ⟨(R0), (wrap64 (a0 + 1)), f0_, H', ⟨by have := X0.o; have := Z0.o; omega⟩, ⟨rR_ L0.o⟩, ⟨hB_⟩⟩
mutual
def ao.l0 : Nat → List Int → Int → Int → Option (List Int)
 | 0, _, _, _ => none
 | k + 1, x3, x4, x5 => if x5 ≤ 128 then (ao.l1 k x3 x4 x5 0) else (ao.l3 k x3 0)
def ao.l1 : Nat → List Int → Int → Int → Int → Option (List Int)
 | 0, _, _, _, _ => none
 | k + 1, x3, x4, x5, x6 => if x6 < 256 then ((aZ.f k x4).bind fun t913 => ((bn.f k 17 t913).bind fun t914 => (ao.l2 k x3 (wrap64 (x4 - 1)) x5 x6 t914 x6))) else (ao.l0 k x3 x4 (wrap64 (x5 * 2)))
def ao.l2 : Nat → List Int → Int → Int → Int → Int → Int → Option (List Int)
 | 0, _, _, _, _, _, _ => none
 | k + 1, x3, x4, x5, x6, x7, x8 => if x8 < (wrap64 (x6 + x5)) then (if 0 ≤ x8 then (if x8 < (x3.length : Int) then (if 0 ≤ (wrap64 (x8 + x5)) then (if (wrap64 (x8 + x5)) < (x3.length : Int) then ((some (x3.set (x8 : Int).toNat (Int.tmod (wrap64 ((rd x3 x8) + (rd x3 (wrap64 (x8 + x5))))) 3329) : List Int)).bind fun y917 => (ao.l2 k (y917.set ((wrap64 (x8 + x5)) : Int).toNat (Int.tmod (wrap64 (x7 * (wrap64 ((wrap64 ((rd y917 (wrap64 (x8 + x5))) - (rd x3 x8))) + 3329)))) 3329)) x4 x5 x6 x7 (wrap64 (x8 + 1)))) else (none)) else (none)) else (none)) else (none)) else (ao.l1 k x3 x4 x5 (wrap64 (x6 + (wrap64 (2 * x5)))))
def ao.l3 : Nat → List Int → Int → Option (List Int)
 | 0, _, _ => none
 | k + 1, x3, x10 => if x10 < 256 then (if 0 ≤ x10 then (if x10 < (x3.length : Int) then (ao.l3 k (x3.set (x10 : Int).toNat (Int.tmod (wrap64 ((rd x3 x10) * 3303)) 3329)) (wrap64 (x10 + 1))) else (none)) else (none)) else (some x3)
end
def ao.f (k : Nat) (l0 : List Int) : Option (List Int) := (ak.f k l0).bind fun t903 => (if t903 = true then ((some (([] : List Int) : List Int)).bind fun y907 => (if y907.length + l0.length < 17592186044416 then (ao.l0 k (y907 ++ l0) 127 2) else (none))) else (some (([] : List Int))))
theorem ao.mono_l : ∀ k, (∀ y0 y1 y2, LeO (ao.l0 k y0 y1 y2) (ao.l0 (k + 1) y0 y1 y2)) ∧ (∀ y0 y1 y2 y3, LeO (ao.l1 k y0 y1 y2 y3) (ao.l1 (k + 1) y0 y1 y2 y3)) ∧ (∀ y0 y1 y2 y3 y4 y5, LeO (ao.l2 k y0 y1 y2 y3 y4 y5) (ao.l2 (k + 1) y0 y1 y2 y3 y4 y5)) ∧ (∀ y0 y1, LeO (ao.l3 k y0 y1) (ao.l3 (k + 1) y0 y1))
 | 0 => ⟨fun _ _ _ r h => by simp [ao.l0] at h, fun _ _ _ _ r h => by simp [ao.l1] at h, fun _ _ _ _ _ _ r h => by simp [ao.l2] at h, fun _ _ r h => by simp [ao.l3] at h⟩
 | k + 1 => by
  obtain ⟨ih0, ih1, ih2, ih3⟩ := ao.mono_l k
  refine ⟨?_, ?_, ?_, ?_⟩ <;> (intros; (first | unfold ao.l0 | unfold ao.l1 | unfold ao.l2 | unfold ao.l3); exact o7_ ih0 ih1 ih2 ih3 ak.mono bn.mono aZ.mono)
theorem ao.mono : ∀ a0 k, LeO (ao.f k a0) (ao.f (k + 1) a0) := by
 intro a0 k
 obtain ⟨ih0, ih1, ih2, ih3⟩ := ao.mono_l k
 unfold ao.f
 exact o7_ ih0 ih1 ih2 ih3 ak.mono bn.mono aZ.mono
theorem ao.calls (k : Nat) (A0 : Option Addr) (c0 : Nat) (l0 : List Int) (r : List Int) (w : World) (hr0 : Kd.C (Kd.int .i64) w A0 l0.length l0) (hc0 : l0.length ≤ c0) (h : ao.f k l0 = some r) :
  Calls Tryz.prog 73 #[.slice A0 l0.length c0] w fun e w' => ∃ j2 : Value, e = .returned (j2) ∧ Kd.R (Kd.int .i64) 3 w' w.heap.size (fun _ => True) j2 r ∧ Below w.heap.size w w' := by
 have E1 := c_ hr0
 have m2 := c_ hc0
 clear hr0 hc0
 have HB := c_ (Da w.heap.size w)
 delta ao.f at h
 have H := h
 clear h
 obtain ⟨F1, A2, H⟩ := bN_ H
 by_cases c3 : F1 = true
 ·subst c3
  replace H := iT_ H
  obtain ⟨Z0, q0⟩ : ∃ y_ : List Int, y_ = (([] : List Int)) := ⟨_, rfl⟩
  first | replace H := yb_ q0 H | rw [← q0] at H
  have b1 := c_ q0
  clear q0
  obtain ⟨c4, H⟩ := iN_ H
  have G1 := c_ c4
  clear c4
  obtain ⟨H1, r0⟩ : ∃ y_ : List Int, y_ = (Z0 ++ l0) := ⟨_, rfl⟩
  first | replace H := yb_ r0 H | rw [← r0] at H
  have c1 := c_ r0
  clear r0
  have H' := c_ H
  clear H
  go_enter Tryz.func73, Tryz.ntmps73
  go_wp2_with (first | (refine gp_ (k_ 12 Tryz.func57) (ak.calls _ _ _ _ _ _ (cR_ E1.o) m2.o A2.o) fun nd => ?_) | (refine lj_ 15 .i64 3 b1 fun I1 w5 e1 HB => ?_) | ((refine cH (b := .append) (xs := #[.tmp 15, .tmp 16]) rfl ?_); at_builtin; refine vv (Kd.int .i64) (w0 := w) w.heap.size rfl (.tmp 15) (.tmp 16) 45 3 (.int .i64 0) 8 rfl Tryz.underlying45 df rfl (by decide) (by omega) I1 Z0 l0 _ _ _ (fun _ => True) (fun _ => False) rfl rfl ?aO ?aR (fun _ _ h => h) (fun _ h => h.elim) ?aF ?aB ?aS ?aL ?_; (case aR => exact cR_ (vf E1.o HB.o)); (case aB => exact (hB_)); (case aF => exact (fun _ _ => trivial)); (case aO => exact (rR_ e1.o)); (case aS => exact (au (hB_))); (case aL => have := G1.o; omega); intro F0 w7 ho hb hg hat; rw [← c1.o] at ho; obtain ⟨HB, f1⟩ := b_ (hb) <| c_ (ho); clear ho hb hg hat))
  go_loopg [4, 5] k (fun kq v4 v5 w' => ∃ (D0 : List Int) (G0 : Int) (k0 : Int), v4 = .int .i64 G0 ∧ v5 = .int .i64 k0 ∧ aa (ao.l0 kq D0 G0 k0 = some r) ∧ aa (kq ≤ k) ∧ aa (Kd.R (Kd.int .i64) 3 w' w.heap.size (fun _ => True) F0 D0) ∧ aa (Below w.heap.size w w'))
  case atStart => exact ⟨(H1), (127), (2), f0_, f0_, H', ⟨Ca _⟩, ⟨rR_ f1.o⟩, ⟨hB_⟩⟩
  clear H'
  obtain ⟨D0, G0, k0, rfl, rfl, HA, M0, a0, HB⟩ := hrel
  rcases gk with _ | k1
  ·exact absurd HA.o (by simp [ao.l0])
  have H := HA.o
  clear HA
  simp only [ao.l0] at H
  by_cases c8 : k0 ≤ 128
  rotate_left
  ·rw [Ga c8] at H
   have J1 := za c8
   clear c8
   have H' := c_ H
   clear H
   go_wp2
   go_loopg [10] k1 (fun kq B2 w' => ∃ (j0 : List Int) (b0 : Int), B2 = .int .i64 b0 ∧ aa (ao.l3 kq j0 b0 = some r) ∧ aa (kq ≤ k1) ∧ aa (Kd.R (Kd.int .i64) 3 w' w.heap.size (fun _ => True) F0 j0) ∧ aa (Below w.heap.size w w'))
   case atStart => exact ⟨(D0), (0), f0_, H', ⟨Ca _⟩, ⟨rR_ a0.o⟩, ⟨hB_⟩⟩
   clear H'
   obtain ⟨j0, b0, rfl, HA, H0, a0, HB⟩ := hrel
   rcases gk with _ | k2
   ·exact absurd HA.o (by simp [ao.l3])
   have H := HA.o
   clear HA
   simp only [ao.l3] at H
   by_cases X0 : b0 < 256
   rotate_left
   ·rw [Ga X0] at H
    have g1 := za X0
    clear X0
    obtain rfl := Ba H
    go_wp2
    go_ret
    exact ⟨_, f1_, rR_ a0.o, hB_⟩
   rw [Fa X0] at H
   have g1 := ya X0
   clear X0
   obtain ⟨n2, H⟩ := iD_ H
   obtain ⟨p2, H⟩ := iD_ H
   obtain ⟨K1, v0⟩ : ∃ y_ : List Int, y_ = (j0.set (b0 : Int).toNat (Int.tmod (wrap64 ((rd j0 b0) * 3303)) 3329)) := ⟨_, rfl⟩
   first | replace H := yb_ v0 H | rw [← v0] at H
   have i1 := c_ v0
   clear v0
   have H' := c_ H
   clear H
   obtain ⟨C2, D2, L1⟩ := uY a0.o
   subst L1
   have O0 : 0 ≤ (b0 : Int) := oD_
   have P0 : b0 < (j0.length : Int) := oD_
   obtain ⟨q2, M1, I0⟩ := uZ (uX a0.o).2.2 b0 O0 P0
   cases M1
   replace O0 := Aa O0
   replace P0 := Aa P0
   have N1 : 0 ≤ (b0 : Int) := oD_
   have O1 : (b0 : Int) < ((j0.length : Int) : Int) := oD_
   obtain ⟨go28, E2, j1, m1, gl28, cl28, HG28⟩ := vq a0.o (by omega)
   (first | cases j1 | (injection j1 with ea_ en_ ec_; (first | subst ea_ | (injection ea_ with ea_; subst ea_)); subst ec_; clear en_))
   have P1 := c_ m1
   have GG28 := c_ HG28
   clear m1 gl28 HG28
   (first | simp only [cj] at I0 | skip)
   obtain ⟨Q1, hf28_0⟩ := vc 0 a0.o (b0 : Int) N1 O1
   replace N1 := Aa N1
   replace O1 := Aa O1
   have HP30 := vm a0.o (b0 : Int) (Int.tmod (wrap64 ((rd j0 b0) * 3303)) 3329)
   go_wp2_with (first | ((refine cx (t := 3) (p := 86) rfl ?_); refine st_ 3 86 HP30 i1 P1 fun N2 hw hp_ hg HBn => ?_; obtain ⟨a0, HB⟩ := b_ (hp_) <| c_ HBn.o; clear hg hw hp_))
   go_roundg k2
   case measure => have := M0.o; have := H0.o; omega
   case rel => exact ⟨(K1), (wrap64 (b0 + 1)), f0_, H', ⟨by have := M0.o; have := H0.o; omega⟩, ⟨rR_ a0.o⟩, ⟨hB_⟩⟩
  rw [Fa c8] at H
  have J1 := ya c8
  clear c8
  have H' := c_ H
  clear H
  go_wp2
  go_loopg [4, 6] k1 (fun kq v4 v6 w' => ∃ (j0 : List Int) (C0 : Int) (p0 : Int), v4 = .int .i64 C0 ∧ v6 = .int .i64 p0 ∧ aa (ao.l1 kq j0 C0 k0 p0 = some r) ∧ aa (kq ≤ k1) ∧ aa (Kd.R (Kd.int .i64) 3 w' w.heap.size (fun _ => True) F0 j0) ∧ aa (Below w.heap.size w w'))
  case atStart => exact ⟨(D0), (G0), (0), f0_, f0_, H', ⟨Ca _⟩, ⟨rR_ a0.o⟩, ⟨hB_⟩⟩
  clear H'
  obtain ⟨j0, C0, p0, rfl, rfl, HA, H0, a0, HB⟩ := hrel
  rcases gk with _ | k2
  ·exact absurd HA.o (by simp [ao.l1])
  have H := HA.o
  clear HA
  simp only [ao.l1] at H
  by_cases c9 : p0 < 256
  rotate_left
  ·rw [Ga c9] at H
   have R1 := za c9
   clear c9
   have H' := c_ H
   clear H
   go_wp2
   go_roundg k2
   case measure => have := M0.o; have := H0.o; omega
   case rel => exact ⟨(j0), (C0), (wrap64 (k0 * 2)), f0_, f0_, H', ⟨by have := M0.o; have := H0.o; omega⟩, ⟨rR_ a0.o⟩, ⟨hB_⟩⟩
  rw [Fa c9] at H
  have R1 := ya c9
  clear c9
  obtain ⟨F2, G2, H⟩ := bN_ H
  obtain ⟨Q0, H2, H⟩ := bN_ H
  have H' := c_ H
  clear H
  go_wp2_with (first | (refine gp_ (k_ 29 Tryz.func59) (aZ.calls _ _ _ _ G2.o) fun nd => ?_) | (refine gp_ (k_ 30 Tryz.func58) (bn.calls _ _ _ _ _ H2.o) fun nd => ?_))
  go_loopg [8] k2 (fun kq v8 w' => ∃ (f0 : List Int) (d0 : Int), v8 = .int .i64 d0 ∧ aa (ao.l2 kq f0 (wrap64 (C0 - 1)) k0 p0 Q0 d0 = some r) ∧ aa (kq ≤ k2) ∧ aa (Kd.R (Kd.int .i64) 3 w' w.heap.size (fun _ => True) F0 f0) ∧ aa (Below w.heap.size w w'))
  case atStart => exact ⟨(j0), (p0), f0_, H', ⟨Ca _⟩, ⟨rR_ a0.o⟩, ⟨hB_⟩⟩
  clear H'
  obtain ⟨f0, d0, rfl, HA, D1, a0, HB⟩ := hrel
  rcases gk with _ | k3
  ·exact absurd HA.o (by simp [ao.l2])
  have H := HA.o
  clear HA
  simp only [ao.l2] at H
  by_cases Y0 : d0 < (wrap64 (p0 + k0))
  rotate_left
  ·rw [Ga Y0] at H
   have n1 := za Y0
   clear Y0
   have H' := c_ H
   clear H
   go_wp2
   go_roundg k3
   case measure => have := M0.o; have := H0.o; have := D1.o; omega
   case rel => exact ⟨(f0), ((wrap64 (C0 - 1))), (wrap64 (p0 + (wrap64 (2 * k0)))), f0_, f0_, H', ⟨by have := M0.o; have := H0.o; have := D1.o; omega⟩, ⟨rR_ a0.o⟩, ⟨hB_⟩⟩
  rw [Fa Y0] at H
  have n1 := ya Y0
  clear Y0
  obtain ⟨r2, H⟩ := iD_ H
  obtain ⟨t2, H⟩ := iD_ H
  obtain ⟨e0, E0⟩ : ∃ j_ : Int, (wrap64 (d0 + k0)) = j_ := ⟨_, rfl⟩
  first | rw [E0] at H | simp only [E0] at H
  have S1 : (IntKind.i64.wrap (d0 + k0)) = e0 := (bq _).trans E0
  obtain ⟨v2, H⟩ := iD_ H
  obtain ⟨y2, H⟩ := iD_ H
  obtain ⟨J0, x0⟩ : ∃ y_ : List Int, y_ = (f0.set (d0 : Int).toNat (Int.tmod (wrap64 ((rd f0 d0) + (rd f0 (e0)))) 3329)) := ⟨_, rfl⟩
  first | replace H := yb_ x0 H | rw [← x0] at H
  have N0 := c_ x0
  clear x0
  obtain ⟨T1, y0⟩ : ∃ y_ : List Int, y_ = (J0.set ((e0) : Int).toNat (Int.tmod (wrap64 (Q0 * (wrap64 ((wrap64 ((rd J0 (e0)) - (rd f0 d0))) + 3329)))) 3329)) := ⟨_, rfl⟩
  first | replace H := yb_ y0 H | rw [← y0] at H
  have p1 := c_ y0
  clear y0
  have H' := c_ H
  clear H
  obtain ⟨I2, J2, U1⟩ := uY a0.o
  subst U1
  have R0 : 0 ≤ (d0 : Int) := oD_
  have S0 : d0 < (f0.length : Int) := oD_
  obtain ⟨q1, V1, K0⟩ := uZ (uX a0.o).2.2 d0 R0 S0
  cases V1
  replace R0 := Aa R0
  replace S0 := Aa S0
  have T0 : 0 ≤ ((e0) : Int) := oD_
  have U0 : (e0) < (f0.length : Int) := oD_
  obtain ⟨r1, X1, L0⟩ := uZ (uX a0.o).2.2 (e0) T0 U0
  obtain rfl : q1 = r1 := (by injection X1)
  replace T0 := Aa T0
  replace U0 := Aa U0
  have Y1 : 0 ≤ (d0 : Int) := oD_
  have Z1 : (d0 : Int) < ((f0.length : Int) : Int) := oD_
  obtain ⟨go18, K2, t1, y1, gl18, cl18, HG18⟩ := vq a0.o (by omega)
  (first | cases t1 | (injection t1 with ea_ en_ ec_; (first | subst ea_ | (injection ea_ with ea_; subst ea_)); subst ec_; clear en_))
  have z1 := c_ y1
  have GG18 := c_ HG18
  clear y1 gl18 HG18
  (first | simp only [cj] at K0 | skip)
  (first | simp only [cj] at L0 | skip)
  obtain ⟨b2, hf18_0⟩ := vc 0 a0.o (d0 : Int) Y1 Z1
  replace Y1 := Aa Y1
  replace Z1 := Aa Z1
  have HP21 := vm a0.o (d0 : Int) (Int.tmod (wrap64 ((rd f0 d0) + (rd f0 (e0)))) 3329)
  go_wp2_with (first | ((refine cx (t := 3) (p := 56) rfl ?_); refine st_ 3 56 HP21 N0 z1 fun O2 hw hp_ hg HBn => ?_; obtain ⟨a0, HB⟩ := b_ (hp_) <| c_ HBn.o; clear hg hw hp_; have V0 : 0 ≤ ((e0) : Int) := oD_; have W0 : (e0) < (J0.length : Int) := (by have h_ : ((e0) : Int) < ((f0.length : Int) : Int) := oD_; first | (have e_ := (uX a0.o).1; omega) | simpa only [N0.o, List.length_set] using h_); have ql918 : (((e0) : Int) < ((f0.length : Int) : Int)) = True := Aa oD_; obtain ⟨A1, c2, n0⟩ := uZ (uX a0.o).2.2 (e0) V0 W0; obtain rfl : (⟨go18, 0, none⟩ : Addr) = A1 := (by injection c2); (first | simp only [cj] at n0 | simp only [pQ] at n0 | simp only [Addr.add, Nat.zero_add] at n0 | skip); replace V0 := Aa V0; replace W0 := Aa W0; have f2 : 0 ≤ ((e0) : Int) := oD_; have g2 : ((e0) : Int) < ((f0.length : Int) : Int) := oD_; obtain ⟨i2, hf19_0⟩ := vc 0 a0.o ((e0) : Int) f2 g2; replace f2 := Aa f2; replace g2 := Aa g2; obtain ⟨z2, hz23_⟩ := vc 0 a0.o ((e0) : Int) oD_ oD_; have HP23 := vm a0.o ((e0) : Int) (Int.tmod (wrap64 (Q0 * (wrap64 ((wrap64 ((rd J0 (e0)) - (rd f0 d0))) + 3329)))) 3329)) | ((refine cx (t := 3) (p := 73) rfl ?_); refine st_ 3 73 HP23 p1 z1 fun P2 hw hp_ hg HBn => ?_; obtain ⟨a0, HB⟩ := b_ (hp_) <| c_ HBn.o; clear hg hw hp_))
  go_roundg k3
  case measure => have := M0.o; have := H0.o; have := D1.o; omega
  case rel => exact ⟨(T1), (wrap64 (d0 + 1)), f0_, H', ⟨by have := M0.o; have := H0.o; have := D1.o; omega⟩, ⟨rR_ a0.o⟩, ⟨hB_⟩⟩
 ·replace c3 := Ea c3
  subst c3
  replace H := iF_ H
  obtain ⟨L2, B0⟩ : ∃ y_ : List Int, y_ = (([] : List Int)) := ⟨_, rfl⟩
  first | replace H := yb_ B0 H | rw [← B0] at H
  have B1 := c_ B0
  clear B0
  obtain rfl := Ba H
  go_enter Tryz.func73, Tryz.ntmps73
  go_wp2_with (first | (refine gp_ (k_ 12 Tryz.func57) (ak.calls _ _ _ _ _ _ (cR_ E1.o) m2.o A2.o) fun nd => ?_) | (refine lj_ 14 .i64 3 B1 fun M2 Q2 C1 HB => ?_))
  go_ret
  exact ⟨_, f1_, rR_ C1.o, hB_⟩
mutual
def aV.j0 : Nat → ByteArray → ByteArray → Bool → Option (List Int × Bool)
 | 0, _, _, _ => none
 | k + 1, x0, x1, x18 => if x18 = true then (some ((([] : List Int)), false)) else ((bp.f k x0).bind fun bt925 => (if bt925.2 = true then (aV.l0 k x1 bt925.1 (([] : List (List Int))) 0) else (some ((([] : List Int)), false))))
def aV.l0 : Nat → ByteArray → List (List Int) → List (List Int) → Int → Option (List Int × Bool)
 | 0, _, _, _, _ => none
 | k + 1, x1, x6, x8, x9 => if x9 < 2 then (if 0 ≤ (wrap64 (x9 * 320)) then (if (wrap64 (x9 * 320)) ≤ (wrap64 ((wrap64 (x9 + 1)) * 320)) then (if (wrap64 ((wrap64 (x9 + 1)) * 320)) ≤ (x1.size : Int) then ((aC.f k (x1.extract ((wrap64 (x9 * 320)) : Int).toNat ((wrap64 ((wrap64 (x9 + 1)) * 320)) : Int).toNat) 10).bind fun t935 => ((aY.f k t935).bind fun t938 => (if x8.length < 5864062014805 then (aV.l0 k x1 x6 (x8 ++ [t938]) (wrap64 (x9 + 1))) else (none)))) else (none)) else (none)) else (none)) else (if 640 ≤ (x1.size : Int) then ((aC.f k (x1.extract 640 x1.size) 4).bind fun t944 => ((bb.f k x6 x8).bind fun t947 => ((ao.f k t947).bind fun t950 => ((aD.f k t944 t950).bind fun t953 => (some (t953, true)))))) else (none))
end
def aV.f (k : Nat) (a0 : ByteArray) (a1 : ByteArray) : Option (List Int × Bool) := if (a0.size : Int) = 1632 then (aV.j0 k a0 a1 ((a1.size : Int) != 768)) else (aV.j0 k a0 a1 true)
theorem aV.mono_l : ∀ k, (∀ y0 y1 y2, LeO (aV.j0 k y0 y1 y2) (aV.j0 (k + 1) y0 y1 y2)) ∧ (∀ y0 y1 y2 y3, LeO (aV.l0 k y0 y1 y2 y3) (aV.l0 (k + 1) y0 y1 y2 y3))
 | 0 => ⟨fun _ _ _ r h => by simp [aV.j0] at h, fun _ _ _ _ r h => by simp [aV.l0] at h⟩
 | k + 1 => by
  obtain ⟨ih0, ih1⟩ := aV.mono_l k
  refine ⟨?_, ?_⟩ <;> (intros; (first | unfold aV.j0 | unfold aV.l0); exact o8_ ih0 ih1 ao.mono aY.mono aD.mono bp.mono aC.mono bb.mono)
theorem aV.mono : ∀ a0 a1 k, LeO (aV.f k a0 a1) (aV.f (k + 1) a0 a1) := by
 intro a0 a1 k
 obtain ⟨ih0, ih1⟩ := aV.mono_l k
 unfold aV.f
 exact o8_ ih0 ih1 ao.mono aY.mono aD.mono bp.mono aC.mono bb.mono
theorem aV.calls (k : Nat) (a0 : ByteArray) (a1 : ByteArray) (r1 : List Int) (r2 : Bool) (w : World) (h : aV.f k a0 a1 = some (r1, r2)) :
  Calls Tryz.prog 36 #[.string a0, .string a1] w fun e w' => ∃ D1 : Value, e = .returned (.tuple #[D1, .bool r2]) ∧ Kd.R (Kd.int .i64) 3 w' w.heap.size (fun _ => True) D1 r1 ∧ Below w.heap.size w w' := by
 have HB := c_ (Da w.heap.size w)
 delta aV.f at h
 have H := h
 clear h
 have e1 := c_ H
 clear H
 go_enter Tryz.func36, Tryz.ntmps36
 go_upto_region 1 with (fail)
 go_cut [18] (fun S1 wc => ∃ (kq : Nat) (r0 : Bool), S1 = .bool r0 ∧ aa (aV.j0 kq a0 a1 r0 = some (r1, r2)) ∧ aa (kq ≤ k) ∧ aa (Below w.heap.size w wc))
 case first =>
  have H := e1.o
  clear e1
  by_cases c4 : (a0.size : Int) = 1632
  ·rw [Fa c4] at H
   have F0 : ((a0.size : Int) == 1632) = true := beq_iff_eq.mpr c4
   have f1 : ((a0.size : Int) != 1632) = false := bne_eq_false_iff_eq.mpr c4
   clear c4
   (first | rw [F0] | (simp only [bq, ct]; rw [F0]) | skip)
   have H' := c_ H
   clear H
   go_wp2
   go_meet
   case rel => exact ⟨_, (((a1.size : Int) != 768)), f0_, H', ⟨by first | omega | exact Ca _⟩, ⟨hB_⟩⟩
  rw [Ga c4] at H
  have F0 : ((a0.size : Int) == 1632) = false := beq_eq_false_iff_ne.mpr c4
  have f1 : ((a0.size : Int) != 1632) = true := bne_iff_ne.mpr c4
  (first | rw [F0] | (simp only [bq, ct]; rw [F0]) | skip)
  have H' := c_ H
  clear H
  go_wp2
  go_meet
  case rel => exact ⟨_, (true), f0_, H', ⟨by first | omega | exact Ca _⟩, ⟨hB_⟩⟩
 clear e1
 obtain ⟨kq, r0, rfl, HA, E1, HB⟩ := hcut
 rcases kq with _ | F1
 ·exact absurd HA.o (by simp [aV.j0])
 have H := HA.o
 clear HA
 simp only [aV.j0] at H
 by_cases c5 : r0 = true
 ·subst c5
  replace H := iT_ H
  obtain ⟨T1, v0⟩ : ∃ y_ : List Int, y_ = (([] : List Int)) := ⟨_, rfl⟩
  first | replace H := yb_ v0 H | rw [← v0] at H
  have R0 := c_ v0
  clear v0
  simp only [Option.some.injEq, Prod.mk.injEq] at H
  obtain ⟨rfl, rfl⟩ := H
  go_wp2_with (first | ((try (refine bi (by rfl) ?_; dsimp only)); refine lj_ 19 .i64 3 R0 fun U1 w6 S0 HB => ?_))
  go_ret2
  exact ⟨_, f1_, rR_ S0.o, hB_⟩
 ·replace c5 := Ea c5
  subst c5
  replace H := iF_ H
  obtain ⟨⟨T0, g1⟩, A8, H⟩ := bN_ H
  by_cases c9 : g1 = true
  ·subst c9
   replace H := iT_ H
   obtain ⟨i1, x0⟩ : ∃ y_ : List (List Int), y_ = (([] : List (List Int))) := ⟨_, rfl⟩
   first | replace H := yb_ x0 H | rw [← x0] at H
   have M0 := c_ x0
   clear x0
   have H' := c_ H
   clear H
   go_wp2_with (first | (refine gR_ (k_ 22 Tryz.func70) (bp.calls _ _ _ _ _ A8.o) fun D0 L2 ho_ hb => ?_; obtain ⟨n0, HB⟩ := n_ (lS_ ho_) <| sB_) | ((refine cO (N := 28) rfl ?_); (try (refine bi (by rfl) ?_; dsimp only)); refine wl (Kd.slice 3 (Kd.int .i64)) _ 45 ?hg (N := 28) ?hd (xs := ([] : List (List Int))) (inner := []) (ok := fun _ => True) (okp := fun _ => True) ?hr ?hp (fun _ hk => hk) trivial (Da _ _) (Ca _) (by simp) ?_; (case hd => rfl); (case hg => rfl); (case hr => first | (go_simp; done) | (go_simp; rfl)); (case hp => exact (eW.none _ _)); intro V1 M2 E0 hb hg_ hnew_; clear hg_ hnew_; (first | rw [← M0.o] at E0 | (simp only [Int.reduceToNat] at E0; rw [← M0.o] at E0)); obtain ⟨n0, U0, HB⟩ := b_ (vd (rS_ n0.o) (vL E0) hb) <| b_ (vG (vD E0 (wd (rS_ n0.o))) (au (hB_))) <| sB_; clear hb E0))
   go_loopg [8, 9] F1 (fun kq v8 v9 w' => ∃ (G0 : List (List Int)) (q0 : Int), v9 = .int .i64 q0 ∧ aa (aV.l0 kq a1 T0 G0 q0 = some (r1, r2)) ∧ aa (kq ≤ F1) ∧ aa (Kd.S (Kd.slice 3 (Kd.int .i64)) 45 w' w.heap.size (fun k_ => some k_ ≠ (v8 : Value).ownBlock) D0 T0) ∧ aa (Kd.S (Kd.slice 3 (Kd.int .i64)) 45 w' w.heap.size (fun k_ => some k_ ≠ (D0 : Value).ownBlock) v8 G0) ∧ aa (Below w.heap.size w w'))
   case atStart => exact ⟨(i1), (0), f0_, H', ⟨Ca _⟩, ⟨by refine kS_ ?_; exact vk n0.o (fun _ hk => hk.2)⟩, ⟨by refine kS_ ?_; exact vk U0.o (fun _ hk => hk.2)⟩, ⟨hB_⟩⟩
   clear H'
   obtain ⟨G0, q0, rfl, HA, G1, b0, d0, HB⟩ := hrel
   rcases gk with _ | k2
   ·exact absurd HA.o (by simp [aV.l0])
   have H := HA.o
   clear HA
   simp only [aV.l0] at H
   by_cases Q0 : q0 < 2
   ·rw [Fa Q0] at H
    have V0 := ya Q0
    clear Q0
    obtain ⟨N0, y0⟩ : ∃ j_ : Int, (wrap64 (q0 * 320)) = j_ := ⟨_, rfl⟩
    first | rw [y0] at H | simp only [y0] at H
    have j1 : (IntKind.i64.wrap (q0 * 320)) = N0 := (bq _).trans y0
    obtain ⟨l1, H⟩ := iN_ H
    have H1 := Aa l1
    have I1 := ya l1
    clear l1
    obtain ⟨J1, H⟩ := iN_ H
    have K1 := Aa J1
    have L1 := ya J1
    obtain ⟨M1, H⟩ := iN_ H
    have N1 := Aa M1
    have O1 := ya M1
    obtain ⟨H0, X1, H⟩ := bN_ H
    obtain ⟨I0, Y1, H⟩ := bN_ H
    obtain ⟨P1, H⟩ := iN_ H
    have W0 := c_ P1
    clear P1
    obtain ⟨m1, B0⟩ : ∃ y_ : List (List Int), y_ = (G0 ++ [I0]) := ⟨_, rfl⟩
    first | replace H := yb_ B0 H | rw [← B0] at H
    have X0 := c_ B0
    clear B0
    have H' := c_ H
    clear H
    go_wp2_with (first | ((with_reducible refine eQ (f := 71) rfl ?_); refine iI (some 41) rfl rfl Tryz.func71 (by kernel_rfl) rfl #[.string (a1.extract ((N0) : Int).toNat ((wrap64 ((wrap64 (q0 + 1)) * 320)) : Int).toNat), .int .i64 10] rfl (by (try simp only [List.map_toArray, List.map_cons, List.map_nil]); first | done | (simp only [y0]; rfl) | rfl | (simp only [List.length_drop, List.length_take]; rfl)) ?_; (with_reducible refine (aC.calls k2 (a1.extract ((N0) : Int).toNat ((wrap64 ((wrap64 (q0 + 1)) * 320)) : Int).toNat) 10 H0 _ X1.o).mono ?_); rintro e N2 ⟨Z1, rfl, n1, hb⟩; refine ⟨_, rfl, ?_⟩; obtain ⟨b0, d0, f0, HB⟩ := b_ (vd (rS_ b0.o) (vg n1) hb) <| b_ (vd (rS_ d0.o) (vg n1) hb) <| b_ (vb n1 (au (hB_))) <| sB_; obtain ⟨K0, L0, p1⟩ := uY f0.o; subst p1) | (refine gR_ (k_ 42 Tryz.func26) (aY.calls _ _ _ _ _ _ (cR_ (uX f0.o).2.2) ((uX f0.o).2.1) Y1.o) fun b2 O2 ho_ hb => ?_; obtain ⟨b0, d0, f0, J0, HB⟩ := n_ (dg b0) <| n_ (dg d0) <| n_ (di f0) <| n_ (lR_ (dm ho_ f0)) <| sB_; obtain ⟨O0, P0, q1⟩ := uY J0.o; subst q1) | ((refine cH (b := .append) (xs := #[.tmp 33, .tmp 43]) rfl ?_); (try (refine bi (by rfl) ?_; dsimp only)); at_builtin; refine vw (Kd.slice 3 (Kd.int .i64)) (w0 := w) w.heap.size rfl (.tmp 33) (.tmp 43) 41 45 (.slice none 0 0) 24 rfl Tryz.underlying41 gN rfl (by decide) (by omega) u8 G0 I0 [.slice O0 I0.length P0] (fun k_ => some k_ ≠ (D0 : Value).ownBlock ∧ some k_ ≠ (.slice K0 H0.length L0 : Value).ownBlock) (fun k_ => some k_ = (.slice O0 I0.length P0 : Value).ownBlock) rfl rfl ?aP (fun k_ hk_ => ((va (ok' := fun k_ => ((fun k_ => some k_ ≠ (D0 : Value).ownBlock ∧ some k_ ≠ (.slice K0 H0.length L0 : Value).ownBlock)) k_ ∧ some k_ ≠ (u8 : Value).ownBlock) (vh (vh (J0.o) (vi b0.o) (by decide)) (vi d0.o) (by decide)) (fun k_ hk => ⟨⟨hk.1.2, hk.1.1.2⟩, hk.2⟩))).1 k_ hk_.symm) ?aF ?aO ?aB ?aS ?aL ?_; (case aP => exact vP (va (vA rfl (va (ok' := fun k_ => ((fun k_ => some k_ ≠ (D0 : Value).ownBlock ∧ some k_ ≠ (.slice K0 H0.length L0 : Value).ownBlock)) k_ ∧ some k_ ≠ (u8 : Value).ownBlock) (vh (vh (J0.o) (vi b0.o) (by decide)) (vi d0.o) (by decide)) (fun k_ hk => ⟨⟨hk.1.2, hk.1.1.2⟩, hk.2⟩))) (fun _ h_ => h_))); (case aB => exact (hB_)); (case aF => exact (fun k_ hk => ⟨Kd.fresh' (wd (rS_ b0.o)) k_ hk, Kd.fresh' (vE (rR_ f0.o)) k_ hk⟩)); (case aO => exact (by refine kS_ ?_; exact vk d0.o (fun k_ hk => ⟨⟨hk.1.1, hk.1.2⟩, fun e_ => hk.2 e_⟩))); (case aS => exact (au (hB_))); (case aL => have := W0.o; omega); intro c2 P2 ho hb hg hat; rw [← X0.o] at ho; obtain ⟨b0, f0, HB, Y0⟩ := b_ (vY (ok := (fun k_ => some k_ ≠ (.slice K0 H0.length L0 : Value).ownBlock ∧ some k_ ≠ (.slice O0 I0.length P0 : Value).ownBlock)) (by refine kS_ ?_; exact vk b0.o (fun _ hk => ⟨⟨hk.1.2, hk.2⟩, hk.1.1⟩)) hg hat) <| b_ (vN (rR_ f0.o) (vi (rS_ d0.o)) (by decide) hg) <| b_ (hb) <| c_ (ho); clear ho hb hg hat))
    go_roundg k2
    case measure => have := E1.o; have := G1.o; omega
    case rel => exact ⟨(m1), (wrap64 (q0 + 1)), f0_, H', ⟨by have := E1.o; have := G1.o; omega⟩, ⟨by refine kS_ ?_; exact vk b0.o (fun _ hk => hk.2)⟩, ⟨by refine kS_ ?_; exact vk Y0.o (fun _ hk => hk.1)⟩, ⟨hB_⟩⟩
   rw [Ga Q0] at H
   have V0 := za Q0
   clear Q0
   obtain ⟨t1, H⟩ := iN_ H
   have Q1 := Aa t1
   have R1 := ya t1
   clear t1
   obtain ⟨f2, g2, H⟩ := bN_ H
   obtain ⟨i2, j2, H⟩ := bN_ H
   obtain ⟨l2, m2, H⟩ := bN_ H
   obtain ⟨n2, p2, H⟩ := bN_ H
   simp only [Option.some.injEq, Prod.mk.injEq] at H
   obtain ⟨rfl, rfl⟩ := H
   go_wp2_with (first | (refine gR_ (k_ 47 Tryz.func71) (aC.calls _ _ _ _ _ g2.o) fun q2 Q2 ho_ hb => ?_; obtain ⟨b0, d0, e0, HB⟩ := n_ (dg b0) <| n_ (dg d0) <| n_ (lR_ ho_) <| sB_; obtain ⟨t2, v2, y1⟩ := vs b0.o; subst y1; obtain ⟨y2, z2, z1⟩ := vs d0.o; subst z1) | (refine gR_ (k_ 51 Tryz.func30) (bb.calls _ _ _ _ _ _ _ _ _ (cR_ (ve b0.o).2.2) ((ve b0.o).2.1) (cR_ (ve d0.o).2.2) ((ve d0.o).2.1) j2.o) fun A2 R2 ho_ hb => ?_; obtain ⟨b0, d0, e0, k0, HB⟩ := n_ (dg b0) <| n_ (dg d0) <| n_ (di e0) <| n_ (lR_ (dm ho_ e0)) <| sB_; obtain ⟨B2, C2, A1⟩ := uY k0.o; subst A1) | (refine gR_ (k_ 52 Tryz.func73) (ao.calls _ _ _ _ _ _ (cR_ (uX k0.o).2.2) ((uX k0.o).2.1) m2.o) fun D2 T2 ho_ hb => ?_; obtain ⟨b0, d0, e0, k0, p0, HB⟩ := n_ (dg b0) <| n_ (dg d0) <| n_ (di e0) <| n_ (di k0) <| n_ (lR_ (dm (dm ho_ e0) k0)) <| sB_; obtain ⟨E2, F2, B1⟩ := uY e0.o; subst B1; obtain ⟨G2, H2, C1⟩ := uY p0.o; subst C1) | (refine gR_ (k_ 53 Tryz.func72) (aD.calls _ _ _ _ _ _ _ _ _ (cR_ (uX e0.o).2.2) ((uX e0.o).2.1) (cR_ (uX p0.o).2.2) ((uX p0.o).2.1) p2.o) fun I2 U2 ho_ hb => ?_; obtain ⟨b0, d0, e0, k0, p0, Z0, HB⟩ := n_ (dg b0) <| n_ (dg d0) <| n_ (di e0) <| n_ (di k0) <| n_ (di p0) <| n_ (lR_ (dm (dm (dm ho_ e0) k0) p0)) <| sB_))
   go_ret2
   exact ⟨_, f1_, by refine kR_ ?_; exact va Z0.o (fun _ hk => trivial), hB_⟩
  ·replace c9 := Ea c9
   subst c9
   replace H := iF_ H
   obtain ⟨J2, C0⟩ : ∃ y_ : List Int, y_ = (([] : List Int)) := ⟨_, rfl⟩
   first | replace H := yb_ C0 H | rw [← C0] at H
   have b1 := c_ C0
   clear C0
   simp only [Option.some.injEq, Prod.mk.injEq] at H
   obtain ⟨rfl, rfl⟩ := H
   go_wp2_with (first | (refine gR_ (k_ 22 Tryz.func70) (bp.calls _ _ _ _ _ A8.o) fun D0 V2 ho_ hb => ?_; obtain ⟨n0, HB⟩ := n_ (lS_ ho_) <| sB_) | ((try (refine bi (by rfl) ?_; dsimp only)); refine li_ 27 .i64 3 b1 fun K2 X2 ho_ hb => ?_; obtain ⟨n0, c1, HB⟩ := n_ (dg n0) <| n_ (lR_ ho_) <| sB_))
   go_ret2
   exact ⟨_, f1_, rR_ c1.o, hB_⟩
mutual
def bS.j0 : Nat → List Int → List Int → Bool → Option (Int)
 | 0, _, _, _ => none
 | k + 1, x0, x1, x15 => if x15 = true then (some (-1)) else (bS.l0 k x0 x1 0 0)
def bS.l0 : Nat → List Int → List Int → Int → Int → Option (Int)
 | 0, _, _, _, _ => none
 | k + 1, x0, x1, x5, x6 => if x6 < 256 then (if 0 ≤ x6 then (if x6 < (x0.length : Int) then (if x6 < (x1.length : Int) then (if (wrap64 (3329 - (Int.tmod (wrap64 ((wrap64 ((rd x0 x6) - (rd x1 x6))) + 3329)) 3329))) < (Int.tmod (wrap64 ((wrap64 ((rd x0 x6) - (rd x1 x6))) + 3329)) 3329) then (if (wrap64 (3329 - (Int.tmod (wrap64 ((wrap64 ((rd x0 x6) - (rd x1 x6))) + 3329)) 3329))) > x5 then (bS.l0 k x0 x1 (wrap64 (3329 - (Int.tmod (wrap64 ((wrap64 ((rd x0 x6) - (rd x1 x6))) + 3329)) 3329))) (wrap64 (x6 + 1))) else (bS.l0 k x0 x1 x5 (wrap64 (x6 + 1)))) else (if (Int.tmod (wrap64 ((wrap64 ((rd x0 x6) - (rd x1 x6))) + 3329)) 3329) > x5 then (bS.l0 k x0 x1 (Int.tmod (wrap64 ((wrap64 ((rd x0 x6) - (rd x1 x6))) + 3329)) 3329) (wrap64 (x6 + 1))) else (bS.l0 k x0 x1 x5 (wrap64 (x6 + 1))))) else (none)) else (none)) else (none)) else (some x5)
end
def bS.f (k : Nat) (l0 : List Int) (l1 : List Int) : Option (Int) := (ak.f k l0).bind fun t956 => (if t956 = true then ((ak.f k l1).bind fun t957 => (bS.j0 k l0 l1 (!t957))) else (bS.j0 k l0 l1 true))
theorem bS.mono_l : ∀ k, (∀ y0 y1 y2, LeO (bS.j0 k y0 y1 y2) (bS.j0 (k + 1) y0 y1 y2)) ∧ (∀ y0 y1 y2 y3, LeO (bS.l0 k y0 y1 y2 y3) (bS.l0 (k + 1) y0 y1 y2 y3))
 | 0 => ⟨fun _ _ _ r h => by simp [bS.j0] at h, fun _ _ _ _ r h => by simp [bS.l0] at h⟩
 | k + 1 => by
  obtain ⟨ih0, ih1⟩ := bS.mono_l k
  refine ⟨?_, ?_⟩ <;> (intros; (first | unfold bS.j0 | unfold bS.l0); exact o3_ ih0 ih1 ak.mono)
theorem bS.mono : ∀ a0 a1 k, LeO (bS.f k a0 a1) (bS.f (k + 1) a0 a1) := by
 intro a0 a1 k
 obtain ⟨ih0, ih1⟩ := bS.mono_l k
 unfold bS.f
 exact o3_ ih0 ih1 ak.mono
theorem bS.calls (k : Nat) (A0 : Option Addr) (c0 : Nat) (l0 : List Int) (A1 : Option Addr) (c1 : Nat) (l1 : List Int) (r : Int) (w : World) (hr0 : Kd.C (Kd.int .i64) w A0 l0.length l0) (hc0 : l0.length ≤ c0) (hr1 : Kd.C (Kd.int .i64) w A1 l1.length l1) (hc1 : l1.length ≤ c1) (h : bS.f k l0 l1 = some r) :
  Calls Tryz.prog 37 #[.slice A0 l0.length c0, .slice A1 l1.length c1] w fun e w' => e = .returned (.int .i64 r) ∧ cr w w' := by
 have B0 := c_ hr0
 have L0 := c_ hc0
 clear hr0 hc0
 have E0 := c_ hr1
 have Q0 := c_ hc1
 clear hr1 hc1
 delta bS.f at h
 have H := h
 clear h
 have M0 := c_ H
 clear H
 go_enter Tryz.func37, Tryz.ntmps37
 go_upto_region 1 with (fail)
 repeat (go_quiet (fail); go_upto_region 1 with (fail))
 go_cut [15] (fun U0 wc => ∃ (kq : Nat) (v0 : Bool), U0 = .bool v0 ∧ aa (bS.j0 kq l0 l1 v0 = some r) ∧ aa (kq ≤ k) ∧ cr w wc)
 case first =>
  have H := M0.o
  clear M0
  obtain ⟨N0, A4, H⟩ := bN_ H
  by_cases c5 : N0 = true
  ·subst c5
   replace H := iT_ H
   obtain ⟨O0, A6, H⟩ := bN_ H
   have H' := c_ H
   clear H
   go_wp2_with (first | (go_at_call 57; refine mp_ (ak.calls _ _ _ _ _ _ (cR_ B0.o) L0.o A4.o) fun nd => ?_; (try exact dD_)) | (go_at_call 57; refine mp_ (ak.calls _ _ _ _ _ _ (cR_ E0.o) Q0.o A6.o) fun nd => ?_; (try exact dD_)))
   repeat (go_quiet (first | (go_at_call 57; refine mp_ (ak.calls _ _ _ _ _ _ (cR_ B0.o) L0.o A4.o) fun nd => ?_; (try exact dD_)) | (go_at_call 57; refine mp_ (ak.calls _ _ _ _ _ _ (cR_ E0.o) Q0.o A6.o) fun nd => ?_; (try exact dD_))); try go_wp2)
   go_meet
   case rel => exact ⟨_, (!O0), f0_, H', ⟨by first | omega | exact Ca _⟩, d0_⟩
  ·replace c5 := Ea c5
   subst c5
   replace H := iF_ H
   have H' := c_ H
   clear H
   go_wp2_with (first | (go_at_call 57; refine mp_ (ak.calls _ _ _ _ _ _ (cR_ B0.o) L0.o A4.o) fun nd => ?_; (try exact dD_)))
   repeat (go_quiet (first | (go_at_call 57; refine mp_ (ak.calls _ _ _ _ _ _ (cR_ B0.o) L0.o A4.o) fun nd => ?_; (try exact dD_))); try go_wp2)
   go_meet
   case rel => exact ⟨_, (true), f0_, H', ⟨by first | omega | exact Ca _⟩, d0_⟩
 clear M0
 obtain ⟨kq, v0, rfl, HA, C0, ⟨mc2, rfl⟩⟩ := hcut
 rcases kq with _ | R0
 ·exact absurd HA.o (by simp [bS.j0])
 have H := HA.o
 clear HA
 simp only [bS.j0] at H
 by_cases c7 : v0 = true
 ·subst c7
  replace H := iT_ H
  obtain rfl := Ba H
  go_wp2
  repeat (go_quiet (fail); try go_wp2)
  go_ret
  exact ⟨f0_, d0_⟩
 ·replace c7 := Ea c7
  subst c7
  replace H := iF_ H
  have H' := c_ H
  clear H
  go_wp2
  repeat (go_quiet (fail); try go_wp2)
  go_loopg [5, 6] R0 (fun kq v5 v6 w' => ∃ (p0 : Int) (a0 : Int), v5 = .int .i64 p0 ∧ v6 = .int .i64 a0 ∧ aa (bS.l0 kq l0 l1 p0 a0 = some r) ∧ aa (kq ≤ R0) ∧ cr w w')
  case atStart => exact ⟨(0), (0), f0_, f0_, H', ⟨Ca _⟩, d0_⟩
  clear H'
  obtain ⟨p0, a0, rfl, rfl, HA, D0, ⟨m2, rfl⟩⟩ := hrel
  rcases gk with _ | k2
  ·exact absurd HA.o (by simp [bS.l0])
  have H := HA.o
  clear HA
  simp only [bS.l0] at H
  by_cases c8 : a0 < 256
  rotate_left
  ·rw [Ga c8] at H
   have P0 := za c8
   clear c8
   obtain rfl := Ba H
   go_wp2
   repeat (go_quiet (fail); try go_wp2)
   go_ret
   exact ⟨f0_, d0_⟩
  rw [Fa c8] at H
  have P0 := ya c8
  clear c8
  obtain ⟨V0, H⟩ := iD_ H
  obtain ⟨S0, H⟩ := iD_ H
  obtain ⟨T0, H⟩ := iD_ H
  by_cases F0 : (wrap64 (3329 - (Int.tmod (wrap64 ((wrap64 ((rd l0 a0) - (rd l1 a0))) + 3329)) 3329))) < (Int.tmod (wrap64 ((wrap64 ((rd l0 a0) - (rd l1 a0))) + 3329)) 3329)
  ·rw [Fa F0] at H
   have I0 := ya F0
   clear F0
   by_cases G0 : (wrap64 (3329 - (Int.tmod (wrap64 ((wrap64 ((rd l0 a0) - (rd l1 a0))) + 3329)) 3329))) > p0
   ·rw [Fa G0] at H
    have J0 := ya G0
    clear G0
    have H' := c_ H
    clear H
    have b0 : 0 ≤ (a0 : Int) := oD_
    have d0 : a0 < (l0.length : Int) := oD_
    obtain ⟨x0, q0, k0⟩ := uZ B0.o a0 b0 d0
    cases q0
    replace b0 := Aa b0
    replace d0 := Aa d0
    have e0 : 0 ≤ (a0 : Int) := oD_
    have f0 : a0 < (l1.length : Int) := oD_
    obtain ⟨y0, r0, n0⟩ := uZ E0.o a0 e0 f0
    cases r0
    replace e0 := Aa e0
    replace f0 := Aa f0
    go_wp2
    repeat (go_quiet (fail); try go_wp2)
    go_roundg k2
    case measure => have := C0.o; have := D0.o; omega
    case rel => exact ⟨(wrap64 (3329 - (Int.tmod (wrap64 ((wrap64 ((rd l0 a0) - (rd l1 a0))) + 3329)) 3329))), (wrap64 (a0 + 1)), f0_, f0_, H', ⟨by have := C0.o; have := D0.o; omega⟩, d0_⟩
   rw [Ga G0] at H
   have J0 := za G0
   clear G0
   have H' := c_ H
   clear H
   have b0 : 0 ≤ (a0 : Int) := oD_
   have d0 : a0 < (l0.length : Int) := oD_
   obtain ⟨x0, q0, k0⟩ := uZ B0.o a0 b0 d0
   cases q0
   replace b0 := Aa b0
   replace d0 := Aa d0
   have e0 : 0 ≤ (a0 : Int) := oD_
   have f0 : a0 < (l1.length : Int) := oD_
   obtain ⟨y0, r0, n0⟩ := uZ E0.o a0 e0 f0
   cases r0
   replace e0 := Aa e0
   replace f0 := Aa f0
   go_wp2
   repeat (go_quiet (fail); try go_wp2)
   go_roundg k2
   case measure => have := C0.o; have := D0.o; omega
   case rel => exact ⟨(p0), (wrap64 (a0 + 1)), f0_, f0_, H', ⟨by have := C0.o; have := D0.o; omega⟩, d0_⟩
  rw [Ga F0] at H
  have I0 := za F0
  clear F0
  by_cases H0 : (Int.tmod (wrap64 ((wrap64 ((rd l0 a0) - (rd l1 a0))) + 3329)) 3329) > p0
  ·rw [Fa H0] at H
   have K0 := ya H0
   clear H0
   have H' := c_ H
   clear H
   have b0 : 0 ≤ (a0 : Int) := oD_
   have d0 : a0 < (l0.length : Int) := oD_
   obtain ⟨x0, q0, k0⟩ := uZ B0.o a0 b0 d0
   cases q0
   replace b0 := Aa b0
   replace d0 := Aa d0
   have e0 : 0 ≤ (a0 : Int) := oD_
   have f0 : a0 < (l1.length : Int) := oD_
   obtain ⟨y0, r0, n0⟩ := uZ E0.o a0 e0 f0
   cases r0
   replace e0 := Aa e0
   replace f0 := Aa f0
   go_wp2
   repeat (go_quiet (fail); try go_wp2)
   go_roundg k2
   case measure => have := C0.o; have := D0.o; omega
   case rel => exact ⟨(Int.tmod (wrap64 ((wrap64 ((rd l0 a0) - (rd l1 a0))) + 3329)) 3329), (wrap64 (a0 + 1)), f0_, f0_, H', ⟨by have := C0.o; have := D0.o; omega⟩, d0_⟩
  rw [Ga H0] at H
  have K0 := za H0
  clear H0
  have H' := c_ H
  clear H
  have b0 : 0 ≤ (a0 : Int) := oD_
  have d0 : a0 < (l0.length : Int) := oD_
  obtain ⟨x0, q0, k0⟩ := uZ B0.o a0 b0 d0
  cases q0
  replace b0 := Aa b0
  replace d0 := Aa d0
  have e0 : 0 ≤ (a0 : Int) := oD_
  have f0 : a0 < (l1.length : Int) := oD_
  obtain ⟨y0, r0, n0⟩ := uZ E0.o a0 e0 f0
  cases r0
  replace e0 := Aa e0
  replace f0 := Aa f0
  go_wp2
  repeat (go_quiet (fail); try go_wp2)
  go_roundg k2
  case measure => have := C0.o; have := D0.o; omega
  case rel => exact ⟨(p0), (wrap64 (a0 + 1)), f0_, f0_, H', ⟨by have := C0.o; have := D0.o; omega⟩, d0_⟩
mutual
def aN.l0 : Nat → ByteArray → List Int → Int → Option (List Int)
 | 0, _, _, _ => none
 | k + 1, x0, x3, x4 => if x4 < 256 then (if 0 ≤ (wrap64 (Int.tdiv x4 8)) then (if (wrap64 (Int.tdiv x4 8)) < (x0.size : Int) then (aN.l1 k x0 x3 x4 (wrap64 (bt x0 (wrap64 (Int.tdiv x4 8)))) 0) else (none)) else (none)) else (some x3)
def aN.l1 : Nat → ByteArray → List Int → Int → Int → Int → Option (List Int)
 | 0, _, _, _, _, _ => none
 | k + 1, x0, x3, x4, x5, x6 => if x6 < (Int.tmod x4 8) then (aN.l1 k x0 x3 x4 (wrap64 (Int.tdiv x5 2)) (wrap64 (x6 + 1))) else ((br.f k (Int.tmod x5 2) 1).bind fun t963 => (if x3.length < 17592186044416 then (aN.l0 k x0 (x3 ++ [t963]) (wrap64 (x4 + 1))) else (none)))
end
def aN.f (k : Nat) (a0 : ByteArray) : Option (List Int) := aN.l0 k a0 (([] : List Int)) 0
theorem aN.mono_l : ∀ k, (∀ y0 y1 y2, LeO (aN.l0 k y0 y1 y2) (aN.l0 (k + 1) y0 y1 y2)) ∧ (∀ y0 y1 y2 y3 y4, LeO (aN.l1 k y0 y1 y2 y3 y4) (aN.l1 (k + 1) y0 y1 y2 y3 y4))
 | 0 => ⟨fun _ _ _ r h => by simp [aN.l0] at h, fun _ _ _ _ _ r h => by simp [aN.l1] at h⟩
 | k + 1 => by
  obtain ⟨ih0, ih1⟩ := aN.mono_l k
  refine ⟨?_, ?_⟩ <;> (intros; (first | unfold aN.l0 | unfold aN.l1); exact o3_ ih0 ih1 br.mono)
theorem aN.mono : ∀ a0 k, LeO (aN.f k a0) (aN.f (k + 1) a0) := by
 intro a0 k
 obtain ⟨ih0, ih1⟩ := aN.mono_l k
 unfold aN.f
 exact o3_ ih0 ih1 br.mono
theorem aN.calls (k : Nat) (a0 : ByteArray) (r : List Int) (w : World) (h : aN.f k a0 = some r) :
  Calls Tryz.prog 38 #[.string a0] w fun e w' => ∃ J0 : Value, e = .returned (J0) ∧ Kd.R (Kd.int .i64) 3 w' w.heap.size (fun _ => True) J0 r ∧ Below w.heap.size w w' := by
 have HB := c_ (Da w.heap.size w)
 delta aN.f at h
 have H := h
 clear h
 obtain ⟨E0, d0⟩ : ∃ y_ : List Int, y_ = (([] : List Int)) := ⟨_, rfl⟩
 first | replace H := yb_ d0 H | rw [← d0] at H
 have q0 := c_ d0
 clear d0
 have H' := c_ H
 clear H
 go_enter Tryz.func38, Tryz.ntmps38
 go_wp2_with (first | (refine lj_ 7 .i64 3 q0 fun M0 w2 r0 HB => ?_))
 go_loopg [3, 4] k (fun kq v3 v4 w' => ∃ (f0 : List Int) (b0 : Int), v4 = .int .i64 b0 ∧ aa (aN.l0 kq a0 f0 b0 = some r) ∧ aa (kq ≤ k) ∧ aa (Kd.R (Kd.int .i64) 3 w' w.heap.size (fun _ => True) v3 f0) ∧ aa (Below w.heap.size w w'))
 case atStart => exact ⟨(E0), (0), f0_, H', ⟨Ca _⟩, ⟨rR_ r0.o⟩, ⟨hB_⟩⟩
 clear H'
 obtain ⟨f0, b0, rfl, HA, C0, j0, HB⟩ := hrel
 rcases gk with _ | k1
 ·exact absurd HA.o (by simp [aN.l0])
 have H := HA.o
 clear HA
 simp only [aN.l0] at H
 by_cases c4 : b0 < 256
 rotate_left
 ·rw [Ga c4] at H
  have F0 := za c4
  clear c4
  obtain rfl := Ba H
  go_wp2
  go_ret
  exact ⟨_, f1_, rR_ j0.o, hB_⟩
 rw [Fa c4] at H
 have F0 := ya c4
 clear c4
 obtain ⟨v0, n0⟩ : ∃ j_ : Int, (wrap64 (Int.tdiv b0 8)) = j_ := ⟨_, rfl⟩
 first | rw [n0] at H | simp only [n0] at H
 have K0 : (IntKind.i64.wrap (Int.tdiv b0 8)) = v0 := (bq _).trans n0
 obtain ⟨N0, H⟩ := iD_ H
 obtain ⟨O0, H⟩ := iD_ H
 have H' := c_ H
 clear H
 have p8 := Aa (oD_ : 0 ≤ ((v0) : Int))
 have q8 := Aa (oD_ : (v0) < (a0.size : Int))
 have R0 := cQ a0 (v0)
 go_wp2
 go_loopg [5, 6] k1 (fun kq v5 v6 w' => ∃ (p0 : Int) (k0 : Int), v5 = .int .i64 p0 ∧ v6 = .int .i64 k0 ∧ aa (aN.l1 kq a0 f0 b0 p0 k0 = some r) ∧ aa (kq ≤ k1) ∧ aa (Kd.R (Kd.int .i64) 3 w' w.heap.size (fun _ => True) u3 f0) ∧ aa (Below w.heap.size w w'))
 case atStart => exact ⟨(wrap64 (bt a0 (v0))), (0), (by first | rfl | (simp; done) | (simp only [← n0] <;> (first | rfl | simp)) | (simp [*]; done)), f0_, H', ⟨Ca _⟩, ⟨rR_ j0.o⟩, ⟨hB_⟩⟩
 clear H'
 obtain ⟨p0, k0, rfl, rfl, HA, D0, j0, HB⟩ := hrel
 rcases gk with _ | k2
 ·exact absurd HA.o (by simp [aN.l1])
 have H := HA.o
 clear HA
 simp only [aN.l1] at H
 by_cases c9 : k0 < (Int.tmod b0 8)
 ·rw [Fa c9] at H
  have G0 := ya c9
  clear c9
  have H' := c_ H
  clear H
  go_wp2
  go_roundg k2
  case measure => have := C0.o; have := D0.o; omega
  case rel => exact ⟨(wrap64 (Int.tdiv p0 2)), (wrap64 (k0 + 1)), f0_, f0_, H', ⟨by have := C0.o; have := D0.o; omega⟩, ⟨rR_ j0.o⟩, ⟨hB_⟩⟩
 rw [Ga c9] at H
 have G0 := za c9
 clear c9
 obtain ⟨H0, P0, H⟩ := bN_ H
 obtain ⟨L0, H⟩ := iN_ H
 have x0 := c_ L0
 clear L0
 obtain ⟨I0, e0⟩ : ∃ y_ : List Int, y_ = (f0 ++ [H0]) := ⟨_, rfl⟩
 first | replace H := yb_ e0 H | rw [← e0] at H
 have y0 := c_ e0
 clear e0
 have H' := c_ H
 clear H
 go_wp2_with (first | (refine gp_ (k_ 28 Tryz.func74) (br.calls _ _ _ _ _ P0.o) fun nd => ?_) | (refine ga_ 25 29 ?_; at_builtin; refine ap_ j0 y0 x0 Tryz.underlying45 df fun Q0 S0 B0 HB hg hat => ?_))
 go_roundg k2
 case measure => have := C0.o; have := D0.o; omega
 case rel => exact ⟨(I0), (wrap64 (b0 + 1)), f0_, H', ⟨by have := C0.o; have := D0.o; omega⟩, ⟨rR_ B0.o⟩, ⟨hB_⟩⟩
def bQ.j0 : Nat → ByteArray → List Int → Bool → Option (Int)
 | 0, _, _, _ => none
 | k + 1, x1, x7, x21 => if x21 = true then (some (-1)) else ((aN.f k x1).bind fun t971 => ((bS.f k x7 t971).bind fun t974 => (some t974)))
def bQ.f (k : Nat) (a0 : ByteArray) (a1 : ByteArray) (a2 : ByteArray) : Option (Int) := (aV.f k a0 a2).bind fun bt967 => (if bt967.2 = true then (bQ.j0 k a1 bt967.1 ((a1.size : Int) != 32)) else (bQ.j0 k a1 bt967.1 true))
theorem bQ.mono_l : ∀ k, (∀ y0 y1 y2, LeO (bQ.j0 k y0 y1 y2) (bQ.j0 (k + 1) y0 y1 y2))
 | 0 => fun _ _ _ r h => by simp [bQ.j0] at h
 | k + 1 => by
  have ih0 := bQ.mono_l k
  intros; unfold bQ.j0; exact o4_ ih0 bS.mono aN.mono aV.mono
theorem bQ.mono : ∀ a0 a1 a2 k, LeO (bQ.f k a0 a1 a2) (bQ.f (k + 1) a0 a1 a2) := by
 intro a0 a1 a2 k
 have ih0 := bQ.mono_l k
 unfold bQ.f
 exact o4_ ih0 bS.mono aN.mono aV.mono
theorem bQ.calls (k : Nat) (a0 : ByteArray) (a1 : ByteArray) (a2 : ByteArray) (r : Int) (w : World) (h : bQ.f k a0 a1 a2 = some r) :
  Calls Tryz.prog 11 #[.string a0, .string a1, .string a2] w fun e w' => e = .returned (.int .i64 r) ∧ Below w.heap.size w w' := by
 have HB := c_ (Da w.heap.size w)
 delta bQ.f at h
 have H := h
 clear h
 obtain ⟨⟨k0, n0⟩, A4, H⟩ := bN_ H
 have p0 := c_ H
 clear H
 go_enter Tryz.func11, Tryz.ntmps11
 go_upto_region 2 with (first | (refine gR_ (k_ 12 Tryz.func36) (aV.calls _ _ _ _ _ _ A4.o) fun q0 w6 ho_ hb => ?_; obtain ⟨f0, HB⟩ := n_ (lR_ ho_) <| sB_))
 (try simp only [Act.put, List.setIfInBounds_toArray, List.set_cons_zero, List.set_cons_succ])
 go_cut [21] (fun x0 wc => ∃ (kq : Nat) (b0 : Bool), x0 = .bool b0 ∧ aa (bQ.j0 kq a1 k0 b0 = some r) ∧ aa (kq ≤ k) ∧ aa (Kd.R (Kd.int .i64) 3 wc w.heap.size (fun _ => True) q0 k0) ∧ aa (Below w.heap.size w wc))
 case first =>
  have H := p0.o
  clear p0
  by_cases c7 : n0 = true
  ·subst c7
   replace H := iT_ H
   have H' := c_ H
   clear H
   go_wp2
   go_meet
   case rel => exact ⟨_, (((a1.size : Int) != 32)), f0_, H', ⟨by first | omega | exact Ca _⟩, ⟨rR_ f0.o⟩, ⟨hB_⟩⟩
  ·replace c7 := Ea c7
   subst c7
   replace H := iF_ H
   have H' := c_ H
   clear H
   go_wp2
   go_meet
   case rel => exact ⟨_, (true), f0_, H', ⟨by first | omega | exact Ca _⟩, ⟨rR_ f0.o⟩, ⟨hB_⟩⟩
 clear p0
 obtain ⟨kq, b0, rfl, HA, I0, d0, HB⟩ := hcut
 rcases kq with _ | J0
 ·exact absurd HA.o (by simp [bQ.j0])
 have H := HA.o
 clear HA
 simp only [bQ.j0] at H
 by_cases c8 : b0 = true
 ·subst c8
  replace H := iT_ H
  obtain rfl := Ba H
  go_wp2
  go_ret
  exact ⟨f1_, hB_⟩
 ·replace c8 := Ea c8
  subst c8
  replace H := iF_ H
  obtain ⟨y0, A9, H⟩ := bN_ H
  obtain ⟨B0, C0, H⟩ := bN_ H
  obtain rfl := Ba H
  go_wp2_with (first | (refine gR_ (k_ 24 Tryz.func38) (aN.calls _ _ _ _ A9.o) fun D0 K0 ho_ hb => ?_; obtain ⟨d0, e0, HB⟩ := n_ (di d0) <| n_ (lR_ (dm ho_ d0)) <| sB_; obtain ⟨E0, F0, r0⟩ := uY d0.o; subst r0; obtain ⟨G0, H0, v0⟩ := uY e0.o; subst v0) | (refine gp_ (k_ 25 Tryz.func37) (bS.calls _ _ _ _ _ _ _ _ _ (cR_ (uX d0.o).2.2) ((uX d0.o).2.1) (cR_ (uX e0.o).2.2) ((uX e0.o).2.1) C0.o) fun nd => ?_))
  go_ret
  exact ⟨f1_, hB_⟩
def ck.f (k : Nat) (a0 : ByteArray) (a1 : ByteArray) : Option (ByteArray × Bool) := (aW.f k a0 a1).bind fun bt975 => (if bt975.2 = true then ((bj.f k bt975.1 1).bind fun t979 => ((aq.f k t979 1).bind fun t982 => (some (t982, true)))) else (some ((⟨#[]⟩ : ByteArray), false)))
theorem ck.mono : ∀ a0 a1 k, LeO (ck.f k a0 a1) (ck.f (k + 1) a0 a1) := by
 intro a0 a1 k
 unfold ck.f
 exact o3_ aW.mono aq.mono bj.mono
theorem ck.calls (k : Nat) (a0 : ByteArray) (a1 : ByteArray) (r1 : ByteArray) (r2 : Bool) (w : World) (h : ck.f k a0 a1 = some (r1, r2)) :
  Calls Tryz.prog 12 #[.string a0, .string a1] w fun e w' => e = .returned (.tuple #[.string r1, .bool r2]) ∧ Below w.heap.size w w' := by
 have HB := c_ (Da w.heap.size w)
 delta ck.f at h
 have H := h
 clear h
 obtain ⟨⟨k0, e0⟩, A3, H⟩ := bN_ H
 by_cases c4 : e0 = true
 ·subst c4
  replace H := iT_ H
  obtain ⟨n0, A5, H⟩ := bN_ H
  obtain ⟨p0, A6, H⟩ := bN_ H
  simp only [Option.some.injEq, Prod.mk.injEq] at H
  obtain ⟨rfl, rfl⟩ := H
  go_enter Tryz.func12, Tryz.ntmps12
  go_wp2_with (first | (refine gR_ (k_ 11 Tryz.func33) (aW.calls _ _ _ _ _ _ A3.o) fun f0 w7 ho_ hb => ?_; obtain ⟨b0, HB⟩ := n_ (lR_ ho_) <| sB_; obtain ⟨y0, B0, q0⟩ := uY b0.o; subst q0) | (refine gR_ (k_ 17 Tryz.func40) (bj.calls _ _ _ _ _ _ _ (cR_ (uX b0.o).2.2) ((uX b0.o).2.1) A5.o) fun r0 w9 ho_ hb => ?_; obtain ⟨b0, d0, HB⟩ := n_ (di b0) <| n_ (lR_ (dm ho_ b0)) <| sB_; obtain ⟨v0, x0, j0⟩ := uY d0.o; subst j0) | (refine gc_ (k_ 18 Tryz.func39) (aq.calls _ _ _ _ _ _ _ (cR_ (uX d0.o).2.2) ((uX d0.o).2.1) A6.o) fun C0 hb => ?_; obtain ⟨b0, d0, HB⟩ := n_ (fR_ b0) <| n_ (fR_ d0) <| sB_))
  go_ret2
  exact ⟨f1_, hB_⟩
 ·replace c4 := Ea c4
  subst c4
  replace H := iF_ H
  simp only [Option.some.injEq, Prod.mk.injEq] at H
  obtain ⟨rfl, rfl⟩ := H
  go_enter Tryz.func12, Tryz.ntmps12
  go_wp2_with (first | (refine gR_ (k_ 11 Tryz.func33) (aW.calls _ _ _ _ _ _ A3.o) fun f0 D0 ho_ hb => ?_; obtain ⟨b0, HB⟩ := n_ (lR_ ho_) <| sB_))
  go_ret2
  exact ⟨f1_, hB_⟩
end Go.Proofs.YtmdlpmddljbkeaaGreatDoor.P
