-- printed texts of this session, regrouped
import Derived.WalkSpells
import Derived.Test.YtmiackbomcjboaaGreatDoorPx6
namespace Go.Proofs.YtmiackbomcjboaaGreatDoor.P
open Go.RowKit YtmiackbomcjboaaGreatDoorW.PrintWords YtmiackbomcjboaaGreatDoorW.PrintLast YtmiackbomcjboaaGreatDoorW.PrintMore
open Kd
attribute [local go_sem] d9 eg eV eU dK dL d8 eh
set_option linter.unusedVariables false
set_option linter.unusedSimpArgs false
set_option maxHeartbeats 8000000
set_option maxRecDepth 100000
mutual
def aK.j0 : Nat → List Int → List Int → List Int → Bool → Option (List Int)
 | 0, _, _, _, _ => none
 | k + 1, x0, x1, x5, x15 => if x15 = true then (some x5) else (aK.l0 k x0 x1 x5 0)
def aK.l0 : Nat → List Int → List Int → List Int → Int → Option (List Int)
 | 0, _, _, _, _ => none
 | k + 1, x0, x1, x5, x6 => if x6 < 256 then (if 0 ≤ x6 then (if x6 < (x0.length : Int) then (if x6 < (x1.length : Int) then (if x5.length < 17592186044416 then (aK.l0 k x0 x1 (x5 ++ [Int.tmod (wrap64 ((wrap64 ((rd x0 x6) - (rd x1 x6))) + 3329)) 3329]) (wrap64 (x6 + 1))) else (none)) else (none)) else (none)) else (none)) else (some x5)
end
def aK.f (k : Nat) (l0 : List Int) (l1 : List Int) : Option (List Int) := (some (([] : List Int) : List Int)).bind fun y879 => ((au.f k l0).bind fun t882 => (if t882 = true then ((au.f k l1).bind fun t883 => (aK.j0 k l0 l1 y879 (!t883))) else (aK.j0 k l0 l1 y879 true)))
theorem aK.mono_l : ∀ k, (∀ y0 y1 y2 y3, LeO (aK.j0 k y0 y1 y2 y3) (aK.j0 (k + 1) y0 y1 y2 y3)) ∧ (∀ y0 y1 y2 y3, LeO (aK.l0 k y0 y1 y2 y3) (aK.l0 (k + 1) y0 y1 y2 y3))
 | 0 => ⟨fun _ _ _ _ r h => by simp [aK.j0] at h, fun _ _ _ _ r h => by simp [aK.l0] at h⟩
 | k + 1 => by
  obtain ⟨ih0, ih1⟩ := aK.mono_l k
  refine ⟨?_, ?_⟩ <;> (intros; (first | unfold aK.j0 | unfold aK.l0); exact o3_ ih0 ih1 au.mono)
theorem aK.mono : ∀ a0 a1 k, LeO (aK.f k a0 a1) (aK.f (k + 1) a0 a1) := by
 intro a0 a1 k
 obtain ⟨ih0, ih1⟩ := aK.mono_l k
 unfold aK.f
 exact o3_ ih0 ih1 au.mono
def aK.T7 : Bool × List (List Nat × List Nat) := (true, [([], []), ([], []), ([], []), ([1, 2], [1, 2]), ([3], [3]), ([], []), ([], []), ([5, 6], [5, 6]), ([7], [7]), ([4, 8], [4, 8]), ([9], [9]), ([10], [10]), ([11], [11]), ([0, 12], [0, 12]), ([13, 13, 0, 1, 2, 3, 4, 5, 6, 7, 8, 9, 10, 11, 12, 13], [0, 13])])
def aK.B7 : List Nat := [0, 0, 0, 6, 14, 0, 0, 96, 224, 510, 1022, 2046, 4094, 8191, 16383]
theorem aK.tab7 : eH .any (fJ Tryz.f95 7) = aK.T7 := by kernel_rfl
theorem aK.bits7 : dw aK.T7.2 aK.B7 = true := by kernel_rfl
theorem aK.calls (k : Nat) (A0 : Option Addr) (c0 : Nat) (l0 : List Int) (A1 : Option Addr) (c1 : Nat) (l1 : List Int) (r : List Int) (w : World) (hr0 : Kd.C (Kd.int .i64) w A0 l0.length l0) (hc0 : l0.length ≤ c0) (hr1 : Kd.C (Kd.int .i64) w A1 l1.length l1) (hc1 : l1.length ≤ c1) (h : aK.f k l0 l1 = some r) :
  Calls Tryz.prog 95 #[.slice A0 l0.length c0, .slice A1 l1.length c1] w fun e w' => ∃ T0 : Value, e = .returned (T0) ∧ Kd.R (Kd.int .i64) 3 w' w.heap.size (fun _ => True) T0 r ∧ Below w.heap.size w w' := by
 have L0 := c_ hr0
 have U0 := c_ hc0
 clear hr0 hc0
 have V0 := c_ hr1
 have f1 := c_ hc1
 clear hr1 hc1
 have HB := c_ (Da w.heap.size w)
 delta aK.f at h
 have H := h
 clear h
 obtain ⟨v0, n0⟩ : ∃ y_ : List Int, y_ = (([] : List Int)) := ⟨_, rfl⟩
 first | replace H := yb_ n0 H | rw [← n0] at H
 have E0 := c_ n0
 clear n0
 have M0 := c_ H
 clear H
 go_enter Tryz.func95, Tryz.ntmps95
 go_upto_region 2 with (first | (refine lj_ 7 .i64 3 E0 fun N0 w4 t0 HB => ?_))
 (try simp only [Act.put, List.setIfInBounds_toArray, List.set_cons_zero, List.set_cons_succ])
 go_cut [15] (fun g1 wc => ∃ (kq : Nat) (p0 : Bool), g1 = .bool p0 ∧ aa (aK.j0 kq l0 l1 v0 p0 = some r) ∧ aa (kq ≤ k) ∧ aa (Kd.R (Kd.int .i64) 3 wc w.heap.size (fun _ => True) N0 v0) ∧ aa (Below w.heap.size w wc))
 case first =>
  have H := M0.o
  clear M0
  obtain ⟨O0, A6, H⟩ := bN_ H
  by_cases c7 : O0 = true
  ·subst c7
   replace H := iT_ H
   obtain ⟨P0, A8, H⟩ := bN_ H
   have H' := c_ H
   clear H
   go_wp2_with (first | (refine gp_ (k_ 9 Tryz.func47) (au.calls _ _ _ _ _ _ (cR_ (vb L0.o HB.o)) U0.o A6.o) fun nd => ?_) | (go_at_call 47; refine mp_ (au.calls _ _ _ _ _ _ (cR_ (vb V0.o (hB_))) f1.o A8.o) fun nd => ?_))
   go_meet
   case rel => exact ⟨_, (!P0), f0_, H', ⟨by first | omega | exact Ca _⟩, ⟨rR_ t0.o⟩, ⟨hB_⟩⟩
  ·replace c7 := Ea c7
   subst c7
   replace H := iF_ H
   have H' := c_ H
   clear H
   go_wp2_with (first | (refine gp_ (k_ 9 Tryz.func47) (au.calls _ _ _ _ _ _ (cR_ (vb L0.o HB.o)) U0.o A6.o) fun nd => ?_))
   go_meet
   case rel => exact ⟨_, (true), f0_, H', ⟨by first | omega | exact Ca _⟩, ⟨rR_ t0.o⟩, ⟨hB_⟩⟩
 clear M0
 obtain ⟨kq, p0, rfl, HA, W0, k0, HB⟩ := hcut
 rcases kq with _ | X0
 ·exact absurd HA.o (by simp [aK.j0])
 have H := HA.o
 clear HA
 simp only [aK.j0] at H
 by_cases c9 : p0 = true
 ·subst c9
  replace H := iT_ H
  obtain rfl := Ba H
  go_wp2
  go_ret
  exact ⟨_, f1_, rR_ k0.o, hB_⟩
 ·replace c9 := Ea c9
  subst c9
  replace H := iF_ H
  have H' := c_ H
  clear H
  go_wp2
  go_loopg [5, 6] X0 (fun kq v5 v6 w' => ∃ (r0 : List Int) (a0 : Int), v6 = .int .i64 a0 ∧ aa (aK.l0 kq l0 l1 r0 a0 = some r) ∧ aa (kq ≤ X0) ∧ aa (Kd.R (Kd.int .i64) 3 w' w.heap.size (fun _ => True) v5 r0) ∧ aa (Below w.heap.size w w'))
  case atStart => exact ⟨(v0), (0), f0_, H', ⟨Ca _⟩, ⟨rR_ k0.o⟩, ⟨hB_⟩⟩
  clear H'
  obtain ⟨r0, a0, rfl, HA, Y0, k0, HB⟩ := hrel
  rcases gk with _ | k2
  ·exact absurd HA.o (by simp [aK.l0])
  have H := HA.o
  clear HA
  simp only [aK.l0] at H
  by_cases D0 : a0 < 256
  rotate_left
  ·rw [Ga D0] at H
   have F0 := za D0
   clear D0
   obtain rfl := Ba H
   go_wp2
   go_ret
   exact ⟨_, f1_, rR_ k0.o, hB_⟩
  rw [Fa D0] at H
  have F0 := ya D0
  clear D0
  obtain ⟨Z0, H⟩ := iD_ H
  obtain ⟨b1, H⟩ := iD_ H
  obtain ⟨d1, H⟩ := iD_ H
  obtain ⟨e1, H⟩ := iN_ H
  have G0 := c_ e1
  clear e1
  obtain ⟨Q0, q0⟩ : ∃ y_ : List Int, y_ = (r0 ++ [Int.tmod (wrap64 ((wrap64 ((rd l0 a0) - (rd l1 a0))) + 3329)) 3329]) := ⟨_, rfl⟩
  first | replace H := yb_ q0 H | rw [← q0] at H
  have H0 := c_ q0
  clear q0
  have H' := c_ H
  clear H
  try go_wp2
  obtain ⟨k0, HB⟩ := b_ (vh k0.o) <| c_ (bE HB.o)
  have x0 : 0 ≤ (a0 : Int) := oD_
  have y0 : a0 < (l0.length : Int) := oD_
  obtain ⟨I0, R0, b0⟩ := uX L0.o a0 x0 y0
  have d0 := b0
  cases R0
  replace b0 := hc_ b0
  replace x0 := Aa x0
  replace y0 := Aa y0
  have B0 : 0 ≤ (a0 : Int) := oD_
  have C0 : a0 < (l1.length : Int) := oD_
  obtain ⟨J0, S0, e0⟩ := uX V0.o a0 B0 C0
  have f0 := e0
  cases S0
  replace e0 := hc_ e0
  replace B0 := Aa B0
  replace C0 := Aa C0
  refine eI (n := 15) (S := fun w' => w'.cell? (I0.add (a0).toNat) = some (.int .i64 (rd l0 a0)) ∧ w'.cell? (J0.add (a0).toNat) = some (.int .i64 (rd l1 a0))) (ds := []) (bb_ 15 0) (by kernel_rfl) rfl rfl ⟨(hc_ d0), (hc_ f0)⟩ (fun hHeld => ?_); refine cW aK.tab7 aK.bits7 (fun HT_ HW_ => ?_)
  generalize wr.drew = j1 at k0 HB b0 e0 hHeld ⊢
  refine pT_ 0 21 15 1 ?_
  refine pT_ 1 22 15 3 ?_
  refine pT_ 2 23 15 7 ?_
  refine pT_ 3 24 15 15 ?_
  refine pT_ 5 26 15 47 ?_
  refine pT_ 6 27 15 111 ?_
  refine pT_ 7 28 15 239 ?_
  refine tS_ 4 25 (bb_ 15 255) (bF HT_.o HW_.o (by kernel_rfl)) hHeld ?_
  refine tS_ 8 29 (bb_ 15 511) (bF HT_.o HW_.o (by kernel_rfl)) hHeld ?_
  refine pT_ 9 30 15 1023 ?_
  refine pT_ 10 31 15 2047 ?_
  refine pT_ 11 32 15 4095 ?_
  refine gh (i := 12) (N := some 33) (bb_ 15 8191) rfl rfl (cO HT_.o (by kernel_rfl)) (by decide) (fun K hK => ?_)
  refine nR (w1 := ?_) (v := ?_) (by rfl) rfl ?_ ?_
  rotate_left 2
  ·go_simp
   constructor
   ·rfl
   ·rfl
  refine hK _ _ ⟨(World.cell?_alloc_lt _ _ _ (World.block_lt_of_cell? _ _ ((hc_ d0)))).trans ((hc_ d0)), (World.cell?_alloc_lt _ _ _ (World.block_lt_of_cell? _ _ ((hc_ f0)))).trans ((hc_ f0))⟩ (fun hHeld => ?_)
  clear hK K
  refine er (a' := ?_) ?_ ?_
  rotate_left
  ·show Act.put _ (some 33) _ = _
   simp only [Act.put, List.setIfInBounds_toArray, List.set_cons_zero, List.set_cons_succ, bB, cG]
   rfl
  refine gh (i := 13) (N := some 34) (bb_ 15 16383) rfl rfl (cO HT_.o (by kernel_rfl)) (by decide) (fun K hK => ?_)
  refine vz (Kd.int .i64) (w0 := w) w.heap.size (by rfl) (.tmp 21) (.tmp 33) 33 3 (.int .i64 0) 8 rfl Tryz.underlying33 di rfl (by decide) (by omega) u5 r0 (Int.tmod (wrap64 ((wrap64 ((rd l0 a0) - (rd l1 a0))) + 3329)) 3329) [.int .i64 (Int.tmod (wrap64 ((wrap64 ((rd l0 a0) - (rd l1 a0))) + 3329)) 3329)] (fun _ => True) (fun _ => False) rfl rfl ?aP (fun _ hk => hk.elim) ?aF ?aO ?aB ?aS ?aL ?_
  (case aP => exact rfl)
  (case aB => exact (hB_))
  (case aF => exact (fun _ _ => trivial))
  (case aO => exact (rR_ k0.o))
  (case aS => exact (av (hB_)))
  (case aL => have := G0.o; omega)
  intro i1 m1 ho hb hg hat
  rw [← H0.o] at ho
  obtain ⟨HB, K0⟩ := b_ (hb) <| c_ (ho)
  clear ho hb hg hat
  refine hK _ _ ⟨(hc_ d0), (hc_ f0)⟩ (fun hHeld => ?_)
  clear hK K
  refine er (a' := ?_) ?_ ?_
  rotate_left
  ·show Act.put _ (some 34) _ = _
   simp only [Act.put, List.setIfInBounds_toArray, List.set_cons_zero, List.set_cons_succ, bB, cG]
   rfl
  refine pT_ 14 5 15 32767 ?_
  refine fK (dN HT_.o (by kernel_rfl)) ?_
  try go_wp2
  go_roundg k2
  case measure => have := W0.o; have := Y0.o; omega
  case rel => exact ⟨(Q0), (wrap64 (a0 + 1)), f0_, H', ⟨by have := W0.o; have := Y0.o; omega⟩, ⟨rR_ K0.o⟩, ⟨hB_⟩⟩
mutual
def al.l0 : Nat → List Int → Int → Int → Option (List Int)
 | 0, _, _, _ => none
 | k + 1, x3, x4, x5 => if x5 ≤ 128 then (al.l1 k x3 x4 x5 0) else (al.l3 k x3 0)
def al.l1 : Nat → List Int → Int → Int → Int → Option (List Int)
 | 0, _, _, _, _ => none
 | k + 1, x3, x4, x5, x6 => if x6 < 256 then ((bi.f k x4).bind fun t899 => ((bv.f k 17 t899).bind fun t900 => (al.l2 k x3 (wrap64 (x4 - 1)) x5 x6 t900 x6))) else (al.l0 k x3 x4 (wrap64 (x5 * 2)))
def al.l2 : Nat → List Int → Int → Int → Int → Int → Int → Option (List Int)
 | 0, _, _, _, _, _, _ => none
 | k + 1, x3, x4, x5, x6, x7, x8 => if x8 < (wrap64 (x6 + x5)) then (if 0 ≤ x8 then (if x8 < (x3.length : Int) then (if 0 ≤ (wrap64 (x8 + x5)) then (if (wrap64 (x8 + x5)) < (x3.length : Int) then ((some (x3.set (x8 : Int).toNat (Int.tmod (wrap64 ((rd x3 x8) + (rd x3 (wrap64 (x8 + x5))))) 3329) : List Int)).bind fun y903 => (al.l2 k (y903.set ((wrap64 (x8 + x5)) : Int).toNat (Int.tmod (wrap64 (x7 * (wrap64 ((wrap64 ((rd y903 (wrap64 (x8 + x5))) - (rd x3 x8))) + 3329)))) 3329)) x4 x5 x6 x7 (wrap64 (x8 + 1)))) else (none)) else (none)) else (none)) else (none)) else (al.l1 k x3 x4 x5 (wrap64 (x6 + (wrap64 (2 * x5)))))
def al.l3 : Nat → List Int → Int → Option (List Int)
 | 0, _, _ => none
 | k + 1, x3, x10 => if x10 < 256 then (if 0 ≤ x10 then (if x10 < (x3.length : Int) then (al.l3 k (x3.set (x10 : Int).toNat (Int.tmod (wrap64 ((rd x3 x10) * 3303)) 3329)) (wrap64 (x10 + 1))) else (none)) else (none)) else (some x3)
end
def al.f (k : Nat) (l0 : List Int) : Option (List Int) := (au.f k l0).bind fun t889 => (if t889 = true then ((some (([] : List Int) : List Int)).bind fun y893 => (if y893.length + l0.length < 17592186044416 then (al.l0 k (y893 ++ l0) 127 2) else (none))) else (some (([] : List Int))))
theorem al.mono_l : ∀ k, (∀ y0 y1 y2, LeO (al.l0 k y0 y1 y2) (al.l0 (k + 1) y0 y1 y2)) ∧ (∀ y0 y1 y2 y3, LeO (al.l1 k y0 y1 y2 y3) (al.l1 (k + 1) y0 y1 y2 y3)) ∧ (∀ y0 y1 y2 y3 y4 y5, LeO (al.l2 k y0 y1 y2 y3 y4 y5) (al.l2 (k + 1) y0 y1 y2 y3 y4 y5)) ∧ (∀ y0 y1, LeO (al.l3 k y0 y1) (al.l3 (k + 1) y0 y1))
 | 0 => ⟨fun _ _ _ r h => by simp [al.l0] at h, fun _ _ _ _ r h => by simp [al.l1] at h, fun _ _ _ _ _ _ r h => by simp [al.l2] at h, fun _ _ r h => by simp [al.l3] at h⟩
 | k + 1 => by
  obtain ⟨ih0, ih1, ih2, ih3⟩ := al.mono_l k
  refine ⟨?_, ?_, ?_, ?_⟩ <;> (intros; (first | unfold al.l0 | unfold al.l1 | unfold al.l2 | unfold al.l3); exact o7_ ih0 ih1 ih2 ih3 au.mono bv.mono bi.mono)
theorem al.mono : ∀ a0 k, LeO (al.f k a0) (al.f (k + 1) a0) := by
 intro a0 k
 obtain ⟨ih0, ih1, ih2, ih3⟩ := al.mono_l k
 unfold al.f
 exact o7_ ih0 ih1 ih2 ih3 au.mono bv.mono bi.mono
theorem al.calls (k : Nat) (A0 : Option Addr) (c0 : Nat) (l0 : List Int) (r : List Int) (w : World) (hr0 : Kd.C (Kd.int .i64) w A0 l0.length l0) (hc0 : l0.length ≤ c0) (h : al.f k l0 = some r) :
  Calls Tryz.prog 96 #[.slice A0 l0.length c0] w fun e w' => ∃ g2 : Value, e = .returned (g2) ∧ Kd.R (Kd.int .i64) 3 w' w.heap.size (fun _ => True) g2 r ∧ Below w.heap.size w w' := by
 have C1 := c_ hr0
 have i2 := c_ hc0
 clear hr0 hc0
 have HB := c_ (Da w.heap.size w)
 delta al.f at h
 have H := h
 clear h
 obtain ⟨D1, A2, H⟩ := bN_ H
 by_cases c3 : D1 = true
 ·subst c3
  replace H := iT_ H
  obtain ⟨Y0, q0⟩ : ∃ y_ : List Int, y_ = (([] : List Int)) := ⟨_, rfl⟩
  first | replace H := yb_ q0 H | rw [← q0] at H
  have Z0 := c_ q0
  clear q0
  obtain ⟨c4, H⟩ := iN_ H
  have E1 := c_ c4
  clear c4
  obtain ⟨F1, r0⟩ : ∃ y_ : List Int, y_ = (Y0 ++ l0) := ⟨_, rfl⟩
  first | replace H := yb_ r0 H | rw [← r0] at H
  have b1 := c_ r0
  clear r0
  have H' := c_ H
  clear H
  go_enter Tryz.func96, Tryz.ntmps96
  go_wp2_with (first | (refine gp_ (k_ 12 Tryz.func47) (au.calls _ _ _ _ _ _ (cR_ C1.o) i2.o A2.o) fun nd => ?_) | (refine lj_ 15 .i64 3 Z0 fun G1 w5 c1 HB => ?_) | ((refine cr (b := .append) (xs := #[.tmp 15, .tmp 16]) rfl ?_); at_builtin; refine vt (Kd.int .i64) (w0 := w) w.heap.size rfl (.tmp 15) (.tmp 16) 33 3 (.int .i64 0) 8 rfl Tryz.underlying33 di rfl (by decide) (by omega) G1 Y0 l0 _ _ _ (fun _ => True) (fun _ => False) rfl rfl ?aO ?aR (fun _ _ h => h) (fun _ h => h.elim) ?aF ?aB ?aS ?aL ?_; (case aR => exact cR_ (vb C1.o HB.o)); (case aB => exact (hB_)); (case aF => exact (fun _ _ => trivial)); (case aO => exact (rR_ c1.o)); (case aS => exact (av (hB_))); (case aL => have := E1.o; omega); intro E0 w7 ho hb hg hat; rw [← b1.o] at ho; obtain ⟨HB, d1⟩ := b_ (hb) <| c_ (ho); clear ho hb hg hat))
  go_loopg [4, 5] k (fun kq v4 v5 w' => ∃ (C0 : List Int) (F0 : Int) (k0 : Int), v4 = .int .i64 F0 ∧ v5 = .int .i64 k0 ∧ aa (al.l0 kq C0 F0 k0 = some r) ∧ aa (kq ≤ k) ∧ aa (Kd.R (Kd.int .i64) 3 w' w.heap.size (fun _ => True) E0 C0) ∧ aa (Below w.heap.size w w'))
  case atStart => exact ⟨(F1), (127), (2), f0_, f0_, H', ⟨Ca _⟩, ⟨rR_ d1.o⟩, ⟨hB_⟩⟩
  clear H'
  obtain ⟨C0, F0, k0, rfl, rfl, HA, L0, a0, HB⟩ := hrel
  rcases gk with _ | k1
  ·exact absurd HA.o (by simp [al.l0])
  have H := HA.o
  clear HA
  simp only [al.l0] at H
  by_cases c8 : k0 ≤ 128
  rotate_left
  ·rw [Ga c8] at H
   have H1 := za c8
   clear c8
   have H' := c_ H
   clear H
   go_wp2
   go_loopg [10] k1 (fun kq y2 w' => ∃ (j0 : List Int) (b0 : Int), y2 = .int .i64 b0 ∧ aa (al.l3 kq j0 b0 = some r) ∧ aa (kq ≤ k1) ∧ aa (Kd.R (Kd.int .i64) 3 w' w.heap.size (fun _ => True) E0 j0) ∧ aa (Below w.heap.size w w'))
   case atStart => exact ⟨(C0), (0), f0_, H', ⟨Ca _⟩, ⟨rR_ a0.o⟩, ⟨hB_⟩⟩
   clear H'
   obtain ⟨j0, b0, rfl, HA, G0, a0, HB⟩ := hrel
   rcases gk with _ | k2
   ·exact absurd HA.o (by simp [al.l3])
   have H := HA.o
   clear HA
   simp only [al.l3] at H
   by_cases W0 : b0 < 256
   rotate_left
   ·rw [Ga W0] at H
    have e1 := za W0
    clear W0
    obtain rfl := Ba H
    go_wp2
    go_ret
    exact ⟨_, f1_, rR_ a0.o, hB_⟩
   rw [Fa W0] at H
   have e1 := ya W0
   clear W0
   obtain ⟨j2, H⟩ := iD_ H
   obtain ⟨m2, H⟩ := iD_ H
   obtain ⟨I1, t0⟩ : ∃ y_ : List Int, y_ = (j0.set (b0 : Int).toNat (Int.tmod (wrap64 ((rd j0 b0) * 3303)) 3329)) := ⟨_, rfl⟩
   first | replace H := yb_ t0 H | rw [← t0] at H
   have f1 := c_ t0
   clear t0
   have H' := c_ H
   clear H
   obtain ⟨z2, B2, J1⟩ := uV a0.o
   subst J1
   have N0 : 0 ≤ (b0 : Int) := oD_
   have O0 : b0 < (j0.length : Int) := oD_
   obtain ⟨n2, K1, H0⟩ := uX (uU a0.o).2.2 b0 N0 O0
   cases K1
   replace N0 := Aa N0
   replace O0 := Aa O0
   have L1 : 0 ≤ (b0 : Int) := oD_
   have M1 : (b0 : Int) < ((j0.length : Int) : Int) := oD_
   obtain ⟨go28, C2, g1, i1, gl28, cl28, HG28⟩ := vm a0.o (by omega)
   (first | cases g1 | (injection g1 with ea_ en_ ec_; (first | subst ea_ | (injection ea_ with ea_; subst ea_)); subst ec_; clear en_))
   have N1 := c_ i1
   have GG28 := c_ HG28
   clear i1 gl28 HG28
   (first | simp only [ch] at H0 | skip)
   obtain ⟨O1, hf28_0⟩ := uZ 0 a0.o (b0 : Int) L1 M1
   replace L1 := Aa L1
   replace M1 := Aa M1
   have HP30 := vj a0.o (b0 : Int) (Int.tmod (wrap64 ((rd j0 b0) * 3303)) 3329)
   go_wp2_with (first | ((refine cz (t := 3) (p := 86) rfl ?_); refine st_ 3 86 HP30 f1 N1 fun L2 hw hp_ hg HBn => ?_; obtain ⟨a0, HB⟩ := b_ (hp_) <| c_ HBn.o; clear hg hw hp_))
   go_roundg k2
   case measure => have := L0.o; have := G0.o; omega
   case rel => exact ⟨(I1), (wrap64 (b0 + 1)), f0_, H', ⟨by have := L0.o; have := G0.o; omega⟩, ⟨rR_ a0.o⟩, ⟨hB_⟩⟩
  rw [Fa c8] at H
  have H1 := ya c8
  clear c8
  have H' := c_ H
  clear H
  go_wp2
  go_loopg [4, 6] k1 (fun kq v4 v6 w' => ∃ (j0 : List Int) (B0 : Int) (p0 : Int), v4 = .int .i64 B0 ∧ v6 = .int .i64 p0 ∧ aa (al.l1 kq j0 B0 k0 p0 = some r) ∧ aa (kq ≤ k1) ∧ aa (Kd.R (Kd.int .i64) 3 w' w.heap.size (fun _ => True) E0 j0) ∧ aa (Below w.heap.size w w'))
  case atStart => exact ⟨(C0), (F0), (0), f0_, f0_, H', ⟨Ca _⟩, ⟨rR_ a0.o⟩, ⟨hB_⟩⟩
  clear H'
  obtain ⟨j0, B0, p0, rfl, rfl, HA, G0, a0, HB⟩ := hrel
  rcases gk with _ | k2
  ·exact absurd HA.o (by simp [al.l1])
  have H := HA.o
  clear HA
  simp only [al.l1] at H
  by_cases c9 : p0 < 256
  rotate_left
  ·rw [Ga c9] at H
   have P1 := za c9
   clear c9
   have H' := c_ H
   clear H
   go_wp2
   go_roundg k2
   case measure => have := L0.o; have := G0.o; omega
   case rel => exact ⟨(j0), (B0), (wrap64 (k0 * 2)), f0_, f0_, H', ⟨by have := L0.o; have := G0.o; omega⟩, ⟨rR_ a0.o⟩, ⟨hB_⟩⟩
  rw [Fa c9] at H
  have P1 := ya c9
  clear c9
  obtain ⟨D2, E2, H⟩ := bN_ H
  obtain ⟨P0, F2, H⟩ := bN_ H
  have H' := c_ H
  clear H
  go_wp2_with (first | (refine gp_ (k_ 29 Tryz.func49) (bi.calls _ _ _ _ E2.o) fun nd => ?_) | (refine gp_ (k_ 30 Tryz.func48) (bv.calls _ _ _ _ _ F2.o) fun nd => ?_))
  go_loopg [8] k2 (fun kq v8 w' => ∃ (f0 : List Int) (d0 : Int), v8 = .int .i64 d0 ∧ aa (al.l2 kq f0 (wrap64 (B0 - 1)) k0 p0 P0 d0 = some r) ∧ aa (kq ≤ k2) ∧ aa (Kd.R (Kd.int .i64) 3 w' w.heap.size (fun _ => True) E0 f0) ∧ aa (Below w.heap.size w w'))
  case atStart => exact ⟨(j0), (p0), f0_, H', ⟨Ca _⟩, ⟨rR_ a0.o⟩, ⟨hB_⟩⟩
  clear H'
  obtain ⟨f0, d0, rfl, HA, B1, a0, HB⟩ := hrel
  rcases gk with _ | k3
  ·exact absurd HA.o (by simp [al.l2])
  have H := HA.o
  clear HA
  simp only [al.l2] at H
  by_cases X0 : d0 < (wrap64 (p0 + k0))
  rotate_left
  ·rw [Ga X0] at H
   have j1 := za X0
   clear X0
   have H' := c_ H
   clear H
   go_wp2
   go_roundg k3
   case measure => have := L0.o; have := G0.o; have := B1.o; omega
   case rel => exact ⟨(f0), ((wrap64 (B0 - 1))), (wrap64 (p0 + (wrap64 (2 * k0)))), f0_, f0_, H', ⟨by have := L0.o; have := G0.o; have := B1.o; omega⟩, ⟨rR_ a0.o⟩, ⟨hB_⟩⟩
  rw [Fa X0] at H
  have j1 := ya X0
  clear X0
  obtain ⟨p2, H⟩ := iD_ H
  obtain ⟨q2, H⟩ := iD_ H
  obtain ⟨e0, D0⟩ : ∃ j_ : Int, (wrap64 (d0 + k0)) = j_ := ⟨_, rfl⟩
  first | rw [D0] at H | simp only [D0] at H
  have Q1 : (IntKind.i64.wrap (d0 + k0)) = e0 := (bB _).trans D0
  obtain ⟨r2, H⟩ := iD_ H
  obtain ⟨t2, H⟩ := iD_ H
  obtain ⟨I0, v0⟩ : ∃ y_ : List Int, y_ = (f0.set (d0 : Int).toNat (Int.tmod (wrap64 ((rd f0 d0) + (rd f0 (e0)))) 3329)) := ⟨_, rfl⟩
  first | replace H := yb_ v0 H | rw [← v0] at H
  have M0 := c_ v0
  clear v0
  obtain ⟨R1, x0⟩ : ∃ y_ : List Int, y_ = (I0.set ((e0) : Int).toNat (Int.tmod (wrap64 (P0 * (wrap64 ((wrap64 ((rd I0 (e0)) - (rd f0 d0))) + 3329)))) 3329)) := ⟨_, rfl⟩
  first | replace H := yb_ x0 H | rw [← x0] at H
  have m1 := c_ x0
  clear x0
  have H' := c_ H
  clear H
  obtain ⟨G2, H2, S1⟩ := uV a0.o
  subst S1
  have Q0 : 0 ≤ (d0 : Int) := oD_
  have R0 : d0 < (f0.length : Int) := oD_
  obtain ⟨n1, T1, J0⟩ := uX (uU a0.o).2.2 d0 Q0 R0
  cases T1
  replace Q0 := Aa Q0
  replace R0 := Aa R0
  have S0 : 0 ≤ ((e0) : Int) := oD_
  have T0 : (e0) < (f0.length : Int) := oD_
  obtain ⟨p1, U1, K0⟩ := uX (uU a0.o).2.2 (e0) S0 T0
  obtain rfl : n1 = p1 := (by injection U1)
  replace S0 := Aa S0
  replace T0 := Aa T0
  have V1 : 0 ≤ (d0 : Int) := oD_
  have X1 : (d0 : Int) < ((f0.length : Int) : Int) := oD_
  obtain ⟨go18, I2, q1, r1, gl18, cl18, HG18⟩ := vm a0.o (by omega)
  (first | cases q1 | (injection q1 with ea_ en_ ec_; (first | subst ea_ | (injection ea_ with ea_; subst ea_)); subst ec_; clear en_))
  have t1 := c_ r1
  have GG18 := c_ HG18
  clear r1 gl18 HG18
  (first | simp only [ch] at J0 | skip)
  (first | simp only [ch] at K0 | skip)
  obtain ⟨Y1, hf18_0⟩ := uZ 0 a0.o (d0 : Int) V1 X1
  replace V1 := Aa V1
  replace X1 := Aa X1
  have HP21 := vj a0.o (d0 : Int) (Int.tmod (wrap64 ((rd f0 d0) + (rd f0 (e0)))) 3329)
  go_wp2_with (first | ((refine cz (t := 3) (p := 56) rfl ?_); refine st_ 3 56 HP21 M0 t1 fun M2 hw hp_ hg HBn => ?_; obtain ⟨a0, HB⟩ := b_ (hp_) <| c_ HBn.o; clear hg hw hp_; have U0 : 0 ≤ ((e0) : Int) := oD_; have V0 : (e0) < (I0.length : Int) := (by have h_ : ((e0) : Int) < ((f0.length : Int) : Int) := oD_; first | (have e_ := (uU a0.o).1; omega) | simpa only [M0.o, List.length_set] using h_); have ql904 : (((e0) : Int) < ((f0.length : Int) : Int)) = True := Aa oD_; obtain ⟨y1, Z1, n0⟩ := uX (uU a0.o).2.2 (e0) U0 V0; obtain rfl : (⟨go18, 0, none⟩ : Addr) = y1 := (by injection Z1); (first | simp only [ch] at n0 | simp only [ow] at n0 | simp only [Addr.add, Nat.zero_add] at n0 | skip); replace U0 := Aa U0; replace V0 := Aa V0; have b2 : 0 ≤ ((e0) : Int) := oD_; have c2 : ((e0) : Int) < ((f0.length : Int) : Int) := oD_; obtain ⟨f2, hf19_0⟩ := uZ 0 a0.o ((e0) : Int) b2 c2; replace b2 := Aa b2; replace c2 := Aa c2; obtain ⟨v2, hz23_⟩ := uZ 0 a0.o ((e0) : Int) oD_ oD_; have HP23 := vj a0.o ((e0) : Int) (Int.tmod (wrap64 (P0 * (wrap64 ((wrap64 ((rd I0 (e0)) - (rd f0 d0))) + 3329)))) 3329)) | ((refine cz (t := 3) (p := 73) rfl ?_); refine st_ 3 73 HP23 m1 t1 fun N2 hw hp_ hg HBn => ?_; obtain ⟨a0, HB⟩ := b_ (hp_) <| c_ HBn.o; clear hg hw hp_))
  go_roundg k3
  case measure => have := L0.o; have := G0.o; have := B1.o; omega
  case rel => exact ⟨(R1), (wrap64 (d0 + 1)), f0_, H', ⟨by have := L0.o; have := G0.o; have := B1.o; omega⟩, ⟨rR_ a0.o⟩, ⟨hB_⟩⟩
 ·replace c3 := Ea c3
  subst c3
  replace H := iF_ H
  obtain ⟨J2, y0⟩ : ∃ y_ : List Int, y_ = (([] : List Int)) := ⟨_, rfl⟩
  first | replace H := yb_ y0 H | rw [← y0] at H
  have z1 := c_ y0
  clear y0
  obtain rfl := Ba H
  go_enter Tryz.func96, Tryz.ntmps96
  go_wp2_with (first | (refine gp_ (k_ 12 Tryz.func47) (au.calls _ _ _ _ _ _ (cR_ C1.o) i2.o A2.o) fun nd => ?_) | (refine lj_ 14 .i64 3 z1 fun K2 O2 A1 HB => ?_))
  go_ret
  exact ⟨_, f1_, rR_ A1.o, hB_⟩
mutual
def bg.j0 : Nat → ByteArray → ByteArray → Bool → Option (List Int × Bool)
 | 0, _, _, _ => none
 | k + 1, x0, x1, x18 => if x18 = true then (some ((([] : List Int)), false)) else ((bd.f k x0).bind fun bt911 => (if bt911.2 = true then (bg.l0 k x1 bt911.1 (([] : List (List Int))) 0) else (some ((([] : List Int)), false))))
def bg.l0 : Nat → ByteArray → List (List Int) → List (List Int) → Int → Option (List Int × Bool)
 | 0, _, _, _, _ => none
 | k + 1, x1, x6, x8, x9 => if x9 < 2 then (if 0 ≤ (wrap64 (x9 * 320)) then (if (wrap64 (x9 * 320)) ≤ (wrap64 ((wrap64 (x9 + 1)) * 320)) then (if (wrap64 ((wrap64 (x9 + 1)) * 320)) ≤ (x1.size : Int) then ((aJ.f k (x1.extract ((wrap64 (x9 * 320)) : Int).toNat ((wrap64 ((wrap64 (x9 + 1)) * 320)) : Int).toNat) 10).bind fun t921 => ((ba.f k t921).bind fun t924 => (if x8.length < 5864062014805 then (bg.l0 k x1 x6 (x8 ++ [t924]) (wrap64 (x9 + 1))) else (none)))) else (none)) else (none)) else (none)) else (if 640 ≤ (x1.size : Int) then ((aJ.f k (x1.extract 640 x1.size) 4).bind fun t930 => ((aV.f k x6 x8).bind fun t933 => ((al.f k t933).bind fun t936 => ((aK.f k t930 t936).bind fun t939 => (some (t939, true)))))) else (none))
end
def bg.f (k : Nat) (a0 : ByteArray) (a1 : ByteArray) : Option (List Int × Bool) := if (a0.size : Int) = 1632 then (bg.j0 k a0 a1 ((a1.size : Int) != 768)) else (bg.j0 k a0 a1 true)
theorem bg.mono_l : ∀ k, (∀ y0 y1 y2, LeO (bg.j0 k y0 y1 y2) (bg.j0 (k + 1) y0 y1 y2)) ∧ (∀ y0 y1 y2 y3, LeO (bg.l0 k y0 y1 y2 y3) (bg.l0 (k + 1) y0 y1 y2 y3))
 | 0 => ⟨fun _ _ _ r h => by simp [bg.j0] at h, fun _ _ _ _ r h => by simp [bg.l0] at h⟩
 | k + 1 => by
  obtain ⟨ih0, ih1⟩ := bg.mono_l k
  refine ⟨?_, ?_⟩ <;> (intros; (first | unfold bg.j0 | unfold bg.l0); exact o8_ ih0 ih1 al.mono ba.mono aK.mono bd.mono aJ.mono aV.mono)
theorem bg.mono : ∀ a0 a1 k, LeO (bg.f k a0 a1) (bg.f (k + 1) a0 a1) := by
 intro a0 a1 k
 obtain ⟨ih0, ih1⟩ := bg.mono_l k
 unfold bg.f
 exact o8_ ih0 ih1 al.mono ba.mono aK.mono bd.mono aJ.mono aV.mono
theorem bg.calls (k : Nat) (a0 : ByteArray) (a1 : ByteArray) (r1 : List Int) (r2 : Bool) (w : World) (h : bg.f k a0 a1 = some (r1, r2)) :
  Calls Tryz.prog 58 #[.string a0, .string a1] w fun e w' => ∃ B1 : Value, e = .returned (.tuple #[B1, .bool r2]) ∧ Kd.R (Kd.int .i64) 3 w' w.heap.size (fun _ => True) B1 r1 ∧ Below w.heap.size w w' := by
 have HB := c_ (Da w.heap.size w)
 delta bg.f at h
 have H := h
 clear h
 have c1 := c_ H
 clear H
 go_enter Tryz.func58, Tryz.ntmps58
 go_upto_region 1 with (fail)
 go_cut [18] (fun Q1 wc => ∃ (kq : Nat) (r0 : Bool), Q1 = .bool r0 ∧ aa (bg.j0 kq a0 a1 r0 = some (r1, r2)) ∧ aa (kq ≤ k) ∧ aa (Below w.heap.size w wc))
 case first =>
  have H := c1.o
  clear c1
  by_cases c4 : (a0.size : Int) = 1632
  ·rw [Fa c4] at H
   have E0 : ((a0.size : Int) == 1632) = true := beq_iff_eq.mpr c4
   have d1 : ((a0.size : Int) != 1632) = false := bne_eq_false_iff_eq.mpr c4
   clear c4
   (first | rw [E0] | (simp only [bB, cG]; rw [E0]) | skip)
   have H' := c_ H
   clear H
   go_wp2
   go_meet
   case rel => exact ⟨_, (((a1.size : Int) != 768)), f0_, H', ⟨by first | omega | exact Ca _⟩, ⟨hB_⟩⟩
  rw [Ga c4] at H
  have E0 : ((a0.size : Int) == 1632) = false := beq_eq_false_iff_ne.mpr c4
  have d1 : ((a0.size : Int) != 1632) = true := bne_iff_ne.mpr c4
  (first | rw [E0] | (simp only [bB, cG]; rw [E0]) | skip)
  have H' := c_ H
  clear H
  go_wp2
  go_meet
  case rel => exact ⟨_, (true), f0_, H', ⟨by first | omega | exact Ca _⟩, ⟨hB_⟩⟩
 clear c1
 obtain ⟨kq, r0, rfl, HA, C1, HB⟩ := hcut
 rcases kq with _ | D1
 ·exact absurd HA.o (by simp [bg.j0])
 have H := HA.o
 clear HA
 simp only [bg.j0] at H
 by_cases c5 : r0 = true
 ·subst c5
  replace H := iT_ H
  obtain ⟨R1, t0⟩ : ∃ y_ : List Int, y_ = (([] : List Int)) := ⟨_, rfl⟩
  first | replace H := yb_ t0 H | rw [← t0] at H
  have Q0 := c_ t0
  clear t0
  simp only [Option.some.injEq, Prod.mk.injEq] at H
  obtain ⟨rfl, rfl⟩ := H
  go_wp2_with (first | ((try (refine bh (by rfl) ?_; dsimp only)); refine lj_ 19 .i64 3 Q0 fun S1 w6 R0 HB => ?_))
  go_ret2
  exact ⟨_, f1_, rR_ R0.o, hB_⟩
 ·replace c5 := Ea c5
  subst c5
  replace H := iF_ H
  obtain ⟨⟨S0, e1⟩, A8, H⟩ := bN_ H
  by_cases c9 : e1 = true
  ·subst c9
   replace H := iT_ H
   obtain ⟨f1, v0⟩ : ∃ y_ : List (List Int), y_ = (([] : List (List Int))) := ⟨_, rfl⟩
   first | replace H := yb_ v0 H | rw [← v0] at H
   have L0 := c_ v0
   clear v0
   have H' := c_ H
   clear H
   go_wp2_with (first | (refine gR_ (k_ 22 Tryz.func93) (bd.calls _ _ _ _ _ A8.o) fun C0 J2 ho_ hb => ?_; obtain ⟨n0, HB⟩ := n_ (lS_ ho_) <| sB_) | ((refine cQ (N := 28) rfl ?_); (try (refine bh (by rfl) ?_; dsimp only)); refine wN (Kd.slice 3 (Kd.int .i64)) _ 33 ?hg (N := 28) ?hd (xs := ([] : List (List Int))) (inner := []) (ok := fun _ => True) (okp := fun _ => True) ?hr ?hp (fun _ hk => hk) trivial (Da _ _) (Ca _) (by simp) ?_; (case hd => rfl); (case hg => rfl); (case hr => first | (go_simp; done) | (go_simp; rfl)); (case hp => exact (eM.none _ _)); intro T1 K2 D0 hb hg_ hnew_; clear hg_ hnew_; (first | rw [← L0.o] at D0 | (simp only [Int.reduceToNat] at D0; rw [← L0.o] at D0)); obtain ⟨n0, T0, HB⟩ := b_ (vc (rS_ n0.o) (vT D0) hb) <| b_ (vI (vN D0 (wV (rS_ n0.o))) (av (hB_))) <| sB_; clear hb D0))
   go_loopg [8, 9] D1 (fun kq v8 v9 w' => ∃ (F0 : List (List Int)) (q0 : Int), v9 = .int .i64 q0 ∧ aa (bg.l0 kq a1 S0 F0 q0 = some (r1, r2)) ∧ aa (kq ≤ D1) ∧ aa (Kd.S (Kd.slice 3 (Kd.int .i64)) 33 w' w.heap.size (fun k_ => some k_ ≠ (v8 : Value).ownBlock) C0 S0) ∧ aa (Kd.S (Kd.slice 3 (Kd.int .i64)) 33 w' w.heap.size (fun k_ => some k_ ≠ (C0 : Value).ownBlock) v8 F0) ∧ aa (Below w.heap.size w w'))
   case atStart => exact ⟨(f1), (0), f0_, H', ⟨Ca _⟩, ⟨by refine kS_ ?_; exact vi n0.o (fun _ hk => hk.2)⟩, ⟨by refine kS_ ?_; exact vi T0.o (fun _ hk => hk.2)⟩, ⟨hB_⟩⟩
   clear H'
   obtain ⟨F0, q0, rfl, HA, E1, b0, d0, HB⟩ := hrel
   rcases gk with _ | k2
   ·exact absurd HA.o (by simp [bg.l0])
   have H := HA.o
   clear HA
   simp only [bg.l0] at H
   by_cases P0 : q0 < 2
   ·rw [Fa P0] at H
    have U0 := ya P0
    clear P0
    obtain ⟨M0, x0⟩ : ∃ j_ : Int, (wrap64 (q0 * 320)) = j_ := ⟨_, rfl⟩
    first | rw [x0] at H | simp only [x0] at H
    have g1 : (IntKind.i64.wrap (q0 * 320)) = M0 := (bB _).trans x0
    obtain ⟨i1, H⟩ := iN_ H
    have F1 := Aa i1
    have G1 := ya i1
    clear i1
    obtain ⟨H1, H⟩ := iN_ H
    have I1 := Aa H1
    have J1 := ya H1
    obtain ⟨K1, H⟩ := iN_ H
    have L1 := Aa K1
    have M1 := ya K1
    obtain ⟨G0, U1, H⟩ := bN_ H
    obtain ⟨H0, V1, H⟩ := bN_ H
    obtain ⟨N1, H⟩ := iN_ H
    have V0 := c_ N1
    clear N1
    obtain ⟨j1, y0⟩ : ∃ y_ : List (List Int), y_ = (F0 ++ [H0]) := ⟨_, rfl⟩
    first | replace H := yb_ y0 H | rw [← y0] at H
    have W0 := c_ y0
    clear y0
    have H' := c_ H
    clear H
    go_wp2_with (first | ((with_reducible refine ep (f := 94) rfl ?_); refine gS (some 41) rfl rfl Tryz.func94 (by kernel_rfl) rfl #[.string (a1.extract ((M0) : Int).toNat ((wrap64 ((wrap64 (q0 + 1)) * 320)) : Int).toNat), .int .i64 10] rfl (by (try simp only [List.map_toArray, List.map_cons, List.map_nil]); first | done | (simp only [x0]; rfl) | rfl | (simp only [List.length_drop, List.length_take]; rfl)) ?_; (with_reducible refine (aJ.calls k2 (a1.extract ((M0) : Int).toNat ((wrap64 ((wrap64 (q0 + 1)) * 320)) : Int).toNat) 10 G0 _ U1.o).mono ?_); rintro e L2 ⟨X1, rfl, l1, hb⟩; refine ⟨_, rfl, ?_⟩; obtain ⟨b0, d0, f0, HB⟩ := b_ (vc (rS_ b0.o) (vd l1) hb) <| b_ (vc (rS_ d0.o) (vd l1) hb) <| b_ (uY l1 (av (hB_))) <| sB_; obtain ⟨J0, K0, m1⟩ := uV f0.o; subst m1) | (refine gR_ (k_ 42 Tryz.func19) (ba.calls _ _ _ _ _ _ (cR_ (uU f0.o).2.2) ((uU f0.o).2.1) V1.o) fun Y1 M2 ho_ hb => ?_; obtain ⟨b0, d0, f0, I0, HB⟩ := n_ (dr b0) <| n_ (dr d0) <| n_ (cJ f0) <| n_ (lR_ (cN ho_ f0)) <| sB_; obtain ⟨N0, O0, n1⟩ := uV I0.o; subst n1) | ((refine cr (b := .append) (xs := #[.tmp 33, .tmp 43]) rfl ?_); (try (refine bh (by rfl) ?_; dsimp only)); at_builtin; refine vu (Kd.slice 3 (Kd.int .i64)) (w0 := w) w.heap.size rfl (.tmp 33) (.tmp 43) 44 33 (.slice none 0 0) 24 rfl Tryz.underlying44 gu rfl (by decide) (by omega) u8 F0 H0 [.slice N0 H0.length O0] (fun k_ => some k_ ≠ (C0 : Value).ownBlock ∧ some k_ ≠ (.slice J0 G0.length K0 : Value).ownBlock) (fun k_ => some k_ = (.slice N0 H0.length O0 : Value).ownBlock) rfl rfl ?aP (fun k_ hk_ => ((uW (ok' := fun k_ => ((fun k_ => some k_ ≠ (C0 : Value).ownBlock ∧ some k_ ≠ (.slice J0 G0.length K0 : Value).ownBlock)) k_ ∧ some k_ ≠ (u8 : Value).ownBlock) (va (va (I0.o) (ve b0.o) (by decide)) (ve d0.o) (by decide)) (fun k_ hk => ⟨⟨hk.1.2, hk.1.1.2⟩, hk.2⟩))).1 k_ hk_.symm) ?aF ?aO ?aB ?aS ?aL ?_; (case aP => exact vY (uW (vx rfl (uW (ok' := fun k_ => ((fun k_ => some k_ ≠ (C0 : Value).ownBlock ∧ some k_ ≠ (.slice J0 G0.length K0 : Value).ownBlock)) k_ ∧ some k_ ≠ (u8 : Value).ownBlock) (va (va (I0.o) (ve b0.o) (by decide)) (ve d0.o) (by decide)) (fun k_ hk => ⟨⟨hk.1.2, hk.1.1.2⟩, hk.2⟩))) (fun _ h_ => h_))); (case aB => exact (hB_)); (case aF => exact (fun k_ hk => ⟨Kd.fresh' (wV (rS_ b0.o)) k_ hk, Kd.fresh' (vF (rR_ f0.o)) k_ hk⟩)); (case aO => exact (by refine kS_ ?_; exact vi d0.o (fun k_ hk => ⟨⟨hk.1.1, hk.1.2⟩, fun e_ => hk.2 e_⟩))); (case aS => exact (av (hB_))); (case aL => have := V0.o; omega); intro Z1 N2 ho hb hg hat; rw [← W0.o] at ho; obtain ⟨b0, f0, HB, X0⟩ := b_ (wv (ok := (fun k_ => some k_ ≠ (.slice J0 G0.length K0 : Value).ownBlock ∧ some k_ ≠ (.slice N0 H0.length O0 : Value).ownBlock)) (by refine kS_ ?_; exact vi b0.o (fun _ hk => ⟨⟨hk.1.2, hk.2⟩, hk.1.1⟩)) hg hat) <| b_ (vQ (rR_ f0.o) (ve (rS_ d0.o)) (by decide) hg) <| b_ (hb) <| c_ (ho); clear ho hb hg hat))
    go_roundg k2
    case measure => have := C1.o; have := E1.o; omega
    case rel => exact ⟨(j1), (wrap64 (q0 + 1)), f0_, H', ⟨by have := C1.o; have := E1.o; omega⟩, ⟨by refine kS_ ?_; exact vi b0.o (fun _ hk => hk.2)⟩, ⟨by refine kS_ ?_; exact vi X0.o (fun _ hk => hk.1)⟩, ⟨hB_⟩⟩
   rw [Ga P0] at H
   have U0 := za P0
   clear P0
   obtain ⟨p1, H⟩ := iN_ H
   have O1 := Aa p1
   have P1 := ya p1
   clear p1
   obtain ⟨b2, c2, H⟩ := bN_ H
   obtain ⟨f2, g2, H⟩ := bN_ H
   obtain ⟨i2, j2, H⟩ := bN_ H
   obtain ⟨l2, m2, H⟩ := bN_ H
   simp only [Option.some.injEq, Prod.mk.injEq] at H
   obtain ⟨rfl, rfl⟩ := H
   go_wp2_with (first | (refine gR_ (k_ 47 Tryz.func94) (aJ.calls _ _ _ _ _ c2.o) fun n2 O2 ho_ hb => ?_; obtain ⟨b0, d0, e0, HB⟩ := n_ (dr b0) <| n_ (dr d0) <| n_ (lR_ ho_) <| sB_; obtain ⟨p2, q2, q1⟩ := vy b0.o; subst q1; obtain ⟨t2, v2, t1⟩ := vy d0.o; subst t1) | (refine gR_ (k_ 51 Tryz.func23) (aV.calls _ _ _ _ _ _ _ _ _ (cR_ (vf b0.o).2.2) ((vf b0.o).2.1) (cR_ (vf d0.o).2.2) ((vf d0.o).2.1) g2.o) fun y2 P2 ho_ hb => ?_; obtain ⟨b0, d0, e0, k0, HB⟩ := n_ (dr b0) <| n_ (dr d0) <| n_ (cJ e0) <| n_ (lR_ (cN ho_ e0)) <| sB_; obtain ⟨z2, A2, y1⟩ := uV k0.o; subst y1) | (refine gR_ (k_ 52 Tryz.func96) (al.calls _ _ _ _ _ _ (cR_ (uU k0.o).2.2) ((uU k0.o).2.1) j2.o) fun B2 Q2 ho_ hb => ?_; obtain ⟨b0, d0, e0, k0, p0, HB⟩ := n_ (dr b0) <| n_ (dr d0) <| n_ (cJ e0) <| n_ (cJ k0) <| n_ (lR_ (cN (cN ho_ e0) k0)) <| sB_; obtain ⟨C2, D2, z1⟩ := uV e0.o; subst z1; obtain ⟨E2, F2, A1⟩ := uV p0.o; subst A1) | (refine gR_ (k_ 53 Tryz.func95) (aK.calls _ _ _ _ _ _ _ _ _ (cR_ (uU e0.o).2.2) ((uU e0.o).2.1) (cR_ (uU p0.o).2.2) ((uU p0.o).2.1) m2.o) fun G2 R2 ho_ hb => ?_; obtain ⟨b0, d0, e0, k0, p0, Y0, HB⟩ := n_ (dr b0) <| n_ (dr d0) <| n_ (cJ e0) <| n_ (cJ k0) <| n_ (cJ p0) <| n_ (lR_ (cN (cN (cN ho_ e0) k0) p0)) <| sB_))
   go_ret2
   exact ⟨_, f1_, by refine kR_ ?_; exact uW Y0.o (fun _ hk => trivial), hB_⟩
  ·replace c9 := Ea c9
   subst c9
   replace H := iF_ H
   obtain ⟨H2, B0⟩ : ∃ y_ : List Int, y_ = (([] : List Int)) := ⟨_, rfl⟩
   first | replace H := yb_ B0 H | rw [← B0] at H
   have Z0 := c_ B0
   clear B0
   simp only [Option.some.injEq, Prod.mk.injEq] at H
   obtain ⟨rfl, rfl⟩ := H
   go_wp2_with (first | (refine gR_ (k_ 22 Tryz.func93) (bd.calls _ _ _ _ _ A8.o) fun C0 T2 ho_ hb => ?_; obtain ⟨n0, HB⟩ := n_ (lS_ ho_) <| sB_) | ((try (refine bh (by rfl) ?_; dsimp only)); refine li_ 27 .i64 3 Z0 fun I2 U2 ho_ hb => ?_; obtain ⟨n0, b1, HB⟩ := n_ (dr n0) <| n_ (lR_ ho_) <| sB_))
   go_ret2
   exact ⟨_, f1_, rR_ b1.o, hB_⟩
def bK.j0 : Nat → Int → Int → Bool → Option (Int)
 | 0, _, _, _ => none
 | k + 1, x0, x1, x12 => if x12 = true then (some 0) else ((ax.f k x1).bind fun t944 => ((ax.f k x1).bind fun t945 => (if t945 = 0 then (none) else (some (Int.tmod (wrap64 (Int.tdiv (wrap64 ((wrap64 (t944 * x0)) + 1664)) 3329)) t945)))))
def bK.f (k : Nat) (a0 : Int) (a1 : Int) : Option (Int) := (aZ.f a0 0 3328).bind fun t942 => (if t942 = true then ((aZ.f a1 1 11).bind fun t943 => (bK.j0 k a0 a1 (!t943))) else (bK.j0 k a0 a1 true))
theorem bK.mono_l : ∀ k, (∀ y0 y1 y2, LeO (bK.j0 k y0 y1 y2) (bK.j0 (k + 1) y0 y1 y2))
 | 0 => fun _ _ _ r h => by simp [bK.j0] at h
 | k + 1 => by
  have ih0 := bK.mono_l k
  intros; unfold bK.j0; exact o2_ ih0 ax.mono
theorem bK.mono : ∀ a0 a1 k, LeO (bK.f k a0 a1) (bK.f (k + 1) a0 a1) := by
 intro a0 a1 k
 have ih0 := bK.mono_l k
 unfold bK.f
 exact o2_ ih0 ax.mono
theorem bK.calls (k : Nat) (a0 : Int) (a1 : Int) (r : Int) (w : World) (h : bK.f k a0 a1 = some r) :
  Calls Tryz.prog 97 #[.int .i64 a0, .int .i64 a1] w fun e w' => e = .returned (.int .i64 r) ∧ cx w w' := by
 delta bK.f at h
 have H := h
 clear h
 have f0 := c_ H
 clear H
 go_enter Tryz.func97, Tryz.ntmps97
 go_upto_region 1 with (fail)
 go_cut [12] (fun r0 wc => ∃ (kq : Nat) (b0 : Bool), r0 = .bool b0 ∧ aa (bK.j0 kq a0 a1 b0 = some r) ∧ aa (kq ≤ k) ∧ cx w wc)
 case first =>
  have H := f0.o
  clear f0
  obtain ⟨k0, A4, H⟩ := bN_ H
  by_cases c5 : k0 = true
  ·subst c5
   replace H := iT_ H
   obtain ⟨n0, A6, H⟩ := bN_ H
   have H' := c_ H
   clear H
   go_wp2_with (first | (refine gp_ (k_ 6 Tryz.func87) (aZ.calls _ _ _ _ _ A4.o) fun nd => ?_) | (go_at_call 87; refine mp_ (aZ.calls _ _ _ _ _ A6.o) fun nd => ?_))
   go_meet
   case rel => exact ⟨_, (!n0), f0_, H', ⟨by first | omega | exact Ca _⟩, d0_⟩
  ·replace c5 := Ea c5
   subst c5
   replace H := iF_ H
   have H' := c_ H
   clear H
   go_wp2_with (first | (refine gp_ (k_ 6 Tryz.func87) (aZ.calls _ _ _ _ _ A4.o) fun nd => ?_))
   go_meet
   case rel => exact ⟨_, (true), f0_, H', ⟨by first | omega | exact Ca _⟩, d0_⟩
 clear f0
 obtain ⟨kq, b0, rfl, HA, v0, ⟨mc2, rfl⟩⟩ := hcut
 rcases kq with _ | x0
 ·exact absurd HA.o (by simp [bK.j0])
 have H := HA.o
 clear HA
 simp only [bK.j0] at H
 by_cases c7 : b0 = true
 ·subst c7
  replace H := iT_ H
  obtain rfl := Ba H
  go_wp2
  go_ret
  exact ⟨f0_, d0_⟩
 ·replace c7 := Ea c7
  subst c7
  replace H := iF_ H
  obtain ⟨t0, A8, H⟩ := bN_ H
  obtain ⟨d0, A9, H⟩ := bN_ H
  have QA9 := c_ (Ba (A8.o.symm.trans A9.o))
  by_cases e0 : d0 = 0
  ·rw [Fa e0] at H
   exact absurd H (by simp)
  rw [Ga e0] at H
  have p0 : (d0 == 0) = false := beq_eq_false_iff_ne.mpr e0
  have q0 : (d0 != 0) = true := bne_iff_ne.mpr e0
  obtain rfl := Ba H
  go_wp2_with (first | (refine gp_ (k_ 14 Tryz.func88) (ax.calls _ _ _ _ A8.o) fun nd => ?_) | (refine gp_ (k_ 20 Tryz.func88) (ax.calls _ _ _ _ A9.o) fun nd => ?_))
  go_ret
  exact ⟨by first | rfl | (simp only [QA9.o]; done) | (simp; done) | (simp [*]; done), d0_⟩
def aM.l0 : Nat → List Int → Int → List Int → Int → Option (ByteArray)
 | 0, _, _, _, _ => none
 | k + 1, x0, x1, x5, x6 => if x6 < (x0.length : Int) then (if 0 ≤ x6 then ((bK.f k (rd x0 x6) x1).bind fun t950 => (if x5.length < 17592186044416 then (aM.l0 k x0 x1 (x5 ++ [t950]) (wrap64 (x6 + 1))) else (none))) else (none)) else ((aW.f k x5 x1).bind fun bt954 => (some bt954.1))
def aM.f (k : Nat) (l0 : List Int) (a1 : Int) : Option (ByteArray) := aM.l0 k l0 a1 (([] : List Int)) 0
theorem aM.mono_l : ∀ k, (∀ y0 y1 y2 y3, LeO (aM.l0 k y0 y1 y2 y3) (aM.l0 (k + 1) y0 y1 y2 y3))
 | 0 => fun _ _ _ _ r h => by simp [aM.l0] at h
 | k + 1 => by
  have ih0 := aM.mono_l k
  intros; unfold aM.l0; exact o3_ ih0 aW.mono bK.mono
theorem aM.mono : ∀ a0 a1 k, LeO (aM.f k a0 a1) (aM.f (k + 1) a0 a1) := by
 intro a0 a1 k
 have ih0 := aM.mono_l k
 unfold aM.f
 exact o3_ ih0 aW.mono bK.mono
theorem aM.calls (k : Nat) (A0 : Option Addr) (c0 : Nat) (l0 : List Int) (a1 : Int) (r : ByteArray) (w : World) (hr0 : Kd.C (Kd.int .i64) w A0 l0.length l0) (hc0 : l0.length ≤ c0) (h : aM.f k l0 a1 = some r) :
  Calls Tryz.prog 59 #[.slice A0 l0.length c0, .int .i64 a1] w fun e w' => e = .returned (.string r) ∧ Below w.heap.size w w' := by
 have H0 := c_ hr0
 have Q0 := c_ hc0
 clear hr0 hc0
 have HB := c_ (Da w.heap.size w)
 delta aM.f at h
 have H := h
 clear h
 obtain ⟨v0, b0⟩ : ∃ y_ : List Int, y_ = (([] : List Int)) := ⟨_, rfl⟩
 first | replace H := yb_ b0 H | rw [← b0] at H
 have p0 := c_ b0
 clear b0
 have H' := c_ H
 clear H
 go_enter Tryz.func59, Tryz.ntmps59
 go_wp2_with (first | (refine lj_ 9 .i64 3 p0 fun I0 w3 q0 HB => ?_))
 go_loopg [5, 6] k (fun kq v5 v6 w' => ∃ (j0 : List Int) (a0 : Int), v6 = .int .i64 a0 ∧ aa (aM.l0 kq l0 a1 j0 a0 = some r) ∧ aa (kq ≤ k) ∧ aa (Kd.R (Kd.int .i64) 3 w' w.heap.size (fun _ => True) v5 j0) ∧ aa (Below w.heap.size w w'))
 case atStart => exact ⟨(v0), (0), f0_, H', ⟨Ca _⟩, ⟨rR_ q0.o⟩, ⟨hB_⟩⟩
 clear H'
 obtain ⟨j0, a0, rfl, HA, F0, f0, HB⟩ := hrel
 rcases gk with _ | k1
 ·exact absurd HA.o (by simp [aM.l0])
 have H := HA.o
 clear HA
 simp only [aM.l0] at H
 by_cases c5 : a0 < (l0.length : Int)
 ·rw [Fa c5] at H
  have x0 := ya c5
  clear c5
  obtain ⟨J0, H⟩ := iD_ H
  obtain ⟨y0, A7, H⟩ := bN_ H
  obtain ⟨c8, H⟩ := iN_ H
  have B0 := c_ c8
  clear c8
  obtain ⟨C0, d0⟩ : ∃ y_ : List Int, y_ = (j0 ++ [y0]) := ⟨_, rfl⟩
  first | replace H := yb_ d0 H | rw [← d0] at H
  have r0 := c_ d0
  clear d0
  have H' := c_ H
  clear H
  have k0 : 0 ≤ (a0 : Int) := oD_
  have n0 : a0 < (l0.length : Int) := oD_
  obtain ⟨G0, D0, e0⟩ := uX H0.o a0 k0 n0
  cases D0
  replace e0 := hc_ e0
  replace k0 := Aa k0
  replace n0 := Aa n0
  go_wp2_with (first | (refine gp_ (k_ 22 Tryz.func97) (bK.calls _ _ _ _ _ A7.o) fun nd => ?_) | (refine ga_ 16 23 ?_; at_builtin; refine ap_ f0 r0 B0 Tryz.underlying33 di fun K0 w9 t0 HB hg hat => ?_))
  go_roundg k1
  case measure => have := F0.o; omega
  case rel => exact ⟨(C0), (wrap64 (a0 + 1)), f0_, H', ⟨by have := F0.o; omega⟩, ⟨rR_ t0.o⟩, ⟨hB_⟩⟩
 rw [Ga c5] at H
 have x0 := za c5
 clear c5
 obtain ⟨⟨L0, M0⟩, N0, H⟩ := bN_ H
 obtain rfl := Ba H
 obtain ⟨O0, P0, E0⟩ := uV f0.o
 subst E0
 go_wp2_with (first | (refine gc_ (k_ 28 Tryz.func52) (aW.calls _ _ _ _ _ _ _ _ (cR_ (uU f0.o).2.2) ((uU f0.o).2.1) N0.o) fun R0 hb => ?_; obtain ⟨f0, HB⟩ := n_ (fR_ f0) <| sB_))
 go_ret
 exact ⟨f1_, hB_⟩
def cR.f (k : Nat) (a0 : ByteArray) (a1 : ByteArray) : Option (ByteArray × Bool) := (bg.f k a0 a1).bind fun bt956 => (if bt956.2 = true then ((aM.f k bt956.1 1).bind fun t960 => (some (t960, true))) else (some ((⟨#[]⟩ : ByteArray), false)))
theorem cR.mono : ∀ a0 a1 k, LeO (cR.f k a0 a1) (cR.f (k + 1) a0 a1) := by
 intro a0 a1 k
 unfold cR.f
 exact o2_ bg.mono aM.mono
theorem cR.calls (k : Nat) (a0 : ByteArray) (a1 : ByteArray) (r1 : ByteArray) (r2 : Bool) (w : World) (h : cR.f k a0 a1 = some (r1, r2)) :
  Calls Tryz.prog 27 #[.string a0, .string a1] w fun e w' => e = .returned (.tuple #[.string r1, .bool r2]) ∧ Below w.heap.size w w' := by
 have HB := c_ (Da w.heap.size w)
 delta cR.f at h
 have H := h
 clear h
 obtain ⟨⟨f0, d0⟩, A3, H⟩ := bN_ H
 by_cases c4 : d0 = true
 ·subst c4
  replace H := iT_ H
  obtain ⟨j0, A5, H⟩ := bN_ H
  simp only [Option.some.injEq, Prod.mk.injEq] at H
  obtain ⟨rfl, rfl⟩ := H
  go_enter Tryz.func27, Tryz.ntmps27
  go_wp2_with (first | (refine gR_ (k_ 11 Tryz.func58) (bg.calls _ _ _ _ _ _ A3.o) fun e0 w6 ho_ hb => ?_; obtain ⟨b0, HB⟩ := n_ (lR_ ho_) <| sB_; obtain ⟨n0, p0, k0⟩ := uV b0.o; subst k0) | (refine gc_ (k_ 17 Tryz.func59) (aM.calls _ _ _ _ _ _ _ (cR_ (uU b0.o).2.2) ((uU b0.o).2.1) A5.o) fun w8 hb => ?_; obtain ⟨b0, HB⟩ := n_ (fR_ b0) <| sB_))
  go_ret2
  exact ⟨f1_, hB_⟩
 ·replace c4 := Ea c4
  subst c4
  replace H := iF_ H
  simp only [Option.some.injEq, Prod.mk.injEq] at H
  obtain ⟨rfl, rfl⟩ := H
  go_enter Tryz.func27, Tryz.ntmps27
  go_wp2_with (first | (refine gR_ (k_ 11 Tryz.func58) (bg.calls _ _ _ _ _ _ A3.o) fun e0 w9 ho_ hb => ?_; obtain ⟨b0, HB⟩ := n_ (lR_ ho_) <| sB_))
  go_ret2
  exact ⟨f1_, hB_⟩
def cC.f (k : Nat) (a0 : ByteArray) : Option (Bool) := if (a0.size : Int) = 800 then ((bd.f k a0).bind fun bt961 => (some bt961.2)) else (some false)
theorem cC.mono : ∀ a0 k, LeO (cC.f k a0) (cC.f (k + 1) a0) := by
 intro a0 k
 unfold cC.f
 exact o1_ bd.mono
theorem cC.calls (k : Nat) (a0 : ByteArray) (r : Bool) (w : World) (h : cC.f k a0 = some r) :
  Calls Tryz.prog 98 #[.string a0] w fun e w' => e = .returned (.bool r) ∧ Below w.heap.size w w' := by
 have HB := c_ (Da w.heap.size w)
 delta cC.f at h
 have H := h
 clear h
 by_cases c2 : (a0.size : Int) = 800
 ·rw [Fa c2] at H
  have b0 : ((a0.size : Int) == 800) = true := beq_iff_eq.mpr c2
  have d0 : ((a0.size : Int) != 800) = false := bne_eq_false_iff_eq.mpr c2
  clear c2
  obtain ⟨⟨f0, j0⟩, A3, H⟩ := bN_ H
  obtain rfl := Ba H
  go_enter Tryz.func98, Tryz.ntmps98
  go_wp2_with (first | (refine gR_ (k_ 10 Tryz.func93) (bd.calls _ _ _ _ _ A3.o) fun k0 w4 ho_ hb => ?_; obtain ⟨e0, HB⟩ := n_ (lS_ ho_) <| sB_))
  go_ret
  exact ⟨f1_, hB_⟩
 rw [Ga c2] at H
 have b0 : ((a0.size : Int) == 800) = false := beq_eq_false_iff_ne.mpr c2
 have d0 : ((a0.size : Int) != 800) = true := bne_iff_ne.mpr c2
 obtain rfl := Ba H
 go_enter Tryz.func98, Tryz.ntmps98
 go_wp2
 go_ret
 exact ⟨f1_, hB_⟩
mutual
def bf.l0 : Nat → ByteArray → List Int → Int → Option (List Int)
 | 0, _, _, _ => none
 | k + 1, x0, x3, x4 => if x4 < 256 then (if 0 ≤ (wrap64 (Int.tdiv x4 8)) then (if (wrap64 (Int.tdiv x4 8)) < (x0.size : Int) then (bf.l1 k x0 x3 x4 (wrap64 (bt x0 (wrap64 (Int.tdiv x4 8)))) 0) else (none)) else (none)) else (some x3)
def bf.l1 : Nat → ByteArray → List Int → Int → Int → Int → Option (List Int)
 | 0, _, _, _, _, _ => none
 | k + 1, x0, x3, x4, x5, x6 => if x6 < (Int.tmod x4 8) then (bf.l1 k x0 x3 x4 (wrap64 (Int.tdiv x5 2)) (wrap64 (x6 + 1))) else ((bA.f k (Int.tmod x5 2) 1).bind fun t968 => (if x3.length < 17592186044416 then (bf.l0 k x0 (x3 ++ [t968]) (wrap64 (x4 + 1))) else (none)))
end
def bf.f (k : Nat) (a0 : ByteArray) : Option (List Int) := bf.l0 k a0 (([] : List Int)) 0
theorem bf.mono_l : ∀ k, (∀ y0 y1 y2, LeO (bf.l0 k y0 y1 y2) (bf.l0 (k + 1) y0 y1 y2)) ∧ (∀ y0 y1 y2 y3 y4, LeO (bf.l1 k y0 y1 y2 y3 y4) (bf.l1 (k + 1) y0 y1 y2 y3 y4))
 | 0 => ⟨fun _ _ _ r h => by simp [bf.l0] at h, fun _ _ _ _ _ r h => by simp [bf.l1] at h⟩
 | k + 1 => by
  obtain ⟨ih0, ih1⟩ := bf.mono_l k
  refine ⟨?_, ?_⟩ <;> (intros; (first | unfold bf.l0 | unfold bf.l1); exact o3_ ih0 ih1 bA.mono)
theorem bf.mono : ∀ a0 k, LeO (bf.f k a0) (bf.f (k + 1) a0) := by
 intro a0 k
 obtain ⟨ih0, ih1⟩ := bf.mono_l k
 unfold bf.f
 exact o3_ ih0 ih1 bA.mono
theorem bf.calls (k : Nat) (a0 : ByteArray) (r : List Int) (w : World) (h : bf.f k a0 = some r) :
  Calls Tryz.prog 99 #[.string a0] w fun e w' => ∃ I0 : Value, e = .returned (I0) ∧ Kd.R (Kd.int .i64) 3 w' w.heap.size (fun _ => True) I0 r ∧ Below w.heap.size w w' := by
 have HB := c_ (Da w.heap.size w)
 delta bf.f at h
 have H := h
 clear h
 obtain ⟨D0, d0⟩ : ∃ y_ : List Int, y_ = (([] : List Int)) := ⟨_, rfl⟩
 first | replace H := yb_ d0 H | rw [← d0] at H
 have q0 := c_ d0
 clear d0
 have H' := c_ H
 clear H
 go_enter Tryz.func99, Tryz.ntmps99
 go_wp2_with (first | (refine lj_ 7 .i64 3 q0 fun L0 w2 r0 HB => ?_))
 go_loopg [3, 4] k (fun kq v3 v4 w' => ∃ (f0 : List Int) (b0 : Int), v4 = .int .i64 b0 ∧ aa (bf.l0 kq a0 f0 b0 = some r) ∧ aa (kq ≤ k) ∧ aa (Kd.R (Kd.int .i64) 3 w' w.heap.size (fun _ => True) v3 f0) ∧ aa (Below w.heap.size w w'))
 case atStart => exact ⟨(D0), (0), f0_, H', ⟨Ca _⟩, ⟨rR_ r0.o⟩, ⟨hB_⟩⟩
 clear H'
 obtain ⟨f0, b0, rfl, HA, B0, j0, HB⟩ := hrel
 rcases gk with _ | k1
 ·exact absurd HA.o (by simp [bf.l0])
 have H := HA.o
 clear HA
 simp only [bf.l0] at H
 by_cases c4 : b0 < 256
 rotate_left
 ·rw [Ga c4] at H
  have E0 := za c4
  clear c4
  obtain rfl := Ba H
  go_wp2
  go_ret
  exact ⟨_, f1_, rR_ j0.o, hB_⟩
 rw [Fa c4] at H
 have E0 := ya c4
 clear c4
 obtain ⟨t0, n0⟩ : ∃ j_ : Int, (wrap64 (Int.tdiv b0 8)) = j_ := ⟨_, rfl⟩
 first | rw [n0] at H | simp only [n0] at H
 have J0 : (IntKind.i64.wrap (Int.tdiv b0 8)) = t0 := (bB _).trans n0
 obtain ⟨M0, H⟩ := iD_ H
 obtain ⟨N0, H⟩ := iD_ H
 have H' := c_ H
 clear H
 have p8 := Aa (oD_ : 0 ≤ ((t0) : Int))
 have q8 := Aa (oD_ : (t0) < (a0.size : Int))
 have Q0 := cY a0 (t0)
 go_wp2
 go_loopg [5, 6] k1 (fun kq v5 v6 w' => ∃ (p0 : Int) (k0 : Int), v5 = .int .i64 p0 ∧ v6 = .int .i64 k0 ∧ aa (bf.l1 kq a0 f0 b0 p0 k0 = some r) ∧ aa (kq ≤ k1) ∧ aa (Kd.R (Kd.int .i64) 3 w' w.heap.size (fun _ => True) u3 f0) ∧ aa (Below w.heap.size w w'))
 case atStart => exact ⟨(wrap64 (bt a0 (t0))), (0), (by first | rfl | (simp; done) | (simp only [← n0] <;> (first | rfl | simp)) | (simp [*]; done)), f0_, H', ⟨Ca _⟩, ⟨rR_ j0.o⟩, ⟨hB_⟩⟩
 clear H'
 obtain ⟨p0, k0, rfl, rfl, HA, C0, j0, HB⟩ := hrel
 rcases gk with _ | k2
 ·exact absurd HA.o (by simp [bf.l1])
 have H := HA.o
 clear HA
 simp only [bf.l1] at H
 by_cases c9 : k0 < (Int.tmod b0 8)
 ·rw [Fa c9] at H
  have F0 := ya c9
  clear c9
  have H' := c_ H
  clear H
  go_wp2
  go_roundg k2
  case measure => have := B0.o; have := C0.o; omega
  case rel => exact ⟨(wrap64 (Int.tdiv p0 2)), (wrap64 (k0 + 1)), f0_, f0_, H', ⟨by have := B0.o; have := C0.o; omega⟩, ⟨rR_ j0.o⟩, ⟨hB_⟩⟩
 rw [Ga c9] at H
 have F0 := za c9
 clear c9
 obtain ⟨G0, O0, H⟩ := bN_ H
 obtain ⟨K0, H⟩ := iN_ H
 have v0 := c_ K0
 clear K0
 obtain ⟨H0, e0⟩ : ∃ y_ : List Int, y_ = (f0 ++ [G0]) := ⟨_, rfl⟩
 first | replace H := yb_ e0 H | rw [← e0] at H
 have x0 := c_ e0
 clear e0
 have H' := c_ H
 clear H
 go_wp2_with (first | (refine gp_ (k_ 28 Tryz.func112) (bA.calls _ _ _ _ _ O0.o) fun nd => ?_) | (refine ga_ 25 29 ?_; at_builtin; refine ap_ j0 x0 v0 Tryz.underlying33 di fun P0 R0 y0 HB hg hat => ?_))
 go_roundg k2
 case measure => have := B0.o; have := C0.o; omega
 case rel => exact ⟨(H0), (wrap64 (b0 + 1)), f0_, H', ⟨by have := B0.o; have := C0.o; omega⟩, ⟨rR_ y0.o⟩, ⟨hB_⟩⟩
def cH.l0 : Nat → Int → List Int → Int → Int → Option (Int)
 | 0, _, _, _, _ => none
 | k + 1, x6, x14, x15, x16 => if x16 < x15 then (if 0 ≤ x16 then (if x16 < (x14.length : Int) then (cH.l0 k (mx x6 (mn (rd x14 x16) (wrap64 (3329 - (rd x14 x16))))) x14 x15 (wrap64 (x16 + 1))) else (none)) else (none)) else (some x6)
def cH.f (k : Nat) (l0 : List Int) (l1 : List Int) : Option (Int) := (b7.f k l0 l1).bind fun t1043 => (if (t1043.length : Int) = 0 then (some (-1)) else (cH.l0 k 0 t1043 (t1043.length : Int) 0))
theorem cH.mono_l : ∀ k, (∀ y0 y1 y2 y3, LeO (cH.l0 k y0 y1 y2 y3) (cH.l0 (k + 1) y0 y1 y2 y3))
 | 0 => fun _ _ _ _ r h => by simp [cH.l0] at h
 | k + 1 => by
  have ih0 := cH.mono_l k
  intros; unfold cH.l0; exact o2_ ih0 b7.mono
theorem cH.mono : ∀ a0 a1 k, LeO (cH.f k a0 a1) (cH.f (k + 1) a0 a1) := by
 intro a0 a1 k
 have ih0 := cH.mono_l k
 unfold cH.f
 exact o2_ ih0 b7.mono
theorem cH.far_nil (w : World) : (Go.binOp .eql 33 (.slice none 0 0) (.slice none 0 0)).run Tryz.prog w = .ok (.bool true) w := Lib.run_eql_slice_nil w 33 _ none 0 0 0 0 Tryz.underlying33
theorem cH.far_some (w : World) (g : Addr) (n c : Nat) : (Go.binOp .eql 33 (.slice (some g) n c) (.slice none 0 0)).run Tryz.prog w = .ok (.bool false) w := Lib.run_eql_slice_nil w 33 _ (some g) n c 0 0 Tryz.underlying33
attribute [local go_sem] cH.far_nil cH.far_some
theorem cH.calls (k : Nat) (A0 : Option Addr) (c0 : Nat) (l0 : List Int) (A1 : Option Addr) (c1 : Nat) (l1 : List Int) (r : Int) (w : World) (hr0 : Kd.C (Kd.int .i64) w A0 l0.length l0) (hc0 : l0.length ≤ c0) (hr1 : Kd.C (Kd.int .i64) w A1 l1.length l1) (hc1 : l1.length ≤ c1) (h : cH.f k l0 l1 = some r) :
  Calls Tryz.prog 42 #[.slice A0 l0.length c0, .slice A1 l1.length c1] w fun e w' => e = .returned (.int .i64 r) ∧ Below w.heap.size w w' := by
 have G0 := c_ hr0
 have H0 := c_ hc0
 clear hr0 hc0
 have I0 := c_ hr1
 have J0 := c_ hc1
 clear hr1 hc1
 have HB := c_ (Da w.heap.size w)
 delta cH.f at h
 have H := h
 clear h
 obtain ⟨a0, A3, H⟩ := bN_ H
 by_cases c4 : (a0.length : Int) = 0
 ·rw [Fa c4] at H
  have r0 : ((a0.length : Int) == 0) = true := beq_iff_eq.mpr c4
  have B0 : ((a0.length : Int) != 0) = false := bne_eq_false_iff_eq.mpr c4
  clear c4
  obtain rfl := Ba H
  obtain rfl : a0 = [] := List.eq_nil_of_length_eq_zero (by have P0 := beq_iff_eq.mp r0; omega)
  go_enter Tryz.func42, Tryz.ntmps42
  go_wp2_with (first | (refine gq_ 78 (some 11) Tryz.func78 #[.slice A0 l0.length c0, .slice A1 l1.length c1] (b7.calls_nil k _ _ l0 _ _ l1 _ ?side1 ?side2 ?side3 ?side4 A3.o) ?_; (case side1 => exact cR_ G0.o); (case side2 => exact H0.o); (case side3 => exact cR_ I0.o); (case side4 => exact J0.o); rintro e w5 ⟨rfl, hb⟩; refine ⟨_, rfl, ?_⟩; have n1_ := c_ (du (hB_) hb); replace HB := n1_; clear n1_; (try clear Q0)))
  go_ret
  exact ⟨f1_, hB_⟩
 rw [Ga c4] at H
 have r0 : ((a0.length : Int) == 0) = false := beq_eq_false_iff_ne.mpr c4
 have B0 : ((a0.length : Int) != 0) = true := bne_iff_ne.mpr c4
 have HNE := c_ (show ¬ (a0 = []) from fun h_ => c4 (by rw [h_]; rfl))
 have H' := c_ H
 clear H
 go_enter Tryz.func42, Tryz.ntmps42
 go_wp2_with (first | (refine gR_ (k_ 11 Tryz.func78) (b7.calls _ _ _ _ _ _ _ _ _ (cR_ G0.o) H0.o (cR_ I0.o) J0.o A3.o) fun t0 w7 ho_ hb => ?_; obtain ⟨f0, HB⟩ := n_ (lR_ ho_) <| sB_; obtain ⟨ad_, N0, eo_⟩ : ∃ (ad_ : Addr) (c_ : Nat), t0 = .slice (some ad_) a0.length c_ := (by obtain ⟨g_, c_, eo_, _⟩ := vm f0.o (List.length_pos_iff.mpr HNE.o); exact ⟨_, _, eo_⟩); subst eo_))
 go_loopg [6, 16] k (fun kq v6 O0 w' => ∃ (e0 : Int) (b0 : Int), v6 = .int .i64 e0 ∧ O0 = .int .i64 b0 ∧ aa (cH.l0 kq e0 a0 (a0.length : Int) b0 = some r) ∧ aa (kq ≤ k) ∧ aa (Kd.R (Kd.int .i64) 3 w' w.heap.size (fun _ => True) (.slice (some ad_) a0.length N0) a0) ∧ aa (Below w.heap.size w w'))
 case atStart => exact ⟨(0), (0), f0_, f0_, H', ⟨Ca _⟩, ⟨rR_ f0.o⟩, ⟨hB_⟩⟩
 clear H'
 obtain ⟨e0, b0, rfl, rfl, HA, K0, q0, HB⟩ := hrel
 rcases gk with _ | k1
 ·exact absurd HA.o (by simp [cH.l0])
 have H := HA.o
 clear HA
 simp only [cH.l0] at H
 by_cases c9 : b0 < (a0.length : Int)
 ·rw [Fa c9] at H
  have C0 := ya c9
  clear c9
  obtain ⟨L0, H⟩ := iD_ H
  obtain ⟨M0, H⟩ := iD_ H
  obtain ⟨p0, j0⟩ : ∃ j_ : Int, (mn (rd a0 b0) (wrap64 (3329 - (rd a0 b0)))) = j_ := ⟨_, rfl⟩
  first | rw [j0] at H | simp only [j0] at H
  have D0 : (if (wrap64 (3329 - (rd a0 b0))) < (rd a0 b0) then (wrap64 (3329 - (rd a0 b0))) else (rd a0 b0)) = p0 := j0
  obtain ⟨v0, d0⟩ : ∃ j_ : Int, (mx e0 (p0)) = j_ := ⟨_, rfl⟩
  first | rw [d0] at H | simp only [d0] at H
  have E0 : (if e0 < (p0) then (p0) else e0) = v0 := d0
  have H' := c_ H
  clear H
  have k0 : 0 ≤ (b0 : Int) := oD_
  have n0 : b0 < (a0.length : Int) := oD_
  obtain ⟨F0, x0, y0⟩ := uX (uU q0.o).2.2 b0 k0 n0
  cases x0
  replace k0 := Aa k0
  replace n0 := Aa n0
  go_wp2
  go_roundg k1
  case measure => have := K0.o; omega
  case rel => exact ⟨(v0), (wrap64 (b0 + 1)), (by first | rfl | (simp; done) | (simp only [← d0] <;> (first | rfl | simp)) | (simp [*]; done)), f0_, H', ⟨by have := K0.o; omega⟩, ⟨rR_ q0.o⟩, ⟨hB_⟩⟩
 rw [Ga c9] at H
 have C0 := za c9
 clear c9
 obtain rfl := Ba H
 go_wp2
 go_ret
 exact ⟨f1_, hB_⟩
def bW.j0 : Nat → ByteArray → List Int → Bool → Option (Int)
 | 0, _, _, _ => none
 | k + 1, x1, x7, x21 => if x21 = true then (some (-1)) else ((bJ.f k x1).bind fun t1051 => ((cH.f k x7 t1051).bind fun t1054 => (some t1054)))
def bW.f (k : Nat) (a0 : ByteArray) (a1 : ByteArray) (a2 : ByteArray) : Option (Int) := (bb.f k a0 a2).bind fun bt1047 => (if bt1047.2 = true then (bW.j0 k a1 bt1047.1 ((a1.size : Int) != 32)) else (bW.j0 k a1 bt1047.1 true))
theorem bW.mono_l : ∀ k, (∀ y0 y1 y2, LeO (bW.j0 k y0 y1 y2) (bW.j0 (k + 1) y0 y1 y2))
 | 0 => fun _ _ _ r h => by simp [bW.j0] at h
 | k + 1 => by
  have ih0 := bW.mono_l k
  intros; unfold bW.j0; exact o4_ ih0 cH.mono bJ.mono bb.mono
theorem bW.mono : ∀ a0 a1 a2 k, LeO (bW.f k a0 a1 a2) (bW.f (k + 1) a0 a1 a2) := by
 intro a0 a1 a2 k
 have ih0 := bW.mono_l k
 unfold bW.f
 exact o4_ ih0 cH.mono bJ.mono bb.mono
theorem bW.calls (k : Nat) (a0 : ByteArray) (a1 : ByteArray) (a2 : ByteArray) (r : Int) (w : World) (h : bW.f k a0 a1 a2 = some r) :
  Calls Tryz.prog 13 #[.string a0, .string a1, .string a2] w fun e w' => e = .returned (.int .i64 r) ∧ Below w.heap.size w w' := by
 have HB := c_ (Da w.heap.size w)
 delta bW.f at h
 have H := h
 clear h
 obtain ⟨⟨k0, n0⟩, A4, H⟩ := bN_ H
 have q0 := c_ H
 clear H
 go_enter Tryz.func13, Tryz.ntmps13
 go_upto_region 2 with (first | (refine gR_ (k_ 12 Tryz.func41) (bb.calls _ _ _ _ _ _ A4.o) fun p0 w6 ho_ hb => ?_; obtain ⟨f0, HB⟩ := n_ (lR_ ho_) <| sB_))
 (try simp only [Act.put, List.setIfInBounds_toArray, List.set_cons_zero, List.set_cons_succ])
 go_cut [21] (fun B0 wc => ∃ (kq : Nat) (e0 : Bool), B0 = .bool e0 ∧ aa (bW.j0 kq a1 k0 e0 = some r) ∧ aa (kq ≤ k) ∧ aa (Kd.R (Kd.int .i64) 3 wc w.heap.size (fun _ => True) p0 k0) ∧ aa (Below w.heap.size w wc))
 case first =>
  have H := q0.o
  clear q0
  by_cases c7 : n0 = true
  ·subst c7
   replace H := iT_ H
   have H' := c_ H
   clear H
   go_wp2
   go_meet
   case rel => exact ⟨_, (((a1.size : Int) != 32)), f0_, H', ⟨by first | omega | exact Ca _⟩, ⟨rR_ f0.o⟩, ⟨hB_⟩⟩
  ·replace c7 := Ea c7
   subst c7
   replace H := iF_ H
   have H' := c_ H
   clear H
   go_wp2
   go_meet
   case rel => exact ⟨_, (true), f0_, H', ⟨by first | omega | exact Ca _⟩, ⟨rR_ f0.o⟩, ⟨hB_⟩⟩
 clear q0
 obtain ⟨kq, e0, rfl, HA, H0, d0, HB⟩ := hcut
 rcases kq with _ | I0
 ·exact absurd HA.o (by simp [bW.j0])
 have H := HA.o
 clear HA
 simp only [bW.j0] at H
 by_cases c8 : e0 = true
 ·subst c8
  replace H := iT_ H
  obtain rfl := Ba H
  go_wp2
  go_ret
  exact ⟨f1_, hB_⟩
 ·replace c8 := Ea c8
  subst c8
  replace H := iF_ H
  obtain ⟨v0, A9, H⟩ := bN_ H
  obtain ⟨x0, C0, H⟩ := bN_ H
  obtain rfl := Ba H
  go_wp2_with (first | (refine gR_ (k_ 24 Tryz.func40) (bJ.calls _ _ _ _ A9.o) fun y0 J0 ho_ hb => ?_; obtain ⟨d0, b0, HB⟩ := n_ (cJ d0) <| n_ (lR_ (cN ho_ d0)) <| sB_; obtain ⟨D0, E0, r0⟩ := uV d0.o; subst r0; obtain ⟨F0, G0, t0⟩ := uV b0.o; subst t0) | (refine gc_ (k_ 25 Tryz.func42) (cH.calls _ _ _ _ _ _ _ _ _ (cR_ (uU d0.o).2.2) ((uU d0.o).2.1) (cR_ (uU b0.o).2.2) ((uU b0.o).2.1) C0.o) fun K0 hb => ?_; obtain ⟨d0, b0, HB⟩ := n_ (fR_ d0) <| n_ (fR_ b0) <| sB_))
  go_ret
  exact ⟨f1_, hB_⟩
end Go.Proofs.YtmiackbomcjboaaGreatDoor.P
