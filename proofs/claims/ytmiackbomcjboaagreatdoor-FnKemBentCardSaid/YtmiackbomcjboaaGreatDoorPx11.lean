-- printed texts of this session, regrouped
import Derived.Test.YtmiackbomcjboaaGreatDoorPx8
import Derived.Test.YtmiackbomcjboaaGreatDoorPx10
namespace Go.Proofs.YtmiackbomcjboaaGreatDoor.P
open Go.RowKit YtmiackbomcjboaaGreatDoorW.PrintWords YtmiackbomcjboaaGreatDoorW.PrintLast YtmiackbomcjboaaGreatDoorW.PrintMore
open Kd
attribute [local go_sem] d9 eg eV eU dK dL d8 eh
set_option linter.unusedVariables false
set_option linter.unusedSimpArgs false
set_option maxHeartbeats 8000000
set_option maxRecDepth 100000
mutual
def bq.l0 : Nat → ByteArray → ByteArray → ByteArray → List (List Int) → List (List Int) → ByteArray → ByteArray → Int → Option (ByteArray × ByteArray × Bool)
 | 0, _, _, _, _, _, _, _, _ => none
 | k + 1, x4, x5, x6, x7, x8, x9, x10, x11 => if x11 < 2 then ((bz.f k x6 x11).bind fun t464 => ((ba.f k t464).bind fun t467 => (if x8.length < 5864062014805 then ((cp.f k t467).bind fun t473 => (if x10.size + t473.size ≤ 9223372036854775807 then (bq.l0 k x4 x5 x6 x7 (x8 ++ [t467]) x9 (x10 ++ t473) (wrap64 (x11 + 1))) else (none))) else (none)))) else (bq.l1 k x4 x5 x6 x7 x8 x9 x10 0)
def bq.l1 : Nat → ByteArray → ByteArray → ByteArray → List (List Int) → List (List Int) → ByteArray → ByteArray → Int → Option (ByteArray × ByteArray × Bool)
 | 0, _, _, _, _, _, _, _, _ => none
 | k + 1, x4, x5, x6, x7, x8, x9, x10, x13 => if x13 < 2 then (if 0 ≤ (wrap64 (x13 * 2)) then (if (wrap64 (x13 * 2)) ≤ (wrap64 ((wrap64 (x13 * 2)) + 2)) then (if (wrap64 ((wrap64 (x13 * 2)) + 2)) ≤ (x7.length : Int) then ((aV.f k ((x7.take ((wrap64 ((wrap64 (x13 * 2)) + 2)) : Int).toNat).drop ((wrap64 (x13 * 2)) : Int).toNat) x8).bind fun t480 => ((bz.f k x6 (wrap64 (2 + x13))).bind fun t483 => ((ba.f k t483).bind fun t486 => ((aG.f k t480 t486).bind fun t489 => ((cp.f k t489).bind fun t492 => (if x9.size + t492.size ≤ 9223372036854775807 then (bq.l1 k x4 x5 x6 x7 x8 (x9 ++ t492) x10 (wrap64 (x13 + 1))) else (none))))))) else (none)) else (none)) else (none)) else (if x9.size + x5.size ≤ 9223372036854775807 then (if x10.size + (x9 ++ x5).size ≤ 9223372036854775807 then ((bc.f k (x9 ++ x5)).bind fun t474 => (if (x10 ++ (x9 ++ x5)).size + t474.size ≤ 9223372036854775807 then (if x4.size + 1 ≤ 9223372036854775807 then ((bc.f k (x4 ++ (⟨#[122]⟩ : ByteArray))).bind fun t475 => (if ((x10 ++ (x9 ++ x5)) ++ t474).size + t475.size ≤ 9223372036854775807 then (some (x9 ++ x5, ((x10 ++ (x9 ++ x5)) ++ t474) ++ t475, true)) else (none))) else (none)) else (none))) else (none)) else (none))
end
def bq.f (k : Nat) (a0 : ByteArray) : Option (ByteArray × ByteArray × Bool) := if (a0.size : Int) = 32 then ((bc.f k a0).bind fun t455 => (if t455.size + 1 ≤ 9223372036854775807 then ((bc.f k (t455 ++ (⟨#[114]⟩ : ByteArray))).bind fun t456 => ((bc.f k (t455 ++ (⟨#[115]⟩ : ByteArray))).bind fun t457 => ((az.f k t456).bind fun t458 => (bq.l0 k t455 t456 t457 t458 (([] : List (List Int))) (⟨#[]⟩ : ByteArray) (⟨#[]⟩ : ByteArray) 0)))) else (none))) else (some ((⟨#[]⟩ : ByteArray), (⟨#[]⟩ : ByteArray), false))
theorem bq.mono_l : ∀ k, (∀ y0 y1 y2 y3 y4 y5 y6 y7, LeO (bq.l0 k y0 y1 y2 y3 y4 y5 y6 y7) (bq.l0 (k + 1) y0 y1 y2 y3 y4 y5 y6 y7)) ∧ (∀ y0 y1 y2 y3 y4 y5 y6 y7, LeO (bq.l1 k y0 y1 y2 y3 y4 y5 y6 y7) (bq.l1 (k + 1) y0 y1 y2 y3 y4 y5 y6 y7))
 | 0 => ⟨fun _ _ _ _ _ _ _ _ r h => by simp [bq.l0] at h, fun _ _ _ _ _ _ _ _ r h => by simp [bq.l1] at h⟩
 | k + 1 => by
  obtain ⟨ih0, ih1⟩ := bq.mono_l k
  refine ⟨?_, ?_⟩ <;> (intros; (first | unfold bq.l0 | unfold bq.l1); exact o9_ ih0 ih1 bc.mono ba.mono aG.mono cp.mono bz.mono az.mono aV.mono)
theorem bq.mono : ∀ a0 k, LeO (bq.f k a0) (bq.f (k + 1) a0) := by
 intro a0 k
 obtain ⟨ih0, ih1⟩ := bq.mono_l k
 unfold bq.f
 exact o9_ ih0 ih1 bc.mono ba.mono aG.mono cp.mono bz.mono az.mono aV.mono
theorem bq.calls (k : Nat) (a0 : ByteArray) (r1 : ByteArray) (r2 : ByteArray) (r3 : Bool) (w : World) (h : bq.f k a0 = some (r1, r2, r3)) :
  Calls Tryz.prog 6 #[.string a0] w fun e w' => e = .returned (.tuple #[.agg #[.string r1, .string r2], .bool r3]) ∧ Below w.heap.size w w' := by
 have hu27 := Tryz.underlying27
 have HB := c_ (Da w.heap.size w)
 delta bq.f at h
 have H := h
 clear h
 by_cases c2 : (a0.size : Int) = 32
 rotate_left
 ·rw [Ga c2] at H
  have S1 : ((a0.size : Int) == 32) = false := beq_eq_false_iff_ne.mpr c2
  have T1 : ((a0.size : Int) != 32) = true := bne_iff_ne.mpr c2
  simp only [Option.some.injEq, Prod.mk.injEq] at H
  obtain ⟨rfl, rfl, rfl⟩ := H
  go_enter Tryz.func6, Tryz.ntmps6
  go_wp2_with (first | (refine bx_ 2 #[.string (⟨#[]⟩ : ByteArray), .string (⟨#[]⟩ : ByteArray)] 27 fun r0 C2 hb HB b0 t0 => ?_; have J1 : C2.cell? ⟨r0, 0, none⟩ = some (.string (⟨#[]⟩ : ByteArray)) := (ak b0.o 0).trans rfl; have K1 : C2.cell? ⟨r0, 1, none⟩ = some (.string (⟨#[]⟩ : ByteArray)) := (ak b0.o 1).trans rfl; have L1 := ag b0.o 0; have M1 := ag b0.o 1))
  refine bodyPost_ret (gQ rfl _ _ r0 27 #[.string (⟨#[]⟩ : ByteArray), .string (⟨#[]⟩ : ByteArray)] (0, 0) _ rfl (by refine kK_ ?_; refine ca (cs := #[.string (⟨#[]⟩ : ByteArray), .string (⟨#[]⟩ : ByteArray)]) ?_ 1 _ rfl; refine kK_ ?_; refine ca (cs := #[.string (⟨#[]⟩ : ByteArray), .string (⟨#[]⟩ : ByteArray)]) ?_ 0 _ rfl; exact rK_ b0.o) Tryz.underlying27 rfl (by kernel_rfl)) rfl ?_
  exact ⟨f1_, hS_ t0.o⟩
 rw [Fa c2] at H
 have S1 : ((a0.size : Int) == 32) = true := beq_iff_eq.mpr c2
 have T1 : ((a0.size : Int) != 32) = false := bne_eq_false_iff_eq.mpr c2
 clear c2
 obtain ⟨T0, A3, H⟩ := bN_ H
 obtain ⟨c4, H⟩ := iN_ H
 have n3 := Aa c4
 have p3 := ya c4
 try have q3 : (9223372036854775807 < T0.size + 1) = False := eq_false (Nat.not_lt.2 c4)
 obtain ⟨y0, A5, H⟩ := bN_ H
 obtain ⟨m1, A6, H⟩ := bN_ H
 obtain ⟨B0, A7, H⟩ := bN_ H
 obtain ⟨U1, I0⟩ : ∃ y_ : List (List Int), y_ = (([] : List (List Int))) := ⟨_, rfl⟩
 first | replace H := yb_ I0 H | rw [← I0] at H
 have Z0 := c_ I0
 clear I0
 have H' := c_ H
 clear H
 go_enter Tryz.func6, Tryz.ntmps6
 go_wp2_with (first | (refine bx_ 2 #[.string (⟨#[]⟩ : ByteArray), .string (⟨#[]⟩ : ByteArray)] 27 fun r0 w8 hb HB b0 t0 => ?_) | (refine gc_ (k_ 20 Tryz.func15) (bc.calls _ _ _ _ A3.o) fun w9 hb => ?_; obtain ⟨b0, HB⟩ := n_ (fK_ b0) <| sB_) | (refine gc_ (k_ 23 Tryz.func15) (bc.calls _ _ _ _ A5.o) fun q4 hb => ?_; obtain ⟨b0, HB⟩ := n_ (fK_ b0) <| sB_) | (refine gc_ (k_ 26 Tryz.func15) (bc.calls _ _ _ _ A6.o) fun t4 hb => ?_; obtain ⟨b0, HB⟩ := n_ (fK_ b0) <| sB_) | (refine gR_ (k_ 28 Tryz.func18) (az.calls _ _ _ _ A7.o) fun G0 v4 ho_ hb => ?_; obtain ⟨J0, b0, HB⟩ := n_ (lS_ ho_) <| n_ (fK_ b0) <| sB_) | ((refine cQ (N := 29) rfl ?_); refine wN (Kd.slice 3 (Kd.int .i64)) _ 33 ?hg (N := 29) ?hd (xs := ([] : List (List Int))) (inner := []) (ok := fun _ => True) (okp := fun _ => True) ?hr ?hp (fun _ hk => hk) trivial (Da _ _) (Ca _) (by simp) ?_; (case hd => rfl); (case hg => rfl); (case hr => first | (go_simp; done) | (go_simp; rfl)); (case hp => exact (eM.none _ _)); intro t3 w4 M0 hb hg_ hnew_; clear hg_ hnew_; (first | rw [← Z0.o] at M0 | (simp only [Int.reduceToNat] at M0; rw [← Z0.o] at M0)); obtain ⟨J0, n1, b0, HB⟩ := b_ (vc (rS_ J0.o) (vT M0) hb) <| b_ (vI (vN M0 (wV (rS_ J0.o))) (av (hS_ t0.o))) <| n_ (fK_ b0) <| sB_; clear hb M0))
 go_loopg [8, 10, 11] k (fun kq v8 v3 w3 w' => ∃ (H0 : List (List Int)) (k0 : ByteArray) (E0 : Int), v3 = .string k0 ∧ w3 = .int .i64 E0 ∧ aa (bq.l0 kq T0 y0 m1 B0 H0 (⟨#[]⟩ : ByteArray) k0 E0 = some (r1, r2, r3)) ∧ aa (kq ≤ k) ∧ aa (Kd.S (Kd.slice 3 (Kd.int .i64)) 33 w' w.heap.size (fun k_ => some k_ ≠ (v8 : Value).ownBlock) G0 B0) ∧ aa (Kd.S (Kd.slice 3 (Kd.int .i64)) 33 w' w.heap.size (fun k_ => some k_ ≠ (G0 : Value).ownBlock) v8 H0) ∧ aa (w'.heap[r0]? = some (.cells #[.string (⟨#[]⟩ : ByteArray), .string (⟨#[]⟩ : ByteArray)] 27 (0, 0))) ∧ aa (Below w.heap.size w w'))
 case atStart => exact ⟨(U1), ((⟨#[]⟩ : ByteArray)), (0), f0_, f0_, H', ⟨Ca _⟩, ⟨by refine kS_ ?_; exact vi J0.o (fun _ hk => hk.2)⟩, ⟨by refine kS_ ?_; exact vi n1.o (fun _ hk => hk.2)⟩, ⟨by refine kK_ ?_; exact b0.o⟩, ⟨hS_ t0.o⟩⟩
 clear H'
 obtain ⟨H0, k0, E0, rfl, rfl, HA, N1, d0, e0, b0, HB⟩ := hrel
 rcases gk with _ | k1
 ·exact absurd HA.o (by simp [bq.l0])
 have H := HA.o
 clear HA
 simp only [bq.l0] at H
 by_cases i1 : E0 < 2
 ·rw [Fa i1] at H
  have p1 := ya i1
  clear i1
  obtain ⟨U0, y3, H⟩ := bN_ H
  obtain ⟨N0, z3, H⟩ := bN_ H
  obtain ⟨D2, H⟩ := iN_ H
  have q1 := c_ D2
  clear D2
  obtain ⟨V1, K0⟩ : ∃ y_ : List (List Int), y_ = (H0 ++ [N0]) := ⟨_, rfl⟩
  first | replace H := yb_ K0 H | rw [← K0] at H
  have t1 := c_ K0
  clear K0
  obtain ⟨y1, B3, H⟩ := bN_ H
  obtain ⟨X1, H⟩ := iN_ H
  have E2 := Aa X1
  have F2 := ya X1
  try have G2 : (9223372036854775807 < k0.size + y1.size) = False := eq_false (Nat.not_lt.2 X1)
  have H' := c_ H
  clear H
  go_wp2_with (first | (refine gR_ (k_ 36 Tryz.func20) (bz.calls _ _ _ _ _ y3.o) fun C3 y4 ho_ hb => ?_; obtain ⟨d0, e0, p0, b0, HB⟩ := n_ (dr d0) <| n_ (dr e0) <| n_ (lR_ ho_) <| n_ (fK_ b0) <| sB_; obtain ⟨V0, W0, Y1⟩ := uV p0.o; subst Y1) | (refine gR_ (k_ 37 Tryz.func19) (ba.calls _ _ _ _ _ _ (cR_ (uU p0.o).2.2) ((uU p0.o).2.1) z3.o) fun D3 z4 ho_ hb => ?_; obtain ⟨d0, e0, p0, C0, b0, HB⟩ := n_ (dr d0) <| n_ (dr e0) <| n_ (cJ p0) <| n_ (lR_ (cN ho_ p0)) <| n_ (fK_ b0) <| sB_; obtain ⟨e1, f1, Z1⟩ := uV C0.o; subst Z1) | ((refine cr (b := .append) (xs := #[.tmp 38, .tmp 40]) rfl ?_); at_builtin; refine vu (Kd.slice 3 (Kd.int .i64)) (w0 := w) w.heap.size rfl (.tmp 38) (.tmp 40) 44 33 (.slice none 0 0) 24 rfl Tryz.underlying44 gu rfl (by decide) (by omega) u8 H0 N0 [.slice e1 N0.length f1] (fun k_ => some k_ ≠ (G0 : Value).ownBlock ∧ some k_ ≠ (.slice V0 U0.length W0 : Value).ownBlock) (fun k_ => some k_ = (.slice e1 N0.length f1 : Value).ownBlock) rfl rfl ?aP (fun k_ hk_ => ((uW (ok' := fun k_ => ((fun k_ => some k_ ≠ (G0 : Value).ownBlock ∧ some k_ ≠ (.slice V0 U0.length W0 : Value).ownBlock)) k_ ∧ some k_ ≠ (u8 : Value).ownBlock) (va (va (C0.o) (ve d0.o) (by decide)) (ve e0.o) (by decide)) (fun k_ hk => ⟨⟨hk.1.2, hk.1.1.2⟩, hk.2⟩))).1 k_ hk_.symm) ?aF ?aO ?aB ?aS ?aL ?_; (case aP => exact vY (uW (vx rfl (uW (ok' := fun k_ => ((fun k_ => some k_ ≠ (G0 : Value).ownBlock ∧ some k_ ≠ (.slice V0 U0.length W0 : Value).ownBlock)) k_ ∧ some k_ ≠ (u8 : Value).ownBlock) (va (va (C0.o) (ve d0.o) (by decide)) (ve e0.o) (by decide)) (fun k_ hk => ⟨⟨hk.1.2, hk.1.1.2⟩, hk.2⟩))) (fun _ h_ => h_))); (case aB => exact (hS_ t0.o)); (case aF => exact (fun k_ hk => ⟨Kd.fresh' (wV (rS_ d0.o)) k_ hk, Kd.fresh' (vF (rR_ p0.o)) k_ hk⟩)); (case aO => exact (by refine kS_ ?_; exact vi e0.o (fun k_ hk => ⟨⟨hk.1.1, hk.1.2⟩, fun e_ => hk.2 e_⟩))); (case aS => exact (av (hS_ t0.o))); (case aL => have := q1.o; omega); intro E3 A4 ho hb hg hat; rw [← t1.o] at ho; obtain ⟨d0, b0, p0, C0, HB, O0⟩ := b_ (wv (ok := (fun k_ => some k_ ≠ (.slice V0 U0.length W0 : Value).ownBlock ∧ some k_ ≠ (.slice e1 N0.length f1 : Value).ownBlock)) (by refine kS_ ?_; exact vi d0.o (fun _ hk => ⟨⟨hk.1.2, hk.2⟩, hk.1.1⟩)) hg hat) <| b_ (fF (g := r0) (o := .cells #[.string (⟨#[]⟩ : ByteArray), .string (⟨#[]⟩ : ByteArray)] 27 (0, 0)) (rK_ b0.o) hg (xU e0.o b0.o (by decide))) <| b_ (vQ (rR_ p0.o) (ve (rS_ e0.o)) (by decide) hg) <| b_ (vQ (rR_ C0.o) (ve (rS_ e0.o)) (by decide) hg) <| b_ (hb) <| c_ (ho); clear ho hb hg hat) | (refine gc_ (k_ 44 Tryz.func21) (cp.calls _ _ _ _ _ _ (cR_ (uU C0.o).2.2) ((uU C0.o).2.1) B3.o) fun B4 hb => ?_; obtain ⟨d0, p0, O0, b0, HB⟩ := n_ (fS_ d0) <| n_ (fR_ p0) <| n_ (fS_ O0) <| n_ (fK_ b0) <| sB_))
  go_roundg k1
  case measure => have := N1.o; omega
  case rel => exact ⟨(V1), (k0 ++ y1), (wrap64 (E0 + 1)), f0_, f0_, H', ⟨by have := N1.o; omega⟩, ⟨by refine kS_ ?_; exact vi d0.o (fun _ hk => hk.2)⟩, ⟨by refine kS_ ?_; exact vi O0.o (fun _ hk => hk.1)⟩, ⟨by refine kK_ ?_; exact b0.o⟩, ⟨hS_ t0.o⟩⟩
 rw [Ga i1] at H
 have p1 := za i1
 clear i1
 have H' := c_ H
 clear H
 go_wp2
 go_loopg [9, 13] k1 (fun kq v9 F3 w' => ∃ (v0 : ByteArray) (D0 : Int), v9 = .string v0 ∧ F3 = .int .i64 D0 ∧ aa (bq.l1 kq T0 y0 m1 B0 H0 v0 k0 D0 = some (r1, r2, r3)) ∧ aa (kq ≤ k1) ∧ aa (Kd.S (Kd.slice 3 (Kd.int .i64)) 33 w' w.heap.size (fun k_ => some k_ ≠ (u8 : Value).ownBlock) G0 B0) ∧ aa (Kd.S (Kd.slice 3 (Kd.int .i64)) 33 w' w.heap.size (fun k_ => some k_ ≠ (G0 : Value).ownBlock) u8 H0) ∧ aa (w'.heap[r0]? = some (.cells #[.string (⟨#[]⟩ : ByteArray), .string (⟨#[]⟩ : ByteArray)] 27 (0, 0))) ∧ aa (Below w.heap.size w w'))
 case atStart => exact ⟨((⟨#[]⟩ : ByteArray)), (0), f0_, f0_, H', ⟨Ca _⟩, ⟨rS_ d0.o⟩, ⟨rS_ e0.o⟩, ⟨by refine kK_ ?_; exact b0.o⟩, ⟨hS_ t0.o⟩⟩
 clear H'
 obtain ⟨v0, D0, rfl, rfl, HA, H2, d0, e0, b0, HB⟩ := hrel
 rcases gk with _ | k2
 ·exact absurd HA.o (by simp [bq.l1])
 have H := HA.o
 clear HA
 simp only [bq.l1] at H
 by_cases j1 : D0 < 2
 rotate_left
 ·rw [Ga j1] at H
  have z1 := za j1
  clear j1
  obtain ⟨b2, H⟩ := iN_ H
  have I2 := Aa b2
  have J2 := ya b2
  try have K2 : (9223372036854775807 < v0.size + y0.size) = False := eq_false (Nat.not_lt.2 b2)
  obtain ⟨f2, H⟩ := iN_ H
  have L2 := Aa f2
  have M2 := ya f2
  try have B1 : (9223372036854775807 < k0.size + (v0 ++ y0).size) = False := eq_false (Nat.not_lt.2 f2)
  try (have C1 : (9223372036854775807 < k0.size + (v0 ++ y0).size) = False := B1; simp only [ByteArray.size_append] at C1)
  obtain ⟨P0, G3, H⟩ := bN_ H
  obtain ⟨g2, H⟩ := iN_ H
  have N2 := Aa g2
  have O2 := ya g2
  try have D1 : (9223372036854775807 < (k0 ++ (v0 ++ y0)).size + P0.size) = False := eq_false (Nat.not_lt.2 g2)
  try (have E1 : (9223372036854775807 < (k0 ++ (v0 ++ y0)).size + P0.size) = False := D1; simp only [ByteArray.size_append] at E1)
  obtain ⟨i2, H⟩ := iN_ H
  have P2 := Aa i2
  have Q2 := ya i2
  try have R2 : (9223372036854775807 < T0.size + 1) = False := eq_false (Nat.not_lt.2 i2)
  obtain ⟨g1, H3, H⟩ := bN_ H
  obtain ⟨j2, H⟩ := iN_ H
  have T2 := Aa j2
  have U2 := ya j2
  try have F1 : (9223372036854775807 < ((k0 ++ (v0 ++ y0)) ++ P0).size + g1.size) = False := eq_false (Nat.not_lt.2 j2)
  try (have G1 : (9223372036854775807 < ((k0 ++ (v0 ++ y0)) ++ P0).size + g1.size) = False := F1; simp only [ByteArray.size_append] at G1)
  simp only [Option.some.injEq, Prod.mk.injEq] at H
  obtain ⟨rfl, rfl, rfl⟩ := H
  go_wp2_with (first | (refine gc_ (k_ 77 Tryz.func15) (bc.calls _ _ _ _ G3.o) fun C4 hb => ?_; obtain ⟨d0, e0, b0, HB⟩ := n_ (fS_ d0) <| n_ (fS_ e0) <| n_ (fK_ b0) <| sB_) | (refine gc_ (k_ 81 Tryz.func15) (bc.calls _ _ _ _ H3.o) fun V2 hb => ?_; obtain ⟨d0, e0, b0, HB⟩ := n_ (fS_ d0) <| n_ (fS_ e0) <| n_ (fK_ b0) <| sB_; have O1 : V2.cell? ⟨r0, 0, none⟩ = some (.string (⟨#[]⟩ : ByteArray)) := (ak b0.o 0).trans rfl; have P1 : V2.cell? ⟨r0, 1, none⟩ = some (.string (⟨#[]⟩ : ByteArray)) := (ak b0.o 1).trans rfl; have Q1 := ag b0.o 0; have R1 := ag b0.o 1))
  refine bodyPost_ret (gQ rfl _ _ r0 27 #[.string (v0 ++ y0), .string (((k0 ++ (v0 ++ y0)) ++ P0) ++ g1)] (0, 0) _ rfl (by refine kK_ ?_; refine ca (cs := #[.string (v0 ++ y0), .string (⟨#[]⟩ : ByteArray)]) ?_ 1 _ rfl; refine kK_ ?_; refine ca (cs := #[.string (⟨#[]⟩ : ByteArray), .string (⟨#[]⟩ : ByteArray)]) ?_ 0 _ rfl; exact rK_ b0.o) Tryz.underlying27 rfl (by kernel_rfl)) rfl ?_
  exact ⟨f1_, hS_ t0.o⟩
 rw [Fa j1] at H
 have z1 := ya j1
 clear j1
 obtain ⟨j0, Q0⟩ : ∃ j_ : Int, (wrap64 (D0 * 2)) = j_ := ⟨_, rfl⟩
 first | rw [Q0] at H | simp only [Q0] at H
 have l2 : (IntKind.i64.wrap (D0 * 2)) = j0 := (bB _).trans Q0
 obtain ⟨m2, H⟩ := iN_ H
 have X2 := Aa m2
 have Y2 := ya m2
 clear m2
 obtain ⟨Z2, H⟩ := iN_ H
 have b3 := Aa Z2
 have c3 := ya Z2
 obtain ⟨e3, H⟩ := iN_ H
 have f3 := Aa e3
 have g3 := ya e3
 obtain ⟨R0, L0⟩ : ∃ y_ : List (List Int), y_ = ((B0.take ((wrap64 ((j0) + 2)) : Int).toNat).drop ((j0) : Int).toNat) := ⟨_, rfl⟩
 first | replace H := yb_ L0 H | rw [← L0] at H
 have b1 := c_ L0
 clear L0
 obtain ⟨I3, J3, H⟩ := bN_ H
 obtain ⟨K3, L3, H⟩ := bN_ H
 obtain ⟨M3, N3, H⟩ := bN_ H
 obtain ⟨O3, P3, H⟩ := bN_ H
 obtain ⟨H1, Q3, H⟩ := bN_ H
 obtain ⟨n2, H⟩ := iN_ H
 have i3 := Aa n2
 have l3 := ya n2
 try have m3 : (9223372036854775807 < v0.size + H1.size) = False := eq_false (Nat.not_lt.2 n2)
 have H' := c_ H
 clear H
 obtain ⟨X0, S0, p2⟩ := vy d0.o
 subst p2
 have q2 : ((wrap64 ((j0) + 2)) : Int) ≤ ((B0.length : Int) : Int) := oD_
 obtain ⟨i038, d1, _, hsz38, _⟩ := info_parts gu
 have hroom38 : B0.length ≤ S0 := (vf d0.o).2.1
 have hC38 : Kd.C (Kd.slice 3 (Kd.int .i64)) _ X0 B0.length B0 := (vf d0.o).2.2
 have ql38 : ((j0) : Int) ≤ ((wrap64 ((j0) + 2)) : Int) := oD_
 have t2 : (0 : Int) ≤ ((j0) : Int) := oD_
 have hcut38 := tb (P := Tryz.prog) 44 33 .i64 .i64 Tryz.underlying44 d1 1 hsz38 X0 B0.length S0 (j0) (wrap64 ((j0) + 2)) t2 ql38 q2 hroom38
 have hr38 := xO (lo := ((j0) : Int).toNat) (hi := ((wrap64 ((j0) + 2)) : Int).toNat) (c := S0) hC38 (by omega) (by omega) hroom38
 obtain ⟨R3, hA38⟩ : ∃ A1, A1 = (if S0 = ((j0) : Int).toNat then X0 else (X0 : Option Addr).map (·.add (((j0) : Int).toNat * 1))) := ⟨_, rfl⟩
 obtain ⟨S3, hc38⟩ : ∃ c1, c1 = S0 - ((j0) : Int).toNat := ⟨_, rfl⟩
 have Y0 : R0.length = ((wrap64 ((j0) + 2)) : Int).toNat - ((j0) : Int).toNat := (by rw [b1.o, List.length_drop, List.length_take] <;> omega)
 rw [show ((B0).take ((wrap64 ((j0) + 2)) : Int).toNat).drop ((j0) : Int).toNat = R0 from b1.o.symm] at hr38
 replace hr38 : Kd.C (Kd.slice 3 (Kd.int .i64)) _ R3 R0.length R0 := (by rw [hA38]; exact hr38)
 rw [← Y0, ← hA38, ← hc38] at hcut38
 have n0 := c_ hr38
 have I1 := c_ (show R0.length ≤ S3 from by rw [Y0, hc38]; exact Nat.sub_le_sub_right (Nat.le_trans (by omega) hroom38) _)
 clear hr38 hC38 hroom38 d1 hsz38 hc38
 have KY38 := c_ Y0
 have KA38 := c_ hA38
 clear Y0 hA38
 have KL38 := c_ (show ((wrap64 ((j0) + 2)) : Int).toNat ≤ B0.length from by omega)
 have KM38 := c_ (show ((j0) : Int).toNat ≤ ((wrap64 ((j0) + 2)) : Int).toNat from by omega)
 replace q2 := Aa q2
 obtain ⟨T3, U3, v2⟩ := vy e0.o
 subst v2
 go_wp2_with (first | (refine gR_ (k_ 58 Tryz.func23) (aV.calls _ _ _ _ _ _ _ _ _ (by repeat (first | exact (by repeat (first | (with_reducible exact n0.o) | (with_reducible refine Kd.C_alloc ?_ _) | (with_reducible refine Kd.C_drewN ?_ _) | (with_reducible refine Kd.C_drew ?_) | exact n0.o)) | (with_reducible refine Kd.C_alloc ?_ _) | (with_reducible refine Kd.C_drewN ?_ _) | (with_reducible refine Kd.C_drew ?_))) I1.o (cR_ (vf e0.o).2.2) ((vf e0.o).2.1) J3.o) fun V3 D4 ho_ hb => ?_; obtain ⟨d0, e0, f0, b0, n0, HB⟩ := n_ (dr d0) <| n_ (dr e0) <| n_ (lR_ ho_) <| n_ (fK_ b0) <| n_ (fC_ n0) <| sB_) | (refine gR_ (k_ 62 Tryz.func20) (bz.calls _ _ _ _ _ L3.o) fun W3 E4 ho_ hb => ?_; obtain ⟨d0, e0, f0, q0, b0, n0, HB⟩ := n_ (dr d0) <| n_ (dr e0) <| n_ (cJ f0) <| n_ (lR_ (cN ho_ f0)) <| n_ (fK_ b0) <| n_ (fC_ n0) <| sB_; obtain ⟨X3, Y3, y2⟩ := uV q0.o; subst y2) | (refine gR_ (k_ 63 Tryz.func19) (ba.calls _ _ _ _ _ _ (cR_ (uU q0.o).2.2) ((uU q0.o).2.1) N3.o) fun Z3 F4 ho_ hb => ?_; obtain ⟨d0, e0, f0, q0, x0, b0, n0, HB⟩ := n_ (dr d0) <| n_ (dr e0) <| n_ (cJ f0) <| n_ (cJ q0) <| n_ (lR_ (cN (cN ho_ f0) q0)) <| n_ (fK_ b0) <| n_ (fC_ n0) <| sB_; obtain ⟨b4, e4, z2⟩ := uV f0.o; subst z2; obtain ⟨f4, g4, A2⟩ := uV x0.o; subst A2) | (refine gR_ (k_ 64 Tryz.func22) (aG.calls _ _ _ _ _ _ _ _ _ (cR_ (uU f0.o).2.2) ((uU f0.o).2.1) (cR_ (uU x0.o).2.2) ((uU x0.o).2.1) P3.o) fun i4 G4 ho_ hb => ?_; obtain ⟨d0, e0, f0, q0, x0, F0, b0, n0, HB⟩ := n_ (dr d0) <| n_ (dr e0) <| n_ (cJ f0) <| n_ (cJ q0) <| n_ (cJ x0) <| n_ (lR_ (cN (cN (cN ho_ f0) q0) x0)) <| n_ (fK_ b0) <| n_ (fC_ n0) <| sB_; obtain ⟨l4, n4, B2⟩ := uV F0.o; subst B2) | (refine gc_ (k_ 67 Tryz.func21) (cp.calls _ _ _ _ _ _ (cR_ (uU F0.o).2.2) ((uU F0.o).2.1) Q3.o) fun H4 hb => ?_; obtain ⟨d0, e0, f0, q0, x0, F0, b0, n0, HB⟩ := n_ (fS_ d0) <| n_ (fS_ e0) <| n_ (fR_ f0) <| n_ (fR_ q0) <| n_ (fR_ x0) <| n_ (fR_ F0) <| n_ (fK_ b0) <| n_ (fC_ n0) <| sB_))
 go_roundg k2
 case measure => have := N1.o; have := H2.o; omega
 case rel => exact ⟨(v0 ++ H1), (wrap64 (D0 + 1)), f0_, f0_, H', ⟨by have := N1.o; have := H2.o; omega⟩, ⟨by refine kS_ ?_; exact vi d0.o (fun _ hk => hk.1.1.1.1)⟩, ⟨by refine kS_ ?_; exact vi e0.o (fun _ hk => hk.1.1.1.1)⟩, ⟨by refine kK_ ?_; exact b0.o⟩, ⟨hS_ t0.o⟩⟩
def cM.f (k : Nat) (a0 : ByteArray) (a1 : ByteArray) : Option (ByteArray × ByteArray × Bool) := (bc.f k a0).bind fun t1031 => (if a1.size + t1031.size ≤ 9223372036854775807 then (if (a1 ++ t1031).size + 1 ≤ 9223372036854775807 then ((bc.f k ((a1 ++ t1031) ++ (⟨#[99]⟩ : ByteArray))).bind fun t1032 => ((am.f k a0 a1 t1032).bind fun bt1033 => (if bt1033.2 = true then ((bc.f k ((a1 ++ t1031) ++ (⟨#[107]⟩ : ByteArray))).bind fun t1035 => (some (bt1033.1, t1035, true))) else (some ((⟨#[]⟩ : ByteArray), (⟨#[]⟩ : ByteArray), false))))) else (none)) else (none))
theorem cM.mono : ∀ a0 a1 k, LeO (cM.f k a0 a1) (cM.f (k + 1) a0 a1) := by
 intro a0 a1 k
 unfold cM.f
 exact o2_ bc.mono am.mono
theorem cM.calls (k : Nat) (a0 : ByteArray) (a1 : ByteArray) (r1 : ByteArray) (r2 : ByteArray) (r3 : Bool) (w : World) (h : cM.f k a0 a1 = some (r1, r2, r3)) :
  Calls Tryz.prog 28 #[.string a0, .string a1] w fun e w' => e = .returned (.tuple #[.string r1, .string r2, .bool r3]) ∧ Below w.heap.size w w' := by
 have HB := c_ (Da w.heap.size w)
 delta cM.f at h
 have H := h
 clear h
 obtain ⟨b0, A3, H⟩ := bN_ H
 obtain ⟨c4, H⟩ := iN_ H
 have p0 := Aa c4
 have q0 := ya c4
 try have r0 : (9223372036854775807 < a1.size + b0.size) = False := eq_false (Nat.not_lt.2 c4)
 obtain ⟨c5, H⟩ := iN_ H
 have t0 := Aa c5
 have v0 := ya c5
 try have e0 : (9223372036854775807 < (a1 ++ b0).size + 1) = False := eq_false (Nat.not_lt.2 c5)
 try (have f0 : (9223372036854775807 < (a1 ++ b0).size + 1) = False := e0; simp only [ByteArray.size_append] at f0)
 obtain ⟨j0, A6, H⟩ := bN_ H
 obtain ⟨⟨k0, d0⟩, A7, H⟩ := bN_ H
 by_cases c8 : d0 = true
 ·subst c8
  replace H := iT_ H
  obtain ⟨n0, A9, H⟩ := bN_ H
  simp only [Option.some.injEq, Prod.mk.injEq] at H
  obtain ⟨rfl, rfl, rfl⟩ := H
  go_enter Tryz.func28, Tryz.ntmps28
  go_wp2_with (first | (refine gb_ (k_ 11 Tryz.func15) (bc.calls _ _ _ _ A3.o) fun x0 HB => ?_) | (refine gb_ (k_ 19 Tryz.func15) (bc.calls _ _ _ _ A6.o) fun y0 HB => ?_) | (refine gb_ (k_ 20 Tryz.func60) (am.calls _ _ _ _ _ _ _ A7.o) fun B0 HB => ?_) | (refine gb_ (k_ 30 Tryz.func15) (bc.calls _ _ _ _ A9.o) fun C0 HB => ?_))
  go_ret3
  exact ⟨f1_, hB_⟩
 ·replace c8 := Ea c8
  subst c8
  replace H := iF_ H
  simp only [Option.some.injEq, Prod.mk.injEq] at H
  obtain ⟨rfl, rfl, rfl⟩ := H
  go_enter Tryz.func28, Tryz.ntmps28
  go_wp2_with (first | (refine gb_ (k_ 11 Tryz.func15) (bc.calls _ _ _ _ A3.o) fun D0 HB => ?_) | (refine gb_ (k_ 19 Tryz.func15) (bc.calls _ _ _ _ A6.o) fun E0 HB => ?_) | (refine gb_ (k_ 20 Tryz.func60) (am.calls _ _ _ _ _ _ _ A7.o) fun F0 HB => ?_))
  go_ret3
  exact ⟨f1_, hB_⟩
def cZ.f (k : Nat) (a0 : ByteArray) (a1 : ByteArray) : Option (ByteArray × Bool) := (cR.f k a0 a1).bind fun bt1036 => (if bt1036.2 = true then (if 768 ≤ 1568 then (if 1568 ≤ (a0.size : Int) then ((cM.f k (a0.extract 768 1568) bt1036.1).bind fun bt1038 => (if bt1038.2.2 = true then (if bt1038.1.toList = a1.toList then (some (bt1038.2.1, true)) else (if 0 ≤ (wrap64 ((a0.size : Int) - 32)) then (if (wrap64 ((a0.size : Int) - 32)) ≤ (a0.size : Int) then (if (a0.extract ((wrap64 ((a0.size : Int) - 32)) : Int).toNat a0.size).size + a1.size ≤ 9223372036854775807 then ((bc.f k ((a0.extract ((wrap64 ((a0.size : Int) - 32)) : Int).toNat a0.size) ++ a1)).bind fun t1041 => (some (t1041, true))) else (none)) else (none)) else (none))) else (if 0 ≤ (wrap64 ((a0.size : Int) - 32)) then (if (wrap64 ((a0.size : Int) - 32)) ≤ (a0.size : Int) then (if (a0.extract ((wrap64 ((a0.size : Int) - 32)) : Int).toNat a0.size).size + a1.size ≤ 9223372036854775807 then ((bc.f k ((a0.extract ((wrap64 ((a0.size : Int) - 32)) : Int).toNat a0.size) ++ a1)).bind fun t1042 => (some (t1042, true))) else (none)) else (none)) else (none)))) else (none)) else (none)) else (some ((⟨#[]⟩ : ByteArray), false)))
theorem cZ.mono : ∀ a0 a1 k, LeO (cZ.f k a0 a1) (cZ.f (k + 1) a0 a1) := by
 intro a0 a1 k
 unfold cZ.f
 exact o3_ cR.mono bc.mono cM.mono
theorem cZ.calls (k : Nat) (a0 : ByteArray) (a1 : ByteArray) (r1 : ByteArray) (r2 : Bool) (w : World) (h : cZ.f k a0 a1 = some (r1, r2)) :
  Calls Tryz.prog 11 #[.string a0, .string a1] w fun e w' => e = .returned (.tuple #[.string r1, .bool r2]) ∧ Below w.heap.size w w' := by
 have HB := c_ (Da w.heap.size w)
 delta cZ.f at h
 have H := h
 clear h
 obtain ⟨⟨G0, k0⟩, A3, H⟩ := bN_ H
 by_cases c4 : k0 = true
 ·subst c4
  replace H := iT_ H
  obtain ⟨c5, H⟩ := iN_ H
  have W0 := Aa c5
  have X0 := ya c5
  clear c5
  obtain ⟨c6, H⟩ := iN_ H
  have Y0 := Aa c6
  have Z0 := ya c6
  clear c6
  obtain ⟨⟨e0, H0, n0⟩, A7, H⟩ := bN_ H
  by_cases c8 : n0 = true
  ·subst c8
   replace H := iT_ H
   by_cases c9 : e0.toList = a1.toList
   ·rw [Fa c9] at H
    have r0 : (e0.toList == a1.toList) = true := beq_iff_eq.mpr c9
    have t0 : (e0.toList != a1.toList) = false := bne_eq_false_iff_eq.mpr c9
    clear c9
    simp only [Option.some.injEq, Prod.mk.injEq] at H
    obtain ⟨rfl, rfl⟩ := H
    go_enter Tryz.func11, Tryz.ntmps11
    go_wp2_with (first | (refine gb_ (k_ 15 Tryz.func27) (cR.calls _ _ _ _ _ _ A3.o) fun d1 HB => ?_) | (refine gb_ (k_ 25 Tryz.func28) (cM.calls _ _ _ _ _ _ _ A7.o) fun e1 HB => ?_))
    go_ret2
    exact ⟨f1_, hB_⟩
   rw [Ga c9] at H
   have r0 : (e0.toList == a1.toList) = false := beq_eq_false_iff_ne.mpr c9
   have t0 : (e0.toList != a1.toList) = true := bne_iff_ne.mpr c9
   obtain ⟨f0, b0⟩ : ∃ j_ : Int, (wrap64 ((a0.size : Int) - 32)) = j_ := ⟨_, rfl⟩
   first | rw [b0] at H | simp only [b0] at H
   (try rw [b0] at A3)
   (try rw [b0] at A7)
   have v0 : (IntKind.i64.wrap ((a0.size : Int) - 32)) = f0 := (bB _).trans b0
   obtain ⟨x0, H⟩ := iN_ H
   have I0 := Aa x0
   have J0 := ya x0
   clear x0
   obtain ⟨y0, H⟩ := iN_ H
   have K0 := Aa y0
   have L0 := ya y0
   clear y0
   obtain ⟨B0, H⟩ := iN_ H
   have M0 := Aa B0
   have N0 := ya B0
   try have O0 : (9223372036854775807 < (a0.extract ((f0) : Int).toNat a0.size).size + a1.size) = False := eq_false (Nat.not_lt.2 B0)
   obtain ⟨p0, b1, H⟩ := bN_ H
   simp only [Option.some.injEq, Prod.mk.injEq] at H
   obtain ⟨rfl, rfl⟩ := H
   go_enter Tryz.func11, Tryz.ntmps11
   go_wp2_with (first | (refine gb_ (k_ 15 Tryz.func27) (cR.calls _ _ _ _ _ _ A3.o) fun f1 HB => ?_) | (refine gb_ (k_ 25 Tryz.func28) (cM.calls _ _ _ _ _ _ _ A7.o) fun g1 HB => ?_) | ((with_reducible refine ep (f := 15) rfl ?_); refine gS (some 43) rfl rfl Tryz.func15 (by kernel_rfl) rfl #[.string ((a0.extract ((f0) : Int).toNat a0.size) ++ a1)] rfl (by (try simp only [List.map_toArray, List.map_cons, List.map_nil]); first | done | (simp only [b0]; rfl) | rfl | (simp only [List.length_drop, List.length_take]; rfl)) ?_; (with_reducible refine (bc.calls k ((a0.extract ((f0) : Int).toNat a0.size) ++ a1) p0 _ b1.o).mono ?_); rintro e i1 ⟨rfl, hb⟩; refine ⟨_, rfl, ?_⟩; replace HB := c_ (du (hB_) hb); (try clear hb)))
   go_ret2
   exact ⟨by first | rfl | (simp [dE, dB] <;> rfl) | (simp only [← b0]; first | rfl | (simp [dE, dB] <;> rfl)) | (simp [*, dE, dB] <;> rfl), hB_⟩
  ·replace c8 := Ea c8
   subst c8
   replace H := iF_ H
   obtain ⟨j0, d0⟩ : ∃ j_ : Int, (wrap64 ((a0.size : Int) - 32)) = j_ := ⟨_, rfl⟩
   first | rw [d0] at H | simp only [d0] at H
   (try rw [d0] at A3)
   (try rw [d0] at A7)
   have C0 : (IntKind.i64.wrap ((a0.size : Int) - 32)) = j0 := (bB _).trans d0
   obtain ⟨D0, H⟩ := iN_ H
   have P0 := Aa D0
   have Q0 := ya D0
   clear D0
   obtain ⟨E0, H⟩ := iN_ H
   have R0 := Aa E0
   have S0 := ya E0
   clear E0
   obtain ⟨F0, H⟩ := iN_ H
   have T0 := Aa F0
   have U0 := ya F0
   try have V0 : (9223372036854775807 < (a0.extract ((j0) : Int).toNat a0.size).size + a1.size) = False := eq_false (Nat.not_lt.2 F0)
   obtain ⟨q0, c1, H⟩ := bN_ H
   simp only [Option.some.injEq, Prod.mk.injEq] at H
   obtain ⟨rfl, rfl⟩ := H
   go_enter Tryz.func11, Tryz.ntmps11
   go_wp2_with (first | (refine gb_ (k_ 15 Tryz.func27) (cR.calls _ _ _ _ _ _ A3.o) fun j1 HB => ?_) | (refine gb_ (k_ 25 Tryz.func28) (cM.calls _ _ _ _ _ _ _ A7.o) fun l1 HB => ?_) | ((with_reducible refine ep (f := 15) rfl ?_); refine gS (some 43) rfl rfl Tryz.func15 (by kernel_rfl) rfl #[.string ((a0.extract ((j0) : Int).toNat a0.size) ++ a1)] rfl (by (try simp only [List.map_toArray, List.map_cons, List.map_nil]); first | done | (simp only [d0]; rfl) | rfl | (simp only [List.length_drop, List.length_take]; rfl)) ?_; (with_reducible refine (bc.calls k ((a0.extract ((j0) : Int).toNat a0.size) ++ a1) q0 _ c1.o).mono ?_); rintro e m1 ⟨rfl, hb⟩; refine ⟨_, rfl, ?_⟩; replace HB := c_ (du (hB_) hb); (try clear hb)))
   go_ret2
   exact ⟨by first | rfl | (simp [dE, dB] <;> rfl) | (simp only [← d0]; first | rfl | (simp [dE, dB] <;> rfl)) | (simp [*, dE, dB] <;> rfl), hB_⟩
 ·replace c4 := Ea c4
  subst c4
  replace H := iF_ H
  simp only [Option.some.injEq, Prod.mk.injEq] at H
  obtain ⟨rfl, rfl⟩ := H
  go_enter Tryz.func11, Tryz.ntmps11
  go_wp2_with (first | (refine gb_ (k_ 15 Tryz.func27) (cR.calls _ _ _ _ _ _ A3.o) fun n1 HB => ?_))
  go_ret2
  exact ⟨f1_, hB_⟩
end Go.Proofs.YtmiackbomcjboaaGreatDoor.P
