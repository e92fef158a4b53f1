-- printed texts of this session, regrouped
import Derived.Test.YtmdlpmddljbkeaaGreatDoorMWB
import Derived.Test.YtmdlpmddljbkeaaGreatDoorPx5
import Derived.Test.YtmdlpmddljbkeaaGreatDoorPx8
import Derived.Test.YtmdlpmddljbkeaaGreatDoorPx13
namespace Go.Proofs.YtmdlpmddljbkeaaGreatDoor.P
open Go.RowKit YtmdlpmddljbkeaaGreatDoorW.PrintWords YtmdlpmddljbkeaaGreatDoorW.PrintLast YtmdlpmddljbkeaaGreatDoorW.PrintMore
open Kd
attribute [local go_sem] d3 dW eG eI dD dC dZ dY
set_option linter.unusedVariables false
set_option linter.unusedSimpArgs false
mutual
def bf.l0 : Nat → ByteArray → ByteArray → ByteArray → List (List Int) → List (List Int) → ByteArray → ByteArray → Int → Option (ByteArray × ByteArray × Bool)
 | 0, _, _, _, _, _, _, _, _ => none
 | k + 1, x4, x5, x6, x7, x8, x9, x10, x11 => if x11 < 2 then ((bP.f k x6 x11).bind fun t641 => ((aY.f k t641).bind fun t644 => (if x8.length < 5864062014805 then ((cq.f k t644).bind fun t650 => (if x10.size + t650.size ≤ 9223372036854775807 then (bf.l0 k x4 x5 x6 x7 (x8 ++ [t644]) x9 (x10 ++ t650) (wrap64 (x11 + 1))) else (none))) else (none)))) else (bf.l1 k x4 x5 x6 x7 x8 x9 x10 0)
def bf.l1 : Nat → ByteArray → ByteArray → ByteArray → List (List Int) → List (List Int) → ByteArray → ByteArray → Int → Option (ByteArray × ByteArray × Bool)
 | 0, _, _, _, _, _, _, _, _ => none
 | k + 1, x4, x5, x6, x7, x8, x9, x10, x13 => if x13 < 2 then (if 0 ≤ (wrap64 (x13 * 2)) then (if (wrap64 (x13 * 2)) ≤ (wrap64 ((wrap64 (x13 * 2)) + 2)) then (if (wrap64 ((wrap64 (x13 * 2)) + 2)) ≤ (x7.length : Int) then ((bb.f k ((x7.take ((wrap64 ((wrap64 (x13 * 2)) + 2)) : Int).toNat).drop ((wrap64 (x13 * 2)) : Int).toNat) x8).bind fun t657 => ((bP.f k x6 (wrap64 (2 + x13))).bind fun t660 => ((aY.f k t660).bind fun t663 => ((aM.f k t657 t663).bind fun t666 => ((cq.f k t666).bind fun t669 => (if x9.size + t669.size ≤ 9223372036854775807 then (bf.l1 k x4 x5 x6 x7 x8 (x9 ++ t669) x10 (wrap64 (x13 + 1))) else (none))))))) else (none)) else (none)) else (none)) else (if x9.size + x5.size ≤ 9223372036854775807 then (if x10.size + (x9 ++ x5).size ≤ 9223372036854775807 then ((bK.f k (x9 ++ x5)).bind fun t651 => (if (x10 ++ (x9 ++ x5)).size + t651.size ≤ 9223372036854775807 then (if x4.size + 1 ≤ 9223372036854775807 then ((bK.f k (x4 ++ (⟨#[122]⟩ : ByteArray))).bind fun t652 => (if ((x10 ++ (x9 ++ x5)) ++ t651).size + t652.size ≤ 9223372036854775807 then (some (x9 ++ x5, ((x10 ++ (x9 ++ x5)) ++ t651) ++ t652, true)) else (none))) else (none)) else (none))) else (none)) else (none))
end
def bf.f (k : Nat) (a0 : ByteArray) : Option (ByteArray × ByteArray × Bool) := if (a0.size : Int) = 32 then ((bK.f k a0).bind fun t632 => (if t632.size + 1 ≤ 9223372036854775807 then ((bK.f k (t632 ++ (⟨#[114]⟩ : ByteArray))).bind fun t633 => ((bK.f k (t632 ++ (⟨#[115]⟩ : ByteArray))).bind fun t634 => ((ax.f k t633).bind fun t635 => (bf.l0 k t632 t633 t634 t635 (([] : List (List Int))) (⟨#[]⟩ : ByteArray) (⟨#[]⟩ : ByteArray) 0)))) else (none))) else (some ((⟨#[]⟩ : ByteArray), (⟨#[]⟩ : ByteArray), false))
theorem bf.mono_l : ∀ k, (∀ y0 y1 y2 y3 y4 y5 y6 y7, LeO (bf.l0 k y0 y1 y2 y3 y4 y5 y6 y7) (bf.l0 (k + 1) y0 y1 y2 y3 y4 y5 y6 y7)) ∧ (∀ y0 y1 y2 y3 y4 y5 y6 y7, LeO (bf.l1 k y0 y1 y2 y3 y4 y5 y6 y7) (bf.l1 (k + 1) y0 y1 y2 y3 y4 y5 y6 y7))
 | 0 => ⟨fun _ _ _ _ _ _ _ _ r h => by simp [bf.l0] at h, fun _ _ _ _ _ _ _ _ r h => by simp [bf.l1] at h⟩
 | k + 1 => by
  obtain ⟨ih0, ih1⟩ := bf.mono_l k
  refine ⟨?_, ?_⟩ <;> (intros; (first | unfold bf.l0 | unfold bf.l1); exact o9_ ih0 ih1 bK.mono aY.mono aM.mono cq.mono bP.mono ax.mono bb.mono)
theorem bf.mono : ∀ a0 k, LeO (bf.f k a0) (bf.f (k + 1) a0) := by
 intro a0 k
 obtain ⟨ih0, ih1⟩ := bf.mono_l k
 unfold bf.f
 exact o9_ ih0 ih1 bK.mono aY.mono aM.mono cq.mono bP.mono ax.mono bb.mono
set_option maxHeartbeats 8000000 in
set_option maxRecDepth 100000 in
theorem bf.calls (k : Nat) (a0 : ByteArray) (r1 : ByteArray) (r2 : ByteArray) (r3 : Bool) (w : World) (h : bf.f k a0 = some (r1, r2, r3)) :
  Calls Tryz.prog 7 #[.string a0] w fun e w' => e = .returned (.tuple #[.agg #[.string r1, .string r2], .bool r3]) ∧ Below w.heap.size w w' := by
 have hu27 := Tryz.underlying27
 have HB := c_ (Da w.heap.size w)
 delta bf.f at h
 have H := h
 clear h
 by_cases c2 : (a0.size : Int) = 32
 rotate_left
 ·rw [Ga c2] at H
  have U1 : ((a0.size : Int) == 32) = false := beq_eq_false_iff_ne.mpr c2
  have V1 : ((a0.size : Int) != 32) = true := bne_iff_ne.mpr c2
  simp only [Option.some.injEq, Prod.mk.injEq] at H
  obtain ⟨rfl, rfl, rfl⟩ := H
  go_enter Tryz.func7, Tryz.ntmps7
  go_wp2_with (first | (refine bx_ 2 #[.string (⟨#[]⟩ : ByteArray), .string (⟨#[]⟩ : ByteArray)] 27 fun r0 E2 hb HB b0 v0 => ?_; have L1 : E2.cell? ⟨r0, 0, none⟩ = some (.string (⟨#[]⟩ : ByteArray)) := (ah b0.o 0).trans rfl; have M1 : E2.cell? ⟨r0, 1, none⟩ = some (.string (⟨#[]⟩ : ByteArray)) := (ah b0.o 1).trans rfl; have N1 := ae b0.o 0; have O1 := ae b0.o 1))
  refine bodyPost_ret (fJ rfl _ _ r0 27 #[.string (⟨#[]⟩ : ByteArray), .string (⟨#[]⟩ : ByteArray)] (0, 0) _ rfl (by refine kK_ ?_; refine bO (cs := #[.string (⟨#[]⟩ : ByteArray), .string (⟨#[]⟩ : ByteArray)]) ?_ 1 _ rfl; refine kK_ ?_; refine bO (cs := #[.string (⟨#[]⟩ : ByteArray), .string (⟨#[]⟩ : ByteArray)]) ?_ 0 _ rfl; exact rK_ b0.o) Tryz.underlying27 rfl (by kernel_rfl)) rfl ?_
  exact ⟨f1_, hS_ v0.o⟩
 rw [Fa c2] at H
 have U1 : ((a0.size : Int) == 32) = true := beq_iff_eq.mpr c2
 have V1 : ((a0.size : Int) != 32) = false := bne_eq_false_iff_eq.mpr c2
 clear c2
 obtain ⟨U0, A3, H⟩ := bN_ H
 obtain ⟨c4, H⟩ := iN_ H
 have q3 := Aa c4
 have t3 := ya c4
 try have v3 : (9223372036854775807 < U0.size + 1) = False := eq_false (Nat.not_lt.2 c4)
 obtain ⟨B0, A5, H⟩ := bN_ H
 obtain ⟨p1, A6, H⟩ := bN_ H
 obtain ⟨C0, A7, H⟩ := bN_ H
 obtain ⟨X1, J0⟩ : ∃ y_ : List (List Int), y_ = (([] : List (List Int))) := ⟨_, rfl⟩
 first | replace H := yb_ J0 H | rw [← J0] at H
 have b1 := c_ J0
 clear J0
 have H' := c_ H
 clear H
 go_enter Tryz.func7, Tryz.ntmps7
 go_wp2_with (first | (refine bx_ 2 #[.string (⟨#[]⟩ : ByteArray), .string (⟨#[]⟩ : ByteArray)] 27 fun r0 w8 hb HB b0 v0 => ?_) | (refine gc_ (k_ 20 Tryz.func15) (bK.calls _ _ _ _ A3.o) fun w9 hb => ?_; obtain ⟨b0, HB⟩ := n_ (fK_ b0) <| sB_) | (refine gc_ (k_ 23 Tryz.func15) (bK.calls _ _ _ _ A5.o) fun v4 hb => ?_; obtain ⟨b0, HB⟩ := n_ (fK_ b0) <| sB_) | (refine gc_ (k_ 26 Tryz.func15) (bK.calls _ _ _ _ A6.o) fun w4 hb => ?_; obtain ⟨b0, HB⟩ := n_ (fK_ b0) <| sB_) | (refine gR_ (k_ 28 Tryz.func25) (ax.calls _ _ _ _ A7.o) fun H0 y4 ho_ hb => ?_; obtain ⟨K0, b0, HB⟩ := n_ (lS_ ho_) <| n_ (fK_ b0) <| sB_) | ((refine cO (N := 29) rfl ?_); refine wl (Kd.slice 3 (Kd.int .i64)) _ 45 ?hg (N := 29) ?hd (xs := ([] : List (List Int))) (inner := []) (ok := fun _ => True) (okp := fun _ => True) ?hr ?hp (fun _ hk => hk) trivial (Da _ _) (Ca _) (by simp) ?_; (case hd => rfl); (case hg => rfl); (case hr => first | (go_simp; done) | (go_simp; rfl)); (case hp => exact (eW.none _ _)); intro w3 z4 N0 hb hg_ hnew_; clear hg_ hnew_; (first | rw [← b1.o] at N0 | (simp only [Int.reduceToNat] at N0; rw [← b1.o] at N0)); obtain ⟨K0, q1, b0, HB⟩ := b_ (vd (rS_ K0.o) (vL N0) hb) <| b_ (vG (vD N0 (wd (rS_ K0.o))) (au (hS_ v0.o))) <| n_ (fK_ b0) <| sB_; clear hb N0))
 go_loopg [8, 10, 11] k (fun kq v8 y3 z3 w' => ∃ (I0 : List (List Int)) (k0 : ByteArray) (F0 : Int), y3 = .string k0 ∧ z3 = .int .i64 F0 ∧ aa (bf.l0 kq U0 B0 p1 C0 I0 (⟨#[]⟩ : ByteArray) k0 F0 = some (r1, r2, r3)) ∧ aa (kq ≤ k) ∧ aa (Kd.S (Kd.slice 3 (Kd.int .i64)) 45 w' w.heap.size (fun k_ => some k_ ≠ (v8 : Value).ownBlock) H0 C0) ∧ aa (Kd.S (Kd.slice 3 (Kd.int .i64)) 45 w' w.heap.size (fun k_ => some k_ ≠ (H0 : Value).ownBlock) v8 I0) ∧ aa (w'.heap[r0]? = some (.cells #[.string (⟨#[]⟩ : ByteArray), .string (⟨#[]⟩ : ByteArray)] 27 (0, 0))) ∧ aa (Below w.heap.size w w'))
 case atStart => exact ⟨(X1), ((⟨#[]⟩ : ByteArray)), (0), f0_, f0_, H', ⟨Ca _⟩, ⟨by refine kS_ ?_; exact vk K0.o (fun _ hk => hk.2)⟩, ⟨by refine kS_ ?_; exact vk q1.o (fun _ hk => hk.2)⟩, ⟨by refine kK_ ?_; exact b0.o⟩, ⟨hS_ v0.o⟩⟩
 clear H'
 obtain ⟨I0, k0, F0, rfl, rfl, HA, P1, d0, e0, b0, HB⟩ := hrel
 rcases gk with _ | k1
 ·exact absurd HA.o (by simp [bf.l0])
 have H := HA.o
 clear HA
 simp only [bf.l0] at H
 by_cases m1 : F0 < 2
 ·rw [Fa m1] at H
  have t1 := ya m1
  clear m1
  obtain ⟨V0, B3, H⟩ := bN_ H
  obtain ⟨O0, C3, H⟩ := bN_ H
  obtain ⟨F2, H⟩ := iN_ H
  have y1 := c_ F2
  clear F2
  obtain ⟨Y1, L0⟩ : ∃ y_ : List (List Int), y_ = (I0 ++ [O0]) := ⟨_, rfl⟩
  first | replace H := yb_ L0 H | rw [← L0] at H
  have z1 := c_ L0
  clear L0
  obtain ⟨B1, D3, H⟩ := bN_ H
  obtain ⟨Z1, H⟩ := iN_ H
  have G2 := Aa Z1
  have H2 := ya Z1
  try have I2 : (9223372036854775807 < k0.size + B1.size) = False := eq_false (Nat.not_lt.2 Z1)
  have H' := c_ H
  clear H
  go_wp2_with (first | (refine gR_ (k_ 36 Tryz.func27) (bP.calls _ _ _ _ _ B3.o) fun E3 A4 ho_ hb => ?_; obtain ⟨d0, e0, p0, b0, HB⟩ := n_ (dg d0) <| n_ (dg e0) <| n_ (lR_ ho_) <| n_ (fK_ b0) <| sB_; obtain ⟨W0, X0, b2⟩ := uY p0.o; subst b2) | (refine gR_ (k_ 37 Tryz.func26) (aY.calls _ _ _ _ _ _ (cR_ (uX p0.o).2.2) ((uX p0.o).2.1) C3.o) fun F3 B4 ho_ hb => ?_; obtain ⟨d0, e0, p0, D0, b0, HB⟩ := n_ (dg d0) <| n_ (dg e0) <| n_ (di p0) <| n_ (lR_ (dm ho_ p0)) <| n_ (fK_ b0) <| sB_; obtain ⟨g1, i1, f2⟩ := uY D0.o; subst f2) | ((refine cH (b := .append) (xs := #[.tmp 38, .tmp 40]) rfl ?_); at_builtin; refine vw (Kd.slice 3 (Kd.int .i64)) (w0 := w) w.heap.size rfl (.tmp 38) (.tmp 40) 41 45 (.slice none 0 0) 24 rfl Tryz.underlying41 gN rfl (by decide) (by omega) u8 I0 O0 [.slice g1 O0.length i1] (fun k_ => some k_ ≠ (H0 : Value).ownBlock ∧ some k_ ≠ (.slice W0 V0.length X0 : Value).ownBlock) (fun k_ => some k_ = (.slice g1 O0.length i1 : Value).ownBlock) rfl rfl ?aP (fun k_ hk_ => ((va (ok' := fun k_ => ((fun k_ => some k_ ≠ (H0 : Value).ownBlock ∧ some k_ ≠ (.slice W0 V0.length X0 : Value).ownBlock)) k_ ∧ some k_ ≠ (u8 : Value).ownBlock) (vh (vh (D0.o) (vi d0.o) (by decide)) (vi e0.o) (by decide)) (fun k_ hk => ⟨⟨hk.1.2, hk.1.1.2⟩, hk.2⟩))).1 k_ hk_.symm) ?aF ?aO ?aB ?aS ?aL ?_; (case aP => exact vP (va (vA rfl (va (ok' := fun k_ => ((fun k_ => some k_ ≠ (H0 : Value).ownBlock ∧ some k_ ≠ (.slice W0 V0.length X0 : Value).ownBlock)) k_ ∧ some k_ ≠ (u8 : Value).ownBlock) (vh (vh (D0.o) (vi d0.o) (by decide)) (vi e0.o) (by decide)) (fun k_ hk => ⟨⟨hk.1.2, hk.1.1.2⟩, hk.2⟩))) (fun _ h_ => h_))); (case aB => exact (hS_ v0.o)); (case aF => exact (fun k_ hk => ⟨Kd.fresh' (wd (rS_ d0.o)) k_ hk, Kd.fresh' (vE (rR_ p0.o)) k_ hk⟩)); (case aO => exact (by refine kS_ ?_; exact vk e0.o (fun k_ hk => ⟨⟨hk.1.1, hk.1.2⟩, fun e_ => hk.2 e_⟩))); (case aS => exact (au (hS_ v0.o))); (case aL => have := y1.o; omega); intro G3 C4 ho hb hg hat; rw [← z1.o] at ho; obtain ⟨d0, b0, p0, D0, HB, P0⟩ := b_ (vY (ok := (fun k_ => some k_ ≠ (.slice W0 V0.length X0 : Value).ownBlock ∧ some k_ ≠ (.slice g1 O0.length i1 : Value).ownBlock)) (by refine kS_ ?_; exact vk d0.o (fun _ hk => ⟨⟨hk.1.2, hk.2⟩, hk.1.1⟩)) hg hat) <| b_ (fx (g := r0) (o := .cells #[.string (⟨#[]⟩ : ByteArray), .string (⟨#[]⟩ : ByteArray)] 27 (0, 0)) (rK_ b0.o) hg (xk e0.o b0.o (by decide))) <| b_ (vN (rR_ p0.o) (vi (rS_ e0.o)) (by decide) hg) <| b_ (vN (rR_ D0.o) (vi (rS_ e0.o)) (by decide) hg) <| b_ (hb) <| c_ (ho); clear ho hb hg hat) | (refine gc_ (k_ 44 Tryz.func28) (cq.calls _ _ _ _ _ _ (cR_ (uX D0.o).2.2) ((uX D0.o).2.1) D3.o) fun D4 hb => ?_; obtain ⟨d0, p0, P0, b0, HB⟩ := n_ (fS_ d0) <| n_ (fR_ p0) <| n_ (fS_ P0) <| n_ (fK_ b0) <| sB_))
  go_roundg k1
  case measure => have := P1.o; omega
  case rel => exact ⟨(Y1), (k0 ++ B1), (wrap64 (F0 + 1)), f0_, f0_, H', ⟨by have := P1.o; omega⟩, ⟨by refine kS_ ?_; exact vk d0.o (fun _ hk => hk.2)⟩, ⟨by refine kS_ ?_; exact vk P0.o (fun _ hk => hk.1)⟩, ⟨by refine kK_ ?_; exact b0.o⟩, ⟨hS_ v0.o⟩⟩
 rw [Ga m1] at H
 have t1 := za m1
 clear m1
 have H' := c_ H
 clear H
 go_wp2
 go_loopg [9, 13] k1 (fun kq v9 H3 w' => ∃ (x0 : ByteArray) (E0 : Int), v9 = .string x0 ∧ H3 = .int .i64 E0 ∧ aa (bf.l1 kq U0 B0 p1 C0 I0 x0 k0 E0 = some (r1, r2, r3)) ∧ aa (kq ≤ k1) ∧ aa (Kd.S (Kd.slice 3 (Kd.int .i64)) 45 w' w.heap.size (fun k_ => some k_ ≠ (u8 : Value).ownBlock) H0 C0) ∧ aa (Kd.S (Kd.slice 3 (Kd.int .i64)) 45 w' w.heap.size (fun k_ => some k_ ≠ (H0 : Value).ownBlock) u8 I0) ∧ aa (w'.heap[r0]? = some (.cells #[.string (⟨#[]⟩ : ByteArray), .string (⟨#[]⟩ : ByteArray)] 27 (0, 0))) ∧ aa (Below w.heap.size w w'))
 case atStart => exact ⟨((⟨#[]⟩ : ByteArray)), (0), f0_, f0_, H', ⟨Ca _⟩, ⟨rS_ d0.o⟩, ⟨rS_ e0.o⟩, ⟨by refine kK_ ?_; exact b0.o⟩, ⟨hS_ v0.o⟩⟩
 clear H'
 obtain ⟨x0, E0, rfl, rfl, HA, J2, d0, e0, b0, HB⟩ := hrel
 rcases gk with _ | k2
 ·exact absurd HA.o (by simp [bf.l1])
 have H := HA.o
 clear HA
 simp only [bf.l1] at H
 by_cases n1 : E0 < 2
 rotate_left
 ·rw [Ga n1] at H
  have C1 := za n1
  clear n1
  obtain ⟨g2, H⟩ := iN_ H
  have K2 := Aa g2
  have L2 := ya g2
  try have M2 : (9223372036854775807 < x0.size + B0.size) = False := eq_false (Nat.not_lt.2 g2)
  obtain ⟨i2, H⟩ := iN_ H
  have N2 := Aa i2
  have O2 := ya i2
  try have D1 : (9223372036854775807 < k0.size + (x0 ++ B0).size) = False := eq_false (Nat.not_lt.2 i2)
  try (have E1 : (9223372036854775807 < k0.size + (x0 ++ B0).size) = False := D1; simp only [ByteArray.size_append] at E1)
  obtain ⟨Q0, I3, H⟩ := bN_ H
  obtain ⟨j2, H⟩ := iN_ H
  have P2 := Aa j2
  have Q2 := ya j2
  try have F1 : (9223372036854775807 < (k0 ++ (x0 ++ B0)).size + Q0.size) = False := eq_false (Nat.not_lt.2 j2)
  try (have G1 : (9223372036854775807 < (k0 ++ (x0 ++ B0)).size + Q0.size) = False := F1; simp only [ByteArray.size_append] at G1)
  obtain ⟨l2, H⟩ := iN_ H
  have R2 := Aa l2
  have T2 := ya l2
  try have U2 : (9223372036854775807 < U0.size + 1) = False := eq_false (Nat.not_lt.2 l2)
  obtain ⟨j1, J3, H⟩ := bN_ H
  obtain ⟨m2, H⟩ := iN_ H
  have V2 := Aa m2
  have X2 := ya m2
  try have H1 : (9223372036854775807 < ((k0 ++ (x0 ++ B0)) ++ Q0).size + j1.size) = False := eq_false (Nat.not_lt.2 m2)
  try (have I1 : (9223372036854775807 < ((k0 ++ (x0 ++ B0)) ++ Q0).size + j1.size) = False := H1; simp only [ByteArray.size_append] at I1)
  simp only [Option.some.injEq, Prod.mk.injEq] at H
  obtain ⟨rfl, rfl, rfl⟩ := H
  go_wp2_with (first | (refine gc_ (k_ 77 Tryz.func15) (bK.calls _ _ _ _ I3.o) fun E4 hb => ?_; obtain ⟨d0, e0, b0, HB⟩ := n_ (fS_ d0) <| n_ (fS_ e0) <| n_ (fK_ b0) <| sB_) | (refine gc_ (k_ 81 Tryz.func15) (bK.calls _ _ _ _ J3.o) fun Y2 hb => ?_; obtain ⟨d0, e0, b0, HB⟩ := n_ (fS_ d0) <| n_ (fS_ e0) <| n_ (fK_ b0) <| sB_; have Q1 : Y2.cell? ⟨r0, 0, none⟩ = some (.string (⟨#[]⟩ : ByteArray)) := (ah b0.o 0).trans rfl; have R1 : Y2.cell? ⟨r0, 1, none⟩ = some (.string (⟨#[]⟩ : ByteArray)) := (ah b0.o 1).trans rfl; have S1 := ae b0.o 0; have T1 := ae b0.o 1))
  refine bodyPost_ret (fJ rfl _ _ r0 27 #[.string (x0 ++ B0), .string (((k0 ++ (x0 ++ B0)) ++ Q0) ++ j1)] (0, 0) _ rfl (by refine kK_ ?_; refine bO (cs := #[.string (x0 ++ B0), .string (⟨#[]⟩ : ByteArray)]) ?_ 1 _ rfl; refine kK_ ?_; refine bO (cs := #[.string (⟨#[]⟩ : ByteArray), .string (⟨#[]⟩ : ByteArray)]) ?_ 0 _ rfl; exact rK_ b0.o) Tryz.underlying27 rfl (by kernel_rfl)) rfl ?_
  exact ⟨f1_, hS_ v0.o⟩
 rw [Fa n1] at H
 have C1 := ya n1
 clear n1
 obtain ⟨j0, R0⟩ : ∃ j_ : Int, (wrap64 (E0 * 2)) = j_ := ⟨_, rfl⟩
 first | rw [R0] at H | simp only [R0] at H
 have n2 : (IntKind.i64.wrap (E0 * 2)) = j0 := (bq _).trans R0
 obtain ⟨p2, H⟩ := iN_ H
 have Z2 := Aa p2
 have b3 := ya p2
 clear p2
 obtain ⟨c3, H⟩ := iN_ H
 have e3 := Aa c3
 have f3 := ya c3
 obtain ⟨g3, H⟩ := iN_ H
 have i3 := Aa g3
 have l3 := ya g3
 obtain ⟨S0, M0⟩ : ∃ y_ : List (List Int), y_ = ((C0.take ((wrap64 ((j0) + 2)) : Int).toNat).drop ((j0) : Int).toNat) := ⟨_, rfl⟩
 first | replace H := yb_ M0 H | rw [← M0] at H
 have e1 := c_ M0
 clear M0
 obtain ⟨K3, L3, H⟩ := bN_ H
 obtain ⟨M3, N3, H⟩ := bN_ H
 obtain ⟨O3, P3, H⟩ := bN_ H
 obtain ⟨Q3, R3, H⟩ := bN_ H
 obtain ⟨J1, S3, H⟩ := bN_ H
 obtain ⟨q2, H⟩ := iN_ H
 have m3 := Aa q2
 have n3 := ya q2
 try have p3 : (9223372036854775807 < x0.size + J1.size) = False := eq_false (Nat.not_lt.2 q2)
 have H' := c_ H
 clear H
 obtain ⟨Y0, T0, t2⟩ := vs d0.o
 subst t2
 have v2 : ((wrap64 ((j0) + 2)) : Int) ≤ ((C0.length : Int) : Int) := oD_
 obtain ⟨i038, f1, _, hsz38, _⟩ := info_parts gN
 have hroom38 : C0.length ≤ T0 := (ve d0.o).2.1
 have hC38 : Kd.C (Kd.slice 3 (Kd.int .i64)) _ Y0 C0.length C0 := (ve d0.o).2.2
 have ql38 : ((j0) : Int) ≤ ((wrap64 ((j0) + 2)) : Int) := oD_
 have y2 : (0 : Int) ≤ ((j0) : Int) := oD_
 have hcut38 := tc (P := Tryz.prog) 41 45 .i64 .i64 Tryz.underlying41 f1 1 hsz38 Y0 C0.length T0 (j0) (wrap64 ((j0) + 2)) y2 ql38 v2 hroom38
 have hr38 := xf (lo := ((j0) : Int).toNat) (hi := ((wrap64 ((j0) + 2)) : Int).toNat) (c := T0) hC38 (by omega) (by omega) hroom38
 obtain ⟨T3, hA38⟩ : ∃ A1, A1 = (if T0 = ((j0) : Int).toNat then Y0 else (Y0 : Option Addr).map (·.add (((j0) : Int).toNat * 1))) := ⟨_, rfl⟩
 obtain ⟨U3, hc38⟩ : ∃ c1, c1 = T0 - ((j0) : Int).toNat := ⟨_, rfl⟩
 have Z0 : S0.length = ((wrap64 ((j0) + 2)) : Int).toNat - ((j0) : Int).toNat := (by rw [e1.o, List.length_drop, List.length_take] <;> omega)
 rw [show ((C0).take ((wrap64 ((j0) + 2)) : Int).toNat).drop ((j0) : Int).toNat = S0 from e1.o.symm] at hr38
 replace hr38 : Kd.C (Kd.slice 3 (Kd.int .i64)) _ T3 S0.length S0 := (by rw [hA38]; exact hr38)
 rw [← Z0, ← hA38, ← hc38] at hcut38
 have n0 := c_ hr38
 have K1 := c_ (show S0.length ≤ U3 from by rw [Z0, hc38]; exact Nat.sub_le_sub_right (Nat.le_trans (by omega) hroom38) _)
 clear hr38 hC38 hroom38 f1 hsz38 hc38
 have KY38 := c_ Z0
 have KA38 := c_ hA38
 clear Z0 hA38
 have KL38 := c_ (show ((wrap64 ((j0) + 2)) : Int).toNat ≤ C0.length from by omega)
 have KM38 := c_ (show ((j0) : Int).toNat ≤ ((wrap64 ((j0) + 2)) : Int).toNat from by omega)
 replace v2 := Aa v2
 obtain ⟨V3, W3, z2⟩ := vs e0.o
 subst z2
 go_wp2_with (first | (refine gR_ (k_ 58 Tryz.func30) (bb.calls _ _ _ _ _ _ _ _ _ (by repeat (first | exact (by repeat (first | (with_reducible exact n0.o) | (with_reducible refine Kd.C_alloc ?_ _) | (with_reducible refine Kd.C_drewN ?_ _) | (with_reducible refine Kd.C_drew ?_) | exact n0.o)) | (with_reducible refine Kd.C_alloc ?_ _) | (with_reducible refine Kd.C_drewN ?_ _) | (with_reducible refine Kd.C_drew ?_))) K1.o (cR_ (ve e0.o).2.2) ((ve e0.o).2.1) L3.o) fun X3 F4 ho_ hb => ?_; obtain ⟨d0, e0, f0, b0, n0, HB⟩ := n_ (dg d0) <| n_ (dg e0) <| n_ (lR_ ho_) <| n_ (fK_ b0) <| n_ (fC_ n0) <| sB_) | (refine gR_ (k_ 62 Tryz.func27) (bP.calls _ _ _ _ _ N3.o) fun Y3 G4 ho_ hb => ?_; obtain ⟨d0, e0, f0, q0, b0, n0, HB⟩ := n_ (dg d0) <| n_ (dg e0) <| n_ (di f0) <| n_ (lR_ (dm ho_ f0)) <| n_ (fK_ b0) <| n_ (fC_ n0) <| sB_; obtain ⟨Z3, b4, A2⟩ := uY q0.o; subst A2) | (refine gR_ (k_ 63 Tryz.func26) (aY.calls _ _ _ _ _ _ (cR_ (uX q0.o).2.2) ((uX q0.o).2.1) P3.o) fun e4 H4 ho_ hb => ?_; obtain ⟨d0, e0, f0, q0, y0, b0, n0, HB⟩ := n_ (dg d0) <| n_ (dg e0) <| n_ (di f0) <| n_ (di q0) <| n_ (lR_ (dm (dm ho_ f0) q0)) <| n_ (fK_ b0) <| n_ (fC_ n0) <| sB_; obtain ⟨f4, g4, B2⟩ := uY f0.o; subst B2; obtain ⟨i4, l4, C2⟩ := uY y0.o; subst C2) | (refine gR_ (k_ 64 Tryz.func29) (aM.calls _ _ _ _ _ _ _ _ _ (cR_ (uX f0.o).2.2) ((uX f0.o).2.1) (cR_ (uX y0.o).2.2) ((uX y0.o).2.1) R3.o) fun n4 I4 ho_ hb => ?_; obtain ⟨d0, e0, f0, q0, y0, G0, b0, n0, HB⟩ := n_ (dg d0) <| n_ (dg e0) <| n_ (di f0) <| n_ (di q0) <| n_ (di y0) <| n_ (lR_ (dm (dm (dm ho_ f0) q0) y0)) <| n_ (fK_ b0) <| n_ (fC_ n0) <| sB_; obtain ⟨q4, t4, D2⟩ := uY G0.o; subst D2) | (refine gc_ (k_ 67 Tryz.func28) (cq.calls _ _ _ _ _ _ (cR_ (uX G0.o).2.2) ((uX G0.o).2.1) S3.o) fun J4 hb => ?_; obtain ⟨d0, e0, f0, q0, y0, G0, b0, n0, HB⟩ := n_ (fS_ d0) <| n_ (fS_ e0) <| n_ (fR_ f0) <| n_ (fR_ q0) <| n_ (fR_ y0) <| n_ (fR_ G0) <| n_ (fK_ b0) <| n_ (fC_ n0) <| sB_))
 go_roundg k2
 case measure => have := P1.o; have := J2.o; omega
 case rel => exact ⟨(x0 ++ J1), (wrap64 (E0 + 1)), f0_, f0_, H', ⟨by have := P1.o; have := J2.o; omega⟩, ⟨by refine kS_ ?_; exact vk d0.o (fun _ hk => hk.1.1.1.1)⟩, ⟨by refine kS_ ?_; exact vk e0.o (fun _ hk => hk.1.1.1.1)⟩, ⟨by refine kK_ ?_; exact b0.o⟩, ⟨hS_ v0.o⟩⟩
end Go.Proofs.YtmdlpmddljbkeaaGreatDoor.P
