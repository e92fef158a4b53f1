-- printed texts of this session, regrouped
import Derived.Test.YtmdlpmddljbkeaaGreatDoorPx11
import Derived.Test.YtmdlpmddljbkeaaGreatDoorPx14
namespace Go.Proofs.YtmdlpmddljbkeaaGreatDoor.P
open Go.RowKit YtmdlpmddljbkeaaGreatDoorW.PrintWords YtmdlpmddljbkeaaGreatDoorW.PrintLast YtmdlpmddljbkeaaGreatDoorW.PrintMore
open Kd
attribute [local go_sem] d3 dW eG eI dD dC dZ dY
set_option linter.unusedVariables false
set_option linter.unusedSimpArgs false
theorem uf (d : Nat) (w : World) (x0 y0 : ByteArray) (x1 y1 : ByteArray) :
  (Op.equalIn (d + 2) 27 (.agg #[.string x0, .string x1]) (.agg #[.string y0, .string y1])).run Tryz.prog w = .ok (x0.toList == y0.toList && (x1.toList == y1.toList)) w := by
 refine tM Tryz.underlying27 (by kernel_rfl) ?_
 refine ry (by rfl) (by go_simp; rfl) (by go_simp; rfl) (by go_simp) ?_
 exact rD (by rfl) (by go_simp; rfl) (by go_simp; rfl) (by go_simp)
attribute [local go_sem high] uf
mutual
def bv.j0 : Nat → ByteArray → Bool → ByteArray → ByteArray → Option (Bool)
 | 0, _, _, _, _ => none
 | k + 1, x4, x46, x997000, x997001 => if x46 = true then (none) else ((ci.f k x997000 x4).bind fun bt1002 => ((bR.f k x997001 x4 bt1002.1).bind fun t1005 => (if bt1002.2.2 = true then (if t1005 < 0 then (bv.j1 k x4 bt1002.1 bt1002.2.1 t1005 true x997000 x997001) else ((bQ.f k x997001 x4 bt1002.1).bind fun t1006 => (bv.j1 k x4 bt1002.1 bt1002.2.1 t1005 (t1005 != t1006) x997000 x997001))) else (bv.j1 k x4 bt1002.1 bt1002.2.1 t1005 true x997000 x997001))))
def bv.j1 : Nat → ByteArray → ByteArray → ByteArray → Int → Bool → ByteArray → ByteArray → Option (Bool)
 | 0, _, _, _, _, _, _, _ => none
 | k + 1, x4, x9, x10, x12, x74, x997000, x997001 => if x74 = true then (none) else (if x12 > 831 then (some true) else ((ck.f k x997001 x9).bind fun bt1007 => ((cM.f k x997001 x9).bind fun bt1009 => (if bt1007.2 = true then (if bt1007.1.toList = x4.toList then (if bt1009.2 = true then (if bt1009.1.toList = x10.toList then (some ((x10.size : Int) == 32)) else (none)) else (none)) else (none)) else (none)))))
end
def bv.f (k : Nat) (l0 : List Int) : Option (Bool) := (fW.f l0).bind fun t990 => (if t990 = true then (some true) else ((cw.f k l0).bind fun bt991 => ((bu.f k bt991.1).bind fun bt993 => ((bf.f k bt991.1).bind fun bt997 => (if bt993.2.2 = true then (if (!(bt993.1.toList == bt997.1.toList) || (!(bt993.2.1.toList == bt997.2.1.toList))) = true then (bv.j0 k bt991.2 true bt993.1 bt993.2.1) else ((ch.f k bt993.1).bind fun t1001 => (bv.j0 k bt991.2 (!t1001) bt993.1 bt993.2.1))) else (bv.j0 k bt991.2 true bt993.1 bt993.2.1))))))
theorem bv.mono_l : ∀ k, (∀ y0 y1 y2 y3, LeO (bv.j0 k y0 y1 y2 y3) (bv.j0 (k + 1) y0 y1 y2 y3)) ∧ (∀ y0 y1 y2 y3 y4 y5 y6, LeO (bv.j1 k y0 y1 y2 y3 y4 y5 y6) (bv.j1 (k + 1) y0 y1 y2 y3 y4 y5 y6))
 | 0 => ⟨fun _ _ _ _ r h => by simp [bv.j0] at h, fun _ _ _ _ _ _ _ r h => by simp [bv.j1] at h⟩
 | k + 1 => by
  obtain ⟨ih0, ih1⟩ := bv.mono_l k
  refine ⟨?_, ?_⟩ <;> (intros; (first | unfold bv.j0 | unfold bv.j1); exact ug ih0 ih1 ck.mono bR.mono ci.mono bu.mono ch.mono cM.mono cw.mono bQ.mono bf.mono)
theorem bv.mono : ∀ a0 k, LeO (bv.f k a0) (bv.f (k + 1) a0) := by
 intro a0 k
 obtain ⟨ih0, ih1⟩ := bv.mono_l k
 unfold bv.f
 exact ug ih0 ih1 ck.mono bR.mono ci.mono bu.mono ch.mono cM.mono cw.mono bQ.mono bf.mono
set_option maxHeartbeats 8000000 in
set_option maxRecDepth 100000 in
theorem bv.calls (k : Nat) (A0 : Option Addr) (c0 : Nat) (l0 : List Int) (r : Bool) (w : World) (hr0 : Kd.C (Kd.int .u8) w A0 l0.length l0) (hc0 : l0.length ≤ c0) (h : bv.f k l0 = some r) (hLD : Laid w) :
  Calls Tryz.prog 3 #[.slice A0 l0.length c0] w fun e w' => e = .returned (.bool r) ∧ Below w.heap.size w w' := by
 have HLD := c_ hLD
 clear hLD
 have hu27 := Tryz.underlying27
 have j2 := c_ hr0
 have l2 := c_ hc0
 clear hr0 hc0
 have HB := c_ (Da w.heap.size w)
 delta bv.f at h
 have H := h
 clear h
 obtain ⟨m2, A2, H⟩ := bN_ H
 by_cases c3 : m2 = true
 ·subst c3
  replace H := iT_ H
  obtain rfl := Ba H
  go_enter Tryz.func3, Tryz.ntmps3
  go_wp2_with (first | (refine gp_ (k_ 18 Tryz.func4) (fW.calls _ _ _ _ _ (cR_ j2.o) l2.o A2.o) fun nd => ?_))
  go_ret
  exact ⟨f1_, hB_⟩
 ·replace c3 := Ea c3
  subst c3
  replace H := iF_ H
  obtain ⟨⟨G2, H0⟩, A4, H⟩ := bN_ H
  obtain ⟨⟨p0, q0, n2⟩, A5, H⟩ := bN_ H
  obtain ⟨⟨v0, E0, H2⟩, A6, H⟩ := bN_ H
  have p2 := c_ H
  clear H
  go_enter Tryz.func3, Tryz.ntmps3
  go_upto_region 6 with (first | (refine gp_ (k_ 18 Tryz.func4) (fW.calls _ _ _ _ _ (cR_ j2.o) l2.o A2.o) fun nd => ?_) | (refine gb_ (k_ 21 Tryz.func5) (cw.calls _ _ _ _ _ _ _ (cR_ j2.o) l2.o A4.o) fun w8 HB => ?_) | (refine gb_ (k_ 26 Tryz.func6) (bu.calls _ _ _ _ _ _ A5.o (HLD.o.below HLD.o.pos ((u3_)))) fun w9 HB => ?_) | ((try (refine bi (by rfl) ?_; dsimp only)); refine bx_ 5 #[.string (⟨#[]⟩ : ByteArray), .string (⟨#[]⟩ : ByteArray)] 27 fun e0 v2 hb HB a0 r0 => ?_; have V0 : v2.cell? ⟨e0, 0, none⟩ = some (.string (⟨#[]⟩ : ByteArray)) := (ah a0.o 0).trans rfl; have W0 : v2.cell? ⟨e0, 1, none⟩ = some (.string (⟨#[]⟩ : ByteArray)) := (ah a0.o 1).trans rfl; have X0 := ae a0.o 0; have Y0 := ae a0.o 1) | (refine gc_ (k_ 31 Tryz.func7) (bf.calls _ _ _ _ _ _ A6.o) fun U2 hb => ?_; obtain ⟨a0, HB⟩ := b_ (d8 (g := e0) (o := .cells #[.string p0, .string q0] 27 (0, 0)) (by refine kK_ ?_; refine bO (cs := #[.string p0, .string (⟨#[]⟩ : ByteArray)]) ?_ 1 _ rfl; refine kK_ ?_; refine bO (cs := #[.string (⟨#[]⟩ : ByteArray), .string (⟨#[]⟩ : ByteArray)]) ?_ 0 _ rfl; exact rK_ a0.o) hb) <| sB_) | ((try (refine bi (by rfl) ?_; dsimp only)); refine bq_ 7 #[.string (⟨#[]⟩ : ByteArray), .string (⟨#[]⟩ : ByteArray)] 27 fun k0 G0 hg hb HB b0 n0 => ?_; obtain ⟨a0, d0, f0⟩ := n_ (fK_ a0) <| b_ (by rw [hg]; exact Nat.ne_of_lt (eq (g := e0) (o := .cells #[.string p0, .string q0] 27 (0, 0)) (rK_ a0.o)) : e0 ≠ k0) <| c_ (by rw [hg]; exact Nat.ne_of_gt (eq (g := e0) (o := .cells #[.string p0, .string q0] 27 (0, 0)) (rK_ a0.o)) : k0 ≠ e0); clear hg; have hnb14 := f0.o; have hnc14 := d0.o; have Z0 : G0.cell? ⟨k0, 0, none⟩ = some (.string (⟨#[]⟩ : ByteArray)) := (ah b0.o 0).trans rfl; have b1 : G0.cell? ⟨k0, 1, none⟩ = some (.string (⟨#[]⟩ : ByteArray)) := (ah b0.o 1).trans rfl; have c1 := ae b0.o 0; have e1 := ae b0.o 1))
  (try simp only [Act.put, List.setIfInBounds_toArray, List.set_cons_zero, List.set_cons_succ])
  go_cut [46] (fun I2 wc => ∃ (kq : Nat) (C0 : Bool), I2 = .bool C0 ∧ aa (bv.j0 kq H0 C0 p0 q0 = some r) ∧ aa (kq ≤ k) ∧ aa (wc.heap[e0]? = some (.cells #[.string p0, .string q0] 27 (0, 0))) ∧ aa (wc.heap[k0]? = some (.cells #[.string v0, .string E0] 27 (0, 0))) ∧ aa (Below w.heap.size w wc))
  case first =>
   have H := p2.o
   clear p2
   by_cases f1 : n2 = true
   ·subst f1
    replace H := iT_ H
    by_cases L0 : (!(p0.toList == v0.toList) || (!(q0.toList == E0.toList))) = true
    ·rw [Fa L0] at H
     have y0 : (!(p0.toList == v0.toList) || (!(q0.toList == E0.toList))) = true := L0
     clear L0
     (first | rw [y0] | (simp only [bq, ct]; rw [y0]) | skip)
     have H' := c_ H
     clear H
     have hnb18 := d0.o
     have hnc18 := f0.o
     have g1 : G0.cell? ⟨e0, 0, none⟩ = some (.string p0) := (ah a0.o 0).trans rfl
     have i1 : G0.cell? ⟨e0, 1, none⟩ = some (.string q0) := (ah a0.o 1).trans rfl
     have l1 := ae a0.o 0
     have m1 := ae a0.o 1
     have n1 : G0.cell? ⟨k0, 0, none⟩ = some (.string (⟨#[]⟩ : ByteArray)) := (ah b0.o 0).trans rfl
     have p1 : G0.cell? ⟨k0, 1, none⟩ = some (.string (⟨#[]⟩ : ByteArray)) := (ah b0.o 1).trans rfl
     have q1 := ae b0.o 0
     have r1 := ae b0.o 1
     go_wp2
     go_meet
     case rel => exact ⟨_, (true), f0_, H', ⟨by first | omega | exact Ca _⟩, ⟨by refine kK_ ?_; refine dr ?_ d0.o _; refine kK_ ?_; refine dr ?_ d0.o _; refine kK_ ?_; exact a0.o⟩, ⟨by refine kK_ ?_; refine bO (cs := #[.string v0, .string (⟨#[]⟩ : ByteArray)]) ?_ 1 _ rfl; refine kK_ ?_; refine bO (cs := #[.string (⟨#[]⟩ : ByteArray), .string (⟨#[]⟩ : ByteArray)]) ?_ 0 _ rfl; refine kK_ ?_; exact b0.o⟩, ⟨(u2_ r0.o n0.o)⟩⟩
    rw [Ga L0] at H
    have y0 : (!(p0.toList == v0.toList) || (!(q0.toList == E0.toList))) = false := by simpa using L0
    clear L0
    (first | rw [y0] | (simp only [bq, ct]; rw [y0]) | skip)
    obtain ⟨O0, J2, H⟩ := bN_ H
    have H' := c_ H
    clear H
    have hnb22 := d0.o
    have hnc22 := f0.o
    have t1 : G0.cell? ⟨e0, 0, none⟩ = some (.string p0) := (ah a0.o 0).trans rfl
    have y1 : G0.cell? ⟨e0, 1, none⟩ = some (.string q0) := (ah a0.o 1).trans rfl
    have z1 := ae a0.o 0
    have A1 := ae a0.o 1
    have B1 : G0.cell? ⟨k0, 0, none⟩ = some (.string (⟨#[]⟩ : ByteArray)) := (ah b0.o 0).trans rfl
    have C1 : G0.cell? ⟨k0, 1, none⟩ = some (.string (⟨#[]⟩ : ByteArray)) := (ah b0.o 1).trans rfl
    have D1 := ae b0.o 0
    have E1 := ae b0.o 1
    go_wp2_with (first | (go_at_call 8; refine mb_ (ch.calls _ _ _ _ J2.o) fun V2 hb => ?_; obtain ⟨a0, b0, HB⟩ := b_ (d8 (g := e0) (o := .cells #[.string p0, .string q0] 27 (0, 0)) (by refine kK_ ?_; refine dr ?_ d0.o _; refine kK_ ?_; refine dr ?_ d0.o _; exact rK_ a0.o) hb) <| b_ (d8 (g := k0) (o := .cells #[.string v0, .string E0] 27 (0, 0)) (by refine kK_ ?_; refine bO (cs := #[.string v0, .string (⟨#[]⟩ : ByteArray)]) ?_ 1 _ rfl; refine kK_ ?_; refine bO (cs := #[.string (⟨#[]⟩ : ByteArray), .string (⟨#[]⟩ : ByteArray)]) ?_ 0 _ rfl; exact rK_ b0.o) hb) <| sB_))
    go_meet
    case rel => exact ⟨_, (!O0), f0_, H', ⟨by first | omega | exact Ca _⟩, ⟨by refine kK_ ?_; exact a0.o⟩, ⟨by refine kK_ ?_; exact b0.o⟩, ⟨(u2_ r0.o n0.o)⟩⟩
   ·replace f1 := Ea f1
    subst f1
    replace H := iF_ H
    have H' := c_ H
    clear H
    go_wp2
    go_meet
    case rel => exact ⟨_, (true), f0_, H', ⟨by first | omega | exact Ca _⟩, ⟨by refine kK_ ?_; refine dr ?_ d0.o _; refine kK_ ?_; refine dr ?_ d0.o _; refine kK_ ?_; exact a0.o⟩, ⟨by refine kK_ ?_; refine bO (cs := #[.string v0, .string (⟨#[]⟩ : ByteArray)]) ?_ 1 _ rfl; refine kK_ ?_; refine bO (cs := #[.string (⟨#[]⟩ : ByteArray), .string (⟨#[]⟩ : ByteArray)]) ?_ 0 _ rfl; refine kK_ ?_; exact b0.o⟩, ⟨(u2_ r0.o n0.o)⟩⟩
  clear p2
  obtain ⟨kq, C0, rfl, HA, q2, a0, b0, HB⟩ := hcut
  rcases kq with _ | K2
  ·exact absurd HA.o (by simp [bv.j0])
  have H := HA.o
  clear HA
  simp only [bv.j0] at H
  by_cases F1 : C0 = true
  ·subst F1
   replace H := iT_ H
   exact absurd H (by simp)
  ·replace F1 := Ea F1
   subst F1
   replace H := iF_ H
   obtain ⟨⟨P0, F0, Q0⟩, L2, H⟩ := bN_ H
   obtain ⟨D0, M2, H⟩ := bN_ H
   have K0 := c_ H
   clear H
   have hnb30 := d0.o
   have hnc30 := f0.o
   have G1 : wc.cell? ⟨e0, 0, none⟩ = some (.string p0) := (ah a0.o 0).trans rfl
   have H1 : wc.cell? ⟨e0, 1, none⟩ = some (.string q0) := (ah a0.o 1).trans rfl
   have I1 := ae a0.o 0
   have J1 := ae a0.o 1
   go_upto_region 10 with (first | (refine gc_ (k_ 51 Tryz.func9) (ci.calls _ _ _ _ _ _ _ L2.o (HLD.o.below HLD.o.pos ((u2_ n0.o r0.o)))) fun y2 hb => ?_; obtain ⟨a0, b0, HB⟩ := n_ (fK_ a0) <| n_ (fK_ b0) <| sB_; have K1 : y2.cell? ⟨e0, 0, none⟩ = some (.string p0) := (ah a0.o 0).trans rfl; have L1 : y2.cell? ⟨e0, 1, none⟩ = some (.string q0) := (ah a0.o 1).trans rfl; have M1 := ae a0.o 0; have N1 := ae a0.o 1) | (refine gc_ (k_ 59 Tryz.func10) (bR.calls _ _ _ _ _ _ M2.o) fun z2 hb => ?_; obtain ⟨a0, b0, HB⟩ := n_ (fK_ a0) <| n_ (fK_ b0) <| sB_))
   (try simp only [Act.put, List.setIfInBounds_toArray, List.set_cons_zero, List.set_cons_succ])
   go_cut [74] (fun N2 wc => ∃ (kq : Nat) (x0 : Bool), N2 = .bool x0 ∧ aa (bv.j1 kq H0 P0 F0 D0 x0 p0 q0 = some r) ∧ aa (kq ≤ K2) ∧ aa (wc.heap[e0]? = some (.cells #[.string p0, .string q0] 27 (0, 0))) ∧ aa (wc.heap[k0]? = some (.cells #[.string v0, .string E0] 27 (0, 0))) ∧ aa (Below w.heap.size w wc))
   case first =>
    have H := K0.o
    clear K0
    by_cases O1 : Q0 = true
    ·subst O1
     replace H := iT_ H
     by_cases M0 : D0 < 0
     ·rw [Fa M0] at H
      have B0 := ya M0
      clear M0
      (first | rw [B0] | (simp only [bq, ct]; rw [B0]) | skip)
      have H' := c_ H
      clear H
      go_wp2
      go_meet
      case rel => exact ⟨_, (true), f0_, H', ⟨by have := q2.o; first | omega | exact Ca _⟩, ⟨by refine kK_ ?_; exact a0.o⟩, ⟨by refine kK_ ?_; exact b0.o⟩, ⟨(u2_ r0.o n0.o)⟩⟩
     rw [Ga M0] at H
     have B0 := za M0
     clear M0
     (first | rw [B0] | (simp only [bq, ct]; rw [B0]) | skip)
     obtain ⟨R0, O2, H⟩ := bN_ H
     have H' := c_ H
     clear H
     have hnb38 := d0.o
     have hnc38 := f0.o
     have P1 : z2.cell? ⟨e0, 0, none⟩ = some (.string p0) := (ah a0.o 0).trans rfl
     have Q1 : z2.cell? ⟨e0, 1, none⟩ = some (.string q0) := (ah a0.o 1).trans rfl
     have R1 := ae a0.o 0
     have S1 := ae a0.o 1
     go_wp2_with (first | (go_at_call 11; refine mb_ (bQ.calls _ _ _ _ _ _ O2.o) fun X2 hb => ?_; obtain ⟨a0, b0, HB⟩ := n_ (fK_ a0) <| n_ (fK_ b0) <| sB_))
     go_meet
     case rel => exact ⟨_, ((D0 != R0)), f0_, H', ⟨by have := q2.o; first | omega | exact Ca _⟩, ⟨by refine kK_ ?_; exact a0.o⟩, ⟨by refine kK_ ?_; exact b0.o⟩, ⟨(u2_ r0.o n0.o)⟩⟩
    ·replace O1 := Ea O1
     subst O1
     replace H := iF_ H
     have H' := c_ H
     clear H
     go_wp2
     go_meet
     case rel => exact ⟨_, (true), f0_, H', ⟨by have := q2.o; first | omega | exact Ca _⟩, ⟨by refine kK_ ?_; exact a0.o⟩, ⟨by refine kK_ ?_; exact b0.o⟩, ⟨(u2_ r0.o n0.o)⟩⟩
   clear K0
   obtain ⟨kq, x0, rfl, HA, P2, a0, b0, HB⟩ := hcut
   rcases kq with _ | Q2
   ·exact absurd HA.o (by simp [bv.j1])
   have H := HA.o
   clear HA
   simp only [bv.j1] at H
   by_cases T1 : x0 = true
   ·subst T1
    replace H := iT_ H
    exact absurd H (by simp)
   ·replace T1 := Ea T1
    subst T1
    replace H := iF_ H
    by_cases N0 : D0 > 831
    ·rw [Fa N0] at H
     have S0 := ya N0
     clear N0
     obtain rfl := Ba H
     go_wp2
     go_ret
     exact ⟨f1_, (u2_ r0.o n0.o)⟩
    rw [Ga N0] at H
    have S0 := za N0
    clear N0
    obtain ⟨⟨I0, T0⟩, R2, H⟩ := bN_ H
    obtain ⟨⟨J0, U0⟩, T2, H⟩ := bN_ H
    by_cases U1 : T0 = true
    ·subst U1
     replace H := iT_ H
     obtain ⟨r2, H⟩ := iN_ H
     have B2 : (I0.toList == H0.toList) = true := beq_iff_eq.mpr r2
     have C2 : (I0.toList != H0.toList) = false := bne_eq_false_iff_eq.mpr r2
     clear r2
     by_cases V1 : U0 = true
     ·subst V1
      replace H := iT_ H
      obtain ⟨t2, H⟩ := iN_ H
      have D2 : (J0.toList == F0.toList) = true := beq_iff_eq.mpr t2
      have E2 : (J0.toList != F0.toList) = false := bne_eq_false_iff_eq.mpr t2
      clear t2
      obtain rfl := Ba H
      have hnb49 := d0.o
      have hnc49 := f0.o
      have X1 : wc.cell? ⟨e0, 0, none⟩ = some (.string p0) := (ah a0.o 0).trans rfl
      have Y1 : wc.cell? ⟨e0, 1, none⟩ = some (.string q0) := (ah a0.o 1).trans rfl
      have Z1 := ae a0.o 0
      have b2 := ae a0.o 1
      go_wp2_with (first | (refine gc_ (k_ 81 Tryz.func12) (ck.calls _ _ _ _ _ _ R2.o) fun F2 hb => ?_; obtain ⟨a0, b0, HB⟩ := n_ (fK_ a0) <| n_ (fK_ b0) <| sB_; have c2 : F2.cell? ⟨e0, 0, none⟩ = some (.string p0) := (ah a0.o 0).trans rfl; have f2 : F2.cell? ⟨e0, 1, none⟩ = some (.string q0) := (ah a0.o 1).trans rfl; have g2 := ae a0.o 0; have i2 := ae a0.o 1) | (refine gc_ (k_ 88 Tryz.func13) (cM.calls _ _ _ _ _ _ T2.o (HLD.o.below HLD.o.pos ((u2_ n0.o r0.o)))) fun Y2 hb => ?_; obtain ⟨a0, b0, HB⟩ := n_ (fK_ a0) <| n_ (fK_ b0) <| sB_))
      go_ret
      exact ⟨f1_, (u2_ r0.o n0.o)⟩
     ·replace V1 := Ea V1
      subst V1
      replace H := iF_ H
      exact absurd H (by simp)
    ·replace U1 := Ea U1
     subst U1
     replace H := iF_ H
     exact absurd H (by simp)
/-- THE ONE PURE STATEMENT of bv: yours. -/
def bv.Pure : Prop := ∀ (l0 : List Int), l0.length ≤ maxLen → l0.length * 1 ≤ 140737488351232 → (∀ x ∈ l0, (Lit.int .u8 x).wf = true) → ∃ k, bv.f k l0 = some true
theorem bv.walk (P : bv.Pure) (a0 : Option Addr) (len0 cap0 : Nat) (z0 : List Int) (w : World) (w0 : (a0 = none ∧ len0 = 0 ∧ cap0 = 0 ∧ z0 = []) ∨ ∃ x, a0 = some x ∧ len0 ≤ cap0 ∧ cap0 ≤ maxLen ∧ z0.length = cap0 ∧ (∀ i, i < z0.length → w.cell? (x.add i) = some (.int .u8 (z0.getD i 0))) ∧ ∀ n ∈ z0, (Lit.int .u8 n).wf = true) (y0 : len0 * 1 ≤ 140737488351232) (hLD : Laid w) :
  Calls Tryz.prog 3 #[.slice a0 len0 cap0] w fun e w' => e = .returned (.bool true) ∧ Below w.heap.size w w' := by
 have HLD := c_ hLD
 clear hLD
 obtain ⟨l0, rfl, hr0, hm0, hw0, hc0⟩ := fl.ofRowC w0
 obtain ⟨k, h⟩ := P l0 hm0 y0 hw0
 refine (bv.calls k _ _ l0 true w (vS (d := (0 : Int)) (h1 := fun _ => rfl) hr0) hc0 h HLD.o).mono ?_
 rintro e w' ⟨rfl, hd⟩
 exact ⟨rfl, hd⟩
end Go.Proofs.YtmdlpmddljbkeaaGreatDoor.P
