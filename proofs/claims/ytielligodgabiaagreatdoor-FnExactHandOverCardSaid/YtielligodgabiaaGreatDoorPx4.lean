-- printed texts of this session, regrouped
import Derived.Test.YtielligodgabiaaGreatDoorMWC
import Derived.Test.YtielligodgabiaaGreatDoorMWA
import Derived.Test.YtielligodgabiaaGreatDoorMW7
import Derived.Test.YtielligodgabiaaGreatDoorMW6
import Derived.Test.YtielligodgabiaaGreatDoorPx0
import Derived.Test.YtielligodgabiaaGreatDoorPx1
import Derived.Test.YtielligodgabiaaGreatDoorPx2
import Derived.Test.YtielligodgabiaaGreatDoorPx3
namespace Go.Proofs.YtielligodgabiaaGreatDoor.P
open Go.RowKit YtielligodgabiaaGreatDoorW.PrintWords YtielligodgabiaaGreatDoorW.PrintLast YtielligodgabiaaGreatDoorW.PrintMore
attribute [local go_sem] dJ dC ej eh dh di dB dK   -- for this text's walks alone
set_option linter.unusedVariables false
set_option linter.unusedSimpArgs false
set_option maxHeartbeats 8000000
set_option maxRecDepth 100000

/-! ### am: function 19 -/
mutual
def am.l0 : Nat → List Int → Int → Int → Option (List Int)
 | 0, _, _, _ => none
 | k + 1, x3, x4, x5 => if x5 ≤ 128 then (am.l1 k x3 x4 x5 0) else (am.l3 k x3 0)
def am.l1 : Nat → List Int → Int → Int → Int → Option (List Int)
 | 0, _, _, _, _ => none
 | k + 1, x3, x4, x5, x6 => if x6 < 256 then ((ba.f k x4).bind fun t410 => ((bh.f k 17 t410).bind fun t411 => (am.l2 k x3 (wrap64 (x4 - 1)) x5 x6 t411 x6))) else (am.l0 k x3 x4 (wrap64 (x5 * 2)))
def am.l2 : Nat → List Int → Int → Int → Int → Int → Int → Option (List Int)
 | 0, _, _, _, _, _, _ => none
 | k + 1, x3, x4, x5, x6, x7, x8 => if x8 < (wrap64 (x6 + x5)) then (if 0 ≤ x8 then (if x8 < (x3.length : Int) then (if 0 ≤ (wrap64 (x8 + x5)) then (if (wrap64 (x8 + x5)) < (x3.length : Int) then ((some (x3.set (x8 : Int).toNat (Int.tmod (wrap64 ((rd x3 x8) + (rd x3 (wrap64 (x8 + x5))))) 3329) : List Int)).bind fun y414 => (am.l2 k (y414.set ((wrap64 (x8 + x5)) : Int).toNat (Int.tmod (wrap64 (x7 * (wrap64 ((wrap64 ((rd y414 (wrap64 (x8 + x5))) - (rd x3 x8))) + 3329)))) 3329)) x4 x5 x6 x7 (wrap64 (x8 + 1)))) else (none)) else (none)) else (none)) else (none)) else (am.l1 k x3 x4 x5 (wrap64 (x6 + (wrap64 (2 * x5)))))
def am.l3 : Nat → List Int → Int → Option (List Int)
 | 0, _, _ => none
 | k + 1, x3, x10 => if x10 < 256 then (if 0 ≤ x10 then (if x10 < (x3.length : Int) then (am.l3 k (x3.set (x10 : Int).toNat (Int.tmod (wrap64 ((rd x3 x10) * 3303)) 3329)) (wrap64 (x10 + 1))) else (none)) else (none)) else (some x3)
end
def am.f (k : Nat) (l0 : List Int) : Option (List Int) := (ar.f k l0).bind fun t400 => (if t400 = true then ((some (([] : List Int) : List Int)).bind fun y404 => (if y404.length + l0.length < 17592186044416 then (am.l0 k (y404 ++ l0) 127 2) else (none))) else (some (([] : List Int))))
theorem am.mono_l : ∀ k, (∀ y0 y1 y2, LeO (am.l0 k y0 y1 y2) (am.l0 (k + 1) y0 y1 y2)) ∧ (∀ y0 y1 y2 y3, LeO (am.l1 k y0 y1 y2 y3) (am.l1 (k + 1) y0 y1 y2 y3)) ∧ (∀ y0 y1 y2 y3 y4 y5, LeO (am.l2 k y0 y1 y2 y3 y4 y5) (am.l2 (k + 1) y0 y1 y2 y3 y4 y5)) ∧ (∀ y0 y1, LeO (am.l3 k y0 y1) (am.l3 (k + 1) y0 y1))
 | 0 => ⟨fun _ _ _ r h => by simp [am.l0] at h, fun _ _ _ _ r h => by simp [am.l1] at h, fun _ _ _ _ _ _ r h => by simp [am.l2] at h, fun _ _ r h => by simp [am.l3] at h⟩
 | k + 1 => by
  obtain ⟨ih0, ih1, ih2, ih3⟩ := am.mono_l k
  refine ⟨?_, ?_, ?_, ?_⟩ <;> (intros; (first | unfold am.l0 | unfold am.l1 | unfold am.l2 | unfold am.l3); exact o7_ ih0 ih1 ih2 ih3 ar.mono bh.mono ba.mono)
theorem am.mono : ∀ a0 k, LeO (am.f k a0) (am.f (k + 1) a0) := by
 intro a0 k
 obtain ⟨ih0, ih1, ih2, ih3⟩ := am.mono_l k
 unfold am.f
 exact o7_ ih0 ih1 ih2 ih3 ar.mono bh.mono ba.mono
theorem am.calls (k : Nat) (A0 : Option Addr) (c0 : Nat) (l0 : List Int) (r : List Int) (w : World) (hr0 : Kd.C (Kd.int .i64) w A0 l0.length l0) (hc0 : l0.length ≤ c0) (h : am.f k l0 = some r) :
  Calls Tryz.prog 19 #[.slice A0 l0.length c0] w fun e w' => ∃ r2 : Value, e = .returned (r2) ∧ Kd.R (Kd.int .i64) 3 w' w.heap.size (fun _ => True) r2 r ∧ Below w.heap.size w w' := by
 have J1 := aa.mk hr0
 have t2 := aa.mk hc0
 clear hr0 hc0
 have HB := aa.mk (xa w.heap.size w)
 delta am.f at h
 have H := h
 clear h
 obtain ⟨K1, A2, H⟩ := bN_ H
 by_cases c3 : K1 = true
 ·subst c3
  replace H := iT_ H
  obtain ⟨e1, t0⟩ : ∃ y_ : List Int, y_ = (([] : List Int)) := ⟨_, rfl⟩
  first | replace H := yb_ t0 H | rw [← t0] at H
  have N0 := aa.mk t0
  clear t0
  obtain ⟨c4, H⟩ := iN_ H
  have L1 := aa.mk c4
  clear c4
  obtain ⟨M1, u0⟩ : ∃ y_ : List Int, y_ = (e1 ++ l0) := ⟨_, rfl⟩
  first | replace H := yb_ u0 H | rw [← u0] at H
  have f1 := aa.mk u0
  clear u0
  have H' := aa.mk H
  clear H
  go_enter Tryz.func19, Tryz.ntmps19
  go_wp2_with (first | ((with_reducible refine ae (f := 47) rfl ?_); refine aq (some 12) rfl rfl Tryz.func47 (by kernel_rfl) rfl #[.slice A0 l0.length c0] rfl aM_ ?_; (with_reducible refine (ar.calls k _ _ l0 true _ ?side1 ?side2 A2.out).mono ?_); (case side1 => exact cR_ J1.out); (case side2 => exact t2.out); rintro e w' ⟨rfl, ⟨nd, rfl⟩⟩; refine ⟨_, rfl, ?_⟩) | ((with_reducible refine aI (N := 15) rfl ?_); refine Kd.R_lit (Kd.int .i64) _ 3 ?hg (N := 15) ?hd (xs := ([] : List Int)) (inner := []) (ok := fun _ => True) (okp := fun _ => True) ?hr ?hp (fun _ hk => hk) trivial (xa _ _) (wa _) (by simp) ?_; (case hd => rfl); (case hg => rfl); (case hr => first | (go_simp; done) | (go_simp; rfl)); (case hp => exact (br.none _ _)); intro N1 w5 g1 hb hg_ hnew_; clear hg_ hnew_; (first | rw [← N0.out] at g1 | (simp only [Int.reduceToNat] at g1; rw [← N0.out] at g1)); have n_ := b_ (Kd.R_lower g1 (ab (hB_))) <| c_ (ac (hB_) hb); clear HB; obtain ⟨O0, HB⟩ := n_; clear hb g1) | ((with_reducible refine aV (b := .append) (xs := #[.tmp 15, .tmp 16]) rfl ?_); at_builtin; refine Kd.R_append_rows (Kd.int .i64) (w0 := w) w.heap.size rfl (.tmp 15) (.tmp 16) 38 3 (.int .i64 0) 8 rfl Tryz.underlying38 cS rfl (by decide) (by omega) N1 e1 l0 _ _ _ (fun _ => True) (fun _ => False) rfl rfl ?aO ?aR (fun _ _ h => h) (fun _ h => h.elim) ?aF ?aB ?aS ?aL ?_; (case aR => exact cR_ (Kd.C_below J1.out HB.out)); (case aB => exact (hB_)); (case aF => exact (fun _ _ => trivial)); (case aO => exact (rR_ O0.out)); (case aS => exact (ab (hB_))); (case aL => have := L1.out; omega); intro H0 w7 ho hb hg hat; rw [← f1.out] at ho; have n_ := b_ (hb) <| c_ (ho); clear O0 HB; obtain ⟨HB, i1⟩ := n_; clear ho hb hg hat))
  go_loopg [4, 5] k (fun kq v4 v5 w' => ∃ (D0 : List Int) (I0 : Int) (k0 : Int), v4 = .int .i64 I0 ∧ v5 = .int .i64 k0 ∧ aa (am.l0 kq D0 I0 k0 = some r) ∧ aa (kq ≤ k) ∧ aa (Kd.R (Kd.int .i64) 3 w' w.heap.size (fun _ => True) H0 D0) ∧ aa (Below w.heap.size w w'))
  case atStart => exact ⟨(M1), (127), (2), f0_, f0_, H', ⟨wa _⟩, ⟨rR_ i1.out⟩, ⟨hB_⟩⟩
  clear H'
  obtain ⟨D0, I0, k0, rfl, rfl, HA, P0, a0, HB⟩ := hrel
  rcases gk with _ | k1
  ·exact absurd HA.out (by simp [am.l0])
  have H := HA.out
  clear HA
  simp only [am.l0] at H
  by_cases c8 : k0 ≤ 128
  rotate_left
  ·rw [Aa c8] at H
   have O1 := ua c8
   clear c8
   have H' := aa.mk H
   clear H
   go_wp2
   go_loopg [10] k1 (fun kq F2 w' => ∃ (j0 : List Int) (b0 : Int), F2 = .int .i64 b0 ∧ aa (am.l3 kq j0 b0 = some r) ∧ aa (kq ≤ k1) ∧ aa (Kd.R (Kd.int .i64) 3 w' w.heap.size (fun _ => True) H0 j0) ∧ aa (Below w.heap.size w w'))
   case atStart => exact ⟨(D0), (0), f0_, H', ⟨wa _⟩, ⟨rR_ a0.out⟩, ⟨hB_⟩⟩
   clear H'
   obtain ⟨j0, b0, rfl, HA, J0, a0, HB⟩ := hrel
   rcases gk with _ | k2
   ·exact absurd HA.out (by simp [am.l3])
   have H := HA.out
   clear HA
   simp only [am.l3] at H
   by_cases c1 : b0 < 256
   rotate_left
   ·rw [Aa c1] at H
    have j1 := ua c1
    clear c1
    obtain rfl := sI H
    go_wp2
    go_ret
    exact ⟨_, f1_, rR_ a0.out, hB_⟩
   rw [za c1] at H
   have j1 := ta c1
   clear c1
   obtain ⟨u2, H⟩ := iD_ H
   obtain ⟨v2, H⟩ := iD_ H
   obtain ⟨m1, v0⟩ : ∃ y_ : List Int, y_ = (j0.set (b0 : Int).toNat (Int.tmod (wrap64 ((rd j0 b0) * 3303)) 3329)) := ⟨_, rfl⟩
   first | replace H := yb_ v0 H | rw [← v0] at H
   have n1 := aa.mk v0
   clear v0
   have H' := aa.mk H
   clear H
   obtain ⟨G2, P1, Q1⟩ := Kd.R_slice a0.out
   subst Q1
   have S0 : 0 ≤ (b0 : Int) := oD_
   have T0 : b0 < (j0.length : Int) := oD_
   obtain ⟨y2, R1, K0⟩ := Kd.at_int (Kd.R_reads' a0.out).2.2 b0 S0 T0
   cases R1
   replace S0 := va S0
   replace T0 := va T0
   have S1 : 0 ≤ (b0 : Int) := oD_
   have T1 : (b0 : Int) < ((j0.length : Int) : Int) := oD_
   obtain ⟨go28, H2, p1, q1, gl28, cl28, HG28⟩ := Kd.R_form a0.out (by omega)
   (first | cases p1 | (injection p1 with ea_ en_ ec_; (first | subst ea_ | (injection ea_ with ea_; subst ea_)); subst ec_; clear en_))
   have U1 := aa.mk q1
   have GG28 := aa.mk HG28
   clear q1 gl28 HG28
   (first | simp only [bU] at K0 | skip)
   obtain ⟨V1, hf28_0⟩ := Kd.R_celln 0 a0.out (b0 : Int) S1 T1
   replace S1 := va S1
   replace T1 := va T1
   have HP30 := Kd.R_putg a0.out (b0 : Int) (Int.tmod (wrap64 ((rd j0 b0) * 3303)) 3329)
   go_wp2_with (first | ((with_reducible refine cm (t := 3) (p := 86) rfl ?_); refine b9 (t := 3) (p := 86) (v := ?vo_w31) (w1 := (wr.setCell ⟨go28, (b0 : Int).toNat, none⟩ (.int .i64 (Int.tmod (wrap64 ((rd j0 b0) * 3303)) 3329)))) ?hg ?ho ?hn ?hr ?_; (case ho => rfl); (case hg => rfl); (case hn => rfl); (case hr => first | (go_simp; done) | (go_simp; rfl)); intro X1 hw; have hg : wr.grownBy X1 (some go28) := (by rw [hw]; exact HP30.2); have hp_ : Kd.R (Kd.int .i64) 3 X1 w.heap.size (fun _ => True) (.slice (some ⟨go28, 0, none⟩) j0.length P1) m1 := (by rw [hw, n1.out]; exact HP30.1); clear HP30; have n_ := b_ (hp_) <| c_ (by rw [hw]; exact co (HB.out) U1.out : Below w.heap.size w X1); clear a0 HB; obtain ⟨a0, HB⟩ := n_; clear hg hw hp_))
   go_roundg k2
   case measure => have := P0.out; have := J0.out; omega
   case rel => exact ⟨(m1), (wrap64 (b0 + 1)), f0_, H', ⟨by have := P0.out; have := J0.out; omega⟩, ⟨rR_ a0.out⟩, ⟨hB_⟩⟩
  rw [za c8] at H
  have O1 := ta c8
  clear c8
  have H' := aa.mk H
  clear H
  go_wp2
  go_loopg [4, 6] k1 (fun kq v4 v6 w' => ∃ (j0 : List Int) (q0 : Int) (r0 : Int), v4 = .int .i64 q0 ∧ v6 = .int .i64 r0 ∧ aa (am.l1 kq j0 q0 k0 r0 = some r) ∧ aa (kq ≤ k1) ∧ aa (Kd.R (Kd.int .i64) 3 w' w.heap.size (fun _ => True) H0 j0) ∧ aa (Below w.heap.size w w'))
  case atStart => exact ⟨(D0), (I0), (0), f0_, f0_, H', ⟨wa _⟩, ⟨rR_ a0.out⟩, ⟨hB_⟩⟩
  clear H'
  obtain ⟨j0, q0, r0, rfl, rfl, HA, J0, a0, HB⟩ := hrel
  rcases gk with _ | k2
  ·exact absurd HA.out (by simp [am.l1])
  have H := HA.out
  clear HA
  simp only [am.l1] at H
  by_cases c9 : r0 < 256
  rotate_left
  ·rw [Aa c9] at H
   have Y1 := ua c9
   clear c9
   have H' := aa.mk H
   clear H
   go_wp2
   go_roundg k2
   case measure => have := P0.out; have := J0.out; omega
   case rel => exact ⟨(j0), (q0), (wrap64 (k0 * 2)), f0_, f0_, H', ⟨by have := P0.out; have := J0.out; omega⟩, ⟨rR_ a0.out⟩, ⟨hB_⟩⟩
  rw [za c9] at H
  have Y1 := ta c9
  clear c9
  obtain ⟨U0, I2, H⟩ := bN_ H
  obtain ⟨E0, J2, H⟩ := bN_ H
  have H' := aa.mk H
  clear H
  go_wp2_with (first | ((with_reducible refine ae (f := 49) rfl ?_); refine aq (some 29) rfl rfl Tryz.func49 (by kernel_rfl) rfl #[.int .i64 q0] rfl aM_ ?_; (with_reducible refine (ba.calls k2 q0 U0 _ I2.out).mono ?_); rintro e w' ⟨rfl, ⟨nd, rfl⟩⟩; refine ⟨_, rfl, ?_⟩) | ((with_reducible refine ae (f := 48) rfl ?_); refine aq (some 30) rfl rfl Tryz.func48 (by kernel_rfl) rfl #[.int .i64 17, .int .i64 U0] rfl aM_ ?_; (with_reducible refine (bh.calls k2 17 U0 E0 _ J2.out).mono ?_); rintro e w' ⟨rfl, ⟨nd, rfl⟩⟩; refine ⟨_, rfl, ?_⟩))
  go_loopg [8] k2 (fun kq v8 w' => ∃ (d0 : List Int) (e0 : Int), v8 = .int .i64 e0 ∧ aa (am.l2 kq d0 (wrap64 (q0 - 1)) k0 r0 E0 e0 = some r) ∧ aa (kq ≤ k2) ∧ aa (Kd.R (Kd.int .i64) 3 w' w.heap.size (fun _ => True) H0 d0) ∧ aa (Below w.heap.size w w'))
  case atStart => exact ⟨(j0), (r0), f0_, H', ⟨wa _⟩, ⟨rR_ a0.out⟩, ⟨hB_⟩⟩
  clear H'
  obtain ⟨d0, e0, rfl, HA, I1, a0, HB⟩ := hrel
  rcases gk with _ | k3
  ·exact absurd HA.out (by simp [am.l2])
  have H := HA.out
  clear HA
  simp only [am.l2] at H
  by_cases d1 : e0 < (wrap64 (r0 + k0))
  rotate_left
  ·rw [Aa d1] at H
   have r1 := ua d1
   clear d1
   have H' := aa.mk H
   clear H
   go_wp2
   go_roundg k3
   case measure => have := P0.out; have := J0.out; have := I1.out; omega
   case rel => exact ⟨(d0), ((wrap64 (q0 - 1))), (wrap64 (r0 + (wrap64 (2 * k0)))), f0_, f0_, H', ⟨by have := P0.out; have := J0.out; have := I1.out; omega⟩, ⟨rR_ a0.out⟩, ⟨hB_⟩⟩
  rw [za d1] at H
  have r1 := ta d1
  clear d1
  obtain ⟨z2, H⟩ := iD_ H
  obtain ⟨B2, H⟩ := iD_ H
  obtain ⟨f0, F0⟩ : ∃ j_ : Int, (wrap64 (e0 + k0)) = j_ := ⟨_, rfl⟩
  first | rw [F0] at H | simp only [F0] at H
  have Z1 : (IntKind.i64.wrap (e0 + k0)) = f0 := (bB _).trans F0
  obtain ⟨C2, H⟩ := iD_ H
  obtain ⟨D2, H⟩ := iD_ H
  obtain ⟨C0, x0⟩ : ∃ y_ : List Int, y_ = (d0.set (e0 : Int).toNat (Int.tmod (wrap64 ((rd d0 e0) + (rd d0 (f0)))) 3329)) := ⟨_, rfl⟩
  first | replace H := yb_ x0 H | rw [← x0] at H
  have Q0 := aa.mk x0
  clear x0
  obtain ⟨t1, y0⟩ : ∃ y_ : List Int, y_ = (C0.set ((f0) : Int).toNat (Int.tmod (wrap64 (E0 * (wrap64 ((wrap64 ((rd C0 (f0)) - (rd d0 e0))) + 3329)))) 3329)) := ⟨_, rfl⟩
  first | replace H := yb_ y0 H | rw [← y0] at H
  have y1 := aa.mk y0
  clear y0
  have H' := aa.mk H
  clear H
  obtain ⟨K2, z1, b2⟩ := Kd.R_slice a0.out
  subst b2
  have V0 : 0 ≤ (e0 : Int) := oD_
  have W0 : e0 < (d0.length : Int) := oD_
  obtain ⟨A1, c2, L0⟩ := Kd.at_int (Kd.R_reads' a0.out).2.2 e0 V0 W0
  cases c2
  replace V0 := va V0
  replace W0 := va W0
  have X0 : 0 ≤ ((f0) : Int) := oD_
  have Y0 : (f0) < (d0.length : Int) := oD_
  obtain ⟨B1, e2, M0⟩ := Kd.at_int (Kd.R_reads' a0.out).2.2 (f0) X0 Y0
  obtain rfl : A1 = B1 := (by injection e2)
  replace X0 := va X0
  replace Y0 := va Y0
  have f2 : 0 ≤ (e0 : Int) := oD_
  have g2 : (e0 : Int) < ((d0.length : Int) : Int) := oD_
  obtain ⟨go18, L2, C1, D1, gl18, cl18, HG18⟩ := Kd.R_form a0.out (by omega)
  (first | cases C1 | (injection C1 with ea_ en_ ec_; (first | subst ea_ | (injection ea_ with ea_; subst ea_)); subst ec_; clear en_))
  have E1 := aa.mk D1
  have GG18 := aa.mk HG18
  clear D1 gl18 HG18
  (first | simp only [bU] at L0 | skip)
  (first | simp only [bU] at M0 | skip)
  obtain ⟨i2, hf18_0⟩ := Kd.R_celln 0 a0.out (e0 : Int) f2 g2
  replace f2 := va f2
  replace g2 := va g2
  have HP21 := Kd.R_putg a0.out (e0 : Int) (Int.tmod (wrap64 ((rd d0 e0) + (rd d0 (f0)))) 3329)
  go_wp2_with (first | ((with_reducible refine cm (t := 3) (p := 56) rfl ?_); refine b9 (t := 3) (p := 56) (v := ?vo_w22) (w1 := (wr.setCell ⟨go18, (e0 : Int).toNat, none⟩ (.int .i64 (Int.tmod (wrap64 ((rd d0 e0) + (rd d0 (f0)))) 3329)))) ?hg ?ho ?hn ?hr ?_; (case ho => rfl); (case hg => rfl); (case hn => rfl); (case hr => first | (go_simp; done) | (go_simp; rfl)); intro F1 hw; have hg : wr.grownBy F1 (some go18) := (by rw [hw]; exact HP21.2); have hp_ : Kd.R (Kd.int .i64) 3 F1 w.heap.size (fun _ => True) (.slice (some ⟨go18, 0, none⟩) d0.length z1) C0 := (by rw [hw, Q0.out]; exact HP21.1); clear HP21; have n_ := b_ (hp_) <| c_ (by rw [hw]; exact co (HB.out) E1.out : Below w.heap.size w F1); clear a0 HB; obtain ⟨a0, HB⟩ := n_; clear hg hw hp_; have Z0 : 0 ≤ ((f0) : Int) := oD_; have b1 : (f0) < (C0.length : Int) := (by have h_ : ((f0) : Int) < ((d0.length : Int) : Int) := oD_; first | (have e_ := (Kd.R_reads' a0.out).1; omega) | simpa only [Q0.out, List.length_set] using h_); have ql415 : (((f0) : Int) < ((d0.length : Int) : Int)) = True := va oD_; obtain ⟨G1, j2, p0⟩ := Kd.at_int (Kd.R_reads' a0.out).2.2 (f0) Z0 b1; obtain rfl : (⟨go18, 0, none⟩ : Addr) = G1 := (by injection j2); (first | simp only [bU] at p0 | simp only [mK] at p0 | simp only [Addr.add, Nat.zero_add] at p0 | skip); replace Z0 := va Z0; replace b1 := va b1; have m2 : 0 ≤ ((f0) : Int) := oD_; have n2 : ((f0) : Int) < ((d0.length : Int) : Int) := oD_; obtain ⟨p2, hf19_0⟩ := Kd.R_celln 0 a0.out ((f0) : Int) m2 n2; replace m2 := va m2; replace n2 := va n2; obtain ⟨E2, hz23_⟩ := Kd.R_celln 0 a0.out ((f0) : Int) oD_ oD_; have HP23 := Kd.R_putg a0.out ((f0) : Int) (Int.tmod (wrap64 (E0 * (wrap64 ((wrap64 ((rd C0 (f0)) - (rd d0 e0))) + 3329)))) 3329)) | ((with_reducible refine cm (t := 3) (p := 73) rfl ?_); refine b9 (t := 3) (p := 73) (v := ?vo_w24) (w1 := (F1.setCell ⟨go18, ((f0) : Int).toNat, none⟩ (.int .i64 (Int.tmod (wrap64 (E0 * (wrap64 ((wrap64 ((rd C0 (f0)) - (rd d0 e0))) + 3329)))) 3329)))) ?hg ?ho ?hn ?hr ?_; (case ho => rfl); (case hg => rfl); (case hn => rfl); (case hr => first | (go_simp; done) | (go_simp; rfl)); intro q2 hw; have hg : F1.grownBy q2 (some go18) := (by rw [hw]; exact HP23.2); have hp_ : Kd.R (Kd.int .i64) 3 q2 w.heap.size (fun _ => True) (.slice (some ⟨go18, 0, none⟩) d0.length z1) t1 := (by rw [hw, y1.out]; exact HP23.1); clear HP23; have n_ := b_ (hp_) <| c_ (by rw [hw]; exact co (HB.out) E1.out : Below w.heap.size w q2); clear a0 HB; obtain ⟨a0, HB⟩ := n_; clear hg hw hp_))
  go_roundg k3
  case measure => have := P0.out; have := J0.out; have := I1.out; omega
  case rel => exact ⟨(t1), (wrap64 (e0 + 1)), f0_, H', ⟨by have := P0.out; have := J0.out; have := I1.out; omega⟩, ⟨rR_ a0.out⟩, ⟨hB_⟩⟩
 ·replace c3 := ya c3
  subst c3
  replace H := iF_ H
  obtain ⟨M2, B0⟩ : ∃ y_ : List Int, y_ = (([] : List Int)) := ⟨_, rfl⟩
  first | replace H := yb_ B0 H | rw [← B0] at H
  have R0 := aa.mk B0
  clear B0
  obtain rfl := sI H
  go_enter Tryz.func19, Tryz.ntmps19
  go_wp2_with (first | ((with_reducible refine ae (f := 47) rfl ?_); refine aq (some 12) rfl rfl Tryz.func47 (by kernel_rfl) rfl #[.slice A0 l0.length c0] rfl aM_ ?_; (with_reducible refine (ar.calls k _ _ l0 false _ ?side1 ?side2 A2.out).mono ?_); (case side1 => exact cR_ J1.out); (case side2 => exact t2.out); rintro e w' ⟨rfl, ⟨nd, rfl⟩⟩; refine ⟨_, rfl, ?_⟩) | ((with_reducible refine aI (N := 14) rfl ?_); refine Kd.R_lit (Kd.int .i64) _ 3 ?hg (N := 14) ?hd (xs := ([] : List Int)) (inner := []) (ok := fun _ => True) (okp := fun _ => True) ?hr ?hp (fun _ hk => hk) trivial (xa _ _) (wa _) (by simp) ?_; (case hd => rfl); (case hg => rfl); (case hr => first | (go_simp; done) | (go_simp; rfl)); (case hp => exact (br.none _ _)); intro N2 O2 G0 hb hg_ hnew_; clear hg_ hnew_; (first | rw [← R0.out] at G0 | (simp only [Int.reduceToNat] at G0; rw [← R0.out] at G0)); have n_ := b_ (Kd.R_lower G0 (ab (hB_))) <| c_ (ac (hB_) hb); clear HB; obtain ⟨H1, HB⟩ := n_; clear hb G0))
  go_ret
  exact ⟨_, f1_, rR_ H1.out, hB_⟩

/-! ### ax: function 52 -/
mutual
def ax.j0 : Nat → List Int → List Int → List Int → Bool → Option (List Int)
 | 0, _, _, _, _ => none
 | k + 1, x0, x1, x5, x17 => if x17 = true then (some x5) else (ax.l0 k x0 x1 x5 0)
def ax.l0 : Nat → List Int → List Int → List Int → Int → Option (List Int)
 | 0, _, _, _, _ => none
 | k + 1, x0, x1, x5, x6 => if x6 < 128 then ((ba.f k x6).bind fun t424 => ((bh.f k 17 (wrap64 ((wrap64 (2 * t424)) + 1))).bind fun t425 => (if 0 ≤ (wrap64 ((wrap64 (2 * x6)) + 1)) then (if (wrap64 ((wrap64 (2 * x6)) + 1)) < (x0.length : Int) then (if (wrap64 ((wrap64 (2 * x6)) + 1)) < (x1.length : Int) then (if 0 ≤ (wrap64 (2 * x6)) then (if (wrap64 (2 * x6)) < (x0.length : Int) then (if (wrap64 (2 * x6)) < (x1.length : Int) then ((some (([Int.tmod (wrap64 ((wrap64 ((rd x0 (wrap64 (2 * x6))) * (rd x1 (wrap64 (2 * x6))))) + (wrap64 ((Int.tmod (wrap64 ((rd x0 (wrap64 ((wrap64 (2 * x6)) + 1))) * (rd x1 (wrap64 ((wrap64 (2 * x6)) + 1))))) 3329) * t425)))) 3329, Int.tmod (wrap64 ((wrap64 ((rd x0 (wrap64 (2 * x6))) * (rd x1 (wrap64 ((wrap64 (2 * x6)) + 1))))) + (wrap64 ((rd x0 (wrap64 ((wrap64 (2 * x6)) + 1))) * (rd x1 (wrap64 (2 * x6))))))) 3329] : List Int) : List Int)).bind fun y434 => (if x5.length + y434.length < 17592186044416 then (ax.l0 k x0 x1 (x5 ++ y434) (wrap64 (x6 + 1))) else (none))) else (none)) else (none)) else (none)) else (none)) else (none)) else (none)))) else (some x5)
end
def ax.f (k : Nat) (l0 : List Int) (l1 : List Int) : Option (List Int) := (some (([] : List Int) : List Int)).bind fun y419 => ((ar.f k l0).bind fun t422 => (if t422 = true then ((ar.f k l1).bind fun t423 => (ax.j0 k l0 l1 y419 (!t423))) else (ax.j0 k l0 l1 y419 true)))
theorem ax.mono_l : ∀ k, (∀ y0 y1 y2 y3, LeO (ax.j0 k y0 y1 y2 y3) (ax.j0 (k + 1) y0 y1 y2 y3)) ∧ (∀ y0 y1 y2 y3, LeO (ax.l0 k y0 y1 y2 y3) (ax.l0 (k + 1) y0 y1 y2 y3))
 | 0 => ⟨fun _ _ _ _ r h => by simp [ax.j0] at h, fun _ _ _ _ r h => by simp [ax.l0] at h⟩
 | k + 1 => by
  obtain ⟨ih0, ih1⟩ := ax.mono_l k
  refine ⟨?_, ?_⟩ <;> (intros; (first | unfold ax.j0 | unfold ax.l0); exact o5_ ih0 ih1 ar.mono bh.mono ba.mono)
theorem ax.mono : ∀ a0 a1 k, LeO (ax.f k a0 a1) (ax.f (k + 1) a0 a1) := by
 intro a0 a1 k
 obtain ⟨ih0, ih1⟩ := ax.mono_l k
 unfold ax.f
 exact o5_ ih0 ih1 ar.mono bh.mono ba.mono
def ax.T8 : Bool × List (List Nat × List Nat) := (true, [([], []), ([], []), ([1], [1]), ([2], [2]), ([0, 3], [0, 3]), ([4], [4]), ([], []), ([], []), ([7], [7]), ([8], [8]), ([6, 9], [6, 9]), ([10], [10]), ([5, 11], [5, 11]), ([12], [12]), ([], []), ([13, 14], [13, 14]), ([15, 0, 1, 2, 3, 4, 5, 6, 7, 8, 9, 10, 11, 12, 13, 14, 15], [15])])
def ax.B8 : List Nat := [0, 0, 2, 6, 15, 31, 0, 0, 128, 384, 960, 1984, 4095, 8191, 0, 32767, 65535]
theorem ax.tab8 : dW .any (eW Tryz.f52 8) = ax.T8 := by kernel_rfl
theorem ax.bits8 : cZ ax.T8.2 ax.B8 = true := by kernel_rfl
def ax.T9 : Bool × List (List Nat × List Nat) := (true, [([], []), ([], []), ([], []), ([2], [2]), ([1, 3], [1, 3]), ([4], [4]), ([], []), ([], []), ([7], [7]), ([6, 8], [6, 8]), ([9], [9]), ([5, 10], [5, 10]), ([], []), ([11, 12], [11, 12]), ([13], [13]), ([], []), ([], []), ([16], [16]), ([15, 17], [15, 17]), ([18], [18]), ([], []), ([], []), ([21], [21]), ([22], [22]), ([20, 23], [20, 23]), ([24], [24]), ([19, 25], [19, 25]), ([], []), ([], []), ([28], [28]), ([29], [29]), ([27, 30], [27, 30]), ([31], [31]), ([], []), ([], []), ([34], [34]), ([33, 35], [33, 35]), ([36], [36]), ([32, 37], [32, 37]), ([26, 38], [26, 38]), ([39], [39]), ([14, 40], [14, 40]), ([0, 41], [0, 41]), ([42, 42, 0, 1, 2, 3, 4, 5, 6, 7, 8, 9, 10, 11, 12, 13, 14, 15, 16, 17, 18, 19, 20, 21, 22, 23, 24, 25, 26, 27, 28, 29, 30, 31, 32, 33, 34, 35, 36, 37, 38, 39, 40, 41, 42], [0, 42])])
def ax.B9 : List Nat := [0, 0, 0, 4, 14, 30, 0, 0, 128, 448, 960, 2046, 0, 8190, 16382, 0, 0, 65536, 229376, 491520, 0, 0, 2097152, 6291456, 15728640, 32505856, 67076096, 0, 0, 268435456, 805306368, 2013265920, 4160749568, 0, 0, 17179869184, 60129542144, 128849018880, 274743689216, 549755781120, 1099511595008, 2199023255550, 4398046511103, 8796093022207]
theorem ax.tab9 : dW .any (eW Tryz.f52 9) = ax.T9 := by kernel_rfl
theorem ax.bits9 : cZ ax.T9.2 ax.B9 = true := by kernel_rfl
theorem ax.calls (k : Nat) (A0 : Option Addr) (c0 : Nat) (l0 : List Int) (A1 : Option Addr) (c1 : Nat) (l1 : List Int) (r : List Int) (w : World) (hr0 : Kd.C (Kd.int .i64) w A0 l0.length l0) (hc0 : l0.length ≤ c0) (hr1 : Kd.C (Kd.int .i64) w A1 l1.length l1) (hc1 : l1.length ≤ c1) (h : ax.f k l0 l1 = some r) :
  Calls Tryz.prog 52 #[.slice A0 l0.length c0, .slice A1 l1.length c1] w fun e w' => ∃ p2 : Value, e = .returned (p2) ∧ Kd.R (Kd.int .i64) 3 w' w.heap.size (fun _ => True) p2 r ∧ Below w.heap.size w w' := by
 have B1 := aa.mk hr0
 have q2 := aa.mk hc0
 clear hr0 hc0
 have D1 := aa.mk hr1
 have E2 := aa.mk hc1
 clear hr1 hc1
 have HB := aa.mk (xa w.heap.size w)
 delta ax.f at h
 have H := h
 clear h
 obtain ⟨W0, K0⟩ : ∃ y_ : List Int, y_ = (([] : List Int)) := ⟨_, rfl⟩
 first | replace H := yb_ K0 H | rw [← K0] at H
 have T0 := aa.mk K0
 clear K0
 have R1 := aa.mk H
 clear H
 go_enter Tryz.func52, Tryz.ntmps52
 go_upto_region 2 with (first | ((with_reducible refine aI (N := 9) rfl ?_); refine Kd.R_lit (Kd.int .i64) _ 3 ?hg (N := 9) ?hd (xs := ([] : List Int)) (inner := []) (ok := fun _ => True) (okp := fun _ => True) ?hr ?hp (fun _ hk => hk) trivial (xa _ _) (wa _) (by simp) ?_; (case hd => rfl); (case hg => rfl); (case hr => first | (go_simp; done) | (go_simp; rfl)); (case hp => exact (br.none _ _)); intro S1 w4 E1 hb hg_ hnew_; clear hg_ hnew_; (first | rw [← T0.out] at E1 | (simp only [Int.reduceToNat] at E1; rw [← T0.out] at E1)); have n_ := b_ (Kd.R_lower E1 (ab (hB_))) <| c_ (ac (hB_) hb); clear HB; obtain ⟨U0, HB⟩ := n_; clear hb E1))
 (try simp only [Act.put, List.setIfInBounds_toArray, List.set_cons_zero, List.set_cons_succ])
 go_cut [17] (fun F2 wc => ∃ (kq : Nat) (L0 : Bool), F2 = .bool L0 ∧ aa (ax.j0 kq l0 l1 W0 L0 = some r) ∧ aa (kq ≤ k) ∧ aa (Kd.R (Kd.int .i64) 3 wc w.heap.size (fun _ => True) S1 W0) ∧ aa (Below w.heap.size w wc))
 case first =>
  have H := R1.out
  clear R1
  obtain ⟨T1, A6, H⟩ := bN_ H
  by_cases c7 : T1 = true
  ·subst c7
   replace H := iT_ H
   obtain ⟨F1, A8, H⟩ := bN_ H
   have H' := aa.mk H
   clear H
   go_wp2_with (first | ((with_reducible refine ae (f := 47) rfl ?_); refine aq (some 11) rfl rfl Tryz.func47 (by kernel_rfl) rfl #[.slice A0 l0.length c0] rfl aM_ ?_; (with_reducible refine (ar.calls k _ _ l0 true _ ?side1 ?side2 A6.out).mono ?_); (case side1 => exact cR_ (Kd.C_below B1.out HB.out)); (case side2 => exact q2.out); rintro e w' ⟨rfl, ⟨nd, rfl⟩⟩; refine ⟨_, rfl, ?_⟩) | (go_at_call 47; (with_reducible refine (ar.calls k _ _ l1 F1 _ ?side1 ?side2 A8.out).mono ?_); (case side1 => exact cR_ (Kd.C_below D1.out (hB_))); (case side2 => exact E2.out); rintro e w' ⟨rfl, ⟨nd, rfl⟩⟩))
   go_meet
   case rel => exact ⟨_, (!F1), f0_, H', ⟨by first | omega | exact wa _⟩, ⟨rR_ U0.out⟩, ⟨hB_⟩⟩
  ·replace c7 := ya c7
   subst c7
   replace H := iF_ H
   have H' := aa.mk H
   clear H
   go_wp2_with (first | ((with_reducible refine ae (f := 47) rfl ?_); refine aq (some 11) rfl rfl Tryz.func47 (by kernel_rfl) rfl #[.slice A0 l0.length c0] rfl aM_ ?_; (with_reducible refine (ar.calls k _ _ l0 false _ ?side1 ?side2 A6.out).mono ?_); (case side1 => exact cR_ (Kd.C_below B1.out HB.out)); (case side2 => exact q2.out); rintro e w' ⟨rfl, ⟨nd, rfl⟩⟩; refine ⟨_, rfl, ?_⟩))
   go_meet
   case rel => exact ⟨_, (true), f0_, H', ⟨by first | omega | exact wa _⟩, ⟨rR_ U0.out⟩, ⟨hB_⟩⟩
 clear R1
 obtain ⟨kq, L0, rfl, HA, r2, d0, HB⟩ := hcut
 rcases kq with _ | t2
 ·exact absurd HA.out (by simp [ax.j0])
 have H := HA.out
 clear HA
 simp only [ax.j0] at H
 by_cases c9 : L0 = true
 ·subst c9
  replace H := iT_ H
  obtain rfl := sI H
  go_wp2
  go_ret
  exact ⟨_, f1_, rR_ d0.out, hB_⟩
 ·replace c9 := ya c9
  subst c9
  replace H := iF_ H
  have H' := aa.mk H
  clear H
  go_wp2
  go_loopg [5, 6] t2 (fun kq v5 v6 w' => ∃ (Q0 : List Int) (E0 : Int), v6 = .int .i64 E0 ∧ aa (ax.l0 kq l0 l1 Q0 E0 = some r) ∧ aa (kq ≤ t2) ∧ aa (Kd.R (Kd.int .i64) 3 w' w.heap.size (fun _ => True) v5 Q0) ∧ aa (Below w.heap.size w w'))
  case atStart => exact ⟨(W0), (0), f0_, H', ⟨wa _⟩, ⟨rR_ d0.out⟩, ⟨hB_⟩⟩
  clear H'
  obtain ⟨Q0, E0, rfl, HA, u2, d0, HB⟩ := hrel
  rcases gk with _ | k2
  ·exact absurd HA.out (by simp [ax.l0])
  have H := HA.out
  clear HA
  simp only [ax.l0] at H
  by_cases C1 : E0 < 128
  rotate_left
  ·rw [Aa C1] at H
   have G1 := ua C1
   clear C1
   obtain rfl := sI H
   go_wp2
   go_ret
   exact ⟨_, f1_, rR_ d0.out, hB_⟩
  rw [za C1] at H
  have G1 := ta C1
  clear C1
  obtain ⟨X0, U1, H⟩ := bN_ H
  obtain ⟨R0, V1, H⟩ := bN_ H
  obtain ⟨a0, H0⟩ : ∃ j_ : Int, (wrap64 ((wrap64 (2 * E0)) + 1)) = j_ := ⟨_, rfl⟩
  first | rw [H0] at H | simp only [H0] at H
  (try rw [H0] at U1)
  (try rw [H0] at V1)
  have X1 : (IntKind.i64.wrap ((wrap64 (2 * E0)) + 1)) = a0 := (bB _).trans H0
  obtain ⟨v2, H⟩ := iD_ H
  obtain ⟨y2, H⟩ := iD_ H
  obtain ⟨z2, H⟩ := iD_ H
  obtain ⟨b0, I0⟩ : ∃ j_ : Int, (wrap64 (2 * E0)) = j_ := ⟨_, rfl⟩
  first | rw [I0] at H | simp only [I0] at H
  (try rw [I0] at U1)
  (try rw [I0] at V1)
  have Y1 : (IntKind.i64.wrap (2 * E0)) = b0 := (bB _).trans I0
  have hji13_ji17 : wrap64 (b0 + 1) = a0 := by rw [← I0]; exact H0
  have hji13_ji17w : IntKind.i64.wrap (b0 + 1) = a0 := (bB _).trans hji13_ji17
  obtain ⟨A2, H⟩ := iD_ H
  obtain ⟨B2, H⟩ := iD_ H
  obtain ⟨C2, H⟩ := iD_ H
  obtain ⟨Y0, M0⟩ : ∃ y_ : List Int, y_ = (([Int.tmod (wrap64 ((wrap64 ((rd l0 (b0)) * (rd l1 (b0)))) + (wrap64 ((Int.tmod (wrap64 ((rd l0 (a0)) * (rd l1 (a0)))) 3329) * R0)))) 3329, Int.tmod (wrap64 ((wrap64 ((rd l0 (b0)) * (rd l1 (a0)))) + (wrap64 ((rd l0 (a0)) * (rd l1 (b0)))))) 3329] : List Int)) := ⟨_, rfl⟩
  first | replace H := yb_ M0 H | rw [← M0] at H
  have V0 := aa.mk M0
  clear M0
  obtain ⟨D2, H⟩ := iN_ H
  have H1 := aa.mk D2
  clear D2
  obtain ⟨Z1, N0⟩ : ∃ y_ : List Int, y_ = (Q0 ++ Y0) := ⟨_, rfl⟩
  first | replace H := yb_ N0 H | rw [← N0] at H
  have I1 := aa.mk N0
  clear N0
  have H' := aa.mk H
  clear H
  try go_wp2_with (first | ((with_reducible refine ae (f := 49) rfl ?_); refine aq (some 24) rfl rfl Tryz.func49 (by kernel_rfl) rfl #[.int .i64 E0] rfl aM_ ?_; (with_reducible refine (ba.calls k2 E0 X0 _ U1.out).mono ?_); rintro e w' ⟨rfl, ⟨nd, rfl⟩⟩; refine ⟨_, rfl, ?_⟩) | ((with_reducible refine ae (f := 48) rfl ?_); refine aq (some 27) rfl rfl Tryz.func48 (by kernel_rfl) rfl #[.int .i64 17, .int .i64 (wrap64 ((wrap64 (2 * X0)) + 1))] rfl aM_ ?_; (with_reducible refine (bh.calls k2 17 (wrap64 ((wrap64 (2 * X0)) + 1)) R0 _ V1.out).mono ?_); rintro e w' ⟨rfl, ⟨nd, rfl⟩⟩; refine ⟨_, rfl, ?_⟩))
  (try (rw [cU wr]; generalize hq_ : World.drewN wr _ = wr; have n_ := b_ (show Kd.R (Kd.int .i64) 3 wr w.heap.size (fun _ => True) u5 Q0 from by rw [← hq_]; exact (rR_ d0.out)) <| c_ (show Below w.heap.size w wr from by rw [← hq_]; exact (hB_)); clear d0 HB hq_; obtain ⟨d0, HB⟩ := n_))
  have n_ := b_ (Kd.R_drew d0.out) <| c_ (bX HB.out)
  clear d0 HB
  obtain ⟨d0, HB⟩ := n_
  have Z0 : 0 ≤ ((a0) : Int) := oD_
  have b1 : (a0) < (l0.length : Int) := oD_
  obtain ⟨F0, b2, t0⟩ := Kd.at_int B1.out (a0) Z0 b1
  have O0 := t0
  cases b2
  replace t0 := (HB.out.cell (World.block_lt_of_cell? w _ t0)).trans t0
  replace Z0 := va Z0
  replace b1 := va b1
  have d1 : 0 ≤ ((a0) : Int) := oD_
  have e1 : (a0) < (l1.length : Int) := oD_
  obtain ⟨G0, c2, u0⟩ := Kd.at_int D1.out (a0) d1 e1
  have P0 := u0
  cases c2
  replace u0 := (HB.out.cell (World.block_lt_of_cell? w _ u0)).trans u0
  replace d1 := va d1
  replace e1 := va e1
  refine dY (n := 17) (S := fun w' => w'.cell? (F0.add ((a0)).toNat) = some (.int .i64 (rd l0 (a0))) ∧ w'.cell? (G0.add ((a0)).toNat) = some (.int .i64 (rd l1 (a0)))) (ds := []) (bb_ 17 0) (by kernel_rfl) rfl rfl ⟨((HB.out.cell (World.block_lt_of_cell? w _ O0)).trans O0), ((HB.out.cell (World.block_lt_of_cell? w _ P0)).trans P0)⟩ (fun hHeld => ?_); refine cM ax.tab8 ax.bits8 (fun HT_ HW_ => ?_)
  generalize wr.drew = G2 at d0 HB t0 u0 hHeld ⊢
  refine pS_ 0 28 (bb_ 17 1) HT_.out ?_
  refine pS_ 1 29 (bb_ 17 3) HT_.out ?_
  refine pS_ 2 30 (bb_ 17 7) HT_.out ?_
  refine pS_ 3 31 (bb_ 17 15) HT_.out ?_
  refine pS_ 4 32 (bb_ 17 31) HT_.out ?_
  refine pS_ 6 34 (bb_ 17 95) HT_.out ?_
  refine pS_ 7 35 (bb_ 17 223) HT_.out ?_
  refine pS_ 8 36 (bb_ 17 479) HT_.out ?_
  refine pS_ 9 37 (bb_ 17 991) HT_.out ?_
  refine pS_ 10 38 (bb_ 17 2015) HT_.out ?_
  refine pS_ 14 42 (bb_ 17 18399) HT_.out ?_
  refine tS_ 5 33 (bb_ 17 18431) (bA HT_.out HW_.out (by kernel_rfl)) hHeld ?_
  refine tS_ 11 39 (bb_ 17 20479) (bA HT_.out HW_.out (by kernel_rfl)) hHeld ?_
  refine pS_ 12 40 (bb_ 17 24575) HT_.out ?_
  refine pS_ 13 41 (bb_ 17 32767) HT_.out ?_
  refine pS_ 15 43 (bb_ 17 65535) HT_.out ?_
  refine pS_ 16 8 (bb_ 17 131071) HT_.out ?_
  refine eT (dn HT_.out (by kernel_rfl)) ?_
  try go_wp2
  have n_ := b_ (Kd.R_drew d0.out) <| c_ (bX HB.out)
  clear d0 HB
  obtain ⟨d0, HB⟩ := n_
  have f1 : 0 ≤ ((b0) : Int) := oD_
  have g1 : (b0) < (l0.length : Int) := oD_
  obtain ⟨J1, e2, v0⟩ := Kd.at_int B1.out (b0) f1 g1
  have e0 := v0
  obtain rfl : F0 = J1 := (by injection e2)
  replace v0 := (HB.out.cell (World.block_lt_of_cell? w _ v0)).trans v0
  replace f1 := va f1
  replace g1 := va g1
  have i1 : 0 ≤ ((b0) : Int) := oD_
  have j1 : (b0) < (l1.length : Int) := oD_
  obtain ⟨K1, f2, x0⟩ := Kd.at_int D1.out (b0) i1 j1
  have f0 := x0
  obtain rfl : G0 = K1 := (by injection f2)
  replace x0 := (HB.out.cell (World.block_lt_of_cell? w _ x0)).trans x0
  replace i1 := va i1
  replace j1 := va j1
  have m1 : 0 ≤ ((b0) : Int) := oD_
  have n1 : (b0) < (l0.length : Int) := oD_
  obtain ⟨L1, g2, y0⟩ := Kd.at_int B1.out (b0) m1 n1
  have k0 := y0
  obtain rfl : F0 = L1 := (by injection g2)
  replace y0 := (HB.out.cell (World.block_lt_of_cell? w _ y0)).trans y0
  replace m1 := va m1
  replace n1 := va n1
  have p1 : 0 ≤ ((a0) : Int) := oD_
  have q1 : (a0) < (l1.length : Int) := oD_
  obtain ⟨M1, i2, B0⟩ := Kd.at_int D1.out (a0) p1 q1
  have p0 := B0
  obtain rfl : G0 = M1 := (by injection i2)
  replace B0 := (HB.out.cell (World.block_lt_of_cell? w _ B0)).trans B0
  replace p1 := va p1
  replace q1 := va q1
  have r1 : 0 ≤ ((a0) : Int) := oD_
  have t1 : (a0) < (l0.length : Int) := oD_
  obtain ⟨N1, j2, C0⟩ := Kd.at_int B1.out (a0) r1 t1
  have q0 := C0
  obtain rfl : F0 = N1 := (by injection j2)
  replace C0 := (HB.out.cell (World.block_lt_of_cell? w _ C0)).trans C0
  replace r1 := va r1
  replace t1 := va t1
  have y1 : 0 ≤ ((b0) : Int) := oD_
  have z1 : (b0) < (l1.length : Int) := oD_
  obtain ⟨O1, l2, D0⟩ := Kd.at_int D1.out (b0) y1 z1
  have r0 := D0
  obtain rfl : G0 = O1 := (by injection l2)
  replace D0 := (HB.out.cell (World.block_lt_of_cell? w _ D0)).trans D0
  replace y1 := va y1
  replace z1 := va z1
  refine dY (n := 44) (S := fun w' => w'.cell? (F0.add ((b0)).toNat) = some (.int .i64 (rd l0 (b0))) ∧ w'.cell? (G0.add ((b0)).toNat) = some (.int .i64 (rd l1 (b0))) ∧ w'.cell? (F0.add ((b0)).toNat) = some (.int .i64 (rd l0 (b0))) ∧ w'.cell? (G0.add ((a0)).toNat) = some (.int .i64 (rd l1 (a0))) ∧ w'.cell? (F0.add ((a0)).toNat) = some (.int .i64 (rd l0 (a0))) ∧ w'.cell? (G0.add ((b0)).toNat) = some (.int .i64 (rd l1 (b0)))) (ds := []) (bb_ 44 0) (by kernel_rfl) rfl rfl ⟨((HB.out.cell (World.block_lt_of_cell? w _ e0)).trans e0), ((HB.out.cell (World.block_lt_of_cell? w _ f0)).trans f0), ((HB.out.cell (World.block_lt_of_cell? w _ k0)).trans k0), ((HB.out.cell (World.block_lt_of_cell? w _ p0)).trans p0), ((HB.out.cell (World.block_lt_of_cell? w _ q0)).trans q0), ((HB.out.cell (World.block_lt_of_cell? w _ r0)).trans r0)⟩ (fun hHeld => ?_); refine cM ax.tab9 ax.bits9 (fun HT_ HW_ => ?_)
  generalize G2.drew = J2 at d0 HB v0 x0 y0 B0 C0 D0 hHeld ⊢
  refine pS_ 0 44 (bb_ 44 1) HT_.out ?_
  refine pS_ 1 45 (bb_ 44 3) HT_.out ?_
  refine pS_ 2 46 (bb_ 44 7) HT_.out ?_
  refine pS_ 3 47 (bb_ 44 15) HT_.out ?_
  refine pS_ 4 48 (bb_ 44 31) HT_.out ?_
  refine pS_ 6 50 (bb_ 44 95) HT_.out ?_
  refine pS_ 7 51 (bb_ 44 223) HT_.out ?_
  refine pS_ 8 52 (bb_ 44 479) HT_.out ?_
  refine pS_ 9 53 (bb_ 44 991) HT_.out ?_
  refine pS_ 12 56 (bb_ 44 5087) HT_.out ?_
  refine pS_ 15 59 (bb_ 44 37855) HT_.out ?_
  refine pS_ 16 60 (bb_ 44 103391) HT_.out ?_
  refine pS_ 17 61 (bb_ 44 234463) HT_.out ?_
  refine pS_ 18 62 (bb_ 44 496607) HT_.out ?_
  refine pS_ 20 64 (bb_ 44 1545183) HT_.out ?_
  refine pS_ 21 65 (bb_ 44 3642335) HT_.out ?_
  refine pS_ 22 66 (bb_ 44 7836639) HT_.out ?_
  refine pS_ 23 67 (bb_ 44 16225247) HT_.out ?_
  refine pS_ 24 68 (bb_ 44 33002463) HT_.out ?_
  refine pS_ 27 71 (bb_ 44 167220191) HT_.out ?_
  refine pS_ 28 72 (bb_ 44 435655647) HT_.out ?_
  refine pS_ 29 73 (bb_ 44 972526559) HT_.out ?_
  refine pS_ 30 74 (bb_ 44 2046268383) HT_.out ?_
  refine pS_ 31 75 (bb_ 44 4193752031) HT_.out ?_
  refine pS_ 33 77 (bb_ 44 12783686623) HT_.out ?_
  refine pS_ 34 78 (bb_ 44 29963555807) HT_.out ?_
  refine pS_ 35 79 (bb_ 44 64323294175) HT_.out ?_
  refine pS_ 36 80 (bb_ 44 133042770911) HT_.out ?_
  refine tS_ 5 49 (bb_ 44 133042770943) (bA HT_.out HW_.out (by kernel_rfl)) hHeld ?_
  refine tS_ 10 54 (bb_ 44 133042771967) (bA HT_.out HW_.out (by kernel_rfl)) hHeld ?_
  refine pS_ 11 55 (bb_ 44 133042774015) HT_.out ?_
  refine pS_ 13 57 (bb_ 44 133042782207) HT_.out ?_
  refine pS_ 14 58 (bb_ 44 133042798591) HT_.out ?_
  refine tS_ 19 63 (bb_ 44 133043322879) (bA HT_.out HW_.out (by kernel_rfl)) hHeld ?_
  refine tS_ 25 69 (bb_ 44 133076877311) (bA HT_.out HW_.out (by kernel_rfl)) hHeld ?_
  refine pS_ 26 70 (bb_ 44 133143986175) HT_.out ?_
  refine tS_ 32 76 (bb_ 44 137438953471) (bA HT_.out HW_.out (by kernel_rfl)) hHeld ?_
  refine tS_ 37 81 (bb_ 44 274877906943) (bA HT_.out HW_.out (by kernel_rfl)) hHeld ?_
  refine pS_ 38 82 (bb_ 44 549755813887) HT_.out ?_
  refine pS_ 39 83 (bb_ 44 1099511627775) HT_.out ?_
  refine pS_ 40 84 (bb_ 44 2199023255551) HT_.out ?_
  refine fC (i := 41) (N := some 85) (bb_ 44 4398046511103) rfl rfl (cC HT_.out (by kernel_rfl)) (by decide) (fun K hK => ?_)
  refine Kd.R_lit_step (Kd.int .i64) _ 3 ?hg (N := 85) ?hd (xs := ([Int.tmod (wrap64 ((wrap64 ((rd l0 (b0)) * (rd l1 (b0)))) + (wrap64 ((Int.tmod (wrap64 ((rd l0 (a0)) * (rd l1 (a0)))) 3329) * R0)))) 3329, Int.tmod (wrap64 ((wrap64 ((rd l0 (b0)) * (rd l1 (a0)))) + (wrap64 ((rd l0 (a0)) * (rd l1 (b0)))))) 3329] : List Int)) (inner := [.int .i64 (Int.tmod (wrap64 ((wrap64 ((rd l0 (b0)) * (rd l1 (b0)))) + (wrap64 ((Int.tmod (wrap64 ((rd l0 (a0)) * (rd l1 (a0)))) 3329) * R0)))) 3329), .int .i64 (Int.tmod (wrap64 ((wrap64 ((rd l0 (b0)) * (rd l1 (a0)))) + (wrap64 ((rd l0 (a0)) * (rd l1 (b0)))))) 3329)]) (ok := fun _ => True) (okp := fun _ => True) ?hr ?hp (fun _ hk => hk) trivial (xa _ _) (wa _) (by simp) ?_; (case hd => rfl); (case hg => rfl); (case hr => first | (go_simp; done) | (go_simp; rfl)); (case hp => exact (br.one (show Kd.M (Kd.int .i64) _ _ _ (Int.tmod (wrap64 ((wrap64 ((rd l0 (b0)) * (rd l1 (b0)))) + (wrap64 ((Int.tmod (wrap64 ((rd l0 (a0)) * (rd l1 (a0)))) 3329) * R0)))) 3329) [.int .i64 (Int.tmod (wrap64 ((wrap64 ((rd l0 (b0)) * (rd l1 (b0)))) + (wrap64 ((Int.tmod (wrap64 ((rd l0 (a0)) * (rd l1 (a0)))) 3329) * R0)))) 3329)] from rfl) (br.one (show Kd.M (Kd.int .i64) _ _ _ (Int.tmod (wrap64 ((wrap64 ((rd l0 (b0)) * (rd l1 (a0)))) + (wrap64 ((rd l0 (a0)) * (rd l1 (b0)))))) 3329) [.int .i64 (Int.tmod (wrap64 ((wrap64 ((rd l0 (b0)) * (rd l1 (a0)))) + (wrap64 ((rd l0 (a0)) * (rd l1 (b0)))))) 3329)] from rfl) (br.none _ _))))
  intro H2 K2 S0 hb hg_ hnew_
  clear hg_ hnew_
  (first | rw [← V0.out] at S0 | (simp only [Int.reduceToNat] at S0; rw [← V0.out] at S0))
  have n_ := b_ (Kd.R_elder' (rR_ d0.out) (Kd.R_base S0) hb) <| b_ (Kd.R_lower (Kd.R_new' S0 (Kd.R_lt (rR_ d0.out))) (ab (hB_))) <| c_ (ac (hB_) hb)
  clear d0 HB
  obtain ⟨d0, J0, HB⟩ := n_
  clear hb S0
  obtain ⟨m2, n2, P1⟩ := Kd.R_slice J0.out
  (first | subst P1 | (injection P1 with f1_ f2_ f3_; have f4_ := f1_.symm; have f5_ := f3_.symm; clear f1_ f2_ f3_; subst f4_; subst f5_))
  refine hK.out _ _ ⟨((HB.out.cell (World.block_lt_of_cell? w _ e0)).trans e0), ((HB.out.cell (World.block_lt_of_cell? w _ f0)).trans f0), ((HB.out.cell (World.block_lt_of_cell? w _ k0)).trans k0), ((HB.out.cell (World.block_lt_of_cell? w _ p0)).trans p0), ((HB.out.cell (World.block_lt_of_cell? w _ q0)).trans q0), ((HB.out.cell (World.block_lt_of_cell? w _ r0)).trans r0)⟩ (fun hHeld => ?_)
  clear hK K
  refine dV (a' := ?_) ?_ ?_
  rotate_left
  ·show Act.put _ (some 85) _ = _
   simp only [Act.put, List.setIfInBounds_toArray, List.set_cons_zero, List.set_cons_succ, bB, cJ]
   rfl
  refine fC (i := 42) (N := some 86) (bb_ 44 8796093022207) rfl rfl (cC HT_.out (by kernel_rfl)) (by decide) (fun K hK => ?_)
  refine Kd.R_append_rows_step (Kd.int .i64) (w0 := w) w.heap.size (by rfl) (.tmp 44) (.tmp 85) 38 3 (.int .i64 0) 8 rfl Tryz.underlying38 cS rfl (by decide) (by omega) u5 Q0 Y0 _ _ _ (fun k_ => some k_ ≠ (.slice m2 Y0.length n2 : Value).ownBlock) (fun _ => False) rfl rfl ?aO ?aR (fun _ _ h => h) (fun _ h => h.elim) ?aF ?aB ?aS ?aL ?_
  (case aR => exact cR_ (Kd.R_reads' J0.out).2.2)
  (case aB => exact (hB_))
  (case aF => exact (fun k_ hk => Kd.fresh' (Kd.R_lt (rR_ J0.out)) k_ hk))
  (case aO => exact (by refine kR_ ?_; exact Kd.R_mono d0.out (fun _ hk => hk.2)))
  (case aS => exact (ab (hB_)))
  (case aL => have := H1.out; omega)
  intro I2 L2 ho hb hg hat
  rw [← I1.out] at ho
  have n_ := b_ (Kd.R_after (ok := (fun _ => True)) (rR_ J0.out) hg hat) <| b_ (hb) <| c_ (ho)
  clear J0 HB d0
  obtain ⟨J0, HB, Q1⟩ := n_
  clear ho hb hg hat
  refine hK.out _ _ ⟨((HB.out.cell (World.block_lt_of_cell? w _ e0)).trans e0), ((HB.out.cell (World.block_lt_of_cell? w _ f0)).trans f0), ((HB.out.cell (World.block_lt_of_cell? w _ k0)).trans k0), ((HB.out.cell (World.block_lt_of_cell? w _ p0)).trans p0), ((HB.out.cell (World.block_lt_of_cell? w _ q0)).trans q0), ((HB.out.cell (World.block_lt_of_cell? w _ r0)).trans r0)⟩ (fun hHeld => ?_)
  clear hK K
  refine dV (a' := ?_) ?_ ?_
  rotate_left
  ·show Act.put _ (some 86) _ = _
   simp only [Act.put, List.setIfInBounds_toArray, List.set_cons_zero, List.set_cons_succ, bB, cJ]
   rfl
  refine pS_ 43 5 (bb_ 44 17592186044415) HT_.out ?_
  refine eT (dn HT_.out (by kernel_rfl)) ?_
  try go_wp2
  go_roundg k2
  case measure => have := r2.out; have := u2.out; omega
  case rel => exact ⟨(Z1), (wrap64 (E0 + 1)), f0_, H', ⟨by have := r2.out; have := u2.out; omega⟩, ⟨by refine kR_ ?_; exact Kd.R_mono Q1.out (fun _ hk => trivial)⟩, ⟨hB_⟩⟩

/-! ### bc: function 20 -/
def bc.l0 : Nat → List (List Int) → List (List Int) → List Int → Int → Option (List Int)
 | 0, _, _, _, _ => none
 | k + 1, x0, x1, x5, x6 => if x6 < (x0.length : Int) then (if 0 ≤ x6 then (if x6 < (x1.length : Int) then ((ax.f k (dg x0 x6) (dg x1 x6)).bind fun t445 => ((aE.f k x5 t445).bind fun t448 => (bc.l0 k x0 x1 t448 (wrap64 (x6 + 1))))) else (none)) else (none)) else (some x5)
def bc.f (k : Nat) (l0 : List (List Int)) (l1 : List (List Int)) : Option (List Int) := if 256 ≤ 35184372088832 then (bc.l0 k l0 l1 (List.replicate 256 0) 0) else (none)
theorem bc.mono_l : ∀ k, (∀ y0 y1 y2 y3, LeO (bc.l0 k y0 y1 y2 y3) (bc.l0 (k + 1) y0 y1 y2 y3))
 | 0 => fun _ _ _ _ r h => by simp [bc.l0] at h
 | k + 1 => by
  have ih0 := bc.mono_l k
  intros; unfold bc.l0; exact o3_ ih0 ax.mono aE.mono
theorem bc.mono : ∀ a0 a1 k, LeO (bc.f k a0 a1) (bc.f (k + 1) a0 a1) := by
 intro a0 a1 k
 have ih0 := bc.mono_l k
 unfold bc.f
 exact o3_ ih0 ax.mono aE.mono
def bc.T5 : Bool × List (List Nat × List Nat) := (true, [([], []), ([], []), ([], []), ([1, 2], [1, 2]), ([3], [3]), ([], []), ([], []), ([5, 6], [5, 6]), ([7], [7]), ([4, 8], [4, 8]), ([0, 9, 9], [0, 9]), ([10, 10, 0, 1, 2, 3, 4, 5, 6, 7, 8, 9, 10], [0, 10])])
def bc.B5 : List Nat := [0, 0, 0, 6, 14, 0, 0, 96, 224, 510, 1023, 2047]
theorem bc.tab5 : dW .any (eW Tryz.f20 5) = bc.T5 := by kernel_rfl
theorem bc.bits5 : cZ bc.T5.2 bc.B5 = true := by kernel_rfl
theorem bc.calls (k : Nat) (A0 : Option Addr) (c0 : Nat) (l0 : List (List Int)) (A1 : Option Addr) (c1 : Nat) (l1 : List (List Int)) (r : List Int) (w : World) (hr0 : Kd.C (Kd.slice 3 (Kd.int .i64)) w A0 l0.length l0) (hc0 : l0.length ≤ c0) (hr1 : Kd.C (Kd.slice 3 (Kd.int .i64)) w A1 l1.length l1) (hc1 : l1.length ≤ c1) (h : bc.f k l0 l1 = some r) :
  Calls Tryz.prog 20 #[.slice A0 l0.length c0, .slice A1 l1.length c1] w fun e w' => ∃ g1 : Value, e = .returned (g1) ∧ Kd.R (Kd.int .i64) 3 w' w.heap.size (fun _ => True) g1 r ∧ Below w.heap.size w w' := by
 have j1 := aa.mk hr0
 have C1 := aa.mk hc0
 clear hr0 hc0
 have m1 := aa.mk hr1
 have D1 := aa.mk hc1
 clear hr1 hc1
 have HB := aa.mk (xa w.heap.size w)
 delta bc.f at h
 have H := h
 clear h
 obtain ⟨c3, H⟩ := iN_ H
 have n1 := va c3
 have p1 := ta c3
 clear c3
 obtain ⟨W0, p0⟩ : ∃ y_ : List Int, y_ = (List.replicate 256 0) := ⟨_, rfl⟩
 first | replace H := yb_ p0 H | rw [← p0] at H
 have H0 := aa.mk p0
 clear p0
 have H' := aa.mk H
 clear H
 go_enter Tryz.func20, Tryz.ntmps20
 go_wp2_with (first | ((with_reducible refine aI (N := 7) rfl ?_); refine Kd.R_make (Kd.int .i64) _ 3 rfl (N := 7) rfl 38 _ _ rfl 256 rfl rfl Tryz.underlying38 (.int .i64 0) 8 cS rfl (by decide) (by omega) 0 (ok := fun _ => True) (okp := fun _ => True) rfl (fun _ hk => hk) trivial (by omega) (by omega) (xa _ _) (wa _) ?_; intro q1 w4 O0 hb hg_ hnew_; clear hg_ hnew_; (first | rw [← H0.out] at O0 | (simp only [Int.reduceToNat] at O0; rw [← H0.out] at O0)); have n_ := b_ (Kd.R_lower O0 (ab (hB_))) <| c_ (ac (hB_) hb); clear HB; obtain ⟨P0, HB⟩ := n_; clear hb O0))
 go_loopg [5, 6] k (fun kq v5 v6 w' => ∃ (y0 : List Int) (a0 : Int), v6 = .int .i64 a0 ∧ aa (bc.l0 kq l0 l1 y0 a0 = some r) ∧ aa (kq ≤ k) ∧ aa (Kd.R (Kd.int .i64) 3 w' w.heap.size (fun _ => True) v5 y0) ∧ aa (Below w.heap.size w w'))
 case atStart => exact ⟨(W0), (0), f0_, H', ⟨wa _⟩, ⟨rR_ P0.out⟩, ⟨hB_⟩⟩
 clear H'
 obtain ⟨y0, a0, rfl, HA, i1, e0, HB⟩ := hrel
 rcases gk with _ | k1
 ·exact absurd HA.out (by simp [bc.l0])
 have H := HA.out
 clear HA
 simp only [bc.l0] at H
 by_cases c6 : a0 < (l0.length : Int)
 rotate_left
 ·rw [Aa c6] at H
  have X0 := ua c6
  clear c6
  obtain rfl := sI H
  go_wp2
  go_ret
  exact ⟨_, f1_, rR_ e0.out, hB_⟩
 rw [za c6] at H
 have X0 := ta c6
 clear c6
 obtain ⟨r1, H⟩ := iD_ H
 obtain ⟨t1, H⟩ := iD_ H
 obtain ⟨I0, A9, H⟩ := bN_ H
 obtain ⟨Q0, y1, H⟩ := bN_ H
 have H' := aa.mk H
 clear H
 try go_wp2
 have n_ := b_ (Kd.R_drew e0.out) <| c_ (bX HB.out)
 clear e0 HB
 obtain ⟨e0, HB⟩ := n_
 have J0 : 0 ≤ (a0 : Int) := oD_
 have K0 : a0 < (l0.length : Int) := oD_
 obtain ⟨R0, B0, C0, Y0, f0, q0, r0⟩ := k9 j1.out a0 J0 K0
 have b0 := f0
 cases Y0
 replace f0 := (HB.out.cell (World.block_lt_of_cell? w _ f0)).trans f0
 have t0 := aa.mk r0
 have F0 := aa.mk q0
 clear r0 q0
 replace J0 := va J0
 replace K0 := va K0
 have L0 : 0 ≤ (a0 : Int) := oD_
 have M0 : a0 < (l1.length : Int) := oD_
 obtain ⟨S0, D0, E0, Z0, j0, u0, v0⟩ := k9 m1.out a0 L0 M0
 have d0 := j0
 cases Z0
 replace j0 := (HB.out.cell (World.block_lt_of_cell? w _ j0)).trans j0
 have x0 := aa.mk v0
 have G0 := aa.mk u0
 clear v0 u0
 replace L0 := va L0
 replace M0 := va M0
 refine dY (n := 12) (S := fun w' => w'.cell? (R0.add (a0).toNat) = some (.slice B0 (dg l0 a0).length C0) ∧ w'.cell? (S0.add (a0).toNat) = some (.slice D0 (dg l1 a0).length E0)) (ds := []) (bb_ 12 0) (by kernel_rfl) rfl rfl ⟨((HB.out.cell (World.block_lt_of_cell? w _ b0)).trans b0), ((HB.out.cell (World.block_lt_of_cell? w _ d0)).trans d0)⟩ (fun hHeld => ?_); refine cM bc.tab5 bc.bits5 (fun HT_ HW_ => ?_)
 generalize wr.drew = E1 at e0 HB t0 x0 f0 j0 hHeld ⊢
 refine pS_ 0 14 (bb_ 12 1) HT_.out ?_
 refine pS_ 1 15 (bb_ 12 3) HT_.out ?_
 refine pS_ 2 16 (bb_ 12 7) HT_.out ?_
 refine pS_ 3 17 (bb_ 12 15) HT_.out ?_
 refine pS_ 5 19 (bb_ 12 47) HT_.out ?_
 refine pS_ 6 20 (bb_ 12 111) HT_.out ?_
 refine pS_ 7 21 (bb_ 12 239) HT_.out ?_
 refine tS_ 4 18 (bb_ 12 255) (bA HT_.out HW_.out (by kernel_rfl)) hHeld ?_
 refine tS_ 8 22 (bb_ 12 511) (bA HT_.out HW_.out (by kernel_rfl)) hHeld ?_
 refine fC (i := 9) (N := some 23) (bb_ 12 1023) rfl rfl (cC HT_.out (by kernel_rfl)) (by decide) (fun K hK => ?_)
 refine fj Tryz.func52 (by kernel_rfl) rfl #[.slice B0 (dg l0 a0).length C0, .slice D0 (dg l1 a0).length E0] (by rfl) rfl rfl aM_ ?_
 with_reducible refine (ax.calls k1 _ _ (dg l0 a0) _ _ (dg l1 a0) I0 _ ?side1 ?side2 ?side3 ?side4 A9.out).mono ?_
 (case side1 => exact cR_ (Kd.C_below t0.out HB.out))
 (case side2 => exact F0.out)
 (case side3 => exact cR_ (Kd.C_below x0.out HB.out))
 (case side4 => exact G0.out)
 rintro e F1 ⟨z1, rfl, N0, hb⟩
 refine ⟨_, rfl, ?_⟩
 have n_ := b_ (Kd.R_elder' (rR_ e0.out) (Kd.R_base N0) hb) <| b_ (Kd.R_lower (Kd.R_new' N0 (Kd.R_lt (rR_ e0.out))) (ab (hB_))) <| c_ (ac (hB_) hb)
 clear e0 HB
 obtain ⟨e0, k0, HB⟩ := n_
 obtain ⟨b1, d1, T0⟩ := Kd.R_slice e0.out
 (first | subst T0 | (injection T0 with f1_ f2_ f3_; have f4_ := f1_.symm; have f5_ := f3_.symm; clear f1_ f2_ f3_; subst f4_; subst f5_))
 obtain ⟨e1, f1, U0⟩ := Kd.R_slice k0.out
 (first | subst U0 | (injection U0 with f1_ f2_ f3_; have f4_ := f1_.symm; have f5_ := f3_.symm; clear f1_ f2_ f3_; subst f4_; subst f5_))
 refine hK.out _ _ ⟨((HB.out.cell (World.block_lt_of_cell? w _ b0)).trans b0), ((HB.out.cell (World.block_lt_of_cell? w _ d0)).trans d0)⟩ (fun hHeld => ?_)
 clear hK K
 refine dV (a' := ?_) ?_ ?_
 rotate_left
 ·show Act.put _ (some 23) _ = _
  simp only [Act.put, List.setIfInBounds_toArray, List.set_cons_zero, List.set_cons_succ, bB, cJ]
  rfl
 refine fC (i := 10) (N := some 24) (bb_ 12 2047) rfl rfl (cC HT_.out (by kernel_rfl)) (by decide) (fun K hK => ?_)
 refine fj Tryz.func18 (by kernel_rfl) rfl #[.slice b1 y0.length d1, .slice e1 I0.length f1] (by rfl) rfl rfl aM_ ?_
 with_reducible refine (aE.calls k1 _ _ y0 _ _ I0 Q0 _ ?side1 ?side2 ?side3 ?side4 y1.out).mono ?_
 (case side1 => exact cR_ (Kd.R_reads' e0.out).2.2)
 (case side2 => exact (Kd.R_reads' e0.out).2.1)
 (case side3 => exact cR_ (Kd.R_reads' k0.out).2.2)
 (case side4 => exact (Kd.R_reads' k0.out).2.1)
 rintro e G1 ⟨B1, rfl, N0, hb⟩
 refine ⟨_, rfl, ?_⟩
 have n_ := b_ (Kd.R_elder' (rR_ e0.out) (Kd.R_base N0) hb) <| b_ (Kd.R_elder' (rR_ k0.out) (Kd.R_base N0) hb) <| b_ (Kd.R_lower (Kd.R_new' (Kd.R_new' N0 (Kd.R_lt (rR_ e0.out))) (Kd.R_lt (rR_ k0.out))) (ab (hB_))) <| c_ (ac (hB_) hb)
 clear e0 k0 HB
 obtain ⟨e0, k0, V0, HB⟩ := n_
 refine hK.out _ _ ⟨((HB.out.cell (World.block_lt_of_cell? w _ b0)).trans b0), ((HB.out.cell (World.block_lt_of_cell? w _ d0)).trans d0)⟩ (fun hHeld => ?_)
 clear hK K
 refine dV (a' := ?_) ?_ ?_
 rotate_left
 ·show Act.put _ (some 24) _ = _
  simp only [Act.put, List.setIfInBounds_toArray, List.set_cons_zero, List.set_cons_succ, bB, cJ]
  rfl
 refine pS_ 11 5 (bb_ 12 4095) HT_.out ?_
 refine eT (dn HT_.out (by kernel_rfl)) ?_
 try go_wp2
 go_roundg k1
 case measure => have := i1.out; omega
 case rel => exact ⟨(Q0), (wrap64 (a0 + 1)), f0_, H', ⟨by have := i1.out; omega⟩, ⟨by refine kR_ ?_; exact Kd.R_mono V0.out (fun _ hk => trivial)⟩, ⟨hB_⟩⟩

/-! ### bv: function 53 -/
def bv.j0 : Nat → Int → Int → Bool → Option (Int)
 | 0, _, _, _ => none
 | k + 1, x0, x1, x12 => if x12 = true then (some 0) else ((av.f k x1).bind fun t453 => ((av.f k x1).bind fun t454 => (if t454 = 0 then (none) else (some (Int.tmod (wrap64 (Int.tdiv (wrap64 ((wrap64 (t453 * x0)) + 1664)) 3329)) t454)))))
def bv.f (k : Nat) (a0 : Int) (a1 : Int) : Option (Int) := (aW.f a0 0 3328).bind fun t451 => (if t451 = true then ((aW.f a1 1 11).bind fun t452 => (bv.j0 k a0 a1 (!t452))) else (bv.j0 k a0 a1 true))
theorem bv.mono_l : ∀ k, (∀ y0 y1 y2, LeO (bv.j0 k y0 y1 y2) (bv.j0 (k + 1) y0 y1 y2))
 | 0 => fun _ _ _ r h => by simp [bv.j0] at h
 | k + 1 => by
  have ih0 := bv.mono_l k
  intros; unfold bv.j0; exact o2_ ih0 av.mono
theorem bv.mono : ∀ a0 a1 k, LeO (bv.f k a0 a1) (bv.f (k + 1) a0 a1) := by
 intro a0 a1 k
 have ih0 := bv.mono_l k
 unfold bv.f
 exact o2_ ih0 av.mono
theorem bv.calls (k : Nat) (a0 : Int) (a1 : Int) (r : Int) (w : World) (h : bv.f k a0 a1 = some r) :
  Calls Tryz.prog 53 #[.int .i64 a0, .int .i64 a1] w fun e w' => e = .returned (.int .i64 r) ∧ cp w w' := by
 delta bv.f at h
 have H := h
 clear h
 have k0 := aa.mk H
 clear H
 go_enter Tryz.func53, Tryz.ntmps53
 go_upto_region 1 with (fail)
 go_cut [12] (fun v0 wc => ∃ (kq : Nat) (b0 : Bool), v0 = .bool b0 ∧ aa (bv.j0 kq a0 a1 b0 = some r) ∧ aa (kq ≤ k) ∧ cp w wc)
 case first =>
  have H := k0.out
  clear k0
  obtain ⟨p0, A4, H⟩ := bN_ H
  by_cases c5 : p0 = true
  ·subst c5
   replace H := iT_ H
   obtain ⟨e0, A6, H⟩ := bN_ H
   have H' := aa.mk H
   clear H
   go_wp2_with (first | ((with_reducible refine ae (f := 75) rfl ?_); refine aq (some 6) rfl rfl Tryz.func75 (by kernel_rfl) rfl #[.int .i64 a0, .int .i64 0, .int .i64 3328] rfl aM_ ?_; (with_reducible refine (aW.calls a0 0 3328 true _ A4.out).mono ?_); rintro e w' ⟨rfl, ⟨nd, rfl⟩⟩; refine ⟨_, rfl, ?_⟩) | (go_at_call 75; (with_reducible refine (aW.calls a1 1 11 e0 _ A6.out).mono ?_); rintro e w' ⟨rfl, ⟨nd, rfl⟩⟩))
   go_meet
   case rel => exact ⟨_, (!e0), f0_, H', ⟨by first | omega | exact wa _⟩, d0_⟩
  ·replace c5 := ya c5
   subst c5
   replace H := iF_ H
   have H' := aa.mk H
   clear H
   go_wp2_with (first | ((with_reducible refine ae (f := 75) rfl ?_); refine aq (some 6) rfl rfl Tryz.func75 (by kernel_rfl) rfl #[.int .i64 a0, .int .i64 0, .int .i64 3328] rfl aM_ ?_; (with_reducible refine (aW.calls a0 0 3328 false _ A4.out).mono ?_); rintro e w' ⟨rfl, ⟨nd, rfl⟩⟩; refine ⟨_, rfl, ?_⟩))
   go_meet
   case rel => exact ⟨_, (true), f0_, H', ⟨by first | omega | exact wa _⟩, d0_⟩
 clear k0
 obtain ⟨kq, b0, rfl, HA, x0, ⟨mc2, rfl⟩⟩ := hcut
 rcases kq with _ | r0
 ·exact absurd HA.out (by simp [bv.j0])
 have H := HA.out
 clear HA
 simp only [bv.j0] at H
 by_cases c7 : b0 = true
 ·subst c7
  replace H := iT_ H
  obtain rfl := sI H
  go_wp2
  go_ret
  exact ⟨f0_, d0_⟩
 ·replace c7 := ya c7
  subst c7
  replace H := iF_ H
  obtain ⟨q0, A8, H⟩ := bN_ H
  obtain ⟨d0, A9, H⟩ := bN_ H
  have QA9 := aa.mk (sI (A8.out.symm.trans A9.out))
  by_cases f0 : d0 = 0
  ·rw [za f0] at H
   exact absurd H (by simp)
  rw [Aa f0] at H
  have t0 : (d0 == 0) = false := beq_eq_false_iff_ne.mpr f0
  have u0 : (d0 != 0) = true := bne_iff_ne.mpr f0
  obtain rfl := sI H
  go_wp2_with (first | ((with_reducible refine ae (f := 81) rfl ?_); refine aq (some 14) rfl rfl Tryz.func81 (by kernel_rfl) rfl #[.int .i64 a1] rfl aM_ ?_; (with_reducible refine (av.calls r0 a1 q0 _ A8.out).mono ?_); rintro e w' ⟨rfl, ⟨nd, rfl⟩⟩; refine ⟨_, rfl, ?_⟩) | ((with_reducible refine ae (f := 81) rfl ?_); refine aq (some 20) rfl rfl Tryz.func81 (by kernel_rfl) rfl #[.int .i64 a1] rfl aM_ ?_; (with_reducible refine (av.calls r0 a1 d0 _ A9.out).mono ?_); rintro e w' ⟨rfl, ⟨nd, rfl⟩⟩; refine ⟨_, rfl, ?_⟩))
  go_ret
  exact ⟨by first | rfl | (simp only [QA9.out]; done) | (simp; done) | (simp [*]; done), d0_⟩

/-! ### aX: function 54 -/
mutual
def aX.l0 : Nat → List Int → Int → Int → Option (ByteArray × Bool)
 | 0, _, _, _ => none
 | k + 1, x0, x1, x6 => if x6 < (x0.length : Int) then (if 0 ≤ x6 then ((av.f k x1).bind fun t457 => ((aW.f (rd x0 x6) 0 (wrap64 (t457 - 1))).bind fun t458 => (if t458 = true then (aX.l0 k x0 x1 (wrap64 (x6 + 1))) else (some ((⟨#[]⟩ : ByteArray), false))))) else (none)) else (aX.l1 k x0 x1 (([] : List Int)) 0 0 0)
def aX.l1 : Nat → List Int → Int → List Int → Int → Int → Int → Option (ByteArray × Bool)
 | 0, _, _, _, _, _, _ => none
 | k + 1, x0, x1, x7, x8, x9, x10 => if x10 < (x0.length : Int) then (if 0 ≤ x10 then ((av.f k x9).bind fun t466 => (aX.l2 k x0 x1 x7 (wrap64 (x8 + (wrap64 ((rd x0 x10) * t466)))) (wrap64 (x9 + x1)) x10)) else (none)) else (if x9 > 0 then (if x7.length < 140737488355328 then (some (strOfNums (x7 ++ [(x8) % 256]), true)) else (none)) else (some (strOfNums x7, true)))
def aX.l2 : Nat → List Int → Int → List Int → Int → Int → Int → Option (ByteArray × Bool)
 | 0, _, _, _, _, _, _ => none
 | k + 1, x0, x1, x7, x8, x9, x10 => if x9 ≥ 8 then (if x7.length < 140737488355328 then (aX.l2 k x0 x1 (x7 ++ [(Int.tmod x8 256) % 256]) (wrap64 (Int.tdiv x8 256)) (wrap64 (x9 - 8)) x10) else (none)) else (aX.l1 k x0 x1 x7 x8 x9 (wrap64 (x10 + 1)))
end
def aX.f (k : Nat) (l0 : List Int) (a1 : Int) : Option (ByteArray × Bool) := (aW.f a1 1 12).bind fun t455 => (if t455 = true then (aX.l0 k l0 a1 0) else (some ((⟨#[]⟩ : ByteArray), false)))
theorem aX.mono_l : ∀ k, (∀ y0 y1 y2, LeO (aX.l0 k y0 y1 y2) (aX.l0 (k + 1) y0 y1 y2)) ∧ (∀ y0 y1 y2 y3 y4 y5, LeO (aX.l1 k y0 y1 y2 y3 y4 y5) (aX.l1 (k + 1) y0 y1 y2 y3 y4 y5)) ∧ (∀ y0 y1 y2 y3 y4 y5, LeO (aX.l2 k y0 y1 y2 y3 y4 y5) (aX.l2 (k + 1) y0 y1 y2 y3 y4 y5))
 | 0 => ⟨fun _ _ _ r h => by simp [aX.l0] at h, fun _ _ _ _ _ _ r h => by simp [aX.l1] at h, fun _ _ _ _ _ _ r h => by simp [aX.l2] at h⟩
 | k + 1 => by
  obtain ⟨ih0, ih1, ih2⟩ := aX.mono_l k
  refine ⟨?_, ?_, ?_⟩ <;> (intros; (first | unfold aX.l0 | unfold aX.l1 | unfold aX.l2); exact o4_ ih0 ih1 ih2 av.mono)
theorem aX.mono : ∀ a0 a1 k, LeO (aX.f k a0 a1) (aX.f (k + 1) a0 a1) := by
 intro a0 a1 k
 obtain ⟨ih0, ih1, ih2⟩ := aX.mono_l k
 unfold aX.f
 exact o4_ ih0 ih1 ih2 av.mono
theorem aX.calls (k : Nat) (A0 : Option Addr) (c0 : Nat) (l0 : List Int) (a1 : Int) (r1 : ByteArray) (r2 : Bool) (w : World) (hr0 : Kd.C (Kd.int .i64) w A0 l0.length l0) (hc0 : l0.length ≤ c0) (h : aX.f k l0 a1 = some (r1, r2)) :
  Calls Tryz.prog 54 #[.slice A0 l0.length c0, .int .i64 a1] w fun e w' => e = .returned (.tuple #[.string r1, .bool r2]) ∧ Below w.heap.size w w' := by
 have c1 := aa.mk hr0
 have I1 := aa.mk hc0
 clear hr0 hc0
 have HB := aa.mk (xa w.heap.size w)
 delta aX.f at h
 have H := h
 clear h
 obtain ⟨d1, A3, H⟩ := bN_ H
 by_cases c4 : d1 = true
 ·subst c4
  replace H := iT_ H
  have H' := aa.mk H
  clear H
  go_enter Tryz.func54, Tryz.ntmps54
  go_wp2_with (first | (go_at_call 75; (with_reducible refine (aW.calls a1 1 12 true _ A3.out).mono ?_); rintro e w' ⟨rfl, ⟨nd, rfl⟩⟩; (try first | exact ⟨rfl, _, World.drewN_drewN _ _ _⟩ | exact ⟨rfl, _, Eq.trans (World.drewN_drewN _ _ _) (congrArg (World.drewN _) (Nat.add_assoc _ _ _))⟩)))
  repeat (go_quiet (first | (go_at_call 75; (with_reducible refine (aW.calls a1 1 12 true _ A3.out).mono ?_); rintro e w' ⟨rfl, ⟨nd, rfl⟩⟩; (try first | exact ⟨rfl, _, World.drewN_drewN _ _ _⟩ | exact ⟨rfl, _, Eq.trans (World.drewN_drewN _ _ _) (congrArg (World.drewN _) (Nat.add_assoc _ _ _))⟩))); try go_wp2)
  go_loopg [6] k (fun kq v6 w' => ∃ (d0 : Int), v6 = .int .i64 d0 ∧ aa (aX.l0 kq l0 a1 d0 = some (r1, r2)) ∧ aa (kq ≤ k) ∧ aa (Below w.heap.size w w'))
  case atStart => exact ⟨(0), f0_, H', ⟨wa _⟩, ⟨hB_⟩⟩
  clear H'
  obtain ⟨d0, rfl, HA, Q0, HB⟩ := hrel
  rcases gk with _ | k1
  ·exact absurd HA.out (by simp [aX.l0])
  have H := HA.out
  clear HA
  simp only [aX.l0] at H
  by_cases c5 : d0 < (l0.length : Int)
  ·rw [za c5] at H
   have e1 := ta c5
   clear c5
   obtain ⟨C1, H⟩ := iD_ H
   obtain ⟨q0, A7, H⟩ := bN_ H
   obtain ⟨f1, A8, H⟩ := bN_ H
   by_cases c9 : f1 = true
   ·subst c9
    replace H := iT_ H
    have H' := aa.mk H
    clear H
    have r0 : 0 ≤ (d0 : Int) := oD_
    have t0 : d0 < (l0.length : Int) := oD_
    obtain ⟨U0, M0, a0⟩ := Kd.at_int c1.out d0 r0 t0
    cases M0
    replace a0 := (HB.out.cell (World.block_lt_of_cell? w _ a0)).trans a0
    replace r0 := va r0
    replace t0 := va t0
    go_wp2_with (first | (go_at_call 81; (with_reducible refine (av.calls k1 a1 q0 _ A7.out).mono ?_); rintro e w' ⟨rfl, ⟨nd, rfl⟩⟩; (try first | exact ⟨rfl, _, World.drewN_drewN _ _ _⟩ | exact ⟨rfl, _, Eq.trans (World.drewN_drewN _ _ _) (congrArg (World.drewN _) (Nat.add_assoc _ _ _))⟩)) | (go_at_call 75; (with_reducible refine (aW.calls (rd l0 d0) 0 (wrap64 (q0 - 1)) true _ A8.out).mono ?_); rintro e w' ⟨rfl, ⟨nd, rfl⟩⟩; (try first | exact ⟨rfl, _, World.drewN_drewN _ _ _⟩ | exact ⟨rfl, _, Eq.trans (World.drewN_drewN _ _ _) (congrArg (World.drewN _) (Nat.add_assoc _ _ _))⟩)))
    repeat (go_quiet (first | (go_at_call 81; (with_reducible refine (av.calls k1 a1 q0 _ A7.out).mono ?_); rintro e w' ⟨rfl, ⟨nd, rfl⟩⟩; (try first | exact ⟨rfl, _, World.drewN_drewN _ _ _⟩ | exact ⟨rfl, _, Eq.trans (World.drewN_drewN _ _ _) (congrArg (World.drewN _) (Nat.add_assoc _ _ _))⟩)) | (go_at_call 75; (with_reducible refine (aW.calls (rd l0 d0) 0 (wrap64 (q0 - 1)) true _ A8.out).mono ?_); rintro e w' ⟨rfl, ⟨nd, rfl⟩⟩; (try first | exact ⟨rfl, _, World.drewN_drewN _ _ _⟩ | exact ⟨rfl, _, Eq.trans (World.drewN_drewN _ _ _) (congrArg (World.drewN _) (Nat.add_assoc _ _ _))⟩))); try go_wp2)
    go_roundg k1
    case measure => have := Q0.out; omega
    case rel => exact ⟨(wrap64 (d0 + 1)), f0_, H', ⟨by have := Q0.out; omega⟩, ⟨hB_⟩⟩
   ·replace c9 := ya c9
    subst c9
    replace H := iF_ H
    simp only [Option.some.injEq, Prod.mk.injEq] at H
    obtain ⟨rfl, rfl⟩ := H
    have r0 : 0 ≤ (d0 : Int) := oD_
    have t0 : d0 < (l0.length : Int) := oD_
    obtain ⟨U0, M0, a0⟩ := Kd.at_int c1.out d0 r0 t0
    cases M0
    replace a0 := (HB.out.cell (World.block_lt_of_cell? w _ a0)).trans a0
    replace r0 := va r0
    replace t0 := va t0
    go_wp2_with (first | (go_at_call 81; (with_reducible refine (av.calls k1 a1 q0 _ A7.out).mono ?_); rintro e w' ⟨rfl, ⟨nd, rfl⟩⟩; (try first | exact ⟨rfl, _, World.drewN_drewN _ _ _⟩ | exact ⟨rfl, _, Eq.trans (World.drewN_drewN _ _ _) (congrArg (World.drewN _) (Nat.add_assoc _ _ _))⟩)) | (go_at_call 75; (with_reducible refine (aW.calls (rd l0 d0) 0 (wrap64 (q0 - 1)) false _ A8.out).mono ?_); rintro e w' ⟨rfl, ⟨nd, rfl⟩⟩; (try first | exact ⟨rfl, _, World.drewN_drewN _ _ _⟩ | exact ⟨rfl, _, Eq.trans (World.drewN_drewN _ _ _) (congrArg (World.drewN _) (Nat.add_assoc _ _ _))⟩)))
    repeat (go_quiet (first | (go_at_call 81; (with_reducible refine (av.calls k1 a1 q0 _ A7.out).mono ?_); rintro e w' ⟨rfl, ⟨nd, rfl⟩⟩; (try first | exact ⟨rfl, _, World.drewN_drewN _ _ _⟩ | exact ⟨rfl, _, Eq.trans (World.drewN_drewN _ _ _) (congrArg (World.drewN _) (Nat.add_assoc _ _ _))⟩)) | (go_at_call 75; (with_reducible refine (aW.calls (rd l0 d0) 0 (wrap64 (q0 - 1)) false _ A8.out).mono ?_); rintro e w' ⟨rfl, ⟨nd, rfl⟩⟩; (try first | exact ⟨rfl, _, World.drewN_drewN _ _ _⟩ | exact ⟨rfl, _, Eq.trans (World.drewN_drewN _ _ _) (congrArg (World.drewN _) (Nat.add_assoc _ _ _))⟩))); try go_wp2)
    go_ret2
    exact ⟨f1_, hB_⟩
  rw [Aa c5] at H
  have e1 := ua c5
  clear c5
  obtain ⟨g1, y0⟩ : ∃ y_ : List Int, y_ = (([] : List Int)) := ⟨_, rfl⟩
  first | replace H := yb_ y0 H | rw [← y0] at H
  have B0 := aa.mk y0
  clear y0
  have H' := aa.mk H
  clear H
  go_wp2_with (first | ((with_reducible refine aI (N := 29) rfl ?_); refine Kd.R_lit (Kd.int .u8) _ 5 ?hg (N := 29) ?hd (xs := ([] : List Int)) (inner := []) (ok := fun _ => True) (okp := fun _ => True) ?hr ?hp (fun _ hk => hk) trivial (xa _ _) (wa _) (by simp) ?_; (case hd => rfl); (case hg => rfl); (case hr => first | (go_simp; done) | (go_simp; rfl)); (case hp => exact (br.none _ _)); intro i1 D1 f0 hb hg_ hnew_; clear hg_ hnew_; (first | rw [← B0.out] at f0 | (simp only [Int.reduceToNat] at f0; rw [← B0.out] at f0)); have n_ := b_ (Kd.R_lower f0 (ab (hB_))) <| c_ (ac (hB_) hb); clear HB; obtain ⟨G0, HB⟩ := n_; clear hb f0))
  repeat (go_quiet (first | ((with_reducible refine aI (N := 29) rfl ?_); refine Kd.R_lit (Kd.int .u8) _ 5 ?hg (N := 29) ?hd (xs := ([] : List Int)) (inner := []) (ok := fun _ => True) (okp := fun _ => True) ?hr ?hp (fun _ hk => hk) trivial (xa _ _) (wa _) (by simp) ?_; (case hd => rfl); (case hg => rfl); (case hr => first | (go_simp; done) | (go_simp; rfl)); (case hp => exact (br.none _ _)); intro i1 D1 f0 hb hg_ hnew_; clear hg_ hnew_; (first | rw [← B0.out] at f0 | (simp only [Int.reduceToNat] at f0; rw [← B0.out] at f0)); have n_ := b_ (Kd.R_lower f0 (ab (hB_))) <| c_ (ac (hB_) hb); clear HB; obtain ⟨G0, HB⟩ := n_; clear hb f0)); try go_wp2)
  go_loopg [7, 8, 9, 10] k1 (fun kq v7 v8 v9 E1 w' => ∃ (u0 : List Int) (k0 : Int) (v0 : Int) (b0 : Int), v8 = .int .i64 k0 ∧ v9 = .int .i64 v0 ∧ E1 = .int .i64 b0 ∧ aa (aX.l1 kq l0 a1 u0 k0 v0 b0 = some (r1, r2)) ∧ aa (kq ≤ k1) ∧ aa (Kd.R (Kd.int .u8) 5 w' w.heap.size (fun _ => True) v7 u0) ∧ aa (Below w.heap.size w w'))
  case atStart => exact ⟨(g1), (0), (0), (0), f0_, f0_, f0_, H', ⟨wa _⟩, ⟨rR_ G0.out⟩, ⟨hB_⟩⟩
  clear H'
  obtain ⟨u0, k0, v0, b0, rfl, rfl, rfl, HA, Z0, e0, HB⟩ := hrel
  rcases gk with _ | k2
  ·exact absurd HA.out (by simp [aX.l1])
  have H := HA.out
  clear HA
  simp only [aX.l1] at H
  by_cases R0 : b0 < (l0.length : Int)
  rotate_left
  ·rw [Aa R0] at H
   have V0 := ua R0
   clear R0
   by_cases S0 : v0 > 0
   ·rw [za S0] at H
    have W0 := ta S0
    clear S0
    obtain ⟨q1, H⟩ := iN_ H
    have H0 := aa.mk q1
    clear q1
    obtain ⟨F1, C0⟩ : ∃ y_ : List Int, y_ = (u0 ++ [(k0) % 256]) := ⟨_, rfl⟩
    first | replace H := yb_ C0 H | rw [← C0] at H
    have I0 := aa.mk C0
    clear C0
    simp only [Option.some.injEq, Prod.mk.injEq] at H
    obtain ⟨rfl, rfl⟩ := H
    go_wp2_with (first | ((with_reducible refine aV (b := .append) (xs := #[.tmp 62, .tmp 65]) rfl ?_); at_builtin; refine Kd.R_append (Kd.int .u8) (w0 := w) w.heap.size rfl (.tmp 62) (.tmp 65) 57 5 (.int .u8 0) 1 rfl Tryz.underlying57 iD rfl (by decide) (by omega) u7 u0 ((k0) % 256) [.int .u8 ((k0) % 256)] (fun _ => True) (fun _ => False) rfl rfl ?aP (fun _ hk => hk.elim) ?aF ?aO ?aB ?aS ?aL ?_; (case aP => exact rfl); (case aB => exact (hB_)); (case aF => exact (fun _ _ => trivial)); (case aO => exact (rR_ e0.out)); (case aS => exact (ab (hB_))); (case aL => have := H0.out; omega); intro j1 G1 ho hb hg hat; rw [← I0.out] at ho; have n_ := b_ (hb) <| c_ (ho); clear e0 HB; obtain ⟨HB, F0⟩ := n_; clear ho hb hg hat; have X0 := dD (P := Tryz.prog) Tryz.underlying57 Tryz.underlying5 Tryz.underlying9 (Kd.own_of_R F0.out)))
    repeat (go_quiet (first | ((with_reducible refine aV (b := .append) (xs := #[.tmp 62, .tmp 65]) rfl ?_); at_builtin; refine Kd.R_append (Kd.int .u8) (w0 := w) w.heap.size rfl (.tmp 62) (.tmp 65) 57 5 (.int .u8 0) 1 rfl Tryz.underlying57 iD rfl (by decide) (by omega) u7 u0 ((k0) % 256) [.int .u8 ((k0) % 256)] (fun _ => True) (fun _ => False) rfl rfl ?aP (fun _ hk => hk.elim) ?aF ?aO ?aB ?aS ?aL ?_; (case aP => exact rfl); (case aB => exact (hB_)); (case aF => exact (fun _ _ => trivial)); (case aO => exact (rR_ e0.out)); (case aS => exact (ab (hB_))); (case aL => have := H0.out; omega); intro j1 G1 ho hb hg hat; rw [← I0.out] at ho; have n_ := b_ (hb) <| c_ (ho); clear e0 HB; obtain ⟨HB, F0⟩ := n_; clear ho hb hg hat; have X0 := dD (P := Tryz.prog) Tryz.underlying57 Tryz.underlying5 Tryz.underlying9 (Kd.own_of_R F0.out))); try go_wp2)
    go_ret2
    exact ⟨f1_, hB_⟩
   rw [Aa S0] at H
   have W0 := ua S0
   clear S0
   simp only [Option.some.injEq, Prod.mk.injEq] at H
   obtain ⟨rfl, rfl⟩ := H
   have t1 := dD (P := Tryz.prog) Tryz.underlying57 Tryz.underlying5 Tryz.underlying9 (Kd.own_of_R e0.out)
   go_wp2
   repeat (go_quiet (fail); try go_wp2)
   go_ret2
   exact ⟨f1_, hB_⟩
  rw [za R0] at H
  have V0 := ta R0
  clear R0
  obtain ⟨y1, H⟩ := iD_ H
  obtain ⟨N0, z1, H⟩ := bN_ H
  have H' := aa.mk H
  clear H
  have O0 : 0 ≤ (b0 : Int) := oD_
  have P0 : b0 < (l0.length : Int) := oD_
  obtain ⟨A1, m1, p0⟩ := Kd.at_int c1.out b0 O0 P0
  cases m1
  replace p0 := (HB.out.cell (World.block_lt_of_cell? w _ p0)).trans p0
  replace O0 := va O0
  replace P0 := va P0
  go_wp2_with (first | (go_at_call 81; (with_reducible refine (av.calls k2 v0 N0 _ z1.out).mono ?_); rintro e w' ⟨rfl, ⟨nd, rfl⟩⟩; (try first | exact ⟨rfl, _, World.drewN_drewN _ _ _⟩ | exact ⟨rfl, _, Eq.trans (World.drewN_drewN _ _ _) (congrArg (World.drewN _) (Nat.add_assoc _ _ _))⟩)))
  repeat (go_quiet (first | (go_at_call 81; (with_reducible refine (av.calls k2 v0 N0 _ z1.out).mono ?_); rintro e w' ⟨rfl, ⟨nd, rfl⟩⟩; (try first | exact ⟨rfl, _, World.drewN_drewN _ _ _⟩ | exact ⟨rfl, _, Eq.trans (World.drewN_drewN _ _ _) (congrArg (World.drewN _) (Nat.add_assoc _ _ _))⟩))); try go_wp2)
  go_loopg [7, 8, 9] k2 (fun kq v7 v8 v9 w' => ∃ (x0 : List Int) (j0 : Int) (E0 : Int), v8 = .int .i64 j0 ∧ v9 = .int .i64 E0 ∧ aa (aX.l2 kq l0 a1 x0 j0 E0 b0 = some (r1, r2)) ∧ aa (kq ≤ k2) ∧ aa (Kd.R (Kd.int .u8) 5 w' w.heap.size (fun _ => True) v7 x0) ∧ aa (Below w.heap.size w w'))
  case atStart => exact ⟨(u0), (wrap64 (k0 + (wrap64 ((rd l0 b0) * N0)))), (wrap64 (v0 + a1)), f0_, f0_, H', ⟨wa _⟩, ⟨rR_ e0.out⟩, ⟨hB_⟩⟩
  clear H'
  obtain ⟨x0, j0, E0, rfl, rfl, HA, b1, e0, HB⟩ := hrel
  rcases gk with _ | k3
  ·exact absurd HA.out (by simp [aX.l2])
  have H := HA.out
  clear HA
  simp only [aX.l2] at H
  by_cases T0 : E0 ≥ 8
  ·rw [za T0] at H
   have Y0 := ta T0
   clear T0
   obtain ⟨B1, H⟩ := iN_ H
   have J0 := aa.mk B1
   clear B1
   obtain ⟨n1, D0⟩ : ∃ y_ : List Int, y_ = (x0 ++ [(Int.tmod j0 256) % 256]) := ⟨_, rfl⟩
   first | replace H := yb_ D0 H | rw [← D0] at H
   have K0 := aa.mk D0
   clear D0
   have H' := aa.mk H
   clear H
   go_wp2_with (first | ((with_reducible refine aV (b := .append) (xs := #[.tmp 50, .tmp 54]) rfl ?_); at_builtin; refine Kd.R_append (Kd.int .u8) (w0 := w) w.heap.size rfl (.tmp 50) (.tmp 54) 57 5 (.int .u8 0) 1 rfl Tryz.underlying57 iD rfl (by decide) (by omega) u7 x0 ((Int.tmod j0 256) % 256) [.int .u8 ((Int.tmod j0 256) % 256)] (fun _ => True) (fun _ => False) rfl rfl ?aP (fun _ hk => hk.elim) ?aF ?aO ?aB ?aS ?aL ?_; (case aP => exact rfl); (case aB => exact (hB_)); (case aF => exact (fun _ _ => trivial)); (case aO => exact (rR_ e0.out)); (case aS => exact (ab (hB_))); (case aL => have := J0.out; omega); intro p1 H1 ho hb hg hat; rw [← K0.out] at ho; have n_ := b_ (hb) <| c_ (ho); clear e0 HB; obtain ⟨HB, L0⟩ := n_; clear ho hb hg hat))
   repeat (go_quiet (first | ((with_reducible refine aV (b := .append) (xs := #[.tmp 50, .tmp 54]) rfl ?_); at_builtin; refine Kd.R_append (Kd.int .u8) (w0 := w) w.heap.size rfl (.tmp 50) (.tmp 54) 57 5 (.int .u8 0) 1 rfl Tryz.underlying57 iD rfl (by decide) (by omega) u7 x0 ((Int.tmod j0 256) % 256) [.int .u8 ((Int.tmod j0 256) % 256)] (fun _ => True) (fun _ => False) rfl rfl ?aP (fun _ hk => hk.elim) ?aF ?aO ?aB ?aS ?aL ?_; (case aP => exact rfl); (case aB => exact (hB_)); (case aF => exact (fun _ _ => trivial)); (case aO => exact (rR_ e0.out)); (case aS => exact (ab (hB_))); (case aL => have := J0.out; omega); intro p1 H1 ho hb hg hat; rw [← K0.out] at ho; have n_ := b_ (hb) <| c_ (ho); clear e0 HB; obtain ⟨HB, L0⟩ := n_; clear ho hb hg hat)); try go_wp2)
   go_roundg k3
   case measure => have := Q0.out; have := Z0.out; have := b1.out; omega
   case rel => exact ⟨(n1), (wrap64 (Int.tdiv j0 256)), (wrap64 (E0 - 8)), f0_, f0_, H', ⟨by have := Q0.out; have := Z0.out; have := b1.out; omega⟩, ⟨rR_ L0.out⟩, ⟨hB_⟩⟩
  rw [Aa T0] at H
  have Y0 := ua T0
  clear T0
  have H' := aa.mk H
  clear H
  go_wp2
  repeat (go_quiet (fail); try go_wp2)
  go_roundg k3
  case measure => have := Q0.out; have := Z0.out; have := b1.out; omega
  case rel => exact ⟨(x0), (j0), (E0), (wrap64 (b0 + 1)), f0_, f0_, f0_, H', ⟨by have := Q0.out; have := Z0.out; have := b1.out; omega⟩, ⟨rR_ e0.out⟩, ⟨hB_⟩⟩
 ·replace c4 := ya c4
  subst c4
  replace H := iF_ H
  simp only [Option.some.injEq, Prod.mk.injEq] at H
  obtain ⟨rfl, rfl⟩ := H
  go_enter Tryz.func54, Tryz.ntmps54
  go_wp2_with (first | (go_at_call 75; (with_reducible refine (aW.calls a1 1 12 false _ A3.out).mono ?_); rintro e w' ⟨rfl, ⟨nd, rfl⟩⟩; (try first | exact ⟨rfl, _, World.drewN_drewN _ _ _⟩ | exact ⟨rfl, _, Eq.trans (World.drewN_drewN _ _ _) (congrArg (World.drewN _) (Nat.add_assoc _ _ _))⟩)))
  repeat (go_quiet (first | (go_at_call 75; (with_reducible refine (aW.calls a1 1 12 false _ A3.out).mono ?_); rintro e w' ⟨rfl, ⟨nd, rfl⟩⟩; (try first | exact ⟨rfl, _, World.drewN_drewN _ _ _⟩ | exact ⟨rfl, _, Eq.trans (World.drewN_drewN _ _ _) (congrArg (World.drewN _) (Nat.add_assoc _ _ _))⟩))); try go_wp2)
  go_ret2
  exact ⟨f1_, hB_⟩

/-! ### aU: function 21 -/
def aU.l0 : Nat → List Int → Int → List Int → Int → Option (ByteArray)
 | 0, _, _, _, _ => none
 | k + 1, x0, x1, x5, x6 => if x6 < (x0.length : Int) then (if 0 ≤ x6 then ((bv.f k (rd x0 x6) x1).bind fun t474 => (if x5.length < 17592186044416 then (aU.l0 k x0 x1 (x5 ++ [t474]) (wrap64 (x6 + 1))) else (none))) else (none)) else ((aX.f k x5 x1).bind fun bt478 => (some bt478.1))
def aU.f (k : Nat) (l0 : List Int) (a1 : Int) : Option (ByteArray) := aU.l0 k l0 a1 (([] : List Int)) 0
theorem aU.mono_l : ∀ k, (∀ y0 y1 y2 y3, LeO (aU.l0 k y0 y1 y2 y3) (aU.l0 (k + 1) y0 y1 y2 y3))
 | 0 => fun _ _ _ _ r h => by simp [aU.l0] at h
 | k + 1 => by
  have ih0 := aU.mono_l k
  intros; unfold aU.l0; exact o3_ ih0 aX.mono bv.mono
theorem aU.mono : ∀ a0 a1 k, LeO (aU.f k a0 a1) (aU.f (k + 1) a0 a1) := by
 intro a0 a1 k
 have ih0 := aU.mono_l k
 unfold aU.f
 exact o3_ ih0 aX.mono bv.mono
theorem aU.calls (k : Nat) (A0 : Option Addr) (c0 : Nat) (l0 : List Int) (a1 : Int) (r : ByteArray) (w : World) (hr0 : Kd.C (Kd.int .i64) w A0 l0.length l0) (hc0 : l0.length ≤ c0) (h : aU.f k l0 a1 = some r) :
  Calls Tryz.prog 21 #[.slice A0 l0.length c0, .int .i64 a1] w fun e w' => e = .returned (.string r) ∧ Below w.heap.size w w' := by
 have M0 := aa.mk hr0
 have R0 := aa.mk hc0
 clear hr0 hc0
 have HB := aa.mk (xa w.heap.size w)
 delta aU.f at h
 have H := h
 clear h
 obtain ⟨y0, f0⟩ : ∃ y_ : List Int, y_ = (([] : List Int)) := ⟨_, rfl⟩
 first | replace H := yb_ f0 H | rw [← f0] at H
 have p0 := aa.mk f0
 clear f0
 have H' := aa.mk H
 clear H
 go_enter Tryz.func21, Tryz.ntmps21
 go_wp2_with (first | ((with_reducible refine aI (N := 9) rfl ?_); refine Kd.R_lit (Kd.int .i64) _ 3 ?hg (N := 9) ?hd (xs := ([] : List Int)) (inner := []) (ok := fun _ => True) (okp := fun _ => True) ?hr ?hp (fun _ hk => hk) trivial (xa _ _) (wa _) (by simp) ?_; (case hd => rfl); (case hg => rfl); (case hr => first | (go_simp; done) | (go_simp; rfl)); (case hp => exact (br.none _ _)); intro N0 w3 t0 hb hg_ hnew_; clear hg_ hnew_; (first | rw [← p0.out] at t0 | (simp only [Int.reduceToNat] at t0; rw [← p0.out] at t0)); have n_ := b_ (Kd.R_lower t0 (ab (hB_))) <| c_ (ac (hB_) hb); clear HB; obtain ⟨u0, HB⟩ := n_; clear hb t0))
 go_loopg [5, 6] k (fun kq v5 v6 w' => ∃ (e0 : List Int) (a0 : Int), v6 = .int .i64 a0 ∧ aa (aU.l0 kq l0 a1 e0 a0 = some r) ∧ aa (kq ≤ k) ∧ aa (Kd.R (Kd.int .i64) 3 w' w.heap.size (fun _ => True) v5 e0) ∧ aa (Below w.heap.size w w'))
 case atStart => exact ⟨(y0), (0), f0_, H', ⟨wa _⟩, ⟨rR_ u0.out⟩, ⟨hB_⟩⟩
 clear H'
 obtain ⟨e0, a0, rfl, HA, K0, d0, HB⟩ := hrel
 rcases gk with _ | k1
 ·exact absurd HA.out (by simp [aU.l0])
 have H := HA.out
 clear HA
 simp only [aU.l0] at H
 by_cases c5 : a0 < (l0.length : Int)
 ·rw [za c5] at H
  have B0 := ta c5
  clear c5
  obtain ⟨O0, H⟩ := iD_ H
  obtain ⟨k0, A7, H⟩ := bN_ H
  obtain ⟨c8, H⟩ := iN_ H
  have C0 := aa.mk c8
  clear c8
  obtain ⟨D0, j0⟩ : ∃ y_ : List Int, y_ = (e0 ++ [k0]) := ⟨_, rfl⟩
  first | replace H := yb_ j0 H | rw [← j0] at H
  have v0 := aa.mk j0
  clear j0
  have H' := aa.mk H
  clear H
  have q0 : 0 ≤ (a0 : Int) := oD_
  have r0 : a0 < (l0.length : Int) := oD_
  obtain ⟨L0, E0, b0⟩ := Kd.at_int M0.out a0 q0 r0
  cases E0
  replace b0 := (HB.out.cell (World.block_lt_of_cell? w _ b0)).trans b0
  replace q0 := va q0
  replace r0 := va r0
  go_wp2_with (first | ((with_reducible refine ae (f := 53) rfl ?_); refine aq (some 22) rfl rfl Tryz.func53 (by kernel_rfl) rfl #[.int .i64 (rd l0 a0), .int .i64 a1] rfl aM_ ?_; (with_reducible refine (bv.calls k1 (rd l0 a0) a1 k0 _ A7.out).mono ?_); rintro e w' ⟨rfl, ⟨nd, rfl⟩⟩; refine ⟨_, rfl, ?_⟩) | ((with_reducible refine aV (b := .append) (xs := #[.tmp 16, .tmp 23]) rfl ?_); at_builtin; refine Kd.R_append (Kd.int .i64) (w0 := w) w.heap.size rfl (.tmp 16) (.tmp 23) 38 3 (.int .i64 0) 8 rfl Tryz.underlying38 cS rfl (by decide) (by omega) u5 e0 k0 [.int .i64 k0] (fun _ => True) (fun _ => False) rfl rfl ?aP (fun _ hk => hk.elim) ?aF ?aO ?aB ?aS ?aL ?_; (case aP => exact rfl); (case aB => exact (hB_)); (case aF => exact (fun _ _ => trivial)); (case aO => exact (rR_ d0.out)); (case aS => exact (ab (hB_))); (case aL => have := C0.out; omega); intro P0 w9 ho hb hg hat; rw [← v0.out] at ho; have n_ := b_ (hb) <| c_ (ho); clear d0 HB; obtain ⟨HB, x0⟩ := n_; clear ho hb hg hat))
  go_roundg k1
  case measure => have := K0.out; omega
  case rel => exact ⟨(D0), (wrap64 (a0 + 1)), f0_, H', ⟨by have := K0.out; omega⟩, ⟨rR_ x0.out⟩, ⟨hB_⟩⟩
 rw [Aa c5] at H
 have B0 := ua c5
 clear c5
 obtain ⟨⟨F0, G0⟩, Q0, H⟩ := bN_ H
 obtain rfl := sI H
 obtain ⟨H0, I0, J0⟩ := Kd.R_slice d0.out
 subst J0
 go_wp2_with (first | ((with_reducible refine ae (f := 54) rfl ?_); refine aq (some 28) rfl rfl Tryz.func54 (by kernel_rfl) rfl #[.slice H0 e0.length I0, .int .i64 a1] rfl aM_ ?_; (with_reducible refine (aX.calls k1 _ _ e0 a1 F0 G0 _ ?side1 ?side2 Q0.out).mono ?_); (case side1 => exact cR_ (Kd.R_reads' d0.out).2.2); (case side2 => exact (Kd.R_reads' d0.out).2.1); rintro e S0 ⟨rfl, hb⟩; refine ⟨_, rfl, ?_⟩; have n_ := b_ (Kd.R_below (rR_ d0.out) hb) <| c_ (ac (hB_) hb); clear d0 HB; obtain ⟨d0, HB⟩ := n_; (try clear hb)))
 go_ret
 exact ⟨f1_, hB_⟩

/-! ### bw: function 55 -/
def bw.j0 : Nat → Int → Int → Bool → Option (Int)
 | 0, _, _, _ => none
 | k + 1, x0, x1, x15 => if x15 = true then (some 0) else ((av.f k (wrap64 (x1 - 1))).bind fun t483 => ((av.f k x1).bind fun t484 => (if t484 = 0 then (none) else (some (wrap64 (Int.tdiv (wrap64 ((wrap64 (3329 * x0)) + t483)) t484))))))
def bw.f (k : Nat) (a0 : Int) (a1 : Int) : Option (Int) := (aW.f a1 1 11).bind fun t480 => (if t480 = true then ((av.f k a1).bind fun t481 => ((aW.f a0 0 (wrap64 (t481 - 1))).bind fun t482 => (bw.j0 k a0 a1 (!t482)))) else (bw.j0 k a0 a1 true))
theorem bw.mono_l : ∀ k, (∀ y0 y1 y2, LeO (bw.j0 k y0 y1 y2) (bw.j0 (k + 1) y0 y1 y2))
 | 0 => fun _ _ _ r h => by simp [bw.j0] at h
 | k + 1 => by
  have ih0 := bw.mono_l k
  intros; unfold bw.j0; exact o2_ ih0 av.mono
theorem bw.mono : ∀ a0 a1 k, LeO (bw.f k a0 a1) (bw.f (k + 1) a0 a1) := by
 intro a0 a1 k
 have ih0 := bw.mono_l k
 unfold bw.f
 exact o2_ ih0 av.mono
theorem bw.calls (k : Nat) (a0 : Int) (a1 : Int) (r : Int) (w : World) (h : bw.f k a0 a1 = some r) :
  Calls Tryz.prog 55 #[.int .i64 a0, .int .i64 a1] w fun e w' => e = .returned (.int .i64 r) ∧ cp w w' := by
 delta bw.f at h
 have H := h
 clear h
 have p0 := aa.mk H
 clear H
 go_enter Tryz.func55, Tryz.ntmps55
 go_upto_region 1 with (fail)
 go_cut [15] (fun x0 wc => ∃ (kq : Nat) (b0 : Bool), x0 = .bool b0 ∧ aa (bw.j0 kq a0 a1 b0 = some r) ∧ aa (kq ≤ k) ∧ cp w wc)
 case first =>
  have H := p0.out
  clear p0
  obtain ⟨q0, A4, H⟩ := bN_ H
  by_cases c5 : q0 = true
  ·subst c5
   replace H := iT_ H
   obtain ⟨e0, A6, H⟩ := bN_ H
   obtain ⟨f0, A7, H⟩ := bN_ H
   have H' := aa.mk H
   clear H
   go_wp2_with (first | ((with_reducible refine ae (f := 75) rfl ?_); refine aq (some 6) rfl rfl Tryz.func75 (by kernel_rfl) rfl #[.int .i64 a1, .int .i64 1, .int .i64 11] rfl aM_ ?_; (with_reducible refine (aW.calls a1 1 11 true _ A4.out).mono ?_); rintro e w' ⟨rfl, ⟨nd, rfl⟩⟩; refine ⟨_, rfl, ?_⟩) | (go_at_call 81; (with_reducible refine (av.calls k a1 e0 _ A6.out).mono ?_); rintro e w' ⟨rfl, ⟨nd, rfl⟩⟩) | (go_at_call 75; (with_reducible refine (aW.calls a0 0 (wrap64 (e0 - 1)) f0 _ A7.out).mono ?_); rintro e w' ⟨rfl, ⟨nd, rfl⟩⟩))
   go_meet
   case rel => exact ⟨_, (!f0), f0_, H', ⟨by first | omega | exact wa _⟩, d0_⟩
  ·replace c5 := ya c5
   subst c5
   replace H := iF_ H
   have H' := aa.mk H
   clear H
   go_wp2_with (first | ((with_reducible refine ae (f := 75) rfl ?_); refine aq (some 6) rfl rfl Tryz.func75 (by kernel_rfl) rfl #[.int .i64 a1, .int .i64 1, .int .i64 11] rfl aM_ ?_; (with_reducible refine (aW.calls a1 1 11 false _ A4.out).mono ?_); rintro e w' ⟨rfl, ⟨nd, rfl⟩⟩; refine ⟨_, rfl, ?_⟩))
   go_meet
   case rel => exact ⟨_, (true), f0_, H', ⟨by first | omega | exact wa _⟩, d0_⟩
 clear p0
 obtain ⟨kq, b0, rfl, HA, B0, ⟨mc2, rfl⟩⟩ := hcut
 rcases kq with _ | t0
 ·exact absurd HA.out (by simp [bw.j0])
 have H := HA.out
 clear HA
 simp only [bw.j0] at H
 by_cases c8 : b0 = true
 ·subst c8
  replace H := iT_ H
  obtain rfl := sI H
  go_wp2
  go_ret
  exact ⟨f0_, d0_⟩
 ·replace c8 := ya c8
  subst c8
  replace H := iF_ H
  obtain ⟨r0, A9, H⟩ := bN_ H
  obtain ⟨d0, y0, H⟩ := bN_ H
  by_cases k0 : d0 = 0
  ·rw [za k0] at H
   exact absurd H (by simp)
  rw [Aa k0] at H
  have u0 : (d0 == 0) = false := beq_eq_false_iff_ne.mpr k0
  have v0 : (d0 != 0) = true := bne_iff_ne.mpr k0
  obtain rfl := sI H
  go_wp2_with (first | ((with_reducible refine ae (f := 81) rfl ?_); refine aq (some 20) rfl rfl Tryz.func81 (by kernel_rfl) rfl #[.int .i64 (wrap64 (a1 - 1))] rfl aM_ ?_; (with_reducible refine (av.calls t0 (wrap64 (a1 - 1)) r0 _ A9.out).mono ?_); rintro e w' ⟨rfl, ⟨nd, rfl⟩⟩; refine ⟨_, rfl, ?_⟩) | ((with_reducible refine ae (f := 81) rfl ?_); refine aq (some 23) rfl rfl Tryz.func81 (by kernel_rfl) rfl #[.int .i64 a1] rfl aM_ ?_; (with_reducible refine (av.calls t0 a1 d0 _ y0.out).mono ?_); rintro e w' ⟨rfl, ⟨nd, rfl⟩⟩; refine ⟨_, rfl, ?_⟩))
  go_ret
  exact ⟨f0_, d0_⟩

/-! ### aY: function 22 -/
mutual
def aY.l0 : Nat → ByteArray → List Int → Int → Option (List Int)
 | 0, _, _, _ => none
 | k + 1, x0, x3, x4 => if x4 < 256 then (if 0 ≤ (wrap64 (Int.tdiv x4 8)) then (if (wrap64 (Int.tdiv x4 8)) < (x0.size : Int) then (aY.l1 k x0 x3 x4 (wrap64 (bt x0 (wrap64 (Int.tdiv x4 8)))) 0) else (none)) else (none)) else (some x3)
def aY.l1 : Nat → ByteArray → List Int → Int → Int → Int → Option (List Int)
 | 0, _, _, _, _, _ => none
 | k + 1, x0, x3, x4, x5, x6 => if x6 < (Int.tmod x4 8) then (aY.l1 k x0 x3 x4 (wrap64 (Int.tdiv x5 2)) (wrap64 (x6 + 1))) else ((bw.f k (Int.tmod x5 2) 1).bind fun t488 => (if x3.length < 17592186044416 then (aY.l0 k x0 (x3 ++ [t488]) (wrap64 (x4 + 1))) else (none)))
end
def aY.f (k : Nat) (a0 : ByteArray) : Option (List Int) := aY.l0 k a0 (([] : List Int)) 0
theorem aY.mono_l : ∀ k, (∀ y0 y1 y2, LeO (aY.l0 k y0 y1 y2) (aY.l0 (k + 1) y0 y1 y2)) ∧ (∀ y0 y1 y2 y3 y4, LeO (aY.l1 k y0 y1 y2 y3 y4) (aY.l1 (k + 1) y0 y1 y2 y3 y4))
 | 0 => ⟨fun _ _ _ r h => by simp [aY.l0] at h, fun _ _ _ _ _ r h => by simp [aY.l1] at h⟩
 | k + 1 => by
  obtain ⟨ih0, ih1⟩ := aY.mono_l k
  refine ⟨?_, ?_⟩ <;> (intros; (first | unfold aY.l0 | unfold aY.l1); exact o3_ ih0 ih1 bw.mono)
theorem aY.mono : ∀ a0 k, LeO (aY.f k a0) (aY.f (k + 1) a0) := by
 intro a0 k
 obtain ⟨ih0, ih1⟩ := aY.mono_l k
 unfold aY.f
 exact o3_ ih0 ih1 bw.mono
theorem aY.calls (k : Nat) (a0 : ByteArray) (r : List Int) (w : World) (h : aY.f k a0 = some r) :
  Calls Tryz.prog 22 #[.string a0] w fun e w' => ∃ J0 : Value, e = .returned (J0) ∧ Kd.R (Kd.int .i64) 3 w' w.heap.size (fun _ => True) J0 r ∧ Below w.heap.size w w' := by
 have HB := aa.mk (xa w.heap.size w)
 delta aY.f at h
 have H := h
 clear h
 obtain ⟨F0, e0⟩ : ∃ y_ : List Int, y_ = (([] : List Int)) := ⟨_, rfl⟩
 first | replace H := yb_ e0 H | rw [← e0] at H
 have t0 := aa.mk e0
 clear e0
 have H' := aa.mk H
 clear H
 go_enter Tryz.func22, Tryz.ntmps22
 go_wp2_with (first | ((with_reducible refine aI (N := 7) rfl ?_); refine Kd.R_lit (Kd.int .i64) _ 3 ?hg (N := 7) ?hd (xs := ([] : List Int)) (inner := []) (ok := fun _ => True) (okp := fun _ => True) ?hr ?hp (fun _ hk => hk) trivial (xa _ _) (wa _) (by simp) ?_; (case hd => rfl); (case hg => rfl); (case hr => first | (go_simp; done) | (go_simp; rfl)); (case hp => exact (br.none _ _)); intro M0 w2 u0 hb hg_ hnew_; clear hg_ hnew_; (first | rw [← t0.out] at u0 | (simp only [Int.reduceToNat] at u0; rw [← t0.out] at u0)); have n_ := b_ (Kd.R_lower u0 (ab (hB_))) <| c_ (ac (hB_) hb); clear HB; obtain ⟨v0, HB⟩ := n_; clear hb u0))
 go_loopg [3, 4] k (fun kq v3 v4 w' => ∃ (d0 : List Int) (b0 : Int), v4 = .int .i64 b0 ∧ aa (aY.l0 kq a0 d0 b0 = some r) ∧ aa (kq ≤ k) ∧ aa (Kd.R (Kd.int .i64) 3 w' w.heap.size (fun _ => True) v3 d0) ∧ aa (Below w.heap.size w w'))
 case atStart => exact ⟨(F0), (0), f0_, H', ⟨wa _⟩, ⟨rR_ v0.out⟩, ⟨hB_⟩⟩
 clear H'
 obtain ⟨d0, b0, rfl, HA, D0, j0, HB⟩ := hrel
 rcases gk with _ | k1
 ·exact absurd HA.out (by simp [aY.l0])
 have H := HA.out
 clear HA
 simp only [aY.l0] at H
 by_cases c4 : b0 < 256
 rotate_left
 ·rw [Aa c4] at H
  have G0 := ua c4
  clear c4
  obtain rfl := sI H
  go_wp2
  go_ret
  exact ⟨_, f1_, rR_ j0.out, hB_⟩
 rw [za c4] at H
 have G0 := ta c4
 clear c4
 obtain ⟨x0, q0⟩ : ∃ j_ : Int, (wrap64 (Int.tdiv b0 8)) = j_ := ⟨_, rfl⟩
 first | rw [q0] at H | simp only [q0] at H
 have K0 : (IntKind.i64.wrap (Int.tdiv b0 8)) = x0 := (bB _).trans q0
 obtain ⟨N0, H⟩ := iD_ H
 obtain ⟨O0, H⟩ := iD_ H
 have H' := aa.mk H
 clear H
 have p8 := va (oD_ : 0 ≤ ((x0) : Int))
 have q8 := va (oD_ : (x0) < (a0.size : Int))
 have R0 := cB a0 (x0)
 go_wp2
 go_loopg [5, 6] k1 (fun kq v5 v6 w' => ∃ (k0 : Int) (p0 : Int), v5 = .int .i64 k0 ∧ v6 = .int .i64 p0 ∧ aa (aY.l1 kq a0 d0 b0 k0 p0 = some r) ∧ aa (kq ≤ k1) ∧ aa (Kd.R (Kd.int .i64) 3 w' w.heap.size (fun _ => True) u3 d0) ∧ aa (Below w.heap.size w w'))
 case atStart => exact ⟨(wrap64 (bt a0 (x0))), (0), (by first | rfl | (simp; done) | (simp only [← q0] <;> (first | rfl | simp)) | (simp [*]; done)), f0_, H', ⟨wa _⟩, ⟨rR_ j0.out⟩, ⟨hB_⟩⟩
 clear H'
 obtain ⟨k0, p0, rfl, rfl, HA, E0, j0, HB⟩ := hrel
 rcases gk with _ | k2
 ·exact absurd HA.out (by simp [aY.l1])
 have H := HA.out
 clear HA
 simp only [aY.l1] at H
 by_cases c9 : p0 < (Int.tmod b0 8)
 ·rw [za c9] at H
  have H0 := ta c9
  clear c9
  have H' := aa.mk H
  clear H
  go_wp2
  go_roundg k2
  case measure => have := D0.out; have := E0.out; omega
  case rel => exact ⟨(wrap64 (Int.tdiv k0 2)), (wrap64 (p0 + 1)), f0_, f0_, H', ⟨by have := D0.out; have := E0.out; omega⟩, ⟨rR_ j0.out⟩, ⟨hB_⟩⟩
 rw [Aa c9] at H
 have H0 := ua c9
 clear c9
 obtain ⟨r0, P0, H⟩ := bN_ H
 obtain ⟨L0, H⟩ := iN_ H
 have y0 := aa.mk L0
 clear L0
 obtain ⟨I0, f0⟩ : ∃ y_ : List Int, y_ = (d0 ++ [r0]) := ⟨_, rfl⟩
 first | replace H := yb_ f0 H | rw [← f0] at H
 have B0 := aa.mk f0
 clear f0
 have H' := aa.mk H
 clear H
 go_wp2_with (first | ((with_reducible refine ae (f := 55) rfl ?_); refine aq (some 28) rfl rfl Tryz.func55 (by kernel_rfl) rfl #[.int .i64 (Int.tmod k0 2), .int .i64 1] rfl aM_ ?_; (with_reducible refine (bw.calls k2 (Int.tmod k0 2) 1 r0 _ P0.out).mono ?_); rintro e w' ⟨rfl, ⟨nd, rfl⟩⟩; refine ⟨_, rfl, ?_⟩) | ((with_reducible refine aV (b := .append) (xs := #[.tmp 25, .tmp 29]) rfl ?_); at_builtin; refine Kd.R_append (Kd.int .i64) (w0 := w) w.heap.size rfl (.tmp 25) (.tmp 29) 38 3 (.int .i64 0) 8 rfl Tryz.underlying38 cS rfl (by decide) (by omega) u3 d0 r0 [.int .i64 r0] (fun _ => True) (fun _ => False) rfl rfl ?aP (fun _ hk => hk.elim) ?aF ?aO ?aB ?aS ?aL ?_; (case aP => exact rfl); (case aB => exact (hB_)); (case aF => exact (fun _ _ => trivial)); (case aO => exact (rR_ j0.out)); (case aS => exact (ab (hB_))); (case aL => have := y0.out; omega); intro Q0 S0 ho hb hg hat; rw [← B0.out] at ho; have n_ := b_ (hb) <| c_ (ho); clear j0 HB; obtain ⟨HB, C0⟩ := n_; clear ho hb hg hat))
 go_roundg k2
 case measure => have := D0.out; have := E0.out; omega
 case rel => exact ⟨(I0), (wrap64 (b0 + 1)), f0_, H', ⟨by have := D0.out; have := E0.out; omega⟩, ⟨rR_ C0.out⟩, ⟨hB_⟩⟩

/-! ### dd: function 91 -/
def dd.f (a0 : Int) (a1 : Int) : Option (Int) := if 0 ≤ (Go.bits .and .u64 (IntKind.u64.wrap (a1)) 31) then (if 0 ≤ (IntKind.u64.wrap (32 - (Go.bits .and .u64 (IntKind.u64.wrap (a1)) 31))) then (some (Go.bits .or .u32 (shl .u32 a0 (Go.bits .and .u64 (IntKind.u64.wrap (a1)) 31)) (shr .u32 a0 (IntKind.u64.wrap (32 - (Go.bits .and .u64 (IntKind.u64.wrap (a1)) 31)))))) else (none)) else (none)
theorem dd.calls (a0 : Int) (a1 : Int) (r : Int) (w : World) (h : dd.f a0 a1 = some r) :
  Calls Tryz.prog 91 #[.int .u32 a0, .int .i64 a1] w fun e w' => e = .returned (.int .u32 r) ∧ cp w w' := by
 delta dd.f at h
 have H := h
 clear h
 obtain ⟨e0, f0⟩ : ∃ j_ : Int, (Go.bits .and .u64 (IntKind.u64.wrap (a1)) 31) = j_ := ⟨_, rfl⟩
 first | rw [f0] at H | simp only [f0] at H
 obtain ⟨c4, H⟩ := iN_ H
 have x0 := va c4
 have y0 := ta c4
 clear c4
 obtain ⟨q0, b0⟩ : ∃ j_ : Int, (shl .u32 a0 (e0)) = j_ := ⟨_, rfl⟩
 first | rw [b0] at H | simp only [b0] at H
 have k0 : (IntKind.u32.wrap (a0 * 2 ^ min (e0).toNat 32)) = q0 := b0
 have p0 : (e0) ≤ 32 → (IntKind.u32.wrap (a0 * 2 ^ (e0).toNat)) = q0 := eE b0
 have hji5k : ((a0 * 2 ^ min (e0).toNat 32) % 4294967296) = q0 := (IntKind.wrap_u32 _).symm.trans k0
 have hji5n : (e0) ≤ 32 → ((a0 * 2 ^ (e0).toNat) % 4294967296) = q0 := fun h_ => (IntKind.wrap_u32 _).symm.trans (p0 h_)
 obtain ⟨r0, j0⟩ : ∃ j_ : Int, (IntKind.u64.wrap (32 - (e0))) = j_ := ⟨_, rfl⟩
 first | rw [j0] at H | simp only [j0] at H
 obtain ⟨c7, H⟩ := iN_ H
 have B0 := va c7
 have C0 := ta c7
 clear c7
 obtain ⟨t0, d0⟩ : ∃ j_ : Int, (shr .u32 a0 (r0)) = j_ := ⟨_, rfl⟩
 first | rw [d0] at H | simp only [d0] at H
 have u0 : (a0 / 2 ^ min (r0).toNat 32) = t0 := d0
 have v0 : (r0) ≤ 32 → (a0 / 2 ^ (r0).toNat) = t0 := fv d0
 obtain rfl := sI H
 go_enter Tryz.func91, Tryz.ntmps91
 go_wp2
 go_ret
 exact ⟨by first | rfl | (simp; done) | (simp only [← f0, ← b0, ← j0, ← d0] <;> (first | rfl | simp)) | (simp [*]; done), d0_⟩

/-! ### b8: function 83 -/
def b8.f (a0 : Int) (a1 : Int) : Option (Int) := (dd.f a0 (wrap64 (-a1))).bind fun t556 => (some t556)
theorem b8.calls (a0 : Int) (a1 : Int) (r : Int) (w : World) (h : b8.f a0 a1 = some r) :
  Calls Tryz.prog 83 #[.int .u32 a0, .int .i64 a1] w fun e w' => e = .returned (.int .u32 r) ∧ cp w w' := by
 delta b8.f at h
 have H := h
 clear h
 obtain ⟨b0, A3, H⟩ := bN_ H
 obtain rfl := sI H
 go_enter Tryz.func83, Tryz.ntmps83
 go_wp2_with (first | ((with_reducible refine ae (f := 91) rfl ?_); refine aq (some 8) rfl rfl Tryz.func91 (by kernel_rfl) rfl #[.int .u32 a0, .int .i64 (wrap64 (-a1))] rfl aM_ ?_; (with_reducible refine (dd.calls a0 (wrap64 (-a1)) b0 _ A3.out).mono ?_); rintro e w' ⟨rfl, ⟨nd, rfl⟩⟩; refine ⟨_, rfl, ?_⟩))
 go_ret
 exact ⟨f0_, d0_⟩

-- NOT PRINTED: function 82 (bP)

-- NOT PRINTED: function 56 (cg)

-- NOT PRINTED: function 23 (jJ)

-- NOT PRINTED: function 24 (bI)

/-! ### eD: function 57 -/
def eD.f (a0 : Int) : Option (ByteArray) := if 0 ≤ a0 then (if (a0 : Int).toNat ≤ 281474976710656 then (some (strOfNums (List.replicate (a0 : Int).toNat 0))) else (none)) else (none)
theorem eD.calls (a0 : Int) (r : ByteArray) (w : World) (h : eD.f a0 = some r) :
  Calls Tryz.prog 57 #[.int .i64 a0] w fun e w' => e = .returned (.string r) ∧ Below w.heap.size w w' := by
 have HB := aa.mk (xa w.heap.size w)
 delta eD.f at h
 have H := h
 clear h
 obtain ⟨c2, H⟩ := iN_ H
 have j0 := va c2
 have k0 := ta c2
 clear c2
 obtain ⟨c3, H⟩ := iN_ H
 have p0 := va c3
 have q0 := ta c3
 clear c3
 obtain ⟨r0, b0⟩ : ∃ y_ : List Int, y_ = (List.replicate (a0 : Int).toNat 0) := ⟨_, rfl⟩
 first | replace H := yb_ b0 H | rw [← b0] at H
 have d0 := aa.mk b0
 clear b0
 obtain rfl := sI H
 go_enter Tryz.func57, Tryz.ntmps57
 go_wp2_with (first | ((with_reducible refine aI (N := 4) rfl ?_); refine Kd.R_make (Kd.int .u8) _ 5 rfl (N := 4) rfl 57 _ _ rfl a0 rfl rfl Tryz.underlying57 (.int .u8 0) 1 iD rfl (by decide) (by omega) 0 (ok := fun _ => True) (okp := fun _ => True) rfl (fun _ hk => hk) trivial oD_ (Nat.le_trans (Nat.mul_le_mul_right _ (oD_ : a0.toNat ≤ 281474976710656)) (by omega)) (xa _ _) (wa _) ?_; intro t0 w4 e0 hb hg_ hnew_; clear hg_ hnew_; (first | rw [← d0.out] at e0 | (simp only [Int.reduceToNat] at e0; rw [← d0.out] at e0)); have n_ := b_ (Kd.R_lower e0 (ab (hB_))) <| c_ (ac (hB_) hb); clear HB; obtain ⟨f0, HB⟩ := n_; clear hb e0; have u0 := dD (P := Tryz.prog) Tryz.underlying57 Tryz.underlying5 Tryz.underlying9 (Kd.own_of_R f0.out)))
 go_ret
 exact ⟨f1_, hB_⟩

/-! ### cO: function 59 -/
def cO.f (a0 : Int) : Option (ByteArray) := some (strOfNums (([(a0 / 16777216) % 256, (a0 / 65536) % 256, (a0 / 256) % 256, (a0) % 256] : List Int)))
theorem cO.calls (a0 : Int) (r : ByteArray) (w : World) (h : cO.f a0 = some r) :
  Calls Tryz.prog 59 #[.int .u32 a0] w fun e w' => e = .returned (.string r) ∧ Below w.heap.size w w' := by
 have HB := aa.mk (xa w.heap.size w)
 delta cO.f at h
 have H := h
 clear h
 obtain ⟨j0, b0⟩ : ∃ y_ : List Int, y_ = (([(a0 / 16777216) % 256, (a0 / 65536) % 256, (a0 / 256) % 256, (a0) % 256] : List Int)) := ⟨_, rfl⟩
 first | replace H := yb_ b0 H | rw [← b0] at H
 have d0 := aa.mk b0
 clear b0
 obtain rfl := sI H
 go_enter Tryz.func59, Tryz.ntmps59
 go_wp2_with (first | ((with_reducible refine aI (N := 14) rfl ?_); refine Kd.R_lit (Kd.int .u8) _ 5 ?hg (N := 14) ?hd (xs := ([(a0 / 16777216) % 256, (a0 / 65536) % 256, (a0 / 256) % 256, (a0) % 256] : List Int)) (inner := [.int .u8 ((a0 / 16777216) % 256), .int .u8 ((a0 / 65536) % 256), .int .u8 ((a0 / 256) % 256), .int .u8 ((a0) % 256)]) (ok := fun _ => True) (okp := fun _ => True) ?hr ?hp (fun _ hk => hk) trivial (xa _ _) (wa _) (by simp) ?_; (case hd => rfl); (case hg => rfl); (case hr => first | (go_simp; done) | (go_simp; rfl)); (case hp => exact (br.one (show Kd.M (Kd.int .u8) _ _ _ ((a0 / 16777216) % 256) [.int .u8 ((a0 / 16777216) % 256)] from rfl) (br.one (show Kd.M (Kd.int .u8) _ _ _ ((a0 / 65536) % 256) [.int .u8 ((a0 / 65536) % 256)] from rfl) (br.one (show Kd.M (Kd.int .u8) _ _ _ ((a0 / 256) % 256) [.int .u8 ((a0 / 256) % 256)] from rfl) (br.one (show Kd.M (Kd.int .u8) _ _ _ ((a0) % 256) [.int .u8 ((a0) % 256)] from rfl) (br.none _ _)))))); intro k0 w2 e0 hb hg_ hnew_; clear hg_ hnew_; (first | rw [← d0.out] at e0 | (simp only [Int.reduceToNat] at e0; rw [← d0.out] at e0)); have n_ := b_ (Kd.R_lower e0 (ab (hB_))) <| c_ (ac (hB_) hb); clear HB; obtain ⟨f0, HB⟩ := n_; clear hb e0; have p0 := dD (P := Tryz.prog) Tryz.underlying57 Tryz.underlying5 Tryz.underlying9 (Kd.own_of_R f0.out)))
 go_ret
 exact ⟨f1_, hB_⟩

/-! ### dr: function 58 -/
def dr.f (a0 : Int) : Option (ByteArray) := (cO.f ((a0 / 4294967296) % 4294967296)).bind fun t563 => ((cO.f ((a0) % 4294967296)).bind fun t564 => (if t563.size + t564.size ≤ 9223372036854775807 then (some (t563 ++ t564)) else (none)))
theorem dr.calls (a0 : Int) (r : ByteArray) (w : World) (h : dr.f a0 = some r) :
  Calls Tryz.prog 58 #[.int .i64 a0] w fun e w' => e = .returned (.string r) ∧ Below w.heap.size w w' := by
 have HB := aa.mk (xa w.heap.size w)
 delta dr.f at h
 have H := h
 clear h
 obtain ⟨b0, A2, H⟩ := bN_ H
 obtain ⟨d0, A3, H⟩ := bN_ H
 obtain ⟨c4, H⟩ := iN_ H
 have e0 := va c4
 have f0 := ta c4
 try have j0 : (9223372036854775807 < b0.size + d0.size) = False := eq_false (Nat.not_lt.2 c4)
 obtain rfl := sI H
 go_enter Tryz.func58, Tryz.ntmps58
 go_wp2_with (first | ((with_reducible refine ae (f := 59) rfl ?_); refine aq (some 6) rfl rfl Tryz.func59 (by kernel_rfl) rfl #[.int .u32 ((a0 / 4294967296) % 4294967296)] rfl aM_ ?_; (with_reducible refine (cO.calls ((a0 / 4294967296) % 4294967296) b0 _ A2.out).mono ?_); rintro e w5 ⟨rfl, hb⟩; refine ⟨_, rfl, ?_⟩; replace HB := aa.mk (ac (hB_) hb); (try clear hb)) | ((with_reducible refine ae (f := 59) rfl ?_); refine aq (some 9) rfl rfl Tryz.func59 (by kernel_rfl) rfl #[.int .u32 ((a0) % 4294967296)] rfl aM_ ?_; (with_reducible refine (cO.calls ((a0) % 4294967296) d0 _ A3.out).mono ?_); rintro e w6 ⟨rfl, hb⟩; refine ⟨_, rfl, ?_⟩; replace HB := aa.mk (ac (hB_) hb); (try clear hb)))
 go_ret
 exact ⟨f1_, hB_⟩

/-! ### d7: function 25 -/
def d7.f (a0 : Int) : Option (ByteArray) := (eD.f (Int.tmod (wrap64 (119 - (Int.tmod a0 64))) 64)).bind fun t565 => (if 1 + t565.size ≤ 9223372036854775807 then ((dr.f (wrap64 (8 * a0))).bind fun t566 => (if ((⟨#[128]⟩ : ByteArray) ++ t565).size + t566.size ≤ 9223372036854775807 then (some (((⟨#[128]⟩ : ByteArray) ++ t565) ++ t566)) else (none))) else (none))
theorem d7.calls (a0 : Int) (r : ByteArray) (w : World) (h : d7.f a0 = some r) :
  Calls Tryz.prog 25 #[.int .i64 a0] w fun e w' => e = .returned (.string r) ∧ Below w.heap.size w w' := by
 have HB := aa.mk (xa w.heap.size w)
 delta d7.f at h
 have H := h
 clear h
 obtain ⟨b0, A2, H⟩ := bN_ H
 obtain ⟨c3, H⟩ := iN_ H
 have f0 := va c3
 have j0 := ta c3
 try have k0 : (9223372036854775807 < 1 + b0.size) = False := eq_false (Nat.not_lt.2 c3)
 obtain ⟨d0, A4, H⟩ := bN_ H
 obtain ⟨c5, H⟩ := iN_ H
 have p0 := va c5
 have q0 := ta c5
 try have e0 : (9223372036854775807 < ((⟨#[128]⟩ : ByteArray) ++ b0).size + d0.size) = False := eq_false (Nat.not_lt.2 c5)
 try have r0 : (9223372036854775807 < 1 + b0.size + d0.size) = False := (show ((⟨#[128]⟩ : ByteArray) ++ b0).size = 1 + b0.size from (by rw [ByteArray.size_append]; rfl)) ▸ e0
 obtain rfl := sI H
 go_enter Tryz.func25, Tryz.ntmps25
 go_wp2_with (first | ((with_reducible refine ae (f := 57) rfl ?_); refine aq (some 7) rfl rfl Tryz.func57 (by kernel_rfl) rfl #[.int .i64 (Int.tmod (wrap64 (119 - (Int.tmod a0 64))) 64)] rfl aM_ ?_; (with_reducible refine (eD.calls (Int.tmod (wrap64 (119 - (Int.tmod a0 64))) 64) b0 _ A2.out).mono ?_); rintro e w6 ⟨rfl, hb⟩; refine ⟨_, rfl, ?_⟩; replace HB := aa.mk (ac (hB_) hb); (try clear hb)) | ((with_reducible refine ae (f := 58) rfl ?_); refine aq (some 11) rfl rfl Tryz.func58 (by kernel_rfl) rfl #[.int .i64 (wrap64 (8 * a0))] rfl aM_ ?_; (with_reducible refine (dr.calls (wrap64 (8 * a0)) d0 _ A4.out).mono ?_); rintro e w7 ⟨rfl, hb⟩; refine ⟨_, rfl, ?_⟩; replace HB := aa.mk (ac (hB_) hb); (try clear hb)))
 go_ret
 exact ⟨f1_, hB_⟩

-- NOT PRINTED: function 26 (bJ)

-- GIVEN: function 8 (cD)

/-! ### bO: function 85 -/
def bO.f (a0 : Int) (a1 : Int) (a2 : Int) : Option (Bool) := if a0 ≥ a1 then (some (decide (a0 ≤ a2))) else (some false)
theorem bO.calls (a0 : Int) (a1 : Int) (a2 : Int) (r : Bool) (w : World) (h : bO.f a0 a1 a2 = some r) :
  Calls Tryz.prog 85 #[.int .i64 a0, .int .i64 a1, .int .i64 a2] w fun e w' => e = .returned (.bool r) ∧ cp w w' := by
 delta bO.f at h
 have H := h
 clear h
 by_cases c4 : a0 ≥ a1
 ·rw [za c4] at H
  have b0 := ta c4
  clear c4
  obtain rfl := sI H
  go_enter Tryz.func85, Tryz.ntmps85
  go_wp2
  go_ret
  exact ⟨f0_, d0_⟩
 rw [Aa c4] at H
 have b0 := ua c4
 clear c4
 obtain rfl := sI H
 go_enter Tryz.func85, Tryz.ntmps85
 go_wp2
 go_ret
 exact ⟨f0_, d0_⟩

/-! ### aG: function 64 -/
def aG.l0 : Nat → List Int → List Int → Int → Int → Option (Bool)
 | 0, _, _, _, _ => none
 | k + 1, x0, x5, x6, x7 => if x7 < x6 then (if 0 ≤ x7 then (if x7 < (x5.length : Int) then ((bO.f (rd x5 x7) 0 3328).bind fun t568 => (if t568 = true then (aG.l0 k x0 x5 x6 (wrap64 (x7 + 1))) else (some false))) else (none)) else (none)) else (some ((x0.length : Int) == 256))
def aG.f (k : Nat) (l0 : List Int) : Option (Bool) := aG.l0 k l0 l0 (l0.length : Int) 0
theorem aG.mono_l : ∀ k, (∀ y0 y1 y2 y3, LeO (aG.l0 k y0 y1 y2 y3) (aG.l0 (k + 1) y0 y1 y2 y3))
 | 0 => fun _ _ _ _ r h => by simp [aG.l0] at h
 | k + 1 => by
  have ih0 := aG.mono_l k
  intros; unfold aG.l0; exact o1_ ih0
theorem aG.mono : ∀ a0 k, LeO (aG.f k a0) (aG.f (k + 1) a0) := by
 intro a0 k
 have ih0 := aG.mono_l k
 unfold aG.f
 exact o1_ ih0
theorem aG.calls (k : Nat) (A0 : Option Addr) (c0 : Nat) (l0 : List Int) (r : Bool) (w : World) (hr0 : Kd.C (Kd.int .i64) w A0 l0.length l0) (hc0 : l0.length ≤ c0) (h : aG.f k l0 = some r) :
  Calls Tryz.prog 64 #[.slice A0 l0.length c0] w fun e w' => e = .returned (.bool r) ∧ cp w w' := by
 have q0 := aa.mk hr0
 have v0 := aa.mk hc0
 clear hr0 hc0
 delta aG.f at h
 have H := h
 clear h
 have H' := aa.mk H
 clear H
 go_enter Tryz.func64, Tryz.ntmps64
 go_wp2
 go_loopg [7] k (fun kq v7 w' => ∃ (a0 : Int), v7 = .int .i64 a0 ∧ aa (aG.l0 kq l0 l0 (l0.length : Int) a0 = some r) ∧ aa (kq ≤ k) ∧ cp w w')
 case atStart => exact ⟨(0), f0_, H', ⟨wa _⟩, d0_⟩
 clear H'
 obtain ⟨a0, rfl, HA, r0, ⟨m1, rfl⟩⟩ := hrel
 rcases gk with _ | k1
 ·exact absurd HA.out (by simp [aG.l0])
 have H := HA.out
 clear HA
 simp only [aG.l0] at H
 by_cases c2 : a0 < (l0.length : Int)
 rotate_left
 ·rw [Aa c2] at H
  have k0 := ua c2
  clear c2
  obtain rfl := sI H
  go_wp2
  go_ret
  exact ⟨f0_, d0_⟩
 rw [za c2] at H
 have k0 := ta c2
 clear c2
 obtain ⟨t0, H⟩ := iD_ H
 obtain ⟨u0, H⟩ := iD_ H
 obtain ⟨p0, A5, H⟩ := bN_ H
 by_cases c6 : p0 = true
 ·subst c6
  replace H := iT_ H
  have H' := aa.mk H
  clear H
  have b0 : 0 ≤ (a0 : Int) := oD_
  have d0 : a0 < (l0.length : Int) := oD_
  obtain ⟨j0, f0, e0⟩ := Kd.at_int q0.out a0 b0 d0
  cases f0
  replace b0 := va b0
  replace d0 := va d0
  go_wp2_with (first | ((with_reducible refine ae (f := 85) rfl ?_); refine aq (some 12) rfl rfl Tryz.func85 (by kernel_rfl) rfl #[.int .i64 (rd l0 a0), .int .i64 0, .int .i64 3328] rfl aM_ ?_; (with_reducible refine (bO.calls (rd l0 a0) 0 3328 true _ A5.out).mono ?_); rintro e w' ⟨rfl, ⟨nd, rfl⟩⟩; refine ⟨_, rfl, ?_⟩))
  go_roundg k1
  case measure => have := r0.out; omega
  case rel => exact ⟨(wrap64 (a0 + 1)), f0_, H', ⟨by have := r0.out; omega⟩, d0_⟩
 ·replace c6 := ya c6
  subst c6
  replace H := iF_ H
  obtain rfl := sI H
  have b0 : 0 ≤ (a0 : Int) := oD_
  have d0 : a0 < (l0.length : Int) := oD_
  obtain ⟨j0, f0, e0⟩ := Kd.at_int q0.out a0 b0 d0
  cases f0
  replace b0 := va b0
  replace d0 := va d0
  go_wp2_with (first | ((with_reducible refine ae (f := 85) rfl ?_); refine aq (some 12) rfl rfl Tryz.func85 (by kernel_rfl) rfl #[.int .i64 (rd l0 a0), .int .i64 0, .int .i64 3328] rfl aM_ ?_; (with_reducible refine (bO.calls (rd l0 a0) 0 3328 false _ A5.out).mono ?_); rintro e w' ⟨rfl, ⟨nd, rfl⟩⟩; refine ⟨_, rfl, ?_⟩))
  go_ret
  exact ⟨f0_, d0_⟩

end Go.Proofs.YtielligodgabiaaGreatDoor.P
