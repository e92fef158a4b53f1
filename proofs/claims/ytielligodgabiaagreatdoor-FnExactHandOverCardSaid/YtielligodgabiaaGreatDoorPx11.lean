-- printed texts of this session, regrouped
import Derived.Test.YtielligodgabiaaGreatDoorMWC
import Derived.Test.YtielligodgabiaaGreatDoorMWB
import Derived.Test.YtielligodgabiaaGreatDoorMWA
import Derived.Test.YtielligodgabiaaGreatDoorMW7
import Derived.Test.YtielligodgabiaaGreatDoorMW8
import Derived.Test.YtielligodgabiaaGreatDoorMW6
import Derived.Test.YtielligodgabiaaGreatDoorHB4
import Derived.Test.YtielligodgabiaaGreatDoorPx0
import Derived.Test.YtielligodgabiaaGreatDoorPx4
import Derived.Test.YtielligodgabiaaGreatDoorPx5
import Derived.Test.YtielligodgabiaaGreatDoorPx6
import Derived.Test.YtielligodgabiaaGreatDoorPx12
namespace Go.Proofs.YtielligodgabiaaGreatDoor.P
open Go.RowKit YtielligodgabiaaGreatDoorW.PrintWords YtielligodgabiaaGreatDoorW.PrintLast YtielligodgabiaaGreatDoorW.PrintMore
attribute [local go_sem] dJ dC ej eh dh di dB dK   -- for this text's walks alone
set_option linter.unusedVariables false
set_option linter.unusedSimpArgs false
set_option maxHeartbeats 8000000
set_option maxRecDepth 100000

/-! ### bR: function 86 -/
def bR.f (k : Nat) (a0 : ByteArray) : Option (ByteArray × Int) := (cP.f k a0 168 31).bind fun t624 => (some (t624, 0))
theorem bR.mono : ∀ a0 k, LeO (bR.f k a0) (bR.f (k + 1) a0) := by
 intro a0 k
 unfold bR.f
 exact o1_ cP.mono
theorem bR.calls (k : Nat) (a0 : ByteArray) (r1 : ByteArray) (r2 : Int) (w : World) (h : bR.f k a0 = some (r1, r2)) :
  Calls Tryz.prog 86 #[.string a0] w fun e w' => e = .returned (.agg #[.string r1, .int .i64 r2]) ∧ Below w.heap.size w w' := by
 have hu80 := Tryz.underlying80
 have HB := aa.mk (xa w.heap.size w)
 delta bR.f at h
 have H := h
 clear h
 obtain ⟨f0, A2, H⟩ := bN_ H
 simp only [Option.some.injEq, Prod.mk.injEq] at H
 obtain ⟨rfl, rfl⟩ := H
 go_enter Tryz.func86, Tryz.ntmps86
 go_wp2_with (first | ((with_reducible refine aI (N := 2) rfl ?_); refine cn ?hg (N := 2) ?hd (cs := #[.string (⟨#[]⟩ : ByteArray), .int .i64 0]) (t := 80) ?hr ?_; (case hd => rfl); (case hg => rfl); (case hr => first | (go_simp; done) | (go_simp; rfl)); intro d0 hg w3 hbox hb; have n_ := b_ (ac (hB_) hb) <| b_ (hbox) <| b_ (by rw [hg]; exact (ab (hB_)) : w.heap.size ≤ d0) <| c_ (by rw [hg]; exact (ab (hB_)) : w.heap.size ≤ d0); clear HB; obtain ⟨HB, b0, r0, e0⟩ := n_; clear hb hbox hg) | ((with_reducible refine ae (f := 92) rfl ?_); refine aq (some 4) rfl rfl Tryz.func92 (by kernel_rfl) rfl #[.string a0, .int .i64 168, .int .u8 31] rfl aM_ ?_; (with_reducible refine (cP.calls k a0 168 31 f0 _ A2.out).mono ?_); rintro e w4 ⟨rfl, hb⟩; refine ⟨_, rfl, ?_⟩; have n_ := b_ (bG (g := d0) (o := .cells #[.string (⟨#[]⟩ : ByteArray), .int .i64 0] 80 (0, 0)) (rK_ b0.out) hb) <| c_ (ac (hS_ e0.out) hb); clear b0 HB; obtain ⟨b0, HB⟩ := n_; have j0 : w4.cell? ⟨d0, 0, none⟩ = some (.string (⟨#[]⟩ : ByteArray)) := (au b0.out 0).trans rfl; have k0 : w4.cell? ⟨d0, 1, none⟩ = some (.int .i64 0) := (au b0.out 1).trans rfl; have p0 := aj b0.out 0; have q0 := aj b0.out 1))
 refine bodyPost_ret (results_cell_row rfl _ _ d0 80 #[.string f0, .int .i64 0] (0, 0) _ rfl (by refine kK_ ?_; refine bV (cs := #[.string f0, .int .i64 0]) ?_ 1 _ rfl; refine kK_ ?_; refine bV (cs := #[.string (⟨#[]⟩ : ByteArray), .int .i64 0]) ?_ 0 _ rfl; exact rK_ b0.out) Tryz.underlying80 rfl (by kernel_rfl)) rfl ?_
 exact ⟨f1_, hS_ e0.out⟩

/-! ### cF: function 72 -/
def cF.f (k : Nat) (a0 : ByteArray) (a1 : Int) : Option (ByteArray × Bool) := (bO.f a1 0 4000).bind fun t630 => (if t630 = true then ((bR.f k a0).bind fun bt631 => ((ao.f k bt631.1 bt631.2 a1).bind fun bt633 => (some (bt633.2.2, true)))) else (some ((⟨#[]⟩ : ByteArray), false)))
theorem cF.mono : ∀ a0 a1 k, LeO (cF.f k a0 a1) (cF.f (k + 1) a0 a1) := by
 intro a0 a1 k
 unfold cF.f
 exact o2_ bR.mono ao.mono
theorem cF.calls (k : Nat) (a0 : ByteArray) (a1 : Int) (r1 : ByteArray) (r2 : Bool) (w : World) (h : cF.f k a0 a1 = some (r1, r2)) :
  Calls Tryz.prog 72 #[.string a0, .int .i64 a1] w fun e w' => e = .returned (.tuple #[.string r1, .bool r2]) ∧ Below w.heap.size w w' := by
 have hu80 := Tryz.underlying80
 have HB := aa.mk (xa w.heap.size w)
 delta cF.f at h
 have H := h
 clear h
 obtain ⟨t0, A3, H⟩ := bN_ H
 by_cases c4 : t0 = true
 ·subst c4
  replace H := iT_ H
  obtain ⟨⟨e0, f0⟩, A5, H⟩ := bN_ H
  obtain ⟨⟨u0, v0, x0⟩, A6, H⟩ := bN_ H
  simp only [Option.some.injEq, Prod.mk.injEq] at H
  obtain ⟨rfl, rfl⟩ := H
  go_enter Tryz.func72, Tryz.ntmps72
  go_wp2_with (first | ((with_reducible refine ae (f := 85) rfl ?_); refine aq (some 9) rfl rfl Tryz.func85 (by kernel_rfl) rfl #[.int .i64 a1, .int .i64 0, .int .i64 4000] rfl aM_ ?_; (with_reducible refine (bO.calls a1 0 4000 true _ A3.out).mono ?_); rintro e w' ⟨rfl, ⟨nd, rfl⟩⟩; refine ⟨_, rfl, ?_⟩) | ((with_reducible refine ae (f := 86) rfl ?_); refine aq (some 13) rfl rfl Tryz.func86 (by kernel_rfl) rfl #[.string a0] rfl aM_ ?_; (with_reducible refine (bR.calls k a0 e0 f0 _ A5.out).mono ?_); rintro e w7 ⟨rfl, hb⟩; refine ⟨_, rfl, ?_⟩; replace HB := aa.mk (ac (hB_) hb); (try clear hb)) | ((with_reducible refine ae (f := 87) rfl ?_); refine aq (some 15) rfl rfl Tryz.func87 (by kernel_rfl) rfl #[.agg #[.string e0, .int .i64 f0], .int .i64 a1] rfl aM_ ?_; (with_reducible refine (ao.calls k e0 f0 a1 u0 v0 x0 _ A6.out).mono ?_); rintro e w8 ⟨rfl, hb⟩; refine ⟨_, rfl, ?_⟩; replace HB := aa.mk (ac (hB_) hb); (try clear hb)) | ((with_reducible refine aI (N := 6) rfl ?_); refine cn ?hg (N := 6) ?hd (cs := #[.string (⟨#[]⟩ : ByteArray), .int .i64 0]) (t := 80) ?hr ?_; (case hd => rfl); (case hg => rfl); (case hr => first | (go_simp; done) | (go_simp; rfl)); intro b0 hg w9 hbox hb; have n_ := b_ (ac (hB_) hb) <| b_ (hbox) <| b_ (by rw [hg]; exact (ab (hB_)) : w.heap.size ≤ b0) <| c_ (by rw [hg]; exact (ab (hB_)) : w.heap.size ≤ b0); clear HB; obtain ⟨HB, d0, y0, j0⟩ := n_; clear hb hbox hg; have k0 : w9.cell? ⟨b0, 0, none⟩ = some (.string (⟨#[]⟩ : ByteArray)) := (au d0.out 0).trans rfl; have p0 : w9.cell? ⟨b0, 1, none⟩ = some (.int .i64 0) := (au d0.out 1).trans rfl; have q0 := aj d0.out 0; have r0 := aj d0.out 1))
  go_ret2
  exact ⟨f1_, hS_ j0.out⟩
 ·replace c4 := ya c4
  subst c4
  replace H := iF_ H
  simp only [Option.some.injEq, Prod.mk.injEq] at H
  obtain ⟨rfl, rfl⟩ := H
  go_enter Tryz.func72, Tryz.ntmps72
  go_wp2_with (first | ((with_reducible refine ae (f := 85) rfl ?_); refine aq (some 9) rfl rfl Tryz.func85 (by kernel_rfl) rfl #[.int .i64 a1, .int .i64 0, .int .i64 4000] rfl aM_ ?_; (with_reducible refine (bO.calls a1 0 4000 false _ A3.out).mono ?_); rintro e w' ⟨rfl, ⟨nd, rfl⟩⟩; refine ⟨_, rfl, ?_⟩))
  go_ret2
  exact ⟨f1_, hB_⟩

/-! ### bE: function 37 -/
def bE.l0 : Nat → ByteArray → List Int → Int → Int → Option (List Int)
 | 0, _, _, _, _ => none
 | k + 1, x5, x7, x20, x21 => if x21 < x20 then (if 0 ≤ (wrap64 (Int.tdiv x21 2)) then (if (wrap64 (Int.tdiv x21 2)) < (x5.size : Int) then (if 0 ≤ (wrap64 (4 * (Int.tmod x21 2))) then ((bS.f (wrap64 ((wrap64 ((wrap64 ((Go.bits .and .i64 (wrap64 (shr .u8 (bt x5 (wrap64 (Int.tdiv x21 2))) (wrap64 (4 * (Int.tmod x21 2))))) 1) + (Go.bits .and .i64 ((wrap64 (shr .u8 (bt x5 (wrap64 (Int.tdiv x21 2))) (wrap64 (4 * (Int.tmod x21 2))))) / 2) 1))) - (Go.bits .and .i64 ((wrap64 (shr .u8 (bt x5 (wrap64 (Int.tdiv x21 2))) (wrap64 (4 * (Int.tmod x21 2))))) / 4) 1))) - (Go.bits .and .i64 ((wrap64 (shr .u8 (bt x5 (wrap64 (Int.tdiv x21 2))) (wrap64 (4 * (Int.tmod x21 2))))) / 8) 1)))).bind fun t646 => (if 0 ≤ x21 then (if x21 < (x7.length : Int) then (bE.l0 k x5 (x7.set (x21 : Int).toNat t646) x20 (wrap64 (x21 + 1))) else (none)) else (none))) else (none)) else (none)) else (none)) else (some x7)
def bE.f (k : Nat) (a0 : ByteArray) (a1 : Int) : Option (List Int) := (cA.f a1).bind fun t640 => (if a0.size + t640.size ≤ 9223372036854775807 then ((cF.f k (a0 ++ t640) 128).bind fun bt641 => (if 256 ≤ 35184372088832 then ((some (List.replicate 256 0 : List Int)).bind fun y643 => (bE.l0 k bt641.1 y643 (y643.length : Int) 0)) else (none))) else (none))
theorem bE.mono_l : ∀ k, (∀ y0 y1 y2 y3, LeO (bE.l0 k y0 y1 y2 y3) (bE.l0 (k + 1) y0 y1 y2 y3))
 | 0 => fun _ _ _ _ r h => by simp [bE.l0] at h
 | k + 1 => by
  have ih0 := bE.mono_l k
  intros; unfold bE.l0; exact o2_ ih0 cF.mono
theorem bE.mono : ∀ a0 a1 k, LeO (bE.f k a0 a1) (bE.f (k + 1) a0 a1) := by
 intro a0 a1 k
 have ih0 := bE.mono_l k
 unfold bE.f
 exact o2_ ih0 cF.mono
theorem bE.calls (k : Nat) (a0 : ByteArray) (a1 : Int) (r : List Int) (w : World) (h : bE.f k a0 a1 = some r) :
  Calls Tryz.prog 37 #[.string a0, .int .i64 a1] w fun e w' => ∃ c1 : Value, e = .returned (c1) ∧ Kd.R (Kd.int .i64) 3 w' w.heap.size (fun _ => True) c1 r ∧ Below w.heap.size w w' := by
 have HB := aa.mk (xa w.heap.size w)
 delta bE.f at h
 have H := h
 clear h
 obtain ⟨C0, A3, H⟩ := bN_ H
 obtain ⟨c4, H⟩ := iN_ H
 have n1 := va c4
 have p1 := ta c4
 try have q1 : (9223372036854775807 < a0.size + C0.size) = False := eq_false (Nat.not_lt.2 c4)
 obtain ⟨⟨p0, P0⟩, A5, H⟩ := bN_ H
 obtain ⟨c6, H⟩ := iN_ H
 have r1 := va c6
 have t1 := ta c6
 clear c6
 obtain ⟨D0, r0⟩ : ∃ y_ : List Int, y_ = (List.replicate 256 0) := ⟨_, rfl⟩
 first | replace H := yb_ r0 H | rw [← r0] at H
 have F0 := aa.mk r0
 clear r0
 have H' := aa.mk H
 clear H
 go_enter Tryz.func37, Tryz.ntmps37
 go_wp2_with (first | ((with_reducible refine ae (f := 73) rfl ?_); refine aq (some 13) rfl rfl Tryz.func73 (by kernel_rfl) rfl #[.int .i64 a1] rfl aM_ ?_; (with_reducible refine (cA.calls a1 C0 _ A3.out).mono ?_); rintro e w7 ⟨rfl, hb⟩; refine ⟨_, rfl, ?_⟩; replace HB := aa.mk (ac (hB_) hb); (try clear hb)) | ((with_reducible refine ae (f := 72) rfl ?_); refine aq (some 15) rfl rfl Tryz.func72 (by kernel_rfl) rfl #[.string (a0 ++ C0), .int .i64 128] rfl aM_ ?_; (with_reducible refine (cF.calls k (a0 ++ C0) 128 p0 P0 _ A5.out).mono ?_); rintro e w8 ⟨rfl, hb⟩; refine ⟨_, rfl, ?_⟩; replace HB := aa.mk (ac (hB_) hb); (try clear hb)) | ((with_reducible refine aI (N := 18) rfl ?_); refine Kd.R_make (Kd.int .i64) _ 3 rfl (N := 18) rfl 38 _ _ rfl 256 rfl rfl Tryz.underlying38 (.int .i64 0) 8 cS rfl (by decide) (by omega) 0 (ok := fun _ => True) (okp := fun _ => True) rfl (fun _ hk => hk) trivial (by omega) (by omega) (xa _ _) (wa _) ?_; intro y1 w9 u0 hb hg_ hnew_; clear hg_ hnew_; (first | rw [← F0.out] at u0 | (simp only [Int.reduceToNat] at u0; rw [← F0.out] at u0)); have n_ := b_ (Kd.R_lower u0 (ab (hB_))) <| c_ (ac (hB_) hb); clear HB; obtain ⟨G0, HB⟩ := n_; clear hb u0; obtain ⟨J0, H0, Q0⟩ := Kd.R_slice G0.out; subst Q0))
 go_loopg [21] k (fun kq z1 w' => ∃ (j0 : List Int) (b0 : Int), z1 = .int .i64 b0 ∧ aa (bE.l0 kq p0 j0 (D0.length : Int) b0 = some r) ∧ aa (kq ≤ k) ∧ aa (Kd.R (Kd.int .i64) 3 w' w.heap.size (fun _ => True) (.slice J0 D0.length H0) j0) ∧ aa (Below w.heap.size w w'))
 case atStart => exact ⟨(D0), (0), f0_, H', ⟨wa _⟩, ⟨rR_ G0.out⟩, ⟨hB_⟩⟩
 clear H'
 obtain ⟨j0, b0, rfl, HA, d1, d0, HB⟩ := hrel
 have e0 := (Kd.R_reads' d0.out).1
 rw [e0] at d0
 (try simp only [e0])
 rcases gk with _ | k1
 ·exact absurd HA.out (by simp [bE.l0])
 have H := HA.out
 clear HA
 simp only [bE.l0] at H
 by_cases I0 : b0 < (D0.length : Int)
 rotate_left
 ·rw [Aa I0] at H
  have v0 := ua I0
  (try simp only [e0] at v0)
  clear I0
  obtain rfl := sI H
  go_wp2
  go_ret
  exact ⟨_, f1_, rR_ d0.out, hB_⟩
 rw [za I0] at H
 have v0 := ta I0
 (try simp only [e0] at v0)
 clear I0
 obtain ⟨q0, x0⟩ : ∃ j_ : Int, (wrap64 (Int.tdiv b0 2)) = j_ := ⟨_, rfl⟩
 first | rw [x0] at H | simp only [x0] at H
 have R0 : (IntKind.i64.wrap (Int.tdiv b0 2)) = q0 := (bB _).trans x0
 obtain ⟨e1, H⟩ := iD_ H
 obtain ⟨f1, H⟩ := iD_ H
 obtain ⟨y0, B0⟩ : ∃ j_ : Int, (wrap64 (4 * (Int.tmod b0 2))) = j_ := ⟨_, rfl⟩
 first | rw [B0] at H | simp only [B0] at H
 have S0 : (IntKind.i64.wrap (4 * (Int.tmod b0 2))) = y0 := (bB _).trans B0
 obtain ⟨T0, H⟩ := iN_ H
 have g1 := va T0
 have i1 := ta T0
 clear T0
 obtain ⟨f0, k0⟩ : ∃ j_ : Int, (shr .u8 (bt p0 (q0)) (y0)) = j_ := ⟨_, rfl⟩
 first | rw [k0] at H | simp only [k0] at H
 have U0 : ((bt p0 (q0)) / 2 ^ min (y0).toNat 8) = f0 := k0
 have V0 : (y0) ≤ 8 → ((bt p0 (q0)) / 2 ^ (y0).toNat) = f0 := fv k0
 obtain ⟨E0, A1, H⟩ := bN_ H
 obtain ⟨j1, H⟩ := iD_ H
 obtain ⟨l1, H⟩ := iN_ H
 have K0 := ta l1
 (try simp only [e0] at K0)
 clear l1
 obtain ⟨L0, t0⟩ : ∃ y_ : List Int, y_ = (j0.set (b0 : Int).toNat E0) := ⟨_, rfl⟩
 first | replace H := yb_ t0 H | rw [← t0] at H
 have M0 := aa.mk t0
 clear t0
 have H' := aa.mk H
 clear H
 have D1 := va (oD_ : 0 ≤ ((q0) : Int))
 have E1 := va (oD_ : (q0) < (p0.size : Int))
 have B1 := cB p0 (q0)
 go_wp2_with (first | ((with_reducible refine ae (f := 68) rfl ?_); refine aq (some 49) rfl rfl Tryz.func68 (by kernel_rfl) rfl #[.int .i64 (wrap64 ((wrap64 ((wrap64 ((Go.bits .and .i64 (wrap64 (f0)) 1) + (Go.bits .and .i64 ((wrap64 (f0)) / 2) 1))) - (Go.bits .and .i64 ((wrap64 (f0)) / 4) 1))) - (Go.bits .and .i64 ((wrap64 (f0)) / 8) 1)))] rfl (by (try simp only [List.map_toArray, List.map_cons, List.map_nil]); first | done | (simp only [k0]; rfl) | rfl | (simp only [List.length_drop, List.length_take]; rfl)) ?_; (with_reducible refine (bS.calls (wrap64 ((wrap64 ((wrap64 ((Go.bits .and .i64 (wrap64 (f0)) 1) + (Go.bits .and .i64 ((wrap64 (f0)) / 2) 1))) - (Go.bits .and .i64 ((wrap64 (f0)) / 4) 1))) - (Go.bits .and .i64 ((wrap64 (f0)) / 8) 1))) E0 _ A1.out).mono ?_); rintro e w' ⟨rfl, ⟨nd, rfl⟩⟩; refine ⟨_, rfl, ?_⟩; (try (rw [cU wr]; generalize hq_ : World.drewN wr _ = wr; have n_ := b_ (show Kd.R (Kd.int .i64) 3 wr w.heap.size (fun _ => True) (.slice J0 j0.length H0) j0 from by rw [← hq_]; exact (rR_ d0.out)) <| c_ (show Below w.heap.size w wr from by rw [← hq_]; exact (hB_)); clear d0 HB hq_; obtain ⟨d0, HB⟩ := n_)); have W0 : 0 ≤ (b0 : Int) := oD_; have X0 : (b0 : Int) < ((j0.length : Int) : Int) := oD_; obtain ⟨go23, C1, N0, O0, gl23, cl23, HG23⟩ := Kd.R_form d0.out (by omega); (first | cases N0 | (injection N0 with ea_ en_ ec_; (first | subst ea_ | (injection ea_ with ea_; subst ea_)); subst ec_; clear en_)); have Y0 := aa.mk O0; have GG23 := aa.mk HG23; clear O0 gl23 HG23; obtain ⟨Z0, hf23_0⟩ := Kd.R_celln 0 d0.out (b0 : Int) W0 X0; replace W0 := va W0; replace X0 := va X0; obtain ⟨m1, hz24_⟩ := Kd.R_celln 0 d0.out (b0 : Int) oD_ oD_; have HP24 := Kd.R_putg d0.out (b0 : Int) E0) | ((with_reducible refine cm (t := 3) (p := 50) rfl ?_); refine b9 (t := 3) (p := 50) (v := ?vo_w25) (w1 := (wr.setCell ⟨go23, (b0 : Int).toNat, none⟩ (.int .i64 E0))) ?hg ?ho ?hn ?hr ?_; (case ho => rfl); (case hg => rfl); (case hn => rfl); (case hr => first | (go_simp; done) | (go_simp; rfl)); intro b1 hw; have hg : wr.grownBy b1 (some go23) := (by rw [hw]; exact HP24.2); have hp_ : Kd.R (Kd.int .i64) 3 b1 w.heap.size (fun _ => True) (.slice (some ⟨go23, 0, none⟩) j0.length H0) L0 := (by rw [hw, M0.out]; exact HP24.1); clear HP24; have n_ := b_ (hp_) <| c_ (by rw [hw]; exact co (HB.out) Y0.out : Below w.heap.size w b1); clear d0 HB; obtain ⟨d0, HB⟩ := n_; clear hg hw hp_))
 (try simp only [← e0])
 go_roundg k1
 case measure => have := d1.out; omega
 case rel => exact ⟨(L0), (wrap64 (b0 + 1)), f0_, H', ⟨by have := d1.out; omega⟩, ⟨by (try simp only [e0]); refine kR_ ?_; exact d0.out⟩, ⟨hB_⟩⟩

/-! ### bC: function 30 -/
def bC.l0 : Nat → ByteArray → Int → List (List Int) → Int → Option ((List (List Int)))
 | 0, _, _, _, _ => none
 | k + 1, x0, x1, x5, x7 => if x7 < 2 then ((bE.f k x0 (wrap64 (x1 + x7))).bind fun t648 => (if x5.length < 5864062014805 then (bC.l0 k x0 x1 (x5 ++ [t648]) (wrap64 (x7 + 1))) else (none))) else (some x5)
def bC.f (k : Nat) (a0 : ByteArray) (a1 : Int) : Option ((List (List Int))) := bC.l0 k a0 a1 ([] : List (List Int)) 0
theorem bC.mono_l : ∀ k, (∀ y0 y1 y2 y3, LeO (bC.l0 k y0 y1 y2 y3) (bC.l0 (k + 1) y0 y1 y2 y3))
 | 0 => fun _ _ _ _ r h => by simp [bC.l0] at h
 | k + 1 => by
  have ih0 := bC.mono_l k
  intros; unfold bC.l0; exact o2_ ih0 bE.mono
theorem bC.mono : ∀ a0 a1 k, LeO (bC.f k a0 a1) (bC.f (k + 1) a0 a1) := by
 intro a0 a1 k
 have ih0 := bC.mono_l k
 unfold bC.f
 exact o2_ ih0 bE.mono
theorem bC.calls (k : Nat) (a0 : ByteArray) (a1 : Int) (r : List (List Int)) (w : World) (h : bC.f k a0 a1 = some r) :
  Calls Tryz.prog 30 #[.string a0, .int .i64 a1] w fun e w' => ∃ v0 : Value, e = .returned (v0) ∧ Kd.S (Kd.slice 3 (Kd.int .i64)) 38 w' w.heap.size (fun _ => True) v0 r ∧ Below w.heap.size w w' := by
 have HB := aa.mk (xa w.heap.size w)
 delta bC.f at h
 have H := h
 clear h
 have H' := aa.mk H
 clear H
 go_enter Tryz.func30, Tryz.ntmps30
 go_wp2
 go_loopg [5, 7] k (fun kq v5 v7 w' => ∃ (j0 : List (List Int)) (d0 : Int), v7 = .int .i64 d0 ∧ aa (bC.l0 kq a0 a1 j0 d0 = some r) ∧ aa (kq ≤ k) ∧ aa (Kd.S (Kd.slice 3 (Kd.int .i64)) 38 w' w.heap.size (fun _ => True) v5 j0) ∧ aa (Below w.heap.size w w'))
 case atStart => exact ⟨(([] : List (List Int))), (0), f0_, H', ⟨wa _⟩, ⟨by first | exact Kd.S_nil _ _ _ _ _ | exact Kd.N_nil _ _ _ _ _ | exact Kd.V_nil _ _ _ _ _ | exact Kd.Q_nil _ _ _ _ _ | exact Kd.R_nil _ _ _ _ _⟩, ⟨hB_⟩⟩
 clear H'
 obtain ⟨j0, d0, rfl, HA, x0, b0, HB⟩ := hrel
 rcases gk with _ | k1
 ·exact absurd HA.out (by simp [bC.l0])
 have H := HA.out
 clear HA
 simp only [bC.l0] at H
 by_cases c3 : d0 < 2
 ·rw [za c3] at H
  have r0 := ta c3
  clear c3
  obtain ⟨k0, A4, H⟩ := bN_ H
  obtain ⟨c5, H⟩ := iN_ H
  have t0 := aa.mk c5
  clear c5
  obtain ⟨u0, e0⟩ : ∃ y_ : List (List Int), y_ = (j0 ++ [k0]) := ⟨_, rfl⟩
  first | replace H := yb_ e0 H | rw [← e0] at H
  have p0 := aa.mk e0
  clear e0
  have H' := aa.mk H
  clear H
  go_wp2_with (first | ((with_reducible refine ae (f := 37) rfl ?_); refine aq (some 15) rfl rfl Tryz.func37 (by kernel_rfl) rfl #[.string a0, .int .i64 (wrap64 (a1 + d0))] rfl aM_ ?_; (with_reducible refine (bE.calls k1 a0 (wrap64 (a1 + d0)) k0 _ A4.out).mono ?_); rintro e w6 ⟨D0, rfl, y0, hb⟩; refine ⟨_, rfl, ?_⟩; have n_ := b_ (Kd.S_elder' (rS_ b0.out) (Kd.R_base y0) hb) <| b_ (Kd.R_lower y0 (ab (hB_))) <| c_ (ac (hB_) hb); clear b0 HB; obtain ⟨b0, f0, HB⟩ := n_; obtain ⟨B0, C0, E0⟩ := Kd.R_slice f0.out; subst E0) | ((with_reducible refine aV (b := .append) (xs := #[.tmp 10, .tmp 16]) rfl ?_); at_builtin; refine Kd.S_append (Kd.slice 3 (Kd.int .i64)) (w0 := w) w.heap.size rfl (.tmp 10) (.tmp 16) 34 38 (.slice none 0 0) 24 rfl Tryz.underlying34 gK rfl (by decide) (by omega) u5 j0 k0 [.slice B0 k0.length C0] (fun _ => True) (fun k_ => some k_ = (.slice B0 k0.length C0 : Value).ownBlock) rfl rfl ?aP (fun k_ hk_ => ((Kd.R_mono (ok' := fun k_ => ((fun _ => True)) k_ ∧ some k_ ≠ (u5 : Value).ownBlock) (Kd.R_apart' (f0.out) (Kd.S_typed b0.out) (by decide)) (fun k_ hk => ⟨trivial, hk.2⟩))).1 k_ hk_.symm) ?aF ?aO ?aB ?aS ?aL ?_; (case aP => exact Kd.M_row (Kd.R_mono (Kd.R_tight rfl (Kd.R_mono (ok' := fun k_ => ((fun _ => True)) k_ ∧ some k_ ≠ (u5 : Value).ownBlock) (Kd.R_apart' (f0.out) (Kd.S_typed b0.out) (by decide)) (fun k_ hk => ⟨trivial, hk.2⟩))) (fun _ h_ => h_))); (case aB => exact (hB_)); (case aF => exact (fun _ _ => trivial)); (case aO => exact (by refine kS_ ?_; exact Kd.S_mono b0.out (fun k_ hk => ⟨trivial, fun e_ => hk.2 e_⟩))); (case aS => exact (ab (hB_))); (case aL => have := t0.out; omega); intro F0 w7 ho hb hg hat; rw [← p0.out] at ho; have n_ := b_ (hb) <| c_ (ho); clear b0 f0 HB; obtain ⟨HB, q0⟩ := n_; clear ho hb hg hat))
  go_roundg k1
  case measure => have := x0.out; omega
  case rel => exact ⟨(u0), (wrap64 (d0 + 1)), f0_, H', ⟨by have := x0.out; omega⟩, ⟨rS_ q0.out⟩, ⟨hB_⟩⟩
 rw [Aa c3] at H
 have r0 := ua c3
 clear c3
 obtain rfl := sI H
 go_wp2
 go_ret
 exact ⟨_, f1_, by refine kS_ ?_; exact b0.out, hB_⟩

/-! ### ap: function 70 -/
mutual
def ap.l0 : Nat → List Int → Int → Int → ByteArray → Int → Option (List Int)
 | 0, _, _, _, _, _ => none
 | k + 1, x8, x9, x10, x714000, x714001 => if x10 < 4000 then (ap.j1 k x8 x9 x10 (decide (x9 < 256)) x714000 x714001) else (ap.j1 k x8 x9 x10 false x714000 x714001)
def ap.j1 : Nat → List Int → Int → Int → Bool → ByteArray → Int → Option (List Int)
 | 0, _, _, _, _, _, _ => none
 | k + 1, x8, x9, x10, x32, x714000, x714001 => if x32 = true then ((ao.f k x714000 x714001 3).bind fun bt717 => (if 0 < (bt717.2.2.size : Int) then (if 1 < (bt717.2.2.size : Int) then (if 2 < (bt717.2.2.size : Int) then ((some (([wrap64 ((wrap64 (bt bt717.2.2 0)) + (wrap64 ((Int.tmod (wrap64 (bt bt717.2.2 1)) 16) * 256))), wrap64 ((wrap64 (Int.tdiv (wrap64 (bt bt717.2.2 1)) 16)) + (wrap64 (16 * (wrap64 (bt bt717.2.2 2)))))] : List Int) : List Int)).bind fun y721 => (ap.l1 k x8 x9 x10 y721 (y721.length : Int) 0 bt717.1 bt717.2.1)) else (none)) else (none)) else (none))) else (some x8)
def ap.l1 : Nat → List Int → Int → Int → List Int → Int → Int → ByteArray → Int → Option (List Int)
 | 0, _, _, _, _, _, _, _, _ => none
 | k + 1, x8, x9, x10, x60, x61, x62, x714000, x714001 => if x62 < x61 then (if 0 ≤ x62 then (if x62 < (x60.length : Int) then (if (rd x60 x62) < 3329 then (if x9 < 256 then (if 0 ≤ x9 then (if x9 < (x8.length : Int) then (ap.l1 k (x8.set (x9 : Int).toNat (rd x60 x62)) (wrap64 (x9 + 1)) x10 x60 x61 (wrap64 (x62 + 1)) x714000 x714001) else (none)) else (none)) else (ap.l1 k x8 x9 x10 x60 x61 (wrap64 (x62 + 1)) x714000 x714001)) else (ap.l1 k x8 x9 x10 x60 x61 (wrap64 (x62 + 1)) x714000 x714001)) else (none)) else (none)) else (ap.l0 k x8 x9 (wrap64 (x10 + 1)) x714000 x714001)
end
def ap.f (k : Nat) (a0 : ByteArray) (a1 : Int) (a2 : Int) : Option (List Int) := (cA.f a1).bind fun t709 => (if a0.size + t709.size ≤ 9223372036854775807 then ((cA.f a2).bind fun t710 => (if (a0 ++ t709).size + t710.size ≤ 9223372036854775807 then ((bR.f k ((a0 ++ t709) ++ t710)).bind fun bt711 => (if 256 ≤ 35184372088832 then (ap.l0 k (List.replicate 256 0) 0 0 bt711.1 bt711.2) else (none))) else (none))) else (none))
theorem ap.mono_l : ∀ k, (∀ y0 y1 y2 y3 y4, LeO (ap.l0 k y0 y1 y2 y3 y4) (ap.l0 (k + 1) y0 y1 y2 y3 y4)) ∧ (∀ y0 y1 y2 y3 y4 y5, LeO (ap.j1 k y0 y1 y2 y3 y4 y5) (ap.j1 (k + 1) y0 y1 y2 y3 y4 y5)) ∧ (∀ y0 y1 y2 y3 y4 y5 y6 y7, LeO (ap.l1 k y0 y1 y2 y3 y4 y5 y6 y7) (ap.l1 (k + 1) y0 y1 y2 y3 y4 y5 y6 y7))
 | 0 => ⟨fun _ _ _ _ _ r h => by simp [ap.l0] at h, fun _ _ _ _ _ _ r h => by simp [ap.j1] at h, fun _ _ _ _ _ _ _ _ r h => by simp [ap.l1] at h⟩
 | k + 1 => by
  obtain ⟨ih0, ih1, ih2⟩ := ap.mono_l k
  refine ⟨?_, ?_, ?_⟩ <;> (intros; (first | unfold ap.l0 | unfold ap.j1 | unfold ap.l1); exact o5_ ih0 ih1 ih2 bR.mono ao.mono)
theorem ap.mono : ∀ a0 a1 a2 k, LeO (ap.f k a0 a1 a2) (ap.f (k + 1) a0 a1 a2) := by
 intro a0 a1 a2 k
 obtain ⟨ih0, ih1, ih2⟩ := ap.mono_l k
 unfold ap.f
 exact o5_ ih0 ih1 ih2 bR.mono ao.mono
theorem ap.calls (k : Nat) (a0 : ByteArray) (a1 : Int) (a2 : Int) (r : List Int) (w : World) (h : ap.f k a0 a1 a2 = some r) :
  Calls Tryz.prog 70 #[.string a0, .int .i64 a1, .int .i64 a2] w fun e w' => ∃ G2 : Value, e = .returned (G2) ∧ Kd.R (Kd.int .i64) 3 w' w.heap.size (fun _ => True) G2 r ∧ Below w.heap.size w w' := by
 have hu80 := Tryz.underlying80
 have HB := aa.mk (xa w.heap.size w)
 delta ap.f at h
 have H := h
 clear h
 obtain ⟨P0, A4, H⟩ := bN_ H
 obtain ⟨c5, H⟩ := iN_ H
 have e3 := va c5
 have f3 := ta c5
 try have g3 : (9223372036854775807 < a0.size + P0.size) = False := eq_false (Nat.not_lt.2 c5)
 obtain ⟨S0, A6, H⟩ := bN_ H
 obtain ⟨c7, H⟩ := iN_ H
 have i3 := va c7
 have l3 := ta c7
 try have z2 : (9223372036854775807 < (a0 ++ P0).size + S0.size) = False := eq_false (Nat.not_lt.2 c7)
 try (have A2 : (9223372036854775807 < (a0 ++ P0).size + S0.size) = False := z2; simp only [ByteArray.size_append] at A2)
 obtain ⟨⟨L0, W0⟩, A8, H⟩ := bN_ H
 try dsimp only at H
 obtain ⟨c9, H⟩ := iN_ H
 have m3 := va c9
 have n3 := ta c9
 clear c9
 obtain ⟨B2, Y0⟩ : ∃ y_ : List Int, y_ = (List.replicate 256 0) := ⟨_, rfl⟩
 first | replace H := yb_ Y0 H | rw [← Y0] at H
 have M0 := aa.mk Y0
 clear Y0
 have H' := aa.mk H
 clear H
 go_enter Tryz.func70, Tryz.ntmps70
 go_wp2_with (first | (go_at_call 73; (with_reducible refine (cA.calls a1 P0 _ A4.out).mono ?_); rintro e H2 ⟨rfl, hb⟩; replace HB := aa.mk (ac (hB_) hb); (try clear hb)) | (go_at_call 73; (with_reducible refine (cA.calls a2 S0 _ A6.out).mono ?_); rintro e I2 ⟨rfl, hb⟩; replace HB := aa.mk (ac (hB_) hb); (try clear hb)) | (go_at_call 86; (with_reducible refine (bR.calls k ((a0 ++ P0) ++ S0) L0 W0 _ A8.out).mono ?_); rintro e J2 ⟨rfl, hb⟩; replace HB := aa.mk (ac (hB_) hb); (try clear hb)) | ((with_reducible refine aI (N := 7) rfl ?_); refine cn ?hg (N := 7) ?hd (cs := #[.string (⟨#[]⟩ : ByteArray), .int .i64 0]) (t := 80) ?hr ?_; (case hd => rfl); (case hg => rfl); (case hr => first | (go_simp; done) | (go_simp; rfl)); intro j0 hg M1 hbox hb; have n_ := b_ (ac (hB_) hb) <| b_ (hbox) <| b_ (by rw [hg]; exact (ab (hB_)) : w.heap.size ≤ j0) <| c_ (by rw [hg]; exact (ab (hB_)) : w.heap.size ≤ j0); clear HB; obtain ⟨HB, b0, N1, q0⟩ := n_; clear hb hbox hg; have Z0 : M1.cell? ⟨j0, 0, none⟩ = some (.string (⟨#[]⟩ : ByteArray)) := (au b0.out 0).trans rfl; have b1 : M1.cell? ⟨j0, 1, none⟩ = some (.int .i64 0) := (au b0.out 1).trans rfl; have c1 := aj b0.out 0; have d1 := aj b0.out 1) | ((with_reducible refine aI (N := 26) rfl ?_); refine Kd.R_make (Kd.int .i64) _ 3 rfl (N := 26) rfl 38 _ _ rfl 256 rfl rfl Tryz.underlying38 (.int .i64 0) 8 cS rfl (by decide) (by omega) 0 (ok := fun _ => True) (okp := fun _ => True) rfl (fun _ hk => hk) trivial (by omega) (by omega) (xa _ _) (wa _) ?_; intro A1 K2 G0 hb hg_ hnew_; clear hg_ hnew_; (first | rw [← M0.out] at G0 | (simp only [Int.reduceToNat] at G0; rw [← M0.out] at G0)); have n_ := b_ (Kd.R_lower G0 (ab (hS_ q0.out))) <| b_ (bG (g := j0) (o := .cells #[.string L0, .int .i64 W0] 80 (0, 0)) (by refine kK_ ?_; refine bV (cs := #[.string L0, .int .i64 0]) ?_ 1 _ rfl; refine kK_ ?_; refine bV (cs := #[.string (⟨#[]⟩ : ByteArray), .int .i64 0]) ?_ 0 _ rfl; exact rK_ b0.out) hb) <| c_ (ac (hS_ q0.out) hb); clear b0 HB; obtain ⟨D1, b0, HB⟩ := n_; clear hb G0))
 repeat (go_quiet (first | (go_at_call 73; (with_reducible refine (cA.calls a1 P0 _ A4.out).mono ?_); rintro e H2 ⟨rfl, hb⟩; replace HB := aa.mk (ac (hB_) hb); (try clear hb)) | (go_at_call 73; (with_reducible refine (cA.calls a2 S0 _ A6.out).mono ?_); rintro e I2 ⟨rfl, hb⟩; replace HB := aa.mk (ac (hB_) hb); (try clear hb)) | (go_at_call 86; (with_reducible refine (bR.calls k ((a0 ++ P0) ++ S0) L0 W0 _ A8.out).mono ?_); rintro e J2 ⟨rfl, hb⟩; replace HB := aa.mk (ac (hB_) hb); (try clear hb)) | ((with_reducible refine aI (N := 7) rfl ?_); refine cn ?hg (N := 7) ?hd (cs := #[.string (⟨#[]⟩ : ByteArray), .int .i64 0]) (t := 80) ?hr ?_; (case hd => rfl); (case hg => rfl); (case hr => first | (go_simp; done) | (go_simp; rfl)); intro j0 hg M1 hbox hb; have n_ := b_ (ac (hB_) hb) <| b_ (hbox) <| b_ (by rw [hg]; exact (ab (hB_)) : w.heap.size ≤ j0) <| c_ (by rw [hg]; exact (ab (hB_)) : w.heap.size ≤ j0); clear HB; obtain ⟨HB, b0, N1, q0⟩ := n_; clear hb hbox hg; have Z0 : M1.cell? ⟨j0, 0, none⟩ = some (.string (⟨#[]⟩ : ByteArray)) := (au b0.out 0).trans rfl; have b1 : M1.cell? ⟨j0, 1, none⟩ = some (.int .i64 0) := (au b0.out 1).trans rfl; have c1 := aj b0.out 0; have d1 := aj b0.out 1) | ((with_reducible refine aI (N := 26) rfl ?_); refine Kd.R_make (Kd.int .i64) _ 3 rfl (N := 26) rfl 38 _ _ rfl 256 rfl rfl Tryz.underlying38 (.int .i64 0) 8 cS rfl (by decide) (by omega) 0 (ok := fun _ => True) (okp := fun _ => True) rfl (fun _ hk => hk) trivial (by omega) (by omega) (xa _ _) (wa _) ?_; intro A1 K2 G0 hb hg_ hnew_; clear hg_ hnew_; (first | rw [← M0.out] at G0 | (simp only [Int.reduceToNat] at G0; rw [← M0.out] at G0)); have n_ := b_ (Kd.R_lower G0 (ab (hS_ q0.out))) <| b_ (bG (g := j0) (o := .cells #[.string L0, .int .i64 W0] 80 (0, 0)) (by refine kK_ ?_; refine bV (cs := #[.string L0, .int .i64 0]) ?_ 1 _ rfl; refine kK_ ?_; refine bV (cs := #[.string (⟨#[]⟩ : ByteArray), .int .i64 0]) ?_ 0 _ rfl; exact rK_ b0.out) hb) <| c_ (ac (hS_ q0.out) hb); clear b0 HB; obtain ⟨D1, b0, HB⟩ := n_; clear hb G0)); try go_wp2_with (first | (go_at_call 73; (with_reducible refine (cA.calls a1 P0 _ A4.out).mono ?_); rintro e H2 ⟨rfl, hb⟩; replace HB := aa.mk (ac (hB_) hb); (try clear hb)) | (go_at_call 73; (with_reducible refine (cA.calls a2 S0 _ A6.out).mono ?_); rintro e I2 ⟨rfl, hb⟩; replace HB := aa.mk (ac (hB_) hb); (try clear hb)) | (go_at_call 86; (with_reducible refine (bR.calls k ((a0 ++ P0) ++ S0) L0 W0 _ A8.out).mono ?_); rintro e J2 ⟨rfl, hb⟩; replace HB := aa.mk (ac (hB_) hb); (try clear hb)) | ((with_reducible refine aI (N := 7) rfl ?_); refine cn ?hg (N := 7) ?hd (cs := #[.string (⟨#[]⟩ : ByteArray), .int .i64 0]) (t := 80) ?hr ?_; (case hd => rfl); (case hg => rfl); (case hr => first | (go_simp; done) | (go_simp; rfl)); intro j0 hg M1 hbox hb; have n_ := b_ (ac (hB_) hb) <| b_ (hbox) <| b_ (by rw [hg]; exact (ab (hB_)) : w.heap.size ≤ j0) <| c_ (by rw [hg]; exact (ab (hB_)) : w.heap.size ≤ j0); clear HB; obtain ⟨HB, b0, N1, q0⟩ := n_; clear hb hbox hg; have Z0 : M1.cell? ⟨j0, 0, none⟩ = some (.string (⟨#[]⟩ : ByteArray)) := (au b0.out 0).trans rfl; have b1 : M1.cell? ⟨j0, 1, none⟩ = some (.int .i64 0) := (au b0.out 1).trans rfl; have c1 := aj b0.out 0; have d1 := aj b0.out 1) | ((with_reducible refine aI (N := 26) rfl ?_); refine Kd.R_make (Kd.int .i64) _ 3 rfl (N := 26) rfl 38 _ _ rfl 256 rfl rfl Tryz.underlying38 (.int .i64 0) 8 cS rfl (by decide) (by omega) 0 (ok := fun _ => True) (okp := fun _ => True) rfl (fun _ hk => hk) trivial (by omega) (by omega) (xa _ _) (wa _) ?_; intro A1 K2 G0 hb hg_ hnew_; clear hg_ hnew_; (first | rw [← M0.out] at G0 | (simp only [Int.reduceToNat] at G0; rw [← M0.out] at G0)); have n_ := b_ (Kd.R_lower G0 (ab (hS_ q0.out))) <| b_ (bG (g := j0) (o := .cells #[.string L0, .int .i64 W0] 80 (0, 0)) (by refine kK_ ?_; refine bV (cs := #[.string L0, .int .i64 0]) ?_ 1 _ rfl; refine kK_ ?_; refine bV (cs := #[.string (⟨#[]⟩ : ByteArray), .int .i64 0]) ?_ 0 _ rfl; exact rK_ b0.out) hb) <| c_ (ac (hS_ q0.out) hb); clear b0 HB; obtain ⟨D1, b0, HB⟩ := n_; clear hb G0)))
 go_loopg [9, 10] k (fun kq v9 p3 w' => ∃ (B1 : List Int) (C1 : Int) (I0 : Int) (f0 : ByteArray) (e0 : Int), v9 = .int .i64 C1 ∧ p3 = .int .i64 I0 ∧ aa (ap.l0 kq B1 C1 I0 f0 e0 = some r) ∧ aa (kq ≤ k) ∧ aa (Kd.R (Kd.int .i64) 3 w' w.heap.size (fun _ => True) A1 B1) ∧ aa (w'.heap[j0]? = some (.cells #[.string f0, .int .i64 e0] 80 (0, 0))) ∧ aa (Below w.heap.size w w'))
 case atStart => exact ⟨(B2), (0), (0), (L0), (W0), f0_, f0_, H', ⟨wa _⟩, ⟨rR_ D1.out⟩, ⟨by refine kK_ ?_; exact b0.out⟩, ⟨hS_ q0.out⟩⟩
 clear H'
 obtain ⟨B1, C1, I0, f0, e0, rfl, rfl, HA, J1, p0, b0, HB⟩ := hrel
 rcases gk with _ | k1
 ·exact absurd HA.out (by simp [ap.l0])
 have H := HA.out
 clear HA
 simp only [ap.l0] at H
 have T1 := aa.mk H
 clear H
 go_upto_region 5 with (fail)
 repeat (go_quiet (fail); go_upto_region 5 with (fail))
 go_cut [32] (fun q3 wc => ∃ (kq : Nat) (Q0 : Bool), q3 = .bool Q0 ∧ aa (ap.j1 kq B1 C1 I0 Q0 f0 e0 = some r) ∧ aa (kq ≤ k1) ∧ aa (Kd.R (Kd.int .i64) 3 wc w.heap.size (fun _ => True) A1 B1) ∧ aa (wc.heap[j0]? = some (.cells #[.string f0, .int .i64 e0] 80 (0, 0))) ∧ aa (Below w.heap.size w wc))
 case first =>
  have H := T1.out
  clear T1
  by_cases V1 : I0 < 4000
  ·rw [za V1] at H
   have T0 := ta V1
   clear V1
   (first | rw [T0] | (simp only [bB, cJ]; rw [T0]) | skip)
   have H' := aa.mk H
   clear H
   go_wp2
   repeat (go_quiet (fail); try go_wp2)
   go_meet
   case rel => exact ⟨_, (decide (C1 < 256)), f0_, H', ⟨by have := J1.out; first | omega | exact wa _⟩, ⟨rR_ p0.out⟩, ⟨by refine kK_ ?_; exact b0.out⟩, ⟨hS_ q0.out⟩⟩
  rw [Aa V1] at H
  have T0 := ua V1
  clear V1
  (first | rw [T0] | (simp only [bB, cJ]; rw [T0]) | skip)
  have H' := aa.mk H
  clear H
  go_wp2
  repeat (go_quiet (fail); try go_wp2)
  go_meet
  case rel => exact ⟨_, (false), f0_, H', ⟨by have := J1.out; first | omega | exact wa _⟩, ⟨rR_ p0.out⟩, ⟨by refine kK_ ?_; exact b0.out⟩, ⟨hS_ q0.out⟩⟩
 clear T1
 obtain ⟨kq, Q0, rfl, HA, U0, p0, b0, HB⟩ := hcut
 rcases kq with _ | E1
 ·exact absurd HA.out (by simp [ap.j1])
 have H := HA.out
 clear HA
 simp only [ap.j1] at H
 by_cases r2 : Q0 = true
 ·subst r2
  replace H := iT_ H
  obtain ⟨⟨y0, B0, d0⟩, C2, H⟩ := bN_ H
  try dsimp only at H
  obtain ⟨L2, H⟩ := iN_ H
  have M2 := ta L2
  have N2 : decide (0 < d0.size) = true := ta (by omega)
  clear L2
  obtain ⟨O2, H⟩ := iN_ H
  have P2 := ta O2
  have Q2 : decide (1 < d0.size) = true := ta (by omega)
  clear O2
  obtain ⟨R2, H⟩ := iN_ H
  have T2 := ta R2
  have U2 : decide (2 < d0.size) = true := ta (by omega)
  clear R2
  obtain ⟨C0, e1⟩ : ∃ y_ : List Int, y_ = (([wrap64 ((wrap64 (bt d0 0)) + (wrap64 ((Int.tmod (wrap64 (bt d0 1)) 16) * 256))), wrap64 ((wrap64 (Int.tdiv (wrap64 (bt d0 1)) 16)) + (wrap64 (16 * (wrap64 (bt d0 2)))))] : List Int)) := ⟨_, rfl⟩
  first | replace H := yb_ e1 H | rw [← e1] at H
  have N0 := aa.mk e1
  clear e1
  have H' := aa.mk H
  clear H
  have t2 : wc.cell? ⟨j0, 0, none⟩ = some (.string f0) := (au b0.out 0).trans rfl
  have u2 : wc.cell? ⟨j0, 1, none⟩ = some (.int .i64 e0) := (au b0.out 1).trans rfl
  have v2 := aj b0.out 0
  have y2 := aj b0.out 1
  go_wp2_with (first | (go_at_call 87; (with_reducible refine (ao.calls E1 f0 e0 3 y0 B0 d0 _ C2.out).mono ?_); rintro e V2 ⟨rfl, hb⟩; have n_ := b_ (Kd.R_below (rR_ p0.out) hb) <| b_ (bG (g := j0) (o := .cells #[.string f0, .int .i64 e0] 80 (0, 0)) (rK_ b0.out) hb) <| c_ (ac (hS_ q0.out) hb); clear p0 b0 HB; obtain ⟨p0, b0, HB⟩ := n_; (try clear hb)) | ((with_reducible refine aI (N := 11) rfl ?_); refine cn ?hg (N := 11) ?hd (cs := #[.string (⟨#[]⟩ : ByteArray), .int .i64 0]) (t := 80) ?hr ?_; (case hd => rfl); (case hg => rfl); (case hr => first | (go_simp; done) | (go_simp; rfl)); intro r0 hg f1 hbox hb; have n_ := b_ (Kd.R_below (rR_ p0.out) hb) <| b_ (bG (g := j0) (o := .cells #[.string f0, .int .i64 e0] 80 (0, 0)) (rK_ b0.out) hb) <| b_ (ac (hS_ q0.out) hb) <| b_ (hbox) <| b_ (by rw [hg]; exact (ab (hS_ q0.out)) : w.heap.size ≤ r0) <| b_ (by rw [hg]; exact (ab (hS_ q0.out)) : w.heap.size ≤ r0) <| b_ (by rw [hg]; exact Nat.ne_of_lt (ev (g := j0) (o := .cells #[.string f0, .int .i64 e0] 80 (0, 0)) (rK_ b0.out)) : j0 ≠ r0) <| c_ (by rw [hg]; exact Nat.ne_of_gt (ev (g := j0) (o := .cells #[.string f0, .int .i64 e0] 80 (0, 0)) (rK_ b0.out)) : r0 ≠ j0); clear p0 b0 HB; obtain ⟨p0, b0, HB, k0, O1, D0, t0, u0⟩ := n_; clear hb hbox hg; have hnb30 := u0.out; have hnc30 := t0.out; have g1 : f1.cell? ⟨r0, 0, none⟩ = some (.string (⟨#[]⟩ : ByteArray)) := (au k0.out 0).trans rfl; have i1 : f1.cell? ⟨r0, 1, none⟩ = some (.int .i64 0) := (au k0.out 1).trans rfl; have m1 := aj k0.out 0; have n1 := aj k0.out 1; have p1 : f1.cell? ⟨j0, 0, none⟩ = some (.string f0) := (au b0.out 0).trans rfl; have q1 : f1.cell? ⟨j0, 1, none⟩ = some (.int .i64 e0) := (au b0.out 1).trans rfl; have r1 := aj b0.out 0; have t1 := aj b0.out 1; have b2 : 0 ≤ (0 : Int) := (by omega); have P1 : 0 < d0.size := (by have : (0 : Int) < (d0.size : Int) := oD_; omega); have c2 : ∀ h : 0 < d0.size, ((d0[0]'h).toNat : Int) = bt d0 0 := cB d0 0; clear b2; have qi22 : (0 < (d0.size : Int)) = True := va oD_; replace P1 := va P1; have e2 : 0 ≤ (1 : Int) := (by omega); have Q1 : 1 < d0.size := (by have : (1 : Int) < (d0.size : Int) := oD_; omega); have f2 : ∀ h : 1 < d0.size, ((d0[1]'h).toNat : Int) = bt d0 1 := cB d0 1; clear e2; have qi24 : (1 < (d0.size : Int)) = True := va oD_; replace Q1 := va Q1; have g2 : 0 ≤ (2 : Int) := (by omega); have R1 : 2 < d0.size := (by have : (2 : Int) < (d0.size : Int) := oD_; omega); have i2 : ∀ h : 2 < d0.size, ((d0[2]'h).toNat : Int) = bt d0 2 := cB d0 2; clear g2; have qi26 : (2 < (d0.size : Int)) = True := va oD_; replace R1 := va R1) | ((with_reducible refine aI (N := 60) rfl ?_); refine Kd.R_lit (Kd.int .i64) _ 3 ?hg (N := 60) ?hd (xs := ([wrap64 ((wrap64 (bt d0 0)) + (wrap64 ((Int.tmod (wrap64 (bt d0 1)) 16) * 256))), wrap64 ((wrap64 (Int.tdiv (wrap64 (bt d0 1)) 16)) + (wrap64 (16 * (wrap64 (bt d0 2)))))] : List Int)) (inner := [.int .i64 (wrap64 ((wrap64 (bt d0 0)) + (wrap64 ((Int.tmod (wrap64 (bt d0 1)) 16) * 256)))), .int .i64 (wrap64 ((wrap64 (Int.tdiv (wrap64 (bt d0 1)) 16)) + (wrap64 (16 * (wrap64 (bt d0 2))))))]) (ok := fun _ => True) (okp := fun _ => True) ?hr ?hp (fun _ hk => hk) trivial (xa _ _) (wa _) (by simp) ?_; (case hd => rfl); (case hg => rfl); (case hr => first | (go_simp; done) | (go_simp; rfl)); (case hp => exact (br.one (show Kd.M (Kd.int .i64) _ _ _ (wrap64 ((wrap64 (bt d0 0)) + (wrap64 ((Int.tmod (wrap64 (bt d0 1)) 16) * 256)))) [.int .i64 (wrap64 ((wrap64 (bt d0 0)) + (wrap64 ((Int.tmod (wrap64 (bt d0 1)) 16) * 256))))] from rfl) (br.one (show Kd.M (Kd.int .i64) _ _ _ (wrap64 ((wrap64 (Int.tdiv (wrap64 (bt d0 1)) 16)) + (wrap64 (16 * (wrap64 (bt d0 2)))))) [.int .i64 (wrap64 ((wrap64 (Int.tdiv (wrap64 (bt d0 1)) 16)) + (wrap64 (16 * (wrap64 (bt d0 2))))))] from rfl) (br.none _ _)))); intro j2 X2 E0 hb hg_ hnew_; clear hg_ hnew_; (first | rw [← N0.out] at E0 | (simp only [Int.reduceToNat] at E0; rw [← N0.out] at E0)); have n_ := b_ (Kd.R_elder' (by refine kR_ ?_; exact (Kd.R_mono (Kd.R_mono (Kd.R_far (Kd.R_far (Kd.R_far (Kd.R_far (Kd.R_types (Kd.R_types p0.out k0.out (by decide)) b0.out (by decide)) (fun _ hk => hk.1.2) (.string y0)) (fun _ hk => hk.1.2) (.int .i64 B0)) (fun _ hk => hk.2) _) (fun _ hk => hk.2) _) (fun _ h_ => h_.1)) (fun _ h_ => h_.1))) (Kd.R_base E0) hb) <| b_ (Kd.R_lower (Kd.R_new' E0 (Kd.R_lt (by refine kR_ ?_; exact (Kd.R_mono (Kd.R_mono (Kd.R_far (Kd.R_far (Kd.R_far (Kd.R_far (Kd.R_types (Kd.R_types p0.out k0.out (by decide)) b0.out (by decide)) (fun _ hk => hk.1.2) (.string y0)) (fun _ hk => hk.1.2) (.int .i64 B0)) (fun _ hk => hk.2) _) (fun _ hk => hk.2) _) (fun _ h_ => h_.1)) (fun _ h_ => h_.1))))) (ab ((u0_ q0.out D0.out)))) <| b_ (bG (g := j0) (o := .cells #[.string y0, .int .i64 B0] 80 (0, 0)) (by refine kK_ ?_; refine bV (cs := #[.string y0, .int .i64 e0]) ?_ 1 _ rfl; refine kK_ ?_; refine bV (cs := #[.string f0, .int .i64 e0]) ?_ 0 _ rfl; refine kK_ ?_; refine dL ?_ t0.out _; refine kK_ ?_; refine dL ?_ t0.out _; exact rK_ b0.out) hb) <| b_ (bG (g := r0) (o := .cells #[.string y0, .int .i64 B0] 80 (0, 0)) (by refine kK_ ?_; refine dL ?_ u0.out _; refine kK_ ?_; refine dL ?_ u0.out _; refine kK_ ?_; refine bV (cs := #[.string y0, .int .i64 0]) ?_ 1 _ rfl; refine kK_ ?_; refine bV (cs := #[.string (⟨#[]⟩ : ByteArray), .int .i64 0]) ?_ 0 _ rfl; exact rK_ k0.out) hb) <| c_ (ac ((u0_ q0.out D0.out)) hb); clear p0 b0 k0 HB; obtain ⟨p0, O0, b0, k0, HB⟩ := n_; clear hb E0; obtain ⟨K1, X0, F1⟩ := Kd.R_slice O0.out; subst F1))
  repeat (go_quiet (first | (go_at_call 87; (with_reducible refine (ao.calls E1 f0 e0 3 y0 B0 d0 _ C2.out).mono ?_); rintro e V2 ⟨rfl, hb⟩; have n_ := b_ (Kd.R_below (rR_ p0.out) hb) <| b_ (bG (g := j0) (o := .cells #[.string f0, .int .i64 e0] 80 (0, 0)) (rK_ b0.out) hb) <| c_ (ac (hS_ q0.out) hb); clear p0 b0 HB; obtain ⟨p0, b0, HB⟩ := n_; (try clear hb)) | ((with_reducible refine aI (N := 11) rfl ?_); refine cn ?hg (N := 11) ?hd (cs := #[.string (⟨#[]⟩ : ByteArray), .int .i64 0]) (t := 80) ?hr ?_; (case hd => rfl); (case hg => rfl); (case hr => first | (go_simp; done) | (go_simp; rfl)); intro r0 hg f1 hbox hb; have n_ := b_ (Kd.R_below (rR_ p0.out) hb) <| b_ (bG (g := j0) (o := .cells #[.string f0, .int .i64 e0] 80 (0, 0)) (rK_ b0.out) hb) <| b_ (ac (hS_ q0.out) hb) <| b_ (hbox) <| b_ (by rw [hg]; exact (ab (hS_ q0.out)) : w.heap.size ≤ r0) <| b_ (by rw [hg]; exact (ab (hS_ q0.out)) : w.heap.size ≤ r0) <| b_ (by rw [hg]; exact Nat.ne_of_lt (ev (g := j0) (o := .cells #[.string f0, .int .i64 e0] 80 (0, 0)) (rK_ b0.out)) : j0 ≠ r0) <| c_ (by rw [hg]; exact Nat.ne_of_gt (ev (g := j0) (o := .cells #[.string f0, .int .i64 e0] 80 (0, 0)) (rK_ b0.out)) : r0 ≠ j0); clear p0 b0 HB; obtain ⟨p0, b0, HB, k0, O1, D0, t0, u0⟩ := n_; clear hb hbox hg; have hnb30 := u0.out; have hnc30 := t0.out; have g1 : f1.cell? ⟨r0, 0, none⟩ = some (.string (⟨#[]⟩ : ByteArray)) := (au k0.out 0).trans rfl; have i1 : f1.cell? ⟨r0, 1, none⟩ = some (.int .i64 0) := (au k0.out 1).trans rfl; have m1 := aj k0.out 0; have n1 := aj k0.out 1; have p1 : f1.cell? ⟨j0, 0, none⟩ = some (.string f0) := (au b0.out 0).trans rfl; have q1 : f1.cell? ⟨j0, 1, none⟩ = some (.int .i64 e0) := (au b0.out 1).trans rfl; have r1 := aj b0.out 0; have t1 := aj b0.out 1; have b2 : 0 ≤ (0 : Int) := (by omega); have P1 : 0 < d0.size := (by have : (0 : Int) < (d0.size : Int) := oD_; omega); have c2 : ∀ h : 0 < d0.size, ((d0[0]'h).toNat : Int) = bt d0 0 := cB d0 0; clear b2; have qi22 : (0 < (d0.size : Int)) = True := va oD_; replace P1 := va P1; have e2 : 0 ≤ (1 : Int) := (by omega); have Q1 : 1 < d0.size := (by have : (1 : Int) < (d0.size : Int) := oD_; omega); have f2 : ∀ h : 1 < d0.size, ((d0[1]'h).toNat : Int) = bt d0 1 := cB d0 1; clear e2; have qi24 : (1 < (d0.size : Int)) = True := va oD_; replace Q1 := va Q1; have g2 : 0 ≤ (2 : Int) := (by omega); have R1 : 2 < d0.size := (by have : (2 : Int) < (d0.size : Int) := oD_; omega); have i2 : ∀ h : 2 < d0.size, ((d0[2]'h).toNat : Int) = bt d0 2 := cB d0 2; clear g2; have qi26 : (2 < (d0.size : Int)) = True := va oD_; replace R1 := va R1) | ((with_reducible refine aI (N := 60) rfl ?_); refine Kd.R_lit (Kd.int .i64) _ 3 ?hg (N := 60) ?hd (xs := ([wrap64 ((wrap64 (bt d0 0)) + (wrap64 ((Int.tmod (wrap64 (bt d0 1)) 16) * 256))), wrap64 ((wrap64 (Int.tdiv (wrap64 (bt d0 1)) 16)) + (wrap64 (16 * (wrap64 (bt d0 2)))))] : List Int)) (inner := [.int .i64 (wrap64 ((wrap64 (bt d0 0)) + (wrap64 ((Int.tmod (wrap64 (bt d0 1)) 16) * 256)))), .int .i64 (wrap64 ((wrap64 (Int.tdiv (wrap64 (bt d0 1)) 16)) + (wrap64 (16 * (wrap64 (bt d0 2))))))]) (ok := fun _ => True) (okp := fun _ => True) ?hr ?hp (fun _ hk => hk) trivial (xa _ _) (wa _) (by simp) ?_; (case hd => rfl); (case hg => rfl); (case hr => first | (go_simp; done) | (go_simp; rfl)); (case hp => exact (br.one (show Kd.M (Kd.int .i64) _ _ _ (wrap64 ((wrap64 (bt d0 0)) + (wrap64 ((Int.tmod (wrap64 (bt d0 1)) 16) * 256)))) [.int .i64 (wrap64 ((wrap64 (bt d0 0)) + (wrap64 ((Int.tmod (wrap64 (bt d0 1)) 16) * 256))))] from rfl) (br.one (show Kd.M (Kd.int .i64) _ _ _ (wrap64 ((wrap64 (Int.tdiv (wrap64 (bt d0 1)) 16)) + (wrap64 (16 * (wrap64 (bt d0 2)))))) [.int .i64 (wrap64 ((wrap64 (Int.tdiv (wrap64 (bt d0 1)) 16)) + (wrap64 (16 * (wrap64 (bt d0 2))))))] from rfl) (br.none _ _)))); intro j2 X2 E0 hb hg_ hnew_; clear hg_ hnew_; (first | rw [← N0.out] at E0 | (simp only [Int.reduceToNat] at E0; rw [← N0.out] at E0)); have n_ := b_ (Kd.R_elder' (by refine kR_ ?_; exact (Kd.R_mono (Kd.R_mono (Kd.R_far (Kd.R_far (Kd.R_far (Kd.R_far (Kd.R_types (Kd.R_types p0.out k0.out (by decide)) b0.out (by decide)) (fun _ hk => hk.1.2) (.string y0)) (fun _ hk => hk.1.2) (.int .i64 B0)) (fun _ hk => hk.2) _) (fun _ hk => hk.2) _) (fun _ h_ => h_.1)) (fun _ h_ => h_.1))) (Kd.R_base E0) hb) <| b_ (Kd.R_lower (Kd.R_new' E0 (Kd.R_lt (by refine kR_ ?_; exact (Kd.R_mono (Kd.R_mono (Kd.R_far (Kd.R_far (Kd.R_far (Kd.R_far (Kd.R_types (Kd.R_types p0.out k0.out (by decide)) b0.out (by decide)) (fun _ hk => hk.1.2) (.string y0)) (fun _ hk => hk.1.2) (.int .i64 B0)) (fun _ hk => hk.2) _) (fun _ hk => hk.2) _) (fun _ h_ => h_.1)) (fun _ h_ => h_.1))))) (ab ((u0_ q0.out D0.out)))) <| b_ (bG (g := j0) (o := .cells #[.string y0, .int .i64 B0] 80 (0, 0)) (by refine kK_ ?_; refine bV (cs := #[.string y0, .int .i64 e0]) ?_ 1 _ rfl; refine kK_ ?_; refine bV (cs := #[.string f0, .int .i64 e0]) ?_ 0 _ rfl; refine kK_ ?_; refine dL ?_ t0.out _; refine kK_ ?_; refine dL ?_ t0.out _; exact rK_ b0.out) hb) <| b_ (bG (g := r0) (o := .cells #[.string y0, .int .i64 B0] 80 (0, 0)) (by refine kK_ ?_; refine dL ?_ u0.out _; refine kK_ ?_; refine dL ?_ u0.out _; refine kK_ ?_; refine bV (cs := #[.string y0, .int .i64 0]) ?_ 1 _ rfl; refine kK_ ?_; refine bV (cs := #[.string (⟨#[]⟩ : ByteArray), .int .i64 0]) ?_ 0 _ rfl; exact rK_ k0.out) hb) <| c_ (ac ((u0_ q0.out D0.out)) hb); clear p0 b0 k0 HB; obtain ⟨p0, O0, b0, k0, HB⟩ := n_; clear hb E0; obtain ⟨K1, X0, F1⟩ := Kd.R_slice O0.out; subst F1)); try go_wp2_with (first | (go_at_call 87; (with_reducible refine (ao.calls E1 f0 e0 3 y0 B0 d0 _ C2.out).mono ?_); rintro e V2 ⟨rfl, hb⟩; have n_ := b_ (Kd.R_below (rR_ p0.out) hb) <| b_ (bG (g := j0) (o := .cells #[.string f0, .int .i64 e0] 80 (0, 0)) (rK_ b0.out) hb) <| c_ (ac (hS_ q0.out) hb); clear p0 b0 HB; obtain ⟨p0, b0, HB⟩ := n_; (try clear hb)) | ((with_reducible refine aI (N := 11) rfl ?_); refine cn ?hg (N := 11) ?hd (cs := #[.string (⟨#[]⟩ : ByteArray), .int .i64 0]) (t := 80) ?hr ?_; (case hd => rfl); (case hg => rfl); (case hr => first | (go_simp; done) | (go_simp; rfl)); intro r0 hg f1 hbox hb; have n_ := b_ (Kd.R_below (rR_ p0.out) hb) <| b_ (bG (g := j0) (o := .cells #[.string f0, .int .i64 e0] 80 (0, 0)) (rK_ b0.out) hb) <| b_ (ac (hS_ q0.out) hb) <| b_ (hbox) <| b_ (by rw [hg]; exact (ab (hS_ q0.out)) : w.heap.size ≤ r0) <| b_ (by rw [hg]; exact (ab (hS_ q0.out)) : w.heap.size ≤ r0) <| b_ (by rw [hg]; exact Nat.ne_of_lt (ev (g := j0) (o := .cells #[.string f0, .int .i64 e0] 80 (0, 0)) (rK_ b0.out)) : j0 ≠ r0) <| c_ (by rw [hg]; exact Nat.ne_of_gt (ev (g := j0) (o := .cells #[.string f0, .int .i64 e0] 80 (0, 0)) (rK_ b0.out)) : r0 ≠ j0); clear p0 b0 HB; obtain ⟨p0, b0, HB, k0, O1, D0, t0, u0⟩ := n_; clear hb hbox hg; have hnb30 := u0.out; have hnc30 := t0.out; have g1 : f1.cell? ⟨r0, 0, none⟩ = some (.string (⟨#[]⟩ : ByteArray)) := (au k0.out 0).trans rfl; have i1 : f1.cell? ⟨r0, 1, none⟩ = some (.int .i64 0) := (au k0.out 1).trans rfl; have m1 := aj k0.out 0; have n1 := aj k0.out 1; have p1 : f1.cell? ⟨j0, 0, none⟩ = some (.string f0) := (au b0.out 0).trans rfl; have q1 : f1.cell? ⟨j0, 1, none⟩ = some (.int .i64 e0) := (au b0.out 1).trans rfl; have r1 := aj b0.out 0; have t1 := aj b0.out 1; have b2 : 0 ≤ (0 : Int) := (by omega); have P1 : 0 < d0.size := (by have : (0 : Int) < (d0.size : Int) := oD_; omega); have c2 : ∀ h : 0 < d0.size, ((d0[0]'h).toNat : Int) = bt d0 0 := cB d0 0; clear b2; have qi22 : (0 < (d0.size : Int)) = True := va oD_; replace P1 := va P1; have e2 : 0 ≤ (1 : Int) := (by omega); have Q1 : 1 < d0.size := (by have : (1 : Int) < (d0.size : Int) := oD_; omega); have f2 : ∀ h : 1 < d0.size, ((d0[1]'h).toNat : Int) = bt d0 1 := cB d0 1; clear e2; have qi24 : (1 < (d0.size : Int)) = True := va oD_; replace Q1 := va Q1; have g2 : 0 ≤ (2 : Int) := (by omega); have R1 : 2 < d0.size := (by have : (2 : Int) < (d0.size : Int) := oD_; omega); have i2 : ∀ h : 2 < d0.size, ((d0[2]'h).toNat : Int) = bt d0 2 := cB d0 2; clear g2; have qi26 : (2 < (d0.size : Int)) = True := va oD_; replace R1 := va R1) | ((with_reducible refine aI (N := 60) rfl ?_); refine Kd.R_lit (Kd.int .i64) _ 3 ?hg (N := 60) ?hd (xs := ([wrap64 ((wrap64 (bt d0 0)) + (wrap64 ((Int.tmod (wrap64 (bt d0 1)) 16) * 256))), wrap64 ((wrap64 (Int.tdiv (wrap64 (bt d0 1)) 16)) + (wrap64 (16 * (wrap64 (bt d0 2)))))] : List Int)) (inner := [.int .i64 (wrap64 ((wrap64 (bt d0 0)) + (wrap64 ((Int.tmod (wrap64 (bt d0 1)) 16) * 256)))), .int .i64 (wrap64 ((wrap64 (Int.tdiv (wrap64 (bt d0 1)) 16)) + (wrap64 (16 * (wrap64 (bt d0 2))))))]) (ok := fun _ => True) (okp := fun _ => True) ?hr ?hp (fun _ hk => hk) trivial (xa _ _) (wa _) (by simp) ?_; (case hd => rfl); (case hg => rfl); (case hr => first | (go_simp; done) | (go_simp; rfl)); (case hp => exact (br.one (show Kd.M (Kd.int .i64) _ _ _ (wrap64 ((wrap64 (bt d0 0)) + (wrap64 ((Int.tmod (wrap64 (bt d0 1)) 16) * 256)))) [.int .i64 (wrap64 ((wrap64 (bt d0 0)) + (wrap64 ((Int.tmod (wrap64 (bt d0 1)) 16) * 256))))] from rfl) (br.one (show Kd.M (Kd.int .i64) _ _ _ (wrap64 ((wrap64 (Int.tdiv (wrap64 (bt d0 1)) 16)) + (wrap64 (16 * (wrap64 (bt d0 2)))))) [.int .i64 (wrap64 ((wrap64 (Int.tdiv (wrap64 (bt d0 1)) 16)) + (wrap64 (16 * (wrap64 (bt d0 2))))))] from rfl) (br.none _ _)))); intro j2 X2 E0 hb hg_ hnew_; clear hg_ hnew_; (first | rw [← N0.out] at E0 | (simp only [Int.reduceToNat] at E0; rw [← N0.out] at E0)); have n_ := b_ (Kd.R_elder' (by refine kR_ ?_; exact (Kd.R_mono (Kd.R_mono (Kd.R_far (Kd.R_far (Kd.R_far (Kd.R_far (Kd.R_types (Kd.R_types p0.out k0.out (by decide)) b0.out (by decide)) (fun _ hk => hk.1.2) (.string y0)) (fun _ hk => hk.1.2) (.int .i64 B0)) (fun _ hk => hk.2) _) (fun _ hk => hk.2) _) (fun _ h_ => h_.1)) (fun _ h_ => h_.1))) (Kd.R_base E0) hb) <| b_ (Kd.R_lower (Kd.R_new' E0 (Kd.R_lt (by refine kR_ ?_; exact (Kd.R_mono (Kd.R_mono (Kd.R_far (Kd.R_far (Kd.R_far (Kd.R_far (Kd.R_types (Kd.R_types p0.out k0.out (by decide)) b0.out (by decide)) (fun _ hk => hk.1.2) (.string y0)) (fun _ hk => hk.1.2) (.int .i64 B0)) (fun _ hk => hk.2) _) (fun _ hk => hk.2) _) (fun _ h_ => h_.1)) (fun _ h_ => h_.1))))) (ab ((u0_ q0.out D0.out)))) <| b_ (bG (g := j0) (o := .cells #[.string y0, .int .i64 B0] 80 (0, 0)) (by refine kK_ ?_; refine bV (cs := #[.string y0, .int .i64 e0]) ?_ 1 _ rfl; refine kK_ ?_; refine bV (cs := #[.string f0, .int .i64 e0]) ?_ 0 _ rfl; refine kK_ ?_; refine dL ?_ t0.out _; refine kK_ ?_; refine dL ?_ t0.out _; exact rK_ b0.out) hb) <| b_ (bG (g := r0) (o := .cells #[.string y0, .int .i64 B0] 80 (0, 0)) (by refine kK_ ?_; refine dL ?_ u0.out _; refine kK_ ?_; refine dL ?_ u0.out _; refine kK_ ?_; refine bV (cs := #[.string y0, .int .i64 0]) ?_ 1 _ rfl; refine kK_ ?_; refine bV (cs := #[.string (⟨#[]⟩ : ByteArray), .int .i64 0]) ?_ 0 _ rfl; exact rK_ k0.out) hb) <| c_ (ac ((u0_ q0.out D0.out)) hb); clear p0 b0 k0 HB; obtain ⟨p0, O0, b0, k0, HB⟩ := n_; clear hb E0; obtain ⟨K1, X0, F1⟩ := Kd.R_slice O0.out; subst F1)))
  go_loopg [9, 62] E1 (fun kq v9 r3 w' => ∃ (H0 : List Int) (F0 : Int) (v0 : Int), v9 = .int .i64 F0 ∧ r3 = .int .i64 v0 ∧ aa (ap.l1 kq H0 F0 I0 C0 (C0.length : Int) v0 y0 B0 = some r) ∧ aa (kq ≤ E1) ∧ aa (Kd.R (Kd.int .i64) 3 w' w.heap.size (fun k_ => some k_ ≠ ((.slice K1 C0.length X0) : Value).ownBlock) A1 H0) ∧ aa (Kd.R (Kd.int .i64) 3 w' w.heap.size (fun k_ => some k_ ≠ (A1 : Value).ownBlock) (.slice K1 C0.length X0) C0) ∧ aa (w'.heap[j0]? = some (.cells #[.string y0, .int .i64 B0] 80 (0, 0))) ∧ aa (w'.heap[r0]? = some (.cells #[.string y0, .int .i64 B0] 80 (0, 0))) ∧ aa (Below w.heap.size w w'))
  case atStart => exact ⟨(B1), (C1), (0), f0_, f0_, H', ⟨wa _⟩, ⟨by refine kR_ ?_; exact Kd.R_mono p0.out (fun _ hk => hk.2)⟩, ⟨by refine kR_ ?_; exact Kd.R_mono O0.out (fun _ hk => hk.2)⟩, ⟨by refine kK_ ?_; exact b0.out⟩, ⟨by refine kK_ ?_; exact k0.out⟩, ⟨(u0_ q0.out D0.out)⟩⟩
  clear H'
  obtain ⟨H0, F0, v0, rfl, rfl, HA, S1, p0, x0, b0, k0, HB⟩ := hrel
  rcases gk with _ | k3
  ·exact absurd HA.out (by simp [ap.l1])
  have H := HA.out
  clear HA
  simp only [ap.l1] at H
  by_cases X1 : v0 < (C0.length : Int)
  rotate_left
  ·rw [Aa X1] at H
   have l2 := ua X1
   clear X1
   have H' := aa.mk H
   clear H
   go_wp2
   repeat (go_quiet (fail); try go_wp2)
   go_roundg k3
   case measure => have := J1.out; have := U0.out; have := S1.out; omega
   case rel => exact ⟨(H0), (F0), (wrap64 (I0 + 1)), (y0), (B0), f0_, f0_, H', ⟨by have := J1.out; have := U0.out; have := S1.out; omega⟩, ⟨by refine kR_ ?_; exact Kd.R_mono p0.out (fun _ hk => trivial)⟩, ⟨by refine kK_ ?_; exact b0.out⟩, ⟨(u0_ q0.out D0.out)⟩⟩
  rw [za X1] at H
  have l2 := ta X1
  clear X1
  obtain ⟨Y2, H⟩ := iD_ H
  obtain ⟨Z2, H⟩ := iD_ H
  by_cases Y1 : (rd C0 v0) < 3329
  rotate_left
  ·rw [Aa Y1] at H
   have m2 := ua Y1
   clear Y1
   have H' := aa.mk H
   clear H
   have J0 : 0 ≤ (v0 : Int) := oD_
   have K0 : v0 < (C0.length : Int) := oD_
   obtain ⟨V0, G1, y1⟩ := Kd.at_int (Kd.R_reads' x0.out).2.2 v0 J0 K0
   cases G1
   replace J0 := va J0
   replace K0 := va K0
   go_wp2
   repeat (go_quiet (fail); try go_wp2)
   go_roundg k3
   case measure => have := J1.out; have := U0.out; have := S1.out; omega
   case rel => exact ⟨(H0), (F0), (wrap64 (v0 + 1)), f0_, f0_, H', ⟨by have := J1.out; have := U0.out; have := S1.out; omega⟩, ⟨rR_ p0.out⟩, ⟨rR_ x0.out⟩, ⟨by refine kK_ ?_; exact b0.out⟩, ⟨by refine kK_ ?_; exact k0.out⟩, ⟨(u0_ q0.out D0.out)⟩⟩
  rw [za Y1] at H
  have m2 := ta Y1
  clear Y1
  by_cases Z1 : F0 < 256
  rotate_left
  ·rw [Aa Z1] at H
   have n2 := ua Z1
   clear Z1
   have H' := aa.mk H
   clear H
   have J0 : 0 ≤ (v0 : Int) := oD_
   have K0 : v0 < (C0.length : Int) := oD_
   obtain ⟨V0, G1, y1⟩ := Kd.at_int (Kd.R_reads' x0.out).2.2 v0 J0 K0
   cases G1
   replace J0 := va J0
   replace K0 := va K0
   go_wp2
   repeat (go_quiet (fail); try go_wp2)
   go_roundg k3
   case measure => have := J1.out; have := U0.out; have := S1.out; omega
   case rel => exact ⟨(H0), (F0), (wrap64 (v0 + 1)), f0_, f0_, H', ⟨by have := J1.out; have := U0.out; have := S1.out; omega⟩, ⟨rR_ p0.out⟩, ⟨rR_ x0.out⟩, ⟨by refine kK_ ?_; exact b0.out⟩, ⟨by refine kK_ ?_; exact k0.out⟩, ⟨(u0_ q0.out D0.out)⟩⟩
  rw [za Z1] at H
  have n2 := ta Z1
  clear Z1
  obtain ⟨b3, H⟩ := iD_ H
  obtain ⟨c3, H⟩ := iD_ H
  obtain ⟨L1, z1⟩ : ∃ y_ : List Int, y_ = (H0.set (F0 : Int).toNat (rd C0 v0)) := ⟨_, rfl⟩
  first | replace H := yb_ z1 H | rw [← z1] at H
  have H1 := aa.mk z1
  clear z1
  have H' := aa.mk H
  clear H
  have J0 : 0 ≤ (v0 : Int) := oD_
  have K0 : v0 < (C0.length : Int) := oD_
  obtain ⟨V0, G1, y1⟩ := Kd.at_int (Kd.R_reads' x0.out).2.2 v0 J0 K0
  cases G1
  replace J0 := va J0
  replace K0 := va K0
  have D2 : 0 ≤ (F0 : Int) := oD_
  have E2 : (F0 : Int) < ((H0.length : Int) : Int) := oD_
  obtain ⟨go43, R0, p2, q2, gl43, cl43, HG43⟩ := Kd.R_form p0.out (by omega)
  (first | cases p2 | (injection p2 with ea_ en_ ec_; (first | subst ea_ | (injection ea_ with ea_; subst ea_)); subst ec_; clear en_))
  have U1 := aa.mk q2
  have GG43 := aa.mk HG43
  clear q2 gl43 HG43
  obtain ⟨F2, hf43_0⟩ := Kd.R_celln 0 p0.out (F0 : Int) D2 E2
  replace D2 := va D2
  replace E2 := va E2
  have HP44 := Kd.R_putg p0.out (F0 : Int) (rd C0 v0)
  go_wp2_with (first | ((with_reducible refine cm (t := 3) (p := 75) rfl ?_); (try (rw [cU wr]; generalize hq_ : World.drewN wr _ = wr; have n_ := b_ (Kd.R_at hq_ p0.out) <| b_ (Kd.R_at hq_ x0.out) <| b_ (blk_at hq_ b0.out) <| b_ (blk_at hq_ k0.out) <| c_ (fe hq_ HB.out); clear hq_ p0 x0 b0 k0 HB; obtain ⟨p0, x0, b0, k0, HB⟩ := n_; (try (have HP44 := Kd.R_putg p0.out (F0 : Int) (rd C0 v0))))); refine b9 (t := 3) (p := 75) (v := ?vo_w45) (w1 := (wr.setCell ⟨go43, (F0 : Int).toNat, none⟩ (.int .i64 (rd C0 v0)))) ?hg ?ho ?hn ?hr ?_; (case ho => rfl); (case hg => rfl); (case hn => rfl); (case hr => first | (go_simp; done) | (go_simp; rfl)); intro I1 hw; have hg : wr.grownBy I1 (some go43) := (by rw [hw]; exact HP44.2); have hp_ : Kd.R (Kd.int .i64) 3 I1 w.heap.size (fun k_ => some k_ ≠ (.slice (some V0) C0.length X0 : Value).ownBlock) (.slice (some ⟨go43, 0, none⟩) H0.length R0) L1 := (by rw [hw, H1.out]; exact HP44.1); clear HP44; have n0_ := aa.mk (hp_); have n1_ := aa.mk (Kd.R_after (v := (.slice (some ⟨go43, 0, none⟩) H0.length R0)) (v1 := (.slice (some ⟨go43, 0, none⟩) H0.length R0)) (ok := (fun _ => True)) (by refine kR_ ?_; exact Kd.R_mono x0.out (fun _ hk => ⟨trivial, hk⟩)) hg (.inl rfl)); have n2_ := aa.mk (cr (g := j0) (o := .cells #[.string y0, .int .i64 B0] 80 (0, 0)) (rK_ b0.out) hg (Kd.R_ne p0.out b0.out (by decide))); have n3_ := aa.mk (cr (g := r0) (o := .cells #[.string y0, .int .i64 B0] 80 (0, 0)) (rK_ k0.out) hg (Kd.R_ne p0.out k0.out (by decide))); have n4_ := aa.mk ((by rw [hw]; exact co (HB.out) U1.out : Below w.heap.size w I1)); replace p0 := n0_; replace x0 := n1_; replace b0 := n2_; replace k0 := n3_; replace HB := n4_; clear n0_ n1_ n2_ n3_ n4_; clear hg hw hp_))
  repeat (go_quiet (first | ((with_reducible refine cm (t := 3) (p := 75) rfl ?_); (try (rw [cU wr]; generalize hq_ : World.drewN wr _ = wr; have n_ := b_ (Kd.R_at hq_ p0.out) <| b_ (Kd.R_at hq_ x0.out) <| b_ (blk_at hq_ b0.out) <| b_ (blk_at hq_ k0.out) <| c_ (fe hq_ HB.out); clear hq_ p0 x0 b0 k0 HB; obtain ⟨p0, x0, b0, k0, HB⟩ := n_; (try (have HP44 := Kd.R_putg p0.out (F0 : Int) (rd C0 v0))))); refine b9 (t := 3) (p := 75) (v := ?vo_w45) (w1 := (wr.setCell ⟨go43, (F0 : Int).toNat, none⟩ (.int .i64 (rd C0 v0)))) ?hg ?ho ?hn ?hr ?_; (case ho => rfl); (case hg => rfl); (case hn => rfl); (case hr => first | (go_simp; done) | (go_simp; rfl)); intro I1 hw; have hg : wr.grownBy I1 (some go43) := (by rw [hw]; exact HP44.2); have hp_ : Kd.R (Kd.int .i64) 3 I1 w.heap.size (fun k_ => some k_ ≠ (.slice (some V0) C0.length X0 : Value).ownBlock) (.slice (some ⟨go43, 0, none⟩) H0.length R0) L1 := (by rw [hw, H1.out]; exact HP44.1); clear HP44; have n0_ := aa.mk (hp_); have n1_ := aa.mk (Kd.R_after (v := (.slice (some ⟨go43, 0, none⟩) H0.length R0)) (v1 := (.slice (some ⟨go43, 0, none⟩) H0.length R0)) (ok := (fun _ => True)) (by refine kR_ ?_; exact Kd.R_mono x0.out (fun _ hk => ⟨trivial, hk⟩)) hg (.inl rfl)); have n2_ := aa.mk (cr (g := j0) (o := .cells #[.string y0, .int .i64 B0] 80 (0, 0)) (rK_ b0.out) hg (Kd.R_ne p0.out b0.out (by decide))); have n3_ := aa.mk (cr (g := r0) (o := .cells #[.string y0, .int .i64 B0] 80 (0, 0)) (rK_ k0.out) hg (Kd.R_ne p0.out k0.out (by decide))); have n4_ := aa.mk ((by rw [hw]; exact co (HB.out) U1.out : Below w.heap.size w I1)); replace p0 := n0_; replace x0 := n1_; replace b0 := n2_; replace k0 := n3_; replace HB := n4_; clear n0_ n1_ n2_ n3_ n4_; clear hg hw hp_)); try go_wp2_with (first | ((with_reducible refine cm (t := 3) (p := 75) rfl ?_); (try (rw [cU wr]; generalize hq_ : World.drewN wr _ = wr; have n_ := b_ (Kd.R_at hq_ p0.out) <| b_ (Kd.R_at hq_ x0.out) <| b_ (blk_at hq_ b0.out) <| b_ (blk_at hq_ k0.out) <| c_ (fe hq_ HB.out); clear hq_ p0 x0 b0 k0 HB; obtain ⟨p0, x0, b0, k0, HB⟩ := n_; (try (have HP44 := Kd.R_putg p0.out (F0 : Int) (rd C0 v0))))); refine b9 (t := 3) (p := 75) (v := ?vo_w45) (w1 := (wr.setCell ⟨go43, (F0 : Int).toNat, none⟩ (.int .i64 (rd C0 v0)))) ?hg ?ho ?hn ?hr ?_; (case ho => rfl); (case hg => rfl); (case hn => rfl); (case hr => first | (go_simp; done) | (go_simp; rfl)); intro I1 hw; have hg : wr.grownBy I1 (some go43) := (by rw [hw]; exact HP44.2); have hp_ : Kd.R (Kd.int .i64) 3 I1 w.heap.size (fun k_ => some k_ ≠ (.slice (some V0) C0.length X0 : Value).ownBlock) (.slice (some ⟨go43, 0, none⟩) H0.length R0) L1 := (by rw [hw, H1.out]; exact HP44.1); clear HP44; have n0_ := aa.mk (hp_); have n1_ := aa.mk (Kd.R_after (v := (.slice (some ⟨go43, 0, none⟩) H0.length R0)) (v1 := (.slice (some ⟨go43, 0, none⟩) H0.length R0)) (ok := (fun _ => True)) (by refine kR_ ?_; exact Kd.R_mono x0.out (fun _ hk => ⟨trivial, hk⟩)) hg (.inl rfl)); have n2_ := aa.mk (cr (g := j0) (o := .cells #[.string y0, .int .i64 B0] 80 (0, 0)) (rK_ b0.out) hg (Kd.R_ne p0.out b0.out (by decide))); have n3_ := aa.mk (cr (g := r0) (o := .cells #[.string y0, .int .i64 B0] 80 (0, 0)) (rK_ k0.out) hg (Kd.R_ne p0.out k0.out (by decide))); have n4_ := aa.mk ((by rw [hw]; exact co (HB.out) U1.out : Below w.heap.size w I1)); replace p0 := n0_; replace x0 := n1_; replace b0 := n2_; replace k0 := n3_; replace HB := n4_; clear n0_ n1_ n2_ n3_ n4_; clear hg hw hp_)))
  go_roundg k3
  case measure => have := J1.out; have := U0.out; have := S1.out; omega
  case rel => exact ⟨(L1), (wrap64 (F0 + 1)), (wrap64 (v0 + 1)), f0_, f0_, H', ⟨by have := J1.out; have := U0.out; have := S1.out; omega⟩, ⟨rR_ p0.out⟩, ⟨by refine kR_ ?_; exact Kd.R_mono x0.out (fun _ hk => hk.2)⟩, ⟨by refine kK_ ?_; exact b0.out⟩, ⟨by refine kK_ ?_; exact k0.out⟩, ⟨(u0_ q0.out D0.out)⟩⟩
 ·replace r2 := ya r2
  subst r2
  replace H := iF_ H
  obtain rfl := sI H
  go_wp2
  repeat (go_quiet (fail); try go_wp2)
  go_ret
  exact ⟨_, f1_, rR_ p0.out, hS_ q0.out⟩

/-! ### b7: function 34 -/
def b7.l0 : Nat → ByteArray → Int → Bool → List (List Int) → Int → Option ((List (List Int)))
 | 0, _, _, _, _, _ => none
 | k + 1, x0, x1, x2, x7, x9 => if x9 < 2 then (if x2 = true then ((ap.f k x0 x1 x9).bind fun t726 => (if x7.length < 5864062014805 then (b7.l0 k x0 x1 x2 (x7 ++ [t726]) (wrap64 (x9 + 1))) else (none))) else ((ap.f k x0 x9 x1).bind fun t732 => (if x7.length < 5864062014805 then (b7.l0 k x0 x1 x2 (x7 ++ [t732]) (wrap64 (x9 + 1))) else (none)))) else (some x7)
def b7.f (k : Nat) (a0 : ByteArray) (a1 : Int) (a2 : Bool) : Option ((List (List Int))) := b7.l0 k a0 a1 a2 ([] : List (List Int)) 0
theorem b7.mono_l : ∀ k, (∀ y0 y1 y2 y3 y4, LeO (b7.l0 k y0 y1 y2 y3 y4) (b7.l0 (k + 1) y0 y1 y2 y3 y4))
 | 0 => fun _ _ _ _ _ r h => by simp [b7.l0] at h
 | k + 1 => by
  have ih0 := b7.mono_l k
  intros; unfold b7.l0; exact o2_ ih0 ap.mono
theorem b7.mono : ∀ a0 a1 a2 k, LeO (b7.f k a0 a1 a2) (b7.f (k + 1) a0 a1 a2) := by
 intro a0 a1 a2 k
 have ih0 := b7.mono_l k
 unfold b7.f
 exact o2_ ih0 ap.mono
theorem b7.calls (k : Nat) (a0 : ByteArray) (a1 : Int) (a2 : Bool) (r : List (List Int)) (w : World) (h : b7.f k a0 a1 a2 = some r) :
  Calls Tryz.prog 34 #[.string a0, .int .i64 a1, .bool a2] w fun e w' => ∃ N0 : Value, e = .returned (N0) ∧ Kd.S (Kd.slice 3 (Kd.int .i64)) 38 w' w.heap.size (fun _ => True) N0 r ∧ Below w.heap.size w w' := by
 have HB := aa.mk (xa w.heap.size w)
 delta b7.f at h
 have H := h
 clear h
 have H' := aa.mk H
 clear H
 go_enter Tryz.func34, Tryz.ntmps34
 go_wp2
 go_loopg [7, 9] k (fun kq v7 v9 w' => ∃ (e0 : List (List Int)) (d0 : Int), v9 = .int .i64 d0 ∧ aa (b7.l0 kq a0 a1 a2 e0 d0 = some r) ∧ aa (kq ≤ k) ∧ aa (Kd.S (Kd.slice 3 (Kd.int .i64)) 38 w' w.heap.size (fun _ => True) v7 e0) ∧ aa (Below w.heap.size w w'))
 case atStart => exact ⟨(([] : List (List Int))), (0), f0_, H', ⟨wa _⟩, ⟨by first | exact Kd.S_nil _ _ _ _ _ | exact Kd.N_nil _ _ _ _ _ | exact Kd.V_nil _ _ _ _ _ | exact Kd.Q_nil _ _ _ _ _ | exact Kd.R_nil _ _ _ _ _⟩, ⟨hB_⟩⟩
 clear H'
 obtain ⟨e0, d0, rfl, HA, G0, b0, HB⟩ := hrel
 rcases gk with _ | k1
 ·exact absurd HA.out (by simp [b7.l0])
 have H := HA.out
 clear HA
 simp only [b7.l0] at H
 by_cases c4 : d0 < 2
 rotate_left
 ·rw [Aa c4] at H
  have H0 := ua c4
  clear c4
  obtain rfl := sI H
  go_wp2
  go_ret
  exact ⟨_, f1_, by refine kS_ ?_; exact b0.out, hB_⟩
 rw [za c4] at H
 have H0 := ta c4
 clear c4
 by_cases c5 : a2 = true
 ·subst c5
  replace H := iT_ H
  obtain ⟨q0, A6, H⟩ := bN_ H
  obtain ⟨c7, H⟩ := iN_ H
  have I0 := aa.mk c7
  clear c7
  obtain ⟨J0, f0⟩ : ∃ y_ : List (List Int), y_ = (e0 ++ [q0]) := ⟨_, rfl⟩
  first | replace H := yb_ f0 H | rw [← f0] at H
  have t0 := aa.mk f0
  clear f0
  have H' := aa.mk H
  clear H
  go_wp2_with (first | ((with_reducible refine ae (f := 70) rfl ?_); refine aq (some 17) rfl rfl Tryz.func70 (by kernel_rfl) rfl #[.string a0, .int .i64 a1, .int .i64 d0] rfl aM_ ?_; (with_reducible refine (ap.calls k1 a0 a1 d0 q0 _ A6.out).mono ?_); rintro e w8 ⟨P0, rfl, u0, hb⟩; refine ⟨_, rfl, ?_⟩; have n_ := b_ (Kd.S_elder' (rS_ b0.out) (Kd.R_base u0) hb) <| b_ (Kd.R_lower u0 (ab (hB_))) <| c_ (ac (hB_) hb); clear b0 HB; obtain ⟨b0, j0, HB⟩ := n_; obtain ⟨v0, x0, K0⟩ := Kd.R_slice j0.out; subst K0) | ((with_reducible refine aV (b := .append) (xs := #[.tmp 13, .tmp 18]) rfl ?_); at_builtin; refine Kd.S_append (Kd.slice 3 (Kd.int .i64)) (w0 := w) w.heap.size rfl (.tmp 13) (.tmp 18) 34 38 (.slice none 0 0) 24 rfl Tryz.underlying34 gK rfl (by decide) (by omega) u7 e0 q0 [.slice v0 q0.length x0] (fun _ => True) (fun k_ => some k_ = (.slice v0 q0.length x0 : Value).ownBlock) rfl rfl ?aP (fun k_ hk_ => ((Kd.R_mono (ok' := fun k_ => ((fun _ => True)) k_ ∧ some k_ ≠ (u7 : Value).ownBlock) (Kd.R_apart' (j0.out) (Kd.S_typed b0.out) (by decide)) (fun k_ hk => ⟨trivial, hk.2⟩))).1 k_ hk_.symm) ?aF ?aO ?aB ?aS ?aL ?_; (case aP => exact Kd.M_row (Kd.R_mono (Kd.R_tight rfl (Kd.R_mono (ok' := fun k_ => ((fun _ => True)) k_ ∧ some k_ ≠ (u7 : Value).ownBlock) (Kd.R_apart' (j0.out) (Kd.S_typed b0.out) (by decide)) (fun k_ hk => ⟨trivial, hk.2⟩))) (fun _ h_ => h_))); (case aB => exact (hB_)); (case aF => exact (fun _ _ => trivial)); (case aO => exact (by refine kS_ ?_; exact Kd.S_mono b0.out (fun k_ hk => ⟨trivial, fun e_ => hk.2 e_⟩))); (case aS => exact (ab (hB_))); (case aL => have := I0.out; omega); intro Q0 w9 ho hb hg hat; rw [← t0.out] at ho; have n_ := b_ (hb) <| c_ (ho); clear b0 j0 HB; obtain ⟨HB, y0⟩ := n_; clear ho hb hg hat))
  go_roundg k1
  case measure => have := G0.out; omega
  case rel => exact ⟨(J0), (wrap64 (d0 + 1)), f0_, H', ⟨by have := G0.out; omega⟩, ⟨rS_ y0.out⟩, ⟨hB_⟩⟩
 ·replace c5 := ya c5
  subst c5
  replace H := iF_ H
  obtain ⟨r0, R0, H⟩ := bN_ H
  obtain ⟨O0, H⟩ := iN_ H
  have B0 := aa.mk O0
  clear O0
  obtain ⟨L0, k0⟩ : ∃ y_ : List (List Int), y_ = (e0 ++ [r0]) := ⟨_, rfl⟩
  first | replace H := yb_ k0 H | rw [← k0] at H
  have C0 := aa.mk k0
  clear k0
  have H' := aa.mk H
  clear H
  go_wp2_with (first | ((with_reducible refine ae (f := 70) rfl ?_); refine aq (some 24) rfl rfl Tryz.func70 (by kernel_rfl) rfl #[.string a0, .int .i64 d0, .int .i64 a1] rfl aM_ ?_; (with_reducible refine (ap.calls k1 a0 d0 a1 r0 _ R0.out).mono ?_); rintro e U0 ⟨S0, rfl, u0, hb⟩; refine ⟨_, rfl, ?_⟩; have n_ := b_ (Kd.S_elder' (rS_ b0.out) (Kd.R_base u0) hb) <| b_ (Kd.R_lower u0 (ab (hB_))) <| c_ (ac (hB_) hb); clear b0 HB; obtain ⟨b0, p0, HB⟩ := n_; obtain ⟨D0, E0, M0⟩ := Kd.R_slice p0.out; subst M0) | ((with_reducible refine aV (b := .append) (xs := #[.tmp 20, .tmp 25]) rfl ?_); at_builtin; refine Kd.S_append (Kd.slice 3 (Kd.int .i64)) (w0 := w) w.heap.size rfl (.tmp 20) (.tmp 25) 34 38 (.slice none 0 0) 24 rfl Tryz.underlying34 gK rfl (by decide) (by omega) u7 e0 r0 [.slice D0 r0.length E0] (fun _ => True) (fun k_ => some k_ = (.slice D0 r0.length E0 : Value).ownBlock) rfl rfl ?aP (fun k_ hk_ => ((Kd.R_mono (ok' := fun k_ => ((fun _ => True)) k_ ∧ some k_ ≠ (u7 : Value).ownBlock) (Kd.R_apart' (p0.out) (Kd.S_typed b0.out) (by decide)) (fun k_ hk => ⟨trivial, hk.2⟩))).1 k_ hk_.symm) ?aF ?aO ?aB ?aS ?aL ?_; (case aP => exact Kd.M_row (Kd.R_mono (Kd.R_tight rfl (Kd.R_mono (ok' := fun k_ => ((fun _ => True)) k_ ∧ some k_ ≠ (u7 : Value).ownBlock) (Kd.R_apart' (p0.out) (Kd.S_typed b0.out) (by decide)) (fun k_ hk => ⟨trivial, hk.2⟩))) (fun _ h_ => h_))); (case aB => exact (hB_)); (case aF => exact (fun _ _ => trivial)); (case aO => exact (by refine kS_ ?_; exact Kd.S_mono b0.out (fun k_ hk => ⟨trivial, fun e_ => hk.2 e_⟩))); (case aS => exact (ab (hB_))); (case aL => have := B0.out; omega); intro T0 V0 ho hb hg hat; rw [← C0.out] at ho; have n_ := b_ (hb) <| c_ (ho); clear b0 p0 HB; obtain ⟨HB, F0⟩ := n_; clear ho hb hg hat))
  go_roundg k1
  case measure => have := G0.out; omega
  case rel => exact ⟨(L0), (wrap64 (d0 + 1)), f0_, H', ⟨by have := G0.out; omega⟩, ⟨rS_ F0.out⟩, ⟨hB_⟩⟩

/-! ### aA: function 9 -/
mutual
def aA.j0 : Nat → ByteArray → ByteArray → ByteArray → Bool → Option (ByteArray × Bool)
 | 0, _, _, _, _ => none
 | k + 1, x0, x1, x2, x29 => if x29 = true then (some ((⟨#[]⟩ : ByteArray), false)) else ((bn.f k x0).bind fun bt753 => (if 768 ≤ (x0.size : Int) then ((bC.f k x2 0).bind fun t757 => ((bT.f k t757).bind fun t760 => ((bC.f k x2 2).bind fun t763 => (aA.l0 k x1 x2 bt753.1 (x0.extract 768 x0.size) t760 t763 (⟨#[]⟩ : ByteArray) 0)))) else (none)))
def aA.l0 : Nat → ByteArray → ByteArray → List (List Int) → ByteArray → List (List Int) → List (List Int) → ByteArray → Int → Option (ByteArray × Bool)
 | 0, _, _, _, _, _, _, _, _ => none
 | k + 1, x1, x2, x8, x10, x11, x12, x13, x42 => if x42 < 2 then ((b7.f k x10 x42 true).bind fun t766 => ((bK.f k t766 x11).bind fun t769 => ((ai.f k t769).bind fun t772 => (if 0 ≤ x42 then (if x42 < (x12.length : Int) then ((bF.f k t772 (dg x12 x42)).bind fun t776 => ((bk.f k t776 10).bind fun t779 => ((ay.f k t779 10).bind fun t782 => (if x13.size + t782.size ≤ 9223372036854775807 then (aA.l0 k x1 x2 x8 x10 x11 x12 (x13 ++ t782) (wrap64 (x42 + 1))) else (none))))) else (none)) else (none))))) else ((bK.f k x8 x11).bind fun t783 => ((ai.f k t783).bind fun t786 => ((bE.f k x2 4).bind fun t789 => ((bF.f k t786 t789).bind fun t792 => ((bH.f k x1).bind fun t795 => ((bF.f k t792 t795).bind fun t798 => ((bk.f k t798 4).bind fun t801 => ((ay.f k t801 4).bind fun t804 => (if x13.size + t804.size ≤ 9223372036854775807 then (some (x13 ++ t804, true)) else (none))))))))))
end
def aA.f (k : Nat) (a0 : ByteArray) (a1 : ByteArray) (a2 : ByteArray) : Option (ByteArray × Bool) := (ci.f k a0).bind fun t752 => (if t752 = true then (if (a1.size : Int) = 32 then (aA.j0 k a0 a1 a2 ((a2.size : Int) != 32)) else (aA.j0 k a0 a1 a2 true)) else (aA.j0 k a0 a1 a2 true))
theorem aA.mono_l : ∀ k, (∀ y0 y1 y2 y3, LeO (aA.j0 k y0 y1 y2 y3) (aA.j0 (k + 1) y0 y1 y2 y3)) ∧ (∀ y0 y1 y2 y3 y4 y5 y6 y7, LeO (aA.l0 k y0 y1 y2 y3 y4 y5 y6 y7) (aA.l0 (k + 1) y0 y1 y2 y3 y4 y5 y6 y7))
 | 0 => ⟨fun _ _ _ _ r h => by simp [aA.j0] at h, fun _ _ _ _ _ _ _ _ r h => by simp [aA.l0] at h⟩
 | k + 1 => by
  obtain ⟨ih0, ih1⟩ := aA.mono_l k
  refine ⟨?_, ?_⟩ <;> (intros; (first | unfold aA.j0 | unfold aA.l0); exact qn ih0 ih1 ai.mono bF.mono ci.mono bE.mono bH.mono bK.mono bT.mono ay.mono bn.mono b7.mono bC.mono bk.mono)
theorem aA.mono : ∀ a0 a1 a2 k, LeO (aA.f k a0 a1 a2) (aA.f (k + 1) a0 a1 a2) := by
 intro a0 a1 a2 k
 obtain ⟨ih0, ih1⟩ := aA.mono_l k
 unfold aA.f
 exact qn ih0 ih1 ai.mono bF.mono ci.mono bE.mono bH.mono bK.mono bT.mono ay.mono bn.mono b7.mono bC.mono bk.mono
def aA.T10 : Bool × List (List Nat × List Nat) := (true, [([], []), ([], []), ([0, 1], [0, 1]), ([], []), ([2, 3, 2], [2, 3]), ([4, 4], [4]), ([], []), ([], []), ([6, 7], [6, 7]), ([8], [8]), ([5, 9, 5], [5, 9]), ([10, 10, 0, 1, 2, 3, 4, 5, 6, 7, 8, 9, 10], [10])])
def aA.B10 : List Nat := [0, 0, 3, 0, 15, 31, 0, 0, 192, 448, 1023, 2047]
theorem aA.tab10 : dW .any (eW Tryz.f9 10) = aA.T10 := by kernel_rfl
theorem aA.bits10 : cZ aA.T10.2 aA.B10 = true := by kernel_rfl
theorem aA.calls (k : Nat) (a0 : ByteArray) (a1 : ByteArray) (a2 : ByteArray) (r1 : ByteArray) (r2 : Bool) (w : World) (h : aA.f k a0 a1 a2 = some (r1, r2)) :
  Calls Tryz.prog 9 #[.string a0, .string a1, .string a2] w fun e w' => e = .returned (.tuple #[.string r1, .bool r2]) ∧ Below w.heap.size w w' := by
 have HB := aa.mk (xa w.heap.size w)
 delta aA.f at h
 have H := h
 clear h
 have M1 := aa.mk H
 clear H
 go_enter Tryz.func9, Tryz.ntmps9
 go_upto_region 1 with (fail)
 go_cut [29] (fun q3 wc => ∃ (kq : Nat) (P0 : Bool), q3 = .bool P0 ∧ aa (aA.j0 kq a0 a1 a2 P0 = some (r1, r2)) ∧ aa (kq ≤ k) ∧ aa (Below w.heap.size w wc))
 case first =>
  have H := M1.out
  clear M1
  obtain ⟨N1, A5, H⟩ := bN_ H
  by_cases c6 : N1 = true
  ·subst c6
   replace H := iT_ H
   by_cases c7 : (a1.size : Int) = 32
   ·rw [za c7] at H
    have S0 : ((a1.size : Int) == 32) = true := beq_iff_eq.mpr c7
    have O1 : ((a1.size : Int) != 32) = false := bne_eq_false_iff_eq.mpr c7
    clear c7
    (first | rw [S0] | (simp only [bB, cJ]; rw [S0]) | skip)
    have H' := aa.mk H
    clear H
    go_wp2_with (first | ((with_reducible refine ae (f := 27) rfl ?_); refine aq (some 18) rfl rfl Tryz.func27 (by kernel_rfl) rfl #[.string a0] rfl aM_ ?_; (with_reducible refine (ci.calls k a0 true _ A5.out).mono ?_); rintro e w8 ⟨rfl, hb⟩; refine ⟨_, rfl, ?_⟩; replace HB := aa.mk (ac (hB_) hb); (try clear hb)))
    go_meet
    case rel => exact ⟨_, (((a2.size : Int) != 32)), f0_, H', ⟨by first | omega | exact wa _⟩, ⟨hB_⟩⟩
   rw [Aa c7] at H
   have S0 : ((a1.size : Int) == 32) = false := beq_eq_false_iff_ne.mpr c7
   have O1 : ((a1.size : Int) != 32) = true := bne_iff_ne.mpr c7
   (first | rw [S0] | (simp only [bB, cJ]; rw [S0]) | skip)
   have H' := aa.mk H
   clear H
   go_wp2_with (first | ((with_reducible refine ae (f := 27) rfl ?_); refine aq (some 18) rfl rfl Tryz.func27 (by kernel_rfl) rfl #[.string a0] rfl aM_ ?_; (with_reducible refine (ci.calls k a0 true _ A5.out).mono ?_); rintro e w9 ⟨rfl, hb⟩; refine ⟨_, rfl, ?_⟩; replace HB := aa.mk (ac (hB_) hb); (try clear hb)))
   go_meet
   case rel => exact ⟨_, (true), f0_, H', ⟨by first | omega | exact wa _⟩, ⟨hB_⟩⟩
  ·replace c6 := ya c6
   subst c6
   replace H := iF_ H
   have H' := aa.mk H
   clear H
   go_wp2_with (first | ((with_reducible refine ae (f := 27) rfl ?_); refine aq (some 18) rfl rfl Tryz.func27 (by kernel_rfl) rfl #[.string a0] rfl aM_ ?_; (with_reducible refine (ci.calls k a0 false _ A5.out).mono ?_); rintro e e4 ⟨rfl, hb⟩; refine ⟨_, rfl, ?_⟩; replace HB := aa.mk (ac (hB_) hb); (try clear hb)))
   go_meet
   case rel => exact ⟨_, (true), f0_, H', ⟨by first | omega | exact wa _⟩, ⟨hB_⟩⟩
 clear M1
 obtain ⟨kq, P0, rfl, HA, Y2, HB⟩ := hcut
 rcases kq with _ | A1
 ·exact absurd HA.out (by simp [aA.j0])
 have H := HA.out
 clear HA
 simp only [aA.j0] at H
 by_cases L1 : P0 = true
 ·subst L1
  replace H := iT_ H
  simp only [Option.some.injEq, Prod.mk.injEq] at H
  obtain ⟨rfl, rfl⟩ := H
  go_wp2
  go_ret2
  exact ⟨f1_, hB_⟩
 ·replace L1 := ya L1
  subst L1
  replace H := iF_ H
  obtain ⟨⟨T0, P1⟩, r3, H⟩ := bN_ H
  obtain ⟨Q1, H⟩ := iN_ H
  have Z2 := va Q1
  have b3 := ta Q1
  clear Q1
  obtain ⟨Z0, t3, H⟩ := bN_ H
  obtain ⟨O0, u3, H⟩ := bN_ H
  obtain ⟨M0, v3, H⟩ := bN_ H
  have H' := aa.mk H
  clear H
  go_wp2_with (first | ((with_reducible refine ae (f := 28) rfl ?_); refine aq (some 32) rfl rfl Tryz.func28 (by kernel_rfl) rfl #[.string a0] rfl aM_ ?_; (with_reducible refine (bn.calls A1 a0 T0 P1 _ r3.out).mono ?_); rintro e f4 ⟨b1, rfl, k0, hb⟩; refine ⟨_, rfl, ?_⟩; have n_ := b_ (Kd.S_lower k0 (ab (hB_))) <| c_ (ac (hB_) hb); clear HB; obtain ⟨D0, HB⟩ := n_; (try clear k0)) | ((with_reducible refine ae (f := 30) rfl ?_); refine aq (some 38) rfl rfl Tryz.func30 (by kernel_rfl) rfl #[.string a2, .int .i64 0] rfl aM_ ?_; (with_reducible refine (bC.calls A1 a2 0 Z0 _ t3.out).mono ?_); rintro e g4 ⟨w3, rfl, k0, hb⟩; refine ⟨_, rfl, ?_⟩; have n_ := b_ (Kd.S_elder' (rS_ D0.out) (Kd.S_base k0) hb) <| b_ (Kd.S_lower (Kd.S_new' k0 (Kd.S_lt (rS_ D0.out))) (ab (hB_))) <| c_ (ac (hB_) hb); clear D0 HB; obtain ⟨D0, E0, HB⟩ := n_; obtain ⟨R1, S1, T1⟩ := Kd.S_slice E0.out; subst T1) | ((with_reducible refine ae (f := 29) rfl ?_); refine aq (some 39) rfl rfl Tryz.func29 (by kernel_rfl) rfl #[.slice R1 Z0.length S1] rfl aM_ ?_; (with_reducible refine (bT.calls A1 _ _ Z0 O0 _ ?side1 ?side2 u3.out).mono ?_); (case side1 => exact cR_ (Kd.S_reads' E0.out).2.2); (case side2 => exact (Kd.S_reads' E0.out).2.1); rintro e i4 ⟨c1, rfl, k0, hb⟩; refine ⟨_, rfl, ?_⟩; have n_ := b_ (Kd.S_elder' (rS_ D0.out) (Kd.S_base k0) hb) <| b_ (Kd.S_elder' (rS_ E0.out) (Kd.S_base k0) hb) <| b_ (Kd.S_lower (Kd.S_new' (Kd.S_new' k0 (Kd.S_lt (rS_ D0.out))) (Kd.S_lt (rS_ E0.out))) (ab (hB_))) <| c_ (ac (hB_) hb); clear D0 E0 HB; obtain ⟨D0, E0, N0, HB⟩ := n_; (try clear k0)) | ((with_reducible refine ae (f := 30) rfl ?_); refine aq (some 41) rfl rfl Tryz.func30 (by kernel_rfl) rfl #[.string a2, .int .i64 2] rfl aM_ ?_; (with_reducible refine (bC.calls A1 a2 2 M0 _ v3.out).mono ?_); rintro e l4 ⟨d1, rfl, k0, hb⟩; refine ⟨_, rfl, ?_⟩; have n_ := b_ (Kd.S_elder' (rS_ D0.out) (Kd.S_base k0) hb) <| b_ (Kd.S_elder' (rS_ E0.out) (Kd.S_base k0) hb) <| b_ (Kd.S_elder' (rS_ N0.out) (Kd.S_base k0) hb) <| b_ (Kd.S_lower (Kd.S_new' (Kd.S_new' (Kd.S_new' k0 (Kd.S_lt (rS_ D0.out))) (Kd.S_lt (rS_ E0.out))) (Kd.S_lt (rS_ N0.out))) (ab (hB_))) <| c_ (ac (hB_) hb); clear D0 E0 N0 HB; obtain ⟨D0, E0, N0, C1, HB⟩ := n_; (try clear k0)))
  go_loopg [13, 42] A1 (fun kq y3 z3 w' => ∃ (I0 : ByteArray) (y0 : Int), y3 = .string I0 ∧ z3 = .int .i64 y0 ∧ aa (aA.l0 kq a1 a2 T0 (a0.extract 768 a0.size) O0 M0 I0 y0 = some (r1, r2)) ∧ aa (kq ≤ A1) ∧ aa (Kd.S (Kd.slice 3 (Kd.int .i64)) 38 w' w.heap.size (fun k_ => some k_ ≠ (c1 : Value).ownBlock ∧ some k_ ≠ (d1 : Value).ownBlock) b1 T0) ∧ aa (Kd.S (Kd.slice 3 (Kd.int .i64)) 38 w' w.heap.size (fun k_ => some k_ ≠ (b1 : Value).ownBlock ∧ some k_ ≠ (d1 : Value).ownBlock) c1 O0) ∧ aa (Kd.S (Kd.slice 3 (Kd.int .i64)) 38 w' w.heap.size (fun k_ => some k_ ≠ (b1 : Value).ownBlock ∧ some k_ ≠ (c1 : Value).ownBlock) d1 M0) ∧ aa (Below w.heap.size w w'))
  case atStart => exact ⟨((⟨#[]⟩ : ByteArray)), (0), f0_, f0_, H', ⟨wa _⟩, ⟨by refine kS_ ?_; exact Kd.S_mono D0.out (fun _ hk => ⟨hk.1.2, hk.2⟩)⟩, ⟨by refine kS_ ?_; exact Kd.S_mono N0.out (fun _ hk => ⟨hk.1.1.2, hk.2⟩)⟩, ⟨by refine kS_ ?_; exact Kd.S_mono C1.out (fun _ hk => ⟨hk.1.1.2, hk.2⟩)⟩, ⟨hB_⟩⟩
  clear H'
  obtain ⟨I0, y0, rfl, rfl, HA, c3, p0, b0, d0, HB⟩ := hrel
  rcases gk with _ | k2
  ·exact absurd HA.out (by simp [aA.l0])
  have H := HA.out
  clear HA
  simp only [aA.l0] at H
  by_cases B1 : y0 < 2
  rotate_left
  ·rw [Aa B1] at H
   have D1 := ua B1
   clear B1
   obtain ⟨e1, A3, H⟩ := bN_ H
   obtain ⟨f1, B3, H⟩ := bN_ H
   obtain ⟨g1, C3, H⟩ := bN_ H
   obtain ⟨i1, D3, H⟩ := bN_ H
   obtain ⟨j1, E3, H⟩ := bN_ H
   obtain ⟨l1, F3, H⟩ := bN_ H
   obtain ⟨m1, G3, H⟩ := bN_ H
   obtain ⟨E1, H3, H⟩ := bN_ H
   obtain ⟨U1, H⟩ := iN_ H
   have e3 := va U1
   have f3 := ta U1
   try have g3 : (9223372036854775807 < I0.size + E1.size) = False := eq_false (Nat.not_lt.2 U1)
   simp only [Option.some.injEq, Prod.mk.injEq] at H
   obtain ⟨rfl, rfl⟩ := H
   obtain ⟨V1, X1, Y1⟩ := Kd.S_slice p0.out
   subst Y1
   obtain ⟨Z1, b2, c2⟩ := Kd.S_slice b0.out
   subst c2
   go_wp2_with (first | ((with_reducible refine ae (f := 33) rfl ?_); refine aq (some 64) rfl rfl Tryz.func33 (by kernel_rfl) rfl #[.slice V1 T0.length X1, .slice Z1 O0.length b2] rfl aM_ ?_; (with_reducible refine (bK.calls k2 _ _ T0 _ _ O0 e1 _ ?side1 ?side2 ?side3 ?side4 A3.out).mono ?_); (case side1 => exact cR_ (Kd.S_reads' p0.out).2.2); (case side2 => exact (Kd.S_reads' p0.out).2.1); (case side3 => exact cR_ (Kd.S_reads' b0.out).2.2); (case side4 => exact (Kd.S_reads' b0.out).2.1); rintro e n4 ⟨I3, rfl, k0, hb⟩; refine ⟨_, rfl, ?_⟩; have n_ := b_ (Kd.S_elder' (rS_ p0.out) (Kd.R_base k0) hb) <| b_ (Kd.S_elder' (rS_ b0.out) (Kd.R_base k0) hb) <| b_ (Kd.S_elder' (rS_ d0.out) (Kd.R_base k0) hb) <| b_ (Kd.R_lower k0 (ab (hB_))) <| c_ (ac (hB_) hb); clear p0 b0 d0 HB; obtain ⟨p0, b0, d0, q0, HB⟩ := n_; obtain ⟨e2, f2, g2⟩ := Kd.R_slice q0.out; subst g2) | ((with_reducible refine ae (f := 32) rfl ?_); refine aq (some 65) rfl rfl Tryz.func32 (by kernel_rfl) rfl #[.slice e2 e1.length f2] rfl aM_ ?_; (with_reducible refine (ai.calls k2 _ _ e1 f1 _ ?side1 ?side2 B3.out).mono ?_); (case side1 => exact cR_ (Kd.R_reads' q0.out).2.2); (case side2 => exact (Kd.R_reads' q0.out).2.1); rintro e q4 ⟨J3, rfl, k0, hb⟩; refine ⟨_, rfl, ?_⟩; have n_ := b_ (Kd.S_elder' (rS_ p0.out) (Kd.R_base k0) hb) <| b_ (Kd.S_elder' (rS_ b0.out) (Kd.R_base k0) hb) <| b_ (Kd.S_elder' (rS_ d0.out) (Kd.R_base k0) hb) <| b_ (Kd.R_elder' (rR_ q0.out) (Kd.R_base k0) hb) <| b_ (Kd.R_lower (Kd.R_new' k0 (Kd.R_lt (rR_ q0.out))) (ab (hB_))) <| c_ (ac (hB_) hb); clear p0 b0 d0 q0 HB; obtain ⟨p0, b0, d0, q0, r0, HB⟩ := n_; (try clear k0)) | ((with_reducible refine ae (f := 37) rfl ?_); refine aq (some 67) rfl rfl Tryz.func37 (by kernel_rfl) rfl #[.string a2, .int .i64 4] rfl aM_ ?_; (with_reducible refine (bE.calls k2 a2 4 g1 _ C3.out).mono ?_); rintro e t4 ⟨K3, rfl, k0, hb⟩; refine ⟨_, rfl, ?_⟩; have n_ := b_ (Kd.S_elder' (rS_ p0.out) (Kd.R_base k0) hb) <| b_ (Kd.S_elder' (rS_ b0.out) (Kd.R_base k0) hb) <| b_ (Kd.S_elder' (rS_ d0.out) (Kd.R_base k0) hb) <| b_ (Kd.R_elder' (rR_ q0.out) (Kd.R_base k0) hb) <| b_ (Kd.R_elder' (rR_ r0.out) (Kd.R_base k0) hb) <| b_ (Kd.R_lower (Kd.R_new' (Kd.R_new' k0 (Kd.R_lt (rR_ q0.out))) (Kd.R_lt (rR_ r0.out))) (ab (hB_))) <| c_ (ac (hB_) hb); clear p0 b0 d0 q0 r0 HB; obtain ⟨p0, b0, d0, q0, r0, t0, HB⟩ := n_; obtain ⟨i2, j2, l2⟩ := Kd.R_slice r0.out; subst l2; obtain ⟨m2, n2, p2⟩ := Kd.R_slice t0.out; subst p2) | ((with_reducible refine ae (f := 31) rfl ?_); refine aq (some 68) rfl rfl Tryz.func31 (by kernel_rfl) rfl #[.slice i2 f1.length j2, .slice m2 g1.length n2] rfl aM_ ?_; (with_reducible refine (bF.calls k2 _ _ f1 _ _ g1 i1 _ ?side1 ?side2 ?side3 ?side4 D3.out).mono ?_); (case side1 => exact cR_ (Kd.R_reads' r0.out).2.2); (case side2 => exact (Kd.R_reads' r0.out).2.1); (case side3 => exact cR_ (Kd.R_reads' t0.out).2.2); (case side4 => exact (Kd.R_reads' t0.out).2.1); rintro e u4 ⟨L3, rfl, k0, hb⟩; refine ⟨_, rfl, ?_⟩; have n_ := b_ (Kd.S_elder' (rS_ p0.out) (Kd.R_base k0) hb) <| b_ (Kd.S_elder' (rS_ b0.out) (Kd.R_base k0) hb) <| b_ (Kd.S_elder' (rS_ d0.out) (Kd.R_base k0) hb) <| b_ (Kd.R_elder' (rR_ q0.out) (Kd.R_base k0) hb) <| b_ (Kd.R_elder' (rR_ r0.out) (Kd.R_base k0) hb) <| b_ (Kd.R_elder' (rR_ t0.out) (Kd.R_base k0) hb) <| b_ (Kd.R_lower (Kd.R_new' (Kd.R_new' (Kd.R_new' k0 (Kd.R_lt (rR_ q0.out))) (Kd.R_lt (rR_ r0.out))) (Kd.R_lt (rR_ t0.out))) (ab (hB_))) <| c_ (ac (hB_) hb); clear p0 b0 d0 q0 r0 t0 HB; obtain ⟨p0, b0, d0, q0, r0, t0, u0, HB⟩ := n_; (try clear k0)) | ((with_reducible refine ae (f := 38) rfl ?_); refine aq (some 70) rfl rfl Tryz.func38 (by kernel_rfl) rfl #[.string a1] rfl aM_ ?_; (with_reducible refine (bH.calls k2 a1 j1 _ E3.out).mono ?_); rintro e v4 ⟨M3, rfl, k0, hb⟩; refine ⟨_, rfl, ?_⟩; have n_ := b_ (Kd.S_elder' (rS_ p0.out) (Kd.R_base k0) hb) <| b_ (Kd.S_elder' (rS_ b0.out) (Kd.R_base k0) hb) <| b_ (Kd.S_elder' (rS_ d0.out) (Kd.R_base k0) hb) <| b_ (Kd.R_elder' (rR_ q0.out) (Kd.R_base k0) hb) <| b_ (Kd.R_elder' (rR_ r0.out) (Kd.R_base k0) hb) <| b_ (Kd.R_elder' (rR_ t0.out) (Kd.R_base k0) hb) <| b_ (Kd.R_elder' (rR_ u0.out) (Kd.R_base k0) hb) <| b_ (Kd.R_lower (Kd.R_new' (Kd.R_new' (Kd.R_new' (Kd.R_new' k0 (Kd.R_lt (rR_ q0.out))) (Kd.R_lt (rR_ r0.out))) (Kd.R_lt (rR_ t0.out))) (Kd.R_lt (rR_ u0.out))) (ab (hB_))) <| c_ (ac (hB_) hb); clear p0 b0 d0 q0 r0 t0 u0 HB; obtain ⟨p0, b0, d0, q0, r0, t0, u0, B0, HB⟩ := n_; obtain ⟨q2, t2, u2⟩ := Kd.R_slice u0.out; subst u2; obtain ⟨v2, y2, z2⟩ := Kd.R_slice B0.out; subst z2) | ((with_reducible refine ae (f := 31) rfl ?_); refine aq (some 71) rfl rfl Tryz.func31 (by kernel_rfl) rfl #[.slice q2 i1.length t2, .slice v2 j1.length y2] rfl aM_ ?_; (with_reducible refine (bF.calls k2 _ _ i1 _ _ j1 l1 _ ?side1 ?side2 ?side3 ?side4 F3.out).mono ?_); (case side1 => exact cR_ (Kd.R_reads' u0.out).2.2); (case side2 => exact (Kd.R_reads' u0.out).2.1); (case side3 => exact cR_ (Kd.R_reads' B0.out).2.2); (case side4 => exact (Kd.R_reads' B0.out).2.1); rintro e w4 ⟨N3, rfl, k0, hb⟩; refine ⟨_, rfl, ?_⟩; have n_ := b_ (Kd.S_elder' (rS_ p0.out) (Kd.R_base k0) hb) <| b_ (Kd.S_elder' (rS_ b0.out) (Kd.R_base k0) hb) <| b_ (Kd.S_elder' (rS_ d0.out) (Kd.R_base k0) hb) <| b_ (Kd.R_elder' (rR_ q0.out) (Kd.R_base k0) hb) <| b_ (Kd.R_elder' (rR_ r0.out) (Kd.R_base k0) hb) <| b_ (Kd.R_elder' (rR_ t0.out) (Kd.R_base k0) hb) <| b_ (Kd.R_elder' (rR_ u0.out) (Kd.R_base k0) hb) <| b_ (Kd.R_elder' (rR_ B0.out) (Kd.R_base k0) hb) <| b_ (Kd.R_lower (Kd.R_new' (Kd.R_new' (Kd.R_new' (Kd.R_new' (Kd.R_new' k0 (Kd.R_lt (rR_ q0.out))) (Kd.R_lt (rR_ r0.out))) (Kd.R_lt (rR_ t0.out))) (Kd.R_lt (rR_ u0.out))) (Kd.R_lt (rR_ B0.out))) (ab (hB_))) <| c_ (ac (hB_) hb); clear p0 b0 d0 q0 r0 t0 u0 B0 HB; obtain ⟨p0, b0, d0, q0, r0, t0, u0, B0, F0, HB⟩ := n_; obtain ⟨A2, B2, C2⟩ := Kd.R_slice F0.out; subst C2) | ((with_reducible refine ae (f := 36) rfl ?_); refine aq (some 74) rfl rfl Tryz.func36 (by kernel_rfl) rfl #[.slice A2 l1.length B2, .int .i64 4] rfl aM_ ?_; (with_reducible refine (bk.calls k2 _ _ l1 4 m1 _ ?side1 ?side2 G3.out).mono ?_); (case side1 => exact cR_ (Kd.R_reads' F0.out).2.2); (case side2 => exact (Kd.R_reads' F0.out).2.1); rintro e y4 ⟨O3, rfl, k0, hb⟩; refine ⟨_, rfl, ?_⟩; have n_ := b_ (Kd.S_elder' (rS_ p0.out) (Kd.R_base k0) hb) <| b_ (Kd.S_elder' (rS_ b0.out) (Kd.R_base k0) hb) <| b_ (Kd.S_elder' (rS_ d0.out) (Kd.R_base k0) hb) <| b_ (Kd.R_elder' (rR_ q0.out) (Kd.R_base k0) hb) <| b_ (Kd.R_elder' (rR_ r0.out) (Kd.R_base k0) hb) <| b_ (Kd.R_elder' (rR_ t0.out) (Kd.R_base k0) hb) <| b_ (Kd.R_elder' (rR_ u0.out) (Kd.R_base k0) hb) <| b_ (Kd.R_elder' (rR_ B0.out) (Kd.R_base k0) hb) <| b_ (Kd.R_elder' (rR_ F0.out) (Kd.R_base k0) hb) <| b_ (Kd.R_lower (Kd.R_new' (Kd.R_new' (Kd.R_new' (Kd.R_new' (Kd.R_new' (Kd.R_new' k0 (Kd.R_lt (rR_ q0.out))) (Kd.R_lt (rR_ r0.out))) (Kd.R_lt (rR_ t0.out))) (Kd.R_lt (rR_ u0.out))) (Kd.R_lt (rR_ B0.out))) (Kd.R_lt (rR_ F0.out))) (ab (hB_))) <| c_ (ac (hB_) hb); clear p0 b0 d0 q0 r0 t0 u0 B0 F0 HB; obtain ⟨p0, b0, d0, q0, r0, t0, u0, B0, F0, J0, HB⟩ := n_; obtain ⟨D2, E2, F2⟩ := Kd.R_slice J0.out; subst F2) | ((with_reducible refine ae (f := 35) rfl ?_); refine aq (some 75) rfl rfl Tryz.func35 (by kernel_rfl) rfl #[.slice D2 m1.length E2, .int .i64 4] rfl aM_ ?_; (with_reducible refine (ay.calls k2 _ _ m1 4 E1 _ ?side1 ?side2 H3.out).mono ?_); (case side1 => exact cR_ (Kd.R_reads' J0.out).2.2); (case side2 => exact (Kd.R_reads' J0.out).2.1); rintro e z4 ⟨rfl, hb⟩; refine ⟨_, rfl, ?_⟩; have n_ := b_ (Kd.S_below (rS_ p0.out) hb) <| b_ (Kd.S_below (rS_ b0.out) hb) <| b_ (Kd.S_below (rS_ d0.out) hb) <| b_ (Kd.R_below (rR_ q0.out) hb) <| b_ (Kd.R_below (rR_ r0.out) hb) <| b_ (Kd.R_below (rR_ t0.out) hb) <| b_ (Kd.R_below (rR_ u0.out) hb) <| b_ (Kd.R_below (rR_ B0.out) hb) <| b_ (Kd.R_below (rR_ F0.out) hb) <| b_ (Kd.R_below (rR_ J0.out) hb) <| c_ (ac (hB_) hb); clear p0 b0 d0 q0 r0 t0 u0 B0 F0 J0 HB; obtain ⟨p0, b0, d0, q0, r0, t0, u0, B0, F0, J0, HB⟩ := n_; (try clear hb)))
   go_ret2
   exact ⟨f1_, hB_⟩
  rw [za B1] at H
  have D1 := ta B1
  clear B1
  obtain ⟨n1, P3, H⟩ := bN_ H
  obtain ⟨p1, Q3, H⟩ := bN_ H
  obtain ⟨q1, R3, H⟩ := bN_ H
  obtain ⟨i3, H⟩ := iD_ H
  obtain ⟨l3, H⟩ := iD_ H
  obtain ⟨t1, S3, H⟩ := bN_ H
  obtain ⟨y1, T3, H⟩ := bN_ H
  obtain ⟨z1, U3, H⟩ := bN_ H
  obtain ⟨G2, H⟩ := iN_ H
  have m3 := va G2
  have n3 := ta G2
  try have p3 : (9223372036854775807 < I0.size + z1.size) = False := eq_false (Nat.not_lt.2 G2)
  have H' := aa.mk H
  clear H
  try go_wp2
  have n_ := b_ (Kd.S_drew p0.out) <| b_ (Kd.S_drew b0.out) <| b_ (Kd.S_drew d0.out) <| c_ (bX HB.out)
  clear p0 b0 d0 HB
  obtain ⟨p0, b0, d0, HB⟩ := n_
  obtain ⟨V3, W3, F1⟩ := Kd.S_slice d0.out
  (first | subst F1 | (injection F1 with f1_ f2_ f3_; have f4_ := f1_.symm; have f5_ := f3_.symm; clear f1_ f2_ f3_; subst f4_; subst f5_))
  have W0 : 0 ≤ (y0 : Int) := oD_
  have X0 : y0 < (M0.length : Int) := oD_
  obtain ⟨G1, U0, V0, H2, L0, Q0, R0⟩ := k9 (Kd.S_reads' d0.out).2.2 y0 W0 X0
  cases H2
  obtain ⟨ce775, hce775, hMe775, hcc775⟩ := Kd.S_get d0.out [] y0 W0 (by first | exact X0 | exact oD_ | (have e_ := (Kd.S_reads' d0.out).1; omega))
  obtain ⟨ve775_0, rfl, ge775_0⟩ := hMe775
  have H0 := hcc775 0 _ rfl
  rw [Nat.add_zero, show ((Kd.slice 3 (Kd.int .i64))).sz = 1 from rfl, Nat.mul_one] at H0
  replace H0 := sI (H0.symm.trans L0)
  rw [H0] at ge775_0
  have f0 := aa.mk (show Kd.R (Kd.int .i64) 3 _ _ _ _ (dg M0 y0) from ge775_0)
  clear H0 ge775_0
  clear hcc775 hce775
  have e0 := aa.mk R0
  have Y0 := aa.mk Q0
  clear R0 Q0
  replace W0 := va W0
  replace X0 := va X0
  refine dY (n := 12) (S := fun w' => w'.cell? (G1.add (y0).toNat) = some (.slice U0 (dg M0 y0).length V0)) (ds := []) (bb_ 12 0) (by kernel_rfl) rfl rfl (L0) (fun hHeld => ?_); refine cM aA.tab10 aA.bits10 (fun HT_ HW_ => ?_)
  generalize wr.drew = A4 at p0 b0 d0 HB f0 e0 L0 hHeld ⊢
  refine pS_ 0 45 (bb_ 12 1) HT_.out ?_
  refine pS_ 1 46 (bb_ 12 3) HT_.out ?_
  refine pS_ 3 48 (bb_ 12 11) HT_.out ?_
  refine pS_ 6 51 (bb_ 12 75) HT_.out ?_
  refine pS_ 7 52 (bb_ 12 203) HT_.out ?_
  refine pS_ 8 53 (bb_ 12 459) HT_.out ?_
  refine tS_ 9 54 (bb_ 12 971) (bA HT_.out HW_.out (by kernel_rfl)) hHeld ?_
  refine fC (i := 2) (N := some 47) (bb_ 12 975) rfl rfl (cC HT_.out (by kernel_rfl)) (by decide) (fun K hK => ?_)
  refine fj Tryz.func34 (by kernel_rfl) rfl #[.string (a0.extract 768 a0.size), .int .i64 y0, .bool true] (by rfl) rfl rfl aM_ ?_
  with_reducible refine (b7.calls k2 (a0.extract 768 a0.size) y0 true n1 _ P3.out).mono ?_
  rintro e B4 ⟨X3, rfl, k0, hb⟩
  have HS0_ := (hb.cell (World.block_lt_of_cell? _ _ (hHeld))).trans (hHeld)
  refine ⟨_, rfl, ?_⟩
  have n_ := b_ (Kd.S_elder' (rS_ p0.out) (Kd.S_base k0) hb) <| b_ (Kd.S_elder' (rS_ b0.out) (Kd.S_base k0) hb) <| b_ (Kd.S_elder' (rS_ d0.out) (Kd.S_base k0) hb) <| b_ (Kd.R_below (rR_ f0.out) hb) <| b_ (Kd.S_lower (Kd.S_new' (Kd.S_new' (Kd.S_new' (Kd.S_new' k0 (Kd.S_lt (rS_ p0.out))) (Kd.S_lt (rS_ b0.out))) (Kd.S_lt (rS_ d0.out))) (Kd.R_lt (rR_ f0.out))) (ab (hB_))) <| b_ (Kd.C_below (by repeat (first | (with_reducible exact e0.out) | (with_reducible refine Kd.C_alloc ?_ _) | (with_reducible refine Kd.C_drewN ?_ _) | (with_reducible refine Kd.C_drew ?_) | exact e0.out)) hb) <| c_ (ac (hB_) hb)
  clear p0 b0 d0 f0 e0 HB
  obtain ⟨p0, b0, d0, f0, v0, e0, HB⟩ := n_
  obtain ⟨I2, J2, H1⟩ := Kd.S_slice v0.out
  (first | subst H1 | (injection H1 with f1_ f2_ f3_; have f4_ := f1_.symm; have f5_ := f3_.symm; clear f1_ f2_ f3_; subst f4_; subst f5_))
  obtain ⟨K2, L2, I1⟩ := Kd.S_slice b0.out
  (first | subst I1 | (injection I1 with f1_ f2_ f3_; have f4_ := f1_.symm; have f5_ := f3_.symm; clear f1_ f2_ f3_; subst f4_; subst f5_))
  refine hK.out _ _ (HS0_) (fun hHeld => ?_)
  clear hK K
  refine dV (a' := ?_) ?_ ?_
  rotate_left
  ·show Act.put _ (some 47) _ = _
   simp only [Act.put, List.setIfInBounds_toArray, List.set_cons_zero, List.set_cons_succ, bB, cJ]
   rfl
  refine fC (i := 4) (N := some 49) (bb_ 12 991) rfl rfl (cC HT_.out (by kernel_rfl)) (by decide) (fun K hK => ?_)
  refine fj Tryz.func33 (by kernel_rfl) rfl #[.slice I2 n1.length J2, .slice K2 O0.length L2] (by rfl) rfl rfl aM_ ?_
  with_reducible refine (bK.calls k2 _ _ n1 _ _ O0 p1 _ ?side1 ?side2 ?side3 ?side4 Q3.out).mono ?_
  (case side1 => exact cR_ (Kd.S_reads' v0.out).2.2)
  (case side2 => exact (Kd.S_reads' v0.out).2.1)
  (case side3 => exact cR_ (Kd.S_reads' b0.out).2.2)
  (case side4 => exact (Kd.S_reads' b0.out).2.1)
  rintro e C4 ⟨Y3, rfl, k0, hb⟩
  have HS0_ := (hb.cell (World.block_lt_of_cell? _ _ (hHeld))).trans (hHeld)
  refine ⟨_, rfl, ?_⟩
  have n_ := b_ (Kd.S_elder' (rS_ p0.out) (Kd.R_base k0) hb) <| b_ (Kd.S_elder' (rS_ b0.out) (Kd.R_base k0) hb) <| b_ (Kd.S_elder' (rS_ d0.out) (Kd.R_base k0) hb) <| b_ (Kd.R_elder' (rR_ f0.out) (Kd.R_base k0) hb) <| b_ (Kd.S_elder' (rS_ v0.out) (Kd.R_base k0) hb) <| b_ (Kd.R_lower (Kd.R_new' k0 (Kd.R_lt (rR_ f0.out))) (ab (hB_))) <| b_ (Kd.C_below (by repeat (first | (with_reducible exact e0.out) | (with_reducible refine Kd.C_alloc ?_ _) | (with_reducible refine Kd.C_drewN ?_ _) | (with_reducible refine Kd.C_drew ?_) | exact e0.out)) hb) <| c_ (ac (hB_) hb)
  clear p0 b0 d0 f0 v0 e0 HB
  obtain ⟨p0, b0, d0, f0, v0, x0, e0, HB⟩ := n_
  obtain ⟨M2, N2, J1⟩ := Kd.R_slice x0.out
  (first | subst J1 | (injection J1 with f1_ f2_ f3_; have f4_ := f1_.symm; have f5_ := f3_.symm; clear f1_ f2_ f3_; subst f4_; subst f5_))
  refine hK.out _ _ (HS0_) (fun hHeld => ?_)
  clear hK K
  refine dV (a' := ?_) ?_ ?_
  rotate_left
  ·show Act.put _ (some 49) _ = _
   simp only [Act.put, List.setIfInBounds_toArray, List.set_cons_zero, List.set_cons_succ, bB, cJ]
   rfl
  refine fC (i := 5) (N := some 50) (bb_ 12 1023) rfl rfl (cC HT_.out (by kernel_rfl)) (by decide) (fun K hK => ?_)
  refine fj Tryz.func32 (by kernel_rfl) rfl #[.slice M2 p1.length N2] (by rfl) rfl rfl aM_ ?_
  with_reducible refine (ai.calls k2 _ _ p1 q1 _ ?side1 ?side2 R3.out).mono ?_
  (case side1 => exact cR_ (Kd.R_reads' x0.out).2.2)
  (case side2 => exact (Kd.R_reads' x0.out).2.1)
  rintro e D4 ⟨Z3, rfl, k0, hb⟩
  have HS0_ := (hb.cell (World.block_lt_of_cell? _ _ (hHeld))).trans (hHeld)
  refine ⟨_, rfl, ?_⟩
  have n_ := b_ (Kd.S_elder' (rS_ p0.out) (Kd.R_base k0) hb) <| b_ (Kd.S_elder' (rS_ b0.out) (Kd.R_base k0) hb) <| b_ (Kd.S_elder' (rS_ d0.out) (Kd.R_base k0) hb) <| b_ (Kd.R_elder' (rR_ f0.out) (Kd.R_base k0) hb) <| b_ (Kd.S_elder' (rS_ v0.out) (Kd.R_base k0) hb) <| b_ (Kd.R_elder' (rR_ x0.out) (Kd.R_base k0) hb) <| b_ (Kd.R_lower (Kd.R_new' (Kd.R_new' k0 (Kd.R_lt (rR_ f0.out))) (Kd.R_lt (rR_ x0.out))) (ab (hB_))) <| b_ (Kd.C_below (by repeat (first | (with_reducible exact e0.out) | (with_reducible refine Kd.C_alloc ?_ _) | (with_reducible refine Kd.C_drewN ?_ _) | (with_reducible refine Kd.C_drew ?_) | exact e0.out)) hb) <| c_ (ac (hB_) hb)
  clear p0 b0 d0 f0 v0 x0 e0 HB
  obtain ⟨p0, b0, d0, f0, v0, x0, C0, e0, HB⟩ := n_
  obtain ⟨O2, P2, K1⟩ := Kd.R_slice C0.out
  (first | subst K1 | (injection K1 with f1_ f2_ f3_; have f4_ := f1_.symm; have f5_ := f3_.symm; clear f1_ f2_ f3_; subst f4_; subst f5_))
  refine hK.out _ _ (HS0_) (fun hHeld => ?_)
  clear hK K
  refine dV (a' := ?_) ?_ ?_
  rotate_left
  ·show Act.put _ (some 50) _ = _
   simp only [Act.put, List.setIfInBounds_toArray, List.set_cons_zero, List.set_cons_succ, bB, cJ]
   rfl
  refine fC (i := 10) (N := some 55) (bb_ 12 2047) rfl rfl (cC HT_.out (by kernel_rfl)) (by decide) (fun K hK => ?_)
  refine fj Tryz.func31 (by kernel_rfl) rfl #[.slice O2 q1.length P2, .slice U0 (dg M0 y0).length V0] (by rfl) rfl rfl aM_ ?_
  with_reducible refine (bF.calls k2 _ _ q1 _ _ (dg M0 y0) t1 _ ?side1 ?side2 ?side3 ?side4 S3.out).mono ?_
  (case side1 => exact cR_ (Kd.R_reads' C0.out).2.2)
  (case side2 => exact (Kd.R_reads' C0.out).2.1)
  (case side3 => repeat (first | exact (by repeat (first | (with_reducible exact e0.out) | (with_reducible refine Kd.C_alloc ?_ _) | (with_reducible refine Kd.C_drewN ?_ _) | (with_reducible refine Kd.C_drew ?_) | exact e0.out)) | (with_reducible refine Kd.C_alloc ?_ _) | (with_reducible refine Kd.C_drewN ?_ _) | (with_reducible refine Kd.C_drew ?_)))
  (case side4 => exact Y0.out)
  rintro e E4 ⟨b4, rfl, k0, hb⟩
  have HS0_ := (hb.cell (World.block_lt_of_cell? _ _ (hHeld))).trans (hHeld)
  refine ⟨_, rfl, ?_⟩
  have n_ := b_ (Kd.S_elder' (rS_ p0.out) (Kd.R_base k0) hb) <| b_ (Kd.S_elder' (rS_ b0.out) (Kd.R_base k0) hb) <| b_ (Kd.S_elder' (rS_ d0.out) (Kd.R_base k0) hb) <| b_ (Kd.R_elder' (rR_ f0.out) (Kd.R_base k0) hb) <| b_ (Kd.S_elder' (rS_ v0.out) (Kd.R_base k0) hb) <| b_ (Kd.R_elder' (rR_ x0.out) (Kd.R_base k0) hb) <| b_ (Kd.R_elder' (rR_ C0.out) (Kd.R_base k0) hb) <| b_ (Kd.R_lower (Kd.R_new' (Kd.R_new' (Kd.R_new' k0 (Kd.R_lt (rR_ f0.out))) (Kd.R_lt (rR_ x0.out))) (Kd.R_lt (rR_ C0.out))) (ab (hB_))) <| b_ (Kd.C_below (by repeat (first | (with_reducible exact e0.out) | (with_reducible refine Kd.C_alloc ?_ _) | (with_reducible refine Kd.C_drewN ?_ _) | (with_reducible refine Kd.C_drew ?_) | exact e0.out)) hb) <| c_ (ac (hB_) hb)
  clear p0 b0 d0 f0 v0 x0 C0 e0 HB
  obtain ⟨p0, b0, d0, f0, v0, x0, C0, G0, e0, HB⟩ := n_
  refine hK.out _ _ (HS0_) (fun hHeld => ?_)
  clear hK K
  refine dV (a' := ?_) ?_ ?_
  rotate_left
  ·show Act.put _ (some 55) _ = _
   simp only [Act.put, List.setIfInBounds_toArray, List.set_cons_zero, List.set_cons_succ, bB, cJ]
   rfl
  refine pS_ 11 15 (bb_ 12 4095) HT_.out ?_
  refine eT (dn HT_.out (by kernel_rfl)) ?_
  obtain ⟨Q2, R2, T2⟩ := Kd.R_slice G0.out
  subst T2
  try go_wp2_with (first | ((with_reducible refine ae (f := 36) rfl ?_); refine aq (some 58) rfl rfl Tryz.func36 (by kernel_rfl) rfl #[.slice Q2 t1.length R2, .int .i64 10] rfl aM_ ?_; (with_reducible refine (bk.calls k2 _ _ t1 10 y1 _ ?side1 ?side2 T3.out).mono ?_); (case side1 => exact cR_ (Kd.R_reads' G0.out).2.2); (case side2 => exact (Kd.R_reads' G0.out).2.1); rintro e F4 ⟨c4, rfl, k0, hb⟩; refine ⟨_, rfl, ?_⟩; have n_ := b_ (Kd.S_elder' (rS_ p0.out) (Kd.R_base k0) hb) <| b_ (Kd.S_elder' (rS_ b0.out) (Kd.R_base k0) hb) <| b_ (Kd.S_elder' (rS_ d0.out) (Kd.R_base k0) hb) <| b_ (Kd.R_elder' (rR_ f0.out) (Kd.R_base k0) hb) <| b_ (Kd.S_elder' (rS_ v0.out) (Kd.R_base k0) hb) <| b_ (Kd.R_elder' (rR_ x0.out) (Kd.R_base k0) hb) <| b_ (Kd.R_elder' (rR_ C0.out) (Kd.R_base k0) hb) <| b_ (Kd.R_elder' (rR_ G0.out) (Kd.R_base k0) hb) <| b_ (Kd.R_lower (Kd.R_new' (Kd.R_new' (Kd.R_new' (Kd.R_new' k0 (Kd.R_lt (rR_ f0.out))) (Kd.R_lt (rR_ x0.out))) (Kd.R_lt (rR_ C0.out))) (Kd.R_lt (rR_ G0.out))) (ab (hB_))) <| b_ (Kd.C_below (by repeat (first | (with_reducible exact e0.out) | (with_reducible refine Kd.C_alloc ?_ _) | (with_reducible refine Kd.C_drewN ?_ _) | (with_reducible refine Kd.C_drew ?_) | exact e0.out)) hb) <| c_ (ac (hB_) hb); clear p0 b0 d0 f0 v0 x0 C0 G0 e0 HB; obtain ⟨p0, b0, d0, f0, v0, x0, C0, G0, K0, e0, HB⟩ := n_; obtain ⟨U2, V2, X2⟩ := Kd.R_slice K0.out; subst X2) | ((with_reducible refine ae (f := 35) rfl ?_); refine aq (some 59) rfl rfl Tryz.func35 (by kernel_rfl) rfl #[.slice U2 y1.length V2, .int .i64 10] rfl aM_ ?_; (with_reducible refine (ay.calls k2 _ _ y1 10 z1 _ ?side1 ?side2 U3.out).mono ?_); (case side1 => exact cR_ (Kd.R_reads' K0.out).2.2); (case side2 => exact (Kd.R_reads' K0.out).2.1); rintro e G4 ⟨rfl, hb⟩; refine ⟨_, rfl, ?_⟩; have n_ := b_ (Kd.S_below (rS_ p0.out) hb) <| b_ (Kd.S_below (rS_ b0.out) hb) <| b_ (Kd.S_below (rS_ d0.out) hb) <| b_ (Kd.R_below (rR_ f0.out) hb) <| b_ (Kd.S_below (rS_ v0.out) hb) <| b_ (Kd.R_below (rR_ x0.out) hb) <| b_ (Kd.R_below (rR_ C0.out) hb) <| b_ (Kd.R_below (rR_ G0.out) hb) <| b_ (Kd.R_below (rR_ K0.out) hb) <| b_ (Kd.C_below (by repeat (first | (with_reducible exact e0.out) | (with_reducible refine Kd.C_alloc ?_ _) | (with_reducible refine Kd.C_drewN ?_ _) | (with_reducible refine Kd.C_drew ?_) | exact e0.out)) hb) <| c_ (ac (hB_) hb); clear p0 b0 d0 f0 v0 x0 C0 G0 K0 e0 HB; obtain ⟨p0, b0, d0, f0, v0, x0, C0, G0, K0, e0, HB⟩ := n_; (try clear hb)))
  go_roundg k2
  case measure => have := Y2.out; have := c3.out; omega
  case rel => exact ⟨(I0 ++ z1), (wrap64 (y0 + 1)), f0_, f0_, H', ⟨by have := Y2.out; have := c3.out; omega⟩, ⟨by refine kS_ ?_; exact Kd.S_mono p0.out (fun _ hk => ⟨hk.1.1.1.1.1.1, hk.1.1.1.1.1.2⟩)⟩, ⟨by refine kS_ ?_; exact Kd.S_mono b0.out (fun _ hk => ⟨hk.1.1.1.1.1.1, hk.1.1.1.1.1.2⟩)⟩, ⟨by refine kS_ ?_; exact Kd.S_mono d0.out (fun _ hk => ⟨hk.1.1.1.1.1.1, hk.1.1.1.1.1.2⟩)⟩, ⟨hB_⟩⟩

end Go.Proofs.YtielligodgabiaaGreatDoor.P
