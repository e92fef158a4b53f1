-- printed texts of this session, regrouped
import Derived.Test.YtooanbpkknlmjaaGreatDoorHB4
import Derived.Test.YtooanbpkknlmjaaGreatDoorPx12
namespace Go.Proofs.YtooanbpkknlmjaaGreatDoor.P
open Go.RowKit YtooanbpkknlmjaaGreatDoorW.PrintWords YtooanbpkknlmjaaGreatDoorW.PrintLast YtooanbpkknlmjaaGreatDoorW.PrintMore
open Kd
attribute [local go_sem] dZ d4 eE ev dx dy dV dX
set_option linter.unusedVariables false
set_option linter.unusedSimpArgs false
set_option maxHeartbeats 8000000
set_option maxRecDepth 100000
def b7.f (k : Nat) (a0 : ByteArray) : Option (ByteArray × Int) := (cX.f k a0 168 31).bind fun t810 => (some (t810, 0))
theorem b7.mono : ∀ a0 k, LeO (b7.f k a0) (b7.f (k + 1) a0) := by
 intro a0 k
 unfold b7.f
 exact o1_ cX.mono
theorem b7.calls (k : Nat) (a0 : ByteArray) (r1 : ByteArray) (r2 : Int) (w : World) (h : b7.f k a0 = some (r1, r2)) :
  Calls Tryz.prog 98 #[.string a0] w fun e w' => e = .returned (.agg #[.string r1, .int .i64 r2]) ∧ Below w.heap.size w w' := by
 have hu85 := Tryz.underlying85
 have HB := c_ (Ba w.heap.size w)
 delta b7.f at h
 have H := h
 clear h
 obtain ⟨f0, A2, H⟩ := bN_ H
 simp only [Option.some.injEq, Prod.mk.injEq] at H
 obtain ⟨rfl, rfl⟩ := H
 go_enter Tryz.func98, Tryz.ntmps98
 go_wp2_with (first | ((refine aI (N := 2) rfl ?_); refine cz ?hg (N := 2) ?hd (cs := #[.string (⟨#[]⟩ : ByteArray), .int .i64 0]) (t := 85) ?hr ?_; (case hd => rfl); (case hg => rfl); (case hr => first | (go_simp; done) | (go_simp; rfl)); intro d0 hg w3 hbox hb; obtain ⟨HB, b0, q0, e0⟩ := b_ (ab (hB_) hb) <| b_ (hbox) <| b_ (by rw [hg]; exact (ac (hB_)) : w.heap.size ≤ d0) <| c_ (by rw [hg]; exact (ac (hB_)) : w.heap.size ≤ d0); clear hb hbox hg) | (refine gq_ 103 (some 4) Tryz.func103 #[.string a0, .int .i64 168, .int .u8 31] (cX.calls k a0 168 31 f0 _ A2.o) ?_; rintro e w4 ⟨rfl, hb⟩; refine ⟨_, rfl, ?_⟩; obtain ⟨b0, HB⟩ := b_ (bM (g := d0) (o := .cells #[.string (⟨#[]⟩ : ByteArray), .int .i64 0] 85 (0, 0)) (rK_ b0.o) hb) <| c_ (ab (hS_ e0.o) hb); have j0 : w4.cell? ⟨d0, 0, none⟩ = some (.string (⟨#[]⟩ : ByteArray)) := (ar b0.o 0).trans rfl; have k0 : w4.cell? ⟨d0, 1, none⟩ = some (.int .i64 0) := (ar b0.o 1).trans rfl; have n0 := aj b0.o 0; have p0 := aj b0.o 1))
 refine bodyPost_ret (results_cell_row rfl _ _ d0 85 #[.string f0, .int .i64 0] (0, 0) _ rfl (by refine kK_ ?_; refine cd (cs := #[.string f0, .int .i64 0]) ?_ 1 _ rfl; refine kK_ ?_; refine cd (cs := #[.string (⟨#[]⟩ : ByteArray), .int .i64 0]) ?_ 0 _ rfl; exact rK_ b0.o) Tryz.underlying85 rfl (by kernel_rfl)) rfl ?_
 exact ⟨f1_, hS_ e0.o⟩
def cS.f (k : Nat) (a0 : ByteArray) (a1 : Int) : Option (ByteArray × Bool) := (bV.f a1 0 4000).bind fun t816 => (if t816 = true then ((b7.f k a0).bind fun bt817 => ((ap.f k bt817.1 bt817.2 a1).bind fun bt819 => (some (bt819.2.2, true)))) else (some ((⟨#[]⟩ : ByteArray), false)))
theorem cS.mono : ∀ a0 a1 k, LeO (cS.f k a0 a1) (cS.f (k + 1) a0 a1) := by
 intro a0 a1 k
 unfold cS.f
 exact o2_ b7.mono ap.mono
theorem cS.calls (k : Nat) (a0 : ByteArray) (a1 : Int) (r1 : ByteArray) (r2 : Bool) (w : World) (h : cS.f k a0 a1 = some (r1, r2)) :
  Calls Tryz.prog 91 #[.string a0, .int .i64 a1] w fun e w' => e = .returned (.tuple #[.string r1, .bool r2]) ∧ Below w.heap.size w w' := by
 have hu85 := Tryz.underlying85
 have HB := c_ (Ba w.heap.size w)
 delta cS.f at h
 have H := h
 clear h
 obtain ⟨r0, A3, H⟩ := bN_ H
 by_cases c4 : r0 = true
 ·subst c4
  replace H := iT_ H
  obtain ⟨⟨e0, f0⟩, A5, H⟩ := bN_ H
  obtain ⟨⟨t0, u0, v0⟩, A6, H⟩ := bN_ H
  simp only [Option.some.injEq, Prod.mk.injEq] at H
  obtain ⟨rfl, rfl⟩ := H
  go_enter Tryz.func91, Tryz.ntmps91
  go_wp2_with (first | (refine gq_ 79 (some 9) Tryz.func79 #[.int .i64 a1, .int .i64 0, .int .i64 4000] (bV.calls a1 0 4000 true _ A3.o) ?_; rintro e w' ⟨rfl, ⟨nd, rfl⟩⟩; refine ⟨_, rfl, ?_⟩) | (refine gq_ 98 (some 13) Tryz.func98 #[.string a0] (b7.calls k a0 e0 f0 _ A5.o) ?_; rintro e w7 ⟨rfl, hb⟩; refine ⟨_, rfl, ?_⟩; replace HB := c_ (ab (hB_) hb); (try clear hb)) | (refine gq_ 99 (some 15) Tryz.func99 #[.agg #[.string e0, .int .i64 f0], .int .i64 a1] (ap.calls k e0 f0 a1 t0 u0 v0 _ A6.o) ?_; rintro e w8 ⟨rfl, hb⟩; refine ⟨_, rfl, ?_⟩; replace HB := c_ (ab (hB_) hb); (try clear hb)) | ((refine aI (N := 6) rfl ?_); refine cz ?hg (N := 6) ?hd (cs := #[.string (⟨#[]⟩ : ByteArray), .int .i64 0]) (t := 85) ?hr ?_; (case hd => rfl); (case hg => rfl); (case hr => first | (go_simp; done) | (go_simp; rfl)); intro b0 hg w9 hbox hb; obtain ⟨HB, d0, x0, j0⟩ := b_ (ab (hB_) hb) <| b_ (hbox) <| b_ (by rw [hg]; exact (ac (hB_)) : w.heap.size ≤ b0) <| c_ (by rw [hg]; exact (ac (hB_)) : w.heap.size ≤ b0); clear hb hbox hg; have k0 : w9.cell? ⟨b0, 0, none⟩ = some (.string (⟨#[]⟩ : ByteArray)) := (ar d0.o 0).trans rfl; have n0 : w9.cell? ⟨b0, 1, none⟩ = some (.int .i64 0) := (ar d0.o 1).trans rfl; have p0 := aj d0.o 0; have q0 := aj d0.o 1))
  go_ret2
  exact ⟨f1_, hS_ j0.o⟩
 ·replace c4 := Ca c4
  subst c4
  replace H := iF_ H
  simp only [Option.some.injEq, Prod.mk.injEq] at H
  obtain ⟨rfl, rfl⟩ := H
  go_enter Tryz.func91, Tryz.ntmps91
  go_wp2_with (first | (refine gq_ 79 (some 9) Tryz.func79 #[.int .i64 a1, .int .i64 0, .int .i64 4000] (bV.calls a1 0 4000 false _ A3.o) ?_; rintro e w' ⟨rfl, ⟨nd, rfl⟩⟩; refine ⟨_, rfl, ?_⟩))
  go_ret2
  exact ⟨f1_, hB_⟩
def bJ.l0 : Nat → ByteArray → List Int → Int → Int → Option (List Int)
 | 0, _, _, _, _ => none
 | k + 1, x5, x7, x20, x21 => if x21 < x20 then (if 0 ≤ (wrap64 (Int.tdiv x21 2)) then (if (wrap64 (Int.tdiv x21 2)) < (x5.size : Int) then (if 0 ≤ (wrap64 (4 * (Int.tmod x21 2))) then ((bW.f (wrap64 ((wrap64 ((wrap64 ((Go.bits .and .i64 (wrap64 (shr .u8 (bt x5 (wrap64 (Int.tdiv x21 2))) (wrap64 (4 * (Int.tmod x21 2))))) 1) + (Go.bits .and .i64 ((wrap64 (shr .u8 (bt x5 (wrap64 (Int.tdiv x21 2))) (wrap64 (4 * (Int.tmod x21 2))))) / 2) 1))) - (Go.bits .and .i64 ((wrap64 (shr .u8 (bt x5 (wrap64 (Int.tdiv x21 2))) (wrap64 (4 * (Int.tmod x21 2))))) / 4) 1))) - (Go.bits .and .i64 ((wrap64 (shr .u8 (bt x5 (wrap64 (Int.tdiv x21 2))) (wrap64 (4 * (Int.tmod x21 2))))) / 8) 1)))).bind fun t832 => (if 0 ≤ x21 then (if x21 < (x7.length : Int) then (bJ.l0 k x5 (x7.set (x21 : Int).toNat t832) x20 (wrap64 (x21 + 1))) else (none)) else (none))) else (none)) else (none)) else (none)) else (some x7)
def bJ.f (k : Nat) (a0 : ByteArray) (a1 : Int) : Option (List Int) := (cO.f a1).bind fun t826 => (if a0.size + t826.size ≤ 9223372036854775807 then ((cS.f k (a0 ++ t826) 128).bind fun bt827 => (if 256 ≤ 35184372088832 then ((some (List.replicate 256 0 : List Int)).bind fun y829 => (bJ.l0 k bt827.1 y829 (y829.length : Int) 0)) else (none))) else (none))
theorem bJ.mono_l : ∀ k, (∀ y0 y1 y2 y3, LeO (bJ.l0 k y0 y1 y2 y3) (bJ.l0 (k + 1) y0 y1 y2 y3))
 | 0 => fun _ _ _ _ r h => by simp [bJ.l0] at h
 | k + 1 => by
  have ih0 := bJ.mono_l k
  intros; unfold bJ.l0; exact o2_ ih0 cS.mono
theorem bJ.mono : ∀ a0 a1 k, LeO (bJ.f k a0 a1) (bJ.f (k + 1) a0 a1) := by
 intro a0 a1 k
 have ih0 := bJ.mono_l k
 unfold bJ.f
 exact o2_ ih0 cS.mono
theorem bJ.calls (k : Nat) (a0 : ByteArray) (a1 : Int) (r : List Int) (w : World) (h : bJ.f k a0 a1 = some r) :
  Calls Tryz.prog 58 #[.string a0, .int .i64 a1] w fun e w' => ∃ b1 : Value, e = .returned (b1) ∧ Kd.R (Kd.int .i64) 3 w' w.heap.size (fun _ => True) b1 r ∧ Below w.heap.size w w' := by
 have HB := c_ (Ba w.heap.size w)
 delta bJ.f at h
 have H := h
 clear h
 obtain ⟨B0, A3, H⟩ := bN_ H
 obtain ⟨c4, H⟩ := iN_ H
 have m1 := ya c4
 have n1 := wa c4
 try have p1 : (9223372036854775807 < a0.size + B0.size) = False := eq_false (Nat.not_lt.2 c4)
 obtain ⟨⟨n0, O0⟩, A5, H⟩ := bN_ H
 obtain ⟨c6, H⟩ := iN_ H
 have q1 := ya c6
 have r1 := wa c6
 clear c6
 obtain ⟨C0, q0⟩ : ∃ y_ : List Int, y_ = (List.replicate 256 0) := ⟨_, rfl⟩
 first | replace H := yb_ q0 H | rw [← q0] at H
 have E0 := c_ q0
 clear q0
 have H' := c_ H
 clear H
 go_enter Tryz.func58, Tryz.ntmps58
 go_wp2_with (first | (refine gq_ 92 (some 13) Tryz.func92 #[.int .i64 a1] (cO.calls a1 B0 _ A3.o) ?_; rintro e w7 ⟨rfl, hb⟩; refine ⟨_, rfl, ?_⟩; replace HB := c_ (ab (hB_) hb); (try clear hb)) | (refine gq_ 91 (some 15) Tryz.func91 #[.string (a0 ++ B0), .int .i64 128] (cS.calls k (a0 ++ B0) 128 n0 O0 _ A5.o) ?_; rintro e w8 ⟨rfl, hb⟩; refine ⟨_, rfl, ?_⟩; replace HB := c_ (ab (hB_) hb); (try clear hb)) | ((refine aI (N := 18) rfl ?_); refine tw (Kd.int .i64) _ 3 rfl (N := 18) rfl 28 _ _ rfl 256 rfl rfl Tryz.underlying28 (.int .i64 0) 8 cY rfl (by decide) (by omega) 0 (ok := fun _ => True) (okp := fun _ => True) rfl (fun _ hk => hk) trivial (by omega) (by omega) (Ba _ _) (Aa _) ?_; intro t1 w9 t0 hb hg_ hnew_; clear hg_ hnew_; (first | rw [← E0.o] at t0 | (simp only [Int.reduceToNat] at t0; rw [← E0.o] at t0)); obtain ⟨F0, HB⟩ := b_ (sZ t0 (ac (hB_))) <| c_ (ab (hB_) hb); clear hb t0; obtain ⟨I0, G0, P0⟩ := s7 F0.o; subst P0))
 go_loopg [21] k (fun kq y1 w' => ∃ (j0 : List Int) (b0 : Int), y1 = .int .i64 b0 ∧ aa (bJ.l0 kq n0 j0 (C0.length : Int) b0 = some r) ∧ aa (kq ≤ k) ∧ aa (Kd.R (Kd.int .i64) 3 w' w.heap.size (fun _ => True) (.slice I0 C0.length G0) j0) ∧ aa (Below w.heap.size w w'))
 case atStart => exact ⟨(C0), (0), f0_, H', ⟨Aa _⟩, ⟨rR_ F0.o⟩, ⟨hB_⟩⟩
 clear H'
 obtain ⟨j0, b0, rfl, HA, c1, d0, HB⟩ := hrel
 have e0 := (sX d0.o).1
 rw [e0] at d0
 (try simp only [e0])
 rcases gk with _ | k1
 ·exact absurd HA.o (by simp [bJ.l0])
 have H := HA.o
 clear HA
 simp only [bJ.l0] at H
 by_cases H0 : b0 < (C0.length : Int)
 rotate_left
 ·rw [Ea H0] at H
  have u0 := xa H0
  (try simp only [e0] at u0)
  clear H0
  obtain rfl := za H
  go_wp2
  go_ret
  exact ⟨_, f1_, rR_ d0.o, hB_⟩
 rw [Da H0] at H
 have u0 := wa H0
 (try simp only [e0] at u0)
 clear H0
 obtain ⟨p0, v0⟩ : ∃ j_ : Int, (wrap64 (Int.tdiv b0 2)) = j_ := ⟨_, rfl⟩
 first | rw [v0] at H | simp only [v0] at H
 have Q0 : (IntKind.i64.wrap (Int.tdiv b0 2)) = p0 := (bv _).trans v0
 obtain ⟨d1, H⟩ := iD_ H
 obtain ⟨e1, H⟩ := iD_ H
 obtain ⟨x0, y0⟩ : ∃ j_ : Int, (wrap64 (4 * (Int.tmod b0 2))) = j_ := ⟨_, rfl⟩
 first | rw [y0] at H | simp only [y0] at H
 have R0 : (IntKind.i64.wrap (4 * (Int.tmod b0 2))) = x0 := (bv _).trans y0
 obtain ⟨S0, H⟩ := iN_ H
 have f1 := ya S0
 have g1 := wa S0
 clear S0
 obtain ⟨f0, k0⟩ : ∃ j_ : Int, (shr .u8 (bt n0 (p0)) (x0)) = j_ := ⟨_, rfl⟩
 first | rw [k0] at H | simp only [k0] at H
 have T0 : ((bt n0 (p0)) / 2 ^ min (x0).toNat 8) = f0 := k0
 have U0 : (x0) ≤ 8 → ((bt n0 (p0)) / 2 ^ (x0).toNat) = f0 := fN k0
 obtain ⟨D0, z1, H⟩ := bN_ H
 obtain ⟨i1, H⟩ := iD_ H
 obtain ⟨j1, H⟩ := iN_ H
 have J0 := wa j1
 (try simp only [e0] at J0)
 clear j1
 obtain ⟨K0, r0⟩ : ∃ y_ : List Int, y_ = (j0.set (b0 : Int).toNat D0) := ⟨_, rfl⟩
 first | replace H := yb_ r0 H | rw [← r0] at H
 have L0 := c_ r0
 clear r0
 have H' := c_ H
 clear H
 have C1 := ya (oD_ : 0 ≤ ((p0) : Int))
 have D1 := ya (oD_ : (p0) < (n0.size : Int))
 have A1 := cP n0 (p0)
 go_wp2_with (first | ((with_reducible refine dM (f := 84) rfl ?_); refine gm (some 49) rfl rfl Tryz.func84 (by kernel_rfl) rfl #[.int .i64 (wrap64 ((wrap64 ((wrap64 ((Go.bits .and .i64 (wrap64 (f0)) 1) + (Go.bits .and .i64 ((wrap64 (f0)) / 2) 1))) - (Go.bits .and .i64 ((wrap64 (f0)) / 4) 1))) - (Go.bits .and .i64 ((wrap64 (f0)) / 8) 1)))] rfl (by (try simp only [List.map_toArray, List.map_cons, List.map_nil]); first | done | (simp only [k0]; rfl) | rfl | (simp only [List.length_drop, List.length_take]; rfl)) ?_; (with_reducible refine (bW.calls (wrap64 ((wrap64 ((wrap64 ((Go.bits .and .i64 (wrap64 (f0)) 1) + (Go.bits .and .i64 ((wrap64 (f0)) / 2) 1))) - (Go.bits .and .i64 ((wrap64 (f0)) / 4) 1))) - (Go.bits .and .i64 ((wrap64 (f0)) / 8) 1))) D0 _ z1.o).mono ?_); rintro e w' ⟨rfl, ⟨nd, rfl⟩⟩; refine ⟨_, rfl, ?_⟩; (try (rw [da wr]; generalize hq_ : World.drewN wr _ = wr; obtain ⟨d0, HB⟩ := b_ (show Kd.R (Kd.int .i64) 3 wr w.heap.size (fun _ => True) (.slice I0 j0.length G0) j0 from by rw [← hq_]; exact (rR_ d0.o)) <| c_ (show Below w.heap.size w wr from by rw [← hq_]; exact (hB_)))); have V0 : 0 ≤ (b0 : Int) := oD_; have W0 : (b0 : Int) < ((j0.length : Int) : Int) := oD_; obtain ⟨go23, B1, M0, N0, gl23, cl23, HG23⟩ := tt d0.o (by omega); (first | cases M0 | (injection M0 with ea_ en_ ec_; (first | subst ea_ | (injection ea_ with ea_; subst ea_)); subst ec_; clear en_)); have X0 := c_ N0; have GG23 := c_ HG23; clear N0 gl23 HG23; obtain ⟨Y0, hf23_0⟩ := te 0 d0.o (b0 : Int) V0 W0; replace V0 := ya V0; replace W0 := ya W0; obtain ⟨l1, hz24_⟩ := te 0 d0.o (b0 : Int) oD_ oD_; have HP24 := tm d0.o (b0 : Int) D0) | ((refine cn (t := 3) (p := 50) rfl ?_); refine ce (t := 3) (p := 50) (v := ?vo_w25) (w1 := (wr.setCell ⟨go23, (b0 : Int).toNat, none⟩ (.int .i64 D0))) ?hg ?ho ?hn ?hr ?_; (case ho => rfl); (case hg => rfl); (case hn => rfl); (case hr => first | (go_simp; done) | (go_simp; rfl)); intro Z0 hw; have hg : wr.grownBy Z0 (some go23) := (by rw [hw]; exact HP24.2); have hp_ : Kd.R (Kd.int .i64) 3 Z0 w.heap.size (fun _ => True) (.slice (some ⟨go23, 0, none⟩) j0.length G0) K0 := (by rw [hw, L0.o]; exact HP24.1); clear HP24; obtain ⟨d0, HB⟩ := b_ (hp_) <| c_ (by rw [hw]; exact cq (HB.o) X0.o : Below w.heap.size w Z0); clear hg hw hp_))
 (try simp only [← e0])
 go_roundg k1
 case measure => have := c1.o; omega
 case rel => exact ⟨(K0), (wrap64 (b0 + 1)), f0_, H', ⟨by have := c1.o; omega⟩, ⟨by (try simp only [e0]); refine kR_ ?_; exact d0.o⟩, ⟨hB_⟩⟩
def bG.l0 : Nat → ByteArray → Int → List (List Int) → Int → Option ((List (List Int)))
 | 0, _, _, _, _ => none
 | k + 1, x0, x1, x5, x7 => if x7 < 2 then ((bJ.f k x0 (wrap64 (x1 + x7))).bind fun t834 => (if x5.length < 5864062014805 then (bG.l0 k x0 x1 (x5 ++ [t834]) (wrap64 (x7 + 1))) else (none))) else (some x5)
def bG.f (k : Nat) (a0 : ByteArray) (a1 : Int) : Option ((List (List Int))) := bG.l0 k a0 a1 ([] : List (List Int)) 0
theorem bG.mono_l : ∀ k, (∀ y0 y1 y2 y3, LeO (bG.l0 k y0 y1 y2 y3) (bG.l0 (k + 1) y0 y1 y2 y3))
 | 0 => fun _ _ _ _ r h => by simp [bG.l0] at h
 | k + 1 => by
  have ih0 := bG.mono_l k
  intros; unfold bG.l0; exact o2_ ih0 bJ.mono
theorem bG.mono : ∀ a0 a1 k, LeO (bG.f k a0 a1) (bG.f (k + 1) a0 a1) := by
 intro a0 a1 k
 have ih0 := bG.mono_l k
 unfold bG.f
 exact o2_ ih0 bJ.mono
theorem bG.calls (k : Nat) (a0 : ByteArray) (a1 : Int) (r : List (List Int)) (w : World) (h : bG.f k a0 a1 = some r) :
  Calls Tryz.prog 55 #[.string a0, .int .i64 a1] w fun e w' => ∃ u0 : Value, e = .returned (u0) ∧ Kd.S (Kd.slice 3 (Kd.int .i64)) 28 w' w.heap.size (fun _ => True) u0 r ∧ Below w.heap.size w w' := by
 have HB := c_ (Ba w.heap.size w)
 delta bG.f at h
 have H := h
 clear h
 have H' := c_ H
 clear H
 go_enter Tryz.func55, Tryz.ntmps55
 go_wp2
 go_loopg [5, 7] k (fun kq v5 v7 w' => ∃ (f0 : List (List Int)) (b0 : Int), v7 = .int .i64 b0 ∧ aa (bG.l0 kq a0 a1 f0 b0 = some r) ∧ aa (kq ≤ k) ∧ aa (Kd.S (Kd.slice 3 (Kd.int .i64)) 28 w' w.heap.size (fun _ => True) v5 f0) ∧ aa (Below w.heap.size w w'))
 case atStart => exact ⟨(([] : List (List Int))), (0), f0_, H', ⟨Aa _⟩, ⟨by first | exact tJ _ _ _ _ _ | exact Kd.N_nil _ _ _ _ _ | exact Kd.V_nil _ _ _ _ _ | exact Kd.Q_nil _ _ _ _ _ | exact tH _ _ _ _ _⟩, ⟨hB_⟩⟩
 clear H'
 obtain ⟨f0, b0, rfl, HA, v0, e0, HB⟩ := hrel
 rcases gk with _ | k1
 ·exact absurd HA.o (by simp [bG.l0])
 have H := HA.o
 clear HA
 simp only [bG.l0] at H
 by_cases c3 : b0 < 2
 ·rw [Da c3] at H
  have q0 := wa c3
  clear c3
  obtain ⟨j0, A4, H⟩ := bN_ H
  obtain ⟨c5, H⟩ := iN_ H
  have r0 := c_ c5
  clear c5
  obtain ⟨t0, d0⟩ : ∃ y_ : List (List Int), y_ = (f0 ++ [j0]) := ⟨_, rfl⟩
  first | replace H := yb_ d0 H | rw [← d0] at H
  have n0 := c_ d0
  clear d0
  have H' := c_ H
  clear H
  go_wp2_with (first | (refine gq_ 58 (some 15) Tryz.func58 #[.string a0, .int .i64 (wrap64 (a1 + b0))] (bJ.calls k1 a0 (wrap64 (a1 + b0)) j0 _ A4.o) ?_; rintro e w6 ⟨C0, rfl, x0, hb⟩; refine ⟨_, rfl, ?_⟩; obtain ⟨e0, k0, HB⟩ := b_ (s6 (rS_ e0.o) (sY x0) hb) <| b_ (sZ x0 (ac (hB_))) <| c_ (ab (hB_) hb); obtain ⟨y0, B0, D0⟩ := s7 k0.o; subst D0) | ((refine aU (b := .append) (xs := #[.tmp 10, .tmp 16]) rfl ?_); at_builtin; refine tE (Kd.slice 3 (Kd.int .i64)) (w0 := w) w.heap.size rfl (.tmp 10) (.tmp 16) 46 28 (.slice none 0 0) 24 rfl Tryz.underlying46 gg rfl (by decide) (by omega) u5 f0 j0 [.slice y0 j0.length B0] (fun _ => True) (fun k_ => some k_ = (.slice y0 j0.length B0 : Value).ownBlock) rfl rfl ?aP (fun k_ hk_ => ((s9 (ok' := fun k_ => ((fun _ => True)) k_ ∧ some k_ ≠ (u5 : Value).ownBlock) (th (k0.o) (tk e0.o) (by decide)) (fun k_ hk => ⟨trivial, hk.2⟩))).1 k_ hk_.symm) ?aF ?aO ?aB ?aS ?aL ?_; (case aP => exact t9 (s9 (tG rfl (s9 (ok' := fun k_ => ((fun _ => True)) k_ ∧ some k_ ≠ (u5 : Value).ownBlock) (th (k0.o) (tk e0.o) (by decide)) (fun k_ hk => ⟨trivial, hk.2⟩))) (fun _ h_ => h_))); (case aB => exact (hB_)); (case aF => exact (fun _ _ => trivial)); (case aO => exact (by refine kS_ ?_; exact tq e0.o (fun k_ hk => ⟨trivial, fun e_ => hk.2 e_⟩))); (case aS => exact (ac (hB_))); (case aL => have := r0.o; omega); intro E0 w7 ho hb hg hat; rw [← n0.o] at ho; obtain ⟨HB, p0⟩ := b_ (hb) <| c_ (ho); clear ho hb hg hat))
  go_roundg k1
  case measure => have := v0.o; omega
  case rel => exact ⟨(t0), (wrap64 (b0 + 1)), f0_, H', ⟨by have := v0.o; omega⟩, ⟨rS_ p0.o⟩, ⟨hB_⟩⟩
 rw [Ea c3] at H
 have q0 := xa c3
 clear c3
 obtain rfl := za H
 go_wp2
 go_ret
 exact ⟨_, f1_, by refine kS_ ?_; exact e0.o, hB_⟩
mutual
def aq.l0 : Nat → List Int → Int → Int → ByteArray → Int → Option (List Int)
 | 0, _, _, _, _, _ => none
 | k + 1, x8, x9, x10, x845000, x845001 => if x10 < 4000 then (aq.j1 k x8 x9 x10 (decide (x9 < 256)) x845000 x845001) else (aq.j1 k x8 x9 x10 false x845000 x845001)
def aq.j1 : Nat → List Int → Int → Int → Bool → ByteArray → Int → Option (List Int)
 | 0, _, _, _, _, _, _ => none
 | k + 1, x8, x9, x10, x32, x845000, x845001 => if x32 = true then ((ap.f k x845000 x845001 3).bind fun bt848 => (if 0 < (bt848.2.2.size : Int) then (if 1 < (bt848.2.2.size : Int) then (if 2 < (bt848.2.2.size : Int) then ((some (([wrap64 ((wrap64 (bt bt848.2.2 0)) + (wrap64 ((Int.tmod (wrap64 (bt bt848.2.2 1)) 16) * 256))), wrap64 ((wrap64 (Int.tdiv (wrap64 (bt bt848.2.2 1)) 16)) + (wrap64 (16 * (wrap64 (bt bt848.2.2 2)))))] : List Int) : List Int)).bind fun y852 => (aq.l1 k x8 x9 x10 y852 (y852.length : Int) 0 bt848.1 bt848.2.1)) else (none)) else (none)) else (none))) else (some x8)
def aq.l1 : Nat → List Int → Int → Int → List Int → Int → Int → ByteArray → Int → Option (List Int)
 | 0, _, _, _, _, _, _, _, _ => none
 | k + 1, x8, x9, x10, x60, x61, x62, x845000, x845001 => if x62 < x61 then (if 0 ≤ x62 then (if x62 < (x60.length : Int) then (if (rd x60 x62) < 3329 then (if x9 < 256 then (if 0 ≤ x9 then (if x9 < (x8.length : Int) then (aq.l1 k (x8.set (x9 : Int).toNat (rd x60 x62)) (wrap64 (x9 + 1)) x10 x60 x61 (wrap64 (x62 + 1)) x845000 x845001) else (none)) else (none)) else (aq.l1 k x8 x9 x10 x60 x61 (wrap64 (x62 + 1)) x845000 x845001)) else (aq.l1 k x8 x9 x10 x60 x61 (wrap64 (x62 + 1)) x845000 x845001)) else (none)) else (none)) else (aq.l0 k x8 x9 (wrap64 (x10 + 1)) x845000 x845001)
end
def aq.f (k : Nat) (a0 : ByteArray) (a1 : Int) (a2 : Int) : Option (List Int) := (cO.f a1).bind fun t840 => (if a0.size + t840.size ≤ 9223372036854775807 then ((cO.f a2).bind fun t841 => (if (a0 ++ t840).size + t841.size ≤ 9223372036854775807 then ((b7.f k ((a0 ++ t840) ++ t841)).bind fun bt842 => (if 256 ≤ 35184372088832 then (aq.l0 k (List.replicate 256 0) 0 0 bt842.1 bt842.2) else (none))) else (none))) else (none))
theorem aq.mono_l : ∀ k, (∀ y0 y1 y2 y3 y4, LeO (aq.l0 k y0 y1 y2 y3 y4) (aq.l0 (k + 1) y0 y1 y2 y3 y4)) ∧ (∀ y0 y1 y2 y3 y4 y5, LeO (aq.j1 k y0 y1 y2 y3 y4 y5) (aq.j1 (k + 1) y0 y1 y2 y3 y4 y5)) ∧ (∀ y0 y1 y2 y3 y4 y5 y6 y7, LeO (aq.l1 k y0 y1 y2 y3 y4 y5 y6 y7) (aq.l1 (k + 1) y0 y1 y2 y3 y4 y5 y6 y7))
 | 0 => ⟨fun _ _ _ _ _ r h => by simp [aq.l0] at h, fun _ _ _ _ _ _ r h => by simp [aq.j1] at h, fun _ _ _ _ _ _ _ _ r h => by simp [aq.l1] at h⟩
 | k + 1 => by
  obtain ⟨ih0, ih1, ih2⟩ := aq.mono_l k
  refine ⟨?_, ?_, ?_⟩ <;> (intros; (first | unfold aq.l0 | unfold aq.j1 | unfold aq.l1); exact o5_ ih0 ih1 ih2 b7.mono ap.mono)
theorem aq.mono : ∀ a0 a1 a2 k, LeO (aq.f k a0 a1 a2) (aq.f (k + 1) a0 a1 a2) := by
 intro a0 a1 a2 k
 obtain ⟨ih0, ih1, ih2⟩ := aq.mono_l k
 unfold aq.f
 exact o5_ ih0 ih1 ih2 b7.mono ap.mono
theorem aq.calls (k : Nat) (a0 : ByteArray) (a1 : Int) (a2 : Int) (r : List Int) (w : World) (h : aq.f k a0 a1 a2 = some r) :
  Calls Tryz.prog 90 #[.string a0, .int .i64 a1, .int .i64 a2] w fun e w' => ∃ E2 : Value, e = .returned (E2) ∧ Kd.R (Kd.int .i64) 3 w' w.heap.size (fun _ => True) E2 r ∧ Below w.heap.size w w' := by
 have hu85 := Tryz.underlying85
 have HB := c_ (Ba w.heap.size w)
 delta aq.f at h
 have H := h
 clear h
 obtain ⟨O0, A4, H⟩ := bN_ H
 obtain ⟨c5, H⟩ := iN_ H
 have b3 := ya c5
 have c3 := wa c5
 try have e3 : (9223372036854775807 < a0.size + O0.size) = False := eq_false (Nat.not_lt.2 c5)
 obtain ⟨R0, A6, H⟩ := bN_ H
 obtain ⟨c7, H⟩ := iN_ H
 have f3 := ya c7
 have g3 := wa c7
 try have v2 : (9223372036854775807 < (a0 ++ O0).size + R0.size) = False := eq_false (Nat.not_lt.2 c7)
 try (have y2 : (9223372036854775807 < (a0 ++ O0).size + R0.size) = False := v2; simp only [ByteArray.size_append] at y2)
 obtain ⟨⟨K0, V0⟩, A8, H⟩ := bN_ H
 try dsimp only at H
 obtain ⟨c9, H⟩ := iN_ H
 have i3 := ya c9
 have l3 := wa c9
 clear c9
 obtain ⟨z2, X0⟩ : ∃ y_ : List Int, y_ = (List.replicate 256 0) := ⟨_, rfl⟩
 first | replace H := yb_ X0 H | rw [← X0] at H
 have L0 := c_ X0
 clear X0
 have H' := c_ H
 clear H
 go_enter Tryz.func90, Tryz.ntmps90
 go_wp2_with (first | (go_at_call 92; (with_reducible refine (cO.calls a1 O0 _ A4.o).mono ?_); rintro e F2 ⟨rfl, hb⟩; replace HB := c_ (ab (hB_) hb); (try clear hb)) | (go_at_call 92; (with_reducible refine (cO.calls a2 R0 _ A6.o).mono ?_); rintro e G2 ⟨rfl, hb⟩; replace HB := c_ (ab (hB_) hb); (try clear hb)) | (go_at_call 98; (with_reducible refine (b7.calls k ((a0 ++ O0) ++ R0) K0 V0 _ A8.o).mono ?_); rintro e H2 ⟨rfl, hb⟩; replace HB := c_ (ab (hB_) hb); (try clear hb)) | ((refine aI (N := 7) rfl ?_); refine cz ?hg (N := 7) ?hd (cs := #[.string (⟨#[]⟩ : ByteArray), .int .i64 0]) (t := 85) ?hr ?_; (case hd => rfl); (case hg => rfl); (case hr => first | (go_simp; done) | (go_simp; rfl)); intro j0 hg L1 hbox hb; obtain ⟨HB, b0, M1, n0⟩ := b_ (ab (hB_) hb) <| b_ (hbox) <| b_ (by rw [hg]; exact (ac (hB_)) : w.heap.size ≤ j0) <| c_ (by rw [hg]; exact (ac (hB_)) : w.heap.size ≤ j0); clear hb hbox hg; have Y0 : L1.cell? ⟨j0, 0, none⟩ = some (.string (⟨#[]⟩ : ByteArray)) := (ar b0.o 0).trans rfl; have Z0 : L1.cell? ⟨j0, 1, none⟩ = some (.int .i64 0) := (ar b0.o 1).trans rfl; have b1 := aj b0.o 0; have c1 := aj b0.o 1) | ((refine aI (N := 26) rfl ?_); refine tw (Kd.int .i64) _ 3 rfl (N := 26) rfl 28 _ _ rfl 256 rfl rfl Tryz.underlying28 (.int .i64 0) 8 cY rfl (by decide) (by omega) 0 (ok := fun _ => True) (okp := fun _ => True) rfl (fun _ hk => hk) trivial (by omega) (by omega) (Ba _ _) (Aa _) ?_; intro z1 I2 F0 hb hg_ hnew_; clear hg_ hnew_; (first | rw [← L0.o] at F0 | (simp only [Int.reduceToNat] at F0; rw [← L0.o] at F0)); obtain ⟨C1, b0, HB⟩ := b_ (sZ F0 (ac (hS_ n0.o))) <| b_ (bM (g := j0) (o := .cells #[.string K0, .int .i64 V0] 85 (0, 0)) (by refine kK_ ?_; refine cd (cs := #[.string K0, .int .i64 0]) ?_ 1 _ rfl; refine kK_ ?_; refine cd (cs := #[.string (⟨#[]⟩ : ByteArray), .int .i64 0]) ?_ 0 _ rfl; exact rK_ b0.o) hb) <| c_ (ab (hS_ n0.o) hb); clear hb F0))
 repeat (go_quiet (first | (go_at_call 92; (with_reducible refine (cO.calls a1 O0 _ A4.o).mono ?_); rintro e F2 ⟨rfl, hb⟩; replace HB := c_ (ab (hB_) hb); (try clear hb)) | (go_at_call 92; (with_reducible refine (cO.calls a2 R0 _ A6.o).mono ?_); rintro e G2 ⟨rfl, hb⟩; replace HB := c_ (ab (hB_) hb); (try clear hb)) | (go_at_call 98; (with_reducible refine (b7.calls k ((a0 ++ O0) ++ R0) K0 V0 _ A8.o).mono ?_); rintro e H2 ⟨rfl, hb⟩; replace HB := c_ (ab (hB_) hb); (try clear hb)) | ((refine aI (N := 7) rfl ?_); refine cz ?hg (N := 7) ?hd (cs := #[.string (⟨#[]⟩ : ByteArray), .int .i64 0]) (t := 85) ?hr ?_; (case hd => rfl); (case hg => rfl); (case hr => first | (go_simp; done) | (go_simp; rfl)); intro j0 hg L1 hbox hb; obtain ⟨HB, b0, M1, n0⟩ := b_ (ab (hB_) hb) <| b_ (hbox) <| b_ (by rw [hg]; exact (ac (hB_)) : w.heap.size ≤ j0) <| c_ (by rw [hg]; exact (ac (hB_)) : w.heap.size ≤ j0); clear hb hbox hg; have Y0 : L1.cell? ⟨j0, 0, none⟩ = some (.string (⟨#[]⟩ : ByteArray)) := (ar b0.o 0).trans rfl; have Z0 : L1.cell? ⟨j0, 1, none⟩ = some (.int .i64 0) := (ar b0.o 1).trans rfl; have b1 := aj b0.o 0; have c1 := aj b0.o 1) | ((refine aI (N := 26) rfl ?_); refine tw (Kd.int .i64) _ 3 rfl (N := 26) rfl 28 _ _ rfl 256 rfl rfl Tryz.underlying28 (.int .i64 0) 8 cY rfl (by decide) (by omega) 0 (ok := fun _ => True) (okp := fun _ => True) rfl (fun _ hk => hk) trivial (by omega) (by omega) (Ba _ _) (Aa _) ?_; intro z1 I2 F0 hb hg_ hnew_; clear hg_ hnew_; (first | rw [← L0.o] at F0 | (simp only [Int.reduceToNat] at F0; rw [← L0.o] at F0)); obtain ⟨C1, b0, HB⟩ := b_ (sZ F0 (ac (hS_ n0.o))) <| b_ (bM (g := j0) (o := .cells #[.string K0, .int .i64 V0] 85 (0, 0)) (by refine kK_ ?_; refine cd (cs := #[.string K0, .int .i64 0]) ?_ 1 _ rfl; refine kK_ ?_; refine cd (cs := #[.string (⟨#[]⟩ : ByteArray), .int .i64 0]) ?_ 0 _ rfl; exact rK_ b0.o) hb) <| c_ (ab (hS_ n0.o) hb); clear hb F0)); try go_wp2_with (first | (go_at_call 92; (with_reducible refine (cO.calls a1 O0 _ A4.o).mono ?_); rintro e F2 ⟨rfl, hb⟩; replace HB := c_ (ab (hB_) hb); (try clear hb)) | (go_at_call 92; (with_reducible refine (cO.calls a2 R0 _ A6.o).mono ?_); rintro e G2 ⟨rfl, hb⟩; replace HB := c_ (ab (hB_) hb); (try clear hb)) | (go_at_call 98; (with_reducible refine (b7.calls k ((a0 ++ O0) ++ R0) K0 V0 _ A8.o).mono ?_); rintro e H2 ⟨rfl, hb⟩; replace HB := c_ (ab (hB_) hb); (try clear hb)) | ((refine aI (N := 7) rfl ?_); refine cz ?hg (N := 7) ?hd (cs := #[.string (⟨#[]⟩ : ByteArray), .int .i64 0]) (t := 85) ?hr ?_; (case hd => rfl); (case hg => rfl); (case hr => first | (go_simp; done) | (go_simp; rfl)); intro j0 hg L1 hbox hb; obtain ⟨HB, b0, M1, n0⟩ := b_ (ab (hB_) hb) <| b_ (hbox) <| b_ (by rw [hg]; exact (ac (hB_)) : w.heap.size ≤ j0) <| c_ (by rw [hg]; exact (ac (hB_)) : w.heap.size ≤ j0); clear hb hbox hg; have Y0 : L1.cell? ⟨j0, 0, none⟩ = some (.string (⟨#[]⟩ : ByteArray)) := (ar b0.o 0).trans rfl; have Z0 : L1.cell? ⟨j0, 1, none⟩ = some (.int .i64 0) := (ar b0.o 1).trans rfl; have b1 := aj b0.o 0; have c1 := aj b0.o 1) | ((refine aI (N := 26) rfl ?_); refine tw (Kd.int .i64) _ 3 rfl (N := 26) rfl 28 _ _ rfl 256 rfl rfl Tryz.underlying28 (.int .i64 0) 8 cY rfl (by decide) (by omega) 0 (ok := fun _ => True) (okp := fun _ => True) rfl (fun _ hk => hk) trivial (by omega) (by omega) (Ba _ _) (Aa _) ?_; intro z1 I2 F0 hb hg_ hnew_; clear hg_ hnew_; (first | rw [← L0.o] at F0 | (simp only [Int.reduceToNat] at F0; rw [← L0.o] at F0)); obtain ⟨C1, b0, HB⟩ := b_ (sZ F0 (ac (hS_ n0.o))) <| b_ (bM (g := j0) (o := .cells #[.string K0, .int .i64 V0] 85 (0, 0)) (by refine kK_ ?_; refine cd (cs := #[.string K0, .int .i64 0]) ?_ 1 _ rfl; refine kK_ ?_; refine cd (cs := #[.string (⟨#[]⟩ : ByteArray), .int .i64 0]) ?_ 0 _ rfl; exact rK_ b0.o) hb) <| c_ (ab (hS_ n0.o) hb); clear hb F0)))
 go_loopg [9, 10] k (fun kq v9 m3 w' => ∃ (A1 : List Int) (B1 : Int) (H0 : Int) (f0 : ByteArray) (e0 : Int), v9 = .int .i64 B1 ∧ m3 = .int .i64 H0 ∧ aa (aq.l0 kq A1 B1 H0 f0 e0 = some r) ∧ aa (kq ≤ k) ∧ aa (Kd.R (Kd.int .i64) 3 w' w.heap.size (fun _ => True) z1 A1) ∧ aa (w'.heap[j0]? = some (.cells #[.string f0, .int .i64 e0] 85 (0, 0))) ∧ aa (Below w.heap.size w w'))
 case atStart => exact ⟨(z2), (0), (0), (K0), (V0), f0_, f0_, H', ⟨Aa _⟩, ⟨rR_ C1.o⟩, ⟨by refine kK_ ?_; exact b0.o⟩, ⟨hS_ n0.o⟩⟩
 clear H'
 obtain ⟨A1, B1, H0, f0, e0, rfl, rfl, HA, I1, p0, b0, HB⟩ := hrel
 rcases gk with _ | k1
 ·exact absurd HA.o (by simp [aq.l0])
 have H := HA.o
 clear HA
 simp only [aq.l0] at H
 have S1 := c_ H
 clear H
 go_upto_region 5 with (fail)
 repeat (go_quiet (fail); go_upto_region 5 with (fail))
 go_cut [32] (fun n3 wc => ∃ (kq : Nat) (P0 : Bool), n3 = .bool P0 ∧ aa (aq.j1 kq A1 B1 H0 P0 f0 e0 = some r) ∧ aa (kq ≤ k1) ∧ aa (Kd.R (Kd.int .i64) 3 wc w.heap.size (fun _ => True) z1 A1) ∧ aa (wc.heap[j0]? = some (.cells #[.string f0, .int .i64 e0] 85 (0, 0))) ∧ aa (Below w.heap.size w wc))
 case first =>
  have H := S1.o
  clear S1
  by_cases U1 : H0 < 4000
  ·rw [Da U1] at H
   have S0 := wa U1
   clear U1
   (first | rw [S0] | (simp only [bv, cG]; rw [S0]) | skip)
   have H' := c_ H
   clear H
   go_wp2
   repeat (go_quiet (fail); try go_wp2)
   go_meet
   case rel => exact ⟨_, (decide (B1 < 256)), f0_, H', ⟨by have := I1.o; first | omega | exact Aa _⟩, ⟨rR_ p0.o⟩, ⟨by refine kK_ ?_; exact b0.o⟩, ⟨hS_ n0.o⟩⟩
  rw [Ea U1] at H
  have S0 := xa U1
  clear U1
  (first | rw [S0] | (simp only [bv, cG]; rw [S0]) | skip)
  have H' := c_ H
  clear H
  go_wp2
  repeat (go_quiet (fail); try go_wp2)
  go_meet
  case rel => exact ⟨_, (false), f0_, H', ⟨by have := I1.o; first | omega | exact Aa _⟩, ⟨rR_ p0.o⟩, ⟨by refine kK_ ?_; exact b0.o⟩, ⟨hS_ n0.o⟩⟩
 clear S1
 obtain ⟨kq, P0, rfl, HA, T0, p0, b0, HB⟩ := hcut
 rcases kq with _ | D1
 ·exact absurd HA.o (by simp [aq.j1])
 have H := HA.o
 clear HA
 simp only [aq.j1] at H
 by_cases p2 : P0 = true
 ·subst p2
  replace H := iT_ H
  obtain ⟨⟨v0, y0, d0⟩, A2, H⟩ := bN_ H
  try dsimp only at H
  obtain ⟨J2, H⟩ := iN_ H
  have K2 := wa J2
  have L2 : decide (0 < d0.size) = true := wa (by omega)
  clear J2
  obtain ⟨M2, H⟩ := iN_ H
  have N2 := wa M2
  have O2 : decide (1 < d0.size) = true := wa (by omega)
  clear M2
  obtain ⟨P2, H⟩ := iN_ H
  have Q2 := wa P2
  have R2 : decide (2 < d0.size) = true := wa (by omega)
  clear P2
  obtain ⟨B0, d1⟩ : ∃ y_ : List Int, y_ = (([wrap64 ((wrap64 (bt d0 0)) + (wrap64 ((Int.tmod (wrap64 (bt d0 1)) 16) * 256))), wrap64 ((wrap64 (Int.tdiv (wrap64 (bt d0 1)) 16)) + (wrap64 (16 * (wrap64 (bt d0 2)))))] : List Int)) := ⟨_, rfl⟩
  first | replace H := yb_ d1 H | rw [← d1] at H
  have M0 := c_ d1
  clear d1
  have H' := c_ H
  clear H
  have q2 : wc.cell? ⟨j0, 0, none⟩ = some (.string f0) := (ar b0.o 0).trans rfl
  have r2 : wc.cell? ⟨j0, 1, none⟩ = some (.int .i64 e0) := (ar b0.o 1).trans rfl
  have t2 := aj b0.o 0
  have u2 := aj b0.o 1
  go_wp2_with (first | (go_at_call 99; (with_reducible refine (ap.calls D1 f0 e0 3 v0 y0 d0 _ A2.o).mono ?_); rintro e T2 ⟨rfl, hb⟩; obtain ⟨p0, b0, HB⟩ := b_ (tc (rR_ p0.o) hb) <| b_ (bM (g := j0) (o := .cells #[.string f0, .int .i64 e0] 85 (0, 0)) (rK_ b0.o) hb) <| c_ (ab (hS_ n0.o) hb); (try clear hb)) | ((refine aI (N := 11) rfl ?_); refine cz ?hg (N := 11) ?hd (cs := #[.string (⟨#[]⟩ : ByteArray), .int .i64 0]) (t := 85) ?hr ?_; (case hd => rfl); (case hg => rfl); (case hr => first | (go_simp; done) | (go_simp; rfl)); intro q0 hg e1 hbox hb; obtain ⟨p0, b0, HB, k0, N1, C0, r0, t0⟩ := b_ (tc (rR_ p0.o) hb) <| b_ (bM (g := j0) (o := .cells #[.string f0, .int .i64 e0] 85 (0, 0)) (rK_ b0.o) hb) <| b_ (ab (hS_ n0.o) hb) <| b_ (hbox) <| b_ (by rw [hg]; exact (ac (hS_ n0.o)) : w.heap.size ≤ q0) <| b_ (by rw [hg]; exact (ac (hS_ n0.o)) : w.heap.size ≤ q0) <| b_ (by rw [hg]; exact Nat.ne_of_lt (eM (g := j0) (o := .cells #[.string f0, .int .i64 e0] 85 (0, 0)) (rK_ b0.o)) : j0 ≠ q0) <| c_ (by rw [hg]; exact Nat.ne_of_gt (eM (g := j0) (o := .cells #[.string f0, .int .i64 e0] 85 (0, 0)) (rK_ b0.o)) : q0 ≠ j0); clear hb hbox hg; have hnb30 := t0.o; have hnc30 := r0.o; have f1 : e1.cell? ⟨q0, 0, none⟩ = some (.string (⟨#[]⟩ : ByteArray)) := (ar k0.o 0).trans rfl; have g1 : e1.cell? ⟨q0, 1, none⟩ = some (.int .i64 0) := (ar k0.o 1).trans rfl; have i1 := aj k0.o 0; have m1 := aj k0.o 1; have n1 : e1.cell? ⟨j0, 0, none⟩ = some (.string f0) := (ar b0.o 0).trans rfl; have p1 : e1.cell? ⟨j0, 1, none⟩ = some (.int .i64 e0) := (ar b0.o 1).trans rfl; have q1 := aj b0.o 0; have r1 := aj b0.o 1; have Z1 : 0 ≤ (0 : Int) := (by omega); have O1 : 0 < d0.size := (by have : (0 : Int) < (d0.size : Int) := oD_; omega); have b2 : ∀ h : 0 < d0.size, ((d0[0]'h).toNat : Int) = bt d0 0 := cP d0 0; clear Z1; have qi22 : (0 < (d0.size : Int)) = True := ya oD_; replace O1 := ya O1; have c2 : 0 ≤ (1 : Int) := (by omega); have P1 : 1 < d0.size := (by have : (1 : Int) < (d0.size : Int) := oD_; omega); have d2 : ∀ h : 1 < d0.size, ((d0[1]'h).toNat : Int) = bt d0 1 := cP d0 1; clear c2; have qi24 : (1 < (d0.size : Int)) = True := ya oD_; replace P1 := ya P1; have e2 : 0 ≤ (2 : Int) := (by omega); have Q1 : 2 < d0.size := (by have : (2 : Int) < (d0.size : Int) := oD_; omega); have f2 : ∀ h : 2 < d0.size, ((d0[2]'h).toNat : Int) = bt d0 2 := cP d0 2; clear e2; have qi26 : (2 < (d0.size : Int)) = True := ya oD_; replace Q1 := ya Q1) | ((refine aI (N := 60) rfl ?_); refine tn (Kd.int .i64) _ 3 ?hg (N := 60) ?hd (xs := ([wrap64 ((wrap64 (bt d0 0)) + (wrap64 ((Int.tmod (wrap64 (bt d0 1)) 16) * 256))), wrap64 ((wrap64 (Int.tdiv (wrap64 (bt d0 1)) 16)) + (wrap64 (16 * (wrap64 (bt d0 2)))))] : List Int)) (inner := [.int .i64 (wrap64 ((wrap64 (bt d0 0)) + (wrap64 ((Int.tmod (wrap64 (bt d0 1)) 16) * 256)))), .int .i64 (wrap64 ((wrap64 (Int.tdiv (wrap64 (bt d0 1)) 16)) + (wrap64 (16 * (wrap64 (bt d0 2))))))]) (ok := fun _ => True) (okp := fun _ => True) ?hr ?hp (fun _ hk => hk) trivial (Ba _ _) (Aa _) (by simp) ?_; (case hd => rfl); (case hg => rfl); (case hr => first | (go_simp; done) | (go_simp; rfl)); (case hp => exact (bA.one (show Kd.M (Kd.int .i64) _ _ _ (wrap64 ((wrap64 (bt d0 0)) + (wrap64 ((Int.tmod (wrap64 (bt d0 1)) 16) * 256)))) [.int .i64 (wrap64 ((wrap64 (bt d0 0)) + (wrap64 ((Int.tmod (wrap64 (bt d0 1)) 16) * 256))))] from rfl) (bA.one (show Kd.M (Kd.int .i64) _ _ _ (wrap64 ((wrap64 (Int.tdiv (wrap64 (bt d0 1)) 16)) + (wrap64 (16 * (wrap64 (bt d0 2)))))) [.int .i64 (wrap64 ((wrap64 (Int.tdiv (wrap64 (bt d0 1)) 16)) + (wrap64 (16 * (wrap64 (bt d0 2))))))] from rfl) (bA.none _ _)))); intro g2 U2 D0 hb hg_ hnew_; clear hg_ hnew_; (first | rw [← M0.o] at D0 | (simp only [Int.reduceToNat] at D0; rw [← M0.o] at D0)); obtain ⟨p0, N0, b0, k0, HB⟩ := b_ (s5 (by refine kR_ ?_; exact (s9 (s9 (tv (tv (tv (tv (tx (tx p0.o k0.o (by decide)) b0.o (by decide)) (fun _ hk => hk.1.2) (.string v0)) (fun _ hk => hk.1.2) (.int .i64 y0)) (fun _ hk => hk.2) _) (fun _ hk => hk.2) _) (fun _ h_ => h_.1)) (fun _ h_ => h_.1))) (sY D0) hb) <| b_ (sZ (ta D0 (ti (by refine kR_ ?_; exact (s9 (s9 (tv (tv (tv (tv (tx (tx p0.o k0.o (by decide)) b0.o (by decide)) (fun _ hk => hk.1.2) (.string v0)) (fun _ hk => hk.1.2) (.int .i64 y0)) (fun _ hk => hk.2) _) (fun _ hk => hk.2) _) (fun _ h_ => h_.1)) (fun _ h_ => h_.1))))) (ac ((u0_ n0.o C0.o)))) <| b_ (bM (g := j0) (o := .cells #[.string v0, .int .i64 y0] 85 (0, 0)) (by refine kK_ ?_; refine cd (cs := #[.string v0, .int .i64 e0]) ?_ 1 _ rfl; refine kK_ ?_; refine cd (cs := #[.string f0, .int .i64 e0]) ?_ 0 _ rfl; refine kK_ ?_; refine d6 ?_ r0.o _; refine kK_ ?_; refine d6 ?_ r0.o _; exact rK_ b0.o) hb) <| b_ (bM (g := q0) (o := .cells #[.string v0, .int .i64 y0] 85 (0, 0)) (by refine kK_ ?_; refine d6 ?_ t0.o _; refine kK_ ?_; refine d6 ?_ t0.o _; refine kK_ ?_; refine cd (cs := #[.string v0, .int .i64 0]) ?_ 1 _ rfl; refine kK_ ?_; refine cd (cs := #[.string (⟨#[]⟩ : ByteArray), .int .i64 0]) ?_ 0 _ rfl; exact rK_ k0.o) hb) <| c_ (ab ((u0_ n0.o C0.o)) hb); clear hb D0; obtain ⟨J1, W0, E1⟩ := s7 N0.o; subst E1))
  repeat (go_quiet (first | (go_at_call 99; (with_reducible refine (ap.calls D1 f0 e0 3 v0 y0 d0 _ A2.o).mono ?_); rintro e T2 ⟨rfl, hb⟩; obtain ⟨p0, b0, HB⟩ := b_ (tc (rR_ p0.o) hb) <| b_ (bM (g := j0) (o := .cells #[.string f0, .int .i64 e0] 85 (0, 0)) (rK_ b0.o) hb) <| c_ (ab (hS_ n0.o) hb); (try clear hb)) | ((refine aI (N := 11) rfl ?_); refine cz ?hg (N := 11) ?hd (cs := #[.string (⟨#[]⟩ : ByteArray), .int .i64 0]) (t := 85) ?hr ?_; (case hd => rfl); (case hg => rfl); (case hr => first | (go_simp; done) | (go_simp; rfl)); intro q0 hg e1 hbox hb; obtain ⟨p0, b0, HB, k0, N1, C0, r0, t0⟩ := b_ (tc (rR_ p0.o) hb) <| b_ (bM (g := j0) (o := .cells #[.string f0, .int .i64 e0] 85 (0, 0)) (rK_ b0.o) hb) <| b_ (ab (hS_ n0.o) hb) <| b_ (hbox) <| b_ (by rw [hg]; exact (ac (hS_ n0.o)) : w.heap.size ≤ q0) <| b_ (by rw [hg]; exact (ac (hS_ n0.o)) : w.heap.size ≤ q0) <| b_ (by rw [hg]; exact Nat.ne_of_lt (eM (g := j0) (o := .cells #[.string f0, .int .i64 e0] 85 (0, 0)) (rK_ b0.o)) : j0 ≠ q0) <| c_ (by rw [hg]; exact Nat.ne_of_gt (eM (g := j0) (o := .cells #[.string f0, .int .i64 e0] 85 (0, 0)) (rK_ b0.o)) : q0 ≠ j0); clear hb hbox hg; have hnb30 := t0.o; have hnc30 := r0.o; have f1 : e1.cell? ⟨q0, 0, none⟩ = some (.string (⟨#[]⟩ : ByteArray)) := (ar k0.o 0).trans rfl; have g1 : e1.cell? ⟨q0, 1, none⟩ = some (.int .i64 0) := (ar k0.o 1).trans rfl; have i1 := aj k0.o 0; have m1 := aj k0.o 1; have n1 : e1.cell? ⟨j0, 0, none⟩ = some (.string f0) := (ar b0.o 0).trans rfl; have p1 : e1.cell? ⟨j0, 1, none⟩ = some (.int .i64 e0) := (ar b0.o 1).trans rfl; have q1 := aj b0.o 0; have r1 := aj b0.o 1; have Z1 : 0 ≤ (0 : Int) := (by omega); have O1 : 0 < d0.size := (by have : (0 : Int) < (d0.size : Int) := oD_; omega); have b2 : ∀ h : 0 < d0.size, ((d0[0]'h).toNat : Int) = bt d0 0 := cP d0 0; clear Z1; have qi22 : (0 < (d0.size : Int)) = True := ya oD_; replace O1 := ya O1; have c2 : 0 ≤ (1 : Int) := (by omega); have P1 : 1 < d0.size := (by have : (1 : Int) < (d0.size : Int) := oD_; omega); have d2 : ∀ h : 1 < d0.size, ((d0[1]'h).toNat : Int) = bt d0 1 := cP d0 1; clear c2; have qi24 : (1 < (d0.size : Int)) = True := ya oD_; replace P1 := ya P1; have e2 : 0 ≤ (2 : Int) := (by omega); have Q1 : 2 < d0.size := (by have : (2 : Int) < (d0.size : Int) := oD_; omega); have f2 : ∀ h : 2 < d0.size, ((d0[2]'h).toNat : Int) = bt d0 2 := cP d0 2; clear e2; have qi26 : (2 < (d0.size : Int)) = True := ya oD_; replace Q1 := ya Q1) | ((refine aI (N := 60) rfl ?_); refine tn (Kd.int .i64) _ 3 ?hg (N := 60) ?hd (xs := ([wrap64 ((wrap64 (bt d0 0)) + (wrap64 ((Int.tmod (wrap64 (bt d0 1)) 16) * 256))), wrap64 ((wrap64 (Int.tdiv (wrap64 (bt d0 1)) 16)) + (wrap64 (16 * (wrap64 (bt d0 2)))))] : List Int)) (inner := [.int .i64 (wrap64 ((wrap64 (bt d0 0)) + (wrap64 ((Int.tmod (wrap64 (bt d0 1)) 16) * 256)))), .int .i64 (wrap64 ((wrap64 (Int.tdiv (wrap64 (bt d0 1)) 16)) + (wrap64 (16 * (wrap64 (bt d0 2))))))]) (ok := fun _ => True) (okp := fun _ => True) ?hr ?hp (fun _ hk => hk) trivial (Ba _ _) (Aa _) (by simp) ?_; (case hd => rfl); (case hg => rfl); (case hr => first | (go_simp; done) | (go_simp; rfl)); (case hp => exact (bA.one (show Kd.M (Kd.int .i64) _ _ _ (wrap64 ((wrap64 (bt d0 0)) + (wrap64 ((Int.tmod (wrap64 (bt d0 1)) 16) * 256)))) [.int .i64 (wrap64 ((wrap64 (bt d0 0)) + (wrap64 ((Int.tmod (wrap64 (bt d0 1)) 16) * 256))))] from rfl) (bA.one (show Kd.M (Kd.int .i64) _ _ _ (wrap64 ((wrap64 (Int.tdiv (wrap64 (bt d0 1)) 16)) + (wrap64 (16 * (wrap64 (bt d0 2)))))) [.int .i64 (wrap64 ((wrap64 (Int.tdiv (wrap64 (bt d0 1)) 16)) + (wrap64 (16 * (wrap64 (bt d0 2))))))] from rfl) (bA.none _ _)))); intro g2 U2 D0 hb hg_ hnew_; clear hg_ hnew_; (first | rw [← M0.o] at D0 | (simp only [Int.reduceToNat] at D0; rw [← M0.o] at D0)); obtain ⟨p0, N0, b0, k0, HB⟩ := b_ (s5 (by refine kR_ ?_; exact (s9 (s9 (tv (tv (tv (tv (tx (tx p0.o k0.o (by decide)) b0.o (by decide)) (fun _ hk => hk.1.2) (.string v0)) (fun _ hk => hk.1.2) (.int .i64 y0)) (fun _ hk => hk.2) _) (fun _ hk => hk.2) _) (fun _ h_ => h_.1)) (fun _ h_ => h_.1))) (sY D0) hb) <| b_ (sZ (ta D0 (ti (by refine kR_ ?_; exact (s9 (s9 (tv (tv (tv (tv (tx (tx p0.o k0.o (by decide)) b0.o (by decide)) (fun _ hk => hk.1.2) (.string v0)) (fun _ hk => hk.1.2) (.int .i64 y0)) (fun _ hk => hk.2) _) (fun _ hk => hk.2) _) (fun _ h_ => h_.1)) (fun _ h_ => h_.1))))) (ac ((u0_ n0.o C0.o)))) <| b_ (bM (g := j0) (o := .cells #[.string v0, .int .i64 y0] 85 (0, 0)) (by refine kK_ ?_; refine cd (cs := #[.string v0, .int .i64 e0]) ?_ 1 _ rfl; refine kK_ ?_; refine cd (cs := #[.string f0, .int .i64 e0]) ?_ 0 _ rfl; refine kK_ ?_; refine d6 ?_ r0.o _; refine kK_ ?_; refine d6 ?_ r0.o _; exact rK_ b0.o) hb) <| b_ (bM (g := q0) (o := .cells #[.string v0, .int .i64 y0] 85 (0, 0)) (by refine kK_ ?_; refine d6 ?_ t0.o _; refine kK_ ?_; refine d6 ?_ t0.o _; refine kK_ ?_; refine cd (cs := #[.string v0, .int .i64 0]) ?_ 1 _ rfl; refine kK_ ?_; refine cd (cs := #[.string (⟨#[]⟩ : ByteArray), .int .i64 0]) ?_ 0 _ rfl; exact rK_ k0.o) hb) <| c_ (ab ((u0_ n0.o C0.o)) hb); clear hb D0; obtain ⟨J1, W0, E1⟩ := s7 N0.o; subst E1)); try go_wp2_with (first | (go_at_call 99; (with_reducible refine (ap.calls D1 f0 e0 3 v0 y0 d0 _ A2.o).mono ?_); rintro e T2 ⟨rfl, hb⟩; obtain ⟨p0, b0, HB⟩ := b_ (tc (rR_ p0.o) hb) <| b_ (bM (g := j0) (o := .cells #[.string f0, .int .i64 e0] 85 (0, 0)) (rK_ b0.o) hb) <| c_ (ab (hS_ n0.o) hb); (try clear hb)) | ((refine aI (N := 11) rfl ?_); refine cz ?hg (N := 11) ?hd (cs := #[.string (⟨#[]⟩ : ByteArray), .int .i64 0]) (t := 85) ?hr ?_; (case hd => rfl); (case hg => rfl); (case hr => first | (go_simp; done) | (go_simp; rfl)); intro q0 hg e1 hbox hb; obtain ⟨p0, b0, HB, k0, N1, C0, r0, t0⟩ := b_ (tc (rR_ p0.o) hb) <| b_ (bM (g := j0) (o := .cells #[.string f0, .int .i64 e0] 85 (0, 0)) (rK_ b0.o) hb) <| b_ (ab (hS_ n0.o) hb) <| b_ (hbox) <| b_ (by rw [hg]; exact (ac (hS_ n0.o)) : w.heap.size ≤ q0) <| b_ (by rw [hg]; exact (ac (hS_ n0.o)) : w.heap.size ≤ q0) <| b_ (by rw [hg]; exact Nat.ne_of_lt (eM (g := j0) (o := .cells #[.string f0, .int .i64 e0] 85 (0, 0)) (rK_ b0.o)) : j0 ≠ q0) <| c_ (by rw [hg]; exact Nat.ne_of_gt (eM (g := j0) (o := .cells #[.string f0, .int .i64 e0] 85 (0, 0)) (rK_ b0.o)) : q0 ≠ j0); clear hb hbox hg; have hnb30 := t0.o; have hnc30 := r0.o; have f1 : e1.cell? ⟨q0, 0, none⟩ = some (.string (⟨#[]⟩ : ByteArray)) := (ar k0.o 0).trans rfl; have g1 : e1.cell? ⟨q0, 1, none⟩ = some (.int .i64 0) := (ar k0.o 1).trans rfl; have i1 := aj k0.o 0; have m1 := aj k0.o 1; have n1 : e1.cell? ⟨j0, 0, none⟩ = some (.string f0) := (ar b0.o 0).trans rfl; have p1 : e1.cell? ⟨j0, 1, none⟩ = some (.int .i64 e0) := (ar b0.o 1).trans rfl; have q1 := aj b0.o 0; have r1 := aj b0.o 1; have Z1 : 0 ≤ (0 : Int) := (by omega); have O1 : 0 < d0.size := (by have : (0 : Int) < (d0.size : Int) := oD_; omega); have b2 : ∀ h : 0 < d0.size, ((d0[0]'h).toNat : Int) = bt d0 0 := cP d0 0; clear Z1; have qi22 : (0 < (d0.size : Int)) = True := ya oD_; replace O1 := ya O1; have c2 : 0 ≤ (1 : Int) := (by omega); have P1 : 1 < d0.size := (by have : (1 : Int) < (d0.size : Int) := oD_; omega); have d2 : ∀ h : 1 < d0.size, ((d0[1]'h).toNat : Int) = bt d0 1 := cP d0 1; clear c2; have qi24 : (1 < (d0.size : Int)) = True := ya oD_; replace P1 := ya P1; have e2 : 0 ≤ (2 : Int) := (by omega); have Q1 : 2 < d0.size := (by have : (2 : Int) < (d0.size : Int) := oD_; omega); have f2 : ∀ h : 2 < d0.size, ((d0[2]'h).toNat : Int) = bt d0 2 := cP d0 2; clear e2; have qi26 : (2 < (d0.size : Int)) = True := ya oD_; replace Q1 := ya Q1) | ((refine aI (N := 60) rfl ?_); refine tn (Kd.int .i64) _ 3 ?hg (N := 60) ?hd (xs := ([wrap64 ((wrap64 (bt d0 0)) + (wrap64 ((Int.tmod (wrap64 (bt d0 1)) 16) * 256))), wrap64 ((wrap64 (Int.tdiv (wrap64 (bt d0 1)) 16)) + (wrap64 (16 * (wrap64 (bt d0 2)))))] : List Int)) (inner := [.int .i64 (wrap64 ((wrap64 (bt d0 0)) + (wrap64 ((Int.tmod (wrap64 (bt d0 1)) 16) * 256)))), .int .i64 (wrap64 ((wrap64 (Int.tdiv (wrap64 (bt d0 1)) 16)) + (wrap64 (16 * (wrap64 (bt d0 2))))))]) (ok := fun _ => True) (okp := fun _ => True) ?hr ?hp (fun _ hk => hk) trivial (Ba _ _) (Aa _) (by simp) ?_; (case hd => rfl); (case hg => rfl); (case hr => first | (go_simp; done) | (go_simp; rfl)); (case hp => exact (bA.one (show Kd.M (Kd.int .i64) _ _ _ (wrap64 ((wrap64 (bt d0 0)) + (wrap64 ((Int.tmod (wrap64 (bt d0 1)) 16) * 256)))) [.int .i64 (wrap64 ((wrap64 (bt d0 0)) + (wrap64 ((Int.tmod (wrap64 (bt d0 1)) 16) * 256))))] from rfl) (bA.one (show Kd.M (Kd.int .i64) _ _ _ (wrap64 ((wrap64 (Int.tdiv (wrap64 (bt d0 1)) 16)) + (wrap64 (16 * (wrap64 (bt d0 2)))))) [.int .i64 (wrap64 ((wrap64 (Int.tdiv (wrap64 (bt d0 1)) 16)) + (wrap64 (16 * (wrap64 (bt d0 2))))))] from rfl) (bA.none _ _)))); intro g2 U2 D0 hb hg_ hnew_; clear hg_ hnew_; (first | rw [← M0.o] at D0 | (simp only [Int.reduceToNat] at D0; rw [← M0.o] at D0)); obtain ⟨p0, N0, b0, k0, HB⟩ := b_ (s5 (by refine kR_ ?_; exact (s9 (s9 (tv (tv (tv (tv (tx (tx p0.o k0.o (by decide)) b0.o (by decide)) (fun _ hk => hk.1.2) (.string v0)) (fun _ hk => hk.1.2) (.int .i64 y0)) (fun _ hk => hk.2) _) (fun _ hk => hk.2) _) (fun _ h_ => h_.1)) (fun _ h_ => h_.1))) (sY D0) hb) <| b_ (sZ (ta D0 (ti (by refine kR_ ?_; exact (s9 (s9 (tv (tv (tv (tv (tx (tx p0.o k0.o (by decide)) b0.o (by decide)) (fun _ hk => hk.1.2) (.string v0)) (fun _ hk => hk.1.2) (.int .i64 y0)) (fun _ hk => hk.2) _) (fun _ hk => hk.2) _) (fun _ h_ => h_.1)) (fun _ h_ => h_.1))))) (ac ((u0_ n0.o C0.o)))) <| b_ (bM (g := j0) (o := .cells #[.string v0, .int .i64 y0] 85 (0, 0)) (by refine kK_ ?_; refine cd (cs := #[.string v0, .int .i64 e0]) ?_ 1 _ rfl; refine kK_ ?_; refine cd (cs := #[.string f0, .int .i64 e0]) ?_ 0 _ rfl; refine kK_ ?_; refine d6 ?_ r0.o _; refine kK_ ?_; refine d6 ?_ r0.o _; exact rK_ b0.o) hb) <| b_ (bM (g := q0) (o := .cells #[.string v0, .int .i64 y0] 85 (0, 0)) (by refine kK_ ?_; refine d6 ?_ t0.o _; refine kK_ ?_; refine d6 ?_ t0.o _; refine kK_ ?_; refine cd (cs := #[.string v0, .int .i64 0]) ?_ 1 _ rfl; refine kK_ ?_; refine cd (cs := #[.string (⟨#[]⟩ : ByteArray), .int .i64 0]) ?_ 0 _ rfl; exact rK_ k0.o) hb) <| c_ (ab ((u0_ n0.o C0.o)) hb); clear hb D0; obtain ⟨J1, W0, E1⟩ := s7 N0.o; subst E1)))
  go_loopg [9, 62] D1 (fun kq v9 p3 w' => ∃ (G0 : List Int) (E0 : Int) (u0 : Int), v9 = .int .i64 E0 ∧ p3 = .int .i64 u0 ∧ aa (aq.l1 kq G0 E0 H0 B0 (B0.length : Int) u0 v0 y0 = some r) ∧ aa (kq ≤ D1) ∧ aa (Kd.R (Kd.int .i64) 3 w' w.heap.size (fun k_ => some k_ ≠ ((.slice J1 B0.length W0) : Value).ownBlock) z1 G0) ∧ aa (Kd.R (Kd.int .i64) 3 w' w.heap.size (fun k_ => some k_ ≠ (z1 : Value).ownBlock) (.slice J1 B0.length W0) B0) ∧ aa (w'.heap[j0]? = some (.cells #[.string v0, .int .i64 y0] 85 (0, 0))) ∧ aa (w'.heap[q0]? = some (.cells #[.string v0, .int .i64 y0] 85 (0, 0))) ∧ aa (Below w.heap.size w w'))
  case atStart => exact ⟨(A1), (B1), (0), f0_, f0_, H', ⟨Aa _⟩, ⟨by refine kR_ ?_; exact s9 p0.o (fun _ hk => hk.2)⟩, ⟨by refine kR_ ?_; exact s9 N0.o (fun _ hk => hk.2)⟩, ⟨by refine kK_ ?_; exact b0.o⟩, ⟨by refine kK_ ?_; exact k0.o⟩, ⟨(u0_ n0.o C0.o)⟩⟩
  clear H'
  obtain ⟨G0, E0, u0, rfl, rfl, HA, R1, p0, x0, b0, k0, HB⟩ := hrel
  rcases gk with _ | k3
  ·exact absurd HA.o (by simp [aq.l1])
  have H := HA.o
  clear HA
  simp only [aq.l1] at H
  by_cases V1 : u0 < (B0.length : Int)
  rotate_left
  ·rw [Ea V1] at H
   have i2 := xa V1
   clear V1
   have H' := c_ H
   clear H
   go_wp2
   repeat (go_quiet (fail); try go_wp2)
   go_roundg k3
   case measure => have := I1.o; have := T0.o; have := R1.o; omega
   case rel => exact ⟨(G0), (E0), (wrap64 (H0 + 1)), (v0), (y0), f0_, f0_, H', ⟨by have := I1.o; have := T0.o; have := R1.o; omega⟩, ⟨by refine kR_ ?_; exact s9 p0.o (fun _ hk => trivial)⟩, ⟨by refine kK_ ?_; exact b0.o⟩, ⟨(u0_ n0.o C0.o)⟩⟩
  rw [Da V1] at H
  have i2 := wa V1
  clear V1
  obtain ⟨V2, H⟩ := iD_ H
  obtain ⟨X2, H⟩ := iD_ H
  by_cases X1 : (rd B0 u0) < 3329
  rotate_left
  ·rw [Ea X1] at H
   have j2 := xa X1
   clear X1
   have H' := c_ H
   clear H
   have I0 : 0 ≤ (u0 : Int) := oD_
   have J0 : u0 < (B0.length : Int) := oD_
   obtain ⟨U0, F1, t1⟩ := tb (sX x0.o).2.2 u0 I0 J0
   cases F1
   replace I0 := ya I0
   replace J0 := ya J0
   go_wp2
   repeat (go_quiet (fail); try go_wp2)
   go_roundg k3
   case measure => have := I1.o; have := T0.o; have := R1.o; omega
   case rel => exact ⟨(G0), (E0), (wrap64 (u0 + 1)), f0_, f0_, H', ⟨by have := I1.o; have := T0.o; have := R1.o; omega⟩, ⟨rR_ p0.o⟩, ⟨rR_ x0.o⟩, ⟨by refine kK_ ?_; exact b0.o⟩, ⟨by refine kK_ ?_; exact k0.o⟩, ⟨(u0_ n0.o C0.o)⟩⟩
  rw [Da X1] at H
  have j2 := wa X1
  clear X1
  by_cases Y1 : E0 < 256
  rotate_left
  ·rw [Ea Y1] at H
   have l2 := xa Y1
   clear Y1
   have H' := c_ H
   clear H
   have I0 : 0 ≤ (u0 : Int) := oD_
   have J0 : u0 < (B0.length : Int) := oD_
   obtain ⟨U0, F1, t1⟩ := tb (sX x0.o).2.2 u0 I0 J0
   cases F1
   replace I0 := ya I0
   replace J0 := ya J0
   go_wp2
   repeat (go_quiet (fail); try go_wp2)
   go_roundg k3
   case measure => have := I1.o; have := T0.o; have := R1.o; omega
   case rel => exact ⟨(G0), (E0), (wrap64 (u0 + 1)), f0_, f0_, H', ⟨by have := I1.o; have := T0.o; have := R1.o; omega⟩, ⟨rR_ p0.o⟩, ⟨rR_ x0.o⟩, ⟨by refine kK_ ?_; exact b0.o⟩, ⟨by refine kK_ ?_; exact k0.o⟩, ⟨(u0_ n0.o C0.o)⟩⟩
  rw [Da Y1] at H
  have l2 := wa Y1
  clear Y1
  obtain ⟨Y2, H⟩ := iD_ H
  obtain ⟨Z2, H⟩ := iD_ H
  obtain ⟨K1, y1⟩ : ∃ y_ : List Int, y_ = (G0.set (E0 : Int).toNat (rd B0 u0)) := ⟨_, rfl⟩
  first | replace H := yb_ y1 H | rw [← y1] at H
  have G1 := c_ y1
  clear y1
  have H' := c_ H
  clear H
  have I0 : 0 ≤ (u0 : Int) := oD_
  have J0 : u0 < (B0.length : Int) := oD_
  obtain ⟨U0, F1, t1⟩ := tb (sX x0.o).2.2 u0 I0 J0
  cases F1
  replace I0 := ya I0
  replace J0 := ya J0
  have B2 : 0 ≤ (E0 : Int) := oD_
  have C2 : (E0 : Int) < ((G0.length : Int) : Int) := oD_
  obtain ⟨go43, Q0, m2, n2, gl43, cl43, HG43⟩ := tt p0.o (by omega)
  (first | cases m2 | (injection m2 with ea_ en_ ec_; (first | subst ea_ | (injection ea_ with ea_; subst ea_)); subst ec_; clear en_))
  have T1 := c_ n2
  have GG43 := c_ HG43
  clear n2 gl43 HG43
  obtain ⟨D2, hf43_0⟩ := te 0 p0.o (E0 : Int) B2 C2
  replace B2 := ya B2
  replace C2 := ya C2
  have HP44 := tm p0.o (E0 : Int) (rd B0 u0)
  go_wp2_with (first | ((refine cn (t := 3) (p := 75) rfl ?_); (try (rw [da wr]; generalize hq_ : World.drewN wr _ = wr; obtain ⟨p0, x0, b0, k0, HB⟩ := b_ (uA hq_ p0.o) <| b_ (uA hq_ x0.o) <| b_ (blk_at hq_ b0.o) <| b_ (blk_at hq_ k0.o) <| c_ (fF hq_ HB.o); (try (have HP44 := tm p0.o (E0 : Int) (rd B0 u0))))); refine ce (t := 3) (p := 75) (v := ?vo_w45) (w1 := (wr.setCell ⟨go43, (E0 : Int).toNat, none⟩ (.int .i64 (rd B0 u0)))) ?hg ?ho ?hn ?hr ?_; (case ho => rfl); (case hg => rfl); (case hn => rfl); (case hr => first | (go_simp; done) | (go_simp; rfl)); intro H1 hw; have hg : wr.grownBy H1 (some go43) := (by rw [hw]; exact HP44.2); have hp_ : Kd.R (Kd.int .i64) 3 H1 w.heap.size (fun k_ => some k_ ≠ (.slice (some U0) B0.length W0 : Value).ownBlock) (.slice (some ⟨go43, 0, none⟩) G0.length Q0) K1 := (by rw [hw, G1.o]; exact HP44.1); clear HP44; have n0_ := c_ (hp_); have n1_ := c_ (tC (v := (.slice (some ⟨go43, 0, none⟩) G0.length Q0)) (v1 := (.slice (some ⟨go43, 0, none⟩) G0.length Q0)) (ok := (fun _ => True)) (by refine kR_ ?_; exact s9 x0.o (fun _ hk => ⟨trivial, hk⟩)) hg (.inl rfl)); have n2_ := c_ (cF (g := j0) (o := .cells #[.string v0, .int .i64 y0] 85 (0, 0)) (rK_ b0.o) hg (tW p0.o b0.o (by decide))); have n3_ := c_ (cF (g := q0) (o := .cells #[.string v0, .int .i64 y0] 85 (0, 0)) (rK_ k0.o) hg (tW p0.o k0.o (by decide))); have n4_ := c_ ((by rw [hw]; exact cq (HB.o) T1.o : Below w.heap.size w H1)); replace p0 := n0_; replace x0 := n1_; replace b0 := n2_; replace k0 := n3_; replace HB := n4_; clear n0_ n1_ n2_ n3_ n4_; clear hg hw hp_))
  repeat (go_quiet (first | ((refine cn (t := 3) (p := 75) rfl ?_); (try (rw [da wr]; generalize hq_ : World.drewN wr _ = wr; obtain ⟨p0, x0, b0, k0, HB⟩ := b_ (uA hq_ p0.o) <| b_ (uA hq_ x0.o) <| b_ (blk_at hq_ b0.o) <| b_ (blk_at hq_ k0.o) <| c_ (fF hq_ HB.o); (try (have HP44 := tm p0.o (E0 : Int) (rd B0 u0))))); refine ce (t := 3) (p := 75) (v := ?vo_w45) (w1 := (wr.setCell ⟨go43, (E0 : Int).toNat, none⟩ (.int .i64 (rd B0 u0)))) ?hg ?ho ?hn ?hr ?_; (case ho => rfl); (case hg => rfl); (case hn => rfl); (case hr => first | (go_simp; done) | (go_simp; rfl)); intro H1 hw; have hg : wr.grownBy H1 (some go43) := (by rw [hw]; exact HP44.2); have hp_ : Kd.R (Kd.int .i64) 3 H1 w.heap.size (fun k_ => some k_ ≠ (.slice (some U0) B0.length W0 : Value).ownBlock) (.slice (some ⟨go43, 0, none⟩) G0.length Q0) K1 := (by rw [hw, G1.o]; exact HP44.1); clear HP44; have n0_ := c_ (hp_); have n1_ := c_ (tC (v := (.slice (some ⟨go43, 0, none⟩) G0.length Q0)) (v1 := (.slice (some ⟨go43, 0, none⟩) G0.length Q0)) (ok := (fun _ => True)) (by refine kR_ ?_; exact s9 x0.o (fun _ hk => ⟨trivial, hk⟩)) hg (.inl rfl)); have n2_ := c_ (cF (g := j0) (o := .cells #[.string v0, .int .i64 y0] 85 (0, 0)) (rK_ b0.o) hg (tW p0.o b0.o (by decide))); have n3_ := c_ (cF (g := q0) (o := .cells #[.string v0, .int .i64 y0] 85 (0, 0)) (rK_ k0.o) hg (tW p0.o k0.o (by decide))); have n4_ := c_ ((by rw [hw]; exact cq (HB.o) T1.o : Below w.heap.size w H1)); replace p0 := n0_; replace x0 := n1_; replace b0 := n2_; replace k0 := n3_; replace HB := n4_; clear n0_ n1_ n2_ n3_ n4_; clear hg hw hp_)); try go_wp2_with (first | ((refine cn (t := 3) (p := 75) rfl ?_); (try (rw [da wr]; generalize hq_ : World.drewN wr _ = wr; obtain ⟨p0, x0, b0, k0, HB⟩ := b_ (uA hq_ p0.o) <| b_ (uA hq_ x0.o) <| b_ (blk_at hq_ b0.o) <| b_ (blk_at hq_ k0.o) <| c_ (fF hq_ HB.o); (try (have HP44 := tm p0.o (E0 : Int) (rd B0 u0))))); refine ce (t := 3) (p := 75) (v := ?vo_w45) (w1 := (wr.setCell ⟨go43, (E0 : Int).toNat, none⟩ (.int .i64 (rd B0 u0)))) ?hg ?ho ?hn ?hr ?_; (case ho => rfl); (case hg => rfl); (case hn => rfl); (case hr => first | (go_simp; done) | (go_simp; rfl)); intro H1 hw; have hg : wr.grownBy H1 (some go43) := (by rw [hw]; exact HP44.2); have hp_ : Kd.R (Kd.int .i64) 3 H1 w.heap.size (fun k_ => some k_ ≠ (.slice (some U0) B0.length W0 : Value).ownBlock) (.slice (some ⟨go43, 0, none⟩) G0.length Q0) K1 := (by rw [hw, G1.o]; exact HP44.1); clear HP44; have n0_ := c_ (hp_); have n1_ := c_ (tC (v := (.slice (some ⟨go43, 0, none⟩) G0.length Q0)) (v1 := (.slice (some ⟨go43, 0, none⟩) G0.length Q0)) (ok := (fun _ => True)) (by refine kR_ ?_; exact s9 x0.o (fun _ hk => ⟨trivial, hk⟩)) hg (.inl rfl)); have n2_ := c_ (cF (g := j0) (o := .cells #[.string v0, .int .i64 y0] 85 (0, 0)) (rK_ b0.o) hg (tW p0.o b0.o (by decide))); have n3_ := c_ (cF (g := q0) (o := .cells #[.string v0, .int .i64 y0] 85 (0, 0)) (rK_ k0.o) hg (tW p0.o k0.o (by decide))); have n4_ := c_ ((by rw [hw]; exact cq (HB.o) T1.o : Below w.heap.size w H1)); replace p0 := n0_; replace x0 := n1_; replace b0 := n2_; replace k0 := n3_; replace HB := n4_; clear n0_ n1_ n2_ n3_ n4_; clear hg hw hp_)))
  go_roundg k3
  case measure => have := I1.o; have := T0.o; have := R1.o; omega
  case rel => exact ⟨(K1), (wrap64 (E0 + 1)), (wrap64 (u0 + 1)), f0_, f0_, H', ⟨by have := I1.o; have := T0.o; have := R1.o; omega⟩, ⟨rR_ p0.o⟩, ⟨by refine kR_ ?_; exact s9 x0.o (fun _ hk => hk.2)⟩, ⟨by refine kK_ ?_; exact b0.o⟩, ⟨by refine kK_ ?_; exact k0.o⟩, ⟨(u0_ n0.o C0.o)⟩⟩
 ·replace p2 := Ca p2
  subst p2
  replace H := iF_ H
  obtain rfl := za H
  go_wp2
  repeat (go_quiet (fail); try go_wp2)
  go_ret
  exact ⟨_, f1_, rR_ p0.o, hS_ n0.o⟩
def cf.l0 : Nat → ByteArray → Int → Bool → List (List Int) → Int → Option ((List (List Int)))
 | 0, _, _, _, _, _ => none
 | k + 1, x0, x1, x2, x7, x9 => if x9 < 2 then (if x2 = true then ((aq.f k x0 x1 x9).bind fun t857 => (if x7.length < 5864062014805 then (cf.l0 k x0 x1 x2 (x7 ++ [t857]) (wrap64 (x9 + 1))) else (none))) else ((aq.f k x0 x9 x1).bind fun t863 => (if x7.length < 5864062014805 then (cf.l0 k x0 x1 x2 (x7 ++ [t863]) (wrap64 (x9 + 1))) else (none)))) else (some x7)
def cf.f (k : Nat) (a0 : ByteArray) (a1 : Int) (a2 : Bool) : Option ((List (List Int))) := cf.l0 k a0 a1 a2 ([] : List (List Int)) 0
theorem cf.mono_l : ∀ k, (∀ y0 y1 y2 y3 y4, LeO (cf.l0 k y0 y1 y2 y3 y4) (cf.l0 (k + 1) y0 y1 y2 y3 y4))
 | 0 => fun _ _ _ _ _ r h => by simp [cf.l0] at h
 | k + 1 => by
  have ih0 := cf.mono_l k
  intros; unfold cf.l0; exact o2_ ih0 aq.mono
theorem cf.mono : ∀ a0 a1 a2 k, LeO (cf.f k a0 a1 a2) (cf.f (k + 1) a0 a1 a2) := by
 intro a0 a1 a2 k
 have ih0 := cf.mono_l k
 unfold cf.f
 exact o2_ ih0 aq.mono
theorem cf.calls (k : Nat) (a0 : ByteArray) (a1 : Int) (a2 : Bool) (r : List (List Int)) (w : World) (h : cf.f k a0 a1 a2 = some r) :
  Calls Tryz.prog 57 #[.string a0, .int .i64 a1, .bool a2] w fun e w' => ∃ M0 : Value, e = .returned (M0) ∧ Kd.S (Kd.slice 3 (Kd.int .i64)) 28 w' w.heap.size (fun _ => True) M0 r ∧ Below w.heap.size w w' := by
 have HB := c_ (Ba w.heap.size w)
 delta cf.f at h
 have H := h
 clear h
 have H' := c_ H
 clear H
 go_enter Tryz.func57, Tryz.ntmps57
 go_wp2
 go_loopg [7, 9] k (fun kq v7 v9 w' => ∃ (e0 : List (List Int)) (d0 : Int), v9 = .int .i64 d0 ∧ aa (cf.l0 kq a0 a1 a2 e0 d0 = some r) ∧ aa (kq ≤ k) ∧ aa (Kd.S (Kd.slice 3 (Kd.int .i64)) 28 w' w.heap.size (fun _ => True) v7 e0) ∧ aa (Below w.heap.size w w'))
 case atStart => exact ⟨(([] : List (List Int))), (0), f0_, H', ⟨Aa _⟩, ⟨by first | exact tJ _ _ _ _ _ | exact Kd.N_nil _ _ _ _ _ | exact Kd.V_nil _ _ _ _ _ | exact Kd.Q_nil _ _ _ _ _ | exact tH _ _ _ _ _⟩, ⟨hB_⟩⟩
 clear H'
 obtain ⟨e0, d0, rfl, HA, F0, b0, HB⟩ := hrel
 rcases gk with _ | k1
 ·exact absurd HA.o (by simp [cf.l0])
 have H := HA.o
 clear HA
 simp only [cf.l0] at H
 by_cases c4 : d0 < 2
 rotate_left
 ·rw [Ea c4] at H
  have G0 := xa c4
  clear c4
  obtain rfl := za H
  go_wp2
  go_ret
  exact ⟨_, f1_, by refine kS_ ?_; exact b0.o, hB_⟩
 rw [Da c4] at H
 have G0 := wa c4
 clear c4
 by_cases c5 : a2 = true
 ·subst c5
  replace H := iT_ H
  obtain ⟨k0, A6, H⟩ := bN_ H
  obtain ⟨c7, H⟩ := iN_ H
  have H0 := c_ c7
  clear c7
  obtain ⟨I0, f0⟩ : ∃ y_ : List (List Int), y_ = (e0 ++ [k0]) := ⟨_, rfl⟩
  first | replace H := yb_ f0 H | rw [← f0] at H
  have r0 := c_ f0
  clear f0
  have H' := c_ H
  clear H
  go_wp2_with (first | (refine gq_ 90 (some 17) Tryz.func90 #[.string a0, .int .i64 a1, .int .i64 d0] (aq.calls k1 a0 a1 d0 k0 _ A6.o) ?_; rintro e w8 ⟨O0, rfl, t0, hb⟩; refine ⟨_, rfl, ?_⟩; obtain ⟨b0, n0, HB⟩ := b_ (s6 (rS_ b0.o) (sY t0) hb) <| b_ (sZ t0 (ac (hB_))) <| c_ (ab (hB_) hb); obtain ⟨u0, v0, J0⟩ := s7 n0.o; subst J0) | ((refine aU (b := .append) (xs := #[.tmp 13, .tmp 18]) rfl ?_); at_builtin; refine tE (Kd.slice 3 (Kd.int .i64)) (w0 := w) w.heap.size rfl (.tmp 13) (.tmp 18) 46 28 (.slice none 0 0) 24 rfl Tryz.underlying46 gg rfl (by decide) (by omega) u7 e0 k0 [.slice u0 k0.length v0] (fun _ => True) (fun k_ => some k_ = (.slice u0 k0.length v0 : Value).ownBlock) rfl rfl ?aP (fun k_ hk_ => ((s9 (ok' := fun k_ => ((fun _ => True)) k_ ∧ some k_ ≠ (u7 : Value).ownBlock) (th (n0.o) (tk b0.o) (by decide)) (fun k_ hk => ⟨trivial, hk.2⟩))).1 k_ hk_.symm) ?aF ?aO ?aB ?aS ?aL ?_; (case aP => exact t9 (s9 (tG rfl (s9 (ok' := fun k_ => ((fun _ => True)) k_ ∧ some k_ ≠ (u7 : Value).ownBlock) (th (n0.o) (tk b0.o) (by decide)) (fun k_ hk => ⟨trivial, hk.2⟩))) (fun _ h_ => h_))); (case aB => exact (hB_)); (case aF => exact (fun _ _ => trivial)); (case aO => exact (by refine kS_ ?_; exact tq b0.o (fun k_ hk => ⟨trivial, fun e_ => hk.2 e_⟩))); (case aS => exact (ac (hB_))); (case aL => have := H0.o; omega); intro P0 w9 ho hb hg hat; rw [← r0.o] at ho; obtain ⟨HB, x0⟩ := b_ (hb) <| c_ (ho); clear ho hb hg hat))
  go_roundg k1
  case measure => have := F0.o; omega
  case rel => exact ⟨(I0), (wrap64 (d0 + 1)), f0_, H', ⟨by have := F0.o; omega⟩, ⟨rS_ x0.o⟩, ⟨hB_⟩⟩
 ·replace c5 := Ca c5
  subst c5
  replace H := iF_ H
  obtain ⟨p0, Q0, H⟩ := bN_ H
  obtain ⟨N0, H⟩ := iN_ H
  have y0 := c_ N0
  clear N0
  obtain ⟨K0, j0⟩ : ∃ y_ : List (List Int), y_ = (e0 ++ [p0]) := ⟨_, rfl⟩
  first | replace H := yb_ j0 H | rw [← j0] at H
  have B0 := c_ j0
  clear j0
  have H' := c_ H
  clear H
  go_wp2_with (first | (refine gq_ 90 (some 24) Tryz.func90 #[.string a0, .int .i64 d0, .int .i64 a1] (aq.calls k1 a0 d0 a1 p0 _ Q0.o) ?_; rintro e T0 ⟨R0, rfl, t0, hb⟩; refine ⟨_, rfl, ?_⟩; obtain ⟨b0, q0, HB⟩ := b_ (s6 (rS_ b0.o) (sY t0) hb) <| b_ (sZ t0 (ac (hB_))) <| c_ (ab (hB_) hb); obtain ⟨C0, D0, L0⟩ := s7 q0.o; subst L0) | ((refine aU (b := .append) (xs := #[.tmp 20, .tmp 25]) rfl ?_); at_builtin; refine tE (Kd.slice 3 (Kd.int .i64)) (w0 := w) w.heap.size rfl (.tmp 20) (.tmp 25) 46 28 (.slice none 0 0) 24 rfl Tryz.underlying46 gg rfl (by decide) (by omega) u7 e0 p0 [.slice C0 p0.length D0] (fun _ => True) (fun k_ => some k_ = (.slice C0 p0.length D0 : Value).ownBlock) rfl rfl ?aP (fun k_ hk_ => ((s9 (ok' := fun k_ => ((fun _ => True)) k_ ∧ some k_ ≠ (u7 : Value).ownBlock) (th (q0.o) (tk b0.o) (by decide)) (fun k_ hk => ⟨trivial, hk.2⟩))).1 k_ hk_.symm) ?aF ?aO ?aB ?aS ?aL ?_; (case aP => exact t9 (s9 (tG rfl (s9 (ok' := fun k_ => ((fun _ => True)) k_ ∧ some k_ ≠ (u7 : Value).ownBlock) (th (q0.o) (tk b0.o) (by decide)) (fun k_ hk => ⟨trivial, hk.2⟩))) (fun _ h_ => h_))); (case aB => exact (hB_)); (case aF => exact (fun _ _ => trivial)); (case aO => exact (by refine kS_ ?_; exact tq b0.o (fun k_ hk => ⟨trivial, fun e_ => hk.2 e_⟩))); (case aS => exact (ac (hB_))); (case aL => have := y0.o; omega); intro S0 U0 ho hb hg hat; rw [← B0.o] at ho; obtain ⟨HB, E0⟩ := b_ (hb) <| c_ (ho); clear ho hb hg hat))
  go_roundg k1
  case measure => have := F0.o; omega
  case rel => exact ⟨(K0), (wrap64 (d0 + 1)), f0_, H', ⟨by have := F0.o; omega⟩, ⟨rS_ E0.o⟩, ⟨hB_⟩⟩
mutual
def aD.j0 : Nat → ByteArray → ByteArray → ByteArray → Bool → Option (ByteArray × Bool)
 | 0, _, _, _, _ => none
 | k + 1, x0, x1, x2, x29 => if x29 = true then (some ((⟨#[]⟩ : ByteArray), false)) else ((bk.f k x0).bind fun bt875 => (if 768 ≤ (x0.size : Int) then ((bG.f k x2 0).bind fun t879 => ((ca.f k t879).bind fun t882 => ((bG.f k x2 2).bind fun t885 => (aD.l0 k x1 x2 bt875.1 (x0.extract 768 x0.size) t882 t885 (⟨#[]⟩ : ByteArray) 0)))) else (none)))
def aD.l0 : Nat → ByteArray → ByteArray → List (List Int) → ByteArray → List (List Int) → List (List Int) → ByteArray → Int → Option (ByteArray × Bool)
 | 0, _, _, _, _, _, _, _, _ => none
 | k + 1, x1, x2, x8, x10, x11, x12, x13, x42 => if x42 < 2 then ((cf.f k x10 x42 true).bind fun t888 => ((bI.f k t888 x11).bind fun t891 => ((ai.f k t891).bind fun t894 => (if 0 ≤ x42 then (if x42 < (x12.length : Int) then ((bK.f k t894 (dw x12 x42)).bind fun t898 => ((bp.f k t898 10).bind fun t901 => ((ay.f k t901 10).bind fun t904 => (if x13.size + t904.size ≤ 9223372036854775807 then (aD.l0 k x1 x2 x8 x10 x11 x12 (x13 ++ t904) (wrap64 (x42 + 1))) else (none))))) else (none)) else (none))))) else ((bI.f k x8 x11).bind fun t905 => ((ai.f k t905).bind fun t908 => ((bJ.f k x2 4).bind fun t911 => ((bK.f k t908 t911).bind fun t914 => ((bN.f k x1).bind fun t917 => ((bK.f k t914 t917).bind fun t920 => ((bp.f k t920 4).bind fun t923 => ((ay.f k t923 4).bind fun t926 => (if x13.size + t926.size ≤ 9223372036854775807 then (some (x13 ++ t926, true)) else (none))))))))))
end
def aD.f (k : Nat) (a0 : ByteArray) (a1 : ByteArray) (a2 : ByteArray) : Option (ByteArray × Bool) := (cr.f k a0).bind fun t874 => (if t874 = true then (if (a1.size : Int) = 32 then (aD.j0 k a0 a1 a2 ((a2.size : Int) != 32)) else (aD.j0 k a0 a1 a2 true)) else (aD.j0 k a0 a1 a2 true))
theorem aD.mono_l : ∀ k, (∀ y0 y1 y2 y3, LeO (aD.j0 k y0 y1 y2 y3) (aD.j0 (k + 1) y0 y1 y2 y3)) ∧ (∀ y0 y1 y2 y3 y4 y5 y6 y7, LeO (aD.l0 k y0 y1 y2 y3 y4 y5 y6 y7) (aD.l0 (k + 1) y0 y1 y2 y3 y4 y5 y6 y7))
 | 0 => ⟨fun _ _ _ _ r h => by simp [aD.j0] at h, fun _ _ _ _ _ _ _ _ r h => by simp [aD.l0] at h⟩
 | k + 1 => by
  obtain ⟨ih0, ih1⟩ := aD.mono_l k
  refine ⟨?_, ?_⟩ <;> (intros; (first | unfold aD.j0 | unfold aD.l0); exact qP ih0 ih1 ai.mono bK.mono cr.mono bJ.mono bN.mono bI.mono ca.mono ay.mono bk.mono cf.mono bG.mono bp.mono)
theorem aD.mono : ∀ a0 a1 a2 k, LeO (aD.f k a0 a1 a2) (aD.f (k + 1) a0 a1 a2) := by
 intro a0 a1 a2 k
 obtain ⟨ih0, ih1⟩ := aD.mono_l k
 unfold aD.f
 exact qP ih0 ih1 ai.mono bK.mono cr.mono bJ.mono bN.mono bI.mono ca.mono ay.mono bk.mono cf.mono bG.mono bp.mono
def aD.T10 : Bool × List (List Nat × List Nat) := (true, [([], []), ([], []), ([0, 1], [0, 1]), ([], []), ([2, 3, 2], [2, 3]), ([4, 4], [4]), ([], []), ([], []), ([6, 7], [6, 7]), ([8], [8]), ([5, 9, 5], [5, 9]), ([10, 10, 0, 1, 2, 3, 4, 5, 6, 7, 8, 9, 10], [10])])
def aD.B10 : List Nat := [0, 0, 3, 0, 15, 31, 0, 0, 192, 448, 1023, 2047]
theorem aD.tab10 : d8 .any (fb Tryz.f21 10) = aD.T10 := by kernel_rfl
theorem aD.bits10 : db aD.T10.2 aD.B10 = true := by kernel_rfl
theorem aD.calls (k : Nat) (a0 : ByteArray) (a1 : ByteArray) (a2 : ByteArray) (r1 : ByteArray) (r2 : Bool) (w : World) (h : aD.f k a0 a1 a2 = some (r1, r2)) :
  Calls Tryz.prog 21 #[.string a0, .string a1, .string a2] w fun e w' => e = .returned (.tuple #[.string r1, .bool r2]) ∧ Below w.heap.size w w' := by
 have HB := c_ (Ba w.heap.size w)
 delta aD.f at h
 have H := h
 clear h
 have L1 := c_ H
 clear H
 go_enter Tryz.func21, Tryz.ntmps21
 go_upto_region 1 with (fail)
 go_cut [29] (fun n3 wc => ∃ (kq : Nat) (N0 : Bool), n3 = .bool N0 ∧ aa (aD.j0 kq a0 a1 a2 N0 = some (r1, r2)) ∧ aa (kq ≤ k) ∧ aa (Below w.heap.size w wc))
 case first =>
  have H := L1.o
  clear L1
  obtain ⟨M1, A5, H⟩ := bN_ H
  by_cases c6 : M1 = true
  ·subst c6
   replace H := iT_ H
   by_cases c7 : (a1.size : Int) = 32
   ·rw [Da c7] at H
    have R0 : ((a1.size : Int) == 32) = true := beq_iff_eq.mpr c7
    have N1 : ((a1.size : Int) != 32) = false := bne_eq_false_iff_eq.mpr c7
    clear c7
    (first | rw [R0] | (simp only [bv, cG]; rw [R0]) | skip)
    have H' := c_ H
    clear H
    go_wp2_with (first | (refine gq_ 53 (some 18) Tryz.func53 #[.string a0] (cr.calls k a0 true _ A5.o) ?_; rintro e w8 ⟨rfl, hb⟩; refine ⟨_, rfl, ?_⟩; replace HB := c_ (ab (hB_) hb); (try clear hb)))
    go_meet
    case rel => exact ⟨_, (((a2.size : Int) != 32)), f0_, H', ⟨by first | omega | exact Aa _⟩, ⟨hB_⟩⟩
   rw [Ea c7] at H
   have R0 : ((a1.size : Int) == 32) = false := beq_eq_false_iff_ne.mpr c7
   have N1 : ((a1.size : Int) != 32) = true := bne_iff_ne.mpr c7
   (first | rw [R0] | (simp only [bv, cG]; rw [R0]) | skip)
   have H' := c_ H
   clear H
   go_wp2_with (first | (refine gq_ 53 (some 18) Tryz.func53 #[.string a0] (cr.calls k a0 true _ A5.o) ?_; rintro e w9 ⟨rfl, hb⟩; refine ⟨_, rfl, ?_⟩; replace HB := c_ (ab (hB_) hb); (try clear hb)))
   go_meet
   case rel => exact ⟨_, (true), f0_, H', ⟨by first | omega | exact Aa _⟩, ⟨hB_⟩⟩
  ·replace c6 := Ca c6
   subst c6
   replace H := iF_ H
   have H' := c_ H
   clear H
   go_wp2_with (first | (refine gq_ 53 (some 18) Tryz.func53 #[.string a0] (cr.calls k a0 false _ A5.o) ?_; rintro e b4 ⟨rfl, hb⟩; refine ⟨_, rfl, ?_⟩; replace HB := c_ (ab (hB_) hb); (try clear hb)))
   go_meet
   case rel => exact ⟨_, (true), f0_, H', ⟨by first | omega | exact Aa _⟩, ⟨hB_⟩⟩
 clear L1
 obtain ⟨kq, N0, rfl, HA, V2, HB⟩ := hcut
 rcases kq with _ | z1
 ·exact absurd HA.o (by simp [aD.j0])
 have H := HA.o
 clear HA
 simp only [aD.j0] at H
 by_cases K1 : N0 = true
 ·subst K1
  replace H := iT_ H
  simp only [Option.some.injEq, Prod.mk.injEq] at H
  obtain ⟨rfl, rfl⟩ := H
  go_wp2
  go_ret2
  exact ⟨f1_, hB_⟩
 ·replace K1 := Ca K1
  subst K1
  replace H := iF_ H
  obtain ⟨⟨S0, O1⟩, p3, H⟩ := bN_ H
  obtain ⟨P1, H⟩ := iN_ H
  have X2 := ya P1
  have Y2 := wa P1
  clear P1
  obtain ⟨Y0, q3, H⟩ := bN_ H
  obtain ⟨M0, r3, H⟩ := bN_ H
  obtain ⟨J0, t3, H⟩ := bN_ H
  have H' := c_ H
  clear H
  go_wp2_with (first | (refine gq_ 45 (some 32) Tryz.func45 #[.string a0] (bk.calls z1 a0 S0 O1 _ p3.o) ?_; rintro e c4 ⟨Z0, rfl, d0, hb⟩; refine ⟨_, rfl, ?_⟩; obtain ⟨C0, HB⟩ := b_ (tz d0 (ac (hB_))) <| c_ (ab (hB_) hb); (try clear d0)) | (refine gq_ 55 (some 38) Tryz.func55 #[.string a2, .int .i64 0] (bG.calls z1 a2 0 Y0 _ q3.o) ?_; rintro e e4 ⟨u3, rfl, d0, hb⟩; refine ⟨_, rfl, ?_⟩; obtain ⟨C0, D0, HB⟩ := b_ (s6 (rS_ C0.o) (tL d0) hb) <| b_ (tz (tK d0 (ux (rS_ C0.o))) (ac (hB_))) <| c_ (ab (hB_) hb); obtain ⟨Q1, R1, S1⟩ := tI D0.o; subst S1) | (refine gq_ 54 (some 39) Tryz.func54 #[.slice Q1 Y0.length R1] (ca.calls z1 _ _ Y0 M0 _ ?side1 ?side2 r3.o) ?_; (case side1 => exact cR_ (tj D0.o).2.2); (case side2 => exact (tj D0.o).2.1); rintro e f4 ⟨b1, rfl, d0, hb⟩; refine ⟨_, rfl, ?_⟩; obtain ⟨C0, D0, O0, HB⟩ := b_ (s6 (rS_ C0.o) (tL d0) hb) <| b_ (s6 (rS_ D0.o) (tL d0) hb) <| b_ (tz (tK (tK d0 (ux (rS_ C0.o))) (ux (rS_ D0.o))) (ac (hB_))) <| c_ (ab (hB_) hb); (try clear d0)) | (refine gq_ 55 (some 41) Tryz.func55 #[.string a2, .int .i64 2] (bG.calls z1 a2 2 J0 _ t3.o) ?_; rintro e g4 ⟨c1, rfl, d0, hb⟩; refine ⟨_, rfl, ?_⟩; obtain ⟨C0, D0, O0, B1, HB⟩ := b_ (s6 (rS_ C0.o) (tL d0) hb) <| b_ (s6 (rS_ D0.o) (tL d0) hb) <| b_ (s6 (rS_ O0.o) (tL d0) hb) <| b_ (tz (tK (tK (tK d0 (ux (rS_ C0.o))) (ux (rS_ D0.o))) (ux (rS_ O0.o))) (ac (hB_))) <| c_ (ab (hB_) hb); (try clear d0)))
  go_loopg [13, 42] z1 (fun kq v3 w3 w' => ∃ (H0 : ByteArray) (t0 : Int), v3 = .string H0 ∧ w3 = .int .i64 t0 ∧ aa (aD.l0 kq a1 a2 S0 (a0.extract 768 a0.size) M0 J0 H0 t0 = some (r1, r2)) ∧ aa (kq ≤ z1) ∧ aa (Kd.S (Kd.slice 3 (Kd.int .i64)) 28 w' w.heap.size (fun k_ => some k_ ≠ (b1 : Value).ownBlock ∧ some k_ ≠ (c1 : Value).ownBlock) Z0 S0) ∧ aa (Kd.S (Kd.slice 3 (Kd.int .i64)) 28 w' w.heap.size (fun k_ => some k_ ≠ (Z0 : Value).ownBlock ∧ some k_ ≠ (c1 : Value).ownBlock) b1 M0) ∧ aa (Kd.S (Kd.slice 3 (Kd.int .i64)) 28 w' w.heap.size (fun k_ => some k_ ≠ (Z0 : Value).ownBlock ∧ some k_ ≠ (b1 : Value).ownBlock) c1 J0) ∧ aa (Below w.heap.size w w'))
  case atStart => exact ⟨((⟨#[]⟩ : ByteArray)), (0), f0_, f0_, H', ⟨Aa _⟩, ⟨by refine kS_ ?_; exact tq C0.o (fun _ hk => ⟨hk.1.2, hk.2⟩)⟩, ⟨by refine kS_ ?_; exact tq O0.o (fun _ hk => ⟨hk.1.1.2, hk.2⟩)⟩, ⟨by refine kS_ ?_; exact tq B1.o (fun _ hk => ⟨hk.1.1.2, hk.2⟩)⟩, ⟨hB_⟩⟩
  clear H'
  obtain ⟨H0, t0, rfl, rfl, HA, Z2, n0, b0, e0, HB⟩ := hrel
  rcases gk with _ | k2
  ·exact absurd HA.o (by simp [aD.l0])
  have H := HA.o
  clear HA
  simp only [aD.l0] at H
  by_cases A1 : t0 < 2
  rotate_left
  ·rw [Ea A1] at H
   have C1 := xa A1
   clear A1
   obtain ⟨d1, y3, H⟩ := bN_ H
   obtain ⟨e1, z3, H⟩ := bN_ H
   obtain ⟨f1, A3, H⟩ := bN_ H
   obtain ⟨g1, B3, H⟩ := bN_ H
   obtain ⟨i1, C3, H⟩ := bN_ H
   obtain ⟨j1, D3, H⟩ := bN_ H
   obtain ⟨l1, E3, H⟩ := bN_ H
   obtain ⟨D1, F3, H⟩ := bN_ H
   obtain ⟨T1, H⟩ := iN_ H
   have b3 := ya T1
   have c3 := wa T1
   try have e3 : (9223372036854775807 < H0.size + D1.size) = False := eq_false (Nat.not_lt.2 T1)
   simp only [Option.some.injEq, Prod.mk.injEq] at H
   obtain ⟨rfl, rfl⟩ := H
   obtain ⟨U1, V1, X1⟩ := tI n0.o
   subst X1
   obtain ⟨Y1, Z1, b2⟩ := tI b0.o
   subst b2
   go_wp2_with (first | (refine gq_ 51 (some 64) Tryz.func51 #[.slice U1 S0.length V1, .slice Y1 M0.length Z1] (bI.calls k2 _ _ S0 _ _ M0 d1 _ ?side1 ?side2 ?side3 ?side4 y3.o) ?_; (case side1 => exact cR_ (tj n0.o).2.2); (case side2 => exact (tj n0.o).2.1); (case side3 => exact cR_ (tj b0.o).2.2); (case side4 => exact (tj b0.o).2.1); rintro e i4 ⟨G3, rfl, d0, hb⟩; refine ⟨_, rfl, ?_⟩; obtain ⟨n0, b0, e0, p0, HB⟩ := b_ (s6 (rS_ n0.o) (sY d0) hb) <| b_ (s6 (rS_ b0.o) (sY d0) hb) <| b_ (s6 (rS_ e0.o) (sY d0) hb) <| b_ (sZ d0 (ac (hB_))) <| c_ (ab (hB_) hb); obtain ⟨c2, d2, e2⟩ := s7 p0.o; subst e2) | (refine gq_ 50 (some 65) Tryz.func50 #[.slice c2 d1.length d2] (ai.calls k2 _ _ d1 e1 _ ?side1 ?side2 z3.o) ?_; (case side1 => exact cR_ (sX p0.o).2.2); (case side2 => exact (sX p0.o).2.1); rintro e l4 ⟨H3, rfl, d0, hb⟩; refine ⟨_, rfl, ?_⟩; obtain ⟨n0, b0, e0, p0, q0, HB⟩ := b_ (s6 (rS_ n0.o) (sY d0) hb) <| b_ (s6 (rS_ b0.o) (sY d0) hb) <| b_ (s6 (rS_ e0.o) (sY d0) hb) <| b_ (s5 (rR_ p0.o) (sY d0) hb) <| b_ (sZ (ta d0 (ti (rR_ p0.o))) (ac (hB_))) <| c_ (ab (hB_) hb); (try clear d0)) | (refine gq_ 58 (some 67) Tryz.func58 #[.string a2, .int .i64 4] (bJ.calls k2 a2 4 f1 _ A3.o) ?_; rintro e n4 ⟨I3, rfl, d0, hb⟩; refine ⟨_, rfl, ?_⟩; obtain ⟨n0, b0, e0, p0, q0, r0, HB⟩ := b_ (s6 (rS_ n0.o) (sY d0) hb) <| b_ (s6 (rS_ b0.o) (sY d0) hb) <| b_ (s6 (rS_ e0.o) (sY d0) hb) <| b_ (s5 (rR_ p0.o) (sY d0) hb) <| b_ (s5 (rR_ q0.o) (sY d0) hb) <| b_ (sZ (ta (ta d0 (ti (rR_ p0.o))) (ti (rR_ q0.o))) (ac (hB_))) <| c_ (ab (hB_) hb); obtain ⟨f2, g2, i2⟩ := s7 q0.o; subst i2; obtain ⟨j2, l2, m2⟩ := s7 r0.o; subst m2) | (refine gq_ 56 (some 68) Tryz.func56 #[.slice f2 e1.length g2, .slice j2 f1.length l2] (bK.calls k2 _ _ e1 _ _ f1 g1 _ ?side1 ?side2 ?side3 ?side4 B3.o) ?_; (case side1 => exact cR_ (sX q0.o).2.2); (case side2 => exact (sX q0.o).2.1); (case side3 => exact cR_ (sX r0.o).2.2); (case side4 => exact (sX r0.o).2.1); rintro e q4 ⟨J3, rfl, d0, hb⟩; refine ⟨_, rfl, ?_⟩; obtain ⟨n0, b0, e0, p0, q0, r0, u0, HB⟩ := b_ (s6 (rS_ n0.o) (sY d0) hb) <| b_ (s6 (rS_ b0.o) (sY d0) hb) <| b_ (s6 (rS_ e0.o) (sY d0) hb) <| b_ (s5 (rR_ p0.o) (sY d0) hb) <| b_ (s5 (rR_ q0.o) (sY d0) hb) <| b_ (s5 (rR_ r0.o) (sY d0) hb) <| b_ (sZ (ta (ta (ta d0 (ti (rR_ p0.o))) (ti (rR_ q0.o))) (ti (rR_ r0.o))) (ac (hB_))) <| c_ (ab (hB_) hb); (try clear d0)) | (refine gq_ 59 (some 70) Tryz.func59 #[.string a1] (bN.calls k2 a1 i1 _ C3.o) ?_; rintro e t4 ⟨K3, rfl, d0, hb⟩; refine ⟨_, rfl, ?_⟩; obtain ⟨n0, b0, e0, p0, q0, r0, u0, y0, HB⟩ := b_ (s6 (rS_ n0.o) (sY d0) hb) <| b_ (s6 (rS_ b0.o) (sY d0) hb) <| b_ (s6 (rS_ e0.o) (sY d0) hb) <| b_ (s5 (rR_ p0.o) (sY d0) hb) <| b_ (s5 (rR_ q0.o) (sY d0) hb) <| b_ (s5 (rR_ r0.o) (sY d0) hb) <| b_ (s5 (rR_ u0.o) (sY d0) hb) <| b_ (sZ (ta (ta (ta (ta d0 (ti (rR_ p0.o))) (ti (rR_ q0.o))) (ti (rR_ r0.o))) (ti (rR_ u0.o))) (ac (hB_))) <| c_ (ab (hB_) hb); obtain ⟨n2, p2, q2⟩ := s7 u0.o; subst q2; obtain ⟨t2, u2, v2⟩ := s7 y0.o; subst v2) | (refine gq_ 56 (some 71) Tryz.func56 #[.slice n2 g1.length p2, .slice t2 i1.length u2] (bK.calls k2 _ _ g1 _ _ i1 j1 _ ?side1 ?side2 ?side3 ?side4 D3.o) ?_; (case side1 => exact cR_ (sX u0.o).2.2); (case side2 => exact (sX u0.o).2.1); (case side3 => exact cR_ (sX y0.o).2.2); (case side4 => exact (sX y0.o).2.1); rintro e u4 ⟨L3, rfl, d0, hb⟩; refine ⟨_, rfl, ?_⟩; obtain ⟨n0, b0, e0, p0, q0, r0, u0, y0, F0, HB⟩ := b_ (s6 (rS_ n0.o) (sY d0) hb) <| b_ (s6 (rS_ b0.o) (sY d0) hb) <| b_ (s6 (rS_ e0.o) (sY d0) hb) <| b_ (s5 (rR_ p0.o) (sY d0) hb) <| b_ (s5 (rR_ q0.o) (sY d0) hb) <| b_ (s5 (rR_ r0.o) (sY d0) hb) <| b_ (s5 (rR_ u0.o) (sY d0) hb) <| b_ (s5 (rR_ y0.o) (sY d0) hb) <| b_ (sZ (ta (ta (ta (ta (ta d0 (ti (rR_ p0.o))) (ti (rR_ q0.o))) (ti (rR_ r0.o))) (ti (rR_ u0.o))) (ti (rR_ y0.o))) (ac (hB_))) <| c_ (ab (hB_) hb); obtain ⟨y2, z2, A2⟩ := s7 F0.o; subst A2) | (refine gq_ 20 (some 74) Tryz.func20 #[.slice y2 j1.length z2, .int .i64 4] (bp.calls k2 _ _ j1 4 l1 _ ?side1 ?side2 E3.o) ?_; (case side1 => exact cR_ (sX F0.o).2.2); (case side2 => exact (sX F0.o).2.1); rintro e v4 ⟨M3, rfl, d0, hb⟩; refine ⟨_, rfl, ?_⟩; obtain ⟨n0, b0, e0, p0, q0, r0, u0, y0, F0, K0, HB⟩ := b_ (s6 (rS_ n0.o) (sY d0) hb) <| b_ (s6 (rS_ b0.o) (sY d0) hb) <| b_ (s6 (rS_ e0.o) (sY d0) hb) <| b_ (s5 (rR_ p0.o) (sY d0) hb) <| b_ (s5 (rR_ q0.o) (sY d0) hb) <| b_ (s5 (rR_ r0.o) (sY d0) hb) <| b_ (s5 (rR_ u0.o) (sY d0) hb) <| b_ (s5 (rR_ y0.o) (sY d0) hb) <| b_ (s5 (rR_ F0.o) (sY d0) hb) <| b_ (sZ (ta (ta (ta (ta (ta (ta d0 (ti (rR_ p0.o))) (ti (rR_ q0.o))) (ti (rR_ r0.o))) (ti (rR_ u0.o))) (ti (rR_ y0.o))) (ti (rR_ F0.o))) (ac (hB_))) <| c_ (ab (hB_) hb); obtain ⟨B2, C2, D2⟩ := s7 K0.o; subst D2) | (refine gq_ 19 (some 75) Tryz.func19 #[.slice B2 l1.length C2, .int .i64 4] (ay.calls k2 _ _ l1 4 D1 _ ?side1 ?side2 F3.o) ?_; (case side1 => exact cR_ (sX K0.o).2.2); (case side2 => exact (sX K0.o).2.1); rintro e w4 ⟨rfl, hb⟩; refine ⟨_, rfl, ?_⟩; obtain ⟨n0, b0, e0, p0, q0, r0, u0, y0, F0, K0, HB⟩ := b_ (tM (rS_ n0.o) hb) <| b_ (tM (rS_ b0.o) hb) <| b_ (tM (rS_ e0.o) hb) <| b_ (tc (rR_ p0.o) hb) <| b_ (tc (rR_ q0.o) hb) <| b_ (tc (rR_ r0.o) hb) <| b_ (tc (rR_ u0.o) hb) <| b_ (tc (rR_ y0.o) hb) <| b_ (tc (rR_ F0.o) hb) <| b_ (tc (rR_ K0.o) hb) <| c_ (ab (hB_) hb); (try clear hb)))
   go_ret2
   exact ⟨f1_, hB_⟩
  rw [Da A1] at H
  have C1 := wa A1
  clear A1
  obtain ⟨m1, N3, H⟩ := bN_ H
  obtain ⟨n1, O3, H⟩ := bN_ H
  obtain ⟨p1, P3, H⟩ := bN_ H
  obtain ⟨f3, H⟩ := iD_ H
  obtain ⟨g3, H⟩ := iD_ H
  obtain ⟨q1, Q3, H⟩ := bN_ H
  obtain ⟨t1, R3, H⟩ := bN_ H
  obtain ⟨y1, S3, H⟩ := bN_ H
  obtain ⟨E2, H⟩ := iN_ H
  have i3 := ya E2
  have l3 := wa E2
  try have m3 : (9223372036854775807 < H0.size + y1.size) = False := eq_false (Nat.not_lt.2 E2)
  have H' := c_ H
  clear H
  try go_wp2
  obtain ⟨n0, b0, e0, HB⟩ := b_ (ug n0.o) <| b_ (ug b0.o) <| b_ (ug e0.o) <| c_ (b8 HB.o)
  obtain ⟨T3, U3, E1⟩ := tI e0.o
  (first | subst E1 | (injection E1 with f1_ f2_ f3_; have f4_ := f1_.symm; have f5_ := f3_.symm; clear f1_ f2_ f3_; subst f4_; subst f5_))
  have V0 : 0 ≤ (t0 : Int) := oD_
  have W0 : t0 < (J0.length : Int) := oD_
  obtain ⟨F1, T0, U0, F2, I0, P0, Q0⟩ := lC (tj e0.o).2.2 t0 V0 W0
  cases F2
  obtain ⟨ce897, hce897, hMe897, hcc897⟩ := vq e0.o [] t0 V0 (by first | exact W0 | exact oD_ | (have e_ := (tj e0.o).1; omega))
  obtain ⟨ve897_0, rfl, ge897_0⟩ := hMe897
  have E0 := hcc897 0 _ rfl
  rw [Nat.add_zero, show ((Kd.slice 3 (Kd.int .i64))).sz = 1 from rfl, Nat.mul_one] at E0
  replace E0 := za (E0.symm.trans I0)
  rw [E0] at ge897_0
  have k0 := c_ (show Kd.R (Kd.int .i64) 3 _ _ _ _ (dw J0 t0) from ge897_0)
  clear E0 ge897_0
  clear hcc897 hce897
  have f0 := c_ Q0
  have X0 := c_ P0
  clear Q0 P0
  replace V0 := ya V0
  replace W0 := ya W0
  refine d9 (n := 12) (S := fun w' => w'.cell? (F1.add (t0).toNat) = some (.slice T0 (dw J0 t0).length U0)) (ds := []) (bb_ 12 0) (by kernel_rfl) rfl rfl (I0) (fun hHeld => ?_); refine cN aD.tab10 aD.bits10 (fun HT_ HW_ => ?_)
  generalize wr.drew = y4 at n0 b0 e0 HB k0 f0 I0 hHeld ⊢
  refine pT_ 0 45 12 1 ?_
  refine pT_ 1 46 12 3 ?_
  refine pT_ 3 48 12 11 ?_
  refine pT_ 6 51 12 75 ?_
  refine pT_ 7 52 12 203 ?_
  refine pT_ 8 53 12 459 ?_
  refine tS_ 9 54 (bb_ 12 971) (bx HT_.o HW_.o (by kernel_rfl)) hHeld ?_
  refine fC (i := 2) (N := some 47) (bb_ 12 975) rfl rfl (cD HT_.o (by kernel_rfl)) (by decide) (fun K hK => ?_)
  refine fv Tryz.func57 (by kernel_rfl) rfl #[.string (a0.extract 768 a0.size), .int .i64 t0, .bool true] (by rfl) rfl rfl aM_ ?_
  with_reducible refine (cf.calls k2 (a0.extract 768 a0.size) t0 true m1 _ N3.o).mono ?_
  rintro e z4 ⟨V3, rfl, d0, hb⟩
  have HS0_ := (hb.cell (World.block_lt_of_cell? _ _ (hHeld))).trans (hHeld)
  refine ⟨_, rfl, ?_⟩
  obtain ⟨n0, b0, e0, k0, x0, f0, HB⟩ := b_ (s6 (rS_ n0.o) (tL d0) hb) <| b_ (s6 (rS_ b0.o) (tL d0) hb) <| b_ (s6 (rS_ e0.o) (tL d0) hb) <| b_ (tc (rR_ k0.o) hb) <| b_ (tz (tK (tK (tK (tK d0 (ux (rS_ n0.o))) (ux (rS_ b0.o))) (ux (rS_ e0.o))) (ti (rR_ k0.o))) (ac (hB_))) <| b_ (tg (by repeat (first | (with_reducible exact f0.o) | (with_reducible refine Kd.C_alloc ?_ _) | (with_reducible refine Kd.C_drewN ?_ _) | (with_reducible refine Kd.C_drew ?_) | exact f0.o)) hb) <| c_ (ab (hB_) hb)
  obtain ⟨G2, H2, G1⟩ := tI x0.o
  (first | subst G1 | (injection G1 with f1_ f2_ f3_; have f4_ := f1_.symm; have f5_ := f3_.symm; clear f1_ f2_ f3_; subst f4_; subst f5_))
  obtain ⟨I2, J2, H1⟩ := tI b0.o
  (first | subst H1 | (injection H1 with f1_ f2_ f3_; have f4_ := f1_.symm; have f5_ := f3_.symm; clear f1_ f2_ f3_; subst f4_; subst f5_))
  refine hK _ _ (HS0_) (fun hHeld => ?_)
  clear hK K
  refine dL (a' := ?_) ?_ ?_
  rotate_left
  ·show Act.put _ (some 47) _ = _
   simp only [Act.put, List.setIfInBounds_toArray, List.set_cons_zero, List.set_cons_succ, bv, cG]
   rfl
  refine fC (i := 4) (N := some 49) (bb_ 12 991) rfl rfl (cD HT_.o (by kernel_rfl)) (by decide) (fun K hK => ?_)
  refine fv Tryz.func51 (by kernel_rfl) rfl #[.slice G2 m1.length H2, .slice I2 M0.length J2] (by rfl) rfl rfl aM_ ?_
  with_reducible refine (bI.calls k2 _ _ m1 _ _ M0 n1 _ ?side1 ?side2 ?side3 ?side4 O3.o).mono ?_
  (case side1 => exact cR_ (tj x0.o).2.2)
  (case side2 => exact (tj x0.o).2.1)
  (case side3 => exact cR_ (tj b0.o).2.2)
  (case side4 => exact (tj b0.o).2.1)
  rintro e A4 ⟨W3, rfl, d0, hb⟩
  have HS0_ := (hb.cell (World.block_lt_of_cell? _ _ (hHeld))).trans (hHeld)
  refine ⟨_, rfl, ?_⟩
  obtain ⟨n0, b0, e0, k0, x0, v0, f0, HB⟩ := b_ (s6 (rS_ n0.o) (sY d0) hb) <| b_ (s6 (rS_ b0.o) (sY d0) hb) <| b_ (s6 (rS_ e0.o) (sY d0) hb) <| b_ (s5 (rR_ k0.o) (sY d0) hb) <| b_ (s6 (rS_ x0.o) (sY d0) hb) <| b_ (sZ (ta d0 (ti (rR_ k0.o))) (ac (hB_))) <| b_ (tg (by repeat (first | (with_reducible exact f0.o) | (with_reducible refine Kd.C_alloc ?_ _) | (with_reducible refine Kd.C_drewN ?_ _) | (with_reducible refine Kd.C_drew ?_) | exact f0.o)) hb) <| c_ (ab (hB_) hb)
  obtain ⟨K2, L2, I1⟩ := s7 v0.o
  (first | subst I1 | (injection I1 with f1_ f2_ f3_; have f4_ := f1_.symm; have f5_ := f3_.symm; clear f1_ f2_ f3_; subst f4_; subst f5_))
  refine hK _ _ (HS0_) (fun hHeld => ?_)
  clear hK K
  refine dL (a' := ?_) ?_ ?_
  rotate_left
  ·show Act.put _ (some 49) _ = _
   simp only [Act.put, List.setIfInBounds_toArray, List.set_cons_zero, List.set_cons_succ, bv, cG]
   rfl
  refine fC (i := 5) (N := some 50) (bb_ 12 1023) rfl rfl (cD HT_.o (by kernel_rfl)) (by decide) (fun K hK => ?_)
  refine fv Tryz.func50 (by kernel_rfl) rfl #[.slice K2 n1.length L2] (by rfl) rfl rfl aM_ ?_
  with_reducible refine (ai.calls k2 _ _ n1 p1 _ ?side1 ?side2 P3.o).mono ?_
  (case side1 => exact cR_ (sX v0.o).2.2)
  (case side2 => exact (sX v0.o).2.1)
  rintro e B4 ⟨X3, rfl, d0, hb⟩
  have HS0_ := (hb.cell (World.block_lt_of_cell? _ _ (hHeld))).trans (hHeld)
  refine ⟨_, rfl, ?_⟩
  obtain ⟨n0, b0, e0, k0, x0, v0, B0, f0, HB⟩ := b_ (s6 (rS_ n0.o) (sY d0) hb) <| b_ (s6 (rS_ b0.o) (sY d0) hb) <| b_ (s6 (rS_ e0.o) (sY d0) hb) <| b_ (s5 (rR_ k0.o) (sY d0) hb) <| b_ (s6 (rS_ x0.o) (sY d0) hb) <| b_ (s5 (rR_ v0.o) (sY d0) hb) <| b_ (sZ (ta (ta d0 (ti (rR_ k0.o))) (ti (rR_ v0.o))) (ac (hB_))) <| b_ (tg (by repeat (first | (with_reducible exact f0.o) | (with_reducible refine Kd.C_alloc ?_ _) | (with_reducible refine Kd.C_drewN ?_ _) | (with_reducible refine Kd.C_drew ?_) | exact f0.o)) hb) <| c_ (ab (hB_) hb)
  obtain ⟨M2, N2, J1⟩ := s7 B0.o
  (first | subst J1 | (injection J1 with f1_ f2_ f3_; have f4_ := f1_.symm; have f5_ := f3_.symm; clear f1_ f2_ f3_; subst f4_; subst f5_))
  refine hK _ _ (HS0_) (fun hHeld => ?_)
  clear hK K
  refine dL (a' := ?_) ?_ ?_
  rotate_left
  ·show Act.put _ (some 50) _ = _
   simp only [Act.put, List.setIfInBounds_toArray, List.set_cons_zero, List.set_cons_succ, bv, cG]
   rfl
  refine fC (i := 10) (N := some 55) (bb_ 12 2047) rfl rfl (cD HT_.o (by kernel_rfl)) (by decide) (fun K hK => ?_)
  refine fv Tryz.func56 (by kernel_rfl) rfl #[.slice M2 p1.length N2, .slice T0 (dw J0 t0).length U0] (by rfl) rfl rfl aM_ ?_
  with_reducible refine (bK.calls k2 _ _ p1 _ _ (dw J0 t0) q1 _ ?side1 ?side2 ?side3 ?side4 Q3.o).mono ?_
  (case side1 => exact cR_ (sX B0.o).2.2)
  (case side2 => exact (sX B0.o).2.1)
  (case side3 => repeat (first | exact (by repeat (first | (with_reducible exact f0.o) | (with_reducible refine Kd.C_alloc ?_ _) | (with_reducible refine Kd.C_drewN ?_ _) | (with_reducible refine Kd.C_drew ?_) | exact f0.o)) | (with_reducible refine Kd.C_alloc ?_ _) | (with_reducible refine Kd.C_drewN ?_ _) | (with_reducible refine Kd.C_drew ?_)))
  (case side4 => exact X0.o)
  rintro e C4 ⟨Y3, rfl, d0, hb⟩
  have HS0_ := (hb.cell (World.block_lt_of_cell? _ _ (hHeld))).trans (hHeld)
  refine ⟨_, rfl, ?_⟩
  obtain ⟨n0, b0, e0, k0, x0, v0, B0, G0, f0, HB⟩ := b_ (s6 (rS_ n0.o) (sY d0) hb) <| b_ (s6 (rS_ b0.o) (sY d0) hb) <| b_ (s6 (rS_ e0.o) (sY d0) hb) <| b_ (s5 (rR_ k0.o) (sY d0) hb) <| b_ (s6 (rS_ x0.o) (sY d0) hb) <| b_ (s5 (rR_ v0.o) (sY d0) hb) <| b_ (s5 (rR_ B0.o) (sY d0) hb) <| b_ (sZ (ta (ta (ta d0 (ti (rR_ k0.o))) (ti (rR_ v0.o))) (ti (rR_ B0.o))) (ac (hB_))) <| b_ (tg (by repeat (first | (with_reducible exact f0.o) | (with_reducible refine Kd.C_alloc ?_ _) | (with_reducible refine Kd.C_drewN ?_ _) | (with_reducible refine Kd.C_drew ?_) | exact f0.o)) hb) <| c_ (ab (hB_) hb)
  refine hK _ _ (HS0_) (fun hHeld => ?_)
  clear hK K
  refine dL (a' := ?_) ?_ ?_
  rotate_left
  ·show Act.put _ (some 55) _ = _
   simp only [Act.put, List.setIfInBounds_toArray, List.set_cons_zero, List.set_cons_succ, bv, cG]
   rfl
  refine pT_ 11 15 12 4095 ?_
  refine fc (du HT_.o (by kernel_rfl)) ?_
  obtain ⟨O2, P2, Q2⟩ := s7 G0.o
  subst Q2
  try go_wp2_with (first | (refine gq_ 20 (some 58) Tryz.func20 #[.slice O2 q1.length P2, .int .i64 10] (bp.calls k2 _ _ q1 10 t1 _ ?side1 ?side2 R3.o) ?_; (case side1 => exact cR_ (sX G0.o).2.2); (case side2 => exact (sX G0.o).2.1); rintro e D4 ⟨Z3, rfl, d0, hb⟩; refine ⟨_, rfl, ?_⟩; obtain ⟨n0, b0, e0, k0, x0, v0, B0, G0, L0, f0, HB⟩ := b_ (s6 (rS_ n0.o) (sY d0) hb) <| b_ (s6 (rS_ b0.o) (sY d0) hb) <| b_ (s6 (rS_ e0.o) (sY d0) hb) <| b_ (s5 (rR_ k0.o) (sY d0) hb) <| b_ (s6 (rS_ x0.o) (sY d0) hb) <| b_ (s5 (rR_ v0.o) (sY d0) hb) <| b_ (s5 (rR_ B0.o) (sY d0) hb) <| b_ (s5 (rR_ G0.o) (sY d0) hb) <| b_ (sZ (ta (ta (ta (ta d0 (ti (rR_ k0.o))) (ti (rR_ v0.o))) (ti (rR_ B0.o))) (ti (rR_ G0.o))) (ac (hB_))) <| b_ (tg (by repeat (first | (with_reducible exact f0.o) | (with_reducible refine Kd.C_alloc ?_ _) | (with_reducible refine Kd.C_drewN ?_ _) | (with_reducible refine Kd.C_drew ?_) | exact f0.o)) hb) <| c_ (ab (hB_) hb); obtain ⟨R2, T2, U2⟩ := s7 L0.o; subst U2) | (refine gq_ 19 (some 59) Tryz.func19 #[.slice R2 t1.length T2, .int .i64 10] (ay.calls k2 _ _ t1 10 y1 _ ?side1 ?side2 S3.o) ?_; (case side1 => exact cR_ (sX L0.o).2.2); (case side2 => exact (sX L0.o).2.1); rintro e E4 ⟨rfl, hb⟩; refine ⟨_, rfl, ?_⟩; obtain ⟨n0, b0, e0, k0, x0, v0, B0, G0, L0, f0, HB⟩ := b_ (tM (rS_ n0.o) hb) <| b_ (tM (rS_ b0.o) hb) <| b_ (tM (rS_ e0.o) hb) <| b_ (tc (rR_ k0.o) hb) <| b_ (tM (rS_ x0.o) hb) <| b_ (tc (rR_ v0.o) hb) <| b_ (tc (rR_ B0.o) hb) <| b_ (tc (rR_ G0.o) hb) <| b_ (tc (rR_ L0.o) hb) <| b_ (tg (by repeat (first | (with_reducible exact f0.o) | (with_reducible refine Kd.C_alloc ?_ _) | (with_reducible refine Kd.C_drewN ?_ _) | (with_reducible refine Kd.C_drew ?_) | exact f0.o)) hb) <| c_ (ab (hB_) hb); (try clear hb)))
  go_roundg k2
  case measure => have := V2.o; have := Z2.o; omega
  case rel => exact ⟨(H0 ++ y1), (wrap64 (t0 + 1)), f0_, f0_, H', ⟨by have := V2.o; have := Z2.o; omega⟩, ⟨by refine kS_ ?_; exact tq n0.o (fun _ hk => ⟨hk.1.1.1.1.1.1, hk.1.1.1.1.1.2⟩)⟩, ⟨by refine kS_ ?_; exact tq b0.o (fun _ hk => ⟨hk.1.1.1.1.1.1, hk.1.1.1.1.1.2⟩)⟩, ⟨by refine kS_ ?_; exact tq e0.o (fun _ hk => ⟨hk.1.1.1.1.1.1, hk.1.1.1.1.1.2⟩)⟩, ⟨hB_⟩⟩
end Go.Proofs.YtooanbpkknlmjaaGreatDoor.P
