-- printed texts of this session, regrouped
import Derived.Test.YtmiackbomcjboaaGreatDoorHB4
import Derived.Test.YtmiackbomcjboaaGreatDoorPx6
import Derived.Test.YtmiackbomcjboaaGreatDoorPx13
namespace Go.Proofs.YtmiackbomcjboaaGreatDoor.P
open Go.RowKit YtmiackbomcjboaaGreatDoorW.PrintWords YtmiackbomcjboaaGreatDoorW.PrintLast YtmiackbomcjboaaGreatDoorW.PrintMore
open Kd
attribute [local go_sem] d9 eg eV eU dK dL d8 eh
set_option linter.unusedVariables false
set_option linter.unusedSimpArgs false
set_option maxHeartbeats 8000000
set_option maxRecDepth 100000
def cf.f (k : Nat) (a0 : ByteArray) : Option (ByteArray × Int) := (dk.f k a0 168 31).bind fun t550 => (some (t550, 0))
theorem cf.mono : ∀ a0 k, LeO (cf.f k a0) (cf.f (k + 1) a0) := by
 intro a0 k
 unfold cf.f
 exact o1_ dk.mono
theorem cf.calls (k : Nat) (a0 : ByteArray) (r1 : ByteArray) (r2 : Int) (w : World) (h : cf.f k a0 = some (r1, r2)) :
  Calls Tryz.prog 101 #[.string a0] w fun e w' => e = .returned (.agg #[.string r1, .int .i64 r2]) ∧ Below w.heap.size w w' := by
 have hu95 := Tryz.underlying95
 have HB := c_ (Da w.heap.size w)
 delta cf.f at h
 have H := h
 clear h
 obtain ⟨e0, A2, H⟩ := bN_ H
 simp only [Option.some.injEq, Prod.mk.injEq] at H
 obtain ⟨rfl, rfl⟩ := H
 go_enter Tryz.func101, Tryz.ntmps101
 go_wp2_with (first | (refine bx_ 2 #[.string (⟨#[]⟩ : ByteArray), .int .i64 0] 95 fun d0 w3 hb HB b0 f0 => ?_) | (refine gc_ (k_ 4 Tryz.func113) (dk.calls _ _ _ _ _ _ A2.o) fun w4 hb => ?_; obtain ⟨b0, HB⟩ := n_ (fK_ b0) <| sB_; have j0 : w4.cell? ⟨d0, 0, none⟩ = some (.string (⟨#[]⟩ : ByteArray)) := (ak b0.o 0).trans rfl; have k0 : w4.cell? ⟨d0, 1, none⟩ = some (.int .i64 0) := (ak b0.o 1).trans rfl; have n0 := ag b0.o 0; have p0 := ag b0.o 1))
 refine bodyPost_ret (results_cell_row rfl _ _ d0 95 #[.string e0, .int .i64 0] (0, 0) _ rfl (by refine kK_ ?_; refine ca (cs := #[.string e0, .int .i64 0]) ?_ 1 _ rfl; refine kK_ ?_; refine ca (cs := #[.string (⟨#[]⟩ : ByteArray), .int .i64 0]) ?_ 0 _ rfl; exact rK_ b0.o) Tryz.underlying95 rfl (by kernel_rfl)) rfl ?_
 exact ⟨f1_, hS_ f0.o⟩
def dd.f (k : Nat) (a0 : ByteArray) (a1 : Int) : Option (ByteArray × Bool) := (b8.f a1 0 4000).bind fun t556 => (if t556 = true then ((cf.f k a0).bind fun bt557 => ((aq.f k bt557.1 bt557.2 a1).bind fun bt559 => (some (bt559.2.2, true)))) else (some ((⟨#[]⟩ : ByteArray), false)))
theorem dd.mono : ∀ a0 a1 k, LeO (dd.f k a0 a1) (dd.f (k + 1) a0 a1) := by
 intro a0 a1 k
 unfold dd.f
 exact o2_ cf.mono aq.mono
theorem dd.calls (k : Nat) (a0 : ByteArray) (a1 : Int) (r1 : ByteArray) (r2 : Bool) (w : World) (h : dd.f k a0 a1 = some (r1, r2)) :
  Calls Tryz.prog 73 #[.string a0, .int .i64 a1] w fun e w' => e = .returned (.tuple #[.string r1, .bool r2]) ∧ Below w.heap.size w w' := by
 have hu95 := Tryz.underlying95
 have HB := c_ (Da w.heap.size w)
 delta dd.f at h
 have H := h
 clear h
 obtain ⟨p0, A3, H⟩ := bN_ H
 by_cases c4 : p0 = true
 ·subst c4
  replace H := iT_ H
  obtain ⟨⟨q0, r0⟩, A5, H⟩ := bN_ H
  obtain ⟨⟨t0, v0, x0⟩, A6, H⟩ := bN_ H
  simp only [Option.some.injEq, Prod.mk.injEq] at H
  obtain ⟨rfl, rfl⟩ := H
  go_enter Tryz.func73, Tryz.ntmps73
  go_wp2_with (first | (refine gp_ (k_ 9 Tryz.func100) (b8.calls _ _ _ _ _ A3.o) fun nd => ?_) | (refine gb_ (k_ 13 Tryz.func101) (cf.calls _ _ _ _ _ A5.o) fun w7 HB => ?_) | (refine gb_ (k_ 15 Tryz.func102) (aq.calls _ _ _ _ _ _ _ _ A6.o) fun w8 HB => ?_) | (refine bx_ 6 #[.string (⟨#[]⟩ : ByteArray), .int .i64 0] 95 fun d0 w9 hb HB b0 e0 => ?_; have f0 : w9.cell? ⟨d0, 0, none⟩ = some (.string (⟨#[]⟩ : ByteArray)) := (ak b0.o 0).trans rfl; have j0 : w9.cell? ⟨d0, 1, none⟩ = some (.int .i64 0) := (ak b0.o 1).trans rfl; have k0 := ag b0.o 0; have n0 := ag b0.o 1))
  go_ret2
  exact ⟨f1_, hS_ e0.o⟩
 ·replace c4 := Ea c4
  subst c4
  replace H := iF_ H
  simp only [Option.some.injEq, Prod.mk.injEq] at H
  obtain ⟨rfl, rfl⟩ := H
  go_enter Tryz.func73, Tryz.ntmps73
  go_wp2_with (first | (refine gp_ (k_ 9 Tryz.func100) (b8.calls _ _ _ _ _ A3.o) fun nd => ?_))
  go_ret2
  exact ⟨f1_, hB_⟩
def bR.l0 : Nat → ByteArray → List Int → Int → Int → Option (List Int)
 | 0, _, _, _, _ => none
 | k + 1, x5, x7, x20, x21 => if x21 < x20 then (if 0 ≤ (wrap64 (Int.tdiv x21 2)) then (if (wrap64 (Int.tdiv x21 2)) < (x5.size : Int) then (if 0 ≤ (wrap64 (4 * (Int.tmod x21 2))) then ((cd.f (wrap64 ((wrap64 ((wrap64 ((Go.bits .and .i64 (wrap64 (shr .u8 (bt x5 (wrap64 (Int.tdiv x21 2))) (wrap64 (4 * (Int.tmod x21 2))))) 1) + (Go.bits .and .i64 ((wrap64 (shr .u8 (bt x5 (wrap64 (Int.tdiv x21 2))) (wrap64 (4 * (Int.tmod x21 2))))) / 2) 1))) - (Go.bits .and .i64 ((wrap64 (shr .u8 (bt x5 (wrap64 (Int.tdiv x21 2))) (wrap64 (4 * (Int.tmod x21 2))))) / 4) 1))) - (Go.bits .and .i64 ((wrap64 (shr .u8 (bt x5 (wrap64 (Int.tdiv x21 2))) (wrap64 (4 * (Int.tmod x21 2))))) / 8) 1)))).bind fun t572 => (if 0 ≤ x21 then (if x21 < (x7.length : Int) then (bR.l0 k x5 (x7.set (x21 : Int).toNat t572) x20 (wrap64 (x21 + 1))) else (none)) else (none))) else (none)) else (none)) else (none)) else (some x7)
def bR.f (k : Nat) (a0 : ByteArray) (a1 : Int) : Option (List Int) := (cX.f a1).bind fun t566 => (if a0.size + t566.size ≤ 9223372036854775807 then ((dd.f k (a0 ++ t566) 128).bind fun bt567 => (if 256 ≤ 35184372088832 then ((some (List.replicate 256 0 : List Int)).bind fun y569 => (bR.l0 k bt567.1 y569 (y569.length : Int) 0)) else (none))) else (none))
theorem bR.mono_l : ∀ k, (∀ y0 y1 y2 y3, LeO (bR.l0 k y0 y1 y2 y3) (bR.l0 (k + 1) y0 y1 y2 y3))
 | 0 => fun _ _ _ _ r h => by simp [bR.l0] at h
 | k + 1 => by
  have ih0 := bR.mono_l k
  intros; unfold bR.l0; exact o2_ ih0 dd.mono
theorem bR.mono : ∀ a0 a1 k, LeO (bR.f k a0 a1) (bR.f (k + 1) a0 a1) := by
 intro a0 a1 k
 have ih0 := bR.mono_l k
 unfold bR.f
 exact o2_ ih0 dd.mono
theorem bR.calls (k : Nat) (a0 : ByteArray) (a1 : Int) (r : List Int) (w : World) (h : bR.f k a0 a1 = some r) :
  Calls Tryz.prog 39 #[.string a0, .int .i64 a1] w fun e w' => ∃ Z0 : Value, e = .returned (Z0) ∧ Kd.R (Kd.int .i64) 3 w' w.heap.size (fun _ => True) Z0 r ∧ Below w.heap.size w w' := by
 have HB := c_ (Da w.heap.size w)
 delta bR.f at h
 have H := h
 clear h
 obtain ⟨N0, A3, H⟩ := bN_ H
 obtain ⟨c4, H⟩ := iN_ H
 have l1 := Aa c4
 have m1 := ya c4
 try have n1 : (9223372036854775807 < a0.size + N0.size) = False := eq_false (Nat.not_lt.2 c4)
 obtain ⟨⟨r0, p1⟩, A5, H⟩ := bN_ H
 obtain ⟨c6, H⟩ := iN_ H
 have q1 := Aa c6
 have r1 := ya c6
 clear c6
 obtain ⟨C0, p0⟩ : ∃ y_ : List Int, y_ = (List.replicate 256 0) := ⟨_, rfl⟩
 first | replace H := yb_ p0 H | rw [← p0] at H
 have D0 := c_ p0
 clear p0
 have H' := c_ H
 clear H
 go_enter Tryz.func39, Tryz.ntmps39
 go_wp2_with (first | (refine gb_ (k_ 13 Tryz.func74) (cX.calls _ _ _ A3.o) fun w7 HB => ?_) | (refine gb_ (k_ 15 Tryz.func73) (dd.calls _ _ _ _ _ _ A5.o) fun w8 HB => ?_) | ((refine cQ (N := 18) rfl ?_); refine vs (Kd.int .i64) _ 3 rfl (N := 18) rfl 33 _ _ rfl 256 rfl rfl Tryz.underlying33 (.int .i64 0) 8 di rfl (by decide) (by omega) 0 (ok := fun _ => True) (okp := fun _ => True) rfl (fun _ hk => hk) trivial (by omega) (by omega) (Da _ _) (Ca _) ?_; intro t1 w9 t0 hb hg_ hnew_; clear hg_ hnew_; (first | rw [← D0.o] at t0 | (simp only [Int.reduceToNat] at t0; rw [← D0.o] at t0)); obtain ⟨E0, HB⟩ := b_ (uY t0 (av (hB_))) <| sB_; clear hb t0; obtain ⟨H0, I0, O0⟩ := uV E0.o; subst O0))
 go_loopg [21] k (fun kq y1 w' => ∃ (k0 : List Int) (b0 : Int), y1 = .int .i64 b0 ∧ aa (bR.l0 kq r0 k0 (C0.length : Int) b0 = some r) ∧ aa (kq ≤ k) ∧ aa (Kd.R (Kd.int .i64) 3 w' w.heap.size (fun _ => True) (.slice H0 C0.length I0) k0) ∧ aa (Below w.heap.size w w'))
 case atStart => exact ⟨(C0), (0), f0_, H', ⟨Ca _⟩, ⟨rR_ E0.o⟩, ⟨hB_⟩⟩
 clear H'
 obtain ⟨k0, b0, rfl, HA, b1, d0, HB⟩ := hrel
 have e0 := (uU d0.o).1
 rw [e0] at d0
 (try simp only [e0])
 rcases gk with _ | k1
 ·exact absurd HA.o (by simp [bR.l0])
 have H := HA.o
 clear HA
 simp only [bR.l0] at H
 by_cases G0 : b0 < (C0.length : Int)
 rotate_left
 ·rw [Ga G0] at H
  have v0 := za G0
  (try simp only [e0] at v0)
  clear G0
  obtain rfl := Ba H
  go_wp2
  go_ret
  exact ⟨_, f1_, rR_ d0.o, hB_⟩
 rw [Fa G0] at H
 have v0 := ya G0
 (try simp only [e0] at v0)
 clear G0
 obtain ⟨n0, x0⟩ : ∃ j_ : Int, (wrap64 (Int.tdiv b0 2)) = j_ := ⟨_, rfl⟩
 first | rw [x0] at H | simp only [x0] at H
 have P0 : (IntKind.i64.wrap (Int.tdiv b0 2)) = n0 := (bB _).trans x0
 obtain ⟨c1, H⟩ := iD_ H
 obtain ⟨d1, H⟩ := iD_ H
 obtain ⟨y0, B0⟩ : ∃ j_ : Int, (wrap64 (4 * (Int.tmod b0 2))) = j_ := ⟨_, rfl⟩
 first | rw [B0] at H | simp only [B0] at H
 have Q0 : (IntKind.i64.wrap (4 * (Int.tmod b0 2))) = y0 := (bB _).trans B0
 obtain ⟨R0, H⟩ := iN_ H
 have e1 := Aa R0
 have f1 := ya R0
 clear R0
 obtain ⟨f0, j0⟩ : ∃ j_ : Int, (shr .u8 (bt r0 (n0)) (y0)) = j_ := ⟨_, rfl⟩
 first | rw [j0] at H | simp only [j0] at H
 have S0 : ((bt r0 (n0)) / 2 ^ min (y0).toNat 8) = f0 := j0
 have T0 : (y0) ≤ 8 → ((bt r0 (n0)) / 2 ^ (y0).toNat) = f0 := gq j0
 obtain ⟨F0, z1, H⟩ := bN_ H
 obtain ⟨g1, H⟩ := iD_ H
 obtain ⟨i1, H⟩ := iN_ H
 have J0 := ya i1
 (try simp only [e0] at J0)
 clear i1
 obtain ⟨U0, q0⟩ : ∃ y_ : List Int, y_ = (k0.set (b0 : Int).toNat F0) := ⟨_, rfl⟩
 first | replace H := yb_ q0 H | rw [← q0] at H
 have K0 := c_ q0
 clear q0
 have H' := c_ H
 clear H
 have C1 := Aa (oD_ : 0 ≤ ((n0) : Int))
 have D1 := Aa (oD_ : (n0) < (r0.size : Int))
 have A1 := cY r0 (n0)
 go_wp2_with (first | ((with_reducible refine ep (f := 69) rfl ?_); refine gS (some 49) rfl rfl Tryz.func69 (by kernel_rfl) rfl #[.int .i64 (wrap64 ((wrap64 ((wrap64 ((Go.bits .and .i64 (wrap64 (f0)) 1) + (Go.bits .and .i64 ((wrap64 (f0)) / 2) 1))) - (Go.bits .and .i64 ((wrap64 (f0)) / 4) 1))) - (Go.bits .and .i64 ((wrap64 (f0)) / 8) 1)))] rfl (by (try simp only [List.map_toArray, List.map_cons, List.map_nil]); first | done | (simp only [j0]; rfl) | rfl | (simp only [List.length_drop, List.length_take]; rfl)) ?_; (with_reducible refine (cd.calls (wrap64 ((wrap64 ((wrap64 ((Go.bits .and .i64 (wrap64 (f0)) 1) + (Go.bits .and .i64 ((wrap64 (f0)) / 2) 1))) - (Go.bits .and .i64 ((wrap64 (f0)) / 4) 1))) - (Go.bits .and .i64 ((wrap64 (f0)) / 8) 1))) F0 _ z1.o).mono ?_); rintro e w' ⟨rfl, ⟨nd, rfl⟩⟩; refine ⟨_, rfl, ?_⟩; (try (rw [dt wr]; generalize hq_ : World.drewN wr _ = wr; obtain ⟨d0, HB⟩ := b_ (show Kd.R (Kd.int .i64) 3 wr w.heap.size (fun _ => True) (.slice H0 k0.length I0) k0 from by rw [← hq_]; exact (rR_ d0.o)) <| c_ (show Below w.heap.size w wr from by rw [← hq_]; exact (hB_)))); have V0 : 0 ≤ (b0 : Int) := oD_; have W0 : (b0 : Int) < ((k0.length : Int) : Int) := oD_; obtain ⟨go23, B1, L0, M0, gl23, cl23, HG23⟩ := vm d0.o (by omega); (first | cases L0 | (injection L0 with ea_ en_ ec_; (first | subst ea_ | (injection ea_ with ea_; subst ea_)); subst ec_; clear en_)); have X0 := c_ M0; have GG23 := c_ HG23; clear M0 gl23 HG23; obtain ⟨Y0, hf23_0⟩ := uZ 0 d0.o (b0 : Int) V0 W0; replace V0 := Aa V0; replace W0 := Aa W0; obtain ⟨j1, hz24_⟩ := uZ 0 d0.o (b0 : Int) oD_ oD_; have HP24 := vj d0.o (b0 : Int) F0) | ((refine cz (t := 3) (p := 50) rfl ?_); refine st_ 3 50 HP24 K0 X0 fun E1 hw hp_ hg HBn => ?_; obtain ⟨d0, HB⟩ := b_ (hp_) <| c_ HBn.o; clear hg hw hp_))
 (try simp only [← e0])
 go_roundg k1
 case measure => have := b1.o; omega
 case rel => exact ⟨(U0), (wrap64 (b0 + 1)), f0_, H', ⟨by have := b1.o; omega⟩, ⟨by (try simp only [e0]); refine kR_ ?_; exact d0.o⟩, ⟨hB_⟩⟩
def bN.l0 : Nat → ByteArray → Int → List (List Int) → Int → Option ((List (List Int)))
 | 0, _, _, _, _ => none
 | k + 1, x0, x1, x5, x7 => if x7 < 2 then ((bR.f k x0 (wrap64 (x1 + x7))).bind fun t574 => (if x5.length < 5864062014805 then (bN.l0 k x0 x1 (x5 ++ [t574]) (wrap64 (x7 + 1))) else (none))) else (some x5)
def bN.f (k : Nat) (a0 : ByteArray) (a1 : Int) : Option ((List (List Int))) := bN.l0 k a0 a1 ([] : List (List Int)) 0
theorem bN.mono_l : ∀ k, (∀ y0 y1 y2 y3, LeO (bN.l0 k y0 y1 y2 y3) (bN.l0 (k + 1) y0 y1 y2 y3))
 | 0 => fun _ _ _ _ r h => by simp [bN.l0] at h
 | k + 1 => by
  have ih0 := bN.mono_l k
  intros; unfold bN.l0; exact o2_ ih0 bR.mono
theorem bN.mono : ∀ a0 a1 k, LeO (bN.f k a0 a1) (bN.f (k + 1) a0 a1) := by
 intro a0 a1 k
 have ih0 := bN.mono_l k
 unfold bN.f
 exact o2_ ih0 bR.mono
theorem bN.calls (k : Nat) (a0 : ByteArray) (a1 : Int) (r : List (List Int)) (w : World) (h : bN.f k a0 a1 = some r) :
  Calls Tryz.prog 32 #[.string a0, .int .i64 a1] w fun e w' => ∃ v0 : Value, e = .returned (v0) ∧ Kd.S (Kd.slice 3 (Kd.int .i64)) 33 w' w.heap.size (fun _ => True) v0 r ∧ Below w.heap.size w w' := by
 have HB := c_ (Da w.heap.size w)
 delta bN.f at h
 have H := h
 clear h
 have H' := c_ H
 clear H
 go_enter Tryz.func32, Tryz.ntmps32
 go_wp2
 go_loopg [5, 7] k (fun kq v5 v7 w' => ∃ (e0 : List (List Int)) (f0 : Int), v7 = .int .i64 f0 ∧ aa (bN.l0 kq a0 a1 e0 f0 = some r) ∧ aa (kq ≤ k) ∧ aa (Kd.S (Kd.slice 3 (Kd.int .i64)) 33 w' w.heap.size (fun _ => True) v5 e0) ∧ aa (Below w.heap.size w w'))
 case atStart => exact ⟨(([] : List (List Int))), (0), f0_, H', ⟨Ca _⟩, ⟨by first | exact vC _ _ _ _ _ | exact Kd.N_nil _ _ _ _ _ | exact Kd.V_nil _ _ _ _ _ | exact Kd.Q_nil _ _ _ _ _ | exact vB _ _ _ _ _⟩, ⟨hB_⟩⟩
 clear H'
 obtain ⟨e0, f0, rfl, HA, x0, d0, HB⟩ := hrel
 rcases gk with _ | k1
 ·exact absurd HA.o (by simp [bN.l0])
 have H := HA.o
 clear HA
 simp only [bN.l0] at H
 by_cases c3 : f0 < 2
 ·rw [Fa c3] at H
  have q0 := ya c3
  clear c3
  obtain ⟨k0, A4, H⟩ := bN_ H
  obtain ⟨c5, H⟩ := iN_ H
  have r0 := c_ c5
  clear c5
  obtain ⟨t0, b0⟩ : ∃ y_ : List (List Int), y_ = (e0 ++ [k0]) := ⟨_, rfl⟩
  first | replace H := yb_ b0 H | rw [← b0] at H
  have n0 := c_ b0
  clear b0
  have H' := c_ H
  clear H
  go_wp2_with (first | (refine gR_ (k_ 15 Tryz.func39) (bR.calls _ _ _ _ _ A4.o) fun C0 w6 ho_ hb => ?_; obtain ⟨d0, j0, HB⟩ := n_ (dr d0) <| n_ (lR_ ho_) <| sB_; obtain ⟨y0, B0, D0⟩ := uV j0.o; subst D0) | ((refine cr (b := .append) (xs := #[.tmp 10, .tmp 16]) rfl ?_); at_builtin; refine vu (Kd.slice 3 (Kd.int .i64)) (w0 := w) w.heap.size rfl (.tmp 10) (.tmp 16) 44 33 (.slice none 0 0) 24 rfl Tryz.underlying44 gu rfl (by decide) (by omega) u5 e0 k0 [.slice y0 k0.length B0] (fun _ => True) (fun k_ => some k_ = (.slice y0 k0.length B0 : Value).ownBlock) rfl rfl ?aP (fun k_ hk_ => ((uW (ok' := fun k_ => ((fun _ => True)) k_ ∧ some k_ ≠ (u5 : Value).ownBlock) (va (j0.o) (ve d0.o) (by decide)) (fun k_ hk => ⟨trivial, hk.2⟩))).1 k_ hk_.symm) ?aF ?aO ?aB ?aS ?aL ?_; (case aP => exact vY (uW (vx rfl (uW (ok' := fun k_ => ((fun _ => True)) k_ ∧ some k_ ≠ (u5 : Value).ownBlock) (va (j0.o) (ve d0.o) (by decide)) (fun k_ hk => ⟨trivial, hk.2⟩))) (fun _ h_ => h_))); (case aB => exact (hB_)); (case aF => exact (fun _ _ => trivial)); (case aO => exact (by refine kS_ ?_; exact vi d0.o (fun k_ hk => ⟨trivial, fun e_ => hk.2 e_⟩))); (case aS => exact (av (hB_))); (case aL => have := r0.o; omega); intro E0 w7 ho hb hg hat; rw [← n0.o] at ho; obtain ⟨HB, p0⟩ := b_ (hb) <| c_ (ho); clear ho hb hg hat))
  go_roundg k1
  case measure => have := x0.o; omega
  case rel => exact ⟨(t0), (wrap64 (f0 + 1)), f0_, H', ⟨by have := x0.o; omega⟩, ⟨rS_ p0.o⟩, ⟨hB_⟩⟩
 rw [Ga c3] at H
 have q0 := za c3
 clear c3
 obtain rfl := Ba H
 go_wp2
 go_ret
 exact ⟨_, f1_, by refine kS_ ?_; exact d0.o, hB_⟩
mutual
def ar.l0 : Nat → List Int → Int → Int → ByteArray → Int → Option (List Int)
 | 0, _, _, _, _, _ => none
 | k + 1, x8, x9, x10, x640000, x640001 => if x10 < 4000 then (ar.j1 k x8 x9 x10 (decide (x9 < 256)) x640000 x640001) else (ar.j1 k x8 x9 x10 false x640000 x640001)
def ar.j1 : Nat → List Int → Int → Int → Bool → ByteArray → Int → Option (List Int)
 | 0, _, _, _, _, _, _ => none
 | k + 1, x8, x9, x10, x32, x640000, x640001 => if x32 = true then ((aq.f k x640000 x640001 3).bind fun bt643 => (if 0 < (bt643.2.2.size : Int) then (if 1 < (bt643.2.2.size : Int) then (if 2 < (bt643.2.2.size : Int) then ((some (([wrap64 ((wrap64 (bt bt643.2.2 0)) + (wrap64 ((Int.tmod (wrap64 (bt bt643.2.2 1)) 16) * 256))), wrap64 ((wrap64 (Int.tdiv (wrap64 (bt bt643.2.2 1)) 16)) + (wrap64 (16 * (wrap64 (bt bt643.2.2 2)))))] : List Int) : List Int)).bind fun y647 => (ar.l1 k x8 x9 x10 y647 (y647.length : Int) 0 bt643.1 bt643.2.1)) else (none)) else (none)) else (none))) else (some x8)
def ar.l1 : Nat → List Int → Int → Int → List Int → Int → Int → ByteArray → Int → Option (List Int)
 | 0, _, _, _, _, _, _, _, _ => none
 | k + 1, x8, x9, x10, x60, x61, x62, x640000, x640001 => if x62 < x61 then (if 0 ≤ x62 then (if x62 < (x60.length : Int) then (if (rd x60 x62) < 3329 then (if x9 < 256 then (if 0 ≤ x9 then (if x9 < (x8.length : Int) then (ar.l1 k (x8.set (x9 : Int).toNat (rd x60 x62)) (wrap64 (x9 + 1)) x10 x60 x61 (wrap64 (x62 + 1)) x640000 x640001) else (none)) else (none)) else (ar.l1 k x8 x9 x10 x60 x61 (wrap64 (x62 + 1)) x640000 x640001)) else (ar.l1 k x8 x9 x10 x60 x61 (wrap64 (x62 + 1)) x640000 x640001)) else (none)) else (none)) else (ar.l0 k x8 x9 (wrap64 (x10 + 1)) x640000 x640001)
end
def ar.f (k : Nat) (a0 : ByteArray) (a1 : Int) (a2 : Int) : Option (List Int) := (cX.f a1).bind fun t635 => (if a0.size + t635.size ≤ 9223372036854775807 then ((cX.f a2).bind fun t636 => (if (a0 ++ t635).size + t636.size ≤ 9223372036854775807 then ((cf.f k ((a0 ++ t635) ++ t636)).bind fun bt637 => (if 256 ≤ 35184372088832 then (ar.l0 k (List.replicate 256 0) 0 0 bt637.1 bt637.2) else (none))) else (none))) else (none))
theorem ar.mono_l : ∀ k, (∀ y0 y1 y2 y3 y4, LeO (ar.l0 k y0 y1 y2 y3 y4) (ar.l0 (k + 1) y0 y1 y2 y3 y4)) ∧ (∀ y0 y1 y2 y3 y4 y5, LeO (ar.j1 k y0 y1 y2 y3 y4 y5) (ar.j1 (k + 1) y0 y1 y2 y3 y4 y5)) ∧ (∀ y0 y1 y2 y3 y4 y5 y6 y7, LeO (ar.l1 k y0 y1 y2 y3 y4 y5 y6 y7) (ar.l1 (k + 1) y0 y1 y2 y3 y4 y5 y6 y7))
 | 0 => ⟨fun _ _ _ _ _ r h => by simp [ar.l0] at h, fun _ _ _ _ _ _ r h => by simp [ar.j1] at h, fun _ _ _ _ _ _ _ _ r h => by simp [ar.l1] at h⟩
 | k + 1 => by
  obtain ⟨ih0, ih1, ih2⟩ := ar.mono_l k
  refine ⟨?_, ?_, ?_⟩ <;> (intros; (first | unfold ar.l0 | unfold ar.j1 | unfold ar.l1); exact o5_ ih0 ih1 ih2 cf.mono aq.mono)
theorem ar.mono : ∀ a0 a1 a2 k, LeO (ar.f k a0 a1 a2) (ar.f (k + 1) a0 a1 a2) := by
 intro a0 a1 a2 k
 obtain ⟨ih0, ih1, ih2⟩ := ar.mono_l k
 unfold ar.f
 exact o5_ ih0 ih1 ih2 cf.mono aq.mono
theorem ar.calls (k : Nat) (a0 : ByteArray) (a1 : Int) (a2 : Int) (r : List Int) (w : World) (h : ar.f k a0 a1 a2 = some r) :
  Calls Tryz.prog 71 #[.string a0, .int .i64 a1, .int .i64 a2] w fun e w' => ∃ E2 : Value, e = .returned (E2) ∧ Kd.R (Kd.int .i64) 3 w' w.heap.size (fun _ => True) E2 r ∧ Below w.heap.size w w' := by
 have hu95 := Tryz.underlying95
 have HB := c_ (Da w.heap.size w)
 delta ar.f at h
 have H := h
 clear h
 obtain ⟨L1, A4, H⟩ := bN_ H
 obtain ⟨c5, H⟩ := iN_ H
 have c3 := Aa c5
 have e3 := ya c5
 try have f3 : (9223372036854775807 < a0.size + L1.size) = False := eq_false (Nat.not_lt.2 c5)
 obtain ⟨S1, A6, H⟩ := bN_ H
 obtain ⟨c7, H⟩ := iN_ H
 have g3 := Aa c7
 have i3 := ya c7
 try have t2 : (9223372036854775807 < (a0 ++ L1).size + S1.size) = False := eq_false (Nat.not_lt.2 c7)
 try (have v2 : (9223372036854775807 < (a0 ++ L1).size + S1.size) = False := t2; simp only [ByteArray.size_append] at v2)
 obtain ⟨⟨P0, C1⟩, A8, H⟩ := bN_ H
 try dsimp only at H
 obtain ⟨c9, H⟩ := iN_ H
 have l3 := Aa c9
 have m3 := ya c9
 clear c9
 obtain ⟨y2, Q0⟩ : ∃ y_ : List Int, y_ = (List.replicate 256 0) := ⟨_, rfl⟩
 first | replace H := yb_ Q0 H | rw [← Q0] at H
 have K0 := c_ Q0
 clear Q0
 have H' := c_ H
 clear H
 go_enter Tryz.func71, Tryz.ntmps71
 go_wp2_with (first | (go_at_call 74; refine mB_ (cX.calls _ _ _ A4.o) fun F2 HB => ?_) | (go_at_call 74; refine mB_ (cX.calls _ _ _ A6.o) fun G2 HB => ?_) | (go_at_call 101; refine mB_ (cf.calls _ _ _ _ _ A8.o) fun H2 HB => ?_) | (refine bx_ 7 #[.string (⟨#[]⟩ : ByteArray), .int .i64 0] 95 fun k0 F1 hb HB b0 y0 => ?_; have R0 : F1.cell? ⟨k0, 0, none⟩ = some (.string (⟨#[]⟩ : ByteArray)) := (ak b0.o 0).trans rfl; have S0 : F1.cell? ⟨k0, 1, none⟩ = some (.int .i64 0) := (ak b0.o 1).trans rfl; have T0 := ag b0.o 0; have U0 := ag b0.o 1) | ((refine cQ (N := 26) rfl ?_); refine vs (Kd.int .i64) _ 3 rfl (N := 26) rfl 33 _ _ rfl 256 rfl rfl Tryz.underlying33 (.int .i64 0) 8 di rfl (by decide) (by omega) 0 (ok := fun _ => True) (okp := fun _ => True) rfl (fun _ hk => hk) trivial (by omega) (by omega) (Da _ _) (Ca _) ?_; intro m1 I2 C0 hb hg_ hnew_; clear hg_ hnew_; (first | rw [← K0.o] at C0 | (simp only [Int.reduceToNat] at C0; rw [← K0.o] at C0)); obtain ⟨r1, b0, HB⟩ := b_ (uY C0 (av (hS_ y0.o))) <| b_ (eX (g := k0) (o := .cells #[.string P0, .int .i64 C1] 95 (0, 0)) (by refine kK_ ?_; refine ca (cs := #[.string P0, .int .i64 0]) ?_ 1 _ rfl; refine kK_ ?_; refine ca (cs := #[.string (⟨#[]⟩ : ByteArray), .int .i64 0]) ?_ 0 _ rfl; exact rK_ b0.o) hb) <| sB_; clear hb C0))
 repeat (go_quiet (first | (go_at_call 74; refine mB_ (cX.calls _ _ _ A4.o) fun F2 HB => ?_) | (go_at_call 74; refine mB_ (cX.calls _ _ _ A6.o) fun G2 HB => ?_) | (go_at_call 101; refine mB_ (cf.calls _ _ _ _ _ A8.o) fun H2 HB => ?_) | (refine bx_ 7 #[.string (⟨#[]⟩ : ByteArray), .int .i64 0] 95 fun k0 F1 hb HB b0 y0 => ?_; have R0 : F1.cell? ⟨k0, 0, none⟩ = some (.string (⟨#[]⟩ : ByteArray)) := (ak b0.o 0).trans rfl; have S0 : F1.cell? ⟨k0, 1, none⟩ = some (.int .i64 0) := (ak b0.o 1).trans rfl; have T0 := ag b0.o 0; have U0 := ag b0.o 1) | ((refine cQ (N := 26) rfl ?_); refine vs (Kd.int .i64) _ 3 rfl (N := 26) rfl 33 _ _ rfl 256 rfl rfl Tryz.underlying33 (.int .i64 0) 8 di rfl (by decide) (by omega) 0 (ok := fun _ => True) (okp := fun _ => True) rfl (fun _ hk => hk) trivial (by omega) (by omega) (Da _ _) (Ca _) ?_; intro m1 I2 C0 hb hg_ hnew_; clear hg_ hnew_; (first | rw [← K0.o] at C0 | (simp only [Int.reduceToNat] at C0; rw [← K0.o] at C0)); obtain ⟨r1, b0, HB⟩ := b_ (uY C0 (av (hS_ y0.o))) <| b_ (eX (g := k0) (o := .cells #[.string P0, .int .i64 C1] 95 (0, 0)) (by refine kK_ ?_; refine ca (cs := #[.string P0, .int .i64 0]) ?_ 1 _ rfl; refine kK_ ?_; refine ca (cs := #[.string (⟨#[]⟩ : ByteArray), .int .i64 0]) ?_ 0 _ rfl; exact rK_ b0.o) hb) <| sB_; clear hb C0)); try go_wp2_with (first | (go_at_call 74; refine mB_ (cX.calls _ _ _ A4.o) fun F2 HB => ?_) | (go_at_call 74; refine mB_ (cX.calls _ _ _ A6.o) fun G2 HB => ?_) | (go_at_call 101; refine mB_ (cf.calls _ _ _ _ _ A8.o) fun H2 HB => ?_) | (refine bx_ 7 #[.string (⟨#[]⟩ : ByteArray), .int .i64 0] 95 fun k0 F1 hb HB b0 y0 => ?_; have R0 : F1.cell? ⟨k0, 0, none⟩ = some (.string (⟨#[]⟩ : ByteArray)) := (ak b0.o 0).trans rfl; have S0 : F1.cell? ⟨k0, 1, none⟩ = some (.int .i64 0) := (ak b0.o 1).trans rfl; have T0 := ag b0.o 0; have U0 := ag b0.o 1) | ((refine cQ (N := 26) rfl ?_); refine vs (Kd.int .i64) _ 3 rfl (N := 26) rfl 33 _ _ rfl 256 rfl rfl Tryz.underlying33 (.int .i64 0) 8 di rfl (by decide) (by omega) 0 (ok := fun _ => True) (okp := fun _ => True) rfl (fun _ hk => hk) trivial (by omega) (by omega) (Da _ _) (Ca _) ?_; intro m1 I2 C0 hb hg_ hnew_; clear hg_ hnew_; (first | rw [← K0.o] at C0 | (simp only [Int.reduceToNat] at C0; rw [← K0.o] at C0)); obtain ⟨r1, b0, HB⟩ := b_ (uY C0 (av (hS_ y0.o))) <| b_ (eX (g := k0) (o := .cells #[.string P0, .int .i64 C1] 95 (0, 0)) (by refine kK_ ?_; refine ca (cs := #[.string P0, .int .i64 0]) ?_ 1 _ rfl; refine kK_ ?_; refine ca (cs := #[.string (⟨#[]⟩ : ByteArray), .int .i64 0]) ?_ 0 _ rfl; exact rK_ b0.o) hb) <| sB_; clear hb C0)))
 go_loopg [9, 10] k (fun kq v9 n3 w' => ∃ (n1 : List Int) (p1 : Int) (H0 : Int) (j0 : ByteArray) (d0 : Int), v9 = .int .i64 p1 ∧ n3 = .int .i64 H0 ∧ aa (ar.l0 kq n1 p1 H0 j0 d0 = some r) ∧ aa (kq ≤ k) ∧ aa (Kd.R (Kd.int .i64) 3 w' w.heap.size (fun _ => True) m1 n1) ∧ aa (w'.heap[k0]? = some (.cells #[.string j0, .int .i64 d0] 95 (0, 0))) ∧ aa (Below w.heap.size w w'))
 case atStart => exact ⟨(y2), (0), (0), (P0), (C1), f0_, f0_, H', ⟨Ca _⟩, ⟨rR_ r1.o⟩, ⟨by refine kK_ ?_; exact b0.o⟩, ⟨hS_ y0.o⟩⟩
 clear H'
 obtain ⟨n1, p1, H0, j0, d0, rfl, rfl, HA, B1, n0, b0, HB⟩ := hrel
 rcases gk with _ | k1
 ·exact absurd HA.o (by simp [ar.l0])
 have H := HA.o
 clear HA
 simp only [ar.l0] at H
 have M1 := c_ H
 clear H
 go_upto_region 5 with (fail)
 repeat (go_quiet (fail); go_upto_region 5 with (fail))
 go_cut [32] (fun p3 wc => ∃ (kq : Nat) (M0 : Bool), p3 = .bool M0 ∧ aa (ar.j1 kq n1 p1 H0 M0 j0 d0 = some r) ∧ aa (kq ≤ k1) ∧ aa (Kd.R (Kd.int .i64) 3 wc w.heap.size (fun _ => True) m1 n1) ∧ aa (wc.heap[k0]? = some (.cells #[.string j0, .int .i64 d0] 95 (0, 0))) ∧ aa (Below w.heap.size w wc))
 case first =>
  have H := M1.o
  clear M1
  by_cases O1 : H0 < 4000
  ·rw [Fa O1] at H
   have N0 := ya O1
   clear O1
   (first | rw [N0] | (simp only [bB, cG]; rw [N0]) | skip)
   have H' := c_ H
   clear H
   go_wp2
   repeat (go_quiet (fail); try go_wp2)
   go_meet
   case rel => exact ⟨_, (decide (p1 < 256)), f0_, H', ⟨by have := B1.o; first | omega | exact Ca _⟩, ⟨rR_ n0.o⟩, ⟨by refine kK_ ?_; exact b0.o⟩, ⟨hS_ y0.o⟩⟩
  rw [Ga O1] at H
  have N0 := za O1
  clear O1
  (first | rw [N0] | (simp only [bB, cG]; rw [N0]) | skip)
  have H' := c_ H
  clear H
  go_wp2
  repeat (go_quiet (fail); try go_wp2)
  go_meet
  case rel => exact ⟨_, (false), f0_, H', ⟨by have := B1.o; first | omega | exact Ca _⟩, ⟨rR_ n0.o⟩, ⟨by refine kK_ ?_; exact b0.o⟩, ⟨hS_ y0.o⟩⟩
 clear M1
 obtain ⟨kq, M0, rfl, HA, O0, n0, b0, HB⟩ := hcut
 rcases kq with _ | T1
 ·exact absurd HA.o (by simp [ar.j1])
 have H := HA.o
 clear HA
 simp only [ar.j1] at H
 by_cases m2 : M0 = true
 ·subst m2
  replace H := iT_ H
  obtain ⟨⟨v0, B0, e0⟩, z2, H⟩ := bN_ H
  try dsimp only at H
  obtain ⟨J2, H⟩ := iN_ H
  have K2 := ya J2
  have L2 : decide (0 < e0.size) = true := ya (by omega)
  clear J2
  obtain ⟨M2, H⟩ := iN_ H
  have N2 := ya M2
  have O2 : decide (1 < e0.size) = true := ya (by omega)
  clear M2
  obtain ⟨P2, H⟩ := iN_ H
  have Q2 := ya P2
  have R2 : decide (2 < e0.size) = true := ya (by omega)
  clear P2
  obtain ⟨F0, V0⟩ : ∃ y_ : List Int, y_ = (([wrap64 ((wrap64 (bt e0 0)) + (wrap64 ((Int.tmod (wrap64 (bt e0 1)) 16) * 256))), wrap64 ((wrap64 (Int.tdiv (wrap64 (bt e0 1)) 16)) + (wrap64 (16 * (wrap64 (bt e0 2)))))] : List Int)) := ⟨_, rfl⟩
  first | replace H := yb_ V0 H | rw [← V0] at H
  have t1 := c_ V0
  clear V0
  have H' := c_ H
  clear H
  have n2 : wc.cell? ⟨k0, 0, none⟩ = some (.string j0) := (ak b0.o 0).trans rfl
  have p2 : wc.cell? ⟨k0, 1, none⟩ = some (.int .i64 d0) := (ak b0.o 1).trans rfl
  have q2 := ag b0.o 0
  have r2 := ag b0.o 1
  go_wp2_with (first | (go_at_call 102; refine mb_ (aq.calls _ _ _ _ _ _ _ _ z2.o) fun T2 hb => ?_; obtain ⟨n0, b0, HB⟩ := n_ (fR_ n0) <| n_ (fK_ b0) <| sB_) | (refine bq_ 11 #[.string (⟨#[]⟩ : ByteArray), .int .i64 0] 95 fun t0 W0 hg hb HB f0 E0 => ?_; obtain ⟨n0, b0, p0, q0⟩ := n_ (fR_ n0) <| n_ (fK_ b0) <| b_ (by rw [hg]; exact Nat.ne_of_lt (eO (g := k0) (o := .cells #[.string j0, .int .i64 d0] 95 (0, 0)) (rK_ b0.o)) : k0 ≠ t0) <| c_ (by rw [hg]; exact Nat.ne_of_gt (eO (g := k0) (o := .cells #[.string j0, .int .i64 d0] 95 (0, 0)) (rK_ b0.o)) : t0 ≠ k0); clear hg; have hnb30 := q0.o; have hnc30 := p0.o; have X0 : W0.cell? ⟨t0, 0, none⟩ = some (.string (⟨#[]⟩ : ByteArray)) := (ak f0.o 0).trans rfl; have Y0 : W0.cell? ⟨t0, 1, none⟩ = some (.int .i64 0) := (ak f0.o 1).trans rfl; have Z0 := ag f0.o 0; have b1 := ag f0.o 1; have c1 : W0.cell? ⟨k0, 0, none⟩ = some (.string j0) := (ak b0.o 0).trans rfl; have d1 : W0.cell? ⟨k0, 1, none⟩ = some (.int .i64 d0) := (ak b0.o 1).trans rfl; have e1 := ag b0.o 0; have f1 := ag b0.o 1; have U1 : 0 ≤ (0 : Int) := (by omega); have G1 : 0 < e0.size := (by have : (0 : Int) < (e0.size : Int) := oD_; omega); have V1 : ∀ h : 0 < e0.size, ((e0[0]'h).toNat : Int) = bt e0 0 := cY e0 0; clear U1; have qi22 : (0 < (e0.size : Int)) = True := Aa oD_; replace G1 := Aa G1; have X1 : 0 ≤ (1 : Int) := (by omega); have H1 : 1 < e0.size := (by have : (1 : Int) < (e0.size : Int) := oD_; omega); have Y1 : ∀ h : 1 < e0.size, ((e0[1]'h).toNat : Int) = bt e0 1 := cY e0 1; clear X1; have qi24 : (1 < (e0.size : Int)) = True := Aa oD_; replace H1 := Aa H1; have Z1 : 0 ≤ (2 : Int) := (by omega); have I1 : 2 < e0.size := (by have : (2 : Int) < (e0.size : Int) := oD_; omega); have b2 : ∀ h : 2 < e0.size, ((e0[2]'h).toNat : Int) = bt e0 2 := cY e0 2; clear Z1; have qi26 : (2 < (e0.size : Int)) = True := Aa oD_; replace I1 := Aa I1) | (refine li_ 60 .i64 3 t1 fun c2 U2 ho_ hb => ?_; obtain ⟨n0, L0, b0, f0, HB⟩ := b_ (vg (by refine kR_ ?_; exact (uW (uW (vr (vr (vr (vr (vn (vn n0.o f0.o (by decide)) b0.o (by decide)) (fun _ hk => hk.1.2) (.string v0)) (fun _ hk => hk.1.2) (.int .i64 B0)) (fun _ hk => hk.2) _) (fun _ hk => hk.2) _) (fun _ h_ => h_.1)) (fun _ h_ => h_.1))) (vd ho_) hb) <| b_ (uY (vq ho_ (vF (by refine kR_ ?_; exact (uW (uW (vr (vr (vr (vr (vn (vn n0.o f0.o (by decide)) b0.o (by decide)) (fun _ hk => hk.1.2) (.string v0)) (fun _ hk => hk.1.2) (.int .i64 B0)) (fun _ hk => hk.2) _) (fun _ hk => hk.2) _) (fun _ h_ => h_.1)) (fun _ h_ => h_.1))))) (av ((u2_ y0.o E0.o)))) <| b_ (eX (g := k0) (o := .cells #[.string v0, .int .i64 B0] 95 (0, 0)) (by refine kK_ ?_; refine ca (cs := #[.string v0, .int .i64 d0]) ?_ 1 _ rfl; refine kK_ ?_; refine ca (cs := #[.string j0, .int .i64 d0]) ?_ 0 _ rfl; refine kK_ ?_; refine en ?_ p0.o _; refine kK_ ?_; refine en ?_ p0.o _; exact rK_ b0.o) hb) <| b_ (eX (g := t0) (o := .cells #[.string v0, .int .i64 B0] 95 (0, 0)) (by refine kK_ ?_; refine en ?_ q0.o _; refine kK_ ?_; refine en ?_ q0.o _; refine kK_ ?_; refine ca (cs := #[.string v0, .int .i64 0]) ?_ 1 _ rfl; refine kK_ ?_; refine ca (cs := #[.string (⟨#[]⟩ : ByteArray), .int .i64 0]) ?_ 0 _ rfl; exact rK_ f0.o) hb) <| sB_; obtain ⟨D1, E1, y1⟩ := uV L0.o; subst y1))
  repeat (go_quiet (first | (go_at_call 102; refine mb_ (aq.calls _ _ _ _ _ _ _ _ z2.o) fun T2 hb => ?_; obtain ⟨n0, b0, HB⟩ := n_ (fR_ n0) <| n_ (fK_ b0) <| sB_) | (refine bq_ 11 #[.string (⟨#[]⟩ : ByteArray), .int .i64 0] 95 fun t0 W0 hg hb HB f0 E0 => ?_; obtain ⟨n0, b0, p0, q0⟩ := n_ (fR_ n0) <| n_ (fK_ b0) <| b_ (by rw [hg]; exact Nat.ne_of_lt (eO (g := k0) (o := .cells #[.string j0, .int .i64 d0] 95 (0, 0)) (rK_ b0.o)) : k0 ≠ t0) <| c_ (by rw [hg]; exact Nat.ne_of_gt (eO (g := k0) (o := .cells #[.string j0, .int .i64 d0] 95 (0, 0)) (rK_ b0.o)) : t0 ≠ k0); clear hg; have hnb30 := q0.o; have hnc30 := p0.o; have X0 : W0.cell? ⟨t0, 0, none⟩ = some (.string (⟨#[]⟩ : ByteArray)) := (ak f0.o 0).trans rfl; have Y0 : W0.cell? ⟨t0, 1, none⟩ = some (.int .i64 0) := (ak f0.o 1).trans rfl; have Z0 := ag f0.o 0; have b1 := ag f0.o 1; have c1 : W0.cell? ⟨k0, 0, none⟩ = some (.string j0) := (ak b0.o 0).trans rfl; have d1 : W0.cell? ⟨k0, 1, none⟩ = some (.int .i64 d0) := (ak b0.o 1).trans rfl; have e1 := ag b0.o 0; have f1 := ag b0.o 1; have U1 : 0 ≤ (0 : Int) := (by omega); have G1 : 0 < e0.size := (by have : (0 : Int) < (e0.size : Int) := oD_; omega); have V1 : ∀ h : 0 < e0.size, ((e0[0]'h).toNat : Int) = bt e0 0 := cY e0 0; clear U1; have qi22 : (0 < (e0.size : Int)) = True := Aa oD_; replace G1 := Aa G1; have X1 : 0 ≤ (1 : Int) := (by omega); have H1 : 1 < e0.size := (by have : (1 : Int) < (e0.size : Int) := oD_; omega); have Y1 : ∀ h : 1 < e0.size, ((e0[1]'h).toNat : Int) = bt e0 1 := cY e0 1; clear X1; have qi24 : (1 < (e0.size : Int)) = True := Aa oD_; replace H1 := Aa H1; have Z1 : 0 ≤ (2 : Int) := (by omega); have I1 : 2 < e0.size := (by have : (2 : Int) < (e0.size : Int) := oD_; omega); have b2 : ∀ h : 2 < e0.size, ((e0[2]'h).toNat : Int) = bt e0 2 := cY e0 2; clear Z1; have qi26 : (2 < (e0.size : Int)) = True := Aa oD_; replace I1 := Aa I1) | (refine li_ 60 .i64 3 t1 fun c2 U2 ho_ hb => ?_; obtain ⟨n0, L0, b0, f0, HB⟩ := b_ (vg (by refine kR_ ?_; exact (uW (uW (vr (vr (vr (vr (vn (vn n0.o f0.o (by decide)) b0.o (by decide)) (fun _ hk => hk.1.2) (.string v0)) (fun _ hk => hk.1.2) (.int .i64 B0)) (fun _ hk => hk.2) _) (fun _ hk => hk.2) _) (fun _ h_ => h_.1)) (fun _ h_ => h_.1))) (vd ho_) hb) <| b_ (uY (vq ho_ (vF (by refine kR_ ?_; exact (uW (uW (vr (vr (vr (vr (vn (vn n0.o f0.o (by decide)) b0.o (by decide)) (fun _ hk => hk.1.2) (.string v0)) (fun _ hk => hk.1.2) (.int .i64 B0)) (fun _ hk => hk.2) _) (fun _ hk => hk.2) _) (fun _ h_ => h_.1)) (fun _ h_ => h_.1))))) (av ((u2_ y0.o E0.o)))) <| b_ (eX (g := k0) (o := .cells #[.string v0, .int .i64 B0] 95 (0, 0)) (by refine kK_ ?_; refine ca (cs := #[.string v0, .int .i64 d0]) ?_ 1 _ rfl; refine kK_ ?_; refine ca (cs := #[.string j0, .int .i64 d0]) ?_ 0 _ rfl; refine kK_ ?_; refine en ?_ p0.o _; refine kK_ ?_; refine en ?_ p0.o _; exact rK_ b0.o) hb) <| b_ (eX (g := t0) (o := .cells #[.string v0, .int .i64 B0] 95 (0, 0)) (by refine kK_ ?_; refine en ?_ q0.o _; refine kK_ ?_; refine en ?_ q0.o _; refine kK_ ?_; refine ca (cs := #[.string v0, .int .i64 0]) ?_ 1 _ rfl; refine kK_ ?_; refine ca (cs := #[.string (⟨#[]⟩ : ByteArray), .int .i64 0]) ?_ 0 _ rfl; exact rK_ f0.o) hb) <| sB_; obtain ⟨D1, E1, y1⟩ := uV L0.o; subst y1)); try go_wp2_with (first | (go_at_call 102; refine mb_ (aq.calls _ _ _ _ _ _ _ _ z2.o) fun T2 hb => ?_; obtain ⟨n0, b0, HB⟩ := n_ (fR_ n0) <| n_ (fK_ b0) <| sB_) | (refine bq_ 11 #[.string (⟨#[]⟩ : ByteArray), .int .i64 0] 95 fun t0 W0 hg hb HB f0 E0 => ?_; obtain ⟨n0, b0, p0, q0⟩ := n_ (fR_ n0) <| n_ (fK_ b0) <| b_ (by rw [hg]; exact Nat.ne_of_lt (eO (g := k0) (o := .cells #[.string j0, .int .i64 d0] 95 (0, 0)) (rK_ b0.o)) : k0 ≠ t0) <| c_ (by rw [hg]; exact Nat.ne_of_gt (eO (g := k0) (o := .cells #[.string j0, .int .i64 d0] 95 (0, 0)) (rK_ b0.o)) : t0 ≠ k0); clear hg; have hnb30 := q0.o; have hnc30 := p0.o; have X0 : W0.cell? ⟨t0, 0, none⟩ = some (.string (⟨#[]⟩ : ByteArray)) := (ak f0.o 0).trans rfl; have Y0 : W0.cell? ⟨t0, 1, none⟩ = some (.int .i64 0) := (ak f0.o 1).trans rfl; have Z0 := ag f0.o 0; have b1 := ag f0.o 1; have c1 : W0.cell? ⟨k0, 0, none⟩ = some (.string j0) := (ak b0.o 0).trans rfl; have d1 : W0.cell? ⟨k0, 1, none⟩ = some (.int .i64 d0) := (ak b0.o 1).trans rfl; have e1 := ag b0.o 0; have f1 := ag b0.o 1; have U1 : 0 ≤ (0 : Int) := (by omega); have G1 : 0 < e0.size := (by have : (0 : Int) < (e0.size : Int) := oD_; omega); have V1 : ∀ h : 0 < e0.size, ((e0[0]'h).toNat : Int) = bt e0 0 := cY e0 0; clear U1; have qi22 : (0 < (e0.size : Int)) = True := Aa oD_; replace G1 := Aa G1; have X1 : 0 ≤ (1 : Int) := (by omega); have H1 : 1 < e0.size := (by have : (1 : Int) < (e0.size : Int) := oD_; omega); have Y1 : ∀ h : 1 < e0.size, ((e0[1]'h).toNat : Int) = bt e0 1 := cY e0 1; clear X1; have qi24 : (1 < (e0.size : Int)) = True := Aa oD_; replace H1 := Aa H1; have Z1 : 0 ≤ (2 : Int) := (by omega); have I1 : 2 < e0.size := (by have : (2 : Int) < (e0.size : Int) := oD_; omega); have b2 : ∀ h : 2 < e0.size, ((e0[2]'h).toNat : Int) = bt e0 2 := cY e0 2; clear Z1; have qi26 : (2 < (e0.size : Int)) = True := Aa oD_; replace I1 := Aa I1) | (refine li_ 60 .i64 3 t1 fun c2 U2 ho_ hb => ?_; obtain ⟨n0, L0, b0, f0, HB⟩ := b_ (vg (by refine kR_ ?_; exact (uW (uW (vr (vr (vr (vr (vn (vn n0.o f0.o (by decide)) b0.o (by decide)) (fun _ hk => hk.1.2) (.string v0)) (fun _ hk => hk.1.2) (.int .i64 B0)) (fun _ hk => hk.2) _) (fun _ hk => hk.2) _) (fun _ h_ => h_.1)) (fun _ h_ => h_.1))) (vd ho_) hb) <| b_ (uY (vq ho_ (vF (by refine kR_ ?_; exact (uW (uW (vr (vr (vr (vr (vn (vn n0.o f0.o (by decide)) b0.o (by decide)) (fun _ hk => hk.1.2) (.string v0)) (fun _ hk => hk.1.2) (.int .i64 B0)) (fun _ hk => hk.2) _) (fun _ hk => hk.2) _) (fun _ h_ => h_.1)) (fun _ h_ => h_.1))))) (av ((u2_ y0.o E0.o)))) <| b_ (eX (g := k0) (o := .cells #[.string v0, .int .i64 B0] 95 (0, 0)) (by refine kK_ ?_; refine ca (cs := #[.string v0, .int .i64 d0]) ?_ 1 _ rfl; refine kK_ ?_; refine ca (cs := #[.string j0, .int .i64 d0]) ?_ 0 _ rfl; refine kK_ ?_; refine en ?_ p0.o _; refine kK_ ?_; refine en ?_ p0.o _; exact rK_ b0.o) hb) <| b_ (eX (g := t0) (o := .cells #[.string v0, .int .i64 B0] 95 (0, 0)) (by refine kK_ ?_; refine en ?_ q0.o _; refine kK_ ?_; refine en ?_ q0.o _; refine kK_ ?_; refine ca (cs := #[.string v0, .int .i64 0]) ?_ 1 _ rfl; refine kK_ ?_; refine ca (cs := #[.string (⟨#[]⟩ : ByteArray), .int .i64 0]) ?_ 0 _ rfl; exact rK_ f0.o) hb) <| sB_; obtain ⟨D1, E1, y1⟩ := uV L0.o; subst y1)))
  go_loopg [9, 62] T1 (fun kq v9 q3 w' => ∃ (G0 : List Int) (D0 : Int) (r0 : Int), v9 = .int .i64 D0 ∧ q3 = .int .i64 r0 ∧ aa (ar.l1 kq G0 D0 H0 F0 (F0.length : Int) r0 v0 B0 = some r) ∧ aa (kq ≤ T1) ∧ aa (Kd.R (Kd.int .i64) 3 w' w.heap.size (fun k_ => some k_ ≠ ((.slice D1 F0.length E1) : Value).ownBlock) m1 G0) ∧ aa (Kd.R (Kd.int .i64) 3 w' w.heap.size (fun k_ => some k_ ≠ (m1 : Value).ownBlock) (.slice D1 F0.length E1) F0) ∧ aa (w'.heap[k0]? = some (.cells #[.string v0, .int .i64 B0] 95 (0, 0))) ∧ aa (w'.heap[t0]? = some (.cells #[.string v0, .int .i64 B0] 95 (0, 0))) ∧ aa (Below w.heap.size w w'))
  case atStart => exact ⟨(n1), (p1), (0), f0_, f0_, H', ⟨Ca _⟩, ⟨by refine kR_ ?_; exact uW n0.o (fun _ hk => hk.2)⟩, ⟨by refine kR_ ?_; exact uW L0.o (fun _ hk => hk.2)⟩, ⟨by refine kK_ ?_; exact b0.o⟩, ⟨by refine kK_ ?_; exact f0.o⟩, ⟨(u2_ y0.o E0.o)⟩⟩
  clear H'
  obtain ⟨G0, D0, r0, rfl, rfl, HA, J1, n0, x0, b0, f0, HB⟩ := hrel
  rcases gk with _ | k3
  ·exact absurd HA.o (by simp [ar.l1])
  have H := HA.o
  clear HA
  simp only [ar.l1] at H
  by_cases P1 : r0 < (F0.length : Int)
  rotate_left
  ·rw [Ga P1] at H
   have f2 := za P1
   clear P1
   have H' := c_ H
   clear H
   go_wp2
   repeat (go_quiet (fail); try go_wp2)
   go_roundg k3
   case measure => have := B1.o; have := O0.o; have := J1.o; omega
   case rel => exact ⟨(G0), (D0), (wrap64 (H0 + 1)), (v0), (B0), f0_, f0_, H', ⟨by have := B1.o; have := O0.o; have := J1.o; omega⟩, ⟨by refine kR_ ?_; exact uW n0.o (fun _ hk => trivial)⟩, ⟨by refine kK_ ?_; exact b0.o⟩, ⟨(u2_ y0.o E0.o)⟩⟩
  rw [Fa P1] at H
  have f2 := ya P1
  clear P1
  obtain ⟨V2, H⟩ := iD_ H
  obtain ⟨X2, H⟩ := iD_ H
  by_cases Q1 : (rd F0 r0) < 3329
  rotate_left
  ·rw [Ga Q1] at H
   have g2 := za Q1
   clear Q1
   have H' := c_ H
   clear H
   have I0 : 0 ≤ (r0 : Int) := oD_
   have J0 : r0 < (F0.length : Int) := oD_
   obtain ⟨K1, z1, g1⟩ := uX (uU x0.o).2.2 r0 I0 J0
   cases z1
   replace I0 := Aa I0
   replace J0 := Aa J0
   go_wp2
   repeat (go_quiet (fail); try go_wp2)
   go_roundg k3
   case measure => have := B1.o; have := O0.o; have := J1.o; omega
   case rel => exact ⟨(G0), (D0), (wrap64 (r0 + 1)), f0_, f0_, H', ⟨by have := B1.o; have := O0.o; have := J1.o; omega⟩, ⟨rR_ n0.o⟩, ⟨rR_ x0.o⟩, ⟨by refine kK_ ?_; exact b0.o⟩, ⟨by refine kK_ ?_; exact f0.o⟩, ⟨(u2_ y0.o E0.o)⟩⟩
  rw [Fa Q1] at H
  have g2 := ya Q1
  clear Q1
  by_cases R1 : D0 < 256
  rotate_left
  ·rw [Ga R1] at H
   have i2 := za R1
   clear R1
   have H' := c_ H
   clear H
   have I0 : 0 ≤ (r0 : Int) := oD_
   have J0 : r0 < (F0.length : Int) := oD_
   obtain ⟨K1, z1, g1⟩ := uX (uU x0.o).2.2 r0 I0 J0
   cases z1
   replace I0 := Aa I0
   replace J0 := Aa J0
   go_wp2
   repeat (go_quiet (fail); try go_wp2)
   go_roundg k3
   case measure => have := B1.o; have := O0.o; have := J1.o; omega
   case rel => exact ⟨(G0), (D0), (wrap64 (r0 + 1)), f0_, f0_, H', ⟨by have := B1.o; have := O0.o; have := J1.o; omega⟩, ⟨rR_ n0.o⟩, ⟨rR_ x0.o⟩, ⟨by refine kK_ ?_; exact b0.o⟩, ⟨by refine kK_ ?_; exact f0.o⟩, ⟨(u2_ y0.o E0.o)⟩⟩
  rw [Fa R1] at H
  have i2 := ya R1
  clear R1
  obtain ⟨Y2, H⟩ := iD_ H
  obtain ⟨Z2, H⟩ := iD_ H
  obtain ⟨A2, i1⟩ : ∃ y_ : List Int, y_ = (G0.set (D0 : Int).toNat (rd F0 r0)) := ⟨_, rfl⟩
  first | replace H := yb_ i1 H | rw [← i1] at H
  have A1 := c_ i1
  clear i1
  have H' := c_ H
  clear H
  have I0 : 0 ≤ (r0 : Int) := oD_
  have J0 : r0 < (F0.length : Int) := oD_
  obtain ⟨K1, z1, g1⟩ := uX (uU x0.o).2.2 r0 I0 J0
  cases z1
  replace I0 := Aa I0
  replace J0 := Aa J0
  have B2 : 0 ≤ (D0 : Int) := oD_
  have C2 : (D0 : Int) < ((G0.length : Int) : Int) := oD_
  obtain ⟨go43, q1, j2, l2, gl43, cl43, HG43⟩ := vm n0.o (by omega)
  (first | cases j2 | (injection j2 with ea_ en_ ec_; (first | subst ea_ | (injection ea_ with ea_; subst ea_)); subst ec_; clear en_))
  have N1 := c_ l2
  have GG43 := c_ HG43
  clear l2 gl43 HG43
  obtain ⟨D2, hf43_0⟩ := uZ 0 n0.o (D0 : Int) B2 C2
  replace B2 := Aa B2
  replace C2 := Aa C2
  have HP44 := vj n0.o (D0 : Int) (rd F0 r0)
  go_wp2_with (first | ((refine cz (t := 3) (p := 75) rfl ?_); (try (rw [dt wr]; generalize hq_ : World.drewN wr _ = wr; obtain ⟨n0, x0, b0, f0, HB⟩ := b_ (wI hq_ n0.o) <| b_ (wI hq_ x0.o) <| b_ (blk_at hq_ b0.o) <| b_ (blk_at hq_ f0.o) <| c_ (gc hq_ HB.o); (try (have HP44 := vj n0.o (D0 : Int) (rd F0 r0))))); refine st_ 3 75 HP44 A1 N1 fun b3 hw hp_ hg HBn => ?_; have n0_ := c_ (hp_); have n1_ := c_ (vw (v := (.slice (some ⟨go43, 0, none⟩) G0.length q1)) (v1 := (.slice (some ⟨go43, 0, none⟩) G0.length q1)) (ok := (fun _ => True)) (by refine kR_ ?_; exact uW x0.o (fun _ hk => ⟨trivial, hk⟩)) hg (.inl rfl)); have n2_ := c_ (fF (g := k0) (o := .cells #[.string v0, .int .i64 B0] 95 (0, 0)) (rK_ b0.o) hg (wU n0.o b0.o (by decide))); have n3_ := c_ (fF (g := t0) (o := .cells #[.string v0, .int .i64 B0] 95 (0, 0)) (rK_ f0.o) hg (wU n0.o f0.o (by decide))); have n4_ := c_ (HBn.o); replace n0 := n0_; replace x0 := n1_; replace b0 := n2_; replace f0 := n3_; replace HB := n4_; clear n0_ n1_ n2_ n3_ n4_; clear hg hw hp_))
  repeat (go_quiet (first | ((refine cz (t := 3) (p := 75) rfl ?_); (try (rw [dt wr]; generalize hq_ : World.drewN wr _ = wr; obtain ⟨n0, x0, b0, f0, HB⟩ := b_ (wI hq_ n0.o) <| b_ (wI hq_ x0.o) <| b_ (blk_at hq_ b0.o) <| b_ (blk_at hq_ f0.o) <| c_ (gc hq_ HB.o); (try (have HP44 := vj n0.o (D0 : Int) (rd F0 r0))))); refine st_ 3 75 HP44 A1 N1 fun b3 hw hp_ hg HBn => ?_; have n0_ := c_ (hp_); have n1_ := c_ (vw (v := (.slice (some ⟨go43, 0, none⟩) G0.length q1)) (v1 := (.slice (some ⟨go43, 0, none⟩) G0.length q1)) (ok := (fun _ => True)) (by refine kR_ ?_; exact uW x0.o (fun _ hk => ⟨trivial, hk⟩)) hg (.inl rfl)); have n2_ := c_ (fF (g := k0) (o := .cells #[.string v0, .int .i64 B0] 95 (0, 0)) (rK_ b0.o) hg (wU n0.o b0.o (by decide))); have n3_ := c_ (fF (g := t0) (o := .cells #[.string v0, .int .i64 B0] 95 (0, 0)) (rK_ f0.o) hg (wU n0.o f0.o (by decide))); have n4_ := c_ (HBn.o); replace n0 := n0_; replace x0 := n1_; replace b0 := n2_; replace f0 := n3_; replace HB := n4_; clear n0_ n1_ n2_ n3_ n4_; clear hg hw hp_)); try go_wp2_with (first | ((refine cz (t := 3) (p := 75) rfl ?_); (try (rw [dt wr]; generalize hq_ : World.drewN wr _ = wr; obtain ⟨n0, x0, b0, f0, HB⟩ := b_ (wI hq_ n0.o) <| b_ (wI hq_ x0.o) <| b_ (blk_at hq_ b0.o) <| b_ (blk_at hq_ f0.o) <| c_ (gc hq_ HB.o); (try (have HP44 := vj n0.o (D0 : Int) (rd F0 r0))))); refine st_ 3 75 HP44 A1 N1 fun b3 hw hp_ hg HBn => ?_; have n0_ := c_ (hp_); have n1_ := c_ (vw (v := (.slice (some ⟨go43, 0, none⟩) G0.length q1)) (v1 := (.slice (some ⟨go43, 0, none⟩) G0.length q1)) (ok := (fun _ => True)) (by refine kR_ ?_; exact uW x0.o (fun _ hk => ⟨trivial, hk⟩)) hg (.inl rfl)); have n2_ := c_ (fF (g := k0) (o := .cells #[.string v0, .int .i64 B0] 95 (0, 0)) (rK_ b0.o) hg (wU n0.o b0.o (by decide))); have n3_ := c_ (fF (g := t0) (o := .cells #[.string v0, .int .i64 B0] 95 (0, 0)) (rK_ f0.o) hg (wU n0.o f0.o (by decide))); have n4_ := c_ (HBn.o); replace n0 := n0_; replace x0 := n1_; replace b0 := n2_; replace f0 := n3_; replace HB := n4_; clear n0_ n1_ n2_ n3_ n4_; clear hg hw hp_)))
  go_roundg k3
  case measure => have := B1.o; have := O0.o; have := J1.o; omega
  case rel => exact ⟨(A2), (wrap64 (D0 + 1)), (wrap64 (r0 + 1)), f0_, f0_, H', ⟨by have := B1.o; have := O0.o; have := J1.o; omega⟩, ⟨rR_ n0.o⟩, ⟨by refine kR_ ?_; exact uW x0.o (fun _ hk => hk.2)⟩, ⟨by refine kK_ ?_; exact b0.o⟩, ⟨by refine kK_ ?_; exact f0.o⟩, ⟨(u2_ y0.o E0.o)⟩⟩
 ·replace m2 := Ea m2
  subst m2
  replace H := iF_ H
  obtain rfl := Ba H
  go_wp2
  repeat (go_quiet (fail); try go_wp2)
  go_ret
  exact ⟨_, f1_, rR_ n0.o, hS_ y0.o⟩
def cj.l0 : Nat → ByteArray → Int → Bool → List (List Int) → Int → Option ((List (List Int)))
 | 0, _, _, _, _, _ => none
 | k + 1, x0, x1, x2, x7, x9 => if x9 < 2 then (if x2 = true then ((ar.f k x0 x1 x9).bind fun t652 => (if x7.length < 5864062014805 then (cj.l0 k x0 x1 x2 (x7 ++ [t652]) (wrap64 (x9 + 1))) else (none))) else ((ar.f k x0 x9 x1).bind fun t658 => (if x7.length < 5864062014805 then (cj.l0 k x0 x1 x2 (x7 ++ [t658]) (wrap64 (x9 + 1))) else (none)))) else (some x7)
def cj.f (k : Nat) (a0 : ByteArray) (a1 : Int) (a2 : Bool) : Option ((List (List Int))) := cj.l0 k a0 a1 a2 ([] : List (List Int)) 0
theorem cj.mono_l : ∀ k, (∀ y0 y1 y2 y3 y4, LeO (cj.l0 k y0 y1 y2 y3 y4) (cj.l0 (k + 1) y0 y1 y2 y3 y4))
 | 0 => fun _ _ _ _ _ r h => by simp [cj.l0] at h
 | k + 1 => by
  have ih0 := cj.mono_l k
  intros; unfold cj.l0; exact o2_ ih0 ar.mono
theorem cj.mono : ∀ a0 a1 a2 k, LeO (cj.f k a0 a1 a2) (cj.f (k + 1) a0 a1 a2) := by
 intro a0 a1 a2 k
 have ih0 := cj.mono_l k
 unfold cj.f
 exact o2_ ih0 ar.mono
theorem cj.calls (k : Nat) (a0 : ByteArray) (a1 : Int) (a2 : Bool) (r : List (List Int)) (w : World) (h : cj.f k a0 a1 a2 = some r) :
  Calls Tryz.prog 36 #[.string a0, .int .i64 a1, .bool a2] w fun e w' => ∃ M0 : Value, e = .returned (M0) ∧ Kd.S (Kd.slice 3 (Kd.int .i64)) 33 w' w.heap.size (fun _ => True) M0 r ∧ Below w.heap.size w w' := by
 have HB := c_ (Da w.heap.size w)
 delta cj.f at h
 have H := h
 clear h
 have H' := c_ H
 clear H
 go_enter Tryz.func36, Tryz.ntmps36
 go_wp2
 go_loopg [7, 9] k (fun kq v7 v9 w' => ∃ (d0 : List (List Int)) (j0 : Int), v9 = .int .i64 j0 ∧ aa (cj.l0 kq a0 a1 a2 d0 j0 = some r) ∧ aa (kq ≤ k) ∧ aa (Kd.S (Kd.slice 3 (Kd.int .i64)) 33 w' w.heap.size (fun _ => True) v7 d0) ∧ aa (Below w.heap.size w w'))
 case atStart => exact ⟨(([] : List (List Int))), (0), f0_, H', ⟨Ca _⟩, ⟨by first | exact vC _ _ _ _ _ | exact Kd.N_nil _ _ _ _ _ | exact Kd.V_nil _ _ _ _ _ | exact Kd.Q_nil _ _ _ _ _ | exact vB _ _ _ _ _⟩, ⟨hB_⟩⟩
 clear H'
 obtain ⟨d0, j0, rfl, HA, F0, b0, HB⟩ := hrel
 rcases gk with _ | k1
 ·exact absurd HA.o (by simp [cj.l0])
 have H := HA.o
 clear HA
 simp only [cj.l0] at H
 by_cases c4 : j0 < 2
 rotate_left
 ·rw [Ga c4] at H
  have G0 := za c4
  clear c4
  obtain rfl := Ba H
  go_wp2
  go_ret
  exact ⟨_, f1_, by refine kS_ ?_; exact b0.o, hB_⟩
 rw [Fa c4] at H
 have G0 := ya c4
 clear c4
 by_cases c5 : a2 = true
 ·subst c5
  replace H := iT_ H
  obtain ⟨p0, A6, H⟩ := bN_ H
  obtain ⟨c7, H⟩ := iN_ H
  have H0 := c_ c7
  clear c7
  obtain ⟨I0, e0⟩ : ∃ y_ : List (List Int), y_ = (d0 ++ [p0]) := ⟨_, rfl⟩
  first | replace H := yb_ e0 H | rw [← e0] at H
  have r0 := c_ e0
  clear e0
  have H' := c_ H
  clear H
  go_wp2_with (first | (refine gR_ (k_ 17 Tryz.func71) (ar.calls _ _ _ _ _ _ A6.o) fun O0 w8 ho_ hb => ?_; obtain ⟨b0, k0, HB⟩ := n_ (dr b0) <| n_ (lR_ ho_) <| sB_; obtain ⟨t0, v0, J0⟩ := uV k0.o; subst J0) | ((refine cr (b := .append) (xs := #[.tmp 13, .tmp 18]) rfl ?_); at_builtin; refine vu (Kd.slice 3 (Kd.int .i64)) (w0 := w) w.heap.size rfl (.tmp 13) (.tmp 18) 44 33 (.slice none 0 0) 24 rfl Tryz.underlying44 gu rfl (by decide) (by omega) u7 d0 p0 [.slice t0 p0.length v0] (fun _ => True) (fun k_ => some k_ = (.slice t0 p0.length v0 : Value).ownBlock) rfl rfl ?aP (fun k_ hk_ => ((uW (ok' := fun k_ => ((fun _ => True)) k_ ∧ some k_ ≠ (u7 : Value).ownBlock) (va (k0.o) (ve b0.o) (by decide)) (fun k_ hk => ⟨trivial, hk.2⟩))).1 k_ hk_.symm) ?aF ?aO ?aB ?aS ?aL ?_; (case aP => exact vY (uW (vx rfl (uW (ok' := fun k_ => ((fun _ => True)) k_ ∧ some k_ ≠ (u7 : Value).ownBlock) (va (k0.o) (ve b0.o) (by decide)) (fun k_ hk => ⟨trivial, hk.2⟩))) (fun _ h_ => h_))); (case aB => exact (hB_)); (case aF => exact (fun _ _ => trivial)); (case aO => exact (by refine kS_ ?_; exact vi b0.o (fun k_ hk => ⟨trivial, fun e_ => hk.2 e_⟩))); (case aS => exact (av (hB_))); (case aL => have := H0.o; omega); intro P0 w9 ho hb hg hat; rw [← r0.o] at ho; obtain ⟨HB, x0⟩ := b_ (hb) <| c_ (ho); clear ho hb hg hat))
  go_roundg k1
  case measure => have := F0.o; omega
  case rel => exact ⟨(I0), (wrap64 (j0 + 1)), f0_, H', ⟨by have := F0.o; omega⟩, ⟨rS_ x0.o⟩, ⟨hB_⟩⟩
 ·replace c5 := Ea c5
  subst c5
  replace H := iF_ H
  obtain ⟨q0, Q0, H⟩ := bN_ H
  obtain ⟨N0, H⟩ := iN_ H
  have y0 := c_ N0
  clear N0
  obtain ⟨K0, f0⟩ : ∃ y_ : List (List Int), y_ = (d0 ++ [q0]) := ⟨_, rfl⟩
  first | replace H := yb_ f0 H | rw [← f0] at H
  have B0 := c_ f0
  clear f0
  have H' := c_ H
  clear H
  go_wp2_with (first | (refine gR_ (k_ 24 Tryz.func71) (ar.calls _ _ _ _ _ _ Q0.o) fun R0 T0 ho_ hb => ?_; obtain ⟨b0, n0, HB⟩ := n_ (dr b0) <| n_ (lR_ ho_) <| sB_; obtain ⟨C0, D0, L0⟩ := uV n0.o; subst L0) | ((refine cr (b := .append) (xs := #[.tmp 20, .tmp 25]) rfl ?_); at_builtin; refine vu (Kd.slice 3 (Kd.int .i64)) (w0 := w) w.heap.size rfl (.tmp 20) (.tmp 25) 44 33 (.slice none 0 0) 24 rfl Tryz.underlying44 gu rfl (by decide) (by omega) u7 d0 q0 [.slice C0 q0.length D0] (fun _ => True) (fun k_ => some k_ = (.slice C0 q0.length D0 : Value).ownBlock) rfl rfl ?aP (fun k_ hk_ => ((uW (ok' := fun k_ => ((fun _ => True)) k_ ∧ some k_ ≠ (u7 : Value).ownBlock) (va (n0.o) (ve b0.o) (by decide)) (fun k_ hk => ⟨trivial, hk.2⟩))).1 k_ hk_.symm) ?aF ?aO ?aB ?aS ?aL ?_; (case aP => exact vY (uW (vx rfl (uW (ok' := fun k_ => ((fun _ => True)) k_ ∧ some k_ ≠ (u7 : Value).ownBlock) (va (n0.o) (ve b0.o) (by decide)) (fun k_ hk => ⟨trivial, hk.2⟩))) (fun _ h_ => h_))); (case aB => exact (hB_)); (case aF => exact (fun _ _ => trivial)); (case aO => exact (by refine kS_ ?_; exact vi b0.o (fun k_ hk => ⟨trivial, fun e_ => hk.2 e_⟩))); (case aS => exact (av (hB_))); (case aL => have := y0.o; omega); intro S0 U0 ho hb hg hat; rw [← B0.o] at ho; obtain ⟨HB, E0⟩ := b_ (hb) <| c_ (ho); clear ho hb hg hat))
  go_roundg k1
  case measure => have := F0.o; omega
  case rel => exact ⟨(K0), (wrap64 (j0 + 1)), f0_, H', ⟨by have := F0.o; omega⟩, ⟨rS_ E0.o⟩, ⟨hB_⟩⟩
mutual
def aE.j0 : Nat → ByteArray → ByteArray → ByteArray → Bool → Option (ByteArray × Bool)
 | 0, _, _, _, _ => none
 | k + 1, x0, x1, x2, x29 => if x29 = true then (some ((⟨#[]⟩ : ByteArray), false)) else ((bp.f k x0).bind fun bt679 => (if 768 ≤ (x0.size : Int) then ((bN.f k x2 0).bind fun t683 => ((cg.f k t683).bind fun t686 => ((bN.f k x2 2).bind fun t689 => (aE.l0 k x1 x2 bt679.1 (x0.extract 768 x0.size) t686 t689 (⟨#[]⟩ : ByteArray) 0)))) else (none)))
def aE.l0 : Nat → ByteArray → ByteArray → List (List Int) → ByteArray → List (List Int) → List (List Int) → ByteArray → Int → Option (ByteArray × Bool)
 | 0, _, _, _, _, _, _, _, _ => none
 | k + 1, x1, x2, x8, x10, x11, x12, x13, x42 => if x42 < 2 then ((cj.f k x10 x42 true).bind fun t692 => ((bP.f k t692 x11).bind fun t695 => ((ah.f k t695).bind fun t698 => (if 0 ≤ x42 then (if x42 < (x12.length : Int) then ((bV.f k t698 (dV x12 x42)).bind fun t702 => ((bs.f k t702 10).bind fun t705 => ((aA.f k t705 10).bind fun t708 => (if x13.size + t708.size ≤ 9223372036854775807 then (aE.l0 k x1 x2 x8 x10 x11 x12 (x13 ++ t708) (wrap64 (x42 + 1))) else (none))))) else (none)) else (none))))) else ((bP.f k x8 x11).bind fun t709 => ((ah.f k t709).bind fun t712 => ((bR.f k x2 4).bind fun t715 => ((bV.f k t712 t715).bind fun t718 => ((bJ.f k x1).bind fun t721 => ((bV.f k t718 t721).bind fun t724 => ((bs.f k t724 4).bind fun t727 => ((aA.f k t727 4).bind fun t730 => (if x13.size + t730.size ≤ 9223372036854775807 then (some (x13 ++ t730, true)) else (none))))))))))
end
def aE.f (k : Nat) (a0 : ByteArray) (a1 : ByteArray) (a2 : ByteArray) : Option (ByteArray × Bool) := (cB.f k a0).bind fun t678 => (if t678 = true then (if (a1.size : Int) = 32 then (aE.j0 k a0 a1 a2 ((a2.size : Int) != 32)) else (aE.j0 k a0 a1 a2 true)) else (aE.j0 k a0 a1 a2 true))
theorem aE.mono_l : ∀ k, (∀ y0 y1 y2 y3, LeO (aE.j0 k y0 y1 y2 y3) (aE.j0 (k + 1) y0 y1 y2 y3)) ∧ (∀ y0 y1 y2 y3 y4 y5 y6 y7, LeO (aE.l0 k y0 y1 y2 y3 y4 y5 y6 y7) (aE.l0 (k + 1) y0 y1 y2 y3 y4 y5 y6 y7))
 | 0 => ⟨fun _ _ _ _ r h => by simp [aE.j0] at h, fun _ _ _ _ _ _ _ _ r h => by simp [aE.l0] at h⟩
 | k + 1 => by
  obtain ⟨ih0, ih1⟩ := aE.mono_l k
  refine ⟨?_, ?_⟩ <;> (intros; (first | unfold aE.j0 | unfold aE.l0); exact sL ih0 ih1 ah.mono bV.mono cB.mono bR.mono bJ.mono bP.mono cg.mono aA.mono bp.mono cj.mono bN.mono bs.mono)
theorem aE.mono : ∀ a0 a1 a2 k, LeO (aE.f k a0 a1 a2) (aE.f (k + 1) a0 a1 a2) := by
 intro a0 a1 a2 k
 obtain ⟨ih0, ih1⟩ := aE.mono_l k
 unfold aE.f
 exact sL ih0 ih1 ah.mono bV.mono cB.mono bR.mono bJ.mono bP.mono cg.mono aA.mono bp.mono cj.mono bN.mono bs.mono
def aE.T10 : Bool × List (List Nat × List Nat) := (true, [([], []), ([], []), ([0, 1], [0, 1]), ([], []), ([2, 3, 2], [2, 3]), ([4, 4], [4]), ([], []), ([], []), ([6, 7], [6, 7]), ([8], [8]), ([5, 9, 5], [5, 9]), ([10, 10, 0, 1, 2, 3, 4, 5, 6, 7, 8, 9, 10], [10])])
def aE.B10 : List Nat := [0, 0, 3, 0, 15, 31, 0, 0, 192, 448, 1023, 2047]
theorem aE.tab10 : eH .any (fJ Tryz.f12 10) = aE.T10 := by kernel_rfl
theorem aE.bits10 : dw aE.T10.2 aE.B10 = true := by kernel_rfl
theorem aE.calls (k : Nat) (a0 : ByteArray) (a1 : ByteArray) (a2 : ByteArray) (r1 : ByteArray) (r2 : Bool) (w : World) (h : aE.f k a0 a1 a2 = some (r1, r2)) :
  Calls Tryz.prog 12 #[.string a0, .string a1, .string a2] w fun e w' => e = .returned (.tuple #[.string r1, .bool r2]) ∧ Below w.heap.size w w' := by
 have HB := c_ (Da w.heap.size w)
 delta aE.f at h
 have H := h
 clear h
 have A1 := c_ H
 clear H
 go_enter Tryz.func12, Tryz.ntmps12
 go_upto_region 1 with (fail)
 go_cut [29] (fun C2 wc => ∃ (kq : Nat) (N0 : Bool), C2 = .bool N0 ∧ aa (aE.j0 kq a0 a1 a2 N0 = some (r1, r2)) ∧ aa (kq ≤ k) ∧ aa (Below w.heap.size w wc))
 case first =>
  have H := A1.o
  clear A1
  obtain ⟨B1, A5, H⟩ := bN_ H
  by_cases c6 : B1 = true
  ·subst c6
   replace H := iT_ H
   by_cases c7 : (a1.size : Int) = 32
   ·rw [Fa c7] at H
    have R0 : ((a1.size : Int) == 32) = true := beq_iff_eq.mpr c7
    have C1 : ((a1.size : Int) != 32) = false := bne_eq_false_iff_eq.mpr c7
    clear c7
    (first | rw [R0] | (simp only [bB, cG]; rw [R0]) | skip)
    have H' := c_ H
    clear H
    go_wp2_with (first | (refine gb_ (k_ 18 Tryz.func29) (cB.calls _ _ _ _ A5.o) fun w8 HB => ?_))
    go_meet
    case rel => exact ⟨_, (((a2.size : Int) != 32)), f0_, H', ⟨by first | omega | exact Ca _⟩, ⟨hB_⟩⟩
   rw [Ga c7] at H
   have R0 : ((a1.size : Int) == 32) = false := beq_eq_false_iff_ne.mpr c7
   have C1 : ((a1.size : Int) != 32) = true := bne_iff_ne.mpr c7
   (first | rw [R0] | (simp only [bB, cG]; rw [R0]) | skip)
   have H' := c_ H
   clear H
   go_wp2_with (first | (refine gb_ (k_ 18 Tryz.func29) (cB.calls _ _ _ _ A5.o) fun w9 HB => ?_))
   go_meet
   case rel => exact ⟨_, (true), f0_, H', ⟨by first | omega | exact Ca _⟩, ⟨hB_⟩⟩
  ·replace c6 := Ea c6
   subst c6
   replace H := iF_ H
   have H' := c_ H
   clear H
   go_wp2_with (first | (refine gb_ (k_ 18 Tryz.func29) (cB.calls _ _ _ _ A5.o) fun i4 HB => ?_))
   go_meet
   case rel => exact ⟨_, (true), f0_, H', ⟨by first | omega | exact Ca _⟩, ⟨hB_⟩⟩
 clear A1
 obtain ⟨kq, N0, rfl, HA, i2, HB⟩ := hcut
 rcases kq with _ | j2
 ·exact absurd HA.o (by simp [aE.j0])
 have H := HA.o
 clear HA
 simp only [aE.j0] at H
 by_cases z1 : N0 = true
 ·subst z1
  replace H := iT_ H
  simp only [Option.some.injEq, Prod.mk.injEq] at H
  obtain ⟨rfl, rfl⟩ := H
  go_wp2
  go_ret2
  exact ⟨f1_, hB_⟩
 ·replace z1 := Ea z1
  subst z1
  replace H := iF_ H
  obtain ⟨⟨g1, D2⟩, E2, H⟩ := bN_ H
  obtain ⟨D1, H⟩ := iN_ H
  have l2 := Aa D1
  have m2 := ya D1
  clear D1
  obtain ⟨F2, G2, H⟩ := bN_ H
  obtain ⟨U0, H2, H⟩ := bN_ H
  obtain ⟨M0, I2, H⟩ := bN_ H
  have H' := c_ H
  clear H
  go_wp2_with (first | (refine gR_ (k_ 32 Tryz.func30) (bp.calls _ _ _ _ _ E2.o) fun Y0 l4 ho_ hb => ?_; obtain ⟨C0, HB⟩ := n_ (lS_ ho_) <| sB_) | (refine gR_ (k_ 38 Tryz.func32) (bN.calls _ _ _ _ _ G2.o) fun J2 n4 ho_ hb => ?_; obtain ⟨C0, D0, HB⟩ := n_ (qU C0) <| n_ (lS_ (rh ho_ C0)) <| sB_; obtain ⟨K2, L2, E1⟩ := vy D0.o; subst E1) | (refine gR_ (k_ 39 Tryz.func31) (cg.calls _ _ _ _ _ _ (cR_ (vf D0.o).2.2) ((vf D0.o).2.1) H2.o) fun Z0 q4 ho_ hb => ?_; obtain ⟨C0, D0, O0, HB⟩ := n_ (qU C0) <| n_ (qU D0) <| n_ (lS_ (rh (rh ho_ C0) D0)) <| sB_) | (refine gR_ (k_ 41 Tryz.func32) (bN.calls _ _ _ _ _ I2.o) fun b1 t4 ho_ hb => ?_; obtain ⟨C0, D0, O0, i1, HB⟩ := n_ (qU C0) <| n_ (qU D0) <| n_ (qU O0) <| n_ (lS_ (rh (rh (rh ho_ C0) D0) O0)) <| sB_))
  go_loopg [13, 42] j2 (fun kq M2 N2 w' => ∃ (I0 : ByteArray) (r0 : Int), M2 = .string I0 ∧ N2 = .int .i64 r0 ∧ aa (aE.l0 kq a1 a2 g1 (a0.extract 768 a0.size) U0 M0 I0 r0 = some (r1, r2)) ∧ aa (kq ≤ j2) ∧ aa (Kd.S (Kd.slice 3 (Kd.int .i64)) 33 w' w.heap.size (fun k_ => some k_ ≠ (Z0 : Value).ownBlock ∧ some k_ ≠ (b1 : Value).ownBlock) Y0 g1) ∧ aa (Kd.S (Kd.slice 3 (Kd.int .i64)) 33 w' w.heap.size (fun k_ => some k_ ≠ (Y0 : Value).ownBlock ∧ some k_ ≠ (b1 : Value).ownBlock) Z0 U0) ∧ aa (Kd.S (Kd.slice 3 (Kd.int .i64)) 33 w' w.heap.size (fun k_ => some k_ ≠ (Y0 : Value).ownBlock ∧ some k_ ≠ (Z0 : Value).ownBlock) b1 M0) ∧ aa (Below w.heap.size w w'))
  case atStart => exact ⟨((⟨#[]⟩ : ByteArray)), (0), f0_, f0_, H', ⟨Ca _⟩, ⟨by refine kS_ ?_; exact vi C0.o (fun _ hk => ⟨hk.1.2, hk.2⟩)⟩, ⟨by refine kS_ ?_; exact vi O0.o (fun _ hk => ⟨hk.1.1.2, hk.2⟩)⟩, ⟨by refine kS_ ?_; exact vi i1.o (fun _ hk => ⟨hk.1.1.2, hk.2⟩)⟩, ⟨hB_⟩⟩
  clear H'
  obtain ⟨I0, r0, rfl, rfl, HA, n2, k0, b0, d0, HB⟩ := hrel
  rcases gk with _ | k2
  ·exact absurd HA.o (by simp [aE.l0])
  have H := HA.o
  clear HA
  simp only [aE.l0] at H
  by_cases f1 : r0 < 2
  rotate_left
  ·rw [Ga f1] at H
   have j1 := za f1
   clear f1
   obtain ⟨O2, P2, H⟩ := bN_ H
   obtain ⟨Q2, R2, H⟩ := bN_ H
   obtain ⟨T2, U2, H⟩ := bN_ H
   obtain ⟨V2, X2, H⟩ := bN_ H
   obtain ⟨Y2, Z2, H⟩ := bN_ H
   obtain ⟨b3, c3, H⟩ := bN_ H
   obtain ⟨e3, f3, H⟩ := bN_ H
   obtain ⟨F1, g3, H⟩ := bN_ H
   obtain ⟨G1, H⟩ := iN_ H
   have p2 := Aa G1
   have q2 := ya G1
   try have t2 : (9223372036854775807 < I0.size + F1.size) = False := eq_false (Nat.not_lt.2 G1)
   simp only [Option.some.injEq, Prod.mk.injEq] at H
   obtain ⟨rfl, rfl⟩ := H
   obtain ⟨i3, l3, H1⟩ := vy k0.o
   subst H1
   obtain ⟨m3, n3, I1⟩ := vy b0.o
   subst I1
   go_wp2_with (first | (refine gR_ (k_ 64 Tryz.func35) (bP.calls _ _ _ _ _ _ _ _ _ (cR_ (vf k0.o).2.2) ((vf k0.o).2.1) (cR_ (vf b0.o).2.2) ((vf b0.o).2.1) P2.o) fun p3 v4 ho_ hb => ?_; obtain ⟨k0, b0, d0, n0, HB⟩ := n_ (dr k0) <| n_ (dr b0) <| n_ (dr d0) <| n_ (lR_ ho_) <| sB_; obtain ⟨q3, r3, J1⟩ := uV n0.o; subst J1) | (refine gR_ (k_ 65 Tryz.func34) (ah.calls _ _ _ _ _ _ (cR_ (uU n0.o).2.2) ((uU n0.o).2.1) R2.o) fun t3 w4 ho_ hb => ?_; obtain ⟨k0, b0, d0, n0, p0, HB⟩ := n_ (dr k0) <| n_ (dr b0) <| n_ (dr d0) <| n_ (cJ n0) <| n_ (lR_ (cN ho_ n0)) <| sB_) | (refine gR_ (k_ 67 Tryz.func39) (bR.calls _ _ _ _ _ U2.o) fun v3 y4 ho_ hb => ?_; obtain ⟨k0, b0, d0, n0, p0, q0, HB⟩ := n_ (dr k0) <| n_ (dr b0) <| n_ (dr d0) <| n_ (cJ n0) <| n_ (cJ p0) <| n_ (lR_ (cN (cN ho_ n0) p0)) <| sB_; obtain ⟨w3, y3, K1⟩ := uV p0.o; subst K1; obtain ⟨z3, A3, L1⟩ := uV q0.o; subst L1) | (refine gR_ (k_ 68 Tryz.func33) (bV.calls _ _ _ _ _ _ _ _ _ (cR_ (uU p0.o).2.2) ((uU p0.o).2.1) (cR_ (uU q0.o).2.2) ((uU q0.o).2.1) X2.o) fun B3 z4 ho_ hb => ?_; obtain ⟨k0, b0, d0, n0, p0, q0, t0, HB⟩ := n_ (dr k0) <| n_ (dr b0) <| n_ (dr d0) <| n_ (cJ n0) <| n_ (cJ p0) <| n_ (cJ q0) <| n_ (lR_ (cN (cN (cN ho_ n0) p0) q0)) <| sB_) | (refine gR_ (k_ 70 Tryz.func40) (bJ.calls _ _ _ _ Z2.o) fun C3 A4 ho_ hb => ?_; obtain ⟨k0, b0, d0, n0, p0, q0, t0, y0, HB⟩ := n_ (dr k0) <| n_ (dr b0) <| n_ (dr d0) <| n_ (cJ n0) <| n_ (cJ p0) <| n_ (cJ q0) <| n_ (cJ t0) <| n_ (lR_ (cN (cN (cN (cN ho_ n0) p0) q0) t0)) <| sB_; obtain ⟨D3, E3, M1⟩ := uV t0.o; subst M1; obtain ⟨F3, G3, N1⟩ := uV y0.o; subst N1) | (refine gR_ (k_ 71 Tryz.func33) (bV.calls _ _ _ _ _ _ _ _ _ (cR_ (uU t0.o).2.2) ((uU t0.o).2.1) (cR_ (uU y0.o).2.2) ((uU y0.o).2.1) c3.o) fun H3 B4 ho_ hb => ?_; obtain ⟨k0, b0, d0, n0, p0, q0, t0, y0, G0, HB⟩ := n_ (dr k0) <| n_ (dr b0) <| n_ (dr d0) <| n_ (cJ n0) <| n_ (cJ p0) <| n_ (cJ q0) <| n_ (cJ t0) <| n_ (cJ y0) <| n_ (lR_ (cN (cN (cN (cN (cN ho_ n0) p0) q0) t0) y0)) <| sB_; obtain ⟨I3, J3, O1⟩ := uV G0.o; subst O1) | (refine gR_ (k_ 74 Tryz.func38) (bs.calls _ _ _ _ _ _ _ (cR_ (uU G0.o).2.2) ((uU G0.o).2.1) f3.o) fun K3 C4 ho_ hb => ?_; obtain ⟨k0, b0, d0, n0, p0, q0, t0, y0, G0, K0, HB⟩ := n_ (dr k0) <| n_ (dr b0) <| n_ (dr d0) <| n_ (cJ n0) <| n_ (cJ p0) <| n_ (cJ q0) <| n_ (cJ t0) <| n_ (cJ y0) <| n_ (cJ G0) <| n_ (lR_ (cN (cN (cN (cN (cN (cN ho_ n0) p0) q0) t0) y0) G0)) <| sB_; obtain ⟨L3, M3, P1⟩ := uV K0.o; subst P1) | (refine gc_ (k_ 75 Tryz.func37) (aA.calls _ _ _ _ _ _ _ (cR_ (uU K0.o).2.2) ((uU K0.o).2.1) g3.o) fun D4 hb => ?_; obtain ⟨k0, b0, d0, n0, p0, q0, t0, y0, G0, K0, HB⟩ := n_ (fS_ k0) <| n_ (fS_ b0) <| n_ (fS_ d0) <| n_ (fR_ n0) <| n_ (fR_ p0) <| n_ (fR_ q0) <| n_ (fR_ t0) <| n_ (fR_ y0) <| n_ (fR_ G0) <| n_ (fR_ K0) <| sB_))
   go_ret2
   exact ⟨f1_, hB_⟩
  rw [Fa f1] at H
  have j1 := ya f1
  clear f1
  obtain ⟨c1, N3, H⟩ := bN_ H
  obtain ⟨d1, O3, H⟩ := bN_ H
  obtain ⟨e1, P3, H⟩ := bN_ H
  obtain ⟨v2, H⟩ := iD_ H
  obtain ⟨y2, H⟩ := iD_ H
  obtain ⟨Q1, Q3, H⟩ := bN_ H
  obtain ⟨R3, S3, H⟩ := bN_ H
  obtain ⟨l1, T3, H⟩ := bN_ H
  obtain ⟨R1, H⟩ := iN_ H
  have z2 := Aa R1
  have A2 := ya R1
  try have B2 : (9223372036854775807 < I0.size + l1.size) = False := eq_false (Nat.not_lt.2 R1)
  have H' := c_ H
  clear H
  try go_wp2
  obtain ⟨k0, b0, d0, HB⟩ := b_ (vM k0.o) <| b_ (vM b0.o) <| b_ (vM d0.o) <| c_ (bE HB.o)
  obtain ⟨U3, V3, m1⟩ := vy d0.o
  (first | subst m1 | (injection m1 with f1_ f2_ f3_; have f4_ := f1_.symm; have f5_ := f3_.symm; clear f1_ f2_ f3_; subst f4_; subst f5_))
  have V0 : 0 ≤ (r0 : Int) := oD_
  have W0 : r0 < (M0.length : Int) := oD_
  obtain ⟨n1, S0, T0, S1, J0, P0, Q0⟩ := mr (vf d0.o).2.2 r0 V0 W0
  cases S1
  obtain ⟨ce701, hce701, hMe701, hcc701⟩ := xQ d0.o [] r0 V0 (by first | exact W0 | exact oD_ | (have e_ := (vf d0.o).1; omega))
  obtain ⟨ve701_0, rfl, ge701_0⟩ := hMe701
  have E0 := hcc701 0 _ rfl
  rw [Nat.add_zero, show ((Kd.slice 3 (Kd.int .i64))).sz = 1 from rfl, Nat.mul_one] at E0
  replace E0 := Ba (E0.symm.trans J0)
  rw [E0] at ge701_0
  have e0 := c_ (show Kd.R (Kd.int .i64) 3 _ _ _ _ (dV M0 r0) from ge701_0)
  clear E0 ge701_0
  clear hcc701 hce701
  have f0 := c_ Q0
  have X0 := c_ P0
  clear Q0 P0
  replace V0 := Aa V0
  replace W0 := Aa W0
  refine eI (n := 12) (S := fun w' => w'.cell? (n1.add (r0).toNat) = some (.slice S0 (dV M0 r0).length T0)) (ds := []) (bb_ 12 0) (by kernel_rfl) rfl rfl (J0) (fun hHeld => ?_); refine cW aE.tab10 aE.bits10 (fun HT_ HW_ => ?_)
  generalize wr.drew = E4 at k0 b0 d0 HB e0 f0 J0 hHeld ⊢
  refine pT_ 0 45 12 1 ?_
  refine pT_ 1 46 12 3 ?_
  refine pT_ 3 48 12 11 ?_
  refine pT_ 6 51 12 75 ?_
  refine pT_ 7 52 12 203 ?_
  refine pT_ 8 53 12 459 ?_
  refine tS_ 9 54 (bb_ 12 971) (bF HT_.o HW_.o (by kernel_rfl)) hHeld ?_
  refine gh (i := 2) (N := some 47) (bb_ 12 975) rfl rfl (cO HT_.o (by kernel_rfl)) (by decide) (fun K hK => ?_)
  refine fX Tryz.func36 (by kernel_rfl) rfl #[.string (a0.extract 768 a0.size), .int .i64 r0, .bool true] (by rfl) rfl rfl aM_ ?_
  with_reducible refine (cj.calls k2 (a0.extract 768 a0.size) r0 true c1 _ N3.o).mono ?_
  rintro e F4 ⟨W3, rfl, F0, hb⟩
  have HS0_ := (hb.cell (World.block_lt_of_cell? _ _ (hHeld))).trans (hHeld)
  refine ⟨_, rfl, ?_⟩
  obtain ⟨k0, b0, d0, e0, x0, f0, HB⟩ := b_ (vc (rS_ k0.o) (vT F0) hb) <| b_ (vc (rS_ b0.o) (vT F0) hb) <| b_ (vc (rS_ d0.o) (vT F0) hb) <| n_ (fR_ e0) <| b_ (vI (vN (vN (vN (vN F0 (wV (rS_ k0.o))) (wV (rS_ b0.o))) (wV (rS_ d0.o))) (vF (rR_ e0.o))) (av (hB_))) <| n_ (fC_ f0) <| sB_
  obtain ⟨T1, U1, p1⟩ := vy x0.o
  (first | subst p1 | (injection p1 with f1_ f2_ f3_; have f4_ := f1_.symm; have f5_ := f3_.symm; clear f1_ f2_ f3_; subst f4_; subst f5_))
  obtain ⟨V1, X1, q1⟩ := vy b0.o
  (first | subst q1 | (injection q1 with f1_ f2_ f3_; have f4_ := f1_.symm; have f5_ := f3_.symm; clear f1_ f2_ f3_; subst f4_; subst f5_))
  refine hK _ _ (HS0_) (fun hHeld => ?_)
  clear hK K
  refine er (a' := ?_) ?_ ?_
  rotate_left
  ·show Act.put _ (some 47) _ = _
   simp only [Act.put, List.setIfInBounds_toArray, List.set_cons_zero, List.set_cons_succ, bB, cG]
   rfl
  refine gh (i := 4) (N := some 49) (bb_ 12 991) rfl rfl (cO HT_.o (by kernel_rfl)) (by decide) (fun K hK => ?_)
  refine fX Tryz.func35 (by kernel_rfl) rfl #[.slice T1 c1.length U1, .slice V1 U0.length X1] (by rfl) rfl rfl aM_ ?_
  with_reducible refine (bP.calls k2 _ _ c1 _ _ U0 d1 _ ?side1 ?side2 ?side3 ?side4 O3.o).mono ?_
  (case side1 => exact cR_ (vf x0.o).2.2)
  (case side2 => exact (vf x0.o).2.1)
  (case side3 => exact cR_ (vf b0.o).2.2)
  (case side4 => exact (vf b0.o).2.1)
  rintro e G4 ⟨X3, rfl, F0, hb⟩
  have HS0_ := (hb.cell (World.block_lt_of_cell? _ _ (hHeld))).trans (hHeld)
  refine ⟨_, rfl, ?_⟩
  obtain ⟨k0, b0, d0, e0, x0, v0, f0, HB⟩ := b_ (vc (rS_ k0.o) (vd F0) hb) <| b_ (vc (rS_ b0.o) (vd F0) hb) <| b_ (vc (rS_ d0.o) (vd F0) hb) <| b_ (vg (rR_ e0.o) (vd F0) hb) <| b_ (vc (rS_ x0.o) (vd F0) hb) <| b_ (uY (vq F0 (vF (rR_ e0.o))) (av (hB_))) <| n_ (fC_ f0) <| sB_
  obtain ⟨Y1, Z1, t1⟩ := uV v0.o
  (first | subst t1 | (injection t1 with f1_ f2_ f3_; have f4_ := f1_.symm; have f5_ := f3_.symm; clear f1_ f2_ f3_; subst f4_; subst f5_))
  refine hK _ _ (HS0_) (fun hHeld => ?_)
  clear hK K
  refine er (a' := ?_) ?_ ?_
  rotate_left
  ·show Act.put _ (some 49) _ = _
   simp only [Act.put, List.setIfInBounds_toArray, List.set_cons_zero, List.set_cons_succ, bB, cG]
   rfl
  refine gh (i := 5) (N := some 50) (bb_ 12 1023) rfl rfl (cO HT_.o (by kernel_rfl)) (by decide) (fun K hK => ?_)
  refine fX Tryz.func34 (by kernel_rfl) rfl #[.slice Y1 d1.length Z1] (by rfl) rfl rfl aM_ ?_
  with_reducible refine (ah.calls k2 _ _ d1 e1 _ ?side1 ?side2 P3.o).mono ?_
  (case side1 => exact cR_ (uU v0.o).2.2)
  (case side2 => exact (uU v0.o).2.1)
  rintro e H4 ⟨Y3, rfl, F0, hb⟩
  have HS0_ := (hb.cell (World.block_lt_of_cell? _ _ (hHeld))).trans (hHeld)
  refine ⟨_, rfl, ?_⟩
  obtain ⟨k0, b0, d0, e0, x0, v0, B0, f0, HB⟩ := b_ (vc (rS_ k0.o) (vd F0) hb) <| b_ (vc (rS_ b0.o) (vd F0) hb) <| b_ (vc (rS_ d0.o) (vd F0) hb) <| b_ (vg (rR_ e0.o) (vd F0) hb) <| b_ (vc (rS_ x0.o) (vd F0) hb) <| b_ (vg (rR_ v0.o) (vd F0) hb) <| b_ (uY (vq (vq F0 (vF (rR_ e0.o))) (vF (rR_ v0.o))) (av (hB_))) <| n_ (fC_ f0) <| sB_
  obtain ⟨b2, c2, y1⟩ := uV B0.o
  (first | subst y1 | (injection y1 with f1_ f2_ f3_; have f4_ := f1_.symm; have f5_ := f3_.symm; clear f1_ f2_ f3_; subst f4_; subst f5_))
  refine hK _ _ (HS0_) (fun hHeld => ?_)
  clear hK K
  refine er (a' := ?_) ?_ ?_
  rotate_left
  ·show Act.put _ (some 50) _ = _
   simp only [Act.put, List.setIfInBounds_toArray, List.set_cons_zero, List.set_cons_succ, bB, cG]
   rfl
  refine gh (i := 10) (N := some 55) (bb_ 12 2047) rfl rfl (cO HT_.o (by kernel_rfl)) (by decide) (fun K hK => ?_)
  refine fX Tryz.func33 (by kernel_rfl) rfl #[.slice b2 e1.length c2, .slice S0 (dV M0 r0).length T0] (by rfl) rfl rfl aM_ ?_
  with_reducible refine (bV.calls k2 _ _ e1 _ _ (dV M0 r0) Q1 _ ?side1 ?side2 ?side3 ?side4 Q3.o).mono ?_
  (case side1 => exact cR_ (uU B0.o).2.2)
  (case side2 => exact (uU B0.o).2.1)
  (case side3 => repeat (first | exact (by repeat (first | (with_reducible exact f0.o) | (with_reducible refine Kd.C_alloc ?_ _) | (with_reducible refine Kd.C_drewN ?_ _) | (with_reducible refine Kd.C_drew ?_) | exact f0.o)) | (with_reducible refine Kd.C_alloc ?_ _) | (with_reducible refine Kd.C_drewN ?_ _) | (with_reducible refine Kd.C_drew ?_)))
  (case side4 => exact X0.o)
  rintro e I4 ⟨Z3, rfl, F0, hb⟩
  have HS0_ := (hb.cell (World.block_lt_of_cell? _ _ (hHeld))).trans (hHeld)
  refine ⟨_, rfl, ?_⟩
  obtain ⟨k0, b0, d0, e0, x0, v0, B0, H0, f0, HB⟩ := b_ (vc (rS_ k0.o) (vd F0) hb) <| b_ (vc (rS_ b0.o) (vd F0) hb) <| b_ (vc (rS_ d0.o) (vd F0) hb) <| b_ (vg (rR_ e0.o) (vd F0) hb) <| b_ (vc (rS_ x0.o) (vd F0) hb) <| b_ (vg (rR_ v0.o) (vd F0) hb) <| b_ (vg (rR_ B0.o) (vd F0) hb) <| b_ (uY (vq (vq (vq F0 (vF (rR_ e0.o))) (vF (rR_ v0.o))) (vF (rR_ B0.o))) (av (hB_))) <| n_ (fC_ f0) <| sB_
  refine hK _ _ (HS0_) (fun hHeld => ?_)
  clear hK K
  refine er (a' := ?_) ?_ ?_
  rotate_left
  ·show Act.put _ (some 55) _ = _
   simp only [Act.put, List.setIfInBounds_toArray, List.set_cons_zero, List.set_cons_succ, bB, cG]
   rfl
  refine pT_ 11 15 12 4095 ?_
  refine fK (dN HT_.o (by kernel_rfl)) ?_
  obtain ⟨b4, c4, f2⟩ := uV H0.o
  subst f2
  try go_wp2_with (first | (refine gR_ (k_ 58 Tryz.func38) (bs.calls _ _ _ _ _ _ _ (cR_ (uU H0.o).2.2) ((uU H0.o).2.1) S3.o) fun e4 J4 ho_ hb => ?_; obtain ⟨k0, b0, d0, e0, x0, v0, B0, H0, L0, f0, HB⟩ := n_ (dr k0) <| n_ (dr b0) <| n_ (dr d0) <| n_ (cJ e0) <| n_ (dr x0) <| n_ (cJ v0) <| n_ (cJ B0) <| n_ (cJ H0) <| n_ (lR_ (cN (cN (cN (cN ho_ e0) v0) B0) H0)) <| n_ (fC_ f0) <| sB_; obtain ⟨f4, g4, g2⟩ := uV L0.o; subst g2) | (refine gc_ (k_ 59 Tryz.func37) (aA.calls _ _ _ _ _ _ _ (cR_ (uU L0.o).2.2) ((uU L0.o).2.1) T3.o) fun K4 hb => ?_; obtain ⟨k0, b0, d0, e0, x0, v0, B0, H0, L0, f0, HB⟩ := n_ (fS_ k0) <| n_ (fS_ b0) <| n_ (fS_ d0) <| n_ (fR_ e0) <| n_ (fS_ x0) <| n_ (fR_ v0) <| n_ (fR_ B0) <| n_ (fR_ H0) <| n_ (fR_ L0) <| n_ (fC_ f0) <| sB_))
  go_roundg k2
  case measure => have := i2.o; have := n2.o; omega
  case rel => exact ⟨(I0 ++ l1), (wrap64 (r0 + 1)), f0_, f0_, H', ⟨by have := i2.o; have := n2.o; omega⟩, ⟨by refine kS_ ?_; exact vi k0.o (fun _ hk => ⟨hk.1.1.1.1.1.1, hk.1.1.1.1.1.2⟩)⟩, ⟨by refine kS_ ?_; exact vi b0.o (fun _ hk => ⟨hk.1.1.1.1.1.1, hk.1.1.1.1.1.2⟩)⟩, ⟨by refine kS_ ?_; exact vi d0.o (fun _ hk => ⟨hk.1.1.1.1.1.1, hk.1.1.1.1.1.2⟩)⟩, ⟨hB_⟩⟩
end Go.Proofs.YtmiackbomcjboaaGreatDoor.P
