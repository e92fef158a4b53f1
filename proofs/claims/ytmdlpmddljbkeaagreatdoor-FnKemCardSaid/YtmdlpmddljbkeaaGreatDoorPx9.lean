-- printed texts of this session, regrouped
import Derived.Test.YtmdlpmddljbkeaaGreatDoorHB4
import Derived.Test.YtmdlpmddljbkeaaGreatDoorPx6
import Derived.Test.YtmdlpmddljbkeaaGreatDoorPx10
namespace Go.Proofs.YtmdlpmddljbkeaaGreatDoor.P
open Go.RowKit YtmdlpmddljbkeaaGreatDoorW.PrintWords YtmdlpmddljbkeaaGreatDoorW.PrintLast YtmdlpmddljbkeaaGreatDoorW.PrintMore
open Kd
attribute [local go_sem] d3 dW eG eI dD dC dZ dY
set_option linter.unusedVariables false
set_option linter.unusedSimpArgs false
set_option maxHeartbeats 8000000
set_option maxRecDepth 100000
def cg.f (k : Nat) (a0 : ByteArray) : Option (ByteArray × Int) := (db.f k a0 168 31).bind fun t286 => (some (t286, 0))
theorem cg.mono : ∀ a0 k, LeO (cg.f k a0) (cg.f (k + 1) a0) := by
 intro a0 k
 unfold cg.f
 exact o1_ db.mono
theorem cg.calls (k : Nat) (a0 : ByteArray) (r1 : ByteArray) (r2 : Int) (w : World) (h : cg.f k a0 = some (r1, r2)) :
  Calls Tryz.prog 93 #[.string a0] w fun e w' => e = .returned (.agg #[.string r1, .int .i64 r2]) ∧ Below w.heap.size w w' := by
 have hu96 := Tryz.underlying96
 have HB := c_ (Da w.heap.size w)
 delta cg.f at h
 have H := h
 clear h
 obtain ⟨e0, A2, H⟩ := bN_ H
 simp only [Option.some.injEq, Prod.mk.injEq] at H
 obtain ⟨rfl, rfl⟩ := H
 go_enter Tryz.func93, Tryz.ntmps93
 go_wp2_with (first | (refine bx_ 2 #[.string (⟨#[]⟩ : ByteArray), .int .i64 0] 96 fun d0 w3 hb HB b0 f0 => ?_) | (refine gc_ (k_ 4 Tryz.func106) (db.calls _ _ _ _ _ _ A2.o) fun w4 hb => ?_; obtain ⟨b0, HB⟩ := n_ (fK_ b0) <| sB_; have j0 : w4.cell? ⟨d0, 0, none⟩ = some (.string (⟨#[]⟩ : ByteArray)) := (ah b0.o 0).trans rfl; have k0 : w4.cell? ⟨d0, 1, none⟩ = some (.int .i64 0) := (ah b0.o 1).trans rfl; have n0 := ae b0.o 0; have p0 := ae b0.o 1))
 refine bodyPost_ret (results_cell_row rfl _ _ d0 96 #[.string e0, .int .i64 0] (0, 0) _ rfl (by refine kK_ ?_; refine bO (cs := #[.string e0, .int .i64 0]) ?_ 1 _ rfl; refine kK_ ?_; refine bO (cs := #[.string (⟨#[]⟩ : ByteArray), .int .i64 0]) ?_ 0 _ rfl; exact rK_ b0.o) Tryz.underlying96 rfl (by kernel_rfl)) rfl ?_
 exact ⟨f1_, hS_ f0.o⟩
def cV.f (k : Nat) (a0 : ByteArray) (a1 : Int) : Option (ByteArray × Bool) := (b7.f a1 0 4000).bind fun t292 => (if t292 = true then ((cg.f k a0).bind fun bt293 => ((al.f k bt293.1 bt293.2 a1).bind fun bt295 => (some (bt295.2.2, true)))) else (some ((⟨#[]⟩ : ByteArray), false)))
theorem cV.mono : ∀ a0 a1 k, LeO (cV.f k a0 a1) (cV.f (k + 1) a0 a1) := by
 intro a0 a1 k
 unfold cV.f
 exact o2_ cg.mono al.mono
theorem cV.calls (k : Nat) (a0 : ByteArray) (a1 : Int) (r1 : ByteArray) (r2 : Bool) (w : World) (h : cV.f k a0 a1 = some (r1, r2)) :
  Calls Tryz.prog 90 #[.string a0, .int .i64 a1] w fun e w' => e = .returned (.tuple #[.string r1, .bool r2]) ∧ Below w.heap.size w w' := by
 have hu96 := Tryz.underlying96
 have HB := c_ (Da w.heap.size w)
 delta cV.f at h
 have H := h
 clear h
 obtain ⟨p0, A3, H⟩ := bN_ H
 by_cases c4 : p0 = true
 ·subst c4
  replace H := iT_ H
  obtain ⟨⟨q0, r0⟩, A5, H⟩ := bN_ H
  obtain ⟨⟨v0, x0, y0⟩, A6, H⟩ := bN_ H
  simp only [Option.some.injEq, Prod.mk.injEq] at H
  obtain ⟨rfl, rfl⟩ := H
  go_enter Tryz.func90, Tryz.ntmps90
  go_wp2_with (first | (refine gp_ (k_ 9 Tryz.func92) (b7.calls _ _ _ _ _ A3.o) fun nd => ?_) | (refine gb_ (k_ 13 Tryz.func93) (cg.calls _ _ _ _ _ A5.o) fun w7 HB => ?_) | (refine gb_ (k_ 15 Tryz.func94) (al.calls _ _ _ _ _ _ _ _ A6.o) fun w8 HB => ?_) | (refine bx_ 6 #[.string (⟨#[]⟩ : ByteArray), .int .i64 0] 96 fun d0 w9 hb HB b0 e0 => ?_; have f0 : w9.cell? ⟨d0, 0, none⟩ = some (.string (⟨#[]⟩ : ByteArray)) := (ah b0.o 0).trans rfl; have j0 : w9.cell? ⟨d0, 1, none⟩ = some (.int .i64 0) := (ah b0.o 1).trans rfl; have k0 := ae b0.o 0; have n0 := ae b0.o 1))
  go_ret2
  exact ⟨f1_, hS_ e0.o⟩
 ·replace c4 := Ea c4
  subst c4
  replace H := iF_ H
  simp only [Option.some.injEq, Prod.mk.injEq] at H
  obtain ⟨rfl, rfl⟩ := H
  go_enter Tryz.func90, Tryz.ntmps90
  go_wp2_with (first | (refine gp_ (k_ 9 Tryz.func92) (b7.calls _ _ _ _ _ A3.o) fun nd => ?_))
  go_ret2
  exact ⟨f1_, hB_⟩
def bN.l0 : Nat → ByteArray → List Int → Int → Int → Option (List Int)
 | 0, _, _, _, _ => none
 | k + 1, x5, x7, x20, x21 => if x21 < x20 then (if 0 ≤ (wrap64 (Int.tdiv x21 2)) then (if (wrap64 (Int.tdiv x21 2)) < (x5.size : Int) then (if 0 ≤ (wrap64 (4 * (Int.tmod x21 2))) then ((cd.f (wrap64 ((wrap64 ((wrap64 ((Go.bits .and .i64 (wrap64 (shr .u8 (bt x5 (wrap64 (Int.tdiv x21 2))) (wrap64 (4 * (Int.tmod x21 2))))) 1) + (Go.bits .and .i64 ((wrap64 (shr .u8 (bt x5 (wrap64 (Int.tdiv x21 2))) (wrap64 (4 * (Int.tmod x21 2))))) / 2) 1))) - (Go.bits .and .i64 ((wrap64 (shr .u8 (bt x5 (wrap64 (Int.tdiv x21 2))) (wrap64 (4 * (Int.tmod x21 2))))) / 4) 1))) - (Go.bits .and .i64 ((wrap64 (shr .u8 (bt x5 (wrap64 (Int.tdiv x21 2))) (wrap64 (4 * (Int.tmod x21 2))))) / 8) 1)))).bind fun t308 => (if 0 ≤ x21 then (if x21 < (x7.length : Int) then (bN.l0 k x5 (x7.set (x21 : Int).toNat t308) x20 (wrap64 (x21 + 1))) else (none)) else (none))) else (none)) else (none)) else (none)) else (some x7)
def bN.f (k : Nat) (a0 : ByteArray) (a1 : Int) : Option (List Int) := (cP.f a1).bind fun t302 => (if a0.size + t302.size ≤ 9223372036854775807 then ((cV.f k (a0 ++ t302) 128).bind fun bt303 => (if 256 ≤ 35184372088832 then ((some (List.replicate 256 0 : List Int)).bind fun y305 => (bN.l0 k bt303.1 y305 (y305.length : Int) 0)) else (none))) else (none))
theorem bN.mono_l : ∀ k, (∀ y0 y1 y2 y3, LeO (bN.l0 k y0 y1 y2 y3) (bN.l0 (k + 1) y0 y1 y2 y3))
 | 0 => fun _ _ _ _ r h => by simp [bN.l0] at h
 | k + 1 => by
  have ih0 := bN.mono_l k
  intros; unfold bN.l0; exact o2_ ih0 cV.mono
theorem bN.mono : ∀ a0 a1 k, LeO (bN.f k a0 a1) (bN.f (k + 1) a0 a1) := by
 intro a0 a1 k
 have ih0 := bN.mono_l k
 unfold bN.f
 exact o2_ ih0 cV.mono
theorem bN.calls (k : Nat) (a0 : ByteArray) (a1 : Int) (r : List Int) (w : World) (h : bN.f k a0 a1 = some r) :
  Calls Tryz.prog 50 #[.string a0, .int .i64 a1] w fun e w' => ∃ b1 : Value, e = .returned (b1) ∧ Kd.R (Kd.int .i64) 3 w' w.heap.size (fun _ => True) b1 r ∧ Below w.heap.size w w' := by
 have HB := c_ (Da w.heap.size w)
 delta bN.f at h
 have H := h
 clear h
 obtain ⟨O0, A3, H⟩ := bN_ H
 obtain ⟨c4, H⟩ := iN_ H
 have n1 := Aa c4
 have p1 := ya c4
 try have q1 : (9223372036854775807 < a0.size + O0.size) = False := eq_false (Nat.not_lt.2 c4)
 obtain ⟨⟨r0, r1⟩, A5, H⟩ := bN_ H
 obtain ⟨c6, H⟩ := iN_ H
 have t1 := Aa c6
 have y1 := ya c6
 clear c6
 obtain ⟨D0, p0⟩ : ∃ y_ : List Int, y_ = (List.replicate 256 0) := ⟨_, rfl⟩
 first | replace H := yb_ p0 H | rw [← p0] at H
 have E0 := c_ p0
 clear p0
 have H' := c_ H
 clear H
 go_enter Tryz.func50, Tryz.ntmps50
 go_wp2_with (first | (refine gb_ (k_ 13 Tryz.func91) (cP.calls _ _ _ A3.o) fun w7 HB => ?_) | (refine gb_ (k_ 15 Tryz.func90) (cV.calls _ _ _ _ _ _ A5.o) fun w8 HB => ?_) | ((refine cO (N := 18) rfl ?_); refine vu (Kd.int .i64) _ 3 rfl (N := 18) rfl 45 _ _ rfl 256 rfl rfl Tryz.underlying45 (.int .i64 0) 8 df rfl (by decide) (by omega) 0 (ok := fun _ => True) (okp := fun _ => True) rfl (fun _ hk => hk) trivial (by omega) (by omega) (Da _ _) (Ca _) ?_; intro z1 w9 v0 hb hg_ hnew_; clear hg_ hnew_; (first | rw [← E0.o] at v0 | (simp only [Int.reduceToNat] at v0; rw [← E0.o] at v0)); obtain ⟨F0, HB⟩ := b_ (vb v0 (au (hB_))) <| sB_; clear hb v0; obtain ⟨I0, J0, P0⟩ := uY F0.o; subst P0))
 go_loopg [21] k (fun kq A1 w' => ∃ (k0 : List Int) (b0 : Int), A1 = .int .i64 b0 ∧ aa (bN.l0 kq r0 k0 (D0.length : Int) b0 = some r) ∧ aa (kq ≤ k) ∧ aa (Kd.R (Kd.int .i64) 3 w' w.heap.size (fun _ => True) (.slice I0 D0.length J0) k0) ∧ aa (Below w.heap.size w w'))
 case atStart => exact ⟨(D0), (0), f0_, H', ⟨Ca _⟩, ⟨rR_ F0.o⟩, ⟨hB_⟩⟩
 clear H'
 obtain ⟨k0, b0, rfl, HA, c1, d0, HB⟩ := hrel
 have e0 := (uX d0.o).1
 rw [e0] at d0
 (try simp only [e0])
 rcases gk with _ | k1
 ·exact absurd HA.o (by simp [bN.l0])
 have H := HA.o
 clear HA
 simp only [bN.l0] at H
 by_cases H0 : b0 < (D0.length : Int)
 rotate_left
 ·rw [Ga H0] at H
  have x0 := za H0
  (try simp only [e0] at x0)
  clear H0
  obtain rfl := Ba H
  go_wp2
  go_ret
  exact ⟨_, f1_, rR_ d0.o, hB_⟩
 rw [Fa H0] at H
 have x0 := ya H0
 (try simp only [e0] at x0)
 clear H0
 obtain ⟨n0, y0⟩ : ∃ j_ : Int, (wrap64 (Int.tdiv b0 2)) = j_ := ⟨_, rfl⟩
 first | rw [y0] at H | simp only [y0] at H
 have Q0 : (IntKind.i64.wrap (Int.tdiv b0 2)) = n0 := (bq _).trans y0
 obtain ⟨e1, H⟩ := iD_ H
 obtain ⟨f1, H⟩ := iD_ H
 obtain ⟨B0, C0⟩ : ∃ j_ : Int, (wrap64 (4 * (Int.tmod b0 2))) = j_ := ⟨_, rfl⟩
 first | rw [C0] at H | simp only [C0] at H
 have R0 : (IntKind.i64.wrap (4 * (Int.tmod b0 2))) = B0 := (bq _).trans C0
 obtain ⟨S0, H⟩ := iN_ H
 have g1 := Aa S0
 have i1 := ya S0
 clear S0
 obtain ⟨f0, j0⟩ : ∃ j_ : Int, (shr .u8 (bt r0 (n0)) (B0)) = j_ := ⟨_, rfl⟩
 first | rw [j0] at H | simp only [j0] at H
 have T0 : ((bt r0 (n0)) / 2 ^ min (B0).toNat 8) = f0 := j0
 have U0 : (B0) ≤ 8 → ((bt r0 (n0)) / 2 ^ (B0).toNat) = f0 := gf j0
 obtain ⟨G0, B1, H⟩ := bN_ H
 obtain ⟨j1, H⟩ := iD_ H
 obtain ⟨l1, H⟩ := iN_ H
 have K0 := ya l1
 (try simp only [e0] at K0)
 clear l1
 obtain ⟨V0, q0⟩ : ∃ y_ : List Int, y_ = (k0.set (b0 : Int).toNat G0) := ⟨_, rfl⟩
 first | replace H := yb_ q0 H | rw [← q0] at H
 have L0 := c_ q0
 clear q0
 have H' := c_ H
 clear H
 have E1 := Aa (oD_ : 0 ≤ ((n0) : Int))
 have F1 := Aa (oD_ : (n0) < (r0.size : Int))
 have C1 := cQ r0 (n0)
 go_wp2_with (first | ((with_reducible refine eQ (f := 89) rfl ?_); refine iI (some 49) rfl rfl Tryz.func89 (by kernel_rfl) rfl #[.int .i64 (wrap64 ((wrap64 ((wrap64 ((Go.bits .and .i64 (wrap64 (f0)) 1) + (Go.bits .and .i64 ((wrap64 (f0)) / 2) 1))) - (Go.bits .and .i64 ((wrap64 (f0)) / 4) 1))) - (Go.bits .and .i64 ((wrap64 (f0)) / 8) 1)))] rfl (by (try simp only [List.map_toArray, List.map_cons, List.map_nil]); first | done | (simp only [j0]; rfl) | rfl | (simp only [List.length_drop, List.length_take]; rfl)) ?_; (with_reducible refine (cd.calls (wrap64 ((wrap64 ((wrap64 ((Go.bits .and .i64 (wrap64 (f0)) 1) + (Go.bits .and .i64 ((wrap64 (f0)) / 2) 1))) - (Go.bits .and .i64 ((wrap64 (f0)) / 4) 1))) - (Go.bits .and .i64 ((wrap64 (f0)) / 8) 1))) G0 _ B1.o).mono ?_); rintro e w' ⟨rfl, ⟨nd, rfl⟩⟩; refine ⟨_, rfl, ?_⟩; (try (rw [dh wr]; generalize hq_ : World.drewN wr _ = wr; obtain ⟨d0, HB⟩ := b_ (show Kd.R (Kd.int .i64) 3 wr w.heap.size (fun _ => True) (.slice I0 k0.length J0) k0 from by rw [← hq_]; exact (rR_ d0.o)) <| c_ (show Below w.heap.size w wr from by rw [← hq_]; exact (hB_)))); have W0 : 0 ≤ (b0 : Int) := oD_; have X0 : (b0 : Int) < ((k0.length : Int) : Int) := oD_; obtain ⟨go23, D1, M0, N0, gl23, cl23, HG23⟩ := vq d0.o (by omega); (first | cases M0 | (injection M0 with ea_ en_ ec_; (first | subst ea_ | (injection ea_ with ea_; subst ea_)); subst ec_; clear en_)); have Y0 := c_ N0; have GG23 := c_ HG23; clear N0 gl23 HG23; obtain ⟨Z0, hf23_0⟩ := vc 0 d0.o (b0 : Int) W0 X0; replace W0 := Aa W0; replace X0 := Aa X0; obtain ⟨m1, hz24_⟩ := vc 0 d0.o (b0 : Int) oD_ oD_; have HP24 := vm d0.o (b0 : Int) G0) | ((refine cx (t := 3) (p := 50) rfl ?_); refine st_ 3 50 HP24 L0 Y0 fun G1 hw hp_ hg HBn => ?_; obtain ⟨d0, HB⟩ := b_ (hp_) <| c_ HBn.o; clear hg hw hp_))
 (try simp only [← e0])
 go_roundg k1
 case measure => have := c1.o; omega
 case rel => exact ⟨(V0), (wrap64 (b0 + 1)), f0_, H', ⟨by have := c1.o; omega⟩, ⟨by (try simp only [e0]); refine kR_ ?_; exact d0.o⟩, ⟨hB_⟩⟩
def bs.l0 : Nat → ByteArray → Int → List (List Int) → Int → Option ((List (List Int)))
 | 0, _, _, _, _ => none
 | k + 1, x0, x1, x5, x7 => if x7 < 2 then ((bN.f k x0 (wrap64 (x1 + x7))).bind fun t310 => (if x5.length < 5864062014805 then (bs.l0 k x0 x1 (x5 ++ [t310]) (wrap64 (x7 + 1))) else (none))) else (some x5)
def bs.f (k : Nat) (a0 : ByteArray) (a1 : Int) : Option ((List (List Int))) := bs.l0 k a0 a1 ([] : List (List Int)) 0
theorem bs.mono_l : ∀ k, (∀ y0 y1 y2 y3, LeO (bs.l0 k y0 y1 y2 y3) (bs.l0 (k + 1) y0 y1 y2 y3))
 | 0 => fun _ _ _ _ r h => by simp [bs.l0] at h
 | k + 1 => by
  have ih0 := bs.mono_l k
  intros; unfold bs.l0; exact o2_ ih0 bN.mono
theorem bs.mono : ∀ a0 a1 k, LeO (bs.f k a0 a1) (bs.f (k + 1) a0 a1) := by
 intro a0 a1 k
 have ih0 := bs.mono_l k
 unfold bs.f
 exact o2_ ih0 bN.mono
theorem bs.calls (k : Nat) (a0 : ByteArray) (a1 : Int) (r : List (List Int)) (w : World) (h : bs.f k a0 a1 = some r) :
  Calls Tryz.prog 20 #[.string a0, .int .i64 a1] w fun e w' => ∃ x0 : Value, e = .returned (x0) ∧ Kd.S (Kd.slice 3 (Kd.int .i64)) 45 w' w.heap.size (fun _ => True) x0 r ∧ Below w.heap.size w w' := by
 have HB := c_ (Da w.heap.size w)
 delta bs.f at h
 have H := h
 clear h
 have H' := c_ H
 clear H
 go_enter Tryz.func20, Tryz.ntmps20
 go_wp2
 go_loopg [5, 7] k (fun kq v5 v7 w' => ∃ (e0 : List (List Int)) (f0 : Int), v7 = .int .i64 f0 ∧ aa (bs.l0 kq a0 a1 e0 f0 = some r) ∧ aa (kq ≤ k) ∧ aa (Kd.S (Kd.slice 3 (Kd.int .i64)) 45 w' w.heap.size (fun _ => True) v5 e0) ∧ aa (Below w.heap.size w w'))
 case atStart => exact ⟨(([] : List (List Int))), (0), f0_, H', ⟨Ca _⟩, ⟨by first | exact vC _ _ _ _ _ | exact Kd.N_nil _ _ _ _ _ | exact Kd.V_nil _ _ _ _ _ | exact Kd.Q_nil _ _ _ _ _ | exact vB _ _ _ _ _⟩, ⟨hB_⟩⟩
 clear H'
 obtain ⟨e0, f0, rfl, HA, y0, d0, HB⟩ := hrel
 rcases gk with _ | k1
 ·exact absurd HA.o (by simp [bs.l0])
 have H := HA.o
 clear HA
 simp only [bs.l0] at H
 by_cases c3 : f0 < 2
 ·rw [Fa c3] at H
  have q0 := ya c3
  clear c3
  obtain ⟨k0, A4, H⟩ := bN_ H
  obtain ⟨c5, H⟩ := iN_ H
  have r0 := c_ c5
  clear c5
  obtain ⟨v0, b0⟩ : ∃ y_ : List (List Int), y_ = (e0 ++ [k0]) := ⟨_, rfl⟩
  first | replace H := yb_ b0 H | rw [← b0] at H
  have n0 := c_ b0
  clear b0
  have H' := c_ H
  clear H
  go_wp2_with (first | (refine gR_ (k_ 15 Tryz.func50) (bN.calls _ _ _ _ _ A4.o) fun D0 w6 ho_ hb => ?_; obtain ⟨d0, j0, HB⟩ := n_ (dg d0) <| n_ (lR_ ho_) <| sB_; obtain ⟨B0, C0, E0⟩ := uY j0.o; subst E0) | ((refine cH (b := .append) (xs := #[.tmp 10, .tmp 16]) rfl ?_); at_builtin; refine vw (Kd.slice 3 (Kd.int .i64)) (w0 := w) w.heap.size rfl (.tmp 10) (.tmp 16) 41 45 (.slice none 0 0) 24 rfl Tryz.underlying41 gN rfl (by decide) (by omega) u5 e0 k0 [.slice B0 k0.length C0] (fun _ => True) (fun k_ => some k_ = (.slice B0 k0.length C0 : Value).ownBlock) rfl rfl ?aP (fun k_ hk_ => ((va (ok' := fun k_ => ((fun _ => True)) k_ ∧ some k_ ≠ (u5 : Value).ownBlock) (vh (j0.o) (vi d0.o) (by decide)) (fun k_ hk => ⟨trivial, hk.2⟩))).1 k_ hk_.symm) ?aF ?aO ?aB ?aS ?aL ?_; (case aP => exact vP (va (vA rfl (va (ok' := fun k_ => ((fun _ => True)) k_ ∧ some k_ ≠ (u5 : Value).ownBlock) (vh (j0.o) (vi d0.o) (by decide)) (fun k_ hk => ⟨trivial, hk.2⟩))) (fun _ h_ => h_))); (case aB => exact (hB_)); (case aF => exact (fun _ _ => trivial)); (case aO => exact (by refine kS_ ?_; exact vk d0.o (fun k_ hk => ⟨trivial, fun e_ => hk.2 e_⟩))); (case aS => exact (au (hB_))); (case aL => have := r0.o; omega); intro F0 w7 ho hb hg hat; rw [← n0.o] at ho; obtain ⟨HB, p0⟩ := b_ (hb) <| c_ (ho); clear ho hb hg hat))
  go_roundg k1
  case measure => have := y0.o; omega
  case rel => exact ⟨(v0), (wrap64 (f0 + 1)), f0_, H', ⟨by have := y0.o; omega⟩, ⟨rS_ p0.o⟩, ⟨hB_⟩⟩
 rw [Ga c3] at H
 have q0 := za c3
 clear c3
 obtain rfl := Ba H
 go_wp2
 go_ret
 exact ⟨_, f1_, by refine kS_ ?_; exact d0.o, hB_⟩
mutual
def am.l0 : Nat → List Int → Int → Int → ByteArray → Int → Option (List Int)
 | 0, _, _, _, _, _ => none
 | k + 1, x8, x9, x10, x368000, x368001 => if x10 < 4000 then (am.j1 k x8 x9 x10 (decide (x9 < 256)) x368000 x368001) else (am.j1 k x8 x9 x10 false x368000 x368001)
def am.j1 : Nat → List Int → Int → Int → Bool → ByteArray → Int → Option (List Int)
 | 0, _, _, _, _, _, _ => none
 | k + 1, x8, x9, x10, x32, x368000, x368001 => if x32 = true then ((al.f k x368000 x368001 3).bind fun bt371 => (if 0 < (bt371.2.2.size : Int) then (if 1 < (bt371.2.2.size : Int) then (if 2 < (bt371.2.2.size : Int) then ((some (([wrap64 ((wrap64 (bt bt371.2.2 0)) + (wrap64 ((Int.tmod (wrap64 (bt bt371.2.2 1)) 16) * 256))), wrap64 ((wrap64 (Int.tdiv (wrap64 (bt bt371.2.2 1)) 16)) + (wrap64 (16 * (wrap64 (bt bt371.2.2 2)))))] : List Int) : List Int)).bind fun y375 => (am.l1 k x8 x9 x10 y375 (y375.length : Int) 0 bt371.1 bt371.2.1)) else (none)) else (none)) else (none))) else (some x8)
def am.l1 : Nat → List Int → Int → Int → List Int → Int → Int → ByteArray → Int → Option (List Int)
 | 0, _, _, _, _, _, _, _, _ => none
 | k + 1, x8, x9, x10, x60, x61, x62, x368000, x368001 => if x62 < x61 then (if 0 ≤ x62 then (if x62 < (x60.length : Int) then (if (rd x60 x62) < 3329 then (if x9 < 256 then (if 0 ≤ x9 then (if x9 < (x8.length : Int) then (am.l1 k (x8.set (x9 : Int).toNat (rd x60 x62)) (wrap64 (x9 + 1)) x10 x60 x61 (wrap64 (x62 + 1)) x368000 x368001) else (none)) else (none)) else (am.l1 k x8 x9 x10 x60 x61 (wrap64 (x62 + 1)) x368000 x368001)) else (am.l1 k x8 x9 x10 x60 x61 (wrap64 (x62 + 1)) x368000 x368001)) else (none)) else (none)) else (am.l0 k x8 x9 (wrap64 (x10 + 1)) x368000 x368001)
end
def am.f (k : Nat) (a0 : ByteArray) (a1 : Int) (a2 : Int) : Option (List Int) := (cP.f a1).bind fun t363 => (if a0.size + t363.size ≤ 9223372036854775807 then ((cP.f a2).bind fun t364 => (if (a0 ++ t363).size + t364.size ≤ 9223372036854775807 then ((cg.f k ((a0 ++ t363) ++ t364)).bind fun bt365 => (if 256 ≤ 35184372088832 then (am.l0 k (List.replicate 256 0) 0 0 bt365.1 bt365.2) else (none))) else (none))) else (none))
theorem am.mono_l : ∀ k, (∀ y0 y1 y2 y3 y4, LeO (am.l0 k y0 y1 y2 y3 y4) (am.l0 (k + 1) y0 y1 y2 y3 y4)) ∧ (∀ y0 y1 y2 y3 y4 y5, LeO (am.j1 k y0 y1 y2 y3 y4 y5) (am.j1 (k + 1) y0 y1 y2 y3 y4 y5)) ∧ (∀ y0 y1 y2 y3 y4 y5 y6 y7, LeO (am.l1 k y0 y1 y2 y3 y4 y5 y6 y7) (am.l1 (k + 1) y0 y1 y2 y3 y4 y5 y6 y7))
 | 0 => ⟨fun _ _ _ _ _ r h => by simp [am.l0] at h, fun _ _ _ _ _ _ r h => by simp [am.j1] at h, fun _ _ _ _ _ _ _ _ r h => by simp [am.l1] at h⟩
 | k + 1 => by
  obtain ⟨ih0, ih1, ih2⟩ := am.mono_l k
  refine ⟨?_, ?_, ?_⟩ <;> (intros; (first | unfold am.l0 | unfold am.j1 | unfold am.l1); exact o5_ ih0 ih1 ih2 cg.mono al.mono)
theorem am.mono : ∀ a0 a1 a2 k, LeO (am.f k a0 a1 a2) (am.f (k + 1) a0 a1 a2) := by
 intro a0 a1 a2 k
 obtain ⟨ih0, ih1, ih2⟩ := am.mono_l k
 unfold am.f
 exact o5_ ih0 ih1 ih2 cg.mono al.mono
theorem am.calls (k : Nat) (a0 : ByteArray) (a1 : Int) (a2 : Int) (r : List Int) (w : World) (h : am.f k a0 a1 a2 = some r) :
  Calls Tryz.prog 55 #[.string a0, .int .i64 a1, .int .i64 a2] w fun e w' => ∃ G2 : Value, e = .returned (G2) ∧ Kd.R (Kd.int .i64) 3 w' w.heap.size (fun _ => True) G2 r ∧ Below w.heap.size w w' := by
 have hu96 := Tryz.underlying96
 have HB := c_ (Da w.heap.size w)
 delta am.f at h
 have H := h
 clear h
 obtain ⟨N1, A4, H⟩ := bN_ H
 obtain ⟨c5, H⟩ := iN_ H
 have f3 := Aa c5
 have g3 := ya c5
 try have i3 : (9223372036854775807 < a0.size + N1.size) = False := eq_false (Nat.not_lt.2 c5)
 obtain ⟨U1, A6, H⟩ := bN_ H
 obtain ⟨c7, H⟩ := iN_ H
 have l3 := Aa c7
 have m3 := ya c7
 try have y2 : (9223372036854775807 < (a0 ++ N1).size + U1.size) = False := eq_false (Nat.not_lt.2 c7)
 try (have z2 : (9223372036854775807 < (a0 ++ N1).size + U1.size) = False := y2; simp only [ByteArray.size_append] at z2)
 obtain ⟨⟨Q0, E1⟩, A8, H⟩ := bN_ H
 try dsimp only at H
 obtain ⟨c9, H⟩ := iN_ H
 have n3 := Aa c9
 have p3 := ya c9
 clear c9
 obtain ⟨A2, R0⟩ : ∃ y_ : List Int, y_ = (List.replicate 256 0) := ⟨_, rfl⟩
 first | replace H := yb_ R0 H | rw [← R0] at H
 have L0 := c_ R0
 clear R0
 have H' := c_ H
 clear H
 go_enter Tryz.func55, Tryz.ntmps55
 go_wp2_with (first | (go_at_call 91; refine mB_ (cP.calls _ _ _ A4.o) fun H2 HB => ?_) | (go_at_call 91; refine mB_ (cP.calls _ _ _ A6.o) fun I2 HB => ?_) | (go_at_call 93; refine mB_ (cg.calls _ _ _ _ _ A8.o) fun J2 HB => ?_) | (refine bx_ 7 #[.string (⟨#[]⟩ : ByteArray), .int .i64 0] 96 fun k0 H1 hb HB b0 B0 => ?_; have S0 : H1.cell? ⟨k0, 0, none⟩ = some (.string (⟨#[]⟩ : ByteArray)) := (ah b0.o 0).trans rfl; have T0 : H1.cell? ⟨k0, 1, none⟩ = some (.int .i64 0) := (ah b0.o 1).trans rfl; have U0 := ae b0.o 0; have V0 := ae b0.o 1) | ((refine cO (N := 26) rfl ?_); refine vu (Kd.int .i64) _ 3 rfl (N := 26) rfl 45 _ _ rfl 256 rfl rfl Tryz.underlying45 (.int .i64 0) 8 df rfl (by decide) (by omega) 0 (ok := fun _ => True) (okp := fun _ => True) rfl (fun _ hk => hk) trivial (by omega) (by omega) (Da _ _) (Ca _) ?_; intro p1 K2 D0 hb hg_ hnew_; clear hg_ hnew_; (first | rw [← L0.o] at D0 | (simp only [Int.reduceToNat] at D0; rw [← L0.o] at D0)); obtain ⟨y1, b0, HB⟩ := b_ (vb D0 (au (hS_ B0.o))) <| b_ (d8 (g := k0) (o := .cells #[.string Q0, .int .i64 E1] 96 (0, 0)) (by refine kK_ ?_; refine bO (cs := #[.string Q0, .int .i64 0]) ?_ 1 _ rfl; refine kK_ ?_; refine bO (cs := #[.string (⟨#[]⟩ : ByteArray), .int .i64 0]) ?_ 0 _ rfl; exact rK_ b0.o) hb) <| sB_; clear hb D0))
 repeat (go_quiet (first | (go_at_call 91; refine mB_ (cP.calls _ _ _ A4.o) fun H2 HB => ?_) | (go_at_call 91; refine mB_ (cP.calls _ _ _ A6.o) fun I2 HB => ?_) | (go_at_call 93; refine mB_ (cg.calls _ _ _ _ _ A8.o) fun J2 HB => ?_) | (refine bx_ 7 #[.string (⟨#[]⟩ : ByteArray), .int .i64 0] 96 fun k0 H1 hb HB b0 B0 => ?_; have S0 : H1.cell? ⟨k0, 0, none⟩ = some (.string (⟨#[]⟩ : ByteArray)) := (ah b0.o 0).trans rfl; have T0 : H1.cell? ⟨k0, 1, none⟩ = some (.int .i64 0) := (ah b0.o 1).trans rfl; have U0 := ae b0.o 0; have V0 := ae b0.o 1) | ((refine cO (N := 26) rfl ?_); refine vu (Kd.int .i64) _ 3 rfl (N := 26) rfl 45 _ _ rfl 256 rfl rfl Tryz.underlying45 (.int .i64 0) 8 df rfl (by decide) (by omega) 0 (ok := fun _ => True) (okp := fun _ => True) rfl (fun _ hk => hk) trivial (by omega) (by omega) (Da _ _) (Ca _) ?_; intro p1 K2 D0 hb hg_ hnew_; clear hg_ hnew_; (first | rw [← L0.o] at D0 | (simp only [Int.reduceToNat] at D0; rw [← L0.o] at D0)); obtain ⟨y1, b0, HB⟩ := b_ (vb D0 (au (hS_ B0.o))) <| b_ (d8 (g := k0) (o := .cells #[.string Q0, .int .i64 E1] 96 (0, 0)) (by refine kK_ ?_; refine bO (cs := #[.string Q0, .int .i64 0]) ?_ 1 _ rfl; refine kK_ ?_; refine bO (cs := #[.string (⟨#[]⟩ : ByteArray), .int .i64 0]) ?_ 0 _ rfl; exact rK_ b0.o) hb) <| sB_; clear hb D0)); try go_wp2_with (first | (go_at_call 91; refine mB_ (cP.calls _ _ _ A4.o) fun H2 HB => ?_) | (go_at_call 91; refine mB_ (cP.calls _ _ _ A6.o) fun I2 HB => ?_) | (go_at_call 93; refine mB_ (cg.calls _ _ _ _ _ A8.o) fun J2 HB => ?_) | (refine bx_ 7 #[.string (⟨#[]⟩ : ByteArray), .int .i64 0] 96 fun k0 H1 hb HB b0 B0 => ?_; have S0 : H1.cell? ⟨k0, 0, none⟩ = some (.string (⟨#[]⟩ : ByteArray)) := (ah b0.o 0).trans rfl; have T0 : H1.cell? ⟨k0, 1, none⟩ = some (.int .i64 0) := (ah b0.o 1).trans rfl; have U0 := ae b0.o 0; have V0 := ae b0.o 1) | ((refine cO (N := 26) rfl ?_); refine vu (Kd.int .i64) _ 3 rfl (N := 26) rfl 45 _ _ rfl 256 rfl rfl Tryz.underlying45 (.int .i64 0) 8 df rfl (by decide) (by omega) 0 (ok := fun _ => True) (okp := fun _ => True) rfl (fun _ hk => hk) trivial (by omega) (by omega) (Da _ _) (Ca _) ?_; intro p1 K2 D0 hb hg_ hnew_; clear hg_ hnew_; (first | rw [← L0.o] at D0 | (simp only [Int.reduceToNat] at D0; rw [← L0.o] at D0)); obtain ⟨y1, b0, HB⟩ := b_ (vb D0 (au (hS_ B0.o))) <| b_ (d8 (g := k0) (o := .cells #[.string Q0, .int .i64 E1] 96 (0, 0)) (by refine kK_ ?_; refine bO (cs := #[.string Q0, .int .i64 0]) ?_ 1 _ rfl; refine kK_ ?_; refine bO (cs := #[.string (⟨#[]⟩ : ByteArray), .int .i64 0]) ?_ 0 _ rfl; exact rK_ b0.o) hb) <| sB_; clear hb D0)))
 go_loopg [9, 10] k (fun kq v9 q3 w' => ∃ (q1 : List Int) (r1 : Int) (I0 : Int) (j0 : ByteArray) (d0 : Int), v9 = .int .i64 r1 ∧ q3 = .int .i64 I0 ∧ aa (am.l0 kq q1 r1 I0 j0 d0 = some r) ∧ aa (kq ≤ k) ∧ aa (Kd.R (Kd.int .i64) 3 w' w.heap.size (fun _ => True) p1 q1) ∧ aa (w'.heap[k0]? = some (.cells #[.string j0, .int .i64 d0] 96 (0, 0))) ∧ aa (Below w.heap.size w w'))
 case atStart => exact ⟨(A2), (0), (0), (Q0), (E1), f0_, f0_, H', ⟨Ca _⟩, ⟨rR_ y1.o⟩, ⟨by refine kK_ ?_; exact b0.o⟩, ⟨hS_ B0.o⟩⟩
 clear H'
 obtain ⟨q1, r1, I0, j0, d0, rfl, rfl, HA, D1, n0, b0, HB⟩ := hrel
 rcases gk with _ | k1
 ·exact absurd HA.o (by simp [am.l0])
 have H := HA.o
 clear HA
 simp only [am.l0] at H
 have O1 := c_ H
 clear H
 go_upto_region 5 with (fail)
 repeat (go_quiet (fail); go_upto_region 5 with (fail))
 go_cut [32] (fun r3 wc => ∃ (kq : Nat) (N0 : Bool), r3 = .bool N0 ∧ aa (am.j1 kq q1 r1 I0 N0 j0 d0 = some r) ∧ aa (kq ≤ k1) ∧ aa (Kd.R (Kd.int .i64) 3 wc w.heap.size (fun _ => True) p1 q1) ∧ aa (wc.heap[k0]? = some (.cells #[.string j0, .int .i64 d0] 96 (0, 0))) ∧ aa (Below w.heap.size w wc))
 case first =>
  have H := O1.o
  clear O1
  by_cases Q1 : I0 < 4000
  ·rw [Fa Q1] at H
   have O0 := ya Q1
   clear Q1
   (first | rw [O0] | (simp only [bq, ct]; rw [O0]) | skip)
   have H' := c_ H
   clear H
   go_wp2
   repeat (go_quiet (fail); try go_wp2)
   go_meet
   case rel => exact ⟨_, (decide (r1 < 256)), f0_, H', ⟨by have := D1.o; first | omega | exact Ca _⟩, ⟨rR_ n0.o⟩, ⟨by refine kK_ ?_; exact b0.o⟩, ⟨hS_ B0.o⟩⟩
  rw [Ga Q1] at H
  have O0 := za Q1
  clear Q1
  (first | rw [O0] | (simp only [bq, ct]; rw [O0]) | skip)
  have H' := c_ H
  clear H
  go_wp2
  repeat (go_quiet (fail); try go_wp2)
  go_meet
  case rel => exact ⟨_, (false), f0_, H', ⟨by have := D1.o; first | omega | exact Ca _⟩, ⟨rR_ n0.o⟩, ⟨by refine kK_ ?_; exact b0.o⟩, ⟨hS_ B0.o⟩⟩
 clear O1
 obtain ⟨kq, N0, rfl, HA, P0, n0, b0, HB⟩ := hcut
 rcases kq with _ | V1
 ·exact absurd HA.o (by simp [am.j1])
 have H := HA.o
 clear HA
 simp only [am.j1] at H
 by_cases p2 : N0 = true
 ·subst p2
  replace H := iT_ H
  obtain ⟨⟨x0, C0, e0⟩, B2, H⟩ := bN_ H
  try dsimp only at H
  obtain ⟨L2, H⟩ := iN_ H
  have M2 := ya L2
  have N2 : decide (0 < e0.size) = true := ya (by omega)
  clear L2
  obtain ⟨O2, H⟩ := iN_ H
  have P2 := ya O2
  have Q2 : decide (1 < e0.size) = true := ya (by omega)
  clear O2
  obtain ⟨R2, H⟩ := iN_ H
  have T2 := ya R2
  have U2 : decide (2 < e0.size) = true := ya (by omega)
  clear R2
  obtain ⟨G0, W0⟩ : ∃ y_ : List Int, y_ = (([wrap64 ((wrap64 (bt e0 0)) + (wrap64 ((Int.tmod (wrap64 (bt e0 1)) 16) * 256))), wrap64 ((wrap64 (Int.tdiv (wrap64 (bt e0 1)) 16)) + (wrap64 (16 * (wrap64 (bt e0 2)))))] : List Int)) := ⟨_, rfl⟩
  first | replace H := yb_ W0 H | rw [← W0] at H
  have z1 := c_ W0
  clear W0
  have H' := c_ H
  clear H
  have q2 : wc.cell? ⟨k0, 0, none⟩ = some (.string j0) := (ah b0.o 0).trans rfl
  have r2 : wc.cell? ⟨k0, 1, none⟩ = some (.int .i64 d0) := (ah b0.o 1).trans rfl
  have t2 := ae b0.o 0
  have v2 := ae b0.o 1
  go_wp2_with (first | (go_at_call 94; refine mb_ (al.calls _ _ _ _ _ _ _ _ B2.o) fun V2 hb => ?_; obtain ⟨n0, b0, HB⟩ := n_ (fR_ n0) <| n_ (fK_ b0) <| sB_) | (refine bq_ 11 #[.string (⟨#[]⟩ : ByteArray), .int .i64 0] 96 fun v0 X0 hg hb HB f0 F0 => ?_; obtain ⟨n0, b0, p0, q0⟩ := n_ (fR_ n0) <| n_ (fK_ b0) <| b_ (by rw [hg]; exact Nat.ne_of_lt (eq (g := k0) (o := .cells #[.string j0, .int .i64 d0] 96 (0, 0)) (rK_ b0.o)) : k0 ≠ v0) <| c_ (by rw [hg]; exact Nat.ne_of_gt (eq (g := k0) (o := .cells #[.string j0, .int .i64 d0] 96 (0, 0)) (rK_ b0.o)) : v0 ≠ k0); clear hg; have hnb30 := q0.o; have hnc30 := p0.o; have Y0 : X0.cell? ⟨v0, 0, none⟩ = some (.string (⟨#[]⟩ : ByteArray)) := (ah f0.o 0).trans rfl; have Z0 : X0.cell? ⟨v0, 1, none⟩ = some (.int .i64 0) := (ah f0.o 1).trans rfl; have b1 := ae f0.o 0; have c1 := ae f0.o 1; have e1 : X0.cell? ⟨k0, 0, none⟩ = some (.string j0) := (ah b0.o 0).trans rfl; have f1 : X0.cell? ⟨k0, 1, none⟩ = some (.int .i64 d0) := (ah b0.o 1).trans rfl; have g1 := ae b0.o 0; have i1 := ae b0.o 1; have X1 : 0 ≤ (0 : Int) := (by omega); have I1 : 0 < e0.size := (by have : (0 : Int) < (e0.size : Int) := oD_; omega); have Y1 : ∀ h : 0 < e0.size, ((e0[0]'h).toNat : Int) = bt e0 0 := cQ e0 0; clear X1; have qi22 : (0 < (e0.size : Int)) = True := Aa oD_; replace I1 := Aa I1; have Z1 : 0 ≤ (1 : Int) := (by omega); have J1 : 1 < e0.size := (by have : (1 : Int) < (e0.size : Int) := oD_; omega); have b2 : ∀ h : 1 < e0.size, ((e0[1]'h).toNat : Int) = bt e0 1 := cQ e0 1; clear Z1; have qi24 : (1 < (e0.size : Int)) = True := Aa oD_; replace J1 := Aa J1; have c2 : 0 ≤ (2 : Int) := (by omega); have K1 : 2 < e0.size := (by have : (2 : Int) < (e0.size : Int) := oD_; omega); have f2 : ∀ h : 2 < e0.size, ((e0[2]'h).toNat : Int) = bt e0 2 := cQ e0 2; clear c2; have qi26 : (2 < (e0.size : Int)) = True := Aa oD_; replace K1 := Aa K1) | (refine li_ 60 .i64 3 z1 fun g2 X2 ho_ hb => ?_; obtain ⟨n0, M0, b0, f0, HB⟩ := b_ (vj (by refine kR_ ?_; exact (va (va (vt (vt (vt (vt (vr (vr n0.o f0.o (by decide)) b0.o (by decide)) (fun _ hk => hk.1.2) (.string x0)) (fun _ hk => hk.1.2) (.int .i64 C0)) (fun _ hk => hk.2) _) (fun _ hk => hk.2) _) (fun _ h_ => h_.1)) (fun _ h_ => h_.1))) (vg ho_) hb) <| b_ (vb (vp ho_ (vE (by refine kR_ ?_; exact (va (va (vt (vt (vt (vt (vr (vr n0.o f0.o (by decide)) b0.o (by decide)) (fun _ hk => hk.1.2) (.string x0)) (fun _ hk => hk.1.2) (.int .i64 C0)) (fun _ hk => hk.2) _) (fun _ hk => hk.2) _) (fun _ h_ => h_.1)) (fun _ h_ => h_.1))))) (au ((u2_ B0.o F0.o)))) <| b_ (d8 (g := k0) (o := .cells #[.string x0, .int .i64 C0] 96 (0, 0)) (by refine kK_ ?_; refine bO (cs := #[.string x0, .int .i64 d0]) ?_ 1 _ rfl; refine kK_ ?_; refine bO (cs := #[.string j0, .int .i64 d0]) ?_ 0 _ rfl; refine kK_ ?_; refine dr ?_ p0.o _; refine kK_ ?_; refine dr ?_ p0.o _; exact rK_ b0.o) hb) <| b_ (d8 (g := v0) (o := .cells #[.string x0, .int .i64 C0] 96 (0, 0)) (by refine kK_ ?_; refine dr ?_ q0.o _; refine kK_ ?_; refine dr ?_ q0.o _; refine kK_ ?_; refine bO (cs := #[.string x0, .int .i64 0]) ?_ 1 _ rfl; refine kK_ ?_; refine bO (cs := #[.string (⟨#[]⟩ : ByteArray), .int .i64 0]) ?_ 0 _ rfl; exact rK_ f0.o) hb) <| sB_; obtain ⟨F1, G1, A1⟩ := uY M0.o; subst A1))
  repeat (go_quiet (first | (go_at_call 94; refine mb_ (al.calls _ _ _ _ _ _ _ _ B2.o) fun V2 hb => ?_; obtain ⟨n0, b0, HB⟩ := n_ (fR_ n0) <| n_ (fK_ b0) <| sB_) | (refine bq_ 11 #[.string (⟨#[]⟩ : ByteArray), .int .i64 0] 96 fun v0 X0 hg hb HB f0 F0 => ?_; obtain ⟨n0, b0, p0, q0⟩ := n_ (fR_ n0) <| n_ (fK_ b0) <| b_ (by rw [hg]; exact Nat.ne_of_lt (eq (g := k0) (o := .cells #[.string j0, .int .i64 d0] 96 (0, 0)) (rK_ b0.o)) : k0 ≠ v0) <| c_ (by rw [hg]; exact Nat.ne_of_gt (eq (g := k0) (o := .cells #[.string j0, .int .i64 d0] 96 (0, 0)) (rK_ b0.o)) : v0 ≠ k0); clear hg; have hnb30 := q0.o; have hnc30 := p0.o; have Y0 : X0.cell? ⟨v0, 0, none⟩ = some (.string (⟨#[]⟩ : ByteArray)) := (ah f0.o 0).trans rfl; have Z0 : X0.cell? ⟨v0, 1, none⟩ = some (.int .i64 0) := (ah f0.o 1).trans rfl; have b1 := ae f0.o 0; have c1 := ae f0.o 1; have e1 : X0.cell? ⟨k0, 0, none⟩ = some (.string j0) := (ah b0.o 0).trans rfl; have f1 : X0.cell? ⟨k0, 1, none⟩ = some (.int .i64 d0) := (ah b0.o 1).trans rfl; have g1 := ae b0.o 0; have i1 := ae b0.o 1; have X1 : 0 ≤ (0 : Int) := (by omega); have I1 : 0 < e0.size := (by have : (0 : Int) < (e0.size : Int) := oD_; omega); have Y1 : ∀ h : 0 < e0.size, ((e0[0]'h).toNat : Int) = bt e0 0 := cQ e0 0; clear X1; have qi22 : (0 < (e0.size : Int)) = True := Aa oD_; replace I1 := Aa I1; have Z1 : 0 ≤ (1 : Int) := (by omega); have J1 : 1 < e0.size := (by have : (1 : Int) < (e0.size : Int) := oD_; omega); have b2 : ∀ h : 1 < e0.size, ((e0[1]'h).toNat : Int) = bt e0 1 := cQ e0 1; clear Z1; have qi24 : (1 < (e0.size : Int)) = True := Aa oD_; replace J1 := Aa J1; have c2 : 0 ≤ (2 : Int) := (by omega); have K1 : 2 < e0.size := (by have : (2 : Int) < (e0.size : Int) := oD_; omega); have f2 : ∀ h : 2 < e0.size, ((e0[2]'h).toNat : Int) = bt e0 2 := cQ e0 2; clear c2; have qi26 : (2 < (e0.size : Int)) = True := Aa oD_; replace K1 := Aa K1) | (refine li_ 60 .i64 3 z1 fun g2 X2 ho_ hb => ?_; obtain ⟨n0, M0, b0, f0, HB⟩ := b_ (vj (by refine kR_ ?_; exact (va (va (vt (vt (vt (vt (vr (vr n0.o f0.o (by decide)) b0.o (by decide)) (fun _ hk => hk.1.2) (.string x0)) (fun _ hk => hk.1.2) (.int .i64 C0)) (fun _ hk => hk.2) _) (fun _ hk => hk.2) _) (fun _ h_ => h_.1)) (fun _ h_ => h_.1))) (vg ho_) hb) <| b_ (vb (vp ho_ (vE (by refine kR_ ?_; exact (va (va (vt (vt (vt (vt (vr (vr n0.o f0.o (by decide)) b0.o (by decide)) (fun _ hk => hk.1.2) (.string x0)) (fun _ hk => hk.1.2) (.int .i64 C0)) (fun _ hk => hk.2) _) (fun _ hk => hk.2) _) (fun _ h_ => h_.1)) (fun _ h_ => h_.1))))) (au ((u2_ B0.o F0.o)))) <| b_ (d8 (g := k0) (o := .cells #[.string x0, .int .i64 C0] 96 (0, 0)) (by refine kK_ ?_; refine bO (cs := #[.string x0, .int .i64 d0]) ?_ 1 _ rfl; refine kK_ ?_; refine bO (cs := #[.string j0, .int .i64 d0]) ?_ 0 _ rfl; refine kK_ ?_; refine dr ?_ p0.o _; refine kK_ ?_; refine dr ?_ p0.o _; exact rK_ b0.o) hb) <| b_ (d8 (g := v0) (o := .cells #[.string x0, .int .i64 C0] 96 (0, 0)) (by refine kK_ ?_; refine dr ?_ q0.o _; refine kK_ ?_; refine dr ?_ q0.o _; refine kK_ ?_; refine bO (cs := #[.string x0, .int .i64 0]) ?_ 1 _ rfl; refine kK_ ?_; refine bO (cs := #[.string (⟨#[]⟩ : ByteArray), .int .i64 0]) ?_ 0 _ rfl; exact rK_ f0.o) hb) <| sB_; obtain ⟨F1, G1, A1⟩ := uY M0.o; subst A1)); try go_wp2_with (first | (go_at_call 94; refine mb_ (al.calls _ _ _ _ _ _ _ _ B2.o) fun V2 hb => ?_; obtain ⟨n0, b0, HB⟩ := n_ (fR_ n0) <| n_ (fK_ b0) <| sB_) | (refine bq_ 11 #[.string (⟨#[]⟩ : ByteArray), .int .i64 0] 96 fun v0 X0 hg hb HB f0 F0 => ?_; obtain ⟨n0, b0, p0, q0⟩ := n_ (fR_ n0) <| n_ (fK_ b0) <| b_ (by rw [hg]; exact Nat.ne_of_lt (eq (g := k0) (o := .cells #[.string j0, .int .i64 d0] 96 (0, 0)) (rK_ b0.o)) : k0 ≠ v0) <| c_ (by rw [hg]; exact Nat.ne_of_gt (eq (g := k0) (o := .cells #[.string j0, .int .i64 d0] 96 (0, 0)) (rK_ b0.o)) : v0 ≠ k0); clear hg; have hnb30 := q0.o; have hnc30 := p0.o; have Y0 : X0.cell? ⟨v0, 0, none⟩ = some (.string (⟨#[]⟩ : ByteArray)) := (ah f0.o 0).trans rfl; have Z0 : X0.cell? ⟨v0, 1, none⟩ = some (.int .i64 0) := (ah f0.o 1).trans rfl; have b1 := ae f0.o 0; have c1 := ae f0.o 1; have e1 : X0.cell? ⟨k0, 0, none⟩ = some (.string j0) := (ah b0.o 0).trans rfl; have f1 : X0.cell? ⟨k0, 1, none⟩ = some (.int .i64 d0) := (ah b0.o 1).trans rfl; have g1 := ae b0.o 0; have i1 := ae b0.o 1; have X1 : 0 ≤ (0 : Int) := (by omega); have I1 : 0 < e0.size := (by have : (0 : Int) < (e0.size : Int) := oD_; omega); have Y1 : ∀ h : 0 < e0.size, ((e0[0]'h).toNat : Int) = bt e0 0 := cQ e0 0; clear X1; have qi22 : (0 < (e0.size : Int)) = True := Aa oD_; replace I1 := Aa I1; have Z1 : 0 ≤ (1 : Int) := (by omega); have J1 : 1 < e0.size := (by have : (1 : Int) < (e0.size : Int) := oD_; omega); have b2 : ∀ h : 1 < e0.size, ((e0[1]'h).toNat : Int) = bt e0 1 := cQ e0 1; clear Z1; have qi24 : (1 < (e0.size : Int)) = True := Aa oD_; replace J1 := Aa J1; have c2 : 0 ≤ (2 : Int) := (by omega); have K1 : 2 < e0.size := (by have : (2 : Int) < (e0.size : Int) := oD_; omega); have f2 : ∀ h : 2 < e0.size, ((e0[2]'h).toNat : Int) = bt e0 2 := cQ e0 2; clear c2; have qi26 : (2 < (e0.size : Int)) = True := Aa oD_; replace K1 := Aa K1) | (refine li_ 60 .i64 3 z1 fun g2 X2 ho_ hb => ?_; obtain ⟨n0, M0, b0, f0, HB⟩ := b_ (vj (by refine kR_ ?_; exact (va (va (vt (vt (vt (vt (vr (vr n0.o f0.o (by decide)) b0.o (by decide)) (fun _ hk => hk.1.2) (.string x0)) (fun _ hk => hk.1.2) (.int .i64 C0)) (fun _ hk => hk.2) _) (fun _ hk => hk.2) _) (fun _ h_ => h_.1)) (fun _ h_ => h_.1))) (vg ho_) hb) <| b_ (vb (vp ho_ (vE (by refine kR_ ?_; exact (va (va (vt (vt (vt (vt (vr (vr n0.o f0.o (by decide)) b0.o (by decide)) (fun _ hk => hk.1.2) (.string x0)) (fun _ hk => hk.1.2) (.int .i64 C0)) (fun _ hk => hk.2) _) (fun _ hk => hk.2) _) (fun _ h_ => h_.1)) (fun _ h_ => h_.1))))) (au ((u2_ B0.o F0.o)))) <| b_ (d8 (g := k0) (o := .cells #[.string x0, .int .i64 C0] 96 (0, 0)) (by refine kK_ ?_; refine bO (cs := #[.string x0, .int .i64 d0]) ?_ 1 _ rfl; refine kK_ ?_; refine bO (cs := #[.string j0, .int .i64 d0]) ?_ 0 _ rfl; refine kK_ ?_; refine dr ?_ p0.o _; refine kK_ ?_; refine dr ?_ p0.o _; exact rK_ b0.o) hb) <| b_ (d8 (g := v0) (o := .cells #[.string x0, .int .i64 C0] 96 (0, 0)) (by refine kK_ ?_; refine dr ?_ q0.o _; refine kK_ ?_; refine dr ?_ q0.o _; refine kK_ ?_; refine bO (cs := #[.string x0, .int .i64 0]) ?_ 1 _ rfl; refine kK_ ?_; refine bO (cs := #[.string (⟨#[]⟩ : ByteArray), .int .i64 0]) ?_ 0 _ rfl; exact rK_ f0.o) hb) <| sB_; obtain ⟨F1, G1, A1⟩ := uY M0.o; subst A1)))
  go_loopg [9, 62] V1 (fun kq v9 t3 w' => ∃ (H0 : List Int) (E0 : Int) (r0 : Int), v9 = .int .i64 E0 ∧ t3 = .int .i64 r0 ∧ aa (am.l1 kq H0 E0 I0 G0 (G0.length : Int) r0 x0 C0 = some r) ∧ aa (kq ≤ V1) ∧ aa (Kd.R (Kd.int .i64) 3 w' w.heap.size (fun k_ => some k_ ≠ ((.slice F1 G0.length G1) : Value).ownBlock) p1 H0) ∧ aa (Kd.R (Kd.int .i64) 3 w' w.heap.size (fun k_ => some k_ ≠ (p1 : Value).ownBlock) (.slice F1 G0.length G1) G0) ∧ aa (w'.heap[k0]? = some (.cells #[.string x0, .int .i64 C0] 96 (0, 0))) ∧ aa (w'.heap[v0]? = some (.cells #[.string x0, .int .i64 C0] 96 (0, 0))) ∧ aa (Below w.heap.size w w'))
  case atStart => exact ⟨(q1), (r1), (0), f0_, f0_, H', ⟨Ca _⟩, ⟨by refine kR_ ?_; exact va n0.o (fun _ hk => hk.2)⟩, ⟨by refine kR_ ?_; exact va M0.o (fun _ hk => hk.2)⟩, ⟨by refine kK_ ?_; exact b0.o⟩, ⟨by refine kK_ ?_; exact f0.o⟩, ⟨(u2_ B0.o F0.o)⟩⟩
  clear H'
  obtain ⟨H0, E0, r0, rfl, rfl, HA, L1, n0, y0, b0, f0, HB⟩ := hrel
  rcases gk with _ | k3
  ·exact absurd HA.o (by simp [am.l1])
  have H := HA.o
  clear HA
  simp only [am.l1] at H
  by_cases R1 : r0 < (G0.length : Int)
  rotate_left
  ·rw [Ga R1] at H
   have i2 := za R1
   clear R1
   have H' := c_ H
   clear H
   go_wp2
   repeat (go_quiet (fail); try go_wp2)
   go_roundg k3
   case measure => have := D1.o; have := P0.o; have := L1.o; omega
   case rel => exact ⟨(H0), (E0), (wrap64 (I0 + 1)), (x0), (C0), f0_, f0_, H', ⟨by have := D1.o; have := P0.o; have := L1.o; omega⟩, ⟨by refine kR_ ?_; exact va n0.o (fun _ hk => trivial)⟩, ⟨by refine kK_ ?_; exact b0.o⟩, ⟨(u2_ B0.o F0.o)⟩⟩
  rw [Fa R1] at H
  have i2 := ya R1
  clear R1
  obtain ⟨Y2, H⟩ := iD_ H
  obtain ⟨Z2, H⟩ := iD_ H
  by_cases S1 : (rd G0 r0) < 3329
  rotate_left
  ·rw [Ga S1] at H
   have j2 := za S1
   clear S1
   have H' := c_ H
   clear H
   have J0 : 0 ≤ (r0 : Int) := oD_
   have K0 : r0 < (G0.length : Int) := oD_
   obtain ⟨M1, B1, m1⟩ := uZ (uX y0.o).2.2 r0 J0 K0
   cases B1
   replace J0 := Aa J0
   replace K0 := Aa K0
   go_wp2
   repeat (go_quiet (fail); try go_wp2)
   go_roundg k3
   case measure => have := D1.o; have := P0.o; have := L1.o; omega
   case rel => exact ⟨(H0), (E0), (wrap64 (r0 + 1)), f0_, f0_, H', ⟨by have := D1.o; have := P0.o; have := L1.o; omega⟩, ⟨rR_ n0.o⟩, ⟨rR_ y0.o⟩, ⟨by refine kK_ ?_; exact b0.o⟩, ⟨by refine kK_ ?_; exact f0.o⟩, ⟨(u2_ B0.o F0.o)⟩⟩
  rw [Fa S1] at H
  have j2 := ya S1
  clear S1
  by_cases T1 : E0 < 256
  rotate_left
  ·rw [Ga T1] at H
   have l2 := za T1
   clear T1
   have H' := c_ H
   clear H
   have J0 : 0 ≤ (r0 : Int) := oD_
   have K0 : r0 < (G0.length : Int) := oD_
   obtain ⟨M1, B1, m1⟩ := uZ (uX y0.o).2.2 r0 J0 K0
   cases B1
   replace J0 := Aa J0
   replace K0 := Aa K0
   go_wp2
   repeat (go_quiet (fail); try go_wp2)
   go_roundg k3
   case measure => have := D1.o; have := P0.o; have := L1.o; omega
   case rel => exact ⟨(H0), (E0), (wrap64 (r0 + 1)), f0_, f0_, H', ⟨by have := D1.o; have := P0.o; have := L1.o; omega⟩, ⟨rR_ n0.o⟩, ⟨rR_ y0.o⟩, ⟨by refine kK_ ?_; exact b0.o⟩, ⟨by refine kK_ ?_; exact f0.o⟩, ⟨(u2_ B0.o F0.o)⟩⟩
  rw [Fa T1] at H
  have l2 := ya T1
  clear T1
  obtain ⟨b3, H⟩ := iD_ H
  obtain ⟨c3, H⟩ := iD_ H
  obtain ⟨C2, n1⟩ : ∃ y_ : List Int, y_ = (H0.set (E0 : Int).toNat (rd G0 r0)) := ⟨_, rfl⟩
  first | replace H := yb_ n1 H | rw [← n1] at H
  have C1 := c_ n1
  clear n1
  have H' := c_ H
  clear H
  have J0 : 0 ≤ (r0 : Int) := oD_
  have K0 : r0 < (G0.length : Int) := oD_
  obtain ⟨M1, B1, m1⟩ := uZ (uX y0.o).2.2 r0 J0 K0
  cases B1
  replace J0 := Aa J0
  replace K0 := Aa K0
  have D2 : 0 ≤ (E0 : Int) := oD_
  have E2 : (E0 : Int) < ((H0.length : Int) : Int) := oD_
  obtain ⟨go43, t1, m2, n2, gl43, cl43, HG43⟩ := vq n0.o (by omega)
  (first | cases m2 | (injection m2 with ea_ en_ ec_; (first | subst ea_ | (injection ea_ with ea_; subst ea_)); subst ec_; clear en_))
  have P1 := c_ n2
  have GG43 := c_ HG43
  clear n2 gl43 HG43
  obtain ⟨F2, hf43_0⟩ := vc 0 n0.o (E0 : Int) D2 E2
  replace D2 := Aa D2
  replace E2 := Aa E2
  have HP44 := vm n0.o (E0 : Int) (rd G0 r0)
  go_wp2_with (first | ((refine cx (t := 3) (p := 75) rfl ?_); (try (rw [dh wr]; generalize hq_ : World.drewN wr _ = wr; obtain ⟨n0, y0, b0, f0, HB⟩ := b_ (we hq_ n0.o) <| b_ (we hq_ y0.o) <| b_ (blk_at hq_ b0.o) <| b_ (blk_at hq_ f0.o) <| c_ (fR hq_ HB.o); (try (have HP44 := vm n0.o (E0 : Int) (rd G0 r0))))); refine st_ 3 75 HP44 C1 P1 fun e3 hw hp_ hg HBn => ?_; have n0_ := c_ (hp_); have n1_ := c_ (vx (v := (.slice (some ⟨go43, 0, none⟩) H0.length t1)) (v1 := (.slice (some ⟨go43, 0, none⟩) H0.length t1)) (ok := (fun _ => True)) (by refine kR_ ?_; exact va y0.o (fun _ hk => ⟨trivial, hk⟩)) hg (.inl rfl)); have n2_ := c_ (fx (g := k0) (o := .cells #[.string x0, .int .i64 C0] 96 (0, 0)) (rK_ b0.o) hg (wq n0.o b0.o (by decide))); have n3_ := c_ (fx (g := v0) (o := .cells #[.string x0, .int .i64 C0] 96 (0, 0)) (rK_ f0.o) hg (wq n0.o f0.o (by decide))); have n4_ := c_ (HBn.o); replace n0 := n0_; replace y0 := n1_; replace b0 := n2_; replace f0 := n3_; replace HB := n4_; clear n0_ n1_ n2_ n3_ n4_; clear hg hw hp_))
  repeat (go_quiet (first | ((refine cx (t := 3) (p := 75) rfl ?_); (try (rw [dh wr]; generalize hq_ : World.drewN wr _ = wr; obtain ⟨n0, y0, b0, f0, HB⟩ := b_ (we hq_ n0.o) <| b_ (we hq_ y0.o) <| b_ (blk_at hq_ b0.o) <| b_ (blk_at hq_ f0.o) <| c_ (fR hq_ HB.o); (try (have HP44 := vm n0.o (E0 : Int) (rd G0 r0))))); refine st_ 3 75 HP44 C1 P1 fun e3 hw hp_ hg HBn => ?_; have n0_ := c_ (hp_); have n1_ := c_ (vx (v := (.slice (some ⟨go43, 0, none⟩) H0.length t1)) (v1 := (.slice (some ⟨go43, 0, none⟩) H0.length t1)) (ok := (fun _ => True)) (by refine kR_ ?_; exact va y0.o (fun _ hk => ⟨trivial, hk⟩)) hg (.inl rfl)); have n2_ := c_ (fx (g := k0) (o := .cells #[.string x0, .int .i64 C0] 96 (0, 0)) (rK_ b0.o) hg (wq n0.o b0.o (by decide))); have n3_ := c_ (fx (g := v0) (o := .cells #[.string x0, .int .i64 C0] 96 (0, 0)) (rK_ f0.o) hg (wq n0.o f0.o (by decide))); have n4_ := c_ (HBn.o); replace n0 := n0_; replace y0 := n1_; replace b0 := n2_; replace f0 := n3_; replace HB := n4_; clear n0_ n1_ n2_ n3_ n4_; clear hg hw hp_)); try go_wp2_with (first | ((refine cx (t := 3) (p := 75) rfl ?_); (try (rw [dh wr]; generalize hq_ : World.drewN wr _ = wr; obtain ⟨n0, y0, b0, f0, HB⟩ := b_ (we hq_ n0.o) <| b_ (we hq_ y0.o) <| b_ (blk_at hq_ b0.o) <| b_ (blk_at hq_ f0.o) <| c_ (fR hq_ HB.o); (try (have HP44 := vm n0.o (E0 : Int) (rd G0 r0))))); refine st_ 3 75 HP44 C1 P1 fun e3 hw hp_ hg HBn => ?_; have n0_ := c_ (hp_); have n1_ := c_ (vx (v := (.slice (some ⟨go43, 0, none⟩) H0.length t1)) (v1 := (.slice (some ⟨go43, 0, none⟩) H0.length t1)) (ok := (fun _ => True)) (by refine kR_ ?_; exact va y0.o (fun _ hk => ⟨trivial, hk⟩)) hg (.inl rfl)); have n2_ := c_ (fx (g := k0) (o := .cells #[.string x0, .int .i64 C0] 96 (0, 0)) (rK_ b0.o) hg (wq n0.o b0.o (by decide))); have n3_ := c_ (fx (g := v0) (o := .cells #[.string x0, .int .i64 C0] 96 (0, 0)) (rK_ f0.o) hg (wq n0.o f0.o (by decide))); have n4_ := c_ (HBn.o); replace n0 := n0_; replace y0 := n1_; replace b0 := n2_; replace f0 := n3_; replace HB := n4_; clear n0_ n1_ n2_ n3_ n4_; clear hg hw hp_)))
  go_roundg k3
  case measure => have := D1.o; have := P0.o; have := L1.o; omega
  case rel => exact ⟨(C2), (wrap64 (E0 + 1)), (wrap64 (r0 + 1)), f0_, f0_, H', ⟨by have := D1.o; have := P0.o; have := L1.o; omega⟩, ⟨rR_ n0.o⟩, ⟨by refine kR_ ?_; exact va y0.o (fun _ hk => hk.2)⟩, ⟨by refine kK_ ?_; exact b0.o⟩, ⟨by refine kK_ ?_; exact f0.o⟩, ⟨(u2_ B0.o F0.o)⟩⟩
 ·replace p2 := Ea p2
  subst p2
  replace H := iF_ H
  obtain rfl := Ba H
  go_wp2
  repeat (go_quiet (fail); try go_wp2)
  go_ret
  exact ⟨_, f1_, rR_ n0.o, hS_ B0.o⟩
def bV.l0 : Nat → ByteArray → Int → Bool → List (List Int) → Int → Option ((List (List Int)))
 | 0, _, _, _, _, _ => none
 | k + 1, x0, x1, x2, x7, x9 => if x9 < 2 then (if x2 = true then ((am.f k x0 x1 x9).bind fun t380 => (if x7.length < 5864062014805 then (bV.l0 k x0 x1 x2 (x7 ++ [t380]) (wrap64 (x9 + 1))) else (none))) else ((am.f k x0 x9 x1).bind fun t386 => (if x7.length < 5864062014805 then (bV.l0 k x0 x1 x2 (x7 ++ [t386]) (wrap64 (x9 + 1))) else (none)))) else (some x7)
def bV.f (k : Nat) (a0 : ByteArray) (a1 : Int) (a2 : Bool) : Option ((List (List Int))) := bV.l0 k a0 a1 a2 ([] : List (List Int)) 0
theorem bV.mono_l : ∀ k, (∀ y0 y1 y2 y3 y4, LeO (bV.l0 k y0 y1 y2 y3 y4) (bV.l0 (k + 1) y0 y1 y2 y3 y4))
 | 0 => fun _ _ _ _ _ r h => by simp [bV.l0] at h
 | k + 1 => by
  have ih0 := bV.mono_l k
  intros; unfold bV.l0; exact o2_ ih0 am.mono
theorem bV.mono : ∀ a0 a1 a2 k, LeO (bV.f k a0 a1 a2) (bV.f (k + 1) a0 a1 a2) := by
 intro a0 a1 a2 k
 have ih0 := bV.mono_l k
 unfold bV.f
 exact o2_ ih0 am.mono
theorem bV.calls (k : Nat) (a0 : ByteArray) (a1 : Int) (a2 : Bool) (r : List (List Int)) (w : World) (h : bV.f k a0 a1 a2 = some r) :
  Calls Tryz.prog 24 #[.string a0, .int .i64 a1, .bool a2] w fun e w' => ∃ N0 : Value, e = .returned (N0) ∧ Kd.S (Kd.slice 3 (Kd.int .i64)) 45 w' w.heap.size (fun _ => True) N0 r ∧ Below w.heap.size w w' := by
 have HB := c_ (Da w.heap.size w)
 delta bV.f at h
 have H := h
 clear h
 have H' := c_ H
 clear H
 go_enter Tryz.func24, Tryz.ntmps24
 go_wp2
 go_loopg [7, 9] k (fun kq v7 v9 w' => ∃ (d0 : List (List Int)) (j0 : Int), v9 = .int .i64 j0 ∧ aa (bV.l0 kq a0 a1 a2 d0 j0 = some r) ∧ aa (kq ≤ k) ∧ aa (Kd.S (Kd.slice 3 (Kd.int .i64)) 45 w' w.heap.size (fun _ => True) v7 d0) ∧ aa (Below w.heap.size w w'))
 case atStart => exact ⟨(([] : List (List Int))), (0), f0_, H', ⟨Ca _⟩, ⟨by first | exact vC _ _ _ _ _ | exact Kd.N_nil _ _ _ _ _ | exact Kd.V_nil _ _ _ _ _ | exact Kd.Q_nil _ _ _ _ _ | exact vB _ _ _ _ _⟩, ⟨hB_⟩⟩
 clear H'
 obtain ⟨d0, j0, rfl, HA, G0, b0, HB⟩ := hrel
 rcases gk with _ | k1
 ·exact absurd HA.o (by simp [bV.l0])
 have H := HA.o
 clear HA
 simp only [bV.l0] at H
 by_cases c4 : j0 < 2
 rotate_left
 ·rw [Ga c4] at H
  have H0 := za c4
  clear c4
  obtain rfl := Ba H
  go_wp2
  go_ret
  exact ⟨_, f1_, by refine kS_ ?_; exact b0.o, hB_⟩
 rw [Fa c4] at H
 have H0 := ya c4
 clear c4
 by_cases c5 : a2 = true
 ·subst c5
  replace H := iT_ H
  obtain ⟨p0, A6, H⟩ := bN_ H
  obtain ⟨c7, H⟩ := iN_ H
  have I0 := c_ c7
  clear c7
  obtain ⟨J0, e0⟩ : ∃ y_ : List (List Int), y_ = (d0 ++ [p0]) := ⟨_, rfl⟩
  first | replace H := yb_ e0 H | rw [← e0] at H
  have r0 := c_ e0
  clear e0
  have H' := c_ H
  clear H
  go_wp2_with (first | (refine gR_ (k_ 17 Tryz.func55) (am.calls _ _ _ _ _ _ A6.o) fun P0 w8 ho_ hb => ?_; obtain ⟨b0, k0, HB⟩ := n_ (dg b0) <| n_ (lR_ ho_) <| sB_; obtain ⟨v0, x0, K0⟩ := uY k0.o; subst K0) | ((refine cH (b := .append) (xs := #[.tmp 13, .tmp 18]) rfl ?_); at_builtin; refine vw (Kd.slice 3 (Kd.int .i64)) (w0 := w) w.heap.size rfl (.tmp 13) (.tmp 18) 41 45 (.slice none 0 0) 24 rfl Tryz.underlying41 gN rfl (by decide) (by omega) u7 d0 p0 [.slice v0 p0.length x0] (fun _ => True) (fun k_ => some k_ = (.slice v0 p0.length x0 : Value).ownBlock) rfl rfl ?aP (fun k_ hk_ => ((va (ok' := fun k_ => ((fun _ => True)) k_ ∧ some k_ ≠ (u7 : Value).ownBlock) (vh (k0.o) (vi b0.o) (by decide)) (fun k_ hk => ⟨trivial, hk.2⟩))).1 k_ hk_.symm) ?aF ?aO ?aB ?aS ?aL ?_; (case aP => exact vP (va (vA rfl (va (ok' := fun k_ => ((fun _ => True)) k_ ∧ some k_ ≠ (u7 : Value).ownBlock) (vh (k0.o) (vi b0.o) (by decide)) (fun k_ hk => ⟨trivial, hk.2⟩))) (fun _ h_ => h_))); (case aB => exact (hB_)); (case aF => exact (fun _ _ => trivial)); (case aO => exact (by refine kS_ ?_; exact vk b0.o (fun k_ hk => ⟨trivial, fun e_ => hk.2 e_⟩))); (case aS => exact (au (hB_))); (case aL => have := I0.o; omega); intro Q0 w9 ho hb hg hat; rw [← r0.o] at ho; obtain ⟨HB, y0⟩ := b_ (hb) <| c_ (ho); clear ho hb hg hat))
  go_roundg k1
  case measure => have := G0.o; omega
  case rel => exact ⟨(J0), (wrap64 (j0 + 1)), f0_, H', ⟨by have := G0.o; omega⟩, ⟨rS_ y0.o⟩, ⟨hB_⟩⟩
 ·replace c5 := Ea c5
  subst c5
  replace H := iF_ H
  obtain ⟨q0, R0, H⟩ := bN_ H
  obtain ⟨O0, H⟩ := iN_ H
  have B0 := c_ O0
  clear O0
  obtain ⟨L0, f0⟩ : ∃ y_ : List (List Int), y_ = (d0 ++ [q0]) := ⟨_, rfl⟩
  first | replace H := yb_ f0 H | rw [← f0] at H
  have C0 := c_ f0
  clear f0
  have H' := c_ H
  clear H
  go_wp2_with (first | (refine gR_ (k_ 24 Tryz.func55) (am.calls _ _ _ _ _ _ R0.o) fun S0 U0 ho_ hb => ?_; obtain ⟨b0, n0, HB⟩ := n_ (dg b0) <| n_ (lR_ ho_) <| sB_; obtain ⟨D0, E0, M0⟩ := uY n0.o; subst M0) | ((refine cH (b := .append) (xs := #[.tmp 20, .tmp 25]) rfl ?_); at_builtin; refine vw (Kd.slice 3 (Kd.int .i64)) (w0 := w) w.heap.size rfl (.tmp 20) (.tmp 25) 41 45 (.slice none 0 0) 24 rfl Tryz.underlying41 gN rfl (by decide) (by omega) u7 d0 q0 [.slice D0 q0.length E0] (fun _ => True) (fun k_ => some k_ = (.slice D0 q0.length E0 : Value).ownBlock) rfl rfl ?aP (fun k_ hk_ => ((va (ok' := fun k_ => ((fun _ => True)) k_ ∧ some k_ ≠ (u7 : Value).ownBlock) (vh (n0.o) (vi b0.o) (by decide)) (fun k_ hk => ⟨trivial, hk.2⟩))).1 k_ hk_.symm) ?aF ?aO ?aB ?aS ?aL ?_; (case aP => exact vP (va (vA rfl (va (ok' := fun k_ => ((fun _ => True)) k_ ∧ some k_ ≠ (u7 : Value).ownBlock) (vh (n0.o) (vi b0.o) (by decide)) (fun k_ hk => ⟨trivial, hk.2⟩))) (fun _ h_ => h_))); (case aB => exact (hB_)); (case aF => exact (fun _ _ => trivial)); (case aO => exact (by refine kS_ ?_; exact vk b0.o (fun k_ hk => ⟨trivial, fun e_ => hk.2 e_⟩))); (case aS => exact (au (hB_))); (case aL => have := B0.o; omega); intro T0 V0 ho hb hg hat; rw [← C0.o] at ho; obtain ⟨HB, F0⟩ := b_ (hb) <| c_ (ho); clear ho hb hg hat))
  go_roundg k1
  case measure => have := G0.o; omega
  case rel => exact ⟨(L0), (wrap64 (j0 + 1)), f0_, H', ⟨by have := G0.o; omega⟩, ⟨rS_ F0.o⟩, ⟨hB_⟩⟩
mutual
def aE.j0 : Nat → ByteArray → ByteArray → ByteArray → Bool → Option (ByteArray × Bool)
 | 0, _, _, _, _ => none
 | k + 1, x0, x1, x2, x29 => if x29 = true then (some ((⟨#[]⟩ : ByteArray), false)) else ((bg.f k x0).bind fun bt723 => (if 768 ≤ (x0.size : Int) then ((bs.f k x2 0).bind fun t727 => ((bZ.f k t727).bind fun t730 => ((bs.f k x2 2).bind fun t733 => (aE.l0 k x1 x2 bt723.1 (x0.extract 768 x0.size) t730 t733 (⟨#[]⟩ : ByteArray) 0)))) else (none)))
def aE.l0 : Nat → ByteArray → ByteArray → List (List Int) → ByteArray → List (List Int) → List (List Int) → ByteArray → Int → Option (ByteArray × Bool)
 | 0, _, _, _, _, _, _, _, _ => none
 | k + 1, x1, x2, x8, x10, x11, x12, x13, x42 => if x42 < 2 then ((bV.f k x10 x42 true).bind fun t736 => ((bB.f k t736 x11).bind fun t739 => ((ag.f k t739).bind fun t742 => (if 0 ≤ x42 then (if x42 < (x12.length : Int) then ((bD.f k t742 (dE x12 x42)).bind fun t746 => ((bj.f k t746 10).bind fun t749 => ((aq.f k t749 10).bind fun t752 => (if x13.size + t752.size ≤ 9223372036854775807 then (aE.l0 k x1 x2 x8 x10 x11 x12 (x13 ++ t752) (wrap64 (x42 + 1))) else (none))))) else (none)) else (none))))) else ((bB.f k x8 x11).bind fun t753 => ((ag.f k t753).bind fun t756 => ((bN.f k x2 4).bind fun t759 => ((bD.f k t756 t759).bind fun t762 => ((bC.f k x1).bind fun t765 => ((bD.f k t762 t765).bind fun t768 => ((bj.f k t768 4).bind fun t771 => ((aq.f k t771 4).bind fun t774 => (if x13.size + t774.size ≤ 9223372036854775807 then (some (x13 ++ t774, true)) else (none))))))))))
end
def aE.f (k : Nat) (a0 : ByteArray) (a1 : ByteArray) (a2 : ByteArray) : Option (ByteArray × Bool) := (ch.f k a0).bind fun t722 => (if t722 = true then (if (a1.size : Int) = 32 then (aE.j0 k a0 a1 a2 ((a2.size : Int) != 32)) else (aE.j0 k a0 a1 a2 true)) else (aE.j0 k a0 a1 a2 true))
theorem aE.mono_l : ∀ k, (∀ y0 y1 y2 y3, LeO (aE.j0 k y0 y1 y2 y3) (aE.j0 (k + 1) y0 y1 y2 y3)) ∧ (∀ y0 y1 y2 y3 y4 y5 y6 y7, LeO (aE.l0 k y0 y1 y2 y3 y4 y5 y6 y7) (aE.l0 (k + 1) y0 y1 y2 y3 y4 y5 y6 y7))
 | 0 => ⟨fun _ _ _ _ r h => by simp [aE.j0] at h, fun _ _ _ _ _ _ _ _ r h => by simp [aE.l0] at h⟩
 | k + 1 => by
  obtain ⟨ih0, ih1⟩ := aE.mono_l k
  refine ⟨?_, ?_⟩ <;> (intros; (first | unfold aE.j0 | unfold aE.l0); exact uk ih0 ih1 ag.mono bD.mono ch.mono bN.mono bC.mono bB.mono bZ.mono aq.mono bg.mono bV.mono bs.mono bj.mono)
theorem aE.mono : ∀ a0 a1 a2 k, LeO (aE.f k a0 a1 a2) (aE.f (k + 1) a0 a1 a2) := by
 intro a0 a1 a2 k
 obtain ⟨ih0, ih1⟩ := aE.mono_l k
 unfold aE.f
 exact uk ih0 ih1 ag.mono bD.mono ch.mono bN.mono bC.mono bB.mono bZ.mono aq.mono bg.mono bV.mono bs.mono bj.mono
def aE.T10 : Bool × List (List Nat × List Nat) := (true, [([], []), ([], []), ([0, 1], [0, 1]), ([], []), ([2, 3, 2], [2, 3]), ([4, 4], [4]), ([], []), ([], []), ([6, 7], [6, 7]), ([8], [8]), ([5, 9, 5], [5, 9]), ([10, 10, 0, 1, 2, 3, 4, 5, 6, 7, 8, 9, 10], [10])])
def aE.B10 : List Nat := [0, 0, 3, 0, 15, 31, 0, 0, 192, 448, 1023, 2047]
theorem aE.tab10 : eu .any (fu Tryz.f32 10) = aE.T10 := by kernel_rfl
theorem aE.bits10 : dd aE.T10.2 aE.B10 = true := by kernel_rfl
theorem aE.calls (k : Nat) (a0 : ByteArray) (a1 : ByteArray) (a2 : ByteArray) (r1 : ByteArray) (r2 : Bool) (w : World) (h : aE.f k a0 a1 a2 = some (r1, r2)) :
  Calls Tryz.prog 32 #[.string a0, .string a1, .string a2] w fun e w' => e = .returned (.tuple #[.string r1, .bool r2]) ∧ Below w.heap.size w w' := by
 have HB := c_ (Da w.heap.size w)
 delta aE.f at h
 have H := h
 clear h
 have C1 := c_ H
 clear H
 go_enter Tryz.func32, Tryz.ntmps32
 go_upto_region 1 with (fail)
 go_cut [29] (fun E2 wc => ∃ (kq : Nat) (O0 : Bool), E2 = .bool O0 ∧ aa (aE.j0 kq a0 a1 a2 O0 = some (r1, r2)) ∧ aa (kq ≤ k) ∧ aa (Below w.heap.size w wc))
 case first =>
  have H := C1.o
  clear C1
  obtain ⟨D1, A5, H⟩ := bN_ H
  by_cases c6 : D1 = true
  ·subst c6
   replace H := iT_ H
   by_cases c7 : (a1.size : Int) = 32
   ·rw [Fa c7] at H
    have S0 : ((a1.size : Int) == 32) = true := beq_iff_eq.mpr c7
    have E1 : ((a1.size : Int) != 32) = false := bne_eq_false_iff_eq.mpr c7
    clear c7
    (first | rw [S0] | (simp only [bq, ct]; rw [S0]) | skip)
    have H' := c_ H
    clear H
    go_wp2_with (first | (refine gb_ (k_ 18 Tryz.func8) (ch.calls _ _ _ _ A5.o) fun w8 HB => ?_))
    go_meet
    case rel => exact ⟨_, (((a2.size : Int) != 32)), f0_, H', ⟨by first | omega | exact Ca _⟩, ⟨hB_⟩⟩
   rw [Ga c7] at H
   have S0 : ((a1.size : Int) == 32) = false := beq_eq_false_iff_ne.mpr c7
   have E1 : ((a1.size : Int) != 32) = true := bne_iff_ne.mpr c7
   (first | rw [S0] | (simp only [bq, ct]; rw [S0]) | skip)
   have H' := c_ H
   clear H
   go_wp2_with (first | (refine gb_ (k_ 18 Tryz.func8) (ch.calls _ _ _ _ A5.o) fun w9 HB => ?_))
   go_meet
   case rel => exact ⟨_, (true), f0_, H', ⟨by first | omega | exact Ca _⟩, ⟨hB_⟩⟩
  ·replace c6 := Ea c6
   subst c6
   replace H := iF_ H
   have H' := c_ H
   clear H
   go_wp2_with (first | (refine gb_ (k_ 18 Tryz.func8) (ch.calls _ _ _ _ A5.o) fun n4 HB => ?_))
   go_meet
   case rel => exact ⟨_, (true), f0_, H', ⟨by first | omega | exact Ca _⟩, ⟨hB_⟩⟩
 clear C1
 obtain ⟨kq, O0, rfl, HA, l2, HB⟩ := hcut
 rcases kq with _ | m2
 ·exact absurd HA.o (by simp [aE.j0])
 have H := HA.o
 clear HA
 simp only [aE.j0] at H
 by_cases B1 : O0 = true
 ·subst B1
  replace H := iT_ H
  simp only [Option.some.injEq, Prod.mk.injEq] at H
  obtain ⟨rfl, rfl⟩ := H
  go_wp2
  go_ret2
  exact ⟨f1_, hB_⟩
 ·replace B1 := Ea B1
  subst B1
  replace H := iF_ H
  obtain ⟨⟨j1, F2⟩, G2, H⟩ := bN_ H
  obtain ⟨F1, H⟩ := iN_ H
  have n2 := Aa F1
  have p2 := ya F1
  clear F1
  obtain ⟨H2, I2, H⟩ := bN_ H
  obtain ⟨V0, J2, H⟩ := bN_ H
  obtain ⟨N0, K2, H⟩ := bN_ H
  have H' := c_ H
  clear H
  go_wp2_with (first | (refine gR_ (k_ 32 Tryz.func31) (bg.calls _ _ _ _ _ G2.o) fun Z0 q4 ho_ hb => ?_; obtain ⟨D0, HB⟩ := n_ (lS_ ho_) <| sB_) | (refine gR_ (k_ 38 Tryz.func20) (bs.calls _ _ _ _ _ I2.o) fun L2 t4 ho_ hb => ?_; obtain ⟨D0, E0, HB⟩ := n_ (ll D0) <| n_ (lS_ (lq ho_ D0)) <| sB_; obtain ⟨M2, N2, G1⟩ := vs E0.o; subst G1) | (refine gR_ (k_ 39 Tryz.func19) (bZ.calls _ _ _ _ _ _ (cR_ (ve E0.o).2.2) ((ve E0.o).2.1) J2.o) fun b1 v4 ho_ hb => ?_; obtain ⟨D0, E0, P0, HB⟩ := n_ (ll D0) <| n_ (ll E0) <| n_ (lS_ (lq (lq ho_ D0) E0)) <| sB_) | (refine gR_ (k_ 41 Tryz.func20) (bs.calls _ _ _ _ _ K2.o) fun c1 w4 ho_ hb => ?_; obtain ⟨D0, E0, P0, l1, HB⟩ := n_ (ll D0) <| n_ (ll E0) <| n_ (ll P0) <| n_ (lS_ (lq (lq (lq ho_ D0) E0) P0)) <| sB_))
  go_loopg [13, 42] m2 (fun kq O2 P2 w' => ∃ (J0 : ByteArray) (r0 : Int), O2 = .string J0 ∧ P2 = .int .i64 r0 ∧ aa (aE.l0 kq a1 a2 j1 (a0.extract 768 a0.size) V0 N0 J0 r0 = some (r1, r2)) ∧ aa (kq ≤ m2) ∧ aa (Kd.S (Kd.slice 3 (Kd.int .i64)) 45 w' w.heap.size (fun k_ => some k_ ≠ (b1 : Value).ownBlock ∧ some k_ ≠ (c1 : Value).ownBlock) Z0 j1) ∧ aa (Kd.S (Kd.slice 3 (Kd.int .i64)) 45 w' w.heap.size (fun k_ => some k_ ≠ (Z0 : Value).ownBlock ∧ some k_ ≠ (c1 : Value).ownBlock) b1 V0) ∧ aa (Kd.S (Kd.slice 3 (Kd.int .i64)) 45 w' w.heap.size (fun k_ => some k_ ≠ (Z0 : Value).ownBlock ∧ some k_ ≠ (b1 : Value).ownBlock) c1 N0) ∧ aa (Below w.heap.size w w'))
  case atStart => exact ⟨((⟨#[]⟩ : ByteArray)), (0), f0_, f0_, H', ⟨Ca _⟩, ⟨by refine kS_ ?_; exact vk D0.o (fun _ hk => ⟨hk.1.2, hk.2⟩)⟩, ⟨by refine kS_ ?_; exact vk P0.o (fun _ hk => ⟨hk.1.1.2, hk.2⟩)⟩, ⟨by refine kS_ ?_; exact vk l1.o (fun _ hk => ⟨hk.1.1.2, hk.2⟩)⟩, ⟨hB_⟩⟩
  clear H'
  obtain ⟨J0, r0, rfl, rfl, HA, q2, k0, b0, d0, HB⟩ := hrel
  rcases gk with _ | k2
  ·exact absurd HA.o (by simp [aE.l0])
  have H := HA.o
  clear HA
  simp only [aE.l0] at H
  by_cases i1 : r0 < 2
  rotate_left
  ·rw [Ga i1] at H
   have m1 := za i1
   clear i1
   obtain ⟨Q2, R2, H⟩ := bN_ H
   obtain ⟨T2, U2, H⟩ := bN_ H
   obtain ⟨V2, X2, H⟩ := bN_ H
   obtain ⟨Y2, Z2, H⟩ := bN_ H
   obtain ⟨b3, c3, H⟩ := bN_ H
   obtain ⟨e3, f3, H⟩ := bN_ H
   obtain ⟨g3, i3, H⟩ := bN_ H
   obtain ⟨H1, l3, H⟩ := bN_ H
   obtain ⟨I1, H⟩ := iN_ H
   have t2 := Aa I1
   have v2 := ya I1
   try have y2 : (9223372036854775807 < J0.size + H1.size) = False := eq_false (Nat.not_lt.2 I1)
   simp only [Option.some.injEq, Prod.mk.injEq] at H
   obtain ⟨rfl, rfl⟩ := H
   obtain ⟨m3, n3, J1⟩ := vs k0.o
   subst J1
   obtain ⟨p3, q3, K1⟩ := vs b0.o
   subst K1
   go_wp2_with (first | (refine gR_ (k_ 64 Tryz.func23) (bB.calls _ _ _ _ _ _ _ _ _ (cR_ (ve k0.o).2.2) ((ve k0.o).2.1) (cR_ (ve b0.o).2.2) ((ve b0.o).2.1) R2.o) fun r3 y4 ho_ hb => ?_; obtain ⟨k0, b0, d0, n0, HB⟩ := n_ (dg k0) <| n_ (dg b0) <| n_ (dg d0) <| n_ (lR_ ho_) <| sB_; obtain ⟨t3, v3, L1⟩ := uY n0.o; subst L1) | (refine gR_ (k_ 65 Tryz.func65) (ag.calls _ _ _ _ _ _ (cR_ (uX n0.o).2.2) ((uX n0.o).2.1) U2.o) fun w3 z4 ho_ hb => ?_; obtain ⟨k0, b0, d0, n0, p0, HB⟩ := n_ (dg k0) <| n_ (dg b0) <| n_ (dg d0) <| n_ (di n0) <| n_ (lR_ (dm ho_ n0)) <| sB_) | (refine gR_ (k_ 67 Tryz.func50) (bN.calls _ _ _ _ _ X2.o) fun y3 A4 ho_ hb => ?_; obtain ⟨k0, b0, d0, n0, p0, q0, HB⟩ := n_ (dg k0) <| n_ (dg b0) <| n_ (dg d0) <| n_ (di n0) <| n_ (di p0) <| n_ (lR_ (dm (dm ho_ n0) p0)) <| sB_; obtain ⟨z3, A3, M1⟩ := uY p0.o; subst M1; obtain ⟨B3, C3, N1⟩ := uY q0.o; subst N1) | (refine gR_ (k_ 68 Tryz.func22) (bD.calls _ _ _ _ _ _ _ _ _ (cR_ (uX p0.o).2.2) ((uX p0.o).2.1) (cR_ (uX q0.o).2.2) ((uX q0.o).2.1) Z2.o) fun D3 B4 ho_ hb => ?_; obtain ⟨k0, b0, d0, n0, p0, q0, v0, HB⟩ := n_ (dg k0) <| n_ (dg b0) <| n_ (dg d0) <| n_ (di n0) <| n_ (di p0) <| n_ (di q0) <| n_ (lR_ (dm (dm (dm ho_ n0) p0) q0)) <| sB_) | (refine gR_ (k_ 70 Tryz.func35) (bC.calls _ _ _ _ c3.o) fun E3 C4 ho_ hb => ?_; obtain ⟨k0, b0, d0, n0, p0, q0, v0, B0, HB⟩ := n_ (dg k0) <| n_ (dg b0) <| n_ (dg d0) <| n_ (di n0) <| n_ (di p0) <| n_ (di q0) <| n_ (di v0) <| n_ (lR_ (dm (dm (dm (dm ho_ n0) p0) q0) v0)) <| sB_; obtain ⟨F3, G3, O1⟩ := uY v0.o; subst O1; obtain ⟨H3, I3, P1⟩ := uY B0.o; subst P1) | (refine gR_ (k_ 71 Tryz.func22) (bD.calls _ _ _ _ _ _ _ _ _ (cR_ (uX v0.o).2.2) ((uX v0.o).2.1) (cR_ (uX B0.o).2.2) ((uX B0.o).2.1) f3.o) fun J3 D4 ho_ hb => ?_; obtain ⟨k0, b0, d0, n0, p0, q0, v0, B0, H0, HB⟩ := n_ (dg k0) <| n_ (dg b0) <| n_ (dg d0) <| n_ (di n0) <| n_ (di p0) <| n_ (di q0) <| n_ (di v0) <| n_ (di B0) <| n_ (lR_ (dm (dm (dm (dm (dm ho_ n0) p0) q0) v0) B0)) <| sB_; obtain ⟨K3, L3, Q1⟩ := uY H0.o; subst Q1) | (refine gR_ (k_ 74 Tryz.func40) (bj.calls _ _ _ _ _ _ _ (cR_ (uX H0.o).2.2) ((uX H0.o).2.1) i3.o) fun M3 E4 ho_ hb => ?_; obtain ⟨k0, b0, d0, n0, p0, q0, v0, B0, H0, L0, HB⟩ := n_ (dg k0) <| n_ (dg b0) <| n_ (dg d0) <| n_ (di n0) <| n_ (di p0) <| n_ (di q0) <| n_ (di v0) <| n_ (di B0) <| n_ (di H0) <| n_ (lR_ (dm (dm (dm (dm (dm (dm ho_ n0) p0) q0) v0) B0) H0)) <| sB_; obtain ⟨N3, O3, R1⟩ := uY L0.o; subst R1) | (refine gc_ (k_ 75 Tryz.func39) (aq.calls _ _ _ _ _ _ _ (cR_ (uX L0.o).2.2) ((uX L0.o).2.1) l3.o) fun F4 hb => ?_; obtain ⟨k0, b0, d0, n0, p0, q0, v0, B0, H0, L0, HB⟩ := n_ (fS_ k0) <| n_ (fS_ b0) <| n_ (fS_ d0) <| n_ (fR_ n0) <| n_ (fR_ p0) <| n_ (fR_ q0) <| n_ (fR_ v0) <| n_ (fR_ B0) <| n_ (fR_ H0) <| n_ (fR_ L0) <| sB_))
   go_ret2
   exact ⟨f1_, hB_⟩
  rw [Fa i1] at H
  have m1 := ya i1
  clear i1
  obtain ⟨e1, P3, H⟩ := bN_ H
  obtain ⟨f1, Q3, H⟩ := bN_ H
  obtain ⟨g1, R3, H⟩ := bN_ H
  obtain ⟨z2, H⟩ := iD_ H
  obtain ⟨A2, H⟩ := iD_ H
  obtain ⟨S1, S3, H⟩ := bN_ H
  obtain ⟨T3, U3, H⟩ := bN_ H
  obtain ⟨n1, V3, H⟩ := bN_ H
  obtain ⟨T1, H⟩ := iN_ H
  have B2 := Aa T1
  have C2 := ya T1
  try have D2 : (9223372036854775807 < J0.size + n1.size) = False := eq_false (Nat.not_lt.2 T1)
  have H' := c_ H
  clear H
  try go_wp2
  obtain ⟨k0, b0, d0, HB⟩ := b_ (vH k0.o) <| b_ (vH b0.o) <| b_ (vH d0.o) <| c_ (bx HB.o)
  obtain ⟨W3, X3, p1⟩ := vs d0.o
  (first | subst p1 | (injection p1 with f1_ f2_ f3_; have f4_ := f1_.symm; have f5_ := f3_.symm; clear f1_ f2_ f3_; subst f4_; subst f5_))
  have W0 : 0 ≤ (r0 : Int) := oD_
  have X0 : r0 < (N0.length : Int) := oD_
  obtain ⟨q1, T0, U0, U1, K0, Q0, R0⟩ := kP (ve d0.o).2.2 r0 W0 X0
  cases U1
  obtain ⟨ce745, hce745, hMe745, hcc745⟩ := wK d0.o [] r0 W0 (by first | exact X0 | exact oD_ | (have e_ := (ve d0.o).1; omega))
  obtain ⟨ve745_0, rfl, ge745_0⟩ := hMe745
  have F0 := hcc745 0 _ rfl
  rw [Nat.add_zero, show ((Kd.slice 3 (Kd.int .i64))).sz = 1 from rfl, Nat.mul_one] at F0
  replace F0 := Ba (F0.symm.trans K0)
  rw [F0] at ge745_0
  have e0 := c_ (show Kd.R (Kd.int .i64) 3 _ _ _ _ (dE N0 r0) from ge745_0)
  clear F0 ge745_0
  clear hcc745 hce745
  have f0 := c_ R0
  have Y0 := c_ Q0
  clear R0 Q0
  replace W0 := Aa W0
  replace X0 := Aa X0
  refine ej (n := 12) (S := fun w' => w'.cell? (q1.add (r0).toNat) = some (.slice T0 (dE N0 r0).length U0)) (ds := []) (bb_ 12 0) (by kernel_rfl) rfl rfl (K0) (fun hHeld => ?_); refine cK aE.tab10 aE.bits10 (fun HT_ HW_ => ?_)
  generalize wr.drew = G4 at k0 b0 d0 HB e0 f0 K0 hHeld ⊢
  refine pT_ 0 45 12 1 ?_
  refine pT_ 1 46 12 3 ?_
  refine pT_ 3 48 12 11 ?_
  refine pT_ 6 51 12 75 ?_
  refine pT_ 7 52 12 203 ?_
  refine pT_ 8 53 12 459 ?_
  refine tS_ 9 54 (bb_ 12 971) (bA HT_.o HW_.o (by kernel_rfl)) hHeld ?_
  refine fB (i := 2) (N := some 47) (bb_ 12 975) rfl rfl (cz HT_.o (by kernel_rfl)) (by decide) (fun K hK => ?_)
  refine fj Tryz.func24 (by kernel_rfl) rfl #[.string (a0.extract 768 a0.size), .int .i64 r0, .bool true] (by rfl) rfl rfl aM_ ?_
  with_reducible refine (bV.calls k2 (a0.extract 768 a0.size) r0 true e1 _ P3.o).mono ?_
  rintro e H4 ⟨Y3, rfl, G0, hb⟩
  have HS0_ := (hb.cell (World.block_lt_of_cell? _ _ (hHeld))).trans (hHeld)
  refine ⟨_, rfl, ?_⟩
  obtain ⟨k0, b0, d0, e0, y0, f0, HB⟩ := b_ (vd (rS_ k0.o) (vL G0) hb) <| b_ (vd (rS_ b0.o) (vL G0) hb) <| b_ (vd (rS_ d0.o) (vL G0) hb) <| n_ (fR_ e0) <| b_ (vG (vD (vD (vD (vD G0 (wd (rS_ k0.o))) (wd (rS_ b0.o))) (wd (rS_ d0.o))) (vE (rR_ e0.o))) (au (hB_))) <| n_ (fC_ f0) <| sB_
  obtain ⟨V1, X1, t1⟩ := vs y0.o
  (first | subst t1 | (injection t1 with f1_ f2_ f3_; have f4_ := f1_.symm; have f5_ := f3_.symm; clear f1_ f2_ f3_; subst f4_; subst f5_))
  obtain ⟨Y1, Z1, y1⟩ := vs b0.o
  (first | subst y1 | (injection y1 with f1_ f2_ f3_; have f4_ := f1_.symm; have f5_ := f3_.symm; clear f1_ f2_ f3_; subst f4_; subst f5_))
  refine hK _ _ (HS0_) (fun hHeld => ?_)
  clear hK K
  refine dH (a' := ?_) ?_ ?_
  rotate_left
  ·show Act.put _ (some 47) _ = _
   simp only [Act.put, List.setIfInBounds_toArray, List.set_cons_zero, List.set_cons_succ, bq, ct]
   rfl
  refine fB (i := 4) (N := some 49) (bb_ 12 991) rfl rfl (cz HT_.o (by kernel_rfl)) (by decide) (fun K hK => ?_)
  refine fj Tryz.func23 (by kernel_rfl) rfl #[.slice V1 e1.length X1, .slice Y1 V0.length Z1] (by rfl) rfl rfl aM_ ?_
  with_reducible refine (bB.calls k2 _ _ e1 _ _ V0 f1 _ ?side1 ?side2 ?side3 ?side4 Q3.o).mono ?_
  (case side1 => exact cR_ (ve y0.o).2.2)
  (case side2 => exact (ve y0.o).2.1)
  (case side3 => exact cR_ (ve b0.o).2.2)
  (case side4 => exact (ve b0.o).2.1)
  rintro e I4 ⟨Z3, rfl, G0, hb⟩
  have HS0_ := (hb.cell (World.block_lt_of_cell? _ _ (hHeld))).trans (hHeld)
  refine ⟨_, rfl, ?_⟩
  obtain ⟨k0, b0, d0, e0, y0, x0, f0, HB⟩ := b_ (vd (rS_ k0.o) (vg G0) hb) <| b_ (vd (rS_ b0.o) (vg G0) hb) <| b_ (vd (rS_ d0.o) (vg G0) hb) <| b_ (vj (rR_ e0.o) (vg G0) hb) <| b_ (vd (rS_ y0.o) (vg G0) hb) <| b_ (vb (vp G0 (vE (rR_ e0.o))) (au (hB_))) <| n_ (fC_ f0) <| sB_
  obtain ⟨b2, c2, z1⟩ := uY x0.o
  (first | subst z1 | (injection z1 with f1_ f2_ f3_; have f4_ := f1_.symm; have f5_ := f3_.symm; clear f1_ f2_ f3_; subst f4_; subst f5_))
  refine hK _ _ (HS0_) (fun hHeld => ?_)
  clear hK K
  refine dH (a' := ?_) ?_ ?_
  rotate_left
  ·show Act.put _ (some 49) _ = _
   simp only [Act.put, List.setIfInBounds_toArray, List.set_cons_zero, List.set_cons_succ, bq, ct]
   rfl
  refine fB (i := 5) (N := some 50) (bb_ 12 1023) rfl rfl (cz HT_.o (by kernel_rfl)) (by decide) (fun K hK => ?_)
  refine fj Tryz.func65 (by kernel_rfl) rfl #[.slice b2 f1.length c2] (by rfl) rfl rfl aM_ ?_
  with_reducible refine (ag.calls k2 _ _ f1 g1 _ ?side1 ?side2 R3.o).mono ?_
  (case side1 => exact cR_ (uX x0.o).2.2)
  (case side2 => exact (uX x0.o).2.1)
  rintro e J4 ⟨b4, rfl, G0, hb⟩
  have HS0_ := (hb.cell (World.block_lt_of_cell? _ _ (hHeld))).trans (hHeld)
  refine ⟨_, rfl, ?_⟩
  obtain ⟨k0, b0, d0, e0, y0, x0, C0, f0, HB⟩ := b_ (vd (rS_ k0.o) (vg G0) hb) <| b_ (vd (rS_ b0.o) (vg G0) hb) <| b_ (vd (rS_ d0.o) (vg G0) hb) <| b_ (vj (rR_ e0.o) (vg G0) hb) <| b_ (vd (rS_ y0.o) (vg G0) hb) <| b_ (vj (rR_ x0.o) (vg G0) hb) <| b_ (vb (vp (vp G0 (vE (rR_ e0.o))) (vE (rR_ x0.o))) (au (hB_))) <| n_ (fC_ f0) <| sB_
  obtain ⟨f2, g2, A1⟩ := uY C0.o
  (first | subst A1 | (injection A1 with f1_ f2_ f3_; have f4_ := f1_.symm; have f5_ := f3_.symm; clear f1_ f2_ f3_; subst f4_; subst f5_))
  refine hK _ _ (HS0_) (fun hHeld => ?_)
  clear hK K
  refine dH (a' := ?_) ?_ ?_
  rotate_left
  ·show Act.put _ (some 50) _ = _
   simp only [Act.put, List.setIfInBounds_toArray, List.set_cons_zero, List.set_cons_succ, bq, ct]
   rfl
  refine fB (i := 10) (N := some 55) (bb_ 12 2047) rfl rfl (cz HT_.o (by kernel_rfl)) (by decide) (fun K hK => ?_)
  refine fj Tryz.func22 (by kernel_rfl) rfl #[.slice f2 g1.length g2, .slice T0 (dE N0 r0).length U0] (by rfl) rfl rfl aM_ ?_
  with_reducible refine (bD.calls k2 _ _ g1 _ _ (dE N0 r0) S1 _ ?side1 ?side2 ?side3 ?side4 S3.o).mono ?_
  (case side1 => exact cR_ (uX C0.o).2.2)
  (case side2 => exact (uX C0.o).2.1)
  (case side3 => repeat (first | exact (by repeat (first | (with_reducible exact f0.o) | (with_reducible refine Kd.C_alloc ?_ _) | (with_reducible refine Kd.C_drewN ?_ _) | (with_reducible refine Kd.C_drew ?_) | exact f0.o)) | (with_reducible refine Kd.C_alloc ?_ _) | (with_reducible refine Kd.C_drewN ?_ _) | (with_reducible refine Kd.C_drew ?_)))
  (case side4 => exact Y0.o)
  rintro e K4 ⟨c4, rfl, G0, hb⟩
  have HS0_ := (hb.cell (World.block_lt_of_cell? _ _ (hHeld))).trans (hHeld)
  refine ⟨_, rfl, ?_⟩
  obtain ⟨k0, b0, d0, e0, y0, x0, C0, I0, f0, HB⟩ := b_ (vd (rS_ k0.o) (vg G0) hb) <| b_ (vd (rS_ b0.o) (vg G0) hb) <| b_ (vd (rS_ d0.o) (vg G0) hb) <| b_ (vj (rR_ e0.o) (vg G0) hb) <| b_ (vd (rS_ y0.o) (vg G0) hb) <| b_ (vj (rR_ x0.o) (vg G0) hb) <| b_ (vj (rR_ C0.o) (vg G0) hb) <| b_ (vb (vp (vp (vp G0 (vE (rR_ e0.o))) (vE (rR_ x0.o))) (vE (rR_ C0.o))) (au (hB_))) <| n_ (fC_ f0) <| sB_
  refine hK _ _ (HS0_) (fun hHeld => ?_)
  clear hK K
  refine dH (a' := ?_) ?_ ?_
  rotate_left
  ·show Act.put _ (some 55) _ = _
   simp only [Act.put, List.setIfInBounds_toArray, List.set_cons_zero, List.set_cons_succ, bq, ct]
   rfl
  refine pT_ 11 15 12 4095 ?_
  refine fq (dA HT_.o (by kernel_rfl)) ?_
  obtain ⟨e4, f4, i2⟩ := uY I0.o
  subst i2
  try go_wp2_with (first | (refine gR_ (k_ 58 Tryz.func40) (bj.calls _ _ _ _ _ _ _ (cR_ (uX I0.o).2.2) ((uX I0.o).2.1) U3.o) fun g4 L4 ho_ hb => ?_; obtain ⟨k0, b0, d0, e0, y0, x0, C0, I0, M0, f0, HB⟩ := n_ (dg k0) <| n_ (dg b0) <| n_ (dg d0) <| n_ (di e0) <| n_ (dg y0) <| n_ (di x0) <| n_ (di C0) <| n_ (di I0) <| n_ (lR_ (dm (dm (dm (dm ho_ e0) x0) C0) I0)) <| n_ (fC_ f0) <| sB_; obtain ⟨i4, l4, j2⟩ := uY M0.o; subst j2) | (refine gc_ (k_ 59 Tryz.func39) (aq.calls _ _ _ _ _ _ _ (cR_ (uX M0.o).2.2) ((uX M0.o).2.1) V3.o) fun M4 hb => ?_; obtain ⟨k0, b0, d0, e0, y0, x0, C0, I0, M0, f0, HB⟩ := n_ (fS_ k0) <| n_ (fS_ b0) <| n_ (fS_ d0) <| n_ (fR_ e0) <| n_ (fS_ y0) <| n_ (fR_ x0) <| n_ (fR_ C0) <| n_ (fR_ I0) <| n_ (fR_ M0) <| n_ (fC_ f0) <| sB_))
  go_roundg k2
  case measure => have := l2.o; have := q2.o; omega
  case rel => exact ⟨(J0 ++ n1), (wrap64 (r0 + 1)), f0_, f0_, H', ⟨by have := l2.o; have := q2.o; omega⟩, ⟨by refine kS_ ?_; exact vk k0.o (fun _ hk => ⟨hk.1.1.1.1.1.1, hk.1.1.1.1.1.2⟩)⟩, ⟨by refine kS_ ?_; exact vk b0.o (fun _ hk => ⟨hk.1.1.1.1.1.1, hk.1.1.1.1.1.2⟩)⟩, ⟨by refine kS_ ?_; exact vk d0.o (fun _ hk => ⟨hk.1.1.1.1.1.1, hk.1.1.1.1.1.2⟩)⟩, ⟨hB_⟩⟩
end Go.Proofs.YtmdlpmddljbkeaaGreatDoor.P
