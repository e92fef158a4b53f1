-- printed texts of this session, regrouped
import Derived.Test.YtmiackbomcjboaaGreatDoorMWB
import Derived.Test.YtmiackbomcjboaaGreatDoorPx5
namespace Go.Proofs.YtmiackbomcjboaaGreatDoor.P
open Go.RowKit YtmiackbomcjboaaGreatDoorW.PrintWords YtmiackbomcjboaaGreatDoorW.PrintLast YtmiackbomcjboaaGreatDoorW.PrintMore
open Kd
attribute [local go_sem] d9 eg eV eU dK dL d8 eh
set_option linter.unusedVariables false
set_option linter.unusedSimpArgs false
set_option maxHeartbeats 8000000
set_option maxRecDepth 100000
def dR.f (a0 : Int) (a1 : Int) : Option (Int) := (b8.f a1 1 11).bind fun t671 => (if t671 = true then (if 0 ≤ a1 then ((b8.f a0 0 (wrap64 ((shl .i64 1 a1) - 1))).bind fun t672 => (if t672 = true then (if 0 ≤ (wrap64 (a1 - 1)) then (some (shr .i64 (wrap64 ((wrap64 (3329 * a0)) + (shl .i64 1 (wrap64 (a1 - 1))))) a1)) else (none)) else (some 0))) else (none)) else (some 0))
theorem dR.calls (a0 : Int) (a1 : Int) (r : Int) (w : World) (h : dR.f a0 a1 = some r) :
  Calls Tryz.prog 75 #[.int .i64 a0, .int .i64 a1] w fun e w' => e = .returned (.int .i64 r) ∧ cx w w' := by
 delta dR.f at h
 have H := h
 clear h
 obtain ⟨x0, A3, H⟩ := bN_ H
 by_cases c4 : x0 = true
 ·subst c4
  replace H := iT_ H
  obtain ⟨c5, H⟩ := iN_ H
  have I0 := Aa c5
  have J0 := ya c5
  clear c5
  obtain ⟨t0, f0⟩ : ∃ j_ : Int, (shl .i64 1 a1) = j_ := ⟨_, rfl⟩
  first | rw [f0] at H | simp only [f0] at H
  (try rw [f0] at A3)
  have q0 : (IntKind.i64.wrap (1 * 2 ^ min a1.toNat 64)) = t0 := f0
  have r0 : a1 ≤ 64 → (IntKind.i64.wrap (1 * 2 ^ a1.toNat)) = t0 := fI f0
  have hji6u : (IntKind.i64.wrap (2 ^ min a1.toNat 64)) = t0 := by have h_ := q0; rw [Int.one_mul] at h_; exact h_
  have hji6v : a1 ≤ 64 → (IntKind.i64.wrap (2 ^ a1.toNat)) = t0 := fun hle_ => by have h_ := r0 hle_; rw [Int.one_mul] at h_; exact h_
  have hji6y : (wrap64 (1 * 2 ^ min a1.toNat 64)) = t0 := (bB _).symm.trans q0
  have hji6x : a1 ≤ 64 → (wrap64 (1 * 2 ^ a1.toNat)) = t0 := fun h_ => (bB _).symm.trans (r0 h_)
  obtain ⟨y0, A7, H⟩ := bN_ H
  by_cases c8 : y0 = true
  ·subst c8
   replace H := iT_ H
   obtain ⟨k0, j0⟩ : ∃ j_ : Int, (wrap64 (a1 - 1)) = j_ := ⟨_, rfl⟩
   first | rw [j0] at H | simp only [j0] at H
   (try rw [j0] at A3)
   (try rw [j0] at A7)
   have E0 : (IntKind.i64.wrap (a1 - 1)) = k0 := (bB _).trans j0
   obtain ⟨B0, H⟩ := iN_ H
   have F0 := Aa B0
   have G0 := ya B0
   clear B0
   obtain ⟨e0, b0⟩ : ∃ j_ : Int, (shl .i64 1 (k0)) = j_ := ⟨_, rfl⟩
   first | rw [b0] at H | simp only [b0] at H
   (try rw [b0] at A3)
   (try rw [b0] at A7)
   have n0 : (IntKind.i64.wrap (1 * 2 ^ min (k0).toNat 64)) = e0 := b0
   have p0 : (k0) ≤ 64 → (IntKind.i64.wrap (1 * 2 ^ (k0).toNat)) = e0 := fI b0
   have hji11u : (IntKind.i64.wrap (2 ^ min (k0).toNat 64)) = e0 := by have h_ := n0; rw [Int.one_mul] at h_; exact h_
   have hji11v : (k0) ≤ 64 → (IntKind.i64.wrap (2 ^ (k0).toNat)) = e0 := fun hle_ => by have h_ := p0 hle_; rw [Int.one_mul] at h_; exact h_
   have hji11y : (wrap64 (1 * 2 ^ min (k0).toNat 64)) = e0 := (bB _).symm.trans n0
   have hji11x : (k0) ≤ 64 → (wrap64 (1 * 2 ^ (k0).toNat)) = e0 := fun h_ => (bB _).symm.trans (p0 h_)
   have H0 := Aa (oD_ : 0 ≤ a1)
   obtain ⟨v0, d0⟩ : ∃ j_ : Int, (shr .i64 (wrap64 ((wrap64 (3329 * a0)) + (e0))) a1) = j_ := ⟨_, rfl⟩
   first | rw [d0] at H | simp only [d0] at H
   (try rw [d0] at A3)
   (try rw [d0] at A7)
   have C0 : ((wrap64 ((wrap64 (3329 * a0)) + (e0))) / 2 ^ min a1.toNat 64) = v0 := d0
   have D0 : a1 ≤ 64 → ((wrap64 ((wrap64 (3329 * a0)) + (e0))) / 2 ^ a1.toNat) = v0 := gq d0
   obtain rfl := Ba H
   go_enter Tryz.func75, Tryz.ntmps75
   go_wp2_with (first | (refine gp_ (k_ 6 Tryz.func100) (b8.calls _ _ _ _ _ A3.o) fun nd => ?_) | (go_at_call 100; refine mp_ (b8.calls _ _ _ _ _ A7.o) fun nd => ?_))
   go_ret
   exact ⟨by first | rfl | (simp; done) | (simp only [← f0, ← j0, ← b0, ← d0] <;> (first | rfl | simp)) | (simp [*]; done), d0_⟩
  ·replace c8 := Ea c8
   subst c8
   replace H := iF_ H
   obtain rfl := Ba H
   go_enter Tryz.func75, Tryz.ntmps75
   go_wp2_with (first | (refine gp_ (k_ 6 Tryz.func100) (b8.calls _ _ _ _ _ A3.o) fun nd => ?_) | (go_at_call 100; refine mp_ (b8.calls _ _ _ _ _ A7.o) fun nd => ?_))
   go_ret
   exact ⟨by first | rfl | (simp; done) | (simp only [← f0] <;> (first | rfl | simp)) | (simp [*]; done), d0_⟩
 ·replace c4 := Ea c4
  subst c4
  replace H := iF_ H
  obtain rfl := Ba H
  go_enter Tryz.func75, Tryz.ntmps75
  go_wp2_with (first | (refine gp_ (k_ 6 Tryz.func100) (b8.calls _ _ _ _ _ A3.o) fun nd => ?_))
  go_ret
  exact ⟨f0_, d0_⟩
def bJ.l0 : Nat → ByteArray → List Int → Int → Int → Option (List Int)
 | 0, _, _, _, _ => none
 | k + 1, x0, x3, x7, x8 => if x8 < x7 then (if 0 ≤ (wrap64 (Int.tdiv x8 8)) then (if (wrap64 (Int.tdiv x8 8)) < (x0.size : Int) then (if 0 ≤ (Int.tmod x8 8) then ((dR.f (wrap64 (Go.bits .and .u8 (shr .u8 (bt x0 (wrap64 (Int.tdiv x8 8))) (Int.tmod x8 8)) 1)) 1).bind fun t676 => (if 0 ≤ x8 then (if x8 < (x3.length : Int) then (bJ.l0 k x0 (x3.set (x8 : Int).toNat t676) x7 (wrap64 (x8 + 1))) else (none)) else (none))) else (none)) else (none)) else (none)) else (some x3)
def bJ.f (k : Nat) (a0 : ByteArray) : Option (List Int) := if 256 ≤ 35184372088832 then ((some (List.replicate 256 0 : List Int)).bind fun y673 => (bJ.l0 k a0 y673 (y673.length : Int) 0)) else (none)
theorem bJ.mono_l : ∀ k, (∀ y0 y1 y2 y3, LeO (bJ.l0 k y0 y1 y2 y3) (bJ.l0 (k + 1) y0 y1 y2 y3))
 | 0 => fun _ _ _ _ r h => by simp [bJ.l0] at h
 | k + 1 => by
  have ih0 := bJ.mono_l k
  intros; unfold bJ.l0; exact o1_ ih0
theorem bJ.mono : ∀ a0 k, LeO (bJ.f k a0) (bJ.f (k + 1) a0) := by
 intro a0 k
 have ih0 := bJ.mono_l k
 unfold bJ.f
 exact o1_ ih0
theorem bJ.calls (k : Nat) (a0 : ByteArray) (r : List Int) (w : World) (h : bJ.f k a0 = some r) :
  Calls Tryz.prog 40 #[.string a0] w fun e w' => ∃ R0 : Value, e = .returned (R0) ∧ Kd.R (Kd.int .i64) 3 w' w.heap.size (fun _ => True) R0 r ∧ Below w.heap.size w w' := by
 have HB := c_ (Da w.heap.size w)
 delta bJ.f at h
 have H := h
 clear h
 obtain ⟨c2, H⟩ := iN_ H
 have c1 := Aa c2
 have d1 := ya c2
 clear c2
 obtain ⟨p0, k0⟩ : ∃ y_ : List Int, y_ = (List.replicate 256 0) := ⟨_, rfl⟩
 first | replace H := yb_ k0 H | rw [← k0] at H
 have t0 := c_ k0
 clear k0
 have H' := c_ H
 clear H
 go_enter Tryz.func40, Tryz.ntmps40
 go_wp2_with (first | ((refine cQ (N := 5) rfl ?_); refine vs (Kd.int .i64) _ 3 rfl (N := 5) rfl 33 _ _ rfl 256 rfl rfl Tryz.underlying33 (.int .i64 0) 8 di rfl (by decide) (by omega) 0 (ok := fun _ => True) (okp := fun _ => True) rfl (fun _ hk => hk) trivial (by omega) (by omega) (Da _ _) (Ca _) ?_; intro e1 w3 E0 hb hg_ hnew_; clear hg_ hnew_; (first | rw [← t0.o] at E0 | (simp only [Int.reduceToNat] at E0; rw [← t0.o] at E0)); obtain ⟨v0, HB⟩ := b_ (uY E0 (av (hB_))) <| sB_; clear hb E0; obtain ⟨S0, T0, f1⟩ := uV v0.o; subst f1))
 go_loopg [8] k (fun kq v8 w' => ∃ (j0 : List Int) (b0 : Int), v8 = .int .i64 b0 ∧ aa (bJ.l0 kq a0 j0 (p0.length : Int) b0 = some r) ∧ aa (kq ≤ k) ∧ aa (Kd.R (Kd.int .i64) 3 w' w.heap.size (fun _ => True) (.slice S0 p0.length T0) j0) ∧ aa (Below w.heap.size w w'))
 case atStart => exact ⟨(p0), (0), f0_, H', ⟨Ca _⟩, ⟨rR_ v0.o⟩, ⟨hB_⟩⟩
 clear H'
 obtain ⟨j0, b0, rfl, HA, U0, d0, HB⟩ := hrel
 have e0 := (uU d0.o).1
 rw [e0] at d0
 (try simp only [e0])
 rcases gk with _ | k1
 ·exact absurd HA.o (by simp [bJ.l0])
 have H := HA.o
 clear HA
 simp only [bJ.l0] at H
 by_cases c6 : b0 < (p0.length : Int)
 rotate_left
 ·rw [Ga c6] at H
  have y0 := za c6
  (try simp only [e0] at y0)
  clear c6
  obtain rfl := Ba H
  go_wp2
  go_ret
  exact ⟨_, f1_, rR_ d0.o, hB_⟩
 rw [Fa c6] at H
 have y0 := ya c6
 (try simp only [e0] at y0)
 clear c6
 obtain ⟨B0, C0⟩ : ∃ j_ : Int, (wrap64 (Int.tdiv b0 8)) = j_ := ⟨_, rfl⟩
 first | rw [C0] at H | simp only [C0] at H
 have V0 : (IntKind.i64.wrap (Int.tdiv b0 8)) = B0 := (bB _).trans C0
 obtain ⟨g1, H⟩ := iD_ H
 obtain ⟨i1, H⟩ := iD_ H
 obtain ⟨q0, x0⟩ : ∃ j_ : Int, (Int.tmod b0 8) = j_ := ⟨_, rfl⟩
 first | rw [x0] at H | simp only [x0] at H
 obtain ⟨J0, H⟩ := iN_ H
 have W0 := Aa J0
 have X0 := ya J0
 clear J0
 obtain ⟨r0, f0⟩ : ∃ j_ : Int, (shr .u8 (bt a0 (B0)) (q0)) = j_ := ⟨_, rfl⟩
 first | rw [f0] at H | simp only [f0] at H
 have K0 : ((bt a0 (B0)) / 2 ^ min (q0).toNat 8) = r0 := f0
 have L0 : (q0) ≤ 8 → ((bt a0 (B0)) / 2 ^ (q0).toNat) = r0 := gq f0
 obtain ⟨D0, j1, H⟩ := bN_ H
 obtain ⟨Y0, H⟩ := iD_ H
 obtain ⟨Z0, H⟩ := iN_ H
 have F0 := ya Z0
 (try simp only [e0] at F0)
 clear Z0
 obtain ⟨M0, n0⟩ : ∃ y_ : List Int, y_ = (j0.set (b0 : Int).toNat D0) := ⟨_, rfl⟩
 first | replace H := yb_ n0 H | rw [← n0] at H
 have G0 := c_ n0
 clear n0
 have H' := c_ H
 clear H
 have n1 := Aa (oD_ : 0 ≤ ((B0) : Int))
 have p1 := Aa (oD_ : (B0) < (a0.size : Int))
 have l1 := cY a0 (B0)
 go_wp2_with (first | ((with_reducible refine ep (f := 75) rfl ?_); refine gS (some 22) rfl rfl Tryz.func75 (by kernel_rfl) rfl #[.int .i64 (wrap64 (Go.bits .and .u8 (r0) 1)), .int .i64 1] rfl (by (try simp only [List.map_toArray, List.map_cons, List.map_nil]); first | done | (simp only [f0]; rfl) | rfl | (simp only [List.length_drop, List.length_take]; rfl)) ?_; (with_reducible refine (dR.calls (wrap64 (Go.bits .and .u8 (r0) 1)) 1 D0 _ j1.o).mono ?_); rintro e w' ⟨rfl, ⟨nd, rfl⟩⟩; refine ⟨_, rfl, ?_⟩; (try (rw [dt wr]; generalize hq_ : World.drewN wr _ = wr; obtain ⟨d0, HB⟩ := b_ (show Kd.R (Kd.int .i64) 3 wr w.heap.size (fun _ => True) (.slice S0 j0.length T0) j0 from by rw [← hq_]; exact (rR_ d0.o)) <| c_ (show Below w.heap.size w wr from by rw [← hq_]; exact (hB_)))); have N0 : 0 ≤ (b0 : Int) := oD_; have O0 : (b0 : Int) < ((j0.length : Int) : Int) := oD_; obtain ⟨go17, m1, H0, I0, gl17, cl17, HG17⟩ := vm d0.o (by omega); (first | cases H0 | (injection H0 with ea_ en_ ec_; (first | subst ea_ | (injection ea_ with ea_; subst ea_)); subst ec_; clear en_)); have P0 := c_ I0; have GG17 := c_ HG17; clear I0 gl17 HG17; obtain ⟨Q0, hf17_0⟩ := uZ 0 d0.o (b0 : Int) N0 O0; replace N0 := Aa N0; replace O0 := Aa O0; obtain ⟨b1, hz18_⟩ := uZ 0 d0.o (b0 : Int) oD_ oD_; have HP18 := vj d0.o (b0 : Int) D0) | ((refine cz (t := 3) (p := 23) rfl ?_); refine st_ 3 23 HP18 G0 P0 fun q1 hw hp_ hg HBn => ?_; obtain ⟨d0, HB⟩ := b_ (hp_) <| c_ HBn.o; clear hg hw hp_))
 (try simp only [← e0])
 go_roundg k1
 case measure => have := U0.o; omega
 case rel => exact ⟨(M0), (wrap64 (b0 + 1)), f0_, H', ⟨by have := U0.o; omega⟩, ⟨by (try simp only [e0]); refine kR_ ?_; exact d0.o⟩, ⟨hB_⟩⟩
def dG.f (a0 : Int) (a1 : Int) : Option (Int) := if 0 ≤ (Go.bits .and .u64 (IntKind.u64.wrap (a1)) 31) then (if 0 ≤ (IntKind.u64.wrap (32 - (Go.bits .and .u64 (IntKind.u64.wrap (a1)) 31))) then (some (Go.bits .or .u32 (shl .u32 a0 (Go.bits .and .u64 (IntKind.u64.wrap (a1)) 31)) (shr .u32 a0 (IntKind.u64.wrap (32 - (Go.bits .and .u64 (IntKind.u64.wrap (a1)) 31)))))) else (none)) else (none)
theorem dG.calls (a0 : Int) (a1 : Int) (r : Int) (w : World) (h : dG.f a0 a1 = some r) :
  Calls Tryz.prog 119 #[.int .u32 a0, .int .i64 a1] w fun e w' => e = .returned (.int .u32 r) ∧ cx w w' := by
 delta dG.f at h
 have H := h
 clear h
 obtain ⟨e0, f0⟩ : ∃ j_ : Int, (Go.bits .and .u64 (IntKind.u64.wrap (a1)) 31) = j_ := ⟨_, rfl⟩
 first | rw [f0] at H | simp only [f0] at H
 obtain ⟨c4, H⟩ := iN_ H
 have x0 := Aa c4
 have y0 := ya c4
 clear c4
 obtain ⟨p0, b0⟩ : ∃ j_ : Int, (shl .u32 a0 (e0)) = j_ := ⟨_, rfl⟩
 first | rw [b0] at H | simp only [b0] at H
 have k0 : (IntKind.u32.wrap (a0 * 2 ^ min (e0).toNat 32)) = p0 := b0
 have n0 : (e0) ≤ 32 → (IntKind.u32.wrap (a0 * 2 ^ (e0).toNat)) = p0 := fI b0
 have hji5k : ((a0 * 2 ^ min (e0).toNat 32) % 4294967296) = p0 := (IntKind.wrap_u32 _).symm.trans k0
 have hji5n : (e0) ≤ 32 → ((a0 * 2 ^ (e0).toNat) % 4294967296) = p0 := fun h_ => (IntKind.wrap_u32 _).symm.trans (n0 h_)
 obtain ⟨q0, j0⟩ : ∃ j_ : Int, (IntKind.u64.wrap (32 - (e0))) = j_ := ⟨_, rfl⟩
 first | rw [j0] at H | simp only [j0] at H
 obtain ⟨c7, H⟩ := iN_ H
 have B0 := Aa c7
 have C0 := ya c7
 clear c7
 obtain ⟨r0, d0⟩ : ∃ j_ : Int, (shr .u32 a0 (q0)) = j_ := ⟨_, rfl⟩
 first | rw [d0] at H | simp only [d0] at H
 have t0 : (a0 / 2 ^ min (q0).toNat 32) = r0 := d0
 have v0 : (q0) ≤ 32 → (a0 / 2 ^ (q0).toNat) = r0 := gq d0
 obtain rfl := Ba H
 go_enter Tryz.func119, Tryz.ntmps119
 go_wp2
 go_ret
 exact ⟨by first | rfl | (simp; done) | (simp only [← f0, ← b0, ← j0, ← d0] <;> (first | rfl | simp)) | (simp [*]; done), d0_⟩
def cn.f (a0 : Int) (a1 : Int) : Option (Int) := (dG.f a0 (wrap64 (-a1))).bind fun t731 => (some t731)
theorem cn.calls (a0 : Int) (a1 : Int) (r : Int) (w : World) (h : cn.f a0 a1 = some r) :
  Calls Tryz.prog 109 #[.int .u32 a0, .int .i64 a1] w fun e w' => e = .returned (.int .u32 r) ∧ cx w w' := by
 delta cn.f at h
 have H := h
 clear h
 obtain ⟨b0, A3, H⟩ := bN_ H
 obtain rfl := Ba H
 go_enter Tryz.func109, Tryz.ntmps109
 go_wp2_with (first | (refine gp_ (k_ 8 Tryz.func119) (dG.calls _ _ _ _ A3.o) fun nd => ?_))
 go_ret
 exact ⟨f0_, d0_⟩
-- NOT PRINTED: function 108 (b9)
-- NOT PRINTED: function 89 (cA)
-- NOT PRINTED: function 54 (lv)
-- NOT PRINTED: function 55 (bT)
def fB.f (a0 : Int) : Option (ByteArray) := if 0 ≤ a0 then (if (a0 : Int).toNat ≤ 281474976710656 then (some (strOfNums (List.replicate (a0 : Int).toNat 0))) else (none)) else (none)
theorem fB.calls (a0 : Int) (r : ByteArray) (w : World) (h : fB.f a0 = some r) :
  Calls Tryz.prog 90 #[.int .i64 a0] w fun e w' => e = .returned (.string r) ∧ Below w.heap.size w w' := by
 have HB := c_ (Da w.heap.size w)
 delta fB.f at h
 have H := h
 clear h
 obtain ⟨c2, H⟩ := iN_ H
 have j0 := Aa c2
 have k0 := ya c2
 clear c2
 obtain ⟨c3, H⟩ := iN_ H
 have n0 := Aa c3
 have p0 := ya c3
 clear c3
 obtain ⟨q0, b0⟩ : ∃ y_ : List Int, y_ = (List.replicate (a0 : Int).toNat 0) := ⟨_, rfl⟩
 first | replace H := yb_ b0 H | rw [← b0] at H
 have d0 := c_ b0
 clear b0
 obtain rfl := Ba H
 go_enter Tryz.func90, Tryz.ntmps90
 go_wp2_with (first | ((refine cQ (N := 4) rfl ?_); refine vs (Kd.int .u8) _ 5 rfl (N := 4) rfl 22 _ _ rfl a0 rfl rfl Tryz.underlying22 (.int .u8 0) 1 jj rfl (by decide) (by omega) 0 (ok := fun _ => True) (okp := fun _ => True) rfl (fun _ hk => hk) trivial oD_ (Nat.le_trans (Nat.mul_le_mul_right _ (oD_ : a0.toNat ≤ 281474976710656)) (by omega)) (Da _ _) (Ca _) ?_; intro r0 w4 e0 hb hg_ hnew_; clear hg_ hnew_; (first | rw [← d0.o] at e0 | (simp only [Int.reduceToNat] at e0; rw [← d0.o] at e0)); obtain ⟨f0, HB⟩ := b_ (uY e0 (av (hB_))) <| sB_; clear hb e0; have t0 := d4 (P := Tryz.prog) Tryz.underlying22 Tryz.underlying5 Tryz.underlying9 (vl f0.o)))
 go_ret
 exact ⟨f1_, hB_⟩
def dh.f (a0 : Int) : Option (ByteArray) := some (strOfNums (([(a0 / 16777216) % 256, (a0 / 65536) % 256, (a0 / 256) % 256, (a0) % 256] : List Int)))
theorem dh.calls (a0 : Int) (r : ByteArray) (w : World) (h : dh.f a0 = some r) :
  Calls Tryz.prog 92 #[.int .u32 a0] w fun e w' => e = .returned (.string r) ∧ Below w.heap.size w w' := by
 have HB := c_ (Da w.heap.size w)
 delta dh.f at h
 have H := h
 clear h
 obtain ⟨f0, b0⟩ : ∃ y_ : List Int, y_ = (([(a0 / 16777216) % 256, (a0 / 65536) % 256, (a0 / 256) % 256, (a0) % 256] : List Int)) := ⟨_, rfl⟩
 first | replace H := yb_ b0 H | rw [← b0] at H
 have d0 := c_ b0
 clear b0
 obtain rfl := Ba H
 go_enter Tryz.func92, Tryz.ntmps92
 go_wp2_with (first | (refine lj_ 14 .u8 5 d0 fun j0 w2 e0 HB => ?_; have k0 := d4 (P := Tryz.prog) Tryz.underlying22 Tryz.underlying5 Tryz.underlying9 (vl e0.o)))
 go_ret
 exact ⟨f1_, hB_⟩
def d7.f (a0 : Int) : Option (ByteArray) := (dh.f ((a0 / 4294967296) % 4294967296)).bind fun t738 => ((dh.f ((a0) % 4294967296)).bind fun t739 => (if t738.size + t739.size ≤ 9223372036854775807 then (some (t738 ++ t739)) else (none)))
theorem d7.calls (a0 : Int) (r : ByteArray) (w : World) (h : d7.f a0 = some r) :
  Calls Tryz.prog 91 #[.int .i64 a0] w fun e w' => e = .returned (.string r) ∧ Below w.heap.size w w' := by
 have HB := c_ (Da w.heap.size w)
 delta d7.f at h
 have H := h
 clear h
 obtain ⟨b0, A2, H⟩ := bN_ H
 obtain ⟨d0, A3, H⟩ := bN_ H
 obtain ⟨c4, H⟩ := iN_ H
 have e0 := Aa c4
 have f0 := ya c4
 try have j0 : (9223372036854775807 < b0.size + d0.size) = False := eq_false (Nat.not_lt.2 c4)
 obtain rfl := Ba H
 go_enter Tryz.func91, Tryz.ntmps91
 go_wp2_with (first | (refine gb_ (k_ 6 Tryz.func92) (dh.calls _ _ _ A2.o) fun w5 HB => ?_) | (refine gb_ (k_ 9 Tryz.func92) (dh.calls _ _ _ A3.o) fun w6 HB => ?_))
 go_ret
 exact ⟨f1_, hB_⟩
def fb.f (a0 : Int) : Option (ByteArray) := (fB.f (Int.tmod (wrap64 (119 - (Int.tmod a0 64))) 64)).bind fun t740 => (if 1 + t740.size ≤ 9223372036854775807 then ((d7.f (wrap64 (8 * a0))).bind fun t741 => (if ((⟨#[128]⟩ : ByteArray) ++ t740).size + t741.size ≤ 9223372036854775807 then (some (((⟨#[128]⟩ : ByteArray) ++ t740) ++ t741)) else (none))) else (none))
theorem fb.calls (a0 : Int) (r : ByteArray) (w : World) (h : fb.f a0 = some r) :
  Calls Tryz.prog 56 #[.int .i64 a0] w fun e w' => e = .returned (.string r) ∧ Below w.heap.size w w' := by
 have HB := c_ (Da w.heap.size w)
 delta fb.f at h
 have H := h
 clear h
 obtain ⟨b0, A2, H⟩ := bN_ H
 obtain ⟨c3, H⟩ := iN_ H
 have f0 := Aa c3
 have j0 := ya c3
 try have k0 : (9223372036854775807 < 1 + b0.size) = False := eq_false (Nat.not_lt.2 c3)
 obtain ⟨d0, A4, H⟩ := bN_ H
 obtain ⟨c5, H⟩ := iN_ H
 have n0 := Aa c5
 have p0 := ya c5
 try have e0 : (9223372036854775807 < ((⟨#[128]⟩ : ByteArray) ++ b0).size + d0.size) = False := eq_false (Nat.not_lt.2 c5)
 try have q0 : (9223372036854775807 < 1 + b0.size + d0.size) = False := (show ((⟨#[128]⟩ : ByteArray) ++ b0).size = 1 + b0.size from (by rw [ByteArray.size_append]; rfl)) ▸ e0
 obtain rfl := Ba H
 go_enter Tryz.func56, Tryz.ntmps56
 go_wp2_with (first | (refine gb_ (k_ 7 Tryz.func90) (fB.calls _ _ _ A2.o) fun w6 HB => ?_) | (refine gb_ (k_ 11 Tryz.func91) (d7.calls _ _ _ A4.o) fun w7 HB => ?_))
 go_ret
 exact ⟨f1_, hB_⟩
-- NOT PRINTED: function 57 (bX)
-- GIVEN: function 24 (cw)
-- GIVEN: function 8 (fc)
def bw.l0 : Nat → List Int → Int → List Int → Int → Int → Option (List Int)
 | 0, _, _, _, _, _ => none
 | k + 1, x4, x5, x751000, x751001, x751002 => if x5 < 12 then ((dj.f x751000 x751001 x751002 10000).bind fun bt757 => (if x4.length < 17592186044416 then (bw.l0 k (x4 ++ [bt757.1]) (wrap64 (x5 + 1)) x751000 bt757.2.1 bt757.2.2) else (none))) else (some x4)
def bw.f (k : Nat) (l0 : List Int) : Option (List Int) := (bQ.f k l0).bind fun bt747 => ((ck.f bt747.1 bt747.2.1 bt747.2.2).bind fun bt751 => (bw.l0 k (([] : List Int)) 0 bt747.1 bt751.2.1 bt751.2.2))
theorem bw.mono_l : ∀ k, (∀ y0 y1 y2 y3 y4, LeO (bw.l0 k y0 y1 y2 y3 y4) (bw.l0 (k + 1) y0 y1 y2 y3 y4))
 | 0 => fun _ _ _ _ _ r h => by simp [bw.l0] at h
 | k + 1 => by
  have ih0 := bw.mono_l k
  intros; unfold bw.l0; exact o2_ ih0 bQ.mono
theorem bw.mono : ∀ a0 k, LeO (bw.f k a0) (bw.f (k + 1) a0) := by
 intro a0 k
 have ih0 := bw.mono_l k
 unfold bw.f
 exact o2_ ih0 bQ.mono
theorem bw.calls (k : Nat) (A0 : Option Addr) (c0 : Nat) (l0 : List Int) (r : List Int) (w : World) (hr0 : Kd.C (Kd.int .u8) w A0 l0.length l0) (hc0 : l0.length ≤ c0) (h : bw.f k l0 = some r) :
  Calls Tryz.prog 9 #[.slice A0 l0.length c0] w fun e w' => ∃ H0 : Value, e = .returned (H0) ∧ Kd.R (Kd.int .i64) 3 w' w.heap.size (fun _ => True) H0 r ∧ Below w.heap.size w w' := by
 have K0 := c_ hr0
 have L0 := c_ hc0
 clear hr0 hc0
 have HB := c_ (Da w.heap.size w)
 delta bw.f at h
 have H := h
 clear h
 obtain ⟨⟨n0, M0, N0⟩, A2, H⟩ := bN_ H
 obtain ⟨⟨O0, y0, B0⟩, A3, H⟩ := bN_ H
 obtain ⟨C0, d0⟩ : ∃ y_ : List Int, y_ = (([] : List Int)) := ⟨_, rfl⟩
 first | replace H := yb_ d0 H | rw [← d0] at H
 have q0 := c_ d0
 clear d0
 have H' := c_ H
 clear H
 go_enter Tryz.func9, Tryz.ntmps9
 go_wp2_with (first | (refine gr_ (k_ 7 Tryz.func14) (bQ.calls _ _ _ _ _ _ _ w _ u6_ K0.o L0.o A2.o) ?_; rintro e w4 ⟨g750, rfl, hi, hb, hb2⟩; refine ⟨_, rfl, ?_⟩; obtain ⟨HB, HI750⟩ := b_ (hb) <| c_ (hi); (try clear hi)) | (refine gr_ (k_ 9 Tryz.func25) (ck.calls g750 _ _ _ _ _ _ w _ u7_ (u4_ (bx.ge HI750.o)) A3.o) ?_; rintro e w5 ⟨rfl, hi, hb, hk⟩; refine ⟨_, rfl, ?_⟩; obtain ⟨HB, HI750⟩ := b_ (hb) <| c_ (hi); (try clear hi)) | (refine li_ 10 .i64 3 q0 fun P0 w6 ho_ hb => ?_; obtain ⟨r0, HI750, HB⟩ := b_ (uY ho_ (av ((u4_ (bx.ge HI750.o))))) <| b_ (bx.below ((u7_)) hb) <| c_ (du ((u4_ (bx.ge HI750.o))) hb)))
 go_loopg [4, 5] k (fun kq v4 v5 w' => ∃ (f0 : List Int) (j0 : Int) (a0 : Int) (b0 : Int), v5 = .int .i64 j0 ∧ aa (bw.l0 kq f0 j0 n0 a0 b0 = some r) ∧ aa (kq ≤ k) ∧ aa (Kd.R (Kd.int .i64) 3 w' w.heap.size (fun _ => True) v4 f0) ∧ aa (bx w w' g750 n0 a0 b0) ∧ aa (Below w.heap.size w w'))
 case atStart => exact ⟨(C0), (0), (y0), (B0), f0_, H', ⟨Ca _⟩, ⟨rR_ r0.o⟩, ⟨(u7_)⟩, ⟨(u4_ (bx.ge HI750.o))⟩⟩
 clear H'
 obtain ⟨f0, j0, a0, b0, rfl, HA, I0, k0, HI750, HB⟩ := hrel
 rcases gk with _ | k1
 ·exact absurd HA.o (by simp [bw.l0])
 have H := HA.o
 clear HA
 simp only [bw.l0] at H
 by_cases c8 : j0 < 12
 ·rw [Fa c8] at H
  have D0 := ya c8
  clear c8
  obtain ⟨⟨p0, E0, F0⟩, A9, H⟩ := bN_ H
  obtain ⟨J0, H⟩ := iN_ H
  have t0 := c_ J0
  clear J0
  obtain ⟨G0, e0⟩ : ∃ y_ : List Int, y_ = (f0 ++ [p0]) := ⟨_, rfl⟩
  first | replace H := yb_ e0 H | rw [← e0] at H
  have v0 := c_ e0
  clear e0
  have H' := c_ H
  clear H
  go_wp2_with (first | (refine gr_ (k_ 17 Tryz.func17) (dj.calls g750 _ _ _ _ _ _ _ w _ u7_ (u4_ (bx.ge HI750.o)) A9.o) ?_; rintro e R0 ⟨rfl, hi, hb, hk⟩; refine ⟨_, rfl, ?_⟩; obtain ⟨k0, HB, HI750⟩ := b_ (uW (xe (bx.apart (show bx w _ g750 n0 a0 b0 from (u7_)) (rR_ k0.o) (by decide)) hk (fun _ h => h.2)) (fun _ h => h.1)) <| b_ (hb) <| c_ (hi); (try clear hi)) | ((refine cr (b := .append) (xs := #[.tmp 15, .tmp 18]) rfl ?_); at_builtin; refine vK (Kd.int .i64) (w0 := w) w.heap.size rfl (.tmp 15) (.tmp 18) 33 3 (.int .i64 0) 8 rfl Tryz.underlying33 di rfl (by decide) (by omega) u4 f0 p0 [.int .i64 p0] (fun _ => True) (fun _ => False) rfl rfl ?aP (fun _ hk => hk.elim) ?aF ?aO ?aB ?aS ?aL ?_; (case aP => exact rfl); (case aB => exact ((u4_ (bx.ge HI750.o)))); (case aF => exact (fun _ _ => trivial)); (case aO => exact (rR_ k0.o)); (case aS => exact (av ((u4_ (bx.ge HI750.o))))); (case aL => have := t0.o; omega); intro Q0 S0 ho hb hg hat; rw [← v0.o] at ho; obtain ⟨HI750, HB, x0⟩ := b_ (bx.grown ((u7_)) hg (bx.own_ne HI750.o k0.o (by decide))) <| b_ (hb) <| c_ (ho); clear ho hb hg hat))
  go_roundg k1
  case measure => have := I0.o; omega
  case rel => exact ⟨(G0), (wrap64 (j0 + 1)), (E0), (F0), f0_, H', ⟨by have := I0.o; omega⟩, ⟨rR_ x0.o⟩, ⟨(u7_)⟩, ⟨(u4_ (bx.ge HI750.o))⟩⟩
 rw [Ga c8] at H
 have D0 := za c8
 clear c8
 obtain rfl := Ba H
 go_wp2
 go_ret
 exact ⟨_, f1_, rR_ k0.o, (u4_ (bx.ge HI750.o))⟩
def bj.l0 : Nat → Int → List Int → List Int → Int → Int → Option (List Int)
 | 0, _, _, _, _, _ => none
 | k + 1, x1, x5, x8, x9, x10 => if x10 < x9 then (if 0 ≤ x10 then (if x10 < (x8.length : Int) then ((dR.f (rd x8 x10) x1).bind fun t764 => (if x5.length < 17592186044416 then (bj.l0 k x1 (x5 ++ [t764]) x8 x9 (wrap64 (x10 + 1))) else (none))) else (none)) else (none)) else (some x5)
def bj.f (k : Nat) (l0 : List Int) (a1 : Int) : Option (List Int) := bj.l0 k a1 ([] : List Int) l0 (l0.length : Int) 0
theorem bj.mono_l : ∀ k, (∀ y0 y1 y2 y3 y4, LeO (bj.l0 k y0 y1 y2 y3 y4) (bj.l0 (k + 1) y0 y1 y2 y3 y4))
 | 0 => fun _ _ _ _ _ r h => by simp [bj.l0] at h
 | k + 1 => by
  have ih0 := bj.mono_l k
  intros; unfold bj.l0; exact o1_ ih0
theorem bj.mono : ∀ a0 a1 k, LeO (bj.f k a0 a1) (bj.f (k + 1) a0 a1) := by
 intro a0 a1 k
 have ih0 := bj.mono_l k
 unfold bj.f
 exact o1_ ih0
theorem bj.calls (k : Nat) (A0 : Option Addr) (c0 : Nat) (l0 : List Int) (a1 : Int) (r : List Int) (w : World) (hr0 : Kd.C (Kd.int .i64) w A0 l0.length l0) (hc0 : l0.length ≤ c0) (h : bj.f k l0 a1 = some r) :
  Calls Tryz.prog 77 #[.slice A0 l0.length c0, .int .i64 a1] w fun e w' => ∃ y0 : Value, e = .returned (y0) ∧ Kd.R (Kd.int .i64) 3 w' w.heap.size (fun _ => True) y0 r ∧ Below w.heap.size w w' := by
 have D0 := c_ hr0
 have I0 := c_ hc0
 clear hr0 hc0
 have HB := c_ (Da w.heap.size w)
 delta bj.f at h
 have H := h
 clear h
 have H' := c_ H
 clear H
 go_enter Tryz.func77, Tryz.ntmps77
 go_wp2
 go_loopg [5, 10] k (fun kq v5 E0 w' => ∃ (e0 : List Int) (a0 : Int), E0 = .int .i64 a0 ∧ aa (bj.l0 kq a1 e0 l0 (l0.length : Int) a0 = some r) ∧ aa (kq ≤ k) ∧ aa (Kd.R (Kd.int .i64) 3 w' w.heap.size (fun _ => True) v5 e0) ∧ aa (Below w.heap.size w w'))
 case atStart => exact ⟨(([] : List Int)), (0), f0_, H', ⟨Ca _⟩, ⟨by first | exact vB _ _ _ _ _ | exact Kd.N_nil _ _ _ _ _ | exact Kd.V_nil _ _ _ _ _ | exact Kd.Q_nil _ _ _ _ _ | exact vC _ _ _ _ _⟩, ⟨hB_⟩⟩
 clear H'
 obtain ⟨e0, a0, rfl, HA, B0, k0, HB⟩ := hrel
 rcases gk with _ | k1
 ·exact absurd HA.o (by simp [bj.l0])
 have H := HA.o
 clear HA
 simp only [bj.l0] at H
 by_cases c3 : a0 < (l0.length : Int)
 rotate_left
 ·rw [Ga c3] at H
  have q0 := za c3
  clear c3
  obtain rfl := Ba H
  go_wp2
  go_ret
  exact ⟨_, f1_, rR_ k0.o, hB_⟩
 rw [Fa c3] at H
 have q0 := ya c3
 clear c3
 obtain ⟨F0, H⟩ := iD_ H
 obtain ⟨G0, H⟩ := iD_ H
 obtain ⟨r0, A6, H⟩ := bN_ H
 obtain ⟨c7, H⟩ := iN_ H
 have t0 := c_ c7
 clear c7
 obtain ⟨v0, b0⟩ : ∃ y_ : List Int, y_ = (e0 ++ [r0]) := ⟨_, rfl⟩
 first | replace H := yb_ b0 H | rw [← b0] at H
 have n0 := c_ b0
 clear b0
 have H' := c_ H
 clear H
 have f0 : 0 ≤ (a0 : Int) := oD_
 have j0 : a0 < (l0.length : Int) := oD_
 obtain ⟨C0, x0, d0⟩ := uX D0.o a0 f0 j0
 cases x0
 replace d0 := hc_ d0
 replace f0 := Aa f0
 replace j0 := Aa j0
 go_wp2_with (first | (refine gp_ (k_ 17 Tryz.func75) (dR.calls _ _ _ _ A6.o) fun nd => ?_) | (refine ga_ 14 18 ?_; at_builtin; refine ap_ k0 n0 t0 Tryz.underlying33 di fun H0 w8 p0 HB hg hat => ?_))
 go_roundg k1
 case measure => have := B0.o; omega
 case rel => exact ⟨(v0), (wrap64 (a0 + 1)), f0_, H', ⟨by have := B0.o; omega⟩, ⟨rR_ p0.o⟩, ⟨hB_⟩⟩
def eE.f (a0 : Int) (a1 : Int) : Option (Int) := some (wrap64 (a0 - a1))
theorem eE.calls (a0 : Int) (a1 : Int) (r : Int) (w : World) (h : eE.f a0 a1 = some r) :
  Calls Tryz.prog 103 #[.int .i64 a0, .int .i64 a1] w fun e w' => e = .returned (.int .i64 r) ∧ cx w w' := by
 delta eE.f at h
 have H := h
 clear h
 obtain rfl := Ba H
 go_enter Tryz.func103, Tryz.ntmps103
 go_wp2
 go_ret
 exact ⟨f0_, d0_⟩
mutual
def af.j0 : Nat → List Int → List Int → Bool → Option (List Int)
 | 0, _, _, _ => none
 | k + 1, x0, x1, x16 => if x16 = true then (some ([] : List Int)) else (if 256 ≤ 35184372088832 then ((some (List.replicate 256 0 : List Int)).bind fun y770 => (af.l0 k x0 x1 y770 (y770.length : Int) 0)) else (none))
def af.l0 : Nat → List Int → List Int → List Int → Int → Int → Option (List Int)
 | 0, _, _, _, _, _ => none
 | k + 1, x0, x1, x7, x19, x20 => if x20 < x19 then (if 0 ≤ x20 then (if x20 < (x0.length : Int) then (if x20 < (x1.length : Int) then ((eE.f (rd x0 x20) (rd x1 x20)).bind fun t775 => ((cd.f t775).bind fun t776 => (if x20 < (x7.length : Int) then (af.l0 k x0 x1 (x7.set (x20 : Int).toNat t776) x19 (wrap64 (x20 + 1))) else (none)))) else (none)) else (none)) else (none)) else (some x7)
end
def af.f (k : Nat) (l0 : List Int) (l1 : List Int) : Option (List Int) := (aw.f k l0).bind fun t768 => (if t768 = true then ((aw.f k l1).bind fun t769 => (af.j0 k l0 l1 (!t769))) else (af.j0 k l0 l1 true))
theorem af.mono_l : ∀ k, (∀ y0 y1 y2, LeO (af.j0 k y0 y1 y2) (af.j0 (k + 1) y0 y1 y2)) ∧ (∀ y0 y1 y2 y3 y4, LeO (af.l0 k y0 y1 y2 y3 y4) (af.l0 (k + 1) y0 y1 y2 y3 y4))
 | 0 => ⟨fun _ _ _ r h => by simp [af.j0] at h, fun _ _ _ _ _ r h => by simp [af.l0] at h⟩
 | k + 1 => by
  obtain ⟨ih0, ih1⟩ := af.mono_l k
  refine ⟨?_, ?_⟩ <;> (intros; (first | unfold af.j0 | unfold af.l0); exact o3_ ih0 ih1 aw.mono)
theorem af.mono : ∀ a0 a1 k, LeO (af.f k a0 a1) (af.f (k + 1) a0 a1) := by
 intro a0 a1 k
 obtain ⟨ih0, ih1⟩ := af.mono_l k
 unfold af.f
 exact o3_ ih0 ih1 aw.mono
def af.T7 : Bool × List (List Nat × List Nat) := (true, [([], []), ([], []), ([], []), ([], []), ([], []), ([3, 4], [3, 4]), ([5], [5]), ([], []), ([], []), ([7, 8], [7, 8]), ([9], [9]), ([2, 6, 10], [2, 6, 10]), ([11, 11], [11]), ([0, 1, 0, 1, 2, 3, 4, 5, 6, 7, 8, 9, 10, 11, 12], [0, 1]), ([13, 12, 12, 0, 1, 2, 3, 4, 5, 6, 7, 8, 9, 10, 11, 12], [12, 13])])
def af.B7 : List Nat := [0, 0, 0, 0, 0, 24, 56, 0, 0, 384, 896, 2044, 4092, 8191, 16383]
theorem af.tab7 : eH .any (fJ Tryz.f63 7) = af.T7 := by kernel_rfl
theorem af.bits7 : dw af.T7.2 af.B7 = true := by kernel_rfl
theorem af.calls (k : Nat) (A0 : Option Addr) (c0 : Nat) (l0 : List Int) (A1 : Option Addr) (c1 : Nat) (l1 : List Int) (r : List Int) (w : World) (hr0 : Kd.C (Kd.int .i64) w A0 l0.length l0) (hc0 : l0.length ≤ c0) (hr1 : Kd.C (Kd.int .i64) w A1 l1.length l1) (hc1 : l1.length ≤ c1) (h : af.f k l0 l1 = some r) :
  Calls Tryz.prog 63 #[.slice A0 l0.length c0, .slice A1 l1.length c1, .func (.func 103) #[] #[]] w fun e w' => ∃ j1 : Value, e = .returned (j1) ∧ Kd.R (Kd.int .i64) 3 w' w.heap.size (fun _ => True) j1 r ∧ Below w.heap.size w w' := by
 have S0 := c_ hr0
 have m1 := c_ hc0
 clear hr0 hc0
 have n1 := c_ hr1
 have C1 := c_ hc1
 clear hr1 hc1
 have HB := c_ (Da w.heap.size w)
 delta af.f at h
 have H := h
 clear h
 have T0 := c_ H
 clear H
 go_enter Tryz.func63, Tryz.ntmps63
 go_upto_region 1 with (fail)
 go_cut [16] (fun D1 wc => ∃ (kq : Nat) (p0 : Bool), D1 = .bool p0 ∧ aa (af.j0 kq l0 l1 p0 = some r) ∧ aa (kq ≤ k) ∧ aa (Below w.heap.size w wc))
 case first =>
  have H := T0.o
  clear T0
  obtain ⟨U0, A4, H⟩ := bN_ H
  by_cases c5 : U0 = true
  ·subst c5
   replace H := iT_ H
   obtain ⟨V0, A6, H⟩ := bN_ H
   have H' := c_ H
   clear H
   go_wp2_with (first | (refine gp_ (k_ 10 Tryz.func65) (aw.calls _ _ _ _ _ _ (cR_ (vb S0.o HB.o)) m1.o A4.o) fun nd => ?_) | (go_at_call 65; refine mp_ (aw.calls _ _ _ _ _ _ (cR_ (vb n1.o (hB_))) C1.o A6.o) fun nd => ?_))
   go_meet
   case rel => exact ⟨_, (!V0), f0_, H', ⟨by first | omega | exact Ca _⟩, ⟨hB_⟩⟩
  ·replace c5 := Ea c5
   subst c5
   replace H := iF_ H
   have H' := c_ H
   clear H
   go_wp2_with (first | (refine gp_ (k_ 10 Tryz.func65) (aw.calls _ _ _ _ _ _ (cR_ (vb S0.o HB.o)) m1.o A4.o) fun nd => ?_))
   go_meet
   case rel => exact ⟨_, (true), f0_, H', ⟨by first | omega | exact Ca _⟩, ⟨hB_⟩⟩
 clear T0
 obtain ⟨kq, p0, rfl, HA, p1, HB⟩ := hcut
 rcases kq with _ | q1
 ·exact absurd HA.o (by simp [af.j0])
 have H := HA.o
 clear HA
 simp only [af.j0] at H
 by_cases c7 : p0 = true
 ·subst c7
  replace H := iT_ H
  obtain rfl := Ba H
  go_wp2
  go_ret
  exact ⟨_, f1_, by first | exact vB _ _ _ _ _ | exact Kd.N_nil _ _ _ _ _ | exact Kd.V_nil _ _ _ _ _ | exact Kd.Q_nil _ _ _ _ _ | exact vC _ _ _ _ _, hB_⟩
 ·replace c7 := Ea c7
  subst c7
  replace H := iF_ H
  obtain ⟨c8, H⟩ := iN_ H
  have E1 := Aa c8
  have F1 := ya c8
  clear c8
  obtain ⟨y0, q0⟩ : ∃ y_ : List Int, y_ = (List.replicate 256 0) := ⟨_, rfl⟩
  first | replace H := yb_ q0 H | rw [← q0] at H
  have B0 := c_ q0
  clear q0
  have H' := c_ H
  clear H
  go_wp2_with (first | ((refine cQ (N := 17) rfl ?_); refine vs (Kd.int .i64) _ 3 rfl (N := 17) rfl 33 _ _ rfl 256 rfl rfl Tryz.underlying33 (.int .i64 0) 8 di rfl (by decide) (by omega) 0 (ok := fun _ => True) (okp := fun _ => True) rfl (fun _ hk => hk) trivial (by omega) (by omega) (Da _ _) (Ca _) ?_; intro G1 w9 t0 hb hg_ hnew_; clear hg_ hnew_; (first | rw [← B0.o] at t0 | (simp only [Int.reduceToNat] at t0; rw [← B0.o] at t0)); obtain ⟨C0, HB⟩ := b_ (uY t0 (av (hB_))) <| sB_; clear hb t0; obtain ⟨W0, X0, Y0⟩ := uV C0.o; subst Y0))
  go_loopg [20] q1 (fun kq H1 w' => ∃ (v0 : List Int) (a0 : Int), H1 = .int .i64 a0 ∧ aa (af.l0 kq l0 l1 v0 (y0.length : Int) a0 = some r) ∧ aa (kq ≤ q1) ∧ aa (Kd.R (Kd.int .i64) 3 w' w.heap.size (fun _ => True) (.slice W0 y0.length X0) v0) ∧ aa (Below w.heap.size w w'))
  case atStart => exact ⟨(y0), (0), f0_, H', ⟨Ca _⟩, ⟨rR_ C0.o⟩, ⟨hB_⟩⟩
  clear H'
  obtain ⟨v0, a0, rfl, HA, r1, f0, HB⟩ := hrel
  have b0 := (uU f0.o).1
  rw [b0] at f0
  (try simp only [b0])
  rcases gk with _ | k2
  ·exact absurd HA.o (by simp [af.l0])
  have H := HA.o
  clear HA
  simp only [af.l0] at H
  by_cases J0 : a0 < (y0.length : Int)
  rotate_left
  ·rw [Ga J0] at H
   have x0 := za J0
   (try simp only [b0] at x0)
   clear J0
   obtain rfl := Ba H
   go_wp2
   go_ret
   exact ⟨_, f1_, rR_ f0.o, hB_⟩
  rw [Fa J0] at H
  have x0 := ya J0
  (try simp only [b0] at x0)
  clear J0
  obtain ⟨t1, H⟩ := iD_ H
  obtain ⟨y1, H⟩ := iN_ H
  have K0 := ya y1
  (try simp only [b0] at K0)
  clear y1
  obtain ⟨z1, H⟩ := iN_ H
  have L0 := ya z1
  (try simp only [b0] at L0)
  clear z1
  obtain ⟨D0, I1, H⟩ := bN_ H
  obtain ⟨E0, J1, H⟩ := bN_ H
  obtain ⟨B1, H⟩ := iN_ H
  have M0 := ya B1
  (try simp only [b0] at M0)
  clear B1
  obtain ⟨Z0, r0⟩ : ∃ y_ : List Int, y_ = (v0.set (a0 : Int).toNat E0) := ⟨_, rfl⟩
  first | replace H := yb_ r0 H | rw [← r0] at H
  have N0 := c_ r0
  clear r0
  have H' := c_ H
  clear H
  try go_wp2
  obtain ⟨f0, HB⟩ := b_ (vh f0.o) <| c_ (bE HB.o)
  have F0 : 0 ≤ (a0 : Int) := oD_
  have G0 : a0 < (l0.length : Int) := oD_
  obtain ⟨O0, b1, d0⟩ := uX S0.o a0 F0 G0
  have k0 := d0
  cases b1
  replace d0 := hc_ d0
  replace F0 := Aa F0
  replace G0 := Aa G0
  have H0 : 0 ≤ (a0 : Int) := oD_
  have I0 : a0 < (l1.length : Int) := oD_
  obtain ⟨P0, d1, e0⟩ := uX n1.o a0 H0 I0
  have n0 := e0
  cases d1
  replace e0 := hc_ e0
  replace H0 := Aa H0
  replace I0 := Aa I0
  refine eI (n := 15) (S := fun w' => w'.cell? (O0.add (a0).toNat) = some (.int .i64 (rd l0 a0)) ∧ w'.cell? (P0.add (a0).toNat) = some (.int .i64 (rd l1 a0))) (ds := [14]) (bb_ 15 0) (by kernel_rfl) rfl rfl ⟨(hc_ k0), (hc_ n0)⟩ (fun hHeld => ?_); refine cW af.tab7 af.bits7 (fun HT_ HW_ => ?_)
  generalize wr.drew = L1 at f0 HB d0 e0 hHeld ⊢
  refine pT_ 0 23 15 1 ?_
  refine pT_ 1 24 15 3 ?_
  refine pT_ 2 25 15 7 ?_
  refine pT_ 3 26 15 15 ?_
  refine pT_ 4 27 15 31 ?_
  refine pT_ 5 28 15 63 ?_
  refine pT_ 7 30 15 191 ?_
  refine pT_ 8 31 15 447 ?_
  refine pT_ 9 32 15 959 ?_
  refine tS_ 6 29 (bb_ 15 1023) (bF HT_.o HW_.o (by kernel_rfl)) hHeld ?_
  refine tS_ 10 33 (bb_ 15 2047) (bF HT_.o HW_.o (by kernel_rfl)) hHeld ?_
  refine gh (i := 11) (N := some 34) (bb_ 15 4095) rfl rfl (cO HT_.o (by kernel_rfl)) (by decide) (fun K hK => ?_)
  refine Go.Proofs.YtmiackbomcjboaaGreatDoor.Kit.goesW_ (.tmp 25) Tryz.func103 (by kernel_rfl) rfl #[.int .i64 (rd l0 a0), .int .i64 (rd l1 a0)] (by rfl) rfl rfl aM_ (by first | rfl | (simp; done)) ?_
  with_reducible refine (eE.calls (rd l0 a0) (rd l1 a0) D0 _ I1.o).mono ?_
  rintro e w' ⟨rfl, ⟨nd, rfl⟩⟩
  refine ⟨_, rfl, ?_⟩
  refine hK _ _ ⟨(hc_ k0), (hc_ n0)⟩ (fun hHeld => ?_)
  clear hK K
  refine er (a' := ?_) ?_ ?_
  rotate_left
  ·show Act.put _ (some 34) _ = _
   simp only [Act.put, List.setIfInBounds_toArray, List.set_cons_zero, List.set_cons_succ, bB, cG]
   rfl
  refine gh (i := 12) (N := some 35) (bb_ 15 8191) rfl rfl (cO HT_.o (by kernel_rfl)) (by decide) (fun K hK => ?_)
  refine fX Tryz.func69 (by kernel_rfl) rfl #[.int .i64 D0] (by rfl) rfl rfl aM_ ?_
  with_reducible refine (cd.calls D0 E0 _ J1.o).mono ?_
  rintro e w' ⟨rfl, ⟨nd, rfl⟩⟩
  refine ⟨_, rfl, ?_⟩
  have e1 : 0 ≤ (a0 : Int) := oD_
  have f1 : (a0 : Int) < ((v0.length : Int) : Int) := oD_
  obtain ⟨go19, K1, Q0, R0, gl19, cl19, HG19⟩ := vm f0.o (by omega)
  (first | cases Q0 | (injection Q0 with ea_ en_ ec_; (first | subst ea_ | (injection ea_ with ea_; subst ea_)); subst ec_; clear en_))
  have g1 := c_ R0
  have GG19 := c_ HG19
  clear R0 gl19 HG19
  obtain ⟨i1, hf19_0⟩ := uZ 0 f0.o (a0 : Int) e1 f1
  replace e1 := Aa e1
  replace f1 := Aa f1
  have HP21 := vG f0.o (a0 : Int) E0
  rw [← N0.o] at HP21
  have HQ21 := c_ HP21
  clear HP21
  refine hK _ _ ⟨(hc_ k0), (hc_ n0)⟩ (fun hHeld => ?_)
  clear hK K
  refine er (a' := ?_) ?_ ?_
  rotate_left
  ·show Act.put _ (some 35) _ = _
   simp only [Act.put, List.setIfInBounds_toArray, List.set_cons_zero, List.set_cons_succ, bB, cG]
   rfl
  refine pT_ 13 36 15 16383 ?_
  refine hZ (i := 14) (N := none) (bb_ 15 32767) rfl rfl (cO HT_.o (by kernel_rfl)) (by decide) (fun K hK => ?_)
  refine js (w1 := ?_) (by rfl) rfl ?_ ?_
  rotate_left
  ·go_simp
   rfl
  refine hK _ _ ?_
  clear hK K
  refine fK (dN HT_.o (by kernel_rfl)) ?_
  try go_wp2
  (try simp only [← b0])
  go_roundg k2
  case measure => have := p1.o; have := r1.o; omega
  case rel => exact ⟨(Z0), (wrap64 (a0 + 1)), f0_, H', ⟨by have := p1.o; have := r1.o; omega⟩, ⟨by (try simp only [b0]); refine kR_ ?_; exact HQ21.o⟩, ⟨hS_ g1.o⟩⟩
theorem af.len_l : ∀ k (l0 l1 x r : List Int) (n i : Int), af.l0 k l0 l1 x n i = some r → r.length = x.length
 | 0, _, _, _, _, _, _, h => by simp [af.l0] at h
 | k + 1, l0, l1, x, r, n, i, h => by
  simp only [af.l0] at h
  split at h
  ·split at h
   ·split at h
    ·split at h
     ·obtain ⟨a, ha, h⟩ := Option.bind_eq_some_iff.mp h
      obtain ⟨b, hb, h⟩ := Option.bind_eq_some_iff.mp h
      split at h
      ·have := af.len_l k _ _ _ _ _ _ h
       rw [List.length_set] at this
       exact this
      ·exact absurd h (by simp)
     ·exact absurd h (by simp)
    ·exact absurd h (by simp)
   ·exact absurd h (by simp)
  ·obtain rfl := Ba h
   rfl
theorem af.calls_nil (k : Nat) (A0 : Option Addr) (c0 : Nat) (l0 : List Int) (A1 : Option Addr) (c1 : Nat) (l1 : List Int) (w : World) (hr0 : Kd.C (Kd.int .i64) w A0 l0.length l0) (hc0 : l0.length ≤ c0) (hr1 : Kd.C (Kd.int .i64) w A1 l1.length l1) (hc1 : l1.length ≤ c1) (h : af.f k l0 l1 = some ([] : List Int)) :
  Calls Tryz.prog 63 #[.slice A0 l0.length c0, .slice A1 l1.length c1, .func (.func 103) #[] #[]] w fun e w' => e = .returned (.slice none 0 0) ∧ Below w.heap.size w w' := by
 have n0 := c_ hr0
 have p0 := c_ hc0
 clear hr0 hc0
 have q0 := c_ hr1
 have r0 := c_ hc1
 clear hr1 hc1
 have HB := c_ (Da w.heap.size w)
 delta af.f at h
 have H := h
 clear h
 have e0 := c_ H
 clear H
 go_enter Tryz.func63, Tryz.ntmps63
 go_upto_region 1 with (fail)
 go_cut [16] (fun t0 wc => ∃ (kq : Nat) (a0 : Bool), t0 = .bool a0 ∧ aa (af.j0 kq l0 l1 a0 = some ([] : List Int)) ∧ aa (kq ≤ k) ∧ aa (Below w.heap.size w wc))
 case first =>
  have H := e0.o
  clear e0
  obtain ⟨f0, A4, H⟩ := bN_ H
  by_cases c5 : f0 = true
  ·subst c5
   replace H := iT_ H
   obtain ⟨k0, A6, H⟩ := bN_ H
   have H' := c_ H
   clear H
   go_wp2_with (first | (refine gp_ (k_ 10 Tryz.func65) (aw.calls _ _ _ _ _ _ (cR_ (vb n0.o HB.o)) p0.o A4.o) fun nd => ?_) | (go_at_call 65; refine mp_ (aw.calls _ _ _ _ _ _ (cR_ (vb q0.o (hB_))) r0.o A6.o) fun nd => ?_))
   go_meet
   case rel => exact ⟨_, (!k0), f0_, H', ⟨by first | omega | exact Ca _⟩, ⟨hB_⟩⟩
  ·replace c5 := Ea c5
   subst c5
   replace H := iF_ H
   have H' := c_ H
   clear H
   go_wp2_with (first | (refine gp_ (k_ 10 Tryz.func65) (aw.calls _ _ _ _ _ _ (cR_ (vb n0.o HB.o)) p0.o A4.o) fun nd => ?_))
   go_meet
   case rel => exact ⟨_, (true), f0_, H', ⟨by first | omega | exact Ca _⟩, ⟨hB_⟩⟩
 clear e0
 obtain ⟨kq, a0, rfl, HA, B0, HB⟩ := hcut
 rcases kq with _ | C0
 ·exact absurd HA.o (by simp [af.j0])
 have H := HA.o
 clear HA
 simp only [af.j0] at H
 by_cases c7 : a0 = true
 ·subst c7
  have H1 : (some ([] : List Int)) = some [] := rfl
  clear H
  have H := H1
  clear H1
  clear H
  go_wp2
  go_ret
  exact ⟨by first | rfl | (simp; done), hB_⟩
 ·replace c7 := Ea c7
  subst c7
  replace H := iF_ H
  obtain ⟨c8, H⟩ := iN_ H
  have v0 := Aa c8
  have x0 := ya c8
  clear c8
  obtain ⟨y0, b0⟩ : ∃ y_ : List Int, y_ = (List.replicate 256 0) := ⟨_, rfl⟩
  first | replace H := yb_ b0 H | rw [← b0] at H
  have d0 := c_ b0
  clear b0
  have H' := c_ H
  clear H
  exact absurd (af.len_l _ _ _ _ _ _ _ H'.o) (by rw [d0.o, List.length_replicate]; decide)
def b7.f (k : Nat) (l0 : List Int) (l1 : List Int) : Option (List Int) := (af.f k l0 l1).bind fun t778 => (some t778)
theorem b7.mono : ∀ a0 a1 k, LeO (b7.f k a0 a1) (b7.f (k + 1) a0 a1) := by
 intro a0 a1 k
 unfold b7.f
 exact o1_ af.mono
theorem b7.calls (k : Nat) (A0 : Option Addr) (c0 : Nat) (l0 : List Int) (A1 : Option Addr) (c1 : Nat) (l1 : List Int) (r : List Int) (w : World) (hr0 : Kd.C (Kd.int .i64) w A0 l0.length l0) (hc0 : l0.length ≤ c0) (hr1 : Kd.C (Kd.int .i64) w A1 l1.length l1) (hc1 : l1.length ≤ c1) (h : b7.f k l0 l1 = some r) :
  Calls Tryz.prog 78 #[.slice A0 l0.length c0, .slice A1 l1.length c1] w fun e w' => ∃ b0 : Value, e = .returned (b0) ∧ Kd.R (Kd.int .i64) 3 w' w.heap.size (fun _ => True) b0 r ∧ Below w.heap.size w w' := by
 have d0 := c_ hr0
 have e0 := c_ hc0
 clear hr0 hc0
 have f0 := c_ hr1
 have j0 := c_ hc1
 clear hr1 hc1
 have HB := c_ (Da w.heap.size w)
 delta b7.f at h
 have H := h
 clear h
 obtain ⟨k0, A3, H⟩ := bN_ H
 obtain rfl := Ba H
 go_enter Tryz.func78, Tryz.ntmps78
 go_wp2_with (first | (refine gR_ (k_ 7 Tryz.func63) (af.calls _ _ _ _ _ _ _ _ _ (cR_ d0.o) e0.o (cR_ f0.o) j0.o A3.o) fun n0 w4 ho_ hb => ?_; obtain ⟨a0, HB⟩ := n_ (lR_ ho_) <| sB_))
 go_ret
 exact ⟨_, f1_, rR_ a0.o, hB_⟩
theorem b7.calls_nil (k : Nat) (A0 : Option Addr) (c0 : Nat) (l0 : List Int) (A1 : Option Addr) (c1 : Nat) (l1 : List Int) (w : World) (hr0 : Kd.C (Kd.int .i64) w A0 l0.length l0) (hc0 : l0.length ≤ c0) (hr1 : Kd.C (Kd.int .i64) w A1 l1.length l1) (hc1 : l1.length ≤ c1) (h : b7.f k l0 l1 = some ([] : List Int)) :
  Calls Tryz.prog 78 #[.slice A0 l0.length c0, .slice A1 l1.length c1] w fun e w' => e = .returned (.slice none 0 0) ∧ Below w.heap.size w w' := by
 have a0 := c_ hr0
 have b0 := c_ hc0
 clear hr0 hc0
 have d0 := c_ hr1
 have e0 := c_ hc1
 clear hr1 hc1
 have HB := c_ (Da w.heap.size w)
 delta b7.f at h
 have H := h
 clear h
 obtain ⟨f0, A3, H⟩ := bN_ H
 obtain e_ := Ba H
 subst e_
 clear H
 go_enter Tryz.func78, Tryz.ntmps78
 go_wp2_with (first | (refine gq_ 63 (some 7) Tryz.func63 #[.slice A0 l0.length c0, .slice A1 l1.length c1, .func (.func 103) #[] #[]] (af.calls_nil k _ _ l0 _ _ l1 _ ?side1 ?side2 ?side3 ?side4 A3.o) ?_; (case side1 => exact cR_ a0.o); (case side2 => exact b0.o); (case side3 => exact cR_ d0.o); (case side4 => exact e0.o); rintro e w4 ⟨rfl, hb⟩; refine ⟨_, rfl, ?_⟩; have n1_ := c_ (du (hB_) hb); replace HB := n1_; clear n1_; (try clear j0)))
 go_ret
 exact ⟨f1_, hB_⟩
mutual
def bb.j0 : Nat → ByteArray → ByteArray → Bool → Option (List Int × Bool)
 | 0, _, _, _ => none
 | k + 1, x0, x1, x21 => if x21 = true then (some (([] : List Int), false)) else ((bp.f k x0).bind fun bt781 => (if bt781.2 = true then (bb.l0 k x1 bt781.1 ([] : List (List Int)) 0) else (some (([] : List Int), false))))
def bb.l0 : Nat → ByteArray → List (List Int) → List (List Int) → Int → Option (List Int × Bool)
 | 0, _, _, _, _ => none
 | k + 1, x1, x6, x8, x29 => if x29 < 2 then (if 0 ≤ (wrap64 (x29 * 320)) then (if (wrap64 (x29 * 320)) ≤ (wrap64 ((wrap64 (x29 + 1)) * 320)) then (if (wrap64 ((wrap64 (x29 + 1)) * 320)) ≤ (x1.size : Int) then ((ay.f k (x1.extract ((wrap64 (x29 * 320)) : Int).toNat ((wrap64 ((wrap64 (x29 + 1)) * 320)) : Int).toNat) 10 256).bind fun bt785 => ((bj.f k bt785.1 10).bind fun t789 => ((aU.f k t789).bind fun t792 => (if x8.length < 5864062014805 then (bb.l0 k x1 x6 (x8 ++ [t792]) (wrap64 (x29 + 1))) else (none))))) else (none)) else (none)) else (none)) else (if 640 ≤ (x1.size : Int) then ((ay.f k (x1.extract 640 x1.size) 4 256).bind fun bt798 => ((bj.f k bt798.1 4).bind fun t802 => ((bP.f k x6 x8).bind fun t805 => ((ah.f k t805).bind fun t808 => ((b7.f k t802 t808).bind fun t811 => (some (t811, true))))))) else (none))
end
def bb.f (k : Nat) (a0 : ByteArray) (a1 : ByteArray) : Option (List Int × Bool) := if (a0.size : Int) = 1632 then (bb.j0 k a0 a1 ((a1.size : Int) != 768)) else (bb.j0 k a0 a1 true)
theorem bb.mono_l : ∀ k, (∀ y0 y1 y2, LeO (bb.j0 k y0 y1 y2) (bb.j0 (k + 1) y0 y1 y2)) ∧ (∀ y0 y1 y2 y3, LeO (bb.l0 k y0 y1 y2 y3) (bb.l0 (k + 1) y0 y1 y2 y3))
 | 0 => ⟨fun _ _ _ r h => by simp [bb.j0] at h, fun _ _ _ _ r h => by simp [bb.l0] at h⟩
 | k + 1 => by
  obtain ⟨ih0, ih1⟩ := bb.mono_l k
  refine ⟨?_, ?_⟩ <;> (intros; (first | unfold bb.j0 | unfold bb.l0); exact o9_ ih0 ih1 ah.mono aU.mono b7.mono ay.mono bP.mono bp.mono bj.mono)
theorem bb.mono : ∀ a0 a1 k, LeO (bb.f k a0 a1) (bb.f (k + 1) a0 a1) := by
 intro a0 a1 k
 obtain ⟨ih0, ih1⟩ := bb.mono_l k
 unfold bb.f
 exact o9_ ih0 ih1 ah.mono aU.mono b7.mono ay.mono bP.mono bp.mono bj.mono
theorem bb.calls (k : Nat) (a0 : ByteArray) (a1 : ByteArray) (r1 : List Int) (r2 : Bool) (w : World) (h : bb.f k a0 a1 = some (r1, r2)) :
  Calls Tryz.prog 41 #[.string a0, .string a1] w fun e w' => ∃ t1 : Value, e = .returned (.tuple #[t1, .bool r2]) ∧ Kd.R (Kd.int .i64) 3 w' w.heap.size (fun _ => True) t1 r1 ∧ Below w.heap.size w w' := by
 have HB := c_ (Da w.heap.size w)
 delta bb.f at h
 have H := h
 clear h
 have U0 := c_ H
 clear H
 go_enter Tryz.func41, Tryz.ntmps41
 go_upto_region 1 with (fail)
 go_cut [21] (fun M1 wc => ∃ (kq : Nat) (t0 : Bool), M1 = .bool t0 ∧ aa (bb.j0 kq a0 a1 t0 = some (r1, r2)) ∧ aa (kq ≤ k) ∧ aa (Below w.heap.size w wc))
 case first =>
  have H := U0.o
  clear U0
  by_cases c4 : (a0.size : Int) = 1632
  ·rw [Fa c4] at H
   have B0 : ((a0.size : Int) == 1632) = true := beq_iff_eq.mpr c4
   have V0 : ((a0.size : Int) != 1632) = false := bne_eq_false_iff_eq.mpr c4
   clear c4
   (first | rw [B0] | (simp only [bB, cG]; rw [B0]) | skip)
   have H' := c_ H
   clear H
   go_wp2
   go_meet
   case rel => exact ⟨_, (((a1.size : Int) != 768)), f0_, H', ⟨by first | omega | exact Ca _⟩, ⟨hB_⟩⟩
  rw [Ga c4] at H
  have B0 : ((a0.size : Int) == 1632) = false := beq_eq_false_iff_ne.mpr c4
  have V0 : ((a0.size : Int) != 1632) = true := bne_iff_ne.mpr c4
  (first | rw [B0] | (simp only [bB, cG]; rw [B0]) | skip)
  have H' := c_ H
  clear H
  go_wp2
  go_meet
  case rel => exact ⟨_, (true), f0_, H', ⟨by first | omega | exact Ca _⟩, ⟨hB_⟩⟩
 clear U0
 obtain ⟨kq, t0, rfl, HA, y1, HB⟩ := hcut
 rcases kq with _ | z1
 ·exact absurd HA.o (by simp [bb.j0])
 have H := HA.o
 clear HA
 simp only [bb.j0] at H
 by_cases c5 : t0 = true
 ·subst c5
  replace H := iT_ H
  simp only [Option.some.injEq, Prod.mk.injEq] at H
  obtain ⟨rfl, rfl⟩ := H
  go_wp2
  go_ret2
  exact ⟨_, f1_, by first | exact vB _ _ _ _ _ | exact Kd.N_nil _ _ _ _ _ | exact Kd.V_nil _ _ _ _ _ | exact Kd.Q_nil _ _ _ _ _ | exact vC _ _ _ _ _, hB_⟩
 ·replace c5 := Ea c5
  subst c5
  replace H := iF_ H
  obtain ⟨⟨P0, W0⟩, A6, H⟩ := bN_ H
  by_cases c7 : W0 = true
  ·subst c7
   replace H := iT_ H
   have H' := c_ H
   clear H
   go_wp2_with (first | (refine gR_ (k_ 24 Tryz.func30) (bp.calls _ _ _ _ _ A6.o) fun y0 w8 ho_ hb => ?_; obtain ⟨L0, HB⟩ := n_ (lS_ ho_) <| sB_))
   go_loopg [8, 29] z1 (fun kq v8 N1 w' => ∃ (C0 : List (List Int)) (n0 : Int), N1 = .int .i64 n0 ∧ aa (bb.l0 kq a1 P0 C0 n0 = some (r1, r2)) ∧ aa (kq ≤ z1) ∧ aa (Kd.S (Kd.slice 3 (Kd.int .i64)) 33 w' w.heap.size (fun k_ => some k_ ≠ (v8 : Value).ownBlock) y0 P0) ∧ aa (Kd.S (Kd.slice 3 (Kd.int .i64)) 33 w' w.heap.size (fun k_ => some k_ ≠ (y0 : Value).ownBlock) v8 C0) ∧ aa (Below w.heap.size w w'))
   case atStart => exact ⟨(([] : List (List Int))), (0), f0_, H', ⟨Ca _⟩, ⟨by refine kS_ ?_; exact vi L0.o (fun _ hk => (by simp [Value.ownBlock]))⟩, ⟨by first | exact vC _ _ _ _ _ | exact Kd.N_nil _ _ _ _ _ | exact Kd.V_nil _ _ _ _ _ | exact Kd.Q_nil _ _ _ _ _ | exact vB _ _ _ _ _⟩, ⟨hB_⟩⟩
   clear H'
   obtain ⟨C0, n0, rfl, HA, A1, b0, d0, HB⟩ := hrel
   rcases gk with _ | k2
   ·exact absurd HA.o (by simp [bb.l0])
   have H := HA.o
   clear HA
   simp only [bb.l0] at H
   by_cases c9 : n0 < 2
   ·rw [Fa c9] at H
    have X0 := ya c9
    clear c9
    obtain ⟨M0, v0⟩ : ∃ j_ : Int, (wrap64 (n0 * 320)) = j_ := ⟨_, rfl⟩
    first | rw [v0] at H | simp only [v0] at H
    have Y0 : (IntKind.i64.wrap (n0 * 320)) = M0 := (bB _).trans v0
    obtain ⟨Z0, H⟩ := iN_ H
    have B1 := Aa Z0
    have C1 := ya Z0
    clear Z0
    obtain ⟨D1, H⟩ := iN_ H
    have E1 := Aa D1
    have F1 := ya D1
    obtain ⟨G1, H⟩ := iN_ H
    have H1 := Aa G1
    have I1 := ya G1
    obtain ⟨⟨D0, b1⟩, O1, H⟩ := bN_ H
    obtain ⟨G0, P1, H⟩ := bN_ H
    obtain ⟨E0, Q1, H⟩ := bN_ H
    obtain ⟨J1, H⟩ := iN_ H
    have Q0 := c_ J1
    clear J1
    obtain ⟨c1, x0⟩ : ∃ y_ : List (List Int), y_ = (C0 ++ [E0]) := ⟨_, rfl⟩
    first | replace H := yb_ x0 H | rw [← x0] at H
    have R0 := c_ x0
    clear x0
    have H' := c_ H
    clear H
    go_wp2_with (first | ((with_reducible refine ep (f := 76) rfl ?_); refine gS (some 40) rfl rfl Tryz.func76 (by kernel_rfl) rfl #[.string (a1.extract ((M0) : Int).toNat ((wrap64 ((wrap64 (n0 + 1)) * 320)) : Int).toNat), .int .i64 10, .int .i64 256] rfl (by (try simp only [List.map_toArray, List.map_cons, List.map_nil]); first | done | (simp only [v0]; rfl) | rfl | (simp only [List.length_drop, List.length_take]; rfl)) ?_; (with_reducible refine (ay.calls k2 (a1.extract ((M0) : Int).toNat ((wrap64 ((wrap64 (n0 + 1)) * 320)) : Int).toNat) 10 256 D0 b1 _ O1.o).mono ?_); rintro e J2 ⟨R1, rfl, d1, hb⟩; refine ⟨_, rfl, ?_⟩; obtain ⟨b0, d0, f0, HB⟩ := b_ (vc (rS_ b0.o) (vd d1) hb) <| b_ (vc (rS_ d0.o) (vd d1) hb) <| b_ (uY d1 (av (hB_))) <| sB_; obtain ⟨H0, I0, e1⟩ := uV f0.o; subst e1) | (refine gR_ (k_ 45 Tryz.func77) (bj.calls _ _ _ _ _ _ _ (cR_ (uU f0.o).2.2) ((uU f0.o).2.1) P1.o) fun S1 K2 ho_ hb => ?_; obtain ⟨b0, d0, f0, p0, HB⟩ := n_ (dr b0) <| n_ (dr d0) <| n_ (cJ f0) <| n_ (lR_ (cN ho_ f0)) <| sB_; obtain ⟨J0, K0, f1⟩ := uV p0.o; subst f1) | (refine gR_ (k_ 46 Tryz.func62) (aU.calls _ _ _ _ _ _ (cR_ (uU p0.o).2.2) ((uU p0.o).2.1) Q1.o) fun T1 L2 ho_ hb => ?_; obtain ⟨b0, d0, f0, p0, F0, HB⟩ := n_ (dr b0) <| n_ (dr d0) <| n_ (cJ f0) <| n_ (cJ p0) <| n_ (lR_ (cN (cN ho_ f0) p0)) <| sB_; obtain ⟨N0, O0, g1⟩ := uV F0.o; subst g1) | ((refine cr (b := .append) (xs := #[.tmp 43, .tmp 47]) rfl ?_); (try (refine bh (by rfl) ?_; dsimp only)); at_builtin; refine vu (Kd.slice 3 (Kd.int .i64)) (w0 := w) w.heap.size rfl (.tmp 43) (.tmp 47) 44 33 (.slice none 0 0) 24 rfl Tryz.underlying44 gu rfl (by decide) (by omega) u8 C0 E0 [.slice N0 E0.length O0] (fun k_ => some k_ ≠ (y0 : Value).ownBlock ∧ some k_ ≠ (.slice H0 D0.length I0 : Value).ownBlock ∧ some k_ ≠ (.slice J0 G0.length K0 : Value).ownBlock) (fun k_ => some k_ = (.slice N0 E0.length O0 : Value).ownBlock) rfl rfl ?aP (fun k_ hk_ => ((uW (ok' := fun k_ => ((fun k_ => some k_ ≠ (y0 : Value).ownBlock ∧ some k_ ≠ (.slice H0 D0.length I0 : Value).ownBlock ∧ some k_ ≠ (.slice J0 G0.length K0 : Value).ownBlock)) k_ ∧ some k_ ≠ (u8 : Value).ownBlock) (va (va (F0.o) (ve b0.o) (by decide)) (ve d0.o) (by decide)) (fun k_ hk => ⟨⟨hk.1.2, ⟨hk.1.1.1.2, hk.1.1.2⟩⟩, hk.2⟩))).1 k_ hk_.symm) ?aF ?aO ?aB ?aS ?aL ?_; (case aP => exact vY (uW (vx rfl (uW (ok' := fun k_ => ((fun k_ => some k_ ≠ (y0 : Value).ownBlock ∧ some k_ ≠ (.slice H0 D0.length I0 : Value).ownBlock ∧ some k_ ≠ (.slice J0 G0.length K0 : Value).ownBlock)) k_ ∧ some k_ ≠ (u8 : Value).ownBlock) (va (va (F0.o) (ve b0.o) (by decide)) (ve d0.o) (by decide)) (fun k_ hk => ⟨⟨hk.1.2, ⟨hk.1.1.1.2, hk.1.1.2⟩⟩, hk.2⟩))) (fun _ h_ => h_))); (case aB => exact (hB_)); (case aF => exact (fun k_ hk => ⟨Kd.fresh' (wV (rS_ b0.o)) k_ hk, Kd.fresh' (vF (rR_ f0.o)) k_ hk, Kd.fresh' (vF (rR_ p0.o)) k_ hk⟩)); (case aO => exact (by refine kS_ ?_; exact vi d0.o (fun k_ hk => ⟨⟨hk.1.1.1, ⟨hk.1.1.2, hk.1.2⟩⟩, fun e_ => hk.2 e_⟩))); (case aS => exact (av (hB_))); (case aL => have := Q0.o; omega); intro U1 M2 ho hb hg hat; rw [← R0.o] at ho; obtain ⟨b0, f0, p0, HB, S0⟩ := b_ (wv (ok := (fun k_ => some k_ ≠ (.slice H0 D0.length I0 : Value).ownBlock ∧ some k_ ≠ (.slice J0 G0.length K0 : Value).ownBlock ∧ some k_ ≠ (.slice N0 E0.length O0 : Value).ownBlock)) (by refine kS_ ?_; exact vi b0.o (fun _ hk => ⟨⟨hk.1.1.2, ⟨hk.1.2, hk.2⟩⟩, hk.1.1.1⟩)) hg hat) <| b_ (vQ (rR_ f0.o) (ve (rS_ d0.o)) (by decide) hg) <| b_ (vQ (rR_ p0.o) (ve (rS_ d0.o)) (by decide) hg) <| b_ (hb) <| c_ (ho); clear ho hb hg hat))
    go_roundg k2
    case measure => have := y1.o; have := A1.o; omega
    case rel => exact ⟨(c1), (wrap64 (n0 + 1)), f0_, H', ⟨by have := y1.o; have := A1.o; omega⟩, ⟨by refine kS_ ?_; exact vi b0.o (fun _ hk => hk.2)⟩, ⟨by refine kS_ ?_; exact vi S0.o (fun _ hk => hk.1)⟩, ⟨hB_⟩⟩
   rw [Ga c9] at H
   have X0 := za c9
   clear c9
   obtain ⟨i1, H⟩ := iN_ H
   have K1 := Aa i1
   have L1 := ya i1
   clear i1
   obtain ⟨⟨V1, X1⟩, Y1, H⟩ := bN_ H
   obtain ⟨Z1, b2, H⟩ := bN_ H
   obtain ⟨c2, f2, H⟩ := bN_ H
   obtain ⟨g2, i2, H⟩ := bN_ H
   obtain ⟨j2, l2, H⟩ := bN_ H
   simp only [Option.some.injEq, Prod.mk.injEq] at H
   obtain ⟨rfl, rfl⟩ := H
   go_wp2_with (first | (refine gR_ (k_ 53 Tryz.func76) (ay.calls _ _ _ _ _ _ _ Y1.o) fun m2 N2 ho_ hb => ?_; obtain ⟨b0, d0, e0, HB⟩ := n_ (dr b0) <| n_ (dr d0) <| n_ (lR_ ho_) <| sB_; obtain ⟨n2, p2, j1⟩ := uV e0.o; subst j1) | (refine gR_ (k_ 57 Tryz.func77) (bj.calls _ _ _ _ _ _ _ (cR_ (uU e0.o).2.2) ((uU e0.o).2.1) b2.o) fun q2 O2 ho_ hb => ?_; obtain ⟨b0, d0, e0, k0, HB⟩ := n_ (dr b0) <| n_ (dr d0) <| n_ (cJ e0) <| n_ (lR_ (cN ho_ e0)) <| sB_; obtain ⟨t2, v2, l1⟩ := vy b0.o; subst l1; obtain ⟨y2, z2, m1⟩ := vy d0.o; subst m1) | (refine gR_ (k_ 60 Tryz.func35) (bP.calls _ _ _ _ _ _ _ _ _ (cR_ (vf b0.o).2.2) ((vf b0.o).2.1) (cR_ (vf d0.o).2.2) ((vf d0.o).2.1) f2.o) fun A2 P2 ho_ hb => ?_; obtain ⟨b0, d0, e0, k0, q0, HB⟩ := n_ (dr b0) <| n_ (dr d0) <| n_ (cJ e0) <| n_ (cJ k0) <| n_ (lR_ (cN (cN ho_ e0) k0)) <| sB_; obtain ⟨B2, C2, n1⟩ := uV q0.o; subst n1) | (refine gR_ (k_ 61 Tryz.func34) (ah.calls _ _ _ _ _ _ (cR_ (uU q0.o).2.2) ((uU q0.o).2.1) i2.o) fun D2 Q2 ho_ hb => ?_; obtain ⟨b0, d0, e0, k0, q0, r0, HB⟩ := n_ (dr b0) <| n_ (dr d0) <| n_ (cJ e0) <| n_ (cJ k0) <| n_ (cJ q0) <| n_ (lR_ (cN (cN (cN ho_ e0) k0) q0)) <| sB_; obtain ⟨E2, F2, p1⟩ := uV k0.o; subst p1; obtain ⟨G2, H2, q1⟩ := uV r0.o; subst q1) | (refine gR_ (k_ 62 Tryz.func78) (b7.calls _ _ _ _ _ _ _ _ _ (cR_ (uU k0.o).2.2) ((uU k0.o).2.1) (cR_ (uU r0.o).2.2) ((uU r0.o).2.1) l2.o) fun I2 R2 ho_ hb => ?_; obtain ⟨b0, d0, e0, k0, q0, r0, T0, HB⟩ := n_ (dr b0) <| n_ (dr d0) <| n_ (cJ e0) <| n_ (cJ k0) <| n_ (cJ q0) <| n_ (cJ r0) <| n_ (lR_ (cN (cN (cN (cN ho_ e0) k0) q0) r0)) <| sB_))
   go_ret2
   exact ⟨_, f1_, by refine kR_ ?_; exact uW T0.o (fun _ hk => trivial), hB_⟩
  ·replace c7 := Ea c7
   subst c7
   replace H := iF_ H
   simp only [Option.some.injEq, Prod.mk.injEq] at H
   obtain ⟨rfl, rfl⟩ := H
   go_wp2_with (first | (refine gR_ (k_ 24 Tryz.func30) (bp.calls _ _ _ _ _ A6.o) fun y0 T2 ho_ hb => ?_; obtain ⟨L0, HB⟩ := n_ (lS_ ho_) <| sB_))
   go_ret2
   exact ⟨_, f1_, by first | exact vB _ _ _ _ _ | exact Kd.N_nil _ _ _ _ _ | exact Kd.V_nil _ _ _ _ _ | exact Kd.Q_nil _ _ _ _ _ | exact vC _ _ _ _ _, hB_⟩
def cI.f (k : Nat) (a0 : ByteArray) (a1 : ByteArray) : Option (ByteArray × Bool) := (bb.f k a0 a1).bind fun bt814 => (if bt814.2 = true then ((bs.f k bt814.1 1).bind fun t818 => ((aA.f k t818 1).bind fun t821 => (some (t821, true)))) else (some ((⟨#[]⟩ : ByteArray), false)))
theorem cI.mono : ∀ a0 a1 k, LeO (cI.f k a0 a1) (cI.f (k + 1) a0 a1) := by
 intro a0 a1 k
 unfold cI.f
 exact o3_ bb.mono aA.mono bs.mono
theorem cI.calls (k : Nat) (a0 : ByteArray) (a1 : ByteArray) (r1 : ByteArray) (r2 : Bool) (w : World) (h : cI.f k a0 a1 = some (r1, r2)) :
  Calls Tryz.prog 26 #[.string a0, .string a1] w fun e w' => e = .returned (.tuple #[.string r1, .bool r2]) ∧ Below w.heap.size w w' := by
 have HB := c_ (Da w.heap.size w)
 delta cI.f at h
 have H := h
 clear h
 obtain ⟨⟨k0, e0⟩, A3, H⟩ := bN_ H
 by_cases c4 : e0 = true
 ·subst c4
  replace H := iT_ H
  obtain ⟨n0, A5, H⟩ := bN_ H
  obtain ⟨p0, A6, H⟩ := bN_ H
  simp only [Option.some.injEq, Prod.mk.injEq] at H
  obtain ⟨rfl, rfl⟩ := H
  go_enter Tryz.func26, Tryz.ntmps26
  go_wp2_with (first | (refine gR_ (k_ 11 Tryz.func41) (bb.calls _ _ _ _ _ _ A3.o) fun f0 w7 ho_ hb => ?_; obtain ⟨b0, HB⟩ := n_ (lR_ ho_) <| sB_; obtain ⟨x0, y0, q0⟩ := uV b0.o; subst q0) | (refine gR_ (k_ 17 Tryz.func38) (bs.calls _ _ _ _ _ _ _ (cR_ (uU b0.o).2.2) ((uU b0.o).2.1) A5.o) fun r0 w9 ho_ hb => ?_; obtain ⟨b0, d0, HB⟩ := n_ (cJ b0) <| n_ (lR_ (cN ho_ b0)) <| sB_; obtain ⟨t0, v0, j0⟩ := uV d0.o; subst j0) | (refine gc_ (k_ 18 Tryz.func37) (aA.calls _ _ _ _ _ _ _ (cR_ (uU d0.o).2.2) ((uU d0.o).2.1) A6.o) fun B0 hb => ?_; obtain ⟨b0, d0, HB⟩ := n_ (fR_ b0) <| n_ (fR_ d0) <| sB_))
  go_ret2
  exact ⟨f1_, hB_⟩
 ·replace c4 := Ea c4
  subst c4
  replace H := iF_ H
  simp only [Option.some.injEq, Prod.mk.injEq] at H
  obtain ⟨rfl, rfl⟩ := H
  go_enter Tryz.func26, Tryz.ntmps26
  go_wp2_with (first | (refine gR_ (k_ 11 Tryz.func41) (bb.calls _ _ _ _ _ _ A3.o) fun f0 C0 ho_ hb => ?_; obtain ⟨b0, HB⟩ := n_ (lR_ ho_) <| sB_))
  go_ret2
  exact ⟨f1_, hB_⟩
mutual
def aC.j0 : Nat → ByteArray → Int → Int → List Int → Bool → Option (List Int × Bool)
 | 0, _, _, _, _, _ => none
 | k + 1, x0, x1, x2, x8, x31 => if x31 = true then (some (x8, false)) else (aC.l0 k x0 x1 x2 x8 0 0 0 0)
def aC.l0 : Nat → ByteArray → Int → Int → List Int → Int → Int → Int → Int → Option (List Int × Bool)
 | 0, _, _, _, _, _, _, _, _ => none
 | k + 1, x0, x1, x2, x8, x9, x10, x11, x12 => if x12 < x2 then (aC.l1 k x0 x1 x2 x8 x9 x10 x11 x12) else (if x9 = 0 then (some (x8, true)) else (some ((([] : List Int)), false)))
def aC.l1 : Nat → ByteArray → Int → Int → List Int → Int → Int → Int → Int → Option (List Int × Bool)
 | 0, _, _, _, _, _, _, _, _ => none
 | k + 1, x0, x1, x2, x8, x9, x10, x11, x12 => if x10 < x1 then (if 0 ≤ x11 then (if x11 < (x0.size : Int) then ((ax.f k x10).bind fun t837 => (aC.l1 k x0 x1 x2 x8 (wrap64 (x9 + (wrap64 ((wrap64 (bt x0 x11)) * t837)))) (wrap64 (x10 + 8)) (wrap64 (x11 + 1)) x12)) else (none)) else (none)) else ((ax.f k x1).bind fun t838 => (if t838 = 0 then (none) else (if x8.length < 17592186044416 then ((ax.f k x1).bind fun t842 => (if t842 = 0 then (none) else (aC.l0 k x0 x1 x2 (x8 ++ [Int.tmod x9 t838]) (wrap64 (Int.tdiv x9 t842)) (wrap64 (x10 - x1)) x11 (wrap64 (x12 + 1))))) else (none))))
end
def aC.f (k : Nat) (a0 : ByteArray) (a1 : Int) (a2 : Int) : Option (List Int × Bool) := (some (([] : List Int) : List Int)).bind fun y829 => ((aZ.f a1 1 12).bind fun t832 => (if t832 = true then ((aZ.f a2 0 1000).bind fun t833 => (if t833 = true then (aC.j0 k a0 a1 a2 y829 ((a0.size : Int) != (wrap64 (Int.tdiv (wrap64 ((wrap64 (a2 * a1)) + 7)) 8)))) else (aC.j0 k a0 a1 a2 y829 true))) else (aC.j0 k a0 a1 a2 y829 true)))
theorem aC.mono_l : ∀ k, (∀ y0 y1 y2 y3 y4, LeO (aC.j0 k y0 y1 y2 y3 y4) (aC.j0 (k + 1) y0 y1 y2 y3 y4)) ∧ (∀ y0 y1 y2 y3 y4 y5 y6 y7, LeO (aC.l0 k y0 y1 y2 y3 y4 y5 y6 y7) (aC.l0 (k + 1) y0 y1 y2 y3 y4 y5 y6 y7)) ∧ (∀ y0 y1 y2 y3 y4 y5 y6 y7, LeO (aC.l1 k y0 y1 y2 y3 y4 y5 y6 y7) (aC.l1 (k + 1) y0 y1 y2 y3 y4 y5 y6 y7))
 | 0 => ⟨fun _ _ _ _ _ r h => by simp [aC.j0] at h, fun _ _ _ _ _ _ _ _ r h => by simp [aC.l0] at h, fun _ _ _ _ _ _ _ _ r h => by simp [aC.l1] at h⟩
 | k + 1 => by
  obtain ⟨ih0, ih1, ih2⟩ := aC.mono_l k
  refine ⟨?_, ?_, ?_⟩ <;> (intros; (first | unfold aC.j0 | unfold aC.l0 | unfold aC.l1); exact o4_ ih0 ih1 ih2 ax.mono)
theorem aC.mono : ∀ a0 a1 a2 k, LeO (aC.f k a0 a1 a2) (aC.f (k + 1) a0 a1 a2) := by
 intro a0 a1 a2 k
 obtain ⟨ih0, ih1, ih2⟩ := aC.mono_l k
 unfold aC.f
 exact o4_ ih0 ih1 ih2 ax.mono
theorem aC.calls (k : Nat) (a0 : ByteArray) (a1 : Int) (a2 : Int) (r1 : List Int) (r2 : Bool) (w : World) (h : aC.f k a0 a1 a2 = some (r1, r2)) :
  Calls Tryz.prog 111 #[.string a0, .int .i64 a1, .int .i64 a2] w fun e w' => ∃ q1 : Value, e = .returned (.tuple #[q1, .bool r2]) ∧ Kd.R (Kd.int .i64) 3 w' w.heap.size (fun _ => True) q1 r1 ∧ Below w.heap.size w w' := by
 have HB := c_ (Da w.heap.size w)
 delta aC.f at h
 have H := h
 clear h
 obtain ⟨K0, p0⟩ : ∃ y_ : List Int, y_ = (([] : List Int)) := ⟨_, rfl⟩
 first | replace H := yb_ p0 H | rw [← p0] at H
 have C0 := c_ p0
 clear p0
 have b1 := c_ H
 clear H
 go_enter Tryz.func111, Tryz.ntmps111
 go_upto_region 2 with (first | ((try (refine bh (by rfl) ?_; dsimp only)); refine lj_ 13 .i64 3 C0 fun L0 w5 n0 HB => ?_))
 repeat (go_quiet (first | ((try (refine bh (by rfl) ?_; dsimp only)); refine lj_ 13 .i64 3 C0 fun L0 w5 n0 HB => ?_)); go_upto_region 2 with (first | ((try (refine bh (by rfl) ?_; dsimp only)); refine lj_ 13 .i64 3 C0 fun L0 w5 n0 HB => ?_)))
 (try simp only [Act.put, List.setIfInBounds_toArray, List.set_cons_zero, List.set_cons_succ])
 go_cut [31] (fun G1 wc => ∃ (kq : Nat) (q0 : Bool), G1 = .bool q0 ∧ aa (aC.j0 kq a0 a1 a2 K0 q0 = some (r1, r2)) ∧ aa (kq ≤ k) ∧ aa (Kd.R (Kd.int .i64) 3 wc w.heap.size (fun _ => True) L0 K0) ∧ aa (Below w.heap.size w wc))
 case first =>
  have H := b1.o
  clear b1
  obtain ⟨c1, A7, H⟩ := bN_ H
  by_cases c8 : c1 = true
  ·subst c8
   replace H := iT_ H
   obtain ⟨d1, A9, H⟩ := bN_ H
   by_cases T0 : d1 = true
   ·subst T0
    replace H := iT_ H
    have H' := c_ H
    clear H
    go_wp2_with (first | (go_at_call 87; refine mp_ (aZ.calls _ _ _ _ _ A7.o) fun nd => ?_; (try exact dD_)) | (go_at_call 87; refine mp_ (aZ.calls _ _ _ _ _ A9.o) fun nd => ?_; (try exact dD_)))
    repeat (go_quiet (first | (go_at_call 87; refine mp_ (aZ.calls _ _ _ _ _ A7.o) fun nd => ?_; (try exact dD_)) | (go_at_call 87; refine mp_ (aZ.calls _ _ _ _ _ A9.o) fun nd => ?_; (try exact dD_))); try go_wp2)
    go_meet
    case rel => exact ⟨_, (((a0.size : Int) != (wrap64 (Int.tdiv (wrap64 ((wrap64 (a2 * a1)) + 7)) 8)))), f0_, H', ⟨by first | omega | exact Ca _⟩, ⟨rR_ n0.o⟩, ⟨hB_⟩⟩
   ·replace T0 := Ea T0
    subst T0
    replace H := iF_ H
    have H' := c_ H
    clear H
    go_wp2_with (first | (go_at_call 87; refine mp_ (aZ.calls _ _ _ _ _ A7.o) fun nd => ?_; (try exact dD_)) | (go_at_call 87; refine mp_ (aZ.calls _ _ _ _ _ A9.o) fun nd => ?_; (try exact dD_)))
    repeat (go_quiet (first | (go_at_call 87; refine mp_ (aZ.calls _ _ _ _ _ A7.o) fun nd => ?_; (try exact dD_)) | (go_at_call 87; refine mp_ (aZ.calls _ _ _ _ _ A9.o) fun nd => ?_; (try exact dD_))); try go_wp2)
    go_meet
    case rel => exact ⟨_, (true), f0_, H', ⟨by first | omega | exact Ca _⟩, ⟨rR_ n0.o⟩, ⟨hB_⟩⟩
  ·replace c8 := Ea c8
   subst c8
   replace H := iF_ H
   have H' := c_ H
   clear H
   go_wp2_with (first | (go_at_call 87; refine mp_ (aZ.calls _ _ _ _ _ A7.o) fun nd => ?_; (try exact dD_)))
   repeat (go_quiet (first | (go_at_call 87; refine mp_ (aZ.calls _ _ _ _ _ A7.o) fun nd => ?_; (try exact dD_))); try go_wp2)
   go_meet
   case rel => exact ⟨_, (true), f0_, H', ⟨by first | omega | exact Ca _⟩, ⟨rR_ n0.o⟩, ⟨hB_⟩⟩
 clear b1
 obtain ⟨kq, q0, rfl, HA, U0, b0, HB⟩ := hcut
 rcases kq with _ | t1
 ·exact absurd HA.o (by simp [aC.j0])
 have H := HA.o
 clear HA
 simp only [aC.j0] at H
 by_cases V0 : q0 = true
 ·subst V0
  replace H := iT_ H
  simp only [Option.some.injEq, Prod.mk.injEq] at H
  obtain ⟨rfl, rfl⟩ := H
  go_wp2
  repeat (go_quiet (fail); try go_wp2)
  go_ret2
  exact ⟨_, f1_, rR_ b0.o, hB_⟩
 ·replace V0 := Ea V0
  subst V0
  replace H := iF_ H
  have H' := c_ H
  clear H
  go_wp2
  repeat (go_quiet (fail); try go_wp2)
  go_loopg [8, 9, 10, 11, 12] t1 (fun kq v8 v9 e1 f1 H1 w' => ∃ (y0 : List Int) (k0 : Int) (r0 : Int) (t0 : Int) (e0 : Int), v9 = .int .i64 k0 ∧ e1 = .int .i64 r0 ∧ f1 = .int .i64 t0 ∧ H1 = .int .i64 e0 ∧ aa (aC.l0 kq a0 a1 a2 y0 k0 r0 t0 e0 = some (r1, r2)) ∧ aa (kq ≤ t1) ∧ aa (Kd.R (Kd.int .i64) 3 w' w.heap.size (fun _ => True) v8 y0) ∧ aa (Below w.heap.size w w'))
  case atStart => exact ⟨(K0), (0), (0), (0), (0), f0_, f0_, f0_, f0_, H', ⟨Ca _⟩, ⟨rR_ b0.o⟩, ⟨hB_⟩⟩
  clear H'
  obtain ⟨y0, k0, r0, t0, e0, rfl, rfl, rfl, rfl, HA, W0, b0, HB⟩ := hrel
  rcases gk with _ | k2
  ·exact absurd HA.o (by simp [aC.l0])
  have H := HA.o
  clear HA
  simp only [aC.l0] at H
  by_cases N0 : e0 < a2
  rotate_left
  ·rw [Ga N0] at H
   have P0 := za N0
   clear N0
   by_cases M0 : k0 = 0
   ·rw [Fa M0] at H
    have Q0 : (k0 == 0) = true := beq_iff_eq.mpr M0
    have R0 : (k0 != 0) = false := bne_eq_false_iff_eq.mpr M0
    clear M0
    simp only [Option.some.injEq, Prod.mk.injEq] at H
    obtain ⟨rfl, rfl⟩ := H
    go_wp2
    repeat (go_quiet (fail); try go_wp2)
    go_ret2
    exact ⟨_, f1_, rR_ b0.o, hB_⟩
   rw [Ga M0] at H
   have Q0 : (k0 == 0) = false := beq_eq_false_iff_ne.mpr M0
   have R0 : (k0 != 0) = true := bne_iff_ne.mpr M0
   obtain ⟨I1, v0⟩ : ∃ y_ : List Int, y_ = (([] : List Int)) := ⟨_, rfl⟩
   first | replace H := yb_ v0 H | rw [← v0] at H
   have F0 := c_ v0
   clear v0
   simp only [Option.some.injEq, Prod.mk.injEq] at H
   obtain ⟨rfl, rfl⟩ := H
   go_wp2_with (first | ((try (refine bh (by rfl) ?_; dsimp only)); refine li_ 70 .i64 3 F0 fun g1 J1 ho_ hb => ?_; obtain ⟨b0, G0, HB⟩ := n_ (cJ b0) <| n_ (lR_ (cN ho_ b0)) <| sB_))
   repeat (go_quiet (first | ((try (refine bh (by rfl) ?_; dsimp only)); refine li_ 70 .i64 3 F0 fun g1 J1 ho_ hb => ?_; obtain ⟨b0, G0, HB⟩ := n_ (cJ b0) <| n_ (lR_ (cN ho_ b0)) <| sB_)); try go_wp2)
   go_ret2
   exact ⟨_, f1_, by refine kR_ ?_; exact uW G0.o (fun _ hk => trivial), hB_⟩
  rw [Fa N0] at H
  have P0 := ya N0
  clear N0
  have H' := c_ H
  clear H
  go_wp2
  repeat (go_quiet (fail); try go_wp2)
  go_loopg [9, 10, 11] k2 (fun kq v9 e1 f1 w' => ∃ (B0 : Int) (f0 : Int) (d0 : Int), v9 = .int .i64 B0 ∧ e1 = .int .i64 f0 ∧ f1 = .int .i64 d0 ∧ aa (aC.l1 kq a0 a1 a2 y0 B0 f0 d0 e0 = some (r1, r2)) ∧ aa (kq ≤ k2) ∧ aa (Kd.R (Kd.int .i64) 3 w' w.heap.size (fun _ => True) u8 y0) ∧ aa (Below w.heap.size w w'))
  case atStart => exact ⟨(k0), (r0), (t0), f0_, f0_, f0_, H', ⟨Ca _⟩, ⟨rR_ b0.o⟩, ⟨hB_⟩⟩
  clear H'
  obtain ⟨B0, f0, d0, rfl, rfl, rfl, HA, X0, b0, HB⟩ := hrel
  rcases gk with _ | k3
  ·exact absurd HA.o (by simp [aC.l1])
  have H := HA.o
  clear HA
  simp only [aC.l1] at H
  by_cases O0 : f0 < a1
  ·rw [Fa O0] at H
   have S0 := ya O0
   clear O0
   obtain ⟨y1, H⟩ := iD_ H
   obtain ⟨z1, H⟩ := iD_ H
   obtain ⟨i1, A1, H⟩ := bN_ H
   have H' := c_ H
   clear H
   have M1 := Aa (oD_ : 0 ≤ (d0 : Int))
   have N1 := Aa (oD_ : d0 < (a0.size : Int))
   have K1 := cY a0 d0
   go_wp2_with (first | (go_at_call 88; refine mp_ (ax.calls _ _ _ _ A1.o) fun nd => ?_; (try exact dD_)))
   repeat (go_quiet (first | (go_at_call 88; refine mp_ (ax.calls _ _ _ _ A1.o) fun nd => ?_; (try exact dD_))); try go_wp2)
   go_roundg k3
   case measure => have := U0.o; have := W0.o; have := X0.o; omega
   case rel => exact ⟨(wrap64 (B0 + (wrap64 ((wrap64 (bt a0 d0)) * i1)))), (wrap64 (f0 + 8)), (wrap64 (d0 + 1)), f0_, f0_, f0_, H', ⟨by have := U0.o; have := W0.o; have := X0.o; omega⟩, ⟨rR_ b0.o⟩, ⟨hB_⟩⟩
  rw [Ga O0] at H
  have S0 := za O0
  clear O0
  obtain ⟨D0, j1, H⟩ := bN_ H
  by_cases Y0 : D0 = 0
  ·rw [Fa Y0] at H
   exact absurd H (by simp)
  rw [Ga Y0] at H
  have B1 : (D0 == 0) = false := beq_eq_false_iff_ne.mpr Y0
  have C1 : (D0 != 0) = true := bne_iff_ne.mpr Y0
  obtain ⟨D1, H⟩ := iN_ H
  have H0 := c_ D1
  clear D1
  obtain ⟨m1, x0⟩ : ∃ y_ : List Int, y_ = (y0 ++ [Int.tmod B0 D0]) := ⟨_, rfl⟩
  first | replace H := yb_ x0 H | rw [← x0] at H
  have I0 := c_ x0
  clear x0
  obtain ⟨E0, n1, H⟩ := bN_ H
  have QA21 := c_ (Ba (j1.o.symm.trans n1.o))
  by_cases Z0 : E0 = 0
  ·rw [Fa Z0] at H
   exact absurd H (by simp)
  rw [Ga Z0] at H
  have E1 : (E0 == 0) = false := beq_eq_false_iff_ne.mpr Z0
  have F1 : (E0 != 0) = true := bne_iff_ne.mpr Z0
  have H' := c_ H
  clear H
  go_wp2_with (first | (go_at_call 88; refine mp_ (ax.calls _ _ _ _ j1.o) fun nd => ?_; (try exact dD_)) | (refine ga_ 54 59 ?_; (try (refine bh (by rfl) ?_; dsimp only)); at_builtin; refine ap_ b0 I0 H0 Tryz.underlying33 di fun p1 L1 J0 HB hg hat => ?_) | (go_at_call 88; refine mp_ (ax.calls _ _ _ _ n1.o) fun nd => ?_; (try exact dD_)))
  repeat (go_quiet (first | (go_at_call 88; refine mp_ (ax.calls _ _ _ _ j1.o) fun nd => ?_; (try exact dD_)) | (refine ga_ 54 59 ?_; (try (refine bh (by rfl) ?_; dsimp only)); at_builtin; refine ap_ b0 I0 H0 Tryz.underlying33 di fun p1 L1 J0 HB hg hat => ?_) | (go_at_call 88; refine mp_ (ax.calls _ _ _ _ n1.o) fun nd => ?_; (try exact dD_))); try go_wp2)
  go_roundg k3
  case measure => have := U0.o; have := W0.o; have := X0.o; omega
  case rel => exact ⟨(m1), (wrap64 (Int.tdiv B0 E0)), (wrap64 (f0 - a1)), (d0), (wrap64 (e0 + 1)), (by first | rfl | (simp only [QA21.o]; done) | (simp; done) | (simp [*]; done)), (by first | rfl | (simp only [QA21.o]; done) | (simp; done) | (simp [*]; done)), (by first | rfl | (simp only [QA21.o]; done) | (simp; done) | (simp [*]; done)), (by first | rfl | (simp only [QA21.o]; done) | (simp; done) | (simp [*]; done)), H', ⟨by have := U0.o; have := W0.o; have := X0.o; omega⟩, ⟨rR_ J0.o⟩, ⟨hB_⟩⟩
def ct.f (k : Nat) (a0 : ByteArray) : Option (List Int × Bool) := (aC.f k a0 12 256).bind fun bt843 => (if bt843.2 = true then ((au.f k bt843.1).bind fun t847 => (if t847 = true then (some (bt843.1, true)) else (some ((([] : List Int)), false)))) else (some ((([] : List Int)), false)))
theorem ct.mono : ∀ a0 k, LeO (ct.f k a0) (ct.f (k + 1) a0) := by
 intro a0 k
 unfold ct.f
 exact o2_ au.mono aC.mono
theorem ct.calls (k : Nat) (a0 : ByteArray) (r1 : List Int) (r2 : Bool) (w : World) (h : ct.f k a0 = some (r1, r2)) :
  Calls Tryz.prog 110 #[.string a0] w fun e w' => ∃ t0 : Value, e = .returned (.tuple #[t0, .bool r2]) ∧ Kd.R (Kd.int .i64) 3 w' w.heap.size (fun _ => True) t0 r1 ∧ Below w.heap.size w w' := by
 have HB := c_ (Da w.heap.size w)
 delta ct.f at h
 have H := h
 clear h
 obtain ⟨⟨v0, q0⟩, A2, H⟩ := bN_ H
 by_cases c3 : q0 = true
 ·subst c3
  replace H := iT_ H
  obtain ⟨r0, A4, H⟩ := bN_ H
  by_cases c5 : r0 = true
  ·subst c5
   replace H := iT_ H
   simp only [Option.some.injEq, Prod.mk.injEq] at H
   obtain ⟨rfl, rfl⟩ := H
   go_enter Tryz.func110, Tryz.ntmps110
   go_wp2_with (first | (refine gR_ (k_ 8 Tryz.func111) (aC.calls _ _ _ _ _ _ _ A2.o) fun f0 w6 ho_ hb => ?_; obtain ⟨b0, HB⟩ := n_ (lR_ ho_) <| sB_; obtain ⟨F0, G0, x0⟩ := uV b0.o; subst x0) | (go_at_call 47; refine mp_ (au.calls _ _ _ _ _ _ (cR_ (uU b0.o).2.2) ((uU b0.o).2.1) A4.o) fun nd => ?_))
   go_ret2
   exact ⟨_, f1_, rR_ b0.o, hB_⟩
  ·replace c5 := Ea c5
   subst c5
   replace H := iF_ H
   obtain ⟨y0, d0⟩ : ∃ y_ : List Int, y_ = (([] : List Int)) := ⟨_, rfl⟩
   first | replace H := yb_ d0 H | rw [← d0] at H
   have j0 := c_ d0
   clear d0
   simp only [Option.some.injEq, Prod.mk.injEq] at H
   obtain ⟨rfl, rfl⟩ := H
   go_enter Tryz.func110, Tryz.ntmps110
   go_wp2_with (first | (refine gR_ (k_ 8 Tryz.func111) (aC.calls _ _ _ _ _ _ _ A2.o) fun f0 w8 ho_ hb => ?_; obtain ⟨b0, HB⟩ := n_ (lR_ ho_) <| sB_; obtain ⟨H0, I0, B0⟩ := uV b0.o; subst B0) | (go_at_call 47; refine mp_ (au.calls _ _ _ _ _ _ (cR_ (uU b0.o).2.2) ((uU b0.o).2.1) A4.o) fun nd => ?_) | (refine li_ 18 .i64 3 j0 fun C0 J0 ho_ hb => ?_; obtain ⟨b0, k0, HB⟩ := n_ (cJ b0) <| n_ (lR_ (cN ho_ b0)) <| sB_))
   go_ret2
   exact ⟨_, f1_, by refine kR_ ?_; exact uW k0.o (fun _ hk => trivial), hB_⟩
 ·replace c3 := Ea c3
  subst c3
  replace H := iF_ H
  obtain ⟨D0, e0⟩ : ∃ y_ : List Int, y_ = (([] : List Int)) := ⟨_, rfl⟩
  first | replace H := yb_ e0 H | rw [← e0] at H
  have n0 := c_ e0
  clear e0
  simp only [Option.some.injEq, Prod.mk.injEq] at H
  obtain ⟨rfl, rfl⟩ := H
  go_enter Tryz.func110, Tryz.ntmps110
  go_wp2_with (first | (refine gR_ (k_ 8 Tryz.func111) (aC.calls _ _ _ _ _ _ _ A2.o) fun f0 K0 ho_ hb => ?_; obtain ⟨b0, HB⟩ := n_ (lR_ ho_) <| sB_) | (refine li_ 18 .i64 3 n0 fun E0 L0 ho_ hb => ?_; obtain ⟨b0, p0, HB⟩ := n_ (cJ b0) <| n_ (lR_ (cN ho_ b0)) <| sB_))
  go_ret2
  exact ⟨_, f1_, by refine kR_ ?_; exact uW p0.o (fun _ hk => trivial), hB_⟩
def bd.l0 : Nat → ByteArray → List (List Int) → Int → Option ((List (List Int)) × Bool)
 | 0, _, _, _ => none
 | k + 1, x0, x4, x5 => if x5 < 2 then (if 0 ≤ (wrap64 (x5 * 384)) then (if (wrap64 (x5 * 384)) ≤ (wrap64 ((wrap64 (x5 + 1)) * 384)) then (if (wrap64 ((wrap64 (x5 + 1)) * 384)) ≤ (x0.size : Int) then ((ct.f k (x0.extract ((wrap64 (x5 * 384)) : Int).toNat ((wrap64 ((wrap64 (x5 + 1)) * 384)) : Int).toNat)).bind fun bt857 => (if bt857.2 = true then (if x4.length < 5864062014805 then (bd.l0 k x0 (x4 ++ [bt857.1]) (wrap64 (x5 + 1))) else (none)) else (some ((([] : List (List Int))), false)))) else (none)) else (none)) else (none)) else (some (x4, true))
def bd.f (k : Nat) (a0 : ByteArray) : Option ((List (List Int)) × Bool) := bd.l0 k a0 (([] : List (List Int))) 0
theorem bd.mono_l : ∀ k, (∀ y0 y1 y2, LeO (bd.l0 k y0 y1 y2) (bd.l0 (k + 1) y0 y1 y2))
 | 0 => fun _ _ _ r h => by simp [bd.l0] at h
 | k + 1 => by
  have ih0 := bd.mono_l k
  intros; unfold bd.l0; exact o2_ ih0 ct.mono
theorem bd.mono : ∀ a0 k, LeO (bd.f k a0) (bd.f (k + 1) a0) := by
 intro a0 k
 have ih0 := bd.mono_l k
 unfold bd.f
 exact o2_ ih0 ct.mono
theorem bd.calls (k : Nat) (a0 : ByteArray) (r1 : List (List Int)) (r2 : Bool) (w : World) (h : bd.f k a0 = some (r1, r2)) :
  Calls Tryz.prog 93 #[.string a0] w fun e w' => ∃ Q0 : Value, e = .returned (.tuple #[Q0, .bool r2]) ∧ Kd.S (Kd.slice 3 (Kd.int .i64)) 33 w' w.heap.size (fun _ => True) Q0 r1 ∧ Below w.heap.size w w' := by
 have HB := c_ (Da w.heap.size w)
 delta bd.f at h
 have H := h
 clear h
 obtain ⟨K0, f0⟩ : ∃ y_ : List (List Int), y_ = (([] : List (List Int))) := ⟨_, rfl⟩
 first | replace H := yb_ f0 H | rw [← f0] at H
 have t0 := c_ f0
 clear f0
 have H' := c_ H
 clear H
 go_enter Tryz.func93, Tryz.ntmps93
 go_wp2_with (first | ((refine cQ (N := 8) rfl ?_); refine wN (Kd.slice 3 (Kd.int .i64)) _ 33 ?hg (N := 8) ?hd (xs := ([] : List (List Int))) (inner := []) (ok := fun _ => True) (okp := fun _ => True) ?hr ?hp (fun _ hk => hk) trivial (Da _ _) (Ca _) (by simp) ?_; (case hd => rfl); (case hg => rfl); (case hr => first | (go_simp; done) | (go_simp; rfl)); (case hp => exact (eM.none _ _)); intro U0 w2 y0 hb hg_ hnew_; clear hg_ hnew_; (first | rw [← t0.o] at y0 | (simp only [Int.reduceToNat] at y0; rw [← t0.o] at y0)); obtain ⟨B0, HB⟩ := b_ (vI y0 (av (hB_))) <| sB_; clear hb y0))
 go_loopg [4, 5] k (fun kq v4 v5 w' => ∃ (r0 : List (List Int)) (b0 : Int), v5 = .int .i64 b0 ∧ aa (bd.l0 kq a0 r0 b0 = some (r1, r2)) ∧ aa (kq ≤ k) ∧ aa (Kd.S (Kd.slice 3 (Kd.int .i64)) 33 w' w.heap.size (fun _ => True) v4 r0) ∧ aa (Below w.heap.size w w'))
 case atStart => exact ⟨(K0), (0), f0_, H', ⟨Ca _⟩, ⟨rS_ B0.o⟩, ⟨hB_⟩⟩
 clear H'
 obtain ⟨r0, b0, rfl, HA, R0, d0, HB⟩ := hrel
 rcases gk with _ | k1
 ·exact absurd HA.o (by simp [bd.l0])
 have H := HA.o
 clear HA
 simp only [bd.l0] at H
 by_cases c4 : b0 < 2
 rotate_left
 ·rw [Ga c4] at H
  have L0 := za c4
  clear c4
  simp only [Option.some.injEq, Prod.mk.injEq] at H
  obtain ⟨rfl, rfl⟩ := H
  go_wp2
  go_ret2
  exact ⟨_, f1_, by refine kS_ ?_; exact d0.o, hB_⟩
 rw [Fa c4] at H
 have L0 := ya c4
 clear c4
 obtain ⟨C0, n0⟩ : ∃ j_ : Int, (wrap64 (b0 * 384)) = j_ := ⟨_, rfl⟩
 first | rw [n0] at H | simp only [n0] at H
 have S0 : (IntKind.i64.wrap (b0 * 384)) = C0 := (bB _).trans n0
 obtain ⟨c6, H⟩ := iN_ H
 have V0 := Aa c6
 have W0 := ya c6
 clear c6
 obtain ⟨c7, H⟩ := iN_ H
 have X0 := Aa c7
 have Y0 := ya c7
 obtain ⟨c8, H⟩ := iN_ H
 have Z0 := Aa c8
 have b1 := ya c8
 obtain ⟨⟨p0, M0⟩, A9, H⟩ := bN_ H
 by_cases J0 : M0 = true
 ·subst J0
  replace H := iT_ H
  obtain ⟨T0, H⟩ := iN_ H
  have D0 := c_ T0
  clear T0
  obtain ⟨N0, j0⟩ : ∃ y_ : List (List Int), y_ = (r0 ++ [p0]) := ⟨_, rfl⟩
  first | replace H := yb_ j0 H | rw [← j0] at H
  have E0 := c_ j0
  clear j0
  have H' := c_ H
  clear H
  go_wp2_with (first | ((with_reducible refine ep (f := 110) rfl ?_); refine gS (some 21) rfl rfl Tryz.func110 (by kernel_rfl) rfl #[.string (a0.extract ((C0) : Int).toNat ((wrap64 ((wrap64 (b0 + 1)) * 384)) : Int).toNat)] rfl (by (try simp only [List.map_toArray, List.map_cons, List.map_nil]); first | done | (simp only [n0]; rfl) | rfl | (simp only [List.length_drop, List.length_take]; rfl)) ?_; (with_reducible refine (ct.calls k1 (a0.extract ((C0) : Int).toNat ((wrap64 ((wrap64 (b0 + 1)) * 384)) : Int).toNat) p0 true _ A9.o).mono ?_); rintro e f1 ⟨O0, rfl, x0, hb⟩; refine ⟨_, rfl, ?_⟩; obtain ⟨d0, e0, HB⟩ := b_ (vc (rS_ d0.o) (vd x0) hb) <| b_ (uY x0 (av (hB_))) <| sB_; obtain ⟨F0, G0, P0⟩ := uV e0.o; subst P0) | ((refine cr (b := .append) (xs := #[.tmp 27, .tmp 29]) rfl ?_); at_builtin; refine vu (Kd.slice 3 (Kd.int .i64)) (w0 := w) w.heap.size rfl (.tmp 27) (.tmp 29) 44 33 (.slice none 0 0) 24 rfl Tryz.underlying44 gu rfl (by decide) (by omega) u4 r0 p0 [.slice F0 p0.length G0] (fun _ => True) (fun k_ => some k_ = (.slice F0 p0.length G0 : Value).ownBlock) rfl rfl ?aP (fun k_ hk_ => ((uW (ok' := fun k_ => ((fun _ => True)) k_ ∧ some k_ ≠ (u4 : Value).ownBlock) (va (e0.o) (ve d0.o) (by decide)) (fun k_ hk => ⟨trivial, hk.2⟩))).1 k_ hk_.symm) ?aF ?aO ?aB ?aS ?aL ?_; (case aP => exact vY (uW (vx rfl (uW (ok' := fun k_ => ((fun _ => True)) k_ ∧ some k_ ≠ (u4 : Value).ownBlock) (va (e0.o) (ve d0.o) (by decide)) (fun k_ hk => ⟨trivial, hk.2⟩))) (fun _ h_ => h_))); (case aB => exact (hB_)); (case aF => exact (fun _ _ => trivial)); (case aO => exact (by refine kS_ ?_; exact vi d0.o (fun k_ hk => ⟨trivial, fun e_ => hk.2 e_⟩))); (case aS => exact (av (hB_))); (case aL => have := D0.o; omega); intro c1 g1 ho hb hg hat; rw [← E0.o] at ho; obtain ⟨HB, H0⟩ := b_ (hb) <| c_ (ho); clear ho hb hg hat))
  go_roundg k1
  case measure => have := R0.o; omega
  case rel => exact ⟨(N0), (wrap64 (b0 + 1)), f0_, H', ⟨by have := R0.o; omega⟩, ⟨rS_ H0.o⟩, ⟨hB_⟩⟩
 ·replace J0 := Ea J0
  subst J0
  replace H := iF_ H
  obtain ⟨d1, k0⟩ : ∃ y_ : List (List Int), y_ = (([] : List (List Int))) := ⟨_, rfl⟩
  first | replace H := yb_ k0 H | rw [← k0] at H
  have v0 := c_ k0
  clear k0
  simp only [Option.some.injEq, Prod.mk.injEq] at H
  obtain ⟨rfl, rfl⟩ := H
  go_wp2_with (first | ((with_reducible refine ep (f := 110) rfl ?_); refine gS (some 21) rfl rfl Tryz.func110 (by kernel_rfl) rfl #[.string (a0.extract ((C0) : Int).toNat ((wrap64 ((wrap64 (b0 + 1)) * 384)) : Int).toNat)] rfl (by (try simp only [List.map_toArray, List.map_cons, List.map_nil]); first | done | (simp only [n0]; rfl) | rfl | (simp only [List.length_drop, List.length_take]; rfl)) ?_; (with_reducible refine (ct.calls k1 (a0.extract ((C0) : Int).toNat ((wrap64 ((wrap64 (b0 + 1)) * 384)) : Int).toNat) p0 false _ A9.o).mono ?_); rintro e i1 ⟨O0, rfl, x0, hb⟩; refine ⟨_, rfl, ?_⟩; obtain ⟨d0, e0, HB⟩ := b_ (vc (rS_ d0.o) (vd x0) hb) <| b_ (uY x0 (av (hB_))) <| sB_; (try clear x0)) | ((refine cQ (N := 26) rfl ?_); refine wN (Kd.slice 3 (Kd.int .i64)) _ 33 ?hg (N := 26) ?hd (xs := ([] : List (List Int))) (inner := []) (ok := fun _ => True) (okp := fun _ => True) ?hr ?hp (fun _ hk => hk) trivial (Da _ _) (Ca _) (by simp) ?_; (case hd => rfl); (case hg => rfl); (case hr => first | (go_simp; done) | (go_simp; rfl)); (case hp => exact (eM.none _ _)); intro e1 j1 q0 hb hg_ hnew_; clear hg_ hnew_; (first | rw [← v0.o] at q0 | (simp only [Int.reduceToNat] at q0; rw [← v0.o] at q0)); obtain ⟨d0, e0, I0, HB⟩ := b_ (vc (rS_ d0.o) (vT q0) hb) <| n_ (fR_ e0) <| b_ (vI (vN (vN q0 (wV (rS_ d0.o))) (vF (rR_ e0.o))) (av (hB_))) <| sB_; clear hb q0))
  go_ret2
  exact ⟨_, by first | rfl | (simp [dE, dB] <;> rfl) | (simp only [← n0]; first | rfl | (simp [dE, dB] <;> rfl)) | (simp [*, dE, dB] <;> rfl), by refine kS_ ?_; exact vi I0.o (fun _ hk => trivial), hB_⟩
def bA.j0 : Nat → Int → Int → Bool → Option (Int)
 | 0, _, _, _ => none
 | k + 1, x0, x1, x15 => if x15 = true then (some 0) else ((ax.f k (wrap64 (x1 - 1))).bind fun t870 => ((ax.f k x1).bind fun t871 => (if t871 = 0 then (none) else (some (wrap64 (Int.tdiv (wrap64 ((wrap64 (3329 * x0)) + t870)) t871))))))
def bA.f (k : Nat) (a0 : Int) (a1 : Int) : Option (Int) := (aZ.f a1 1 11).bind fun t867 => (if t867 = true then ((ax.f k a1).bind fun t868 => ((aZ.f a0 0 (wrap64 (t868 - 1))).bind fun t869 => (bA.j0 k a0 a1 (!t869)))) else (bA.j0 k a0 a1 true))
theorem bA.mono_l : ∀ k, (∀ y0 y1 y2, LeO (bA.j0 k y0 y1 y2) (bA.j0 (k + 1) y0 y1 y2))
 | 0 => fun _ _ _ r h => by simp [bA.j0] at h
 | k + 1 => by
  have ih0 := bA.mono_l k
  intros; unfold bA.j0; exact o2_ ih0 ax.mono
theorem bA.mono : ∀ a0 a1 k, LeO (bA.f k a0 a1) (bA.f (k + 1) a0 a1) := by
 intro a0 a1 k
 have ih0 := bA.mono_l k
 unfold bA.f
 exact o2_ ih0 ax.mono
theorem bA.calls (k : Nat) (a0 : Int) (a1 : Int) (r : Int) (w : World) (h : bA.f k a0 a1 = some r) :
  Calls Tryz.prog 112 #[.int .i64 a0, .int .i64 a1] w fun e w' => e = .returned (.int .i64 r) ∧ cx w w' := by
 delta bA.f at h
 have H := h
 clear h
 have f0 := c_ H
 clear H
 go_enter Tryz.func112, Tryz.ntmps112
 go_upto_region 1 with (fail)
 go_cut [15] (fun r0 wc => ∃ (kq : Nat) (b0 : Bool), r0 = .bool b0 ∧ aa (bA.j0 kq a0 a1 b0 = some r) ∧ aa (kq ≤ k) ∧ cx w wc)
 case first =>
  have H := f0.o
  clear f0
  obtain ⟨k0, A4, H⟩ := bN_ H
  by_cases c5 : k0 = true
  ·subst c5
   replace H := iT_ H
   obtain ⟨t0, A6, H⟩ := bN_ H
   obtain ⟨n0, A7, H⟩ := bN_ H
   have H' := c_ H
   clear H
   go_wp2_with (first | (refine gp_ (k_ 6 Tryz.func87) (aZ.calls _ _ _ _ _ A4.o) fun nd => ?_) | (go_at_call 88; refine mp_ (ax.calls _ _ _ _ A6.o) fun nd => ?_) | (go_at_call 87; refine mp_ (aZ.calls _ _ _ _ _ A7.o) fun nd => ?_))
   go_meet
   case rel => exact ⟨_, (!n0), f0_, H', ⟨by first | omega | exact Ca _⟩, d0_⟩
  ·replace c5 := Ea c5
   subst c5
   replace H := iF_ H
   have H' := c_ H
   clear H
   go_wp2_with (first | (refine gp_ (k_ 6 Tryz.func87) (aZ.calls _ _ _ _ _ A4.o) fun nd => ?_))
   go_meet
   case rel => exact ⟨_, (true), f0_, H', ⟨by first | omega | exact Ca _⟩, d0_⟩
 clear f0
 obtain ⟨kq, b0, rfl, HA, y0, ⟨mc2, rfl⟩⟩ := hcut
 rcases kq with _ | B0
 ·exact absurd HA.o (by simp [bA.j0])
 have H := HA.o
 clear HA
 simp only [bA.j0] at H
 by_cases c8 : b0 = true
 ·subst c8
  replace H := iT_ H
  obtain rfl := Ba H
  go_wp2
  go_ret
  exact ⟨f0_, d0_⟩
 ·replace c8 := Ea c8
  subst c8
  replace H := iF_ H
  obtain ⟨v0, A9, H⟩ := bN_ H
  obtain ⟨d0, x0, H⟩ := bN_ H
  by_cases e0 : d0 = 0
  ·rw [Fa e0] at H
   exact absurd H (by simp)
  rw [Ga e0] at H
  have p0 : (d0 == 0) = false := beq_eq_false_iff_ne.mpr e0
  have q0 : (d0 != 0) = true := bne_iff_ne.mpr e0
  obtain rfl := Ba H
  go_wp2_with (first | (refine gp_ (k_ 20 Tryz.func88) (ax.calls _ _ _ _ A9.o) fun nd => ?_) | (refine gp_ (k_ 23 Tryz.func88) (ax.calls _ _ _ _ x0.o) fun nd => ?_))
  go_ret
  exact ⟨f0_, d0_⟩
def aJ.l0 : Nat → Int → List Int → Int → Option (List Int)
 | 0, _, _, _ => none
 | k + 1, x1, x5, x7 => if x7 < (x5.length : Int) then (if 0 ≤ x7 then ((bA.f k (rd x5 x7) x1).bind fun t877 => (aJ.l0 k x1 (x5.set (x7 : Int).toNat t877) (wrap64 (x7 + 1)))) else (none)) else (some x5)
def aJ.f (k : Nat) (a0 : ByteArray) (a1 : Int) : Option (List Int) := (aC.f k a0 a1 256).bind fun bt872 => (aJ.l0 k a1 bt872.1 0)
theorem aJ.mono_l : ∀ k, (∀ y0 y1 y2, LeO (aJ.l0 k y0 y1 y2) (aJ.l0 (k + 1) y0 y1 y2))
 | 0 => fun _ _ _ r h => by simp [aJ.l0] at h
 | k + 1 => by
  have ih0 := aJ.mono_l k
  intros; unfold aJ.l0; exact o3_ ih0 bA.mono aC.mono
theorem aJ.mono : ∀ a0 a1 k, LeO (aJ.f k a0 a1) (aJ.f (k + 1) a0 a1) := by
 intro a0 a1 k
 have ih0 := aJ.mono_l k
 unfold aJ.f
 exact o3_ ih0 bA.mono aC.mono
theorem aJ.calls (k : Nat) (a0 : ByteArray) (a1 : Int) (r : List Int) (w : World) (h : aJ.f k a0 a1 = some r) :
  Calls Tryz.prog 94 #[.string a0, .int .i64 a1] w fun e w' => ∃ E0 : Value, e = .returned (E0) ∧ Kd.R (Kd.int .i64) 3 w' w.heap.size (fun _ => True) E0 r ∧ Below w.heap.size w w' := by
 have HB := c_ (Da w.heap.size w)
 delta aJ.f at h
 have H := h
 clear h
 obtain ⟨⟨v0, K0⟩, A3, H⟩ := bN_ H
 have H' := c_ H
 clear H
 go_enter Tryz.func94, Tryz.ntmps94
 go_wp2_with (first | (refine gR_ (k_ 11 Tryz.func111) (aC.calls _ _ _ _ _ _ _ A3.o) fun x0 w4 ho_ hb => ?_; obtain ⟨p0, HB⟩ := n_ (lR_ ho_) <| sB_))
 go_loopg [7] k (fun kq v7 w' => ∃ (e0 : List Int) (b0 : Int), v7 = .int .i64 b0 ∧ aa (aJ.l0 kq a1 e0 b0 = some r) ∧ aa (kq ≤ k) ∧ aa (Kd.R (Kd.int .i64) 3 w' w.heap.size (fun _ => True) x0 e0) ∧ aa (Below w.heap.size w w'))
 case atStart => exact ⟨(v0), (0), f0_, H', ⟨Ca _⟩, ⟨rR_ p0.o⟩, ⟨hB_⟩⟩
 clear H'
 obtain ⟨e0, b0, rfl, HA, F0, d0, HB⟩ := hrel
 rcases gk with _ | k1
 ·exact absurd HA.o (by simp [aJ.l0])
 have H := HA.o
 clear HA
 simp only [aJ.l0] at H
 by_cases c5 : b0 < (e0.length : Int)
 ·rw [Fa c5] at H
  have y0 := ya c5
  clear c5
  obtain ⟨L0, H⟩ := iD_ H
  obtain ⟨q0, A7, H⟩ := bN_ H
  obtain ⟨B0, f0⟩ : ∃ y_ : List Int, y_ = (e0.set (b0 : Int).toNat q0) := ⟨_, rfl⟩
  first | replace H := yb_ f0 H | rw [← f0] at H
  have r0 := c_ f0
  clear f0
  have H' := c_ H
  clear H
  obtain ⟨R0, M0, N0⟩ := uV d0.o
  subst N0
  have k0 : 0 ≤ (b0 : Int) := oD_
  have n0 : b0 < (e0.length : Int) := oD_
  obtain ⟨t0, C0, j0⟩ := uX (uU d0.o).2.2 b0 k0 n0
  cases C0
  replace k0 := Aa k0
  replace n0 := Aa n0
  go_wp2_with (first | (refine gp_ (k_ 27 Tryz.func112) (bA.calls _ _ _ _ _ A7.o) fun nd => ?_; (try (rw [dt wr]; generalize hq_ : World.drewN wr _ = wr; obtain ⟨d0, HB⟩ := b_ (show Kd.R (Kd.int .i64) 3 wr w.heap.size (fun _ => True) (.slice (some t0) e0.length M0) e0 from by rw [← hq_]; exact (rR_ d0.o)) <| c_ (show Below w.heap.size w wr from by rw [← hq_]; exact (hB_)))); have p8 : 0 ≤ (b0 : Int) := oD_; have q8 : (b0 : Int) < ((e0.length : Int) : Int) := oD_; obtain ⟨go8, S0, G0, H0, gl8, cl8, HG8⟩ := vm d0.o (by omega); (first | cases G0 | (injection G0 with ea_ en_ ec_; (first | subst ea_ | (injection ea_ with ea_; subst ea_)); subst ec_; clear en_)); have O0 := c_ H0; have GG8 := c_ HG8; clear H0 gl8 HG8; (first | simp only [ch] at j0 | skip); obtain ⟨I0, hf8_0⟩ := uZ 0 d0.o (b0 : Int) p8 q8; replace p8 := Aa p8; replace q8 := Aa q8; obtain ⟨J0, hz10_⟩ := uZ 0 d0.o (b0 : Int) oD_ oD_; have HP10 := vj d0.o (b0 : Int) q0) | ((refine cz (t := 3) (p := 28) rfl ?_); refine st_ 3 28 HP10 r0 O0 fun T0 hw hp_ hg HBn => ?_; obtain ⟨d0, HB⟩ := b_ (hp_) <| c_ HBn.o; clear hg hw hp_))
  go_roundg k1
  case measure => have := F0.o; omega
  case rel => exact ⟨(B0), (wrap64 (b0 + 1)), f0_, H', ⟨by have := F0.o; omega⟩, ⟨rR_ d0.o⟩, ⟨hB_⟩⟩
 rw [Ga c5] at H
 have y0 := za c5
 clear c5
 obtain rfl := Ba H
 obtain ⟨P0, Q0, D0⟩ := uV d0.o
 subst D0
 go_wp2
 go_ret
 exact ⟨_, f1_, rR_ d0.o, hB_⟩
end Go.Proofs.YtmiackbomcjboaaGreatDoor.P
