-- printed texts of this session, regrouped
import Derived.Test.YtielligodgabiaaGreatDoorMWC
import Derived.Test.YtielligodgabiaaGreatDoorMWA
import Derived.Test.YtielligodgabiaaGreatDoorMW7
import Derived.Test.YtielligodgabiaaGreatDoorMW8
import Derived.Test.YtielligodgabiaaGreatDoorMW6
import Derived.Test.YtielligodgabiaaGreatDoorPx0
import Derived.Test.YtielligodgabiaaGreatDoorPx4
namespace Go.Proofs.YtielligodgabiaaGreatDoor.P
open Go.RowKit YtielligodgabiaaGreatDoorW.PrintWords YtielligodgabiaaGreatDoorW.PrintLast YtielligodgabiaaGreatDoorW.PrintMore
attribute [local go_sem] dJ dC ej eh dh di dB dK   -- for this text's walks alone
set_option linter.unusedVariables false
set_option linter.unusedSimpArgs false
set_option maxHeartbeats 8000000
set_option maxRecDepth 100000

/-! ### ay: function 35 -/
mutual
def ay.l0 : Nat → Int → List Int → List Int → Int → Int → Option (ByteArray)
 | 0, _, _, _, _, _ => none
 | k + 1, x1, x5, x17, x18, x19 => if x19 < x18 then (if 0 ≤ x19 then (if x19 < (x17.length : Int) then (ay.l1 k x1 x5 x19 (rd x17 x19) x17 x18 x19 x1 0) else (none)) else (none)) else (some (strOfNums x5))
def ay.l1 : Nat → Int → List Int → Int → Int → List Int → Int → Int → Int → Int → Option (ByteArray)
 | 0, _, _, _, _, _, _, _, _, _ => none
 | k + 1, x1, x5, x6, x7, x17, x18, x19, x24, x25 => if x25 < x24 then (if 0 ≤ (wrap64 (Int.tdiv (wrap64 ((wrap64 (x6 * x1)) + x25)) 8)) then (if (wrap64 (Int.tdiv (wrap64 ((wrap64 (x6 * x1)) + x25)) 8)) < (x5.length : Int) then (if 0 ≤ x25 then (if 0 ≤ (Int.tmod (wrap64 ((wrap64 (x6 * x1)) + x25)) 8) then (ay.l1 k x1 (x5.set ((wrap64 (Int.tdiv (wrap64 ((wrap64 (x6 * x1)) + x25)) 8)) : Int).toNat (Go.bits .or .u8 (rd x5 (wrap64 (Int.tdiv (wrap64 ((wrap64 (x6 * x1)) + x25)) 8))) (shl .u8 ((Go.bits .and .i64 (shr .i64 x7 x25) 1) % 256) (Int.tmod (wrap64 ((wrap64 (x6 * x1)) + x25)) 8)))) x6 x7 x17 x18 x19 x24 (wrap64 (x25 + 1))) else (none)) else (none)) else (none)) else (none)) else (ay.l0 k x1 x5 x17 x18 (wrap64 (x19 + 1)))
end
def ay.f (k : Nat) (l0 : List Int) (a1 : Int) : Option (ByteArray) := if 0 ≤ (wrap64 (Int.tdiv (wrap64 ((wrap64 ((l0.length : Int) * a1)) + 7)) 8)) then (if (wrap64 (Int.tdiv (wrap64 ((wrap64 ((l0.length : Int) * a1)) + 7)) 8) : Int).toNat ≤ 281474976710656 then (ay.l0 k a1 (List.replicate (wrap64 (Int.tdiv (wrap64 ((wrap64 ((l0.length : Int) * a1)) + 7)) 8) : Int).toNat 0) l0 (l0.length : Int) 0) else (none)) else (none)
theorem ay.mono_l : ∀ k, (∀ y0 y1 y2 y3 y4, LeO (ay.l0 k y0 y1 y2 y3 y4) (ay.l0 (k + 1) y0 y1 y2 y3 y4)) ∧ (∀ y0 y1 y2 y3 y4 y5 y6 y7 y8, LeO (ay.l1 k y0 y1 y2 y3 y4 y5 y6 y7 y8) (ay.l1 (k + 1) y0 y1 y2 y3 y4 y5 y6 y7 y8))
 | 0 => ⟨fun _ _ _ _ _ r h => by simp [ay.l0] at h, fun _ _ _ _ _ _ _ _ _ r h => by simp [ay.l1] at h⟩
 | k + 1 => by
  obtain ⟨ih0, ih1⟩ := ay.mono_l k
  refine ⟨?_, ?_⟩ <;> (intros; (first | unfold ay.l0 | unfold ay.l1); exact o2_ ih0 ih1)
theorem ay.mono : ∀ a0 a1 k, LeO (ay.f k a0 a1) (ay.f (k + 1) a0 a1) := by
 intro a0 a1 k
 obtain ⟨ih0, ih1⟩ := ay.mono_l k
 unfold ay.f
 exact o2_ ih0 ih1
def ay.T9 : Bool × List (List Nat × List Nat) := (true, [([], []), ([], []), ([1], [1]), ([0, 2], [0, 2]), ([3], [3]), ([], []), ([], []), ([5, 6], [5, 6]), ([7], [7]), ([8], [8]), ([], []), ([10], [10]), ([9, 11], [9, 11]), ([4, 12], [4, 12]), ([0, 2, 0, 1, 2, 3, 4, 5, 6, 7, 8, 9, 10, 11, 12, 13], [0, 2]), ([14, 13, 0, 1, 2, 3, 4, 5, 6, 7, 8, 9, 10, 11, 12, 13], [13, 14])])
def ay.B9 : List Nat := [0, 0, 2, 7, 15, 0, 0, 96, 224, 480, 0, 1024, 4064, 8191, 16383, 32767]
theorem ay.tab9 : dW .any (eW Tryz.f35 9) = ay.T9 := by kernel_rfl
theorem ay.bits9 : cZ ay.T9.2 ay.B9 = true := by kernel_rfl
theorem ay.calls (k : Nat) (A0 : Option Addr) (c0 : Nat) (l0 : List Int) (a1 : Int) (r : ByteArray) (w : World) (hr0 : Kd.C (Kd.int .i64) w A0 l0.length l0) (hc0 : l0.length ≤ c0) (h : ay.f k l0 a1 = some r) :
  Calls Tryz.prog 35 #[.slice A0 l0.length c0, .int .i64 a1] w fun e w' => e = .returned (.string r) ∧ Below w.heap.size w w' := by
 have G1 := aa.mk hr0
 have R1 := aa.mk hc0
 clear hr0 hc0
 have HB := aa.mk (xa w.heap.size w)
 delta ay.f at h
 have H := h
 clear h
 obtain ⟨V0, B0⟩ : ∃ j_ : Int, (wrap64 (Int.tdiv (wrap64 ((wrap64 ((l0.length : Int) * a1)) + 7)) 8)) = j_ := ⟨_, rfl⟩
 first | rw [B0] at H | simp only [B0] at H
 have q1 : (IntKind.i64.wrap (Int.tdiv (wrap64 ((wrap64 ((l0.length : Int) * a1)) + 7)) 8)) = V0 := (bB _).trans B0
 obtain ⟨c4, H⟩ := iN_ H
 have H1 := va c4
 have I1 := ta c4
 clear c4
 obtain ⟨c5, H⟩ := iN_ H
 have J1 := va c5
 have K1 := ta c5
 clear c5
 obtain ⟨Y0, r0⟩ : ∃ y_ : List Int, y_ = (List.replicate (V0 : Int).toNat 0) := ⟨_, rfl⟩
 first | replace H := yb_ r0 H | rw [← r0] at H
 have D0 := aa.mk r0
 clear r0
 have H' := aa.mk H
 clear H
 go_enter Tryz.func35, Tryz.ntmps35
 go_wp2_with (first | ((with_reducible refine aI (N := 16) rfl ?_); refine Kd.R_make (Kd.int .u8) _ 5 rfl (N := 16) rfl 57 _ _ rfl V0 rfl rfl Tryz.underlying57 (.int .u8 0) 1 iD rfl (by decide) (by omega) 0 (ok := fun _ => True) (okp := fun _ => True) rfl (fun _ hk => hk) trivial oD_ (Nat.le_trans (Nat.mul_le_mul_right _ (oD_ : V0.toNat ≤ 281474976710656)) (by omega)) (xa _ _) (wa _) ?_; intro N0 w6 O0 hb hg_ hnew_; clear hg_ hnew_; (first | rw [← D0.out] at O0 | (simp only [Int.reduceToNat] at O0; rw [← D0.out] at O0)); have n_ := b_ (Kd.R_lower O0 (ab (hB_))) <| c_ (ac (hB_) hb); clear HB; obtain ⟨P0, HB⟩ := n_; clear hb O0))
 go_loopg [19] k (fun kq L1 w' => ∃ (C0 : List Int) (a0 : Int), L1 = .int .i64 a0 ∧ aa (ay.l0 kq a1 C0 l0 (l0.length : Int) a0 = some r) ∧ aa (kq ≤ k) ∧ aa (Kd.R (Kd.int .u8) 5 w' w.heap.size (fun _ => True) N0 C0) ∧ aa (Below w.heap.size w w'))
 case atStart => exact ⟨(Y0), (0), f0_, H', ⟨wa _⟩, ⟨rR_ P0.out⟩, ⟨hB_⟩⟩
 clear H'
 obtain ⟨C0, a0, rfl, HA, W0, d0, HB⟩ := hrel
 rcases gk with _ | k1
 ·exact absurd HA.out (by simp [ay.l0])
 have H := HA.out
 clear HA
 simp only [ay.l0] at H
 by_cases c8 : a0 < (l0.length : Int)
 rotate_left
 ·rw [Aa c8] at H
  have Z0 := ua c8
  clear c8
  obtain rfl := sI H
  have r1 := dD (P := Tryz.prog) Tryz.underlying57 Tryz.underlying5 Tryz.underlying9 (Kd.own_of_R d0.out)
  go_wp2
  go_ret
  exact ⟨by first | rfl | (simp [d2, d5] <;> rfl) | (simp only [← B0]; first | rfl | (simp [d2, d5] <;> rfl)) | (simp [*, d2, d5] <;> rfl), hB_⟩
 rw [za c8] at H
 have Z0 := ta c8
 clear c8
 obtain ⟨M1, H⟩ := iD_ H
 obtain ⟨t1, H⟩ := iD_ H
 have H' := aa.mk H
 clear H
 have F0 : 0 ≤ (a0 : Int) := oD_
 have G0 : a0 < (l0.length : Int) := oD_
 obtain ⟨y1, b1, j0⟩ := Kd.at_int G1.out a0 F0 G0
 cases b1
 replace j0 := (HB.out.cell (World.block_lt_of_cell? w _ j0)).trans j0
 replace F0 := va F0
 replace G0 := va G0
 go_wp2
 go_loopg [25] k1 (fun kq N1 w' => ∃ (f0 : List Int) (b0 : Int), N1 = .int .i64 b0 ∧ aa (ay.l1 kq a1 f0 a0 (rd l0 a0) l0 (l0.length : Int) a0 a1 b0 = some r) ∧ aa (kq ≤ k1) ∧ aa (Kd.R (Kd.int .u8) 5 w' w.heap.size (fun _ => True) N0 f0) ∧ aa (Below w.heap.size w w'))
 case atStart => exact ⟨(C0), (0), f0_, H', ⟨wa _⟩, ⟨rR_ d0.out⟩, ⟨hB_⟩⟩
 clear H'
 obtain ⟨f0, b0, rfl, HA, X0, d0, HB⟩ := hrel
 rcases gk with _ | k2
 ·exact absurd HA.out (by simp [ay.l1])
 have H := HA.out
 clear HA
 simp only [ay.l1] at H
 by_cases M0 : b0 < a1
 rotate_left
 ·rw [Aa M0] at H
  have Q0 := ua M0
  clear M0
  have H' := aa.mk H
  clear H
  go_wp2
  go_roundg k2
  case measure => have := W0.out; have := X0.out; omega
  case rel => exact ⟨(f0), (wrap64 (a0 + 1)), f0_, H', ⟨by have := W0.out; have := X0.out; omega⟩, ⟨rR_ d0.out⟩, ⟨hB_⟩⟩
 rw [za M0] at H
 have Q0 := ta M0
 clear M0
 obtain ⟨e0, y0⟩ : ∃ j_ : Int, (wrap64 (Int.tdiv (wrap64 ((wrap64 (a0 * a1)) + b0)) 8)) = j_ := ⟨_, rfl⟩
 first | rw [y0] at H | simp only [y0] at H
 have c1 : (IntKind.i64.wrap (Int.tdiv (wrap64 ((wrap64 (a0 * a1)) + b0)) 8)) = e0 := (bB _).trans y0
 obtain ⟨z1, H⟩ := iD_ H
 obtain ⟨A1, H⟩ := iD_ H
 obtain ⟨d1, H⟩ := iN_ H
 have B1 := va d1
 have C1 := ta d1
 clear d1
 obtain ⟨p0, t0⟩ : ∃ j_ : Int, (shr .i64 (rd l0 a0) b0) = j_ := ⟨_, rfl⟩
 first | rw [t0] at H | simp only [t0] at H
 have e1 : ((rd l0 a0) / 2 ^ min b0.toNat 64) = p0 := t0
 have f1 : b0 ≤ 64 → ((rd l0 a0) / 2 ^ b0.toNat) = p0 := fv t0
 obtain ⟨q0, E0⟩ : ∃ j_ : Int, (Int.tmod (wrap64 ((wrap64 (a0 * a1)) + b0)) 8) = j_ := ⟨_, rfl⟩
 first | rw [E0] at H | simp only [E0] at H
 obtain ⟨g1, H⟩ := iN_ H
 have D1 := va g1
 have E1 := ta g1
 clear g1
 obtain ⟨x0, u0⟩ : ∃ j_ : Int, (shl .u8 ((Go.bits .and .i64 (p0) 1) % 256) (q0)) = j_ := ⟨_, rfl⟩
 first | rw [u0] at H | simp only [u0] at H
 have H0 : (IntKind.u8.wrap (((Go.bits .and .i64 (p0) 1) % 256) * 2 ^ min (q0).toNat 8)) = x0 := u0
 have I0 : (q0) ≤ 8 → (IntKind.u8.wrap (((Go.bits .and .i64 (p0) 1) % 256) * 2 ^ (q0).toNat)) = x0 := eE u0
 have hji19k : ((((Go.bits .and .i64 (p0) 1) % 256) * 2 ^ min (q0).toNat 8) % 256) = x0 := (IntKind.wrap_u8 _).symm.trans H0
 have hji19n : (q0) ≤ 8 → ((((Go.bits .and .i64 (p0) 1) % 256) * 2 ^ (q0).toNat) % 256) = x0 := fun h_ => (IntKind.wrap_u8 _).symm.trans (I0 h_)
 obtain ⟨i1, v0⟩ : ∃ y_ : List Int, y_ = (f0.set ((e0) : Int).toNat (Go.bits .or .u8 (rd f0 (e0)) (x0))) := ⟨_, rfl⟩
 first | replace H := yb_ v0 H | rw [← v0] at H
 have R0 := aa.mk v0
 clear v0
 have H' := aa.mk H
 clear H
 try go_wp2
 have n_ := b_ (Kd.R_drew d0.out) <| c_ (bX HB.out)
 clear d0 HB
 obtain ⟨d0, HB⟩ := n_
 obtain ⟨O1, P1, S0⟩ := Kd.R_slice d0.out
 (first | subst S0 | (injection S0 with f1_ f2_ f3_; have f4_ := f1_.symm; have f5_ := f3_.symm; clear f1_ f2_ f3_; subst f4_; subst f5_))
 have J0 : 0 ≤ ((e0) : Int) := oD_
 have K0 : (e0) < (f0.length : Int) := oD_
 obtain ⟨F1, j1, k0⟩ := Kd.at_int (Kd.R_reads' d0.out).2.2 (e0) J0 K0
 cases j1
 replace J0 := va J0
 replace K0 := va K0
 have m1 : 0 ≤ ((e0) : Int) := oD_
 have n1 : ((e0) : Int) < ((f0.length : Int) : Int) := oD_
 obtain ⟨go20, Q1, T0, U0, gl20, cl20, HG20⟩ := Kd.R_form d0.out (by omega)
 (first | cases T0 | (injection T0 with ea_ en_ ec_; (first | subst ea_ | (injection ea_ with ea_; subst ea_)); subst ec_; clear en_))
 have p1 := aa.mk U0
 have GG20 := aa.mk HG20
 clear U0 gl20 HG20
 (first | simp only [bU] at k0 | skip)
 obtain ⟨L0, hf20_0⟩ := Kd.R_celln 0 d0.out ((e0) : Int) m1 n1
 replace m1 := va m1
 replace n1 := va n1
 have HP23 := Kd.R_putn d0.out ((e0) : Int) (Go.bits .or .u8 (rd f0 (e0)) (x0))
 rw [← R0.out] at HP23
 have HQ23 := aa.mk HP23
 clear HP23
 refine dY (n := 16) (S := fun w' => w'.cell? ⟨go20, ((e0)).toNat, none⟩ = some (.int .u8 (rd f0 (e0)))) (ds := [15]) (bb_ 16 0) (by kernel_rfl) rfl rfl (k0) (fun hHeld => ?_); refine cM ay.tab9 ay.bits9 (fun HT_ HW_ => ?_)
 generalize wr.drew = S1 at d0 HB GG20 HQ23 hf20_0 L0 k0 hHeld ⊢
 refine pS_ 0 33 (bb_ 16 1) HT_.out ?_
 refine pS_ 1 34 (bb_ 16 3) HT_.out ?_
 refine pS_ 2 35 (bb_ 16 7) HT_.out ?_
 refine pS_ 3 36 (bb_ 16 15) HT_.out ?_
 refine pS_ 5 38 (bb_ 16 47) HT_.out ?_
 refine pS_ 6 39 (bb_ 16 111) HT_.out ?_
 refine pS_ 7 40 (bb_ 16 239) HT_.out ?_
 refine pS_ 8 41 (bb_ 16 495) HT_.out ?_
 refine pS_ 9 42 (bb_ 16 1007) HT_.out ?_
 refine pS_ 10 43 (bb_ 16 2031) HT_.out ?_
 refine pS_ 11 44 (bb_ 16 4079) HT_.out ?_
 refine pS_ 12 45 (bb_ 16 8175) HT_.out ?_
 refine tS_ 4 37 (bb_ 16 8191) (bA HT_.out HW_.out (by kernel_rfl)) hHeld ?_
 refine pS_ 13 46 (bb_ 16 16383) HT_.out ?_
 refine pS_ 14 47 (bb_ 16 32767) HT_.out ?_
 refine gv (i := 15) (N := none) (bb_ 16 65535) rfl rfl (cC HT_.out (by kernel_rfl)) (by decide) (fun K hK => ?_)
 refine iB (w1 := ?_) (by rfl) rfl ?_ ?_
 rotate_left
 ·go_simp
  rfl
 refine hK.out _ _ ?_
 clear hK K
 refine eT (dn HT_.out (by kernel_rfl)) ?_
 try go_wp2
 (try simp only [hji19k])
 go_roundg k2
 case measure => have := W0.out; have := X0.out; omega
 case rel => exact ⟨(i1), (wrap64 (b0 + 1)), f0_, H', ⟨by have := W0.out; have := X0.out; omega⟩, ⟨rR_ HQ23.out⟩, ⟨hS_ p1.out⟩⟩

/-! ### aH: function 84 -/
mutual
def aH.j0 : Nat → ByteArray → Int → Int → Bool → Option (List Int × Bool)
 | 0, _, _, _, _ => none
 | k + 1, x0, x1, x2, x30 => if x30 = true then (some (([] : List Int), false)) else (aH.l0 k x0 x1 ([] : List Int) x2 0)
def aH.l0 : Nat → ByteArray → Int → List Int → Int → Int → Option (List Int × Bool)
 | 0, _, _, _, _, _ => none
 | k + 1, x0, x1, x8, x31, x32 => if x32 < x31 then (aH.l1 k x0 x1 x8 x32 0 x31 x32 x1 0) else ((ay.f k x8 x1).bind fun t577 => (if t577.toList = x0.toList then (some (x8, true)) else (some (([] : List Int), false))))
def aH.l1 : Nat → ByteArray → Int → List Int → Int → Int → Int → Int → Int → Int → Option (List Int × Bool)
 | 0, _, _, _, _, _, _, _, _, _ => none
 | k + 1, x0, x1, x8, x9, x10, x31, x32, x35, x36 => if x36 < x35 then (if 0 ≤ (wrap64 (Int.tdiv (wrap64 ((wrap64 (x9 * x1)) + x36)) 8)) then (if (wrap64 (Int.tdiv (wrap64 ((wrap64 (x9 * x1)) + x36)) 8)) < (x0.size : Int) then (if 0 ≤ (Int.tmod (wrap64 ((wrap64 (x9 * x1)) + x36)) 8) then (if 0 ≤ x36 then (aH.l1 k x0 x1 x8 x9 (Go.bits .or .i64 x10 (shl .i64 (wrap64 (Go.bits .and .u8 (shr .u8 (bt x0 (wrap64 (Int.tdiv (wrap64 ((wrap64 (x9 * x1)) + x36)) 8))) (Int.tmod (wrap64 ((wrap64 (x9 * x1)) + x36)) 8)) 1)) x36)) x31 x32 x35 (wrap64 (x36 + 1))) else (none)) else (none)) else (none)) else (none)) else (if x8.length < 17592186044416 then (aH.l0 k x0 x1 (x8 ++ [x10]) x31 (wrap64 (x32 + 1))) else (none))
end
def aH.f (k : Nat) (a0 : ByteArray) (a1 : Int) (a2 : Int) : Option (List Int × Bool) := (bO.f a1 1 12).bind fun t575 => (if t575 = true then ((bO.f a2 0 1000).bind fun t576 => (if t576 = true then (aH.j0 k a0 a1 a2 ((a0.size : Int) != (wrap64 (Int.tdiv (wrap64 ((wrap64 (a2 * a1)) + 7)) 8)))) else (aH.j0 k a0 a1 a2 true))) else (aH.j0 k a0 a1 a2 true))
theorem aH.mono_l : ∀ k, (∀ y0 y1 y2 y3, LeO (aH.j0 k y0 y1 y2 y3) (aH.j0 (k + 1) y0 y1 y2 y3)) ∧ (∀ y0 y1 y2 y3 y4, LeO (aH.l0 k y0 y1 y2 y3 y4) (aH.l0 (k + 1) y0 y1 y2 y3 y4)) ∧ (∀ y0 y1 y2 y3 y4 y5 y6 y7 y8, LeO (aH.l1 k y0 y1 y2 y3 y4 y5 y6 y7 y8) (aH.l1 (k + 1) y0 y1 y2 y3 y4 y5 y6 y7 y8))
 | 0 => ⟨fun _ _ _ _ r h => by simp [aH.j0] at h, fun _ _ _ _ _ r h => by simp [aH.l0] at h, fun _ _ _ _ _ _ _ _ _ r h => by simp [aH.l1] at h⟩
 | k + 1 => by
  obtain ⟨ih0, ih1, ih2⟩ := aH.mono_l k
  refine ⟨?_, ?_, ?_⟩ <;> (intros; (first | unfold aH.j0 | unfold aH.l0 | unfold aH.l1); exact o4_ ih0 ih1 ih2 ay.mono)
theorem aH.mono : ∀ a0 a1 a2 k, LeO (aH.f k a0 a1 a2) (aH.f (k + 1) a0 a1 a2) := by
 intro a0 a1 a2 k
 obtain ⟨ih0, ih1, ih2⟩ := aH.mono_l k
 unfold aH.f
 exact o4_ ih0 ih1 ih2 ay.mono
theorem aH.calls (k : Nat) (a0 : ByteArray) (a1 : Int) (a2 : Int) (r1 : List Int) (r2 : Bool) (w : World) (h : aH.f k a0 a1 a2 = some (r1, r2)) :
  Calls Tryz.prog 84 #[.string a0, .int .i64 a1, .int .i64 a2] w fun e w' => ∃ m1 : Value, e = .returned (.tuple #[m1, .bool r2]) ∧ Kd.R (Kd.int .i64) 3 w' w.heap.size (fun _ => True) m1 r1 ∧ Below w.heap.size w w' := by
 have HB := aa.mk (xa w.heap.size w)
 delta aH.f at h
 have H := h
 clear h
 have T0 := aa.mk H
 clear H
 go_enter Tryz.func84, Tryz.ntmps84
 go_upto_region 1 with (fail)
 go_cut [30] (fun D1 wc => ∃ (kq : Nat) (u0 : Bool), D1 = .bool u0 ∧ aa (aH.j0 kq a0 a1 a2 u0 = some (r1, r2)) ∧ aa (kq ≤ k) ∧ aa (Below w.heap.size w wc))
 case first =>
  have H := T0.out
  clear T0
  obtain ⟨U0, A5, H⟩ := bN_ H
  by_cases c6 : U0 = true
  ·subst c6
   replace H := iT_ H
   obtain ⟨V0, A7, H⟩ := bN_ H
   by_cases c8 : V0 = true
   ·subst c8
    replace H := iT_ H
    have H' := aa.mk H
    clear H
    go_wp2_with (first | ((with_reducible refine ae (f := 85) rfl ?_); refine aq (some 14) rfl rfl Tryz.func85 (by kernel_rfl) rfl #[.int .i64 a1, .int .i64 1, .int .i64 12] rfl aM_ ?_; (with_reducible refine (bO.calls a1 1 12 true _ A5.out).mono ?_); rintro e w' ⟨rfl, ⟨nd, rfl⟩⟩; refine ⟨_, rfl, ?_⟩) | (go_at_call 85; (with_reducible refine (bO.calls a2 0 1000 true _ A7.out).mono ?_); rintro e w' ⟨rfl, ⟨nd, rfl⟩⟩))
    go_meet
    case rel => exact ⟨_, (((a0.size : Int) != (wrap64 (Int.tdiv (wrap64 ((wrap64 (a2 * a1)) + 7)) 8)))), f0_, H', ⟨by first | omega | exact wa _⟩, ⟨hB_⟩⟩
   ·replace c8 := ya c8
    subst c8
    replace H := iF_ H
    have H' := aa.mk H
    clear H
    go_wp2_with (first | ((with_reducible refine ae (f := 85) rfl ?_); refine aq (some 14) rfl rfl Tryz.func85 (by kernel_rfl) rfl #[.int .i64 a1, .int .i64 1, .int .i64 12] rfl aM_ ?_; (with_reducible refine (bO.calls a1 1 12 true _ A5.out).mono ?_); rintro e w' ⟨rfl, ⟨nd, rfl⟩⟩; refine ⟨_, rfl, ?_⟩) | (go_at_call 85; (with_reducible refine (bO.calls a2 0 1000 false _ A7.out).mono ?_); rintro e w' ⟨rfl, ⟨nd, rfl⟩⟩))
    go_meet
    case rel => exact ⟨_, (true), f0_, H', ⟨by first | omega | exact wa _⟩, ⟨hB_⟩⟩
  ·replace c6 := ya c6
   subst c6
   replace H := iF_ H
   have H' := aa.mk H
   clear H
   go_wp2_with (first | ((with_reducible refine ae (f := 85) rfl ?_); refine aq (some 14) rfl rfl Tryz.func85 (by kernel_rfl) rfl #[.int .i64 a1, .int .i64 1, .int .i64 12] rfl aM_ ?_; (with_reducible refine (bO.calls a1 1 12 false _ A5.out).mono ?_); rintro e w' ⟨rfl, ⟨nd, rfl⟩⟩; refine ⟨_, rfl, ?_⟩))
   go_meet
   case rel => exact ⟨_, (true), f0_, H', ⟨by first | omega | exact wa _⟩, ⟨hB_⟩⟩
 clear T0
 obtain ⟨kq, u0, rfl, HA, Q0, HB⟩ := hcut
 rcases kq with _ | n1
 ·exact absurd HA.out (by simp [aH.j0])
 have H := HA.out
 clear HA
 simp only [aH.j0] at H
 by_cases c9 : u0 = true
 ·subst c9
  replace H := iT_ H
  simp only [Option.some.injEq, Prod.mk.injEq] at H
  obtain ⟨rfl, rfl⟩ := H
  go_wp2
  go_ret2
  exact ⟨_, f1_, by first | exact Kd.R_nil _ _ _ _ _ | exact Kd.N_nil _ _ _ _ _ | exact Kd.V_nil _ _ _ _ _ | exact Kd.Q_nil _ _ _ _ _ | exact Kd.S_nil _ _ _ _ _, hB_⟩
 ·replace c9 := ya c9
  subst c9
  replace H := iF_ H
  have H' := aa.mk H
  clear H
  go_wp2
  go_loopg [8, 32] n1 (fun kq v8 E1 w' => ∃ (f0 : List Int) (e0 : Int), E1 = .int .i64 e0 ∧ aa (aH.l0 kq a0 a1 f0 a2 e0 = some (r1, r2)) ∧ aa (kq ≤ n1) ∧ aa (Kd.R (Kd.int .i64) 3 w' w.heap.size (fun _ => True) v8 f0) ∧ aa (Below w.heap.size w w'))
  case atStart => exact ⟨(([] : List Int)), (0), f0_, H', ⟨wa _⟩, ⟨by first | exact Kd.R_nil _ _ _ _ _ | exact Kd.N_nil _ _ _ _ _ | exact Kd.V_nil _ _ _ _ _ | exact Kd.Q_nil _ _ _ _ _ | exact Kd.S_nil _ _ _ _ _⟩, ⟨hB_⟩⟩
  clear H'
  obtain ⟨f0, e0, rfl, HA, R0, d0, HB⟩ := hrel
  rcases gk with _ | k2
  ·exact absurd HA.out (by simp [aH.l0])
  have H := HA.out
  clear HA
  simp only [aH.l0] at H
  by_cases H0 : e0 < a2
  rotate_left
  ·rw [Aa H0] at H
   have J0 := ua H0
   clear H0
   obtain ⟨q0, p1, H⟩ := bN_ H
   by_cases E0 : q0.toList = a0.toList
   ·rw [za E0] at H
    have K0 : (q0.toList == a0.toList) = true := beq_iff_eq.mpr E0
    have L0 : (q0.toList != a0.toList) = false := bne_eq_false_iff_eq.mpr E0
    clear E0
    simp only [Option.some.injEq, Prod.mk.injEq] at H
    obtain ⟨rfl, rfl⟩ := H
    obtain ⟨W0, X0, Y0⟩ := Kd.R_slice d0.out
    subst Y0
    go_wp2_with (first | ((with_reducible refine ae (f := 35) rfl ?_); refine aq (some 65) rfl rfl Tryz.func35 (by kernel_rfl) rfl #[.slice W0 f0.length X0, .int .i64 a1] rfl aM_ ?_; (with_reducible refine (ay.calls k2 _ _ f0 a1 q0 _ ?side1 ?side2 p1.out).mono ?_); (case side1 => exact cR_ (Kd.R_reads' d0.out).2.2); (case side2 => exact (Kd.R_reads' d0.out).2.1); rintro e J1 ⟨rfl, hb⟩; refine ⟨_, rfl, ?_⟩; have n_ := b_ (Kd.R_below (rR_ d0.out) hb) <| c_ (ac (hB_) hb); clear d0 HB; obtain ⟨d0, HB⟩ := n_; (try clear hb)))
    go_ret2
    exact ⟨_, f1_, rR_ d0.out, hB_⟩
   rw [Aa E0] at H
   have K0 : (q0.toList == a0.toList) = false := beq_eq_false_iff_ne.mpr E0
   have L0 : (q0.toList != a0.toList) = true := bne_iff_ne.mpr E0
   simp only [Option.some.injEq, Prod.mk.injEq] at H
   obtain ⟨rfl, rfl⟩ := H
   obtain ⟨Z0, b1, c1⟩ := Kd.R_slice d0.out
   subst c1
   go_wp2_with (first | ((with_reducible refine ae (f := 35) rfl ?_); refine aq (some 65) rfl rfl Tryz.func35 (by kernel_rfl) rfl #[.slice Z0 f0.length b1, .int .i64 a1] rfl aM_ ?_; (with_reducible refine (ay.calls k2 _ _ f0 a1 q0 _ ?side1 ?side2 p1.out).mono ?_); (case side1 => exact cR_ (Kd.R_reads' d0.out).2.2); (case side2 => exact (Kd.R_reads' d0.out).2.1); rintro e K1 ⟨rfl, hb⟩; refine ⟨_, rfl, ?_⟩; have n_ := b_ (Kd.R_below (rR_ d0.out) hb) <| c_ (ac (hB_) hb); clear d0 HB; obtain ⟨d0, HB⟩ := n_; (try clear hb)))
   go_ret2
   exact ⟨_, f1_, by first | exact Kd.R_nil _ _ _ _ _ | exact Kd.N_nil _ _ _ _ _ | exact Kd.V_nil _ _ _ _ _ | exact Kd.Q_nil _ _ _ _ _ | exact Kd.S_nil _ _ _ _ _, hB_⟩
  rw [za H0] at H
  have J0 := ta H0
  clear H0
  have H' := aa.mk H
  clear H
  go_wp2
  go_loopg [10, 36] k2 (fun kq F1 G1 w' => ∃ (k0 : Int) (b0 : Int), F1 = .int .i64 k0 ∧ G1 = .int .i64 b0 ∧ aa (aH.l1 kq a0 a1 f0 e0 k0 a2 e0 a1 b0 = some (r1, r2)) ∧ aa (kq ≤ k2) ∧ aa (Kd.R (Kd.int .i64) 3 w' w.heap.size (fun _ => True) u8 f0) ∧ aa (Below w.heap.size w w'))
  case atStart => exact ⟨(0), (0), f0_, f0_, H', ⟨wa _⟩, ⟨rR_ d0.out⟩, ⟨hB_⟩⟩
  clear H'
  obtain ⟨k0, b0, rfl, rfl, HA, S0, d0, HB⟩ := hrel
  rcases gk with _ | k3
  ·exact absurd HA.out (by simp [aH.l1])
  have H := HA.out
  clear HA
  simp only [aH.l1] at H
  by_cases I0 : b0 < a1
  rotate_left
  ·rw [Aa I0] at H
   have M0 := ua I0
   clear I0
   obtain ⟨q1, H⟩ := iN_ H
   have N0 := aa.mk q1
   clear q1
   obtain ⟨d1, v0⟩ : ∃ y_ : List Int, y_ = (f0 ++ [k0]) := ⟨_, rfl⟩
   first | replace H := yb_ v0 H | rw [← v0] at H
   have O0 := aa.mk v0
   clear v0
   have H' := aa.mk H
   clear H
   go_wp2_with (first | ((with_reducible refine aV (b := .append) (xs := #[.tmp 58, .tmp 60]) rfl ?_); (try (refine bj (by rfl) ?_; dsimp only)); at_builtin; refine Kd.R_append (Kd.int .i64) (w0 := w) w.heap.size rfl (.tmp 58) (.tmp 60) 38 3 (.int .i64 0) 8 rfl Tryz.underlying38 cS rfl (by decide) (by omega) u8 f0 k0 [.int .i64 k0] (fun _ => True) (fun _ => False) rfl rfl ?aP (fun _ hk => hk.elim) ?aF ?aO ?aB ?aS ?aL ?_; (case aP => exact rfl); (case aB => exact (hB_)); (case aF => exact (fun _ _ => trivial)); (case aO => exact (rR_ d0.out)); (case aS => exact (ab (hB_))); (case aL => have := N0.out; omega); intro H1 L1 ho hb hg hat; rw [← O0.out] at ho; have n_ := b_ (hb) <| c_ (ho); clear d0 HB; obtain ⟨HB, P0⟩ := n_; clear ho hb hg hat))
   go_roundg k3
   case measure => have := Q0.out; have := R0.out; have := S0.out; omega
   case rel => exact ⟨(d1), (wrap64 (e0 + 1)), f0_, H', ⟨by have := Q0.out; have := R0.out; have := S0.out; omega⟩, ⟨rR_ P0.out⟩, ⟨hB_⟩⟩
  rw [za I0] at H
  have M0 := ta I0
  clear I0
  obtain ⟨r0, y0⟩ : ∃ j_ : Int, (wrap64 (Int.tdiv (wrap64 ((wrap64 (e0 * a1)) + b0)) 8)) = j_ := ⟨_, rfl⟩
  first | rw [y0] at H | simp only [y0] at H
  have e1 : (IntKind.i64.wrap (Int.tdiv (wrap64 ((wrap64 (e0 * a1)) + b0)) 8)) = r0 := (bB _).trans y0
  obtain ⟨t1, H⟩ := iD_ H
  obtain ⟨y1, H⟩ := iD_ H
  obtain ⟨C0, D0⟩ : ∃ j_ : Int, (Int.tmod (wrap64 ((wrap64 (e0 * a1)) + b0)) 8) = j_ := ⟨_, rfl⟩
  first | rw [D0] at H | simp only [D0] at H
  obtain ⟨f1, H⟩ := iN_ H
  have z1 := va f1
  have A1 := ta f1
  clear f1
  obtain ⟨t0, x0⟩ : ∃ j_ : Int, (shr .u8 (bt a0 (r0)) (C0)) = j_ := ⟨_, rfl⟩
  first | rw [x0] at H | simp only [x0] at H
  have g1 : ((bt a0 (r0)) / 2 ^ min (C0).toNat 8) = t0 := x0
  have i1 : (C0) ≤ 8 → ((bt a0 (r0)) / 2 ^ (C0).toNat) = t0 := fv x0
  obtain ⟨j1, H⟩ := iN_ H
  have B1 := va j1
  have C1 := ta j1
  clear j1
  obtain ⟨B0, p0⟩ : ∃ j_ : Int, (shl .i64 (wrap64 (Go.bits .and .u8 (t0) 1)) b0) = j_ := ⟨_, rfl⟩
  first | rw [p0] at H | simp only [p0] at H
  have F0 : (IntKind.i64.wrap ((wrap64 (Go.bits .and .u8 (t0) 1)) * 2 ^ min b0.toNat 64)) = B0 := p0
  have G0 : b0 ≤ 64 → (IntKind.i64.wrap ((wrap64 (Go.bits .and .u8 (t0) 1)) * 2 ^ b0.toNat)) = B0 := eE p0
  have hji20y : (wrap64 ((wrap64 (Go.bits .and .u8 (t0) 1)) * 2 ^ min b0.toNat 64)) = B0 := (bB _).symm.trans F0
  have hji20x : b0 ≤ 64 → (wrap64 ((wrap64 (Go.bits .and .u8 (t0) 1)) * 2 ^ b0.toNat)) = B0 := fun h_ => (bB _).symm.trans (G0 h_)
  have H' := aa.mk H
  clear H
  have M1 := va (oD_ : 0 ≤ ((r0) : Int))
  have N1 := va (oD_ : (r0) < (a0.size : Int))
  have I1 := cB a0 (r0)
  go_wp2
  go_roundg k3
  case measure => have := Q0.out; have := R0.out; have := S0.out; omega
  case rel => exact ⟨(Go.bits .or .i64 k0 (B0)), (wrap64 (b0 + 1)), (by first | rfl | (simp; done) | (simp only [← p0] <;> (first | rfl | simp)) | (simp [*]; done)), f0_, H', ⟨by have := Q0.out; have := R0.out; have := S0.out; omega⟩, ⟨rR_ d0.out⟩, ⟨hB_⟩⟩

/-! ### cd: function 60 -/
def cd.f (k : Nat) (a0 : ByteArray) : Option (List Int × Bool) := (aH.f k a0 12 256).bind fun bt581 => (if bt581.2 = true then ((aG.f k bt581.1).bind fun t585 => (if t585 = true then (some (bt581.1, true)) else (some (([] : List Int), false)))) else (some (([] : List Int), false)))
theorem cd.mono : ∀ a0 k, LeO (cd.f k a0) (cd.f (k + 1) a0) := by
 intro a0 k
 unfold cd.f
 exact o2_ aG.mono aH.mono
theorem cd.calls (k : Nat) (a0 : ByteArray) (r1 : List Int) (r2 : Bool) (w : World) (h : cd.f k a0 = some (r1, r2)) :
  Calls Tryz.prog 60 #[.string a0] w fun e w' => ∃ p0 : Value, e = .returned (.tuple #[p0, .bool r2]) ∧ Kd.R (Kd.int .i64) 3 w' w.heap.size (fun _ => True) p0 r1 ∧ Below w.heap.size w w' := by
 have HB := aa.mk (xa w.heap.size w)
 delta cd.f at h
 have H := h
 clear h
 obtain ⟨⟨d0, j0⟩, A2, H⟩ := bN_ H
 by_cases c3 : j0 = true
 ·subst c3
  replace H := iT_ H
  obtain ⟨k0, A4, H⟩ := bN_ H
  by_cases c5 : k0 = true
  ·subst c5
   replace H := iT_ H
   simp only [Option.some.injEq, Prod.mk.injEq] at H
   obtain ⟨rfl, rfl⟩ := H
   go_enter Tryz.func60, Tryz.ntmps60
   go_wp2_with (first | ((with_reducible refine ae (f := 84) rfl ?_); refine aq (some 8) rfl rfl Tryz.func84 (by kernel_rfl) rfl #[.string a0, .int .i64 12, .int .i64 256] rfl aM_ ?_; (with_reducible refine (aH.calls k a0 12 256 d0 true _ A2.out).mono ?_); rintro e w6 ⟨f0, rfl, e0, hb⟩; refine ⟨_, rfl, ?_⟩; have n_ := b_ (Kd.R_lower e0 (ab (hB_))) <| c_ (ac (hB_) hb); clear HB; obtain ⟨b0, HB⟩ := n_; obtain ⟨t0, u0, q0⟩ := Kd.R_slice b0.out; subst q0) | (go_at_call 64; (with_reducible refine (aG.calls k _ _ d0 true _ ?side1 ?side2 A4.out).mono ?_); (case side1 => exact cR_ (Kd.R_reads' b0.out).2.2); (case side2 => exact (Kd.R_reads' b0.out).2.1); rintro e w' ⟨rfl, ⟨nd, rfl⟩⟩))
   go_ret2
   exact ⟨_, f1_, rR_ b0.out, hB_⟩
  ·replace c5 := ya c5
   subst c5
   replace H := iF_ H
   simp only [Option.some.injEq, Prod.mk.injEq] at H
   obtain ⟨rfl, rfl⟩ := H
   go_enter Tryz.func60, Tryz.ntmps60
   go_wp2_with (first | ((with_reducible refine ae (f := 84) rfl ?_); refine aq (some 8) rfl rfl Tryz.func84 (by kernel_rfl) rfl #[.string a0, .int .i64 12, .int .i64 256] rfl aM_ ?_; (with_reducible refine (aH.calls k a0 12 256 d0 true _ A2.out).mono ?_); rintro e w8 ⟨f0, rfl, e0, hb⟩; refine ⟨_, rfl, ?_⟩; have n_ := b_ (Kd.R_lower e0 (ab (hB_))) <| c_ (ac (hB_) hb); clear HB; obtain ⟨b0, HB⟩ := n_; obtain ⟨v0, x0, r0⟩ := Kd.R_slice b0.out; subst r0) | (go_at_call 64; (with_reducible refine (aG.calls k _ _ d0 false _ ?side1 ?side2 A4.out).mono ?_); (case side1 => exact cR_ (Kd.R_reads' b0.out).2.2); (case side2 => exact (Kd.R_reads' b0.out).2.1); rintro e w' ⟨rfl, ⟨nd, rfl⟩⟩))
   go_ret2
   exact ⟨_, f1_, by first | exact Kd.R_nil _ _ _ _ _ | exact Kd.N_nil _ _ _ _ _ | exact Kd.V_nil _ _ _ _ _ | exact Kd.Q_nil _ _ _ _ _ | exact Kd.S_nil _ _ _ _ _, hB_⟩
 ·replace c3 := ya c3
  subst c3
  replace H := iF_ H
  simp only [Option.some.injEq, Prod.mk.injEq] at H
  obtain ⟨rfl, rfl⟩ := H
  go_enter Tryz.func60, Tryz.ntmps60
  go_wp2_with (first | ((with_reducible refine ae (f := 84) rfl ?_); refine aq (some 8) rfl rfl Tryz.func84 (by kernel_rfl) rfl #[.string a0, .int .i64 12, .int .i64 256] rfl aM_ ?_; (with_reducible refine (aH.calls k a0 12 256 d0 false _ A2.out).mono ?_); rintro e y0 ⟨f0, rfl, e0, hb⟩; refine ⟨_, rfl, ?_⟩; have n_ := b_ (Kd.R_lower e0 (ab (hB_))) <| c_ (ac (hB_) hb); clear HB; obtain ⟨b0, HB⟩ := n_; (try clear e0)))
  go_ret2
  exact ⟨_, f1_, by first | exact Kd.R_nil _ _ _ _ _ | exact Kd.N_nil _ _ _ _ _ | exact Kd.V_nil _ _ _ _ _ | exact Kd.Q_nil _ _ _ _ _ | exact Kd.S_nil _ _ _ _ _, hB_⟩

/-! ### bn: function 28 -/
def bn.l0 : Nat → ByteArray → List (List Int) → Int → Option ((List (List Int)) × Bool)
 | 0, _, _, _ => none
 | k + 1, x0, x4, x8 => if x8 < 2 then (if 0 ≤ (wrap64 (x8 * 384)) then (if (wrap64 (x8 * 384)) ≤ (wrap64 ((wrap64 (x8 + 1)) * 384)) then (if (wrap64 ((wrap64 (x8 + 1)) * 384)) ≤ (x0.size : Int) then ((cd.f k (x0.extract ((wrap64 (x8 * 384)) : Int).toNat ((wrap64 ((wrap64 (x8 + 1)) * 384)) : Int).toNat)).bind fun bt586 => (if bt586.2 = true then (if x4.length < 5864062014805 then (bn.l0 k x0 (x4 ++ [bt586.1]) (wrap64 (x8 + 1))) else (none)) else (some (([] : List (List Int)), false)))) else (none)) else (none)) else (none)) else (some (x4, true))
def bn.f (k : Nat) (a0 : ByteArray) : Option ((List (List Int)) × Bool) := bn.l0 k a0 ([] : List (List Int)) 0
theorem bn.mono_l : ∀ k, (∀ y0 y1 y2, LeO (bn.l0 k y0 y1 y2) (bn.l0 (k + 1) y0 y1 y2))
 | 0 => fun _ _ _ r h => by simp [bn.l0] at h
 | k + 1 => by
  have ih0 := bn.mono_l k
  intros; unfold bn.l0; exact o2_ ih0 cd.mono
theorem bn.mono : ∀ a0 k, LeO (bn.f k a0) (bn.f (k + 1) a0) := by
 intro a0 k
 have ih0 := bn.mono_l k
 unfold bn.f
 exact o2_ ih0 cd.mono
theorem bn.calls (k : Nat) (a0 : ByteArray) (r1 : List (List Int)) (r2 : Bool) (w : World) (h : bn.f k a0 = some (r1, r2)) :
  Calls Tryz.prog 28 #[.string a0] w fun e w' => ∃ G0 : Value, e = .returned (.tuple #[G0, .bool r2]) ∧ Kd.S (Kd.slice 3 (Kd.int .i64)) 38 w' w.heap.size (fun _ => True) G0 r1 ∧ Below w.heap.size w w' := by
 have HB := aa.mk (xa w.heap.size w)
 delta bn.f at h
 have H := h
 clear h
 have H' := aa.mk H
 clear H
 go_enter Tryz.func28, Tryz.ntmps28
 go_wp2
 go_loopg [4, 8] k (fun kq v4 v8 w' => ∃ (p0 : List (List Int)) (b0 : Int), v8 = .int .i64 b0 ∧ aa (bn.l0 kq a0 p0 b0 = some (r1, r2)) ∧ aa (kq ≤ k) ∧ aa (Kd.S (Kd.slice 3 (Kd.int .i64)) 38 w' w.heap.size (fun _ => True) v4 p0) ∧ aa (Below w.heap.size w w'))
 case atStart => exact ⟨(([] : List (List Int))), (0), f0_, H', ⟨wa _⟩, ⟨by first | exact Kd.S_nil _ _ _ _ _ | exact Kd.N_nil _ _ _ _ _ | exact Kd.V_nil _ _ _ _ _ | exact Kd.Q_nil _ _ _ _ _ | exact Kd.R_nil _ _ _ _ _⟩, ⟨hB_⟩⟩
 clear H'
 obtain ⟨p0, b0, rfl, HA, H0, d0, HB⟩ := hrel
 rcases gk with _ | k1
 ·exact absurd HA.out (by simp [bn.l0])
 have H := HA.out
 clear HA
 simp only [bn.l0] at H
 by_cases c2 : b0 < 2
 rotate_left
 ·rw [Aa c2] at H
  have y0 := ua c2
  clear c2
  simp only [Option.some.injEq, Prod.mk.injEq] at H
  obtain ⟨rfl, rfl⟩ := H
  go_wp2
  go_ret2
  exact ⟨_, f1_, by refine kS_ ?_; exact d0.out, hB_⟩
 rw [za c2] at H
 have y0 := ta c2
 clear c2
 obtain ⟨r0, j0⟩ : ∃ j_ : Int, (wrap64 (b0 * 384)) = j_ := ⟨_, rfl⟩
 first | rw [j0] at H | simp only [j0] at H
 have I0 : (IntKind.i64.wrap (b0 * 384)) = r0 := (bB _).trans j0
 obtain ⟨c4, H⟩ := iN_ H
 have J0 := va c4
 have K0 := ta c4
 clear c4
 obtain ⟨c5, H⟩ := iN_ H
 have L0 := va c5
 have M0 := ta c5
 obtain ⟨c6, H⟩ := iN_ H
 have N0 := va c6
 have O0 := ta c6
 obtain ⟨⟨k0, B0⟩, A7, H⟩ := bN_ H
 by_cases c8 : B0 = true
 ·subst c8
  replace H := iT_ H
  obtain ⟨c9, H⟩ := iN_ H
  have C0 := aa.mk c9
  clear c9
  obtain ⟨D0, f0⟩ : ∃ y_ : List (List Int), y_ = (p0 ++ [k0]) := ⟨_, rfl⟩
  first | replace H := yb_ f0 H | rw [← f0] at H
  have t0 := aa.mk f0
  clear f0
  have H' := aa.mk H
  clear H
  go_wp2_with (first | ((with_reducible refine ae (f := 60) rfl ?_); refine aq (some 19) rfl rfl Tryz.func60 (by kernel_rfl) rfl #[.string (a0.extract ((r0) : Int).toNat ((wrap64 ((wrap64 (b0 + 1)) * 384)) : Int).toNat)] rfl (by (try simp only [List.map_toArray, List.map_cons, List.map_nil]); first | done | (simp only [j0]; rfl) | rfl | (simp only [List.length_drop, List.length_take]; rfl)) ?_; (with_reducible refine (cd.calls k1 (a0.extract ((r0) : Int).toNat ((wrap64 ((wrap64 (b0 + 1)) * 384)) : Int).toNat) k0 true _ A7.out).mono ?_); rintro e Q0 ⟨E0, rfl, q0, hb⟩; refine ⟨_, rfl, ?_⟩; have n_ := b_ (Kd.S_elder' (rS_ d0.out) (Kd.R_base q0) hb) <| b_ (Kd.R_lower q0 (ab (hB_))) <| c_ (ac (hB_) hb); clear d0 HB; obtain ⟨d0, e0, HB⟩ := n_; obtain ⟨u0, v0, F0⟩ := Kd.R_slice e0.out; subst F0) | ((with_reducible refine aV (b := .append) (xs := #[.tmp 24, .tmp 26]) rfl ?_); at_builtin; refine Kd.S_append (Kd.slice 3 (Kd.int .i64)) (w0 := w) w.heap.size rfl (.tmp 24) (.tmp 26) 34 38 (.slice none 0 0) 24 rfl Tryz.underlying34 gK rfl (by decide) (by omega) u4 p0 k0 [.slice u0 k0.length v0] (fun _ => True) (fun k_ => some k_ = (.slice u0 k0.length v0 : Value).ownBlock) rfl rfl ?aP (fun k_ hk_ => ((Kd.R_mono (ok' := fun k_ => ((fun _ => True)) k_ ∧ some k_ ≠ (u4 : Value).ownBlock) (Kd.R_apart' (e0.out) (Kd.S_typed d0.out) (by decide)) (fun k_ hk => ⟨trivial, hk.2⟩))).1 k_ hk_.symm) ?aF ?aO ?aB ?aS ?aL ?_; (case aP => exact Kd.M_row (Kd.R_mono (Kd.R_tight rfl (Kd.R_mono (ok' := fun k_ => ((fun _ => True)) k_ ∧ some k_ ≠ (u4 : Value).ownBlock) (Kd.R_apart' (e0.out) (Kd.S_typed d0.out) (by decide)) (fun k_ hk => ⟨trivial, hk.2⟩))) (fun _ h_ => h_))); (case aB => exact (hB_)); (case aF => exact (fun _ _ => trivial)); (case aO => exact (by refine kS_ ?_; exact Kd.S_mono d0.out (fun k_ hk => ⟨trivial, fun e_ => hk.2 e_⟩))); (case aS => exact (ab (hB_))); (case aL => have := C0.out; omega); intro P0 R0 ho hb hg hat; rw [← t0.out] at ho; have n_ := b_ (hb) <| c_ (ho); clear d0 e0 HB; obtain ⟨HB, x0⟩ := n_; clear ho hb hg hat))
  go_roundg k1
  case measure => have := H0.out; omega
  case rel => exact ⟨(D0), (wrap64 (b0 + 1)), f0_, H', ⟨by have := H0.out; omega⟩, ⟨rS_ x0.out⟩, ⟨hB_⟩⟩
 ·replace c8 := ya c8
  subst c8
  replace H := iF_ H
  simp only [Option.some.injEq, Prod.mk.injEq] at H
  obtain ⟨rfl, rfl⟩ := H
  go_wp2_with (first | ((with_reducible refine ae (f := 60) rfl ?_); refine aq (some 19) rfl rfl Tryz.func60 (by kernel_rfl) rfl #[.string (a0.extract ((r0) : Int).toNat ((wrap64 ((wrap64 (b0 + 1)) * 384)) : Int).toNat)] rfl (by (try simp only [List.map_toArray, List.map_cons, List.map_nil]); first | done | (simp only [j0]; rfl) | rfl | (simp only [List.length_drop, List.length_take]; rfl)) ?_; (with_reducible refine (cd.calls k1 (a0.extract ((r0) : Int).toNat ((wrap64 ((wrap64 (b0 + 1)) * 384)) : Int).toNat) k0 false _ A7.out).mono ?_); rintro e S0 ⟨E0, rfl, q0, hb⟩; refine ⟨_, rfl, ?_⟩; have n_ := b_ (Kd.S_elder' (rS_ d0.out) (Kd.R_base q0) hb) <| b_ (Kd.R_lower q0 (ab (hB_))) <| c_ (ac (hB_) hb); clear d0 HB; obtain ⟨d0, e0, HB⟩ := n_; (try clear q0)))
  go_ret2
  exact ⟨_, by first | rfl | (simp [d2, d5] <;> rfl) | (simp only [← j0]; first | rfl | (simp [d2, d5] <;> rfl)) | (simp [*, d2, d5] <;> rfl), by first | exact Kd.S_nil _ _ _ _ _ | exact Kd.N_nil _ _ _ _ _ | exact Kd.V_nil _ _ _ _ _ | exact Kd.Q_nil _ _ _ _ _ | exact Kd.R_nil _ _ _ _ _, hB_⟩

/-! ### ci: function 27 -/
def ci.f (k : Nat) (a0 : ByteArray) : Option (Bool) := if (a0.size : Int) = 800 then ((bn.f k a0).bind fun bt593 => (some bt593.2)) else (some false)
theorem ci.mono : ∀ a0 k, LeO (ci.f k a0) (ci.f (k + 1) a0) := by
 intro a0 k
 unfold ci.f
 exact o1_ bn.mono
theorem ci.calls (k : Nat) (a0 : ByteArray) (r : Bool) (w : World) (h : ci.f k a0 = some r) :
  Calls Tryz.prog 27 #[.string a0] w fun e w' => e = .returned (.bool r) ∧ Below w.heap.size w w' := by
 have HB := aa.mk (xa w.heap.size w)
 delta ci.f at h
 have H := h
 clear h
 by_cases c2 : (a0.size : Int) = 800
 ·rw [za c2] at H
  have b0 : ((a0.size : Int) == 800) = true := beq_iff_eq.mpr c2
  have d0 : ((a0.size : Int) != 800) = false := bne_eq_false_iff_eq.mpr c2
  clear c2
  obtain ⟨⟨e0, f0⟩, A3, H⟩ := bN_ H
  obtain rfl := sI H
  go_enter Tryz.func27, Tryz.ntmps27
  go_wp2_with (first | ((with_reducible refine ae (f := 28) rfl ?_); refine aq (some 10) rfl rfl Tryz.func28 (by kernel_rfl) rfl #[.string a0] rfl aM_ ?_; (with_reducible refine (bn.calls k a0 e0 f0 _ A3.out).mono ?_); rintro e w4 ⟨p0, rfl, j0, hb⟩; refine ⟨_, rfl, ?_⟩; have n_ := b_ (Kd.S_lower j0 (ab (hB_))) <| c_ (ac (hB_) hb); clear HB; obtain ⟨k0, HB⟩ := n_; (try clear j0)))
  go_ret
  exact ⟨f1_, hB_⟩
 rw [Aa c2] at H
 have b0 : ((a0.size : Int) == 800) = false := beq_eq_false_iff_ne.mpr c2
 have d0 : ((a0.size : Int) != 800) = true := bne_iff_ne.mpr c2
 obtain rfl := sI H
 go_enter Tryz.func27, Tryz.ntmps27
 go_wp2
 go_ret
 exact ⟨f1_, hB_⟩

/-! ### db: function 65 -/
def db.f (l0 : List Int) : Option (List Int) := if ([] : List Int).length + l0.length < 17592186044416 then (some (([] : List Int) ++ l0)) else (none)
theorem db.calls (A0 : Option Addr) (c0 : Nat) (l0 : List Int) (r : List Int) (w : World) (hr0 : Kd.C (Kd.int .i64) w A0 l0.length l0) (hc0 : l0.length ≤ c0) (h : db.f l0 = some r) :
  Calls Tryz.prog 65 #[.slice A0 l0.length c0] w fun e w' => ∃ f0 : Value, e = .returned (f0) ∧ Kd.R (Kd.int .i64) 3 w' w.heap.size (fun _ => True) f0 r ∧ Below w.heap.size w w' := by
 have j0 := aa.mk hr0
 have q0 := aa.mk hc0
 clear hr0 hc0
 have HB := aa.mk (xa w.heap.size w)
 delta db.f at h
 have H := h
 clear h
 obtain ⟨c2, H⟩ := iN_ H
 have e0 := aa.mk c2
 clear c2
 obtain ⟨k0, a0⟩ : ∃ y_ : List Int, y_ = (([] : List Int) ++ l0) := ⟨_, rfl⟩
 first | replace H := yb_ a0 H | rw [← a0] at H
 have b0 := aa.mk a0
 clear a0
 obtain rfl := sI H
 go_enter Tryz.func65, Tryz.ntmps65
 go_wp2_with (first | ((with_reducible refine aV (b := .append) (xs := #[.const (.slice none 0 0), .tmp 3]) rfl ?_); at_builtin; refine Kd.R_append_rows (Kd.int .i64) (w0 := w) w.heap.size rfl (.const (.slice none 0 0)) (.tmp 3) 38 3 (.int .i64 0) 8 rfl Tryz.underlying38 cS rfl (by decide) (by omega) (.slice none 0 0) ([] : List Int) l0 _ _ _ (fun _ => True) (fun _ => False) rfl rfl ?aO ?aR (fun _ _ h => h) (fun _ h => h.elim) ?aF ?aB ?aS ?aL ?_; (case aR => exact cR_ j0.out); (case aB => exact (hB_)); (case aF => exact (fun _ _ => trivial)); (case aO => exact ((Kd.R_nil _ _ _ _ (fun _ => True)))); (case aS => exact (ab (hB_))); (case aL => have := e0.out; omega); intro p0 w3 ho hb hg hat; rw [← b0.out] at ho; have n_ := b_ (hb) <| c_ (ho); clear HB; obtain ⟨HB, d0⟩ := n_; clear ho hb hg hat))
 go_ret
 exact ⟨_, f1_, rR_ d0.out, hB_⟩

/-! ### bS: function 68 -/
def bS.f (a0 : Int) : Option (Int) := some (Int.tmod (wrap64 ((Int.tmod a0 3329) + 3329)) 3329)
theorem bS.calls (a0 : Int) (r : Int) (w : World) (h : bS.f a0 = some r) :
  Calls Tryz.prog 68 #[.int .i64 a0] w fun e w' => e = .returned (.int .i64 r) ∧ cp w w' := by
 delta bS.f at h
 have H := h
 clear h
 obtain rfl := sI H
 go_enter Tryz.func68, Tryz.ntmps68
 go_wp2
 go_ret
 exact ⟨f0_, d0_⟩

/-! ### bs: function 66 -/
def bs.l0 : Nat → Int → Int → Int → Option (Int)
 | 0, _, _, _ => none
 | k + 1, x0, x1, x5 => if x1 > 0 then (if (Int.tmod x1 2) = 1 then (bs.l0 k (Int.tmod (wrap64 (x0 * x0)) 3329) (wrap64 (Int.tdiv x1 2)) (Int.tmod (wrap64 (x5 * x0)) 3329)) else (bs.l0 k (Int.tmod (wrap64 (x0 * x0)) 3329) (wrap64 (Int.tdiv x1 2)) x5)) else (some x5)
def bs.f (k : Nat) (a0 : Int) (a1 : Int) : Option (Int) := (bO.f a1 0 1000000000).bind fun t600 => (if t600 = true then ((bS.f a0).bind fun t601 => (bs.l0 k t601 a1 1)) else (some 0))
theorem bs.mono_l : ∀ k, (∀ y0 y1 y2, LeO (bs.l0 k y0 y1 y2) (bs.l0 (k + 1) y0 y1 y2))
 | 0 => fun _ _ _ r h => by simp [bs.l0] at h
 | k + 1 => by
  have ih0 := bs.mono_l k
  intros; unfold bs.l0; exact o1_ ih0
theorem bs.mono : ∀ a0 a1 k, LeO (bs.f k a0 a1) (bs.f (k + 1) a0 a1) := by
 intro a0 a1 k
 have ih0 := bs.mono_l k
 unfold bs.f
 exact o1_ ih0
theorem bs.calls (k : Nat) (a0 : Int) (a1 : Int) (r : Int) (w : World) (h : bs.f k a0 a1 = some r) :
  Calls Tryz.prog 66 #[.int .i64 a0, .int .i64 a1] w fun e w' => e = .returned (.int .i64 r) ∧ cp w w' := by
 delta bs.f at h
 have H := h
 clear h
 obtain ⟨k0, A3, H⟩ := bN_ H
 by_cases c4 : k0 = true
 ·subst c4
  replace H := iT_ H
  obtain ⟨f0, A5, H⟩ := bN_ H
  have H' := aa.mk H
  clear H
  go_enter Tryz.func66, Tryz.ntmps66
  go_wp2_with (first | ((with_reducible refine ae (f := 85) rfl ?_); refine aq (some 7) rfl rfl Tryz.func85 (by kernel_rfl) rfl #[.int .i64 a1, .int .i64 0, .int .i64 1000000000] rfl aM_ ?_; (with_reducible refine (bO.calls a1 0 1000000000 true _ A3.out).mono ?_); rintro e w' ⟨rfl, ⟨nd, rfl⟩⟩; refine ⟨_, rfl, ?_⟩) | ((with_reducible refine ae (f := 68) rfl ?_); refine aq (some 10) rfl rfl Tryz.func68 (by kernel_rfl) rfl #[.int .i64 a0] rfl aM_ ?_; (with_reducible refine (bS.calls a0 f0 _ A5.out).mono ?_); rintro e w' ⟨rfl, ⟨nd, rfl⟩⟩; refine ⟨_, rfl, ?_⟩))
  go_loopg [0, 1, 5] k (fun kq v0 v1 v5 w' => ∃ (d0 : Int) (b0 : Int) (e0 : Int), v0 = .int .i64 d0 ∧ v1 = .int .i64 b0 ∧ v5 = .int .i64 e0 ∧ aa (bs.l0 kq d0 b0 e0 = some r) ∧ aa (kq ≤ k) ∧ cp w w')
  case atStart => exact ⟨(f0), (a1), (1), f0_, f0_, f0_, H', ⟨wa _⟩, d0_⟩
  clear H'
  obtain ⟨d0, b0, e0, rfl, rfl, rfl, HA, j0, ⟨m1, rfl⟩⟩ := hrel
  rcases gk with _ | k1
  ·exact absurd HA.out (by simp [bs.l0])
  have H := HA.out
  clear HA
  simp only [bs.l0] at H
  by_cases c6 : b0 > 0
  ·rw [za c6] at H
   have p0 := ta c6
   clear c6
   by_cases c7 : (Int.tmod b0 2) = 1
   ·rw [za c7] at H
    have q0 : ((Int.tmod b0 2) == 1) = true := beq_iff_eq.mpr c7
    have r0 : ((Int.tmod b0 2) != 1) = false := bne_eq_false_iff_eq.mpr c7
    clear c7
    have H' := aa.mk H
    clear H
    go_wp2
    go_roundg k1
    case measure => have := j0.out; omega
    case rel => exact ⟨(Int.tmod (wrap64 (d0 * d0)) 3329), (wrap64 (Int.tdiv b0 2)), (Int.tmod (wrap64 (e0 * d0)) 3329), f0_, f0_, f0_, H', ⟨by have := j0.out; omega⟩, d0_⟩
   rw [Aa c7] at H
   have q0 : ((Int.tmod b0 2) == 1) = false := beq_eq_false_iff_ne.mpr c7
   have r0 : ((Int.tmod b0 2) != 1) = true := bne_iff_ne.mpr c7
   have H' := aa.mk H
   clear H
   go_wp2
   go_roundg k1
   case measure => have := j0.out; omega
   case rel => exact ⟨(Int.tmod (wrap64 (d0 * d0)) 3329), (wrap64 (Int.tdiv b0 2)), (e0), f0_, f0_, f0_, H', ⟨by have := j0.out; omega⟩, d0_⟩
  rw [Aa c6] at H
  have p0 := ua c6
  clear c6
  obtain rfl := sI H
  go_wp2
  go_ret
  exact ⟨f0_, d0_⟩
 ·replace c4 := ya c4
  subst c4
  replace H := iF_ H
  obtain rfl := sI H
  go_enter Tryz.func66, Tryz.ntmps66
  go_wp2_with (first | ((with_reducible refine ae (f := 85) rfl ?_); refine aq (some 7) rfl rfl Tryz.func85 (by kernel_rfl) rfl #[.int .i64 a1, .int .i64 0, .int .i64 1000000000] rfl aM_ ?_; (with_reducible refine (bO.calls a1 0 1000000000 false _ A3.out).mono ?_); rintro e w' ⟨rfl, ⟨nd, rfl⟩⟩; refine ⟨_, rfl, ?_⟩))
  go_ret
  exact ⟨f0_, d0_⟩

/-! ### bp: function 67 -/
def bp.l0 : Nat → Int → Int → Int → Option (Int)
 | 0, _, _, _ => none
 | k + 1, x0, x3, x5 => if x5 < 7 then (if 0 ≤ x5 then (bp.l0 k x0 (wrap64 ((wrap64 (2 * x3)) + (Go.bits .and .i64 (shr .i64 x0 x5) 1))) (wrap64 (x5 + 1))) else (none)) else (some x3)
def bp.f (k : Nat) (a0 : Int) : Option (Int) := bp.l0 k a0 0 0
theorem bp.mono_l : ∀ k, (∀ y0 y1 y2, LeO (bp.l0 k y0 y1 y2) (bp.l0 (k + 1) y0 y1 y2))
 | 0 => fun _ _ _ r h => by simp [bp.l0] at h
 | k + 1 => by
  have ih0 := bp.mono_l k
  intros; unfold bp.l0; exact o1_ ih0
theorem bp.mono : ∀ a0 k, LeO (bp.f k a0) (bp.f (k + 1) a0) := by
 intro a0 k
 have ih0 := bp.mono_l k
 unfold bp.f
 exact o1_ ih0
theorem bp.calls (k : Nat) (a0 : Int) (r : Int) (w : World) (h : bp.f k a0 = some r) :
  Calls Tryz.prog 67 #[.int .i64 a0] w fun e w' => e = .returned (.int .i64 r) ∧ cp w w' := by
 delta bp.f at h
 have H := h
 clear h
 have H' := aa.mk H
 clear H
 go_enter Tryz.func67, Tryz.ntmps67
 go_wp2
 go_loopg [3, 5] k (fun kq v3 v5 w' => ∃ (e0 : Int) (b0 : Int), v3 = .int .i64 e0 ∧ v5 = .int .i64 b0 ∧ aa (bp.l0 kq a0 e0 b0 = some r) ∧ aa (kq ≤ k) ∧ cp w w')
 case atStart => exact ⟨(0), (0), f0_, f0_, H', ⟨wa _⟩, d0_⟩
 clear H'
 obtain ⟨e0, b0, rfl, rfl, HA, k0, ⟨m1, rfl⟩⟩ := hrel
 rcases gk with _ | k1
 ·exact absurd HA.out (by simp [bp.l0])
 have H := HA.out
 clear HA
 simp only [bp.l0] at H
 by_cases c2 : b0 < 7
 ·rw [za c2] at H
  have f0 := ta c2
  clear c2
  obtain ⟨c3, H⟩ := iN_ H
  have r0 := va c3
  have t0 := ta c3
  clear c3
  obtain ⟨j0, d0⟩ : ∃ j_ : Int, (shr .i64 a0 b0) = j_ := ⟨_, rfl⟩
  first | rw [d0] at H | simp only [d0] at H
  have p0 : (a0 / 2 ^ min b0.toNat 64) = j0 := d0
  have q0 : b0 ≤ 64 → (a0 / 2 ^ b0.toNat) = j0 := fv d0
  have H' := aa.mk H
  clear H
  go_wp2
  go_roundg k1
  case measure => have := k0.out; omega
  case rel => exact ⟨(wrap64 ((wrap64 (2 * e0)) + (Go.bits .and .i64 (j0) 1))), (wrap64 (b0 + 1)), (by first | rfl | (simp; done) | (simp only [← d0] <;> (first | rfl | simp)) | (simp [*]; done)), f0_, H', ⟨by have := k0.out; omega⟩, d0_⟩
 rw [Aa c2] at H
 have f0 := ua c2
 clear c2
 obtain rfl := sI H
 go_wp2
 go_ret
 exact ⟨f0_, d0_⟩

/-! ### aQ: function 61 -/
theorem aQ.cell_setCell_drewN (w : World) (n : Nat) (a b : Addr) (v : Value) : ((w.drewN n).setCell a v).cell? b = (w.setCell a v).cell? b := rfl
theorem aQ.frozen_setCell (w : World) (a b : Addr) (v : Value) : (w.setCell a v).frozen? b = w.frozen? b := World.frozen?_setCell w a b v
attribute [local go_sem] aQ.cell_setCell_drewN
mutual
def aQ.l0 : Nat → List Int → Int → Int → Option (List Int)
 | 0, _, _, _ => none
 | k + 1, x3, x4, x5 => if x5 ≥ 2 then (aQ.l1 k x3 x4 x5 0) else (some x3)
def aQ.l1 : Nat → List Int → Int → Int → Int → Option (List Int)
 | 0, _, _, _, _ => none
 | k + 1, x3, x4, x5, x6 => if x6 < 256 then ((bp.f k x4).bind fun t606 => ((bs.f k 17 t606).bind fun t607 => (aQ.l2 k x3 (wrap64 (x4 + 1)) x5 x6 t607 x6))) else (aQ.l0 k x3 x4 (wrap64 (Int.tdiv x5 2)))
def aQ.l2 : Nat → List Int → Int → Int → Int → Int → Int → Option (List Int)
 | 0, _, _, _, _, _, _ => none
 | k + 1, x3, x4, x5, x6, x7, x8 => if x8 < (wrap64 (x6 + x5)) then (if 0 ≤ (wrap64 (x8 + x5)) then (if (wrap64 (x8 + x5)) < (x3.length : Int) then (if 0 ≤ x8 then (if x8 < (x3.length : Int) then ((bS.f (wrap64 ((rd x3 x8) + (wrap64 (x7 * (rd x3 (wrap64 (x8 + x5)))))))).bind fun t610 => ((bS.f (wrap64 ((rd x3 x8) - (wrap64 (x7 * (rd x3 (wrap64 (x8 + x5)))))))).bind fun t612 => (aQ.l2 k ((x3.set (x8 : Int).toNat t610).set ((wrap64 (x8 + x5)) : Int).toNat t612) x4 x5 x6 x7 (wrap64 (x8 + 1))))) else (none)) else (none)) else (none)) else (none)) else (aQ.l1 k x3 x4 x5 (wrap64 (x6 + (wrap64 (2 * x5)))))
end
def aQ.f (k : Nat) (l0 : List Int) : Option (List Int) := (aG.f k l0).bind fun t602 => (if t602 = true then ((db.f l0).bind fun t603 => (aQ.l0 k t603 1 128)) else (some ([] : List Int)))
theorem aQ.mono_l : ∀ k, (∀ y0 y1 y2, LeO (aQ.l0 k y0 y1 y2) (aQ.l0 (k + 1) y0 y1 y2)) ∧ (∀ y0 y1 y2 y3, LeO (aQ.l1 k y0 y1 y2 y3) (aQ.l1 (k + 1) y0 y1 y2 y3)) ∧ (∀ y0 y1 y2 y3 y4 y5, LeO (aQ.l2 k y0 y1 y2 y3 y4 y5) (aQ.l2 (k + 1) y0 y1 y2 y3 y4 y5))
 | 0 => ⟨fun _ _ _ r h => by simp [aQ.l0] at h, fun _ _ _ _ r h => by simp [aQ.l1] at h, fun _ _ _ _ _ _ r h => by simp [aQ.l2] at h⟩
 | k + 1 => by
  obtain ⟨ih0, ih1, ih2⟩ := aQ.mono_l k
  refine ⟨?_, ?_, ?_⟩ <;> (intros; (first | unfold aQ.l0 | unfold aQ.l1 | unfold aQ.l2); exact o6_ ih0 ih1 ih2 aG.mono bs.mono bp.mono)
theorem aQ.mono : ∀ a0 k, LeO (aQ.f k a0) (aQ.f (k + 1) a0) := by
 intro a0 k
 obtain ⟨ih0, ih1, ih2⟩ := aQ.mono_l k
 unfold aQ.f
 exact o6_ ih0 ih1 ih2 aG.mono bs.mono bp.mono
def aQ.T17 : Bool × List (List Nat × List Nat) := (true, [([], []), ([], []), ([], []), ([], []), ([], []), ([3, 4], [3, 4]), ([], []), ([], []), ([6, 7], [6, 7]), ([8], [8]), ([], []), ([9, 10], [9, 10]), ([11], [11]), ([], []), ([], []), ([13, 14], [13, 14]), ([15], [15]), ([], []), ([16, 17], [16, 17]), ([18, 12], [18]), ([0, 1, 0, 1, 6, 7, 8, 9, 10, 11, 12, 16, 19], [0, 1]), ([20, 12, 19, 0, 1, 6, 7, 8, 9, 10, 11, 12, 16, 19], [12, 20]), ([2, 5, 0, 1, 2, 3, 4, 5, 6, 7, 8, 9, 10, 11, 12, 13, 14, 15, 16, 17, 18, 19, 20, 21], [2, 5]), ([22, 19, 21, 0, 1, 2, 3, 4, 5, 6, 7, 8, 9, 10, 11, 12, 13, 14, 15, 16, 17, 18, 19, 20, 21], [19, 22])])
def aQ.B17 : List Nat := [0, 0, 0, 0, 0, 24, 0, 0, 192, 448, 0, 1984, 4032, 0, 0, 24576, 57344, 0, 253952, 524224, 1048515, 2097091, 4194303, 8388607]
theorem aQ.tab17 : dW .any (eW Tryz.f61 17) = aQ.T17 := by kernel_rfl
theorem aQ.bits17 : cZ aQ.T17.2 aQ.B17 = true := by kernel_rfl
theorem aQ.calls (k : Nat) (A0 : Option Addr) (c0 : Nat) (l0 : List Int) (r : List Int) (w : World) (hr0 : Kd.C (Kd.int .i64) w A0 l0.length l0) (hc0 : l0.length ≤ c0) (h : aQ.f k l0 = some r) :
  Calls Tryz.prog 61 #[.slice A0 l0.length c0] w fun e w' => ∃ E1 : Value, e = .returned (E1) ∧ Kd.R (Kd.int .i64) 3 w' w.heap.size (fun _ => True) E1 r ∧ Below w.heap.size w w' := by
 have d1 := aa.mk hr0
 have e1 := aa.mk hc0
 clear hr0 hc0
 have HB := aa.mk (xa w.heap.size w)
 delta aQ.f at h
 have H := h
 clear h
 obtain ⟨f1, A2, H⟩ := bN_ H
 by_cases c3 : f1 = true
 ·subst c3
  replace H := iT_ H
  obtain ⟨R0, A4, H⟩ := bN_ H
  have H' := aa.mk H
  clear H
  go_enter Tryz.func61, Tryz.ntmps61
  go_wp2_with (first | ((with_reducible refine ae (f := 64) rfl ?_); refine aq (some 11) rfl rfl Tryz.func64 (by kernel_rfl) rfl #[.slice A0 l0.length c0] rfl aM_ ?_; (with_reducible refine (aG.calls k _ _ l0 true _ ?side1 ?side2 A2.out).mono ?_); (case side1 => exact cR_ d1.out); (case side2 => exact e1.out); rintro e w' ⟨rfl, ⟨nd, rfl⟩⟩; refine ⟨_, rfl, ?_⟩) | ((with_reducible refine ae (f := 65) rfl ?_); refine aq (some 14) rfl rfl Tryz.func65 (by kernel_rfl) rfl #[.slice A0 l0.length c0] rfl aM_ ?_; (with_reducible refine (db.calls _ _ l0 R0 _ ?side1 ?side2 A4.out).mono ?_); (case side1 => exact cR_ d1.out); (case side2 => exact e1.out); rintro e w5 ⟨E0, rfl, F1, hb⟩; refine ⟨_, rfl, ?_⟩; have n_ := b_ (Kd.R_lower F1 (ab (hB_))) <| c_ (ac (hB_) hb); clear HB; obtain ⟨S0, HB⟩ := n_; (try clear F1)))
  go_loopg [4, 5] k (fun kq v4 v5 w' => ∃ (B0 : List Int) (C0 : Int) (f0 : Int), v4 = .int .i64 C0 ∧ v5 = .int .i64 f0 ∧ aa (aQ.l0 kq B0 C0 f0 = some r) ∧ aa (kq ≤ k) ∧ aa (Kd.R (Kd.int .i64) 3 w' w.heap.size (fun _ => True) E0 B0) ∧ aa (Below w.heap.size w w'))
  case atStart => exact ⟨(R0), (1), (128), f0_, f0_, H', ⟨wa _⟩, ⟨rR_ S0.out⟩, ⟨hB_⟩⟩
  clear H'
  obtain ⟨B0, C0, f0, rfl, rfl, HA, O0, d0, HB⟩ := hrel
  rcases gk with _ | k1
  ·exact absurd HA.out (by simp [aQ.l0])
  have H := HA.out
  clear HA
  simp only [aQ.l0] at H
  by_cases c6 : f0 ≥ 2
  rotate_left
  ·rw [Aa c6] at H
   have g1 := ua c6
   clear c6
   obtain rfl := sI H
   go_wp2
   go_ret
   exact ⟨_, f1_, rR_ d0.out, hB_⟩
  rw [za c6] at H
  have g1 := ta c6
  clear c6
  have H' := aa.mk H
  clear H
  go_wp2
  go_loopg [4, 6] k1 (fun kq v4 v6 w' => ∃ (y0 : List Int) (p0 : Int) (q0 : Int), v4 = .int .i64 p0 ∧ v6 = .int .i64 q0 ∧ aa (aQ.l1 kq y0 p0 f0 q0 = some r) ∧ aa (kq ≤ k1) ∧ aa (Kd.R (Kd.int .i64) 3 w' w.heap.size (fun _ => True) E0 y0) ∧ aa (Below w.heap.size w w'))
  case atStart => exact ⟨(B0), (C0), (0), f0_, f0_, H', ⟨wa _⟩, ⟨rR_ d0.out⟩, ⟨hB_⟩⟩
  clear H'
  obtain ⟨y0, p0, q0, rfl, rfl, HA, P0, d0, HB⟩ := hrel
  rcases gk with _ | k2
  ·exact absurd HA.out (by simp [aQ.l1])
  have H := HA.out
  clear HA
  simp only [aQ.l1] at H
  by_cases c7 : q0 < 256
  rotate_left
  ·rw [Aa c7] at H
   have i1 := ua c7
   clear c7
   have H' := aa.mk H
   clear H
   go_wp2
   go_roundg k2
   case measure => have := O0.out; have := P0.out; omega
   case rel => exact ⟨(y0), (p0), (wrap64 (Int.tdiv f0 2)), f0_, f0_, H', ⟨by have := O0.out; have := P0.out; omega⟩, ⟨rR_ d0.out⟩, ⟨hB_⟩⟩
  rw [za c7] at H
  have i1 := ta c7
  clear c7
  obtain ⟨F0, A8, H⟩ := bN_ H
  obtain ⟨x0, A9, H⟩ := bN_ H
  have H' := aa.mk H
  clear H
  go_wp2_with (first | ((with_reducible refine ae (f := 67) rfl ?_); refine aq (some 26) rfl rfl Tryz.func67 (by kernel_rfl) rfl #[.int .i64 p0] rfl aM_ ?_; (with_reducible refine (bp.calls k2 p0 F0 _ A8.out).mono ?_); rintro e w' ⟨rfl, ⟨nd, rfl⟩⟩; refine ⟨_, rfl, ?_⟩) | ((with_reducible refine ae (f := 66) rfl ?_); refine aq (some 27) rfl rfl Tryz.func66 (by kernel_rfl) rfl #[.int .i64 17, .int .i64 F0] rfl aM_ ?_; (with_reducible refine (bs.calls k2 17 F0 x0 _ A9.out).mono ?_); rintro e w' ⟨rfl, ⟨nd, rfl⟩⟩; refine ⟨_, rfl, ?_⟩))
  go_loopg [8] k2 (fun kq v8 w' => ∃ (b0 : List Int) (a0 : Int), v8 = .int .i64 a0 ∧ aa (aQ.l2 kq b0 (wrap64 (p0 + 1)) f0 q0 x0 a0 = some r) ∧ aa (kq ≤ k2) ∧ aa (Kd.R (Kd.int .i64) 3 w' w.heap.size (fun _ => True) E0 b0) ∧ aa (Below w.heap.size w w'))
  case atStart => exact ⟨(y0), (q0), f0_, H', ⟨wa _⟩, ⟨rR_ d0.out⟩, ⟨hB_⟩⟩
  clear H'
  obtain ⟨b0, a0, rfl, HA, c1, d0, HB⟩ := hrel
  rcases gk with _ | k3
  ·exact absurd HA.out (by simp [aQ.l2])
  have H := HA.out
  clear HA
  simp only [aQ.l2] at H
  by_cases Q0 : a0 < (wrap64 (q0 + f0))
  rotate_left
  ·rw [Aa Q0] at H
   have T0 := ua Q0
   clear Q0
   have H' := aa.mk H
   clear H
   go_wp2
   go_roundg k3
   case measure => have := O0.out; have := P0.out; have := c1.out; omega
   case rel => exact ⟨(b0), ((wrap64 (p0 + 1))), (wrap64 (q0 + (wrap64 (2 * f0)))), f0_, f0_, H', ⟨by have := O0.out; have := P0.out; have := c1.out; omega⟩, ⟨rR_ d0.out⟩, ⟨hB_⟩⟩
  rw [za Q0] at H
  have T0 := ta Q0
  clear Q0
  obtain ⟨e0, r0⟩ : ∃ j_ : Int, (wrap64 (a0 + f0)) = j_ := ⟨_, rfl⟩
  first | rw [r0] at H | simp only [r0] at H
  have j1 : (IntKind.i64.wrap (a0 + f0)) = e0 := (bB _).trans r0
  obtain ⟨G1, H⟩ := iD_ H
  obtain ⟨H1, H⟩ := iD_ H
  obtain ⟨I1, H⟩ := iD_ H
  obtain ⟨J1, H⟩ := iD_ H
  obtain ⟨G0, K1, H⟩ := bN_ H
  obtain ⟨H0, L1, H⟩ := bN_ H
  obtain ⟨m1, t0⟩ : ∃ y_ : List Int, y_ = (b0.set (a0 : Int).toNat G0) := ⟨_, rfl⟩
  first | replace H := yb_ t0 H | rw [← t0] at H
  have U0 := aa.mk t0
  clear t0
  obtain ⟨n1, u0⟩ : ∃ y_ : List Int, y_ = (m1.set ((e0) : Int).toNat H0) := ⟨_, rfl⟩
  first | replace H := yb_ u0 H | rw [← u0] at H
  have V0 := aa.mk u0
  clear u0
  have H' := aa.mk H
  clear H
  obtain ⟨M1, N1, p1⟩ := Kd.R_slice d0.out
  subst p1
  have I0 : 0 ≤ ((e0) : Int) := oD_
  have J0 : (e0) < (b0.length : Int) := oD_
  obtain ⟨v0, q1, D0⟩ := Kd.at_int (Kd.R_reads' d0.out).2.2 (e0) I0 J0
  cases q1
  replace I0 := va I0
  replace J0 := va J0
  try go_wp2
  have n_ := b_ (Kd.R_drew d0.out) <| c_ (bX HB.out)
  clear d0 HB
  obtain ⟨d0, HB⟩ := n_
  have K0 : 0 ≤ (a0 : Int) := oD_
  have L0 : a0 < (b0.length : Int) := oD_
  obtain ⟨W0, r1, j0⟩ := Kd.at_int (Kd.R_reads' d0.out).2.2 a0 K0 L0
  obtain rfl : v0 = W0 := (by injection r1)
  replace K0 := va K0
  replace L0 := va L0
  have M0 : 0 ≤ (a0 : Int) := oD_
  have N0 : a0 < (b0.length : Int) := oD_
  obtain ⟨X0, t1, k0⟩ := Kd.at_int (Kd.R_reads' d0.out).2.2 a0 M0 N0
  obtain rfl : v0 = X0 := (by injection t1)
  replace M0 := va M0
  replace N0 := va N0
  refine dY (n := 24) (S := fun w' => w'.cell? (v0.add (a0).toNat) = some (.int .i64 (rd b0 a0)) ∧ w'.cell? (v0.add (a0).toNat) = some (.int .i64 (rd b0 a0))) (ds := [21, 23]) (bb_ 24 0) (by kernel_rfl) rfl rfl ⟨j0, k0⟩ (fun hHeld => ?_); refine cM aQ.tab17 aQ.bits17 (fun HT_ HW_ => ?_)
  generalize wr.drew = P1 at d0 HB j0 k0 hHeld ⊢
  refine pS_ 0 46 (bb_ 24 1) HT_.out ?_
  refine pS_ 1 47 (bb_ 24 3) HT_.out ?_
  refine pS_ 2 48 (bb_ 24 7) HT_.out ?_
  refine pS_ 3 49 (bb_ 24 15) HT_.out ?_
  refine pS_ 4 50 (bb_ 24 31) HT_.out ?_
  refine pS_ 5 51 (bb_ 24 63) HT_.out ?_
  refine pS_ 6 52 (bb_ 24 127) HT_.out ?_
  refine pS_ 7 53 (bb_ 24 255) HT_.out ?_
  refine pS_ 8 54 (bb_ 24 511) HT_.out ?_
  refine pS_ 10 56 (bb_ 24 1535) HT_.out ?_
  refine pS_ 13 59 (bb_ 24 9727) HT_.out ?_
  refine pS_ 14 60 (bb_ 24 26111) HT_.out ?_
  refine pS_ 15 61 (bb_ 24 58879) HT_.out ?_
  refine pS_ 17 63 (bb_ 24 189951) HT_.out ?_
  refine tS_ 9 55 (bb_ 24 190463) (bA HT_.out HW_.out (by kernel_rfl)) hHeld ?_
  refine pS_ 11 57 (bb_ 24 192511) HT_.out ?_
  refine tS_ 16 62 (bb_ 24 258047) (bA HT_.out HW_.out (by kernel_rfl)) hHeld ?_
  refine pS_ 18 64 (bb_ 24 520191) HT_.out ?_
  refine fC (i := 12) (N := some 58) (bb_ 24 524287) rfl rfl (cC HT_.out (by kernel_rfl)) (by decide) (fun K hK => ?_)
  refine fj Tryz.func68 (by kernel_rfl) rfl #[.int .i64 (wrap64 ((rd b0 a0) + (wrap64 (x0 * (rd b0 (e0))))))] (by rfl) rfl rfl (by (try simp only [List.map_toArray, List.map_cons, List.map_nil]); first | done | (simp only [r0]; rfl) | rfl | (simp only [List.length_drop, List.length_take]; rfl)) ?_
  with_reducible refine (bS.calls (wrap64 ((rd b0 a0) + (wrap64 (x0 * (rd b0 (e0)))))) G0 _ K1.out).mono ?_
  rintro e w' ⟨rfl, ⟨nd, rfl⟩⟩
  refine ⟨_, rfl, ?_⟩
  refine hK.out _ _ ⟨hHeld.1, hHeld.2⟩ (fun hHeld => ?_)
  clear hK K
  refine dV (a' := ?_) ?_ ?_
  rotate_left
  ·show Act.put _ (some 58) _ = _
   simp only [Act.put, List.setIfInBounds_toArray, List.set_cons_zero, List.set_cons_succ, bB, cJ]
   rfl
  refine fC (i := 19) (N := some 65) (bb_ 24 1048575) rfl rfl (cC HT_.out (by kernel_rfl)) (by decide) (fun K hK => ?_)
  refine fj Tryz.func68 (by kernel_rfl) rfl #[.int .i64 (wrap64 ((rd b0 a0) - (wrap64 (x0 * (rd b0 (e0))))))] (by rfl) rfl rfl (by (try simp only [List.map_toArray, List.map_cons, List.map_nil]); first | done | (simp only [r0]; rfl) | rfl | (simp only [List.length_drop, List.length_take]; rfl)) ?_
  with_reducible refine (bS.calls (wrap64 ((rd b0 a0) - (wrap64 (x0 * (rd b0 (e0)))))) H0 _ L1.out).mono ?_
  rintro e w' ⟨rfl, ⟨nd, rfl⟩⟩
  refine ⟨_, rfl, ?_⟩
  have y1 : 0 ≤ (a0 : Int) := oD_
  have z1 : (a0 : Int) < ((b0.length : Int) : Int) := oD_
  obtain ⟨go18, O1, Y0, Z0, gl18, cl18, HG18⟩ := Kd.R_form d0.out (by omega)
  (first | cases Y0 | (injection Y0 with ea_ en_ ec_; (first | subst ea_ | (injection ea_ with ea_; subst ea_)); subst ec_; clear en_))
  have b1 := aa.mk Z0
  have GG18 := aa.mk HG18
  clear Z0 gl18 HG18
  (first | simp only [bU] at D0 | skip)
  (first | simp only [bU] at j0 | skip)
  (first | simp only [bU] at k0 | skip)
  obtain ⟨A1, hf18_0⟩ := Kd.R_celln 0 d0.out (a0 : Int) y1 z1
  replace y1 := va y1
  replace z1 := va z1
  have HP22 := Kd.R_putn d0.out (a0 : Int) G0
  rw [← U0.out] at HP22
  have HQ22 := aa.mk HP22
  clear HP22
  have B1 : 0 ≤ ((e0) : Int) := oD_
  have C1 : ((e0) : Int) < ((b0.length : Int) : Int) := oD_
  obtain ⟨D1, hf19_0⟩ := Kd.R_celln 0 HQ22.out ((e0) : Int) B1 C1
  (first | simp only [aQ.frozen_setCell] at hf19_0 | skip)
  replace B1 := va B1
  replace C1 := va C1
  have HP23 := Kd.R_putn HQ22.out ((e0) : Int) H0
  rw [← V0.out] at HP23
  have HQ23 := aa.mk HP23
  clear HP23
  refine hK.out _ _ ⟨hHeld.1, hHeld.2⟩ (fun hHeld => ?_)
  clear hK K
  refine dV (a' := ?_) ?_ ?_
  rotate_left
  ·show Act.put _ (some 65) _ = _
   simp only [Act.put, List.setIfInBounds_toArray, List.set_cons_zero, List.set_cons_succ, bB, cJ]
   rfl
  refine pS_ 20 66 (bb_ 24 2097151) HT_.out ?_
  refine gv (i := 21) (N := none) (bb_ 24 4194303) rfl rfl (cC HT_.out (by kernel_rfl)) (by decide) (fun K hK => ?_)
  refine iB (w1 := ?_) (by rfl) rfl ?_ ?_
  rotate_left
  ·go_simp
   rfl
  refine hK.out _ _ ?_
  clear hK K
  refine pS_ 22 67 (bb_ 24 8388607) HT_.out ?_
  refine gv (i := 23) (N := none) (bb_ 24 16777215) rfl rfl (cC HT_.out (by kernel_rfl)) (by decide) (fun K hK => ?_)
  refine iB (w1 := ?_) (by rfl) rfl ?_ ?_
  rotate_left
  ·go_simp
   rfl
  refine hK.out _ _ ?_
  clear hK K
  refine eT (dn HT_.out (by kernel_rfl)) ?_
  try go_wp2
  go_roundg k3
  case measure => have := O0.out; have := P0.out; have := c1.out; omega
  case rel => exact ⟨(n1), (wrap64 (a0 + 1)), f0_, H', ⟨by have := O0.out; have := P0.out; have := c1.out; omega⟩, ⟨rR_ HQ23.out⟩, ⟨(u0_ b1.out b1.out)⟩⟩
 ·replace c3 := ya c3
  subst c3
  replace H := iF_ H
  obtain rfl := sI H
  go_enter Tryz.func61, Tryz.ntmps61
  go_wp2_with (first | ((with_reducible refine ae (f := 64) rfl ?_); refine aq (some 11) rfl rfl Tryz.func64 (by kernel_rfl) rfl #[.slice A0 l0.length c0] rfl aM_ ?_; (with_reducible refine (aG.calls k _ _ l0 false _ ?side1 ?side2 A2.out).mono ?_); (case side1 => exact cR_ d1.out); (case side2 => exact e1.out); rintro e w' ⟨rfl, ⟨nd, rfl⟩⟩; refine ⟨_, rfl, ?_⟩))
  go_ret
  exact ⟨_, f1_, by first | exact Kd.R_nil _ _ _ _ _ | exact Kd.N_nil _ _ _ _ _ | exact Kd.V_nil _ _ _ _ _ | exact Kd.Q_nil _ _ _ _ _ | exact Kd.S_nil _ _ _ _ _, hB_⟩

/-! ### bT: function 29 -/
def bT.l0 : Nat → List (List Int) → List (List Int) → Int → Int → Option ((List (List Int)))
 | 0, _, _, _, _ => none
 | k + 1, x3, x6, x7, x8 => if x8 < x7 then (if 0 ≤ x8 then (if x8 < (x6.length : Int) then ((aQ.f k (dg x6 x8)).bind fun t616 => (if x3.length < 5864062014805 then (bT.l0 k (x3 ++ [t616]) x6 x7 (wrap64 (x8 + 1))) else (none))) else (none)) else (none)) else (some x3)
def bT.f (k : Nat) (l0 : List (List Int)) : Option ((List (List Int))) := bT.l0 k ([] : List (List Int)) l0 (l0.length : Int) 0
theorem bT.mono_l : ∀ k, (∀ y0 y1 y2 y3, LeO (bT.l0 k y0 y1 y2 y3) (bT.l0 (k + 1) y0 y1 y2 y3))
 | 0 => fun _ _ _ _ r h => by simp [bT.l0] at h
 | k + 1 => by
  have ih0 := bT.mono_l k
  intros; unfold bT.l0; exact o2_ ih0 aQ.mono
theorem bT.mono : ∀ a0 k, LeO (bT.f k a0) (bT.f (k + 1) a0) := by
 intro a0 k
 have ih0 := bT.mono_l k
 unfold bT.f
 exact o2_ ih0 aQ.mono
theorem bT.calls (k : Nat) (A0 : Option Addr) (c0 : Nat) (l0 : List (List Int)) (r : List (List Int)) (w : World) (hr0 : Kd.C (Kd.slice 3 (Kd.int .i64)) w A0 l0.length l0) (hc0 : l0.length ≤ c0) (h : bT.f k l0 = some r) :
  Calls Tryz.prog 29 #[.slice A0 l0.length c0] w fun e w' => ∃ H0 : Value, e = .returned (H0) ∧ Kd.S (Kd.slice 3 (Kd.int .i64)) 38 w' w.heap.size (fun _ => True) H0 r ∧ Below w.heap.size w w' := by
 have N0 := aa.mk hr0
 have T0 := aa.mk hc0
 clear hr0 hc0
 have HB := aa.mk (xa w.heap.size w)
 delta bT.f at h
 have H := h
 clear h
 have H' := aa.mk H
 clear H
 go_enter Tryz.func29, Tryz.ntmps29
 go_wp2
 go_loopg [3, 8] k (fun kq v3 v8 w' => ∃ (p0 : List (List Int)) (a0 : Int), v8 = .int .i64 a0 ∧ aa (bT.l0 kq p0 l0 (l0.length : Int) a0 = some r) ∧ aa (kq ≤ k) ∧ aa (Kd.S (Kd.slice 3 (Kd.int .i64)) 38 w' w.heap.size (fun _ => True) v3 p0) ∧ aa (Below w.heap.size w w'))
 case atStart => exact ⟨(([] : List (List Int))), (0), f0_, H', ⟨wa _⟩, ⟨by first | exact Kd.S_nil _ _ _ _ _ | exact Kd.N_nil _ _ _ _ _ | exact Kd.V_nil _ _ _ _ _ | exact Kd.Q_nil _ _ _ _ _ | exact Kd.R_nil _ _ _ _ _⟩, ⟨hB_⟩⟩
 clear H'
 obtain ⟨p0, a0, rfl, HA, I0, d0, HB⟩ := hrel
 rcases gk with _ | k1
 ·exact absurd HA.out (by simp [bT.l0])
 have H := HA.out
 clear HA
 simp only [bT.l0] at H
 by_cases c2 : a0 < (l0.length : Int)
 rotate_left
 ·rw [Aa c2] at H
  have D0 := ua c2
  clear c2
  obtain rfl := sI H
  go_wp2
  go_ret
  exact ⟨_, f1_, by refine kS_ ?_; exact d0.out, hB_⟩
 rw [za c2] at H
 have D0 := ta c2
 clear c2
 obtain ⟨O0, H⟩ := iD_ H
 obtain ⟨P0, H⟩ := iD_ H
 obtain ⟨q0, A5, H⟩ := bN_ H
 obtain ⟨c6, H⟩ := iN_ H
 have E0 := aa.mk c6
 clear c6
 obtain ⟨F0, e0⟩ : ∃ y_ : List (List Int), y_ = (p0 ++ [q0]) := ⟨_, rfl⟩
 first | replace H := yb_ e0 H | rw [← e0] at H
 have B0 := aa.mk e0
 clear e0
 have H' := aa.mk H
 clear H
 have u0 : 0 ≤ (a0 : Int) := oD_
 have v0 : a0 < (l0.length : Int) := oD_
 obtain ⟨J0, x0, y0, G0, b0, f0, j0⟩ := k9 N0.out a0 u0 v0
 cases G0
 replace b0 := (HB.out.cell (World.block_lt_of_cell? w _ b0)).trans b0
 have r0 := aa.mk j0
 have t0 := aa.mk f0
 clear j0 f0
 replace u0 := va u0
 replace v0 := va v0
 go_wp2_with (first | ((with_reducible refine ae (f := 61) rfl ?_); refine aq (some 14) rfl rfl Tryz.func61 (by kernel_rfl) rfl #[.slice x0 (dg l0 a0).length y0] rfl aM_ ?_; (with_reducible refine (aQ.calls k1 _ _ (dg l0 a0) q0 _ ?side1 ?side2 A5.out).mono ?_); (case side1 => exact cR_ (Kd.C_below r0.out HB.out)); (case side2 => exact t0.out); rintro e w7 ⟨Q0, rfl, K0, hb⟩; refine ⟨_, rfl, ?_⟩; have n_ := b_ (Kd.S_elder' (rS_ d0.out) (Kd.R_base K0) hb) <| b_ (Kd.R_lower K0 (ab (hB_))) <| c_ (ac (hB_) hb); clear d0 HB; obtain ⟨d0, k0, HB⟩ := n_; obtain ⟨L0, M0, R0⟩ := Kd.R_slice k0.out; subst R0) | ((with_reducible refine aV (b := .append) (xs := #[.tmp 12, .tmp 15]) rfl ?_); at_builtin; refine Kd.S_append (Kd.slice 3 (Kd.int .i64)) (w0 := w) w.heap.size rfl (.tmp 12) (.tmp 15) 34 38 (.slice none 0 0) 24 rfl Tryz.underlying34 gK rfl (by decide) (by omega) u3 p0 q0 [.slice L0 q0.length M0] (fun _ => True) (fun k_ => some k_ = (.slice L0 q0.length M0 : Value).ownBlock) rfl rfl ?aP (fun k_ hk_ => ((Kd.R_mono (ok' := fun k_ => ((fun _ => True)) k_ ∧ some k_ ≠ (u3 : Value).ownBlock) (Kd.R_apart' (k0.out) (Kd.S_typed d0.out) (by decide)) (fun k_ hk => ⟨trivial, hk.2⟩))).1 k_ hk_.symm) ?aF ?aO ?aB ?aS ?aL ?_; (case aP => exact Kd.M_row (Kd.R_mono (Kd.R_tight rfl (Kd.R_mono (ok' := fun k_ => ((fun _ => True)) k_ ∧ some k_ ≠ (u3 : Value).ownBlock) (Kd.R_apart' (k0.out) (Kd.S_typed d0.out) (by decide)) (fun k_ hk => ⟨trivial, hk.2⟩))) (fun _ h_ => h_))); (case aB => exact (hB_)); (case aF => exact (fun _ _ => trivial)); (case aO => exact (by refine kS_ ?_; exact Kd.S_mono d0.out (fun k_ hk => ⟨trivial, fun e_ => hk.2 e_⟩))); (case aS => exact (ab (hB_))); (case aL => have := E0.out; omega); intro S0 w8 ho hb hg hat; rw [← B0.out] at ho; have n_ := b_ (hb) <| c_ (ho); clear d0 k0 HB; obtain ⟨HB, C0⟩ := n_; clear ho hb hg hat))
 go_roundg k1
 case measure => have := I0.out; omega
 case rel => exact ⟨(F0), (wrap64 (a0 + 1)), f0_, H', ⟨by have := I0.out; omega⟩, ⟨rS_ C0.out⟩, ⟨hB_⟩⟩

/-! ### bD: function 109 -/
def bD.l0 : Nat → Int → Int → Int → Option (Int)
 | 0, _, _, _ => none
 | k + 1, x3, x4, x5 => if x5 < x4 then (if (wrap64 (x3 * 2)) ≥ 256 then (bD.l0 k (Go.bits .and .i64 (Go.bits .xor .i64 (wrap64 (x3 * 2)) 113) 255) x4 (wrap64 (x5 + 1))) else (bD.l0 k (wrap64 (x3 * 2)) x4 (wrap64 (x5 + 1)))) else (some (IntKind.u64.wrap (Go.bits .and .i64 x3 1)))
def bD.f (k : Nat) (a0 : Int) : Option (Int) := bD.l0 k 1 a0 0
theorem bD.mono_l : ∀ k, (∀ y0 y1 y2, LeO (bD.l0 k y0 y1 y2) (bD.l0 (k + 1) y0 y1 y2))
 | 0 => fun _ _ _ r h => by simp [bD.l0] at h
 | k + 1 => by
  have ih0 := bD.mono_l k
  intros; unfold bD.l0; exact o1_ ih0
theorem bD.mono : ∀ a0 k, LeO (bD.f k a0) (bD.f (k + 1) a0) := by
 intro a0 k
 have ih0 := bD.mono_l k
 unfold bD.f
 exact o1_ ih0
theorem bD.calls (k : Nat) (a0 : Int) (r : Int) (w : World) (h : bD.f k a0 = some r) :
  Calls Tryz.prog 109 #[.int .i64 a0] w fun e w' => e = .returned (.int .u64 r) ∧ cp w w' := by
 delta bD.f at h
 have H := h
 clear h
 have H' := aa.mk H
 clear H
 go_enter Tryz.func109, Tryz.ntmps109
 go_wp2
 go_loopg [3, 5] k (fun kq v3 v5 w' => ∃ (b0 : Int) (d0 : Int), v3 = .int .i64 b0 ∧ v5 = .int .i64 d0 ∧ aa (bD.l0 kq b0 a0 d0 = some r) ∧ aa (kq ≤ k) ∧ cp w w')
 case atStart => exact ⟨(1), (0), f0_, f0_, H', ⟨wa _⟩, d0_⟩
 clear H'
 obtain ⟨b0, d0, rfl, rfl, HA, e0, ⟨m1, rfl⟩⟩ := hrel
 rcases gk with _ | k1
 ·exact absurd HA.out (by simp [bD.l0])
 have H := HA.out
 clear HA
 simp only [bD.l0] at H
 by_cases c2 : d0 < a0
 ·rw [za c2] at H
  have f0 := ta c2
  clear c2
  by_cases c3 : (wrap64 (b0 * 2)) ≥ 256
  ·rw [za c3] at H
   have j0 := ta c3
   clear c3
   have H' := aa.mk H
   clear H
   go_wp2
   go_roundg k1
   case measure => have := e0.out; omega
   case rel => exact ⟨(Go.bits .and .i64 (Go.bits .xor .i64 (wrap64 (b0 * 2)) 113) 255), (wrap64 (d0 + 1)), f0_, f0_, H', ⟨by have := e0.out; omega⟩, d0_⟩
  rw [Aa c3] at H
  have j0 := ua c3
  clear c3
  have H' := aa.mk H
  clear H
  go_wp2
  go_roundg k1
  case measure => have := e0.out; omega
  case rel => exact ⟨(wrap64 (b0 * 2)), (wrap64 (d0 + 1)), f0_, f0_, H', ⟨by have := e0.out; omega⟩, d0_⟩
 rw [Aa c2] at H
 have f0 := ua c2
 clear c2
 obtain rfl := sI H
 go_wp2
 go_ret
 exact ⟨f0_, d0_⟩

/-! ### bu: function 106 -/
def bu.l0 : Nat → Int → Int → Int → Option (Int)
 | 0, _, _, _ => none
 | k + 1, x0, x3, x5 => if x5 < 7 then ((bD.f k (wrap64 (x5 + (wrap64 (7 * x0))))).bind fun t622 => (if 0 ≤ x5 then (if 0 ≤ (IntKind.u64.wrap ((shl .u64 1 x5) - 1)) then (bu.l0 k x0 (Go.bits .or .u64 x3 (shl .u64 t622 (IntKind.u64.wrap ((shl .u64 1 x5) - 1)))) (wrap64 (x5 + 1))) else (none)) else (none))) else (some x3)
def bu.f (k : Nat) (a0 : Int) : Option (Int) := bu.l0 k a0 0 0
theorem bu.mono_l : ∀ k, (∀ y0 y1 y2, LeO (bu.l0 k y0 y1 y2) (bu.l0 (k + 1) y0 y1 y2))
 | 0 => fun _ _ _ r h => by simp [bu.l0] at h
 | k + 1 => by
  have ih0 := bu.mono_l k
  intros; unfold bu.l0; exact o2_ ih0 bD.mono
theorem bu.mono : ∀ a0 k, LeO (bu.f k a0) (bu.f (k + 1) a0) := by
 intro a0 k
 have ih0 := bu.mono_l k
 unfold bu.f
 exact o2_ ih0 bD.mono
theorem bu.calls (k : Nat) (a0 : Int) (r : Int) (w : World) (h : bu.f k a0 = some r) :
  Calls Tryz.prog 106 #[.int .i64 a0] w fun e w' => e = .returned (.int .u64 r) ∧ cp w w' := by
 delta bu.f at h
 have H := h
 clear h
 have H' := aa.mk H
 clear H
 go_enter Tryz.func106, Tryz.ntmps106
 go_wp2
 repeat (go_quiet (fail); try go_wp2)
 go_loopg [3, 5] k (fun kq v3 v5 w' => ∃ (j0 : Int) (b0 : Int), v3 = .int .u64 j0 ∧ v5 = .int .i64 b0 ∧ aa (bu.l0 kq a0 j0 b0 = some r) ∧ aa (kq ≤ k) ∧ cp w w')
 case atStart => exact ⟨(0), (0), f0_, f0_, H', ⟨wa _⟩, d0_⟩
 clear H'
 obtain ⟨j0, b0, rfl, rfl, HA, x0, ⟨m1, rfl⟩⟩ := hrel
 rcases gk with _ | k1
 ·exact absurd HA.out (by simp [bu.l0])
 have H := HA.out
 clear HA
 simp only [bu.l0] at H
 by_cases c2 : b0 < 7
 rotate_left
 ·rw [Aa c2] at H
  have u0 := ua c2
  clear c2
  obtain rfl := sI H
  go_wp2
  repeat (go_quiet (fail); try go_wp2)
  go_ret
  exact ⟨f0_, d0_⟩
 rw [za c2] at H
 have u0 := ta c2
 clear c2
 obtain ⟨e0, A3, H⟩ := bN_ H
 obtain ⟨c4, H⟩ := iN_ H
 have C0 := va c4
 have D0 := ta c4
 clear c4
 obtain ⟨p0, f0⟩ : ∃ j_ : Int, (shl .u64 1 b0) = j_ := ⟨_, rfl⟩
 first | rw [f0] at H | simp only [f0] at H
 (try rw [f0] at A3)
 have q0 : (IntKind.u64.wrap (1 * 2 ^ min b0.toNat 64)) = p0 := f0
 have r0 : b0 ≤ 64 → (IntKind.u64.wrap (1 * 2 ^ b0.toNat)) = p0 := eE f0
 have hji5u : (IntKind.u64.wrap (2 ^ min b0.toNat 64)) = p0 := by have h_ := q0; rw [Int.one_mul] at h_; exact h_
 have hji5v : b0 ≤ 64 → (IntKind.u64.wrap (2 ^ b0.toNat)) = p0 := fun hle_ => by have h_ := r0 hle_; rw [Int.one_mul] at h_; exact h_
 obtain ⟨t0, k0⟩ : ∃ j_ : Int, (IntKind.u64.wrap ((p0) - 1)) = j_ := ⟨_, rfl⟩
 first | rw [k0] at H | simp only [k0] at H
 (try rw [k0] at A3)
 obtain ⟨c7, H⟩ := iN_ H
 have E0 := va c7
 have F0 := ta c7
 clear c7
 obtain ⟨v0, d0⟩ : ∃ j_ : Int, (shl .u64 e0 (t0)) = j_ := ⟨_, rfl⟩
 first | rw [d0] at H | simp only [d0] at H
 (try rw [d0] at A3)
 have y0 : (IntKind.u64.wrap (e0 * 2 ^ min (t0).toNat 64)) = v0 := d0
 have B0 : (t0) ≤ 64 → (IntKind.u64.wrap (e0 * 2 ^ (t0).toNat)) = v0 := eE d0
 have H' := aa.mk H
 clear H
 go_wp2_with (first | (go_at_call 109; (with_reducible refine (bD.calls k1 (wrap64 (b0 + (wrap64 (7 * a0)))) e0 _ A3.out).mono ?_); rintro e w' ⟨rfl, ⟨nd, rfl⟩⟩; (try first | exact ⟨rfl, _, World.drewN_drewN _ _ _⟩ | exact ⟨rfl, _, Eq.trans (World.drewN_drewN _ _ _) (congrArg (World.drewN _) (Nat.add_assoc _ _ _))⟩)))
 repeat (go_quiet (first | (go_at_call 109; (with_reducible refine (bD.calls k1 (wrap64 (b0 + (wrap64 (7 * a0)))) e0 _ A3.out).mono ?_); rintro e w' ⟨rfl, ⟨nd, rfl⟩⟩; (try first | exact ⟨rfl, _, World.drewN_drewN _ _ _⟩ | exact ⟨rfl, _, Eq.trans (World.drewN_drewN _ _ _) (congrArg (World.drewN _) (Nat.add_assoc _ _ _))⟩))); try go_wp2)
 go_roundg k1
 case measure => have := x0.out; omega
 case rel => exact ⟨(Go.bits .or .u64 j0 (v0)), (wrap64 (b0 + 1)), (by first | rfl | (simp; done) | (simp only [← d0] <;> (first | rfl | simp)) | (simp [*]; done)), f0_, H', ⟨by have := x0.out; omega⟩, d0_⟩

-- NOT PRINTED: function 97 (cq)

-- NOT PRINTED: function 98 (cQ)

-- NOT PRINTED: function 99 (impl_lanes_text)

-- GIVEN: function 93 (dj)

-- GIVEN: function 92 (cP)

/-! ### cA: function 73 -/
def cA.f (a0 : Int) : Option (ByteArray) := some (strOfNums (([(a0) % 256] : List Int)))
theorem cA.calls (a0 : Int) (r : ByteArray) (w : World) (h : cA.f a0 = some r) :
  Calls Tryz.prog 73 #[.int .i64 a0] w fun e w' => e = .returned (.string r) ∧ Below w.heap.size w w' := by
 have HB := aa.mk (xa w.heap.size w)
 delta cA.f at h
 have H := h
 clear h
 obtain ⟨j0, b0⟩ : ∃ y_ : List Int, y_ = (([(a0) % 256] : List Int)) := ⟨_, rfl⟩
 first | replace H := yb_ b0 H | rw [← b0] at H
 have d0 := aa.mk b0
 clear b0
 obtain rfl := sI H
 go_enter Tryz.func73, Tryz.ntmps73
 go_wp2_with (first | ((with_reducible refine aI (N := 5) rfl ?_); refine Kd.R_lit (Kd.int .u8) _ 5 ?hg (N := 5) ?hd (xs := ([(a0) % 256] : List Int)) (inner := [.int .u8 ((a0) % 256)]) (ok := fun _ => True) (okp := fun _ => True) ?hr ?hp (fun _ hk => hk) trivial (xa _ _) (wa _) (by simp) ?_; (case hd => rfl); (case hg => rfl); (case hr => first | (go_simp; done) | (go_simp; rfl)); (case hp => exact (br.one (show Kd.M (Kd.int .u8) _ _ _ ((a0) % 256) [.int .u8 ((a0) % 256)] from rfl) (br.none _ _))); intro k0 w2 e0 hb hg_ hnew_; clear hg_ hnew_; (first | rw [← d0.out] at e0 | (simp only [Int.reduceToNat] at e0; rw [← d0.out] at e0)); have n_ := b_ (Kd.R_lower e0 (ab (hB_))) <| c_ (ac (hB_) hb); clear HB; obtain ⟨f0, HB⟩ := n_; clear hb e0; have p0 := dD (P := Tryz.prog) Tryz.underlying57 Tryz.underlying5 Tryz.underlying9 (Kd.own_of_R f0.out)))
 go_ret
 exact ⟨f1_, hB_⟩

/-! ### dH: function 63 -/
def dH.f (a0 : Int) (a1 : Int) : Option (Int) := some (wrap64 (a0 + a1))
theorem dH.calls (a0 : Int) (a1 : Int) (r : Int) (w : World) (h : dH.f a0 a1 = some r) :
  Calls Tryz.prog 63 #[.int .i64 a0, .int .i64 a1] w fun e w' => e = .returned (.int .i64 r) ∧ cp w w' := by
 delta dH.f at h
 have H := h
 clear h
 obtain rfl := sI H
 go_enter Tryz.func63, Tryz.ntmps63
 go_wp2
 go_ret
 exact ⟨f0_, d0_⟩

/-! ### ah: function 62 -/
mutual
def ah.j0 : Nat → List Int → List Int → Bool → Option (List Int)
 | 0, _, _, _ => none
 | k + 1, x0, x1, x16 => if x16 = true then (some ([] : List Int)) else (if 256 ≤ 35184372088832 then ((some (List.replicate 256 0 : List Int)).bind fun y656 => (ah.l0 k x0 x1 y656 (y656.length : Int) 0)) else (none))
def ah.l0 : Nat → List Int → List Int → List Int → Int → Int → Option (List Int)
 | 0, _, _, _, _, _ => none
 | k + 1, x0, x1, x7, x19, x20 => if x20 < x19 then (if 0 ≤ x20 then (if x20 < (x0.length : Int) then (if x20 < (x1.length : Int) then ((dH.f (rd x0 x20) (rd x1 x20)).bind fun t661 => ((bS.f t661).bind fun t662 => (if x20 < (x7.length : Int) then (ah.l0 k x0 x1 (x7.set (x20 : Int).toNat t662) x19 (wrap64 (x20 + 1))) else (none)))) else (none)) else (none)) else (none)) else (some x7)
end
def ah.f (k : Nat) (l0 : List Int) (l1 : List Int) : Option (List Int) := (aG.f k l0).bind fun t654 => (if t654 = true then ((aG.f k l1).bind fun t655 => (ah.j0 k l0 l1 (!t655))) else (ah.j0 k l0 l1 true))
theorem ah.mono_l : ∀ k, (∀ y0 y1 y2, LeO (ah.j0 k y0 y1 y2) (ah.j0 (k + 1) y0 y1 y2)) ∧ (∀ y0 y1 y2 y3 y4, LeO (ah.l0 k y0 y1 y2 y3 y4) (ah.l0 (k + 1) y0 y1 y2 y3 y4))
 | 0 => ⟨fun _ _ _ r h => by simp [ah.j0] at h, fun _ _ _ _ _ r h => by simp [ah.l0] at h⟩
 | k + 1 => by
  obtain ⟨ih0, ih1⟩ := ah.mono_l k
  refine ⟨?_, ?_⟩ <;> (intros; (first | unfold ah.j0 | unfold ah.l0); exact o3_ ih0 ih1 aG.mono)
theorem ah.mono : ∀ a0 a1 k, LeO (ah.f k a0 a1) (ah.f (k + 1) a0 a1) := by
 intro a0 a1 k
 obtain ⟨ih0, ih1⟩ := ah.mono_l k
 unfold ah.f
 exact o3_ ih0 ih1 aG.mono
def ah.T7 : Bool × List (List Nat × List Nat) := (true, [([], []), ([], []), ([], []), ([], []), ([], []), ([3, 4], [3, 4]), ([5], [5]), ([], []), ([], []), ([7, 8], [7, 8]), ([9], [9]), ([2, 6, 10], [2, 6, 10]), ([11, 11], [11]), ([0, 1, 0, 1, 2, 3, 4, 5, 6, 7, 8, 9, 10, 11, 12], [0, 1]), ([13, 12, 12, 0, 1, 2, 3, 4, 5, 6, 7, 8, 9, 10, 11, 12], [12, 13])])
def ah.B7 : List Nat := [0, 0, 0, 0, 0, 24, 56, 0, 0, 384, 896, 2044, 4092, 8191, 16383]
theorem ah.tab7 : dW .any (eW Tryz.f62 7) = ah.T7 := by kernel_rfl
theorem ah.bits7 : cZ ah.T7.2 ah.B7 = true := by kernel_rfl
theorem ah.calls (k : Nat) (A0 : Option Addr) (c0 : Nat) (l0 : List Int) (A1 : Option Addr) (c1 : Nat) (l1 : List Int) (r : List Int) (w : World) (hr0 : Kd.C (Kd.int .i64) w A0 l0.length l0) (hc0 : l0.length ≤ c0) (hr1 : Kd.C (Kd.int .i64) w A1 l1.length l1) (hc1 : l1.length ≤ c1) (h : ah.f k l0 l1 = some r) :
  Calls Tryz.prog 62 #[.slice A0 l0.length c0, .slice A1 l1.length c1, .func (.func 63) #[] #[]] w fun e w' => ∃ j1 : Value, e = .returned (j1) ∧ Kd.R (Kd.int .i64) 3 w' w.heap.size (fun _ => True) j1 r ∧ Below w.heap.size w w' := by
 have T0 := aa.mk hr0
 have m1 := aa.mk hc0
 clear hr0 hc0
 have n1 := aa.mk hr1
 have C1 := aa.mk hc1
 clear hr1 hc1
 have HB := aa.mk (xa w.heap.size w)
 delta ah.f at h
 have H := h
 clear h
 have U0 := aa.mk H
 clear H
 go_enter Tryz.func62, Tryz.ntmps62
 go_upto_region 1 with (fail)
 go_cut [16] (fun D1 wc => ∃ (kq : Nat) (q0 : Bool), D1 = .bool q0 ∧ aa (ah.j0 kq l0 l1 q0 = some r) ∧ aa (kq ≤ k) ∧ aa (Below w.heap.size w wc))
 case first =>
  have H := U0.out
  clear U0
  obtain ⟨V0, A4, H⟩ := bN_ H
  by_cases c5 : V0 = true
  ·subst c5
   replace H := iT_ H
   obtain ⟨K0, A6, H⟩ := bN_ H
   have H' := aa.mk H
   clear H
   go_wp2_with (first | ((with_reducible refine ae (f := 64) rfl ?_); refine aq (some 10) rfl rfl Tryz.func64 (by kernel_rfl) rfl #[.slice A0 l0.length c0] rfl aM_ ?_; (with_reducible refine (aG.calls k _ _ l0 true _ ?side1 ?side2 A4.out).mono ?_); (case side1 => exact cR_ (Kd.C_below T0.out HB.out)); (case side2 => exact m1.out); rintro e w' ⟨rfl, ⟨nd, rfl⟩⟩; refine ⟨_, rfl, ?_⟩) | (go_at_call 64; (with_reducible refine (aG.calls k _ _ l1 K0 _ ?side1 ?side2 A6.out).mono ?_); (case side1 => exact cR_ (Kd.C_below n1.out (hB_))); (case side2 => exact C1.out); rintro e w' ⟨rfl, ⟨nd, rfl⟩⟩))
   go_meet
   case rel => exact ⟨_, (!K0), f0_, H', ⟨by first | omega | exact wa _⟩, ⟨hB_⟩⟩
  ·replace c5 := ya c5
   subst c5
   replace H := iF_ H
   have H' := aa.mk H
   clear H
   go_wp2_with (first | ((with_reducible refine ae (f := 64) rfl ?_); refine aq (some 10) rfl rfl Tryz.func64 (by kernel_rfl) rfl #[.slice A0 l0.length c0] rfl aM_ ?_; (with_reducible refine (aG.calls k _ _ l0 false _ ?side1 ?side2 A4.out).mono ?_); (case side1 => exact cR_ (Kd.C_below T0.out HB.out)); (case side2 => exact m1.out); rintro e w' ⟨rfl, ⟨nd, rfl⟩⟩; refine ⟨_, rfl, ?_⟩))
   go_meet
   case rel => exact ⟨_, (true), f0_, H', ⟨by first | omega | exact wa _⟩, ⟨hB_⟩⟩
 clear U0
 obtain ⟨kq, q0, rfl, HA, p1, HB⟩ := hcut
 rcases kq with _ | q1
 ·exact absurd HA.out (by simp [ah.j0])
 have H := HA.out
 clear HA
 simp only [ah.j0] at H
 by_cases c7 : q0 = true
 ·subst c7
  replace H := iT_ H
  obtain rfl := sI H
  go_wp2
  go_ret
  exact ⟨_, f1_, by first | exact Kd.R_nil _ _ _ _ _ | exact Kd.N_nil _ _ _ _ _ | exact Kd.V_nil _ _ _ _ _ | exact Kd.Q_nil _ _ _ _ _ | exact Kd.S_nil _ _ _ _ _, hB_⟩
 ·replace c7 := ya c7
  subst c7
  replace H := iF_ H
  obtain ⟨c8, H⟩ := iN_ H
  have E1 := va c8
  have F1 := ta c8
  clear c8
  obtain ⟨y0, r0⟩ : ∃ y_ : List Int, y_ = (List.replicate 256 0) := ⟨_, rfl⟩
  first | replace H := yb_ r0 H | rw [← r0] at H
  have B0 := aa.mk r0
  clear r0
  have H' := aa.mk H
  clear H
  go_wp2_with (first | ((with_reducible refine aI (N := 17) rfl ?_); refine Kd.R_make (Kd.int .i64) _ 3 rfl (N := 17) rfl 38 _ _ rfl 256 rfl rfl Tryz.underlying38 (.int .i64 0) 8 cS rfl (by decide) (by omega) 0 (ok := fun _ => True) (okp := fun _ => True) rfl (fun _ hk => hk) trivial (by omega) (by omega) (xa _ _) (wa _) ?_; intro G1 w9 u0 hb hg_ hnew_; clear hg_ hnew_; (first | rw [← B0.out] at u0 | (simp only [Int.reduceToNat] at u0; rw [← B0.out] at u0)); have n_ := b_ (Kd.R_lower u0 (ab (hB_))) <| c_ (ac (hB_) hb); clear HB; obtain ⟨C0, HB⟩ := n_; clear hb u0; obtain ⟨W0, X0, Y0⟩ := Kd.R_slice C0.out; subst Y0))
  go_loopg [20] q1 (fun kq H1 w' => ∃ (v0 : List Int) (a0 : Int), H1 = .int .i64 a0 ∧ aa (ah.l0 kq l0 l1 v0 (y0.length : Int) a0 = some r) ∧ aa (kq ≤ q1) ∧ aa (Kd.R (Kd.int .i64) 3 w' w.heap.size (fun _ => True) (.slice W0 y0.length X0) v0) ∧ aa (Below w.heap.size w w'))
  case atStart => exact ⟨(y0), (0), f0_, H', ⟨wa _⟩, ⟨rR_ C0.out⟩, ⟨hB_⟩⟩
  clear H'
  obtain ⟨v0, a0, rfl, HA, r1, p0, HB⟩ := hrel
  have e0 := (Kd.R_reads' p0.out).1
  rw [e0] at p0
  (try simp only [e0])
  rcases gk with _ | k2
  ·exact absurd HA.out (by simp [ah.l0])
  have H := HA.out
  clear HA
  simp only [ah.l0] at H
  by_cases J0 : a0 < (y0.length : Int)
  rotate_left
  ·rw [Aa J0] at H
   have x0 := ua J0
   (try simp only [e0] at x0)
   clear J0
   obtain rfl := sI H
   go_wp2
   go_ret
   exact ⟨_, f1_, rR_ p0.out, hB_⟩
  rw [za J0] at H
  have x0 := ta J0
  (try simp only [e0] at x0)
  clear J0
  obtain ⟨t1, H⟩ := iD_ H
  obtain ⟨y1, H⟩ := iN_ H
  have L0 := ta y1
  (try simp only [e0] at L0)
  clear y1
  obtain ⟨z1, H⟩ := iN_ H
  have M0 := ta z1
  (try simp only [e0] at M0)
  clear z1
  obtain ⟨D0, I1, H⟩ := bN_ H
  obtain ⟨E0, J1, H⟩ := bN_ H
  obtain ⟨B1, H⟩ := iN_ H
  have N0 := ta B1
  (try simp only [e0] at N0)
  clear B1
  obtain ⟨Z0, t0⟩ : ∃ y_ : List Int, y_ = (v0.set (a0 : Int).toNat E0) := ⟨_, rfl⟩
  first | replace H := yb_ t0 H | rw [← t0] at H
  have O0 := aa.mk t0
  clear t0
  have H' := aa.mk H
  clear H
  try go_wp2
  have n_ := b_ (Kd.R_drew p0.out) <| c_ (bX HB.out)
  clear p0 HB
  obtain ⟨p0, HB⟩ := n_
  have F0 : 0 ≤ (a0 : Int) := oD_
  have G0 : a0 < (l0.length : Int) := oD_
  obtain ⟨P0, b1, f0⟩ := Kd.at_int T0.out a0 F0 G0
  have b0 := f0
  cases b1
  replace f0 := (HB.out.cell (World.block_lt_of_cell? w _ f0)).trans f0
  replace F0 := va F0
  replace G0 := va G0
  have H0 : 0 ≤ (a0 : Int) := oD_
  have I0 : a0 < (l1.length : Int) := oD_
  obtain ⟨Q0, d1, k0⟩ := Kd.at_int n1.out a0 H0 I0
  have d0 := k0
  cases d1
  replace k0 := (HB.out.cell (World.block_lt_of_cell? w _ k0)).trans k0
  replace H0 := va H0
  replace I0 := va I0
  refine dY (n := 15) (S := fun w' => w'.cell? (P0.add (a0).toNat) = some (.int .i64 (rd l0 a0)) ∧ w'.cell? (Q0.add (a0).toNat) = some (.int .i64 (rd l1 a0))) (ds := [14]) (bb_ 15 0) (by kernel_rfl) rfl rfl ⟨((HB.out.cell (World.block_lt_of_cell? w _ b0)).trans b0), ((HB.out.cell (World.block_lt_of_cell? w _ d0)).trans d0)⟩ (fun hHeld => ?_); refine cM ah.tab7 ah.bits7 (fun HT_ HW_ => ?_)
  generalize wr.drew = L1 at p0 HB f0 k0 hHeld ⊢
  refine pS_ 0 23 (bb_ 15 1) HT_.out ?_
  refine pS_ 1 24 (bb_ 15 3) HT_.out ?_
  refine pS_ 2 25 (bb_ 15 7) HT_.out ?_
  refine pS_ 3 26 (bb_ 15 15) HT_.out ?_
  refine pS_ 4 27 (bb_ 15 31) HT_.out ?_
  refine pS_ 5 28 (bb_ 15 63) HT_.out ?_
  refine pS_ 7 30 (bb_ 15 191) HT_.out ?_
  refine pS_ 8 31 (bb_ 15 447) HT_.out ?_
  refine pS_ 9 32 (bb_ 15 959) HT_.out ?_
  refine tS_ 6 29 (bb_ 15 1023) (bA HT_.out HW_.out (by kernel_rfl)) hHeld ?_
  refine tS_ 10 33 (bb_ 15 2047) (bA HT_.out HW_.out (by kernel_rfl)) hHeld ?_
  refine fC (i := 11) (N := some 34) (bb_ 15 4095) rfl rfl (cC HT_.out (by kernel_rfl)) (by decide) (fun K hK => ?_)
  refine Go.Proofs.YtielligodgabiaaGreatDoor.Kit.goesW_ (.tmp 25) Tryz.func63 (by kernel_rfl) rfl #[.int .i64 (rd l0 a0), .int .i64 (rd l1 a0)] (by rfl) rfl rfl aM_ (by first | rfl | (simp; done)) ?_
  with_reducible refine (dH.calls (rd l0 a0) (rd l1 a0) D0 _ I1.out).mono ?_
  rintro e w' ⟨rfl, ⟨nd, rfl⟩⟩
  refine ⟨_, rfl, ?_⟩
  refine hK.out _ _ ⟨((HB.out.cell (World.block_lt_of_cell? w _ b0)).trans b0), ((HB.out.cell (World.block_lt_of_cell? w _ d0)).trans d0)⟩ (fun hHeld => ?_)
  clear hK K
  refine dV (a' := ?_) ?_ ?_
  rotate_left
  ·show Act.put _ (some 34) _ = _
   simp only [Act.put, List.setIfInBounds_toArray, List.set_cons_zero, List.set_cons_succ, bB, cJ]
   rfl
  refine fC (i := 12) (N := some 35) (bb_ 15 8191) rfl rfl (cC HT_.out (by kernel_rfl)) (by decide) (fun K hK => ?_)
  refine fj Tryz.func68 (by kernel_rfl) rfl #[.int .i64 D0] (by rfl) rfl rfl aM_ ?_
  with_reducible refine (bS.calls D0 E0 _ J1.out).mono ?_
  rintro e w' ⟨rfl, ⟨nd, rfl⟩⟩
  refine ⟨_, rfl, ?_⟩
  have e1 : 0 ≤ (a0 : Int) := oD_
  have f1 : (a0 : Int) < ((v0.length : Int) : Int) := oD_
  obtain ⟨go19, K1, R0, S0, gl19, cl19, HG19⟩ := Kd.R_form p0.out (by omega)
  (first | cases R0 | (injection R0 with ea_ en_ ec_; (first | subst ea_ | (injection ea_ with ea_; subst ea_)); subst ec_; clear en_))
  have g1 := aa.mk S0
  have GG19 := aa.mk HG19
  clear S0 gl19 HG19
  obtain ⟨i1, hf19_0⟩ := Kd.R_celln 0 p0.out (a0 : Int) e1 f1
  replace e1 := va e1
  replace f1 := va f1
  have HP21 := Kd.R_putn p0.out (a0 : Int) E0
  rw [← O0.out] at HP21
  have HQ21 := aa.mk HP21
  clear HP21
  refine hK.out _ _ ⟨((HB.out.cell (World.block_lt_of_cell? w _ b0)).trans b0), ((HB.out.cell (World.block_lt_of_cell? w _ d0)).trans d0)⟩ (fun hHeld => ?_)
  clear hK K
  refine dV (a' := ?_) ?_ ?_
  rotate_left
  ·show Act.put _ (some 35) _ = _
   simp only [Act.put, List.setIfInBounds_toArray, List.set_cons_zero, List.set_cons_succ, bB, cJ]
   rfl
  refine pS_ 13 36 (bb_ 15 16383) HT_.out ?_
  refine gv (i := 14) (N := none) (bb_ 15 32767) rfl rfl (cC HT_.out (by kernel_rfl)) (by decide) (fun K hK => ?_)
  refine iB (w1 := ?_) (by rfl) rfl ?_ ?_
  rotate_left
  ·go_simp
   rfl
  refine hK.out _ _ ?_
  clear hK K
  refine eT (dn HT_.out (by kernel_rfl)) ?_
  try go_wp2
  (try simp only [← e0])
  go_roundg k2
  case measure => have := p1.out; have := r1.out; omega
  case rel => exact ⟨(Z0), (wrap64 (a0 + 1)), f0_, H', ⟨by have := p1.out; have := r1.out; omega⟩, ⟨by (try simp only [e0]); refine kR_ ?_; exact HQ21.out⟩, ⟨hS_ g1.out⟩⟩

/-! ### bF: function 31 -/
def bF.f (k : Nat) (l0 : List Int) (l1 : List Int) : Option (List Int) := (ah.f k l0 l1).bind fun t664 => (some t664)
theorem bF.mono : ∀ a0 a1 k, LeO (bF.f k a0 a1) (bF.f (k + 1) a0 a1) := by
 intro a0 a1 k
 unfold bF.f
 exact o1_ ah.mono
theorem bF.calls (k : Nat) (A0 : Option Addr) (c0 : Nat) (l0 : List Int) (A1 : Option Addr) (c1 : Nat) (l1 : List Int) (r : List Int) (w : World) (hr0 : Kd.C (Kd.int .i64) w A0 l0.length l0) (hc0 : l0.length ≤ c0) (hr1 : Kd.C (Kd.int .i64) w A1 l1.length l1) (hc1 : l1.length ≤ c1) (h : bF.f k l0 l1 = some r) :
  Calls Tryz.prog 31 #[.slice A0 l0.length c0, .slice A1 l1.length c1] w fun e w' => ∃ d0 : Value, e = .returned (d0) ∧ Kd.R (Kd.int .i64) 3 w' w.heap.size (fun _ => True) d0 r ∧ Below w.heap.size w w' := by
 have f0 := aa.mk hr0
 have j0 := aa.mk hc0
 clear hr0 hc0
 have k0 := aa.mk hr1
 have p0 := aa.mk hc1
 clear hr1 hc1
 have HB := aa.mk (xa w.heap.size w)
 delta bF.f at h
 have H := h
 clear h
 obtain ⟨b0, A3, H⟩ := bN_ H
 obtain rfl := sI H
 go_enter Tryz.func31, Tryz.ntmps31
 go_wp2_with (first | ((with_reducible refine ae (f := 62) rfl ?_); refine aq (some 7) rfl rfl Tryz.func62 (by kernel_rfl) rfl #[.slice A0 l0.length c0, .slice A1 l1.length c1, .func (.func 63) #[] #[]] rfl aM_ ?_; (with_reducible refine (ah.calls k _ _ l0 _ _ l1 b0 _ ?side1 ?side2 ?side3 ?side4 A3.out).mono ?_); (case side1 => exact cR_ f0.out); (case side2 => exact j0.out); (case side3 => exact cR_ k0.out); (case side4 => exact p0.out); rintro e w4 ⟨q0, rfl, e0, hb⟩; refine ⟨_, rfl, ?_⟩; have n_ := b_ (Kd.R_lower e0 (ab (hB_))) <| c_ (ac (hB_) hb); clear HB; obtain ⟨a0, HB⟩ := n_; (try clear e0)))
 go_ret
 exact ⟨_, f1_, rR_ a0.out, hB_⟩

/-! ### ai: function 32 -/
theorem ai.cell_setCell_drewN (w : World) (n : Nat) (a b : Addr) (v : Value) : ((w.drewN n).setCell a v).cell? b = (w.setCell a v).cell? b := rfl
theorem ai.frozen_setCell (w : World) (a b : Addr) (v : Value) : (w.setCell a v).frozen? b = w.frozen? b := World.frozen?_setCell w a b v
attribute [local go_sem] ai.cell_setCell_drewN
mutual
def ai.l0 : Nat → List Int → Int → Int → Option (List Int)
 | 0, _, _, _ => none
 | k + 1, x3, x4, x5 => if x5 ≤ 128 then (ai.l1 k x3 x4 x5 0) else (ai.l3 k x3 (x3.length : Int) 0)
def ai.l1 : Nat → List Int → Int → Int → Int → Option (List Int)
 | 0, _, _, _, _ => none
 | k + 1, x3, x4, x5, x6 => if x6 < 256 then ((bp.f k x4).bind fun t671 => ((bs.f k 17 t671).bind fun t672 => (ai.l2 k x3 (wrap64 (x4 - 1)) x5 x6 t672 x6))) else (ai.l0 k x3 x4 (wrap64 (x5 * 2)))
def ai.l2 : Nat → List Int → Int → Int → Int → Int → Int → Option (List Int)
 | 0, _, _, _, _, _, _ => none
 | k + 1, x3, x4, x5, x6, x7, x8 => if x8 < (wrap64 (x6 + x5)) then (if 0 ≤ x8 then (if x8 < (x3.length : Int) then (if 0 ≤ (wrap64 (x8 + x5)) then (if (wrap64 (x8 + x5)) < (x3.length : Int) then ((bS.f (wrap64 ((rd x3 x8) + (rd x3 (wrap64 (x8 + x5)))))).bind fun t675 => ((bS.f (wrap64 (x7 * (wrap64 ((rd x3 (wrap64 (x8 + x5))) - (rd x3 x8)))))).bind fun t677 => (ai.l2 k ((x3.set (x8 : Int).toNat t675).set ((wrap64 (x8 + x5)) : Int).toNat t677) x4 x5 x6 x7 (wrap64 (x8 + 1))))) else (none)) else (none)) else (none)) else (none)) else (ai.l1 k x3 x4 x5 (wrap64 (x6 + (wrap64 (2 * x5)))))
def ai.l3 : Nat → List Int → Int → Int → Option (List Int)
 | 0, _, _, _ => none
 | k + 1, x3, x72, x73 => if x73 < x72 then (if 0 ≤ x73 then (if x73 < (x3.length : Int) then ((bS.f (wrap64 ((rd x3 x73) * 3303))).bind fun t681 => (ai.l3 k (x3.set (x73 : Int).toNat t681) x72 (wrap64 (x73 + 1)))) else (none)) else (none)) else (some x3)
end
def ai.f (k : Nat) (l0 : List Int) : Option (List Int) := (aG.f k l0).bind fun t667 => (if t667 = true then ((db.f l0).bind fun t668 => (ai.l0 k t668 127 2)) else (some ([] : List Int)))
theorem ai.mono_l : ∀ k, (∀ y0 y1 y2, LeO (ai.l0 k y0 y1 y2) (ai.l0 (k + 1) y0 y1 y2)) ∧ (∀ y0 y1 y2 y3, LeO (ai.l1 k y0 y1 y2 y3) (ai.l1 (k + 1) y0 y1 y2 y3)) ∧ (∀ y0 y1 y2 y3 y4 y5, LeO (ai.l2 k y0 y1 y2 y3 y4 y5) (ai.l2 (k + 1) y0 y1 y2 y3 y4 y5)) ∧ (∀ y0 y1 y2, LeO (ai.l3 k y0 y1 y2) (ai.l3 (k + 1) y0 y1 y2))
 | 0 => ⟨fun _ _ _ r h => by simp [ai.l0] at h, fun _ _ _ _ r h => by simp [ai.l1] at h, fun _ _ _ _ _ _ r h => by simp [ai.l2] at h, fun _ _ _ r h => by simp [ai.l3] at h⟩
 | k + 1 => by
  obtain ⟨ih0, ih1, ih2, ih3⟩ := ai.mono_l k
  refine ⟨?_, ?_, ?_, ?_⟩ <;> (intros; (first | unfold ai.l0 | unfold ai.l1 | unfold ai.l2 | unfold ai.l3); exact o7_ ih0 ih1 ih2 ih3 aG.mono bs.mono bp.mono)
theorem ai.mono : ∀ a0 k, LeO (ai.f k a0) (ai.f (k + 1) a0) := by
 intro a0 k
 obtain ⟨ih0, ih1, ih2, ih3⟩ := ai.mono_l k
 unfold ai.f
 exact o7_ ih0 ih1 ih2 ih3 aG.mono bs.mono bp.mono
def ai.T17 : Bool × List (List Nat × List Nat) := (true, [([], []), ([], []), ([], []), ([], []), ([], []), ([3, 4], [3, 4]), ([], []), ([], []), ([], []), ([], []), ([8, 9], [8, 9]), ([7, 10], [7, 10]), ([11], [11]), ([6, 12], [6, 12]), ([13], [13]), ([], []), ([], []), ([], []), ([], []), ([17, 18], [17, 18]), ([16, 19], [16, 19]), ([20], [20]), ([], []), ([21, 22], [21, 22]), ([15, 23], [15, 23]), ([24, 14], [24]), ([0, 1, 0, 1, 6, 7, 8, 9, 10, 11, 12, 13, 14, 21, 25], [0, 1]), ([26, 14, 25, 0, 1, 6, 7, 8, 9, 10, 11, 12, 13, 14, 21, 25], [14, 26]), ([2, 5, 0, 1, 2, 3, 4, 5, 6, 7, 8, 9, 10, 11, 12, 13, 14, 15, 16, 17, 18, 19, 20, 21, 22, 23, 24, 25, 26, 27], [2, 5]), ([28, 25, 27, 0, 1, 2, 3, 4, 5, 6, 7, 8, 9, 10, 11, 12, 13, 14, 15, 16, 17, 18, 19, 20, 21, 22, 23, 24, 25, 26, 27], [25, 28])])
def ai.B17 : List Nat := [0, 0, 0, 0, 0, 24, 0, 0, 0, 0, 768, 1920, 3968, 8128, 16320, 0, 0, 0, 0, 393216, 983040, 2031616, 0, 8323072, 16744448, 33554368, 67108803, 134217667, 268435455, 536870911]
theorem ai.tab17 : dW .any (eW Tryz.f32 17) = ai.T17 := by kernel_rfl
theorem ai.bits17 : cZ ai.T17.2 ai.B17 = true := by kernel_rfl
theorem ai.calls (k : Nat) (A0 : Option Addr) (c0 : Nat) (l0 : List Int) (r : List Int) (w : World) (hr0 : Kd.C (Kd.int .i64) w A0 l0.length l0) (hc0 : l0.length ≤ c0) (h : ai.f k l0 = some r) :
  Calls Tryz.prog 32 #[.slice A0 l0.length c0] w fun e w' => ∃ f2 : Value, e = .returned (f2) ∧ Kd.R (Kd.int .i64) 3 w' w.heap.size (fun _ => True) f2 r ∧ Below w.heap.size w w' := by
 have C1 := aa.mk hr0
 have D1 := aa.mk hc0
 clear hr0 hc0
 have HB := aa.mk (xa w.heap.size w)
 delta ai.f at h
 have H := h
 clear h
 obtain ⟨E1, A2, H⟩ := bN_ H
 by_cases c3 : E1 = true
 ·subst c3
  replace H := iT_ H
  obtain ⟨c1, A4, H⟩ := bN_ H
  have H' := aa.mk H
  clear H
  go_enter Tryz.func32, Tryz.ntmps32
  go_wp2_with (first | ((with_reducible refine ae (f := 64) rfl ?_); refine aq (some 12) rfl rfl Tryz.func64 (by kernel_rfl) rfl #[.slice A0 l0.length c0] rfl aM_ ?_; (with_reducible refine (aG.calls k _ _ l0 true _ ?side1 ?side2 A2.out).mono ?_); (case side1 => exact cR_ C1.out); (case side2 => exact D1.out); rintro e w' ⟨rfl, ⟨nd, rfl⟩⟩; refine ⟨_, rfl, ?_⟩) | ((with_reducible refine ae (f := 65) rfl ?_); refine aq (some 15) rfl rfl Tryz.func65 (by kernel_rfl) rfl #[.slice A0 l0.length c0] rfl aM_ ?_; (with_reducible refine (db.calls _ _ l0 c1 _ ?side1 ?side2 A4.out).mono ?_); (case side1 => exact cR_ C1.out); (case side2 => exact D1.out); rintro e w5 ⟨M0, rfl, g2, hb⟩; refine ⟨_, rfl, ?_⟩; have n_ := b_ (Kd.R_lower g2 (ab (hB_))) <| c_ (ac (hB_) hb); clear HB; obtain ⟨d1, HB⟩ := n_; (try clear g2)))
  go_loopg [4, 5] k (fun kq v4 v5 w' => ∃ (t0 : List Int) (F0 : Int) (k0 : Int), v4 = .int .i64 F0 ∧ v5 = .int .i64 k0 ∧ aa (ai.l0 kq t0 F0 k0 = some r) ∧ aa (kq ≤ k) ∧ aa (Kd.R (Kd.int .i64) 3 w' w.heap.size (fun _ => True) M0 t0) ∧ aa (Below w.heap.size w w'))
  case atStart => exact ⟨(c1), (127), (2), f0_, f0_, H', ⟨wa _⟩, ⟨rR_ d1.out⟩, ⟨hB_⟩⟩
  clear H'
  obtain ⟨t0, F0, k0, rfl, rfl, HA, L0, a0, HB⟩ := hrel
  rcases gk with _ | k1
  ·exact absurd HA.out (by simp [ai.l0])
  have H := HA.out
  clear HA
  simp only [ai.l0] at H
  by_cases c6 : k0 ≤ 128
  rotate_left
  ·rw [Aa c6] at H
   have F1 := ua c6
   clear c6
   have H' := aa.mk H
   clear H
   obtain ⟨G1, N0, H1⟩ := Kd.R_slice a0.out
   subst H1
   go_wp2
   go_loopg [73] k1 (fun kq t2 w' => ∃ (j0 : List Int) (b0 : Int), t2 = .int .i64 b0 ∧ aa (ai.l3 kq j0 (t0.length : Int) b0 = some r) ∧ aa (kq ≤ k1) ∧ aa (Kd.R (Kd.int .i64) 3 w' w.heap.size (fun _ => True) (.slice G1 t0.length N0) j0) ∧ aa (Below w.heap.size w w'))
   case atStart => exact ⟨(t0), (0), f0_, H', ⟨wa _⟩, ⟨rR_ a0.out⟩, ⟨hB_⟩⟩
   clear H'
   obtain ⟨j0, b0, rfl, HA, G0, a0, HB⟩ := hrel
   have p0 := (Kd.R_reads' a0.out).1
   rw [p0] at a0
   (try simp only [p0])
   rcases gk with _ | k2
   ·exact absurd HA.out (by simp [ai.l3])
   have H := HA.out
   clear HA
   simp only [ai.l3] at H
   by_cases Z0 : b0 < (t0.length : Int)
   rotate_left
   ·rw [Aa Z0] at H
    have E0 := ua Z0
    (try simp only [p0] at E0)
    clear Z0
    obtain rfl := sI H
    go_wp2
    go_ret
    exact ⟨_, f1_, rR_ a0.out, hB_⟩
   rw [za Z0] at H
   have E0 := ta Z0
   (try simp only [p0] at E0)
   clear Z0
   obtain ⟨i2, H⟩ := iD_ H
   obtain ⟨j2, H⟩ := iN_ H
   have e1 := ta j2
   (try simp only [p0] at e1)
   clear j2
   obtain ⟨H0, u2, H⟩ := bN_ H
   obtain ⟨f1, y0⟩ : ∃ y_ : List Int, y_ = (j0.set (b0 : Int).toNat H0) := ⟨_, rfl⟩
   first | replace H := yb_ y0 H | rw [← y0] at H
   have g1 := aa.mk y0
   clear y0
   have H' := aa.mk H
   clear H
   have O0 : 0 ≤ (b0 : Int) := oD_
   have P0 : b0 < (j0.length : Int) := oD_
   obtain ⟨i1, I1, I0⟩ := Kd.at_int (Kd.R_reads' a0.out).2.2 b0 O0 P0
   cases I1
   replace O0 := va O0
   replace P0 := va P0
   go_wp2_with (first | ((with_reducible refine ae (f := 68) rfl ?_); refine aq (some 83) rfl rfl Tryz.func68 (by kernel_rfl) rfl #[.int .i64 (wrap64 ((rd j0 b0) * 3303))] rfl aM_ ?_; (with_reducible refine (bS.calls (wrap64 ((rd j0 b0) * 3303)) H0 _ u2.out).mono ?_); rintro e w' ⟨rfl, ⟨nd, rfl⟩⟩; refine ⟨_, rfl, ?_⟩; (try (rw [cU wr]; generalize hq_ : World.drewN wr _ = wr; have n_ := b_ (show Kd.R (Kd.int .i64) 3 wr w.heap.size (fun _ => True) (.slice (some i1) j0.length N0) j0 from by rw [← hq_]; exact (rR_ a0.out)) <| c_ (show Below w.heap.size w wr from by rw [← hq_]; exact (hB_)); clear a0 HB hq_; obtain ⟨a0, HB⟩ := n_)); have J1 : 0 ≤ (b0 : Int) := oD_; have K1 : (b0 : Int) < ((j0.length : Int) : Int) := oD_; obtain ⟨go29, v2, j1, m1, gl29, cl29, HG29⟩ := Kd.R_form a0.out (by omega); (first | cases j1 | (injection j1 with ea_ en_ ec_; (first | subst ea_ | (injection ea_ with ea_; subst ea_)); subst ec_; clear en_)); have L1 := aa.mk m1; have GG29 := aa.mk HG29; clear m1 gl29 HG29; (first | simp only [bU] at I0 | skip); obtain ⟨M1, hf29_0⟩ := Kd.R_celln 0 a0.out (b0 : Int) J1 K1; replace J1 := va J1; replace K1 := va K1; obtain ⟨m2, hz30_⟩ := Kd.R_celln 0 a0.out (b0 : Int) oD_ oD_; have HP30 := Kd.R_putg a0.out (b0 : Int) H0) | ((with_reducible refine cm (t := 3) (p := 84) rfl ?_); refine b9 (t := 3) (p := 84) (v := ?vo_w31) (w1 := (wr.setCell ⟨go29, (b0 : Int).toNat, none⟩ (.int .i64 H0))) ?hg ?ho ?hn ?hr ?_; (case ho => rfl); (case hg => rfl); (case hn => rfl); (case hr => first | (go_simp; done) | (go_simp; rfl)); intro N1 hw; have hg : wr.grownBy N1 (some go29) := (by rw [hw]; exact HP30.2); have hp_ : Kd.R (Kd.int .i64) 3 N1 w.heap.size (fun _ => True) (.slice (some ⟨go29, 0, none⟩) j0.length N0) f1 := (by rw [hw, g1.out]; exact HP30.1); clear HP30; have n_ := b_ (hp_) <| c_ (by rw [hw]; exact co (HB.out) L1.out : Below w.heap.size w N1); clear a0 HB; obtain ⟨a0, HB⟩ := n_; clear hg hw hp_))
   (try simp only [← p0])
   go_roundg k2
   case measure => have := L0.out; have := G0.out; omega
   case rel => exact ⟨(f1), (wrap64 (b0 + 1)), f0_, H', ⟨by have := L0.out; have := G0.out; omega⟩, ⟨by (try simp only [p0]); refine kR_ ?_; exact a0.out⟩, ⟨hB_⟩⟩
  rw [za c6] at H
  have F1 := ta c6
  clear c6
  have H' := aa.mk H
  clear H
  go_wp2
  go_loopg [4, 6] k1 (fun kq v4 v6 w' => ∃ (j0 : List Int) (u0 : Int) (v0 : Int), v4 = .int .i64 u0 ∧ v6 = .int .i64 v0 ∧ aa (ai.l1 kq j0 u0 k0 v0 = some r) ∧ aa (kq ≤ k1) ∧ aa (Kd.R (Kd.int .i64) 3 w' w.heap.size (fun _ => True) M0 j0) ∧ aa (Below w.heap.size w w'))
  case atStart => exact ⟨(t0), (F0), (0), f0_, f0_, H', ⟨wa _⟩, ⟨rR_ a0.out⟩, ⟨hB_⟩⟩
  clear H'
  obtain ⟨j0, u0, v0, rfl, rfl, HA, G0, a0, HB⟩ := hrel
  rcases gk with _ | k2
  ·exact absurd HA.out (by simp [ai.l1])
  have H := HA.out
  clear HA
  simp only [ai.l1] at H
  by_cases c7 : v0 < 256
  rotate_left
  ·rw [Aa c7] at H
   have O1 := ua c7
   clear c7
   have H' := aa.mk H
   clear H
   go_wp2
   go_roundg k2
   case measure => have := L0.out; have := G0.out; omega
   case rel => exact ⟨(j0), (u0), (wrap64 (k0 * 2)), f0_, f0_, H', ⟨by have := L0.out; have := G0.out; omega⟩, ⟨rR_ a0.out⟩, ⟨hB_⟩⟩
  rw [za c7] at H
  have O1 := ta c7
  clear c7
  obtain ⟨Q0, A8, H⟩ := bN_ H
  obtain ⟨J0, A9, H⟩ := bN_ H
  have H' := aa.mk H
  clear H
  go_wp2_with (first | ((with_reducible refine ae (f := 67) rfl ?_); refine aq (some 27) rfl rfl Tryz.func67 (by kernel_rfl) rfl #[.int .i64 u0] rfl aM_ ?_; (with_reducible refine (bp.calls k2 u0 Q0 _ A8.out).mono ?_); rintro e w' ⟨rfl, ⟨nd, rfl⟩⟩; refine ⟨_, rfl, ?_⟩) | ((with_reducible refine ae (f := 66) rfl ?_); refine aq (some 28) rfl rfl Tryz.func66 (by kernel_rfl) rfl #[.int .i64 17, .int .i64 Q0] rfl aM_ ?_; (with_reducible refine (bs.calls k2 17 Q0 J0 _ A9.out).mono ?_); rintro e w' ⟨rfl, ⟨nd, rfl⟩⟩; refine ⟨_, rfl, ?_⟩))
  go_loopg [8] k2 (fun kq v8 w' => ∃ (d0 : List Int) (f0 : Int), v8 = .int .i64 f0 ∧ aa (ai.l2 kq d0 (wrap64 (u0 - 1)) k0 v0 J0 f0 = some r) ∧ aa (kq ≤ k2) ∧ aa (Kd.R (Kd.int .i64) 3 w' w.heap.size (fun _ => True) M0 d0) ∧ aa (Below w.heap.size w w'))
  case atStart => exact ⟨(j0), (v0), f0_, H', ⟨wa _⟩, ⟨rR_ a0.out⟩, ⟨hB_⟩⟩
  clear H'
  obtain ⟨d0, f0, rfl, HA, B1, a0, HB⟩ := hrel
  rcases gk with _ | k3
  ·exact absurd HA.out (by simp [ai.l2])
  have H := HA.out
  clear HA
  simp only [ai.l2] at H
  by_cases b1 : f0 < (wrap64 (v0 + k0))
  rotate_left
  ·rw [Aa b1] at H
   have n1 := ua b1
   clear b1
   have H' := aa.mk H
   clear H
   go_wp2
   go_roundg k3
   case measure => have := L0.out; have := G0.out; have := B1.out; omega
   case rel => exact ⟨(d0), ((wrap64 (u0 - 1))), (wrap64 (v0 + (wrap64 (2 * k0)))), f0_, f0_, H', ⟨by have := L0.out; have := G0.out; have := B1.out; omega⟩, ⟨rR_ a0.out⟩, ⟨hB_⟩⟩
  rw [za b1] at H
  have n1 := ta b1
  clear b1
  obtain ⟨n2, H⟩ := iD_ H
  obtain ⟨p2, H⟩ := iD_ H
  obtain ⟨e0, x0⟩ : ∃ j_ : Int, (wrap64 (f0 + k0)) = j_ := ⟨_, rfl⟩
  first | rw [x0] at H | simp only [x0] at H
  have P1 : (IntKind.i64.wrap (f0 + k0)) = e0 := (bB _).trans x0
  obtain ⟨q2, H⟩ := iD_ H
  obtain ⟨r2, H⟩ := iD_ H
  obtain ⟨R0, y2, H⟩ := bN_ H
  obtain ⟨S0, z2, H⟩ := bN_ H
  obtain ⟨Q1, B0⟩ : ∃ y_ : List Int, y_ = (d0.set (f0 : Int).toNat R0) := ⟨_, rfl⟩
  first | replace H := yb_ B0 H | rw [← B0] at H
  have p1 := aa.mk B0
  clear B0
  obtain ⟨R1, C0⟩ : ∃ y_ : List Int, y_ = (Q1.set ((e0) : Int).toNat S0) := ⟨_, rfl⟩
  first | replace H := yb_ C0 H | rw [← C0] at H
  have q1 := aa.mk C0
  clear C0
  have H' := aa.mk H
  clear H
  obtain ⟨B2, C2, S1⟩ := Kd.R_slice a0.out
  subst S1
  have T0 : 0 ≤ (f0 : Int) := oD_
  have U0 : f0 < (d0.length : Int) := oD_
  obtain ⟨D0, T1, K0⟩ := Kd.at_int (Kd.R_reads' a0.out).2.2 f0 T0 U0
  cases T1
  replace T0 := va T0
  replace U0 := va U0
  try go_wp2
  have n_ := b_ (Kd.R_drew a0.out) <| c_ (bX HB.out)
  clear a0 HB
  obtain ⟨a0, HB⟩ := n_
  have V0 : 0 ≤ ((e0) : Int) := oD_
  have W0 : (e0) < (d0.length : Int) := oD_
  obtain ⟨r1, U1, q0⟩ := Kd.at_int (Kd.R_reads' a0.out).2.2 (e0) V0 W0
  obtain rfl : D0 = r1 := (by injection U1)
  replace V0 := va V0
  replace W0 := va W0
  have X0 : 0 ≤ ((e0) : Int) := oD_
  have Y0 : (e0) < (d0.length : Int) := oD_
  obtain ⟨t1, V1, r0⟩ := Kd.at_int (Kd.R_reads' a0.out).2.2 (e0) X0 Y0
  obtain rfl : D0 = t1 := (by injection V1)
  replace X0 := va X0
  replace Y0 := va Y0
  refine dY (n := 30) (S := fun w' => w'.cell? (D0.add ((e0)).toNat) = some (.int .i64 (rd d0 (e0))) ∧ w'.cell? (D0.add ((e0)).toNat) = some (.int .i64 (rd d0 (e0)))) (ds := [27, 29]) (bb_ 30 0) (by kernel_rfl) rfl rfl ⟨q0, r0⟩ (fun hHeld => ?_); refine cM ai.tab17 ai.bits17 (fun HT_ HW_ => ?_)
  generalize wr.drew = E2 at a0 HB q0 r0 hHeld ⊢
  refine pS_ 0 43 (bb_ 30 1) HT_.out ?_
  refine pS_ 1 44 (bb_ 30 3) HT_.out ?_
  refine pS_ 2 45 (bb_ 30 7) HT_.out ?_
  refine pS_ 3 46 (bb_ 30 15) HT_.out ?_
  refine pS_ 4 47 (bb_ 30 31) HT_.out ?_
  refine pS_ 5 48 (bb_ 30 63) HT_.out ?_
  refine pS_ 6 49 (bb_ 30 127) HT_.out ?_
  refine pS_ 7 50 (bb_ 30 255) HT_.out ?_
  refine pS_ 8 51 (bb_ 30 511) HT_.out ?_
  refine pS_ 9 52 (bb_ 30 1023) HT_.out ?_
  refine pS_ 10 53 (bb_ 30 2047) HT_.out ?_
  refine pS_ 11 54 (bb_ 30 4095) HT_.out ?_
  refine pS_ 15 58 (bb_ 30 36863) HT_.out ?_
  refine pS_ 16 59 (bb_ 30 102399) HT_.out ?_
  refine pS_ 17 60 (bb_ 30 233471) HT_.out ?_
  refine pS_ 18 61 (bb_ 30 495615) HT_.out ?_
  refine pS_ 19 62 (bb_ 30 1019903) HT_.out ?_
  refine pS_ 20 63 (bb_ 30 2068479) HT_.out ?_
  refine pS_ 22 65 (bb_ 30 6262783) HT_.out ?_
  refine tS_ 12 55 (bb_ 30 6266879) (bA HT_.out HW_.out (by kernel_rfl)) hHeld ?_
  refine pS_ 13 56 (bb_ 30 6275071) HT_.out ?_
  refine tS_ 21 64 (bb_ 30 8372223) (bA HT_.out HW_.out (by kernel_rfl)) hHeld ?_
  refine pS_ 23 66 (bb_ 30 16760831) HT_.out ?_
  refine pS_ 24 67 (bb_ 30 33538047) HT_.out ?_
  refine fC (i := 14) (N := some 57) (bb_ 30 33554431) rfl rfl (cC HT_.out (by kernel_rfl)) (by decide) (fun K hK => ?_)
  refine fj Tryz.func68 (by kernel_rfl) rfl #[.int .i64 (wrap64 ((rd d0 f0) + (rd d0 (e0))))] (by rfl) rfl rfl (by (try simp only [List.map_toArray, List.map_cons, List.map_nil]); first | done | (simp only [x0]; rfl) | rfl | (simp only [List.length_drop, List.length_take]; rfl)) ?_
  with_reducible refine (bS.calls (wrap64 ((rd d0 f0) + (rd d0 (e0)))) R0 _ y2.out).mono ?_
  rintro e w' ⟨rfl, ⟨nd, rfl⟩⟩
  refine ⟨_, rfl, ?_⟩
  refine hK.out _ _ ⟨hHeld.1, hHeld.2⟩ (fun hHeld => ?_)
  clear hK K
  refine dV (a' := ?_) ?_ ?_
  rotate_left
  ·show Act.put _ (some 57) _ = _
   simp only [Act.put, List.setIfInBounds_toArray, List.set_cons_zero, List.set_cons_succ, bB, cJ]
   rfl
  refine fC (i := 25) (N := some 68) (bb_ 30 67108863) rfl rfl (cC HT_.out (by kernel_rfl)) (by decide) (fun K hK => ?_)
  refine fj Tryz.func68 (by kernel_rfl) rfl #[.int .i64 (wrap64 (J0 * (wrap64 ((rd d0 (e0)) - (rd d0 f0)))))] (by rfl) rfl rfl (by (try simp only [List.map_toArray, List.map_cons, List.map_nil]); first | done | (simp only [x0]; rfl) | rfl | (simp only [List.length_drop, List.length_take]; rfl)) ?_
  with_reducible refine (bS.calls (wrap64 (J0 * (wrap64 ((rd d0 (e0)) - (rd d0 f0))))) S0 _ z2.out).mono ?_
  rintro e w' ⟨rfl, ⟨nd, rfl⟩⟩
  refine ⟨_, rfl, ?_⟩
  have X1 : 0 ≤ (f0 : Int) := oD_
  have Y1 : (f0 : Int) < ((d0.length : Int) : Int) := oD_
  obtain ⟨go18, D2, y1, z1, gl18, cl18, HG18⟩ := Kd.R_form a0.out (by omega)
  (first | cases y1 | (injection y1 with ea_ en_ ec_; (first | subst ea_ | (injection ea_ with ea_; subst ea_)); subst ec_; clear en_))
  have A1 := aa.mk z1
  have GG18 := aa.mk HG18
  clear z1 gl18 HG18
  (first | simp only [bU] at K0 | skip)
  (first | simp only [bU] at q0 | skip)
  (first | simp only [bU] at r0 | skip)
  obtain ⟨Z1, hf18_0⟩ := Kd.R_celln 0 a0.out (f0 : Int) X1 Y1
  replace X1 := va X1
  replace Y1 := va Y1
  have HP22 := Kd.R_putn a0.out (f0 : Int) R0
  rw [← p1.out] at HP22
  have HQ22 := aa.mk HP22
  clear HP22
  have b2 : 0 ≤ ((e0) : Int) := oD_
  have c2 : ((e0) : Int) < ((d0.length : Int) : Int) := oD_
  obtain ⟨e2, hf19_0⟩ := Kd.R_celln 0 HQ22.out ((e0) : Int) b2 c2
  (first | simp only [ai.frozen_setCell] at hf19_0 | skip)
  replace b2 := va b2
  replace c2 := va c2
  have HP23 := Kd.R_putn HQ22.out ((e0) : Int) S0
  rw [← q1.out] at HP23
  have HQ23 := aa.mk HP23
  clear HP23
  refine hK.out _ _ ⟨hHeld.1, hHeld.2⟩ (fun hHeld => ?_)
  clear hK K
  refine dV (a' := ?_) ?_ ?_
  rotate_left
  ·show Act.put _ (some 68) _ = _
   simp only [Act.put, List.setIfInBounds_toArray, List.set_cons_zero, List.set_cons_succ, bB, cJ]
   rfl
  refine pS_ 26 69 (bb_ 30 134217727) HT_.out ?_
  refine gv (i := 27) (N := none) (bb_ 30 268435455) rfl rfl (cC HT_.out (by kernel_rfl)) (by decide) (fun K hK => ?_)
  refine iB (w1 := ?_) (by rfl) rfl ?_ ?_
  rotate_left
  ·go_simp
   rfl
  refine hK.out _ _ ?_
  clear hK K
  refine pS_ 28 70 (bb_ 30 536870911) HT_.out ?_
  refine gv (i := 29) (N := none) (bb_ 30 1073741823) rfl rfl (cC HT_.out (by kernel_rfl)) (by decide) (fun K hK => ?_)
  refine iB (w1 := ?_) (by rfl) rfl ?_ ?_
  rotate_left
  ·go_simp
   rfl
  refine hK.out _ _ ?_
  clear hK K
  refine eT (dn HT_.out (by kernel_rfl)) ?_
  try go_wp2
  go_roundg k3
  case measure => have := L0.out; have := G0.out; have := B1.out; omega
  case rel => exact ⟨(R1), (wrap64 (f0 + 1)), f0_, H', ⟨by have := L0.out; have := G0.out; have := B1.out; omega⟩, ⟨rR_ HQ23.out⟩, ⟨(u0_ A1.out A1.out)⟩⟩
 ·replace c3 := ya c3
  subst c3
  replace H := iF_ H
  obtain rfl := sI H
  go_enter Tryz.func32, Tryz.ntmps32
  go_wp2_with (first | ((with_reducible refine ae (f := 64) rfl ?_); refine aq (some 12) rfl rfl Tryz.func64 (by kernel_rfl) rfl #[.slice A0 l0.length c0] rfl aM_ ?_; (with_reducible refine (aG.calls k _ _ l0 false _ ?side1 ?side2 A2.out).mono ?_); (case side1 => exact cR_ C1.out); (case side2 => exact D1.out); rintro e w' ⟨rfl, ⟨nd, rfl⟩⟩; refine ⟨_, rfl, ?_⟩))
  go_ret
  exact ⟨_, f1_, by first | exact Kd.R_nil _ _ _ _ _ | exact Kd.N_nil _ _ _ _ _ | exact Kd.V_nil _ _ _ _ _ | exact Kd.Q_nil _ _ _ _ _ | exact Kd.S_nil _ _ _ _ _, hB_⟩

end Go.Proofs.YtielligodgabiaaGreatDoor.P
