-- printed texts of this session, regrouped
import Derived.Test.YtielligodgabiaaGreatDoorMWC
import Derived.Test.YtielligodgabiaaGreatDoorMWA
import Derived.Test.YtielligodgabiaaGreatDoorMW7
import Derived.Test.YtielligodgabiaaGreatDoorMW8
import Derived.Test.YtielligodgabiaaGreatDoorMW6
import Derived.Test.YtielligodgabiaaGreatDoorPx0
namespace Go.Proofs.YtielligodgabiaaGreatDoor.P
open Go.RowKit YtielligodgabiaaGreatDoorW.PrintWords YtielligodgabiaaGreatDoorW.PrintLast YtielligodgabiaaGreatDoorW.PrintMore
attribute [local go_sem] dJ dC ej eh dh di dB dK   -- for this text's walks alone
set_option linter.unusedVariables false
set_option linter.unusedSimpArgs false
set_option maxHeartbeats 8000000
set_option maxRecDepth 100000

/-! ### aW: function 75 -/
def aW.f (a0 : Int) (a1 : Int) (a2 : Int) : Option (Bool) := if a0 ≥ a1 then (some (decide (a0 ≤ a2))) else (some false)
theorem aW.calls (a0 : Int) (a1 : Int) (a2 : Int) (r : Bool) (w : World) (h : aW.f a0 a1 a2 = some r) :
  Calls Tryz.prog 75 #[.int .i64 a0, .int .i64 a1, .int .i64 a2] w fun e w' => e = .returned (.bool r) ∧ cp w w' := by
 delta aW.f at h
 have H := h
 clear h
 by_cases c4 : a0 ≥ a1
 ·rw [za c4] at H
  have b0 := ta c4
  clear c4
  obtain rfl := sI H
  go_enter Tryz.func75, Tryz.ntmps75
  go_wp2
  go_ret
  exact ⟨f0_, d0_⟩
 rw [Aa c4] at H
 have b0 := ua c4
 clear c4
 obtain rfl := sI H
 go_enter Tryz.func75, Tryz.ntmps75
 go_wp2
 go_ret
 exact ⟨f0_, d0_⟩

/-! ### cE: function 39 -/
def cE.f (a0_0 : ByteArray) (a0_1 : ByteArray) (a0_2 : Int) : Option (Bool) := if (a0_0.size : Int) = 32 then (if (a0_1.size : Int) < 64 then ((aW.f a0_2 0 1000000000).bind fun t102 => (if t102 = true then (some ((Int.tmod a0_2 64) == (a0_1.size : Int))) else (some false))) else (some false)) else (some false)
theorem cE.calls (d0 : ByteArray) (e0 : ByteArray) (f0 : Int) (r : Bool) (w : World) (h : cE.f d0 e0 f0 = some r) :
  Calls Tryz.prog 39 #[.agg #[.string d0, .string e0, .int .i64 f0]] w fun e w' => e = .returned (.bool r) ∧ Below w.heap.size w w' := by
 have hu30 := Tryz.underlying30
 have HB := aa.mk (xa w.heap.size w)
 delta cE.f at h
 have H := h
 clear h
 by_cases c2 : (d0.size : Int) = 32
 rotate_left
 ·rw [Aa c2] at H
  have F0 : ((d0.size : Int) == 32) = false := beq_eq_false_iff_ne.mpr c2
  have G0 : ((d0.size : Int) != 32) = true := bne_iff_ne.mpr c2
  obtain rfl := sI H
  go_enter Tryz.func39, Tryz.ntmps39
  go_wp2_with (first | ((with_reducible refine aI (N := 1) rfl ?_); (try (refine bj (by rfl) ?_; dsimp only)); refine cn ?hg (N := 1) ?hd (cs := #[.string d0, .string e0, .int .i64 f0]) (t := 30) ?hr ?_; (case hd => rfl); (case hg => rfl); (case hr => first | (go_simp; done) | (go_simp; rfl)); intro b0 hg H0 hbox hb; have n_ := b_ (ac (hB_) hb) <| b_ (hbox) <| b_ (by rw [hg]; exact (ab (hB_)) : w.heap.size ≤ b0) <| c_ (by rw [hg]; exact (ab (hB_)) : w.heap.size ≤ b0); clear HB; obtain ⟨HB, a0, k0, j0⟩ := n_; clear hb hbox hg; have p0 : H0.cell? ⟨b0, 0, none⟩ = some (.string d0) := (au a0.out 0).trans rfl; have q0 : H0.cell? ⟨b0, 1, none⟩ = some (.string e0) := (au a0.out 1).trans rfl; have r0 : H0.cell? ⟨b0, 2, none⟩ = some (.int .i64 f0) := (au a0.out 2).trans rfl; have t0 := aj a0.out 0; have u0 := aj a0.out 1; have v0 := aj a0.out 2))
  go_ret
  exact ⟨f1_, hS_ j0.out⟩
 rw [za c2] at H
 have F0 : ((d0.size : Int) == 32) = true := beq_iff_eq.mpr c2
 have G0 : ((d0.size : Int) != 32) = false := bne_eq_false_iff_eq.mpr c2
 clear c2
 by_cases c3 : (e0.size : Int) < 64
 rotate_left
 ·rw [Aa c3] at H
  have I0 := ua c3
  have J0 : decide (e0.size < 64) = false := ua (by omega)
  clear c3
  obtain rfl := sI H
  go_enter Tryz.func39, Tryz.ntmps39
  go_wp2_with (first | ((with_reducible refine aI (N := 1) rfl ?_); (try (refine bj (by rfl) ?_; dsimp only)); refine cn ?hg (N := 1) ?hd (cs := #[.string d0, .string e0, .int .i64 f0]) (t := 30) ?hr ?_; (case hd => rfl); (case hg => rfl); (case hr => first | (go_simp; done) | (go_simp; rfl)); intro b0 hg K0 hbox hb; have n_ := b_ (ac (hB_) hb) <| b_ (hbox) <| b_ (by rw [hg]; exact (ab (hB_)) : w.heap.size ≤ b0) <| c_ (by rw [hg]; exact (ab (hB_)) : w.heap.size ≤ b0); clear HB; obtain ⟨HB, a0, k0, j0⟩ := n_; clear hb hbox hg; have x0 : K0.cell? ⟨b0, 0, none⟩ = some (.string d0) := (au a0.out 0).trans rfl; have y0 : K0.cell? ⟨b0, 1, none⟩ = some (.string e0) := (au a0.out 1).trans rfl; have B0 : K0.cell? ⟨b0, 2, none⟩ = some (.int .i64 f0) := (au a0.out 2).trans rfl; have C0 := aj a0.out 0; have D0 := aj a0.out 1; have E0 := aj a0.out 2))
  go_ret
  exact ⟨f1_, hS_ j0.out⟩
 rw [za c3] at H
 have I0 := ta c3
 have J0 : decide (e0.size < 64) = true := ta (by omega)
 clear c3
 obtain ⟨L0, A4, H⟩ := bN_ H
 by_cases c5 : L0 = true
 ·subst c5
  replace H := iT_ H
  obtain rfl := sI H
  go_enter Tryz.func39, Tryz.ntmps39
  go_wp2_with (first | ((with_reducible refine aI (N := 1) rfl ?_); (try (refine bj (by rfl) ?_; dsimp only)); refine cn ?hg (N := 1) ?hd (cs := #[.string d0, .string e0, .int .i64 f0]) (t := 30) ?hr ?_; (case hd => rfl); (case hg => rfl); (case hr => first | (go_simp; done) | (go_simp; rfl)); intro b0 hg w6 hbox hb; have n_ := b_ (ac (hB_) hb) <| b_ (hbox) <| b_ (by rw [hg]; exact (ab (hB_)) : w.heap.size ≤ b0) <| c_ (by rw [hg]; exact (ab (hB_)) : w.heap.size ≤ b0); clear HB; obtain ⟨HB, a0, k0, j0⟩ := n_; clear hb hbox hg; have M0 : w6.cell? ⟨b0, 0, none⟩ = some (.string d0) := (au a0.out 0).trans rfl; have N0 : w6.cell? ⟨b0, 1, none⟩ = some (.string e0) := (au a0.out 1).trans rfl; have O0 : w6.cell? ⟨b0, 2, none⟩ = some (.int .i64 f0) := (au a0.out 2).trans rfl; have P0 := aj a0.out 0; have Q0 := aj a0.out 1; have R0 := aj a0.out 2) | (go_at_call 75; (with_reducible refine (aW.calls f0 0 1000000000 true _ A4.out).mono ?_); rintro e w' ⟨rfl, ⟨nd, rfl⟩⟩))
  go_ret
  exact ⟨f1_, hS_ j0.out⟩
 ·replace c5 := ya c5
  subst c5
  replace H := iF_ H
  obtain rfl := sI H
  go_enter Tryz.func39, Tryz.ntmps39
  go_wp2_with (first | ((with_reducible refine aI (N := 1) rfl ?_); (try (refine bj (by rfl) ?_; dsimp only)); refine cn ?hg (N := 1) ?hd (cs := #[.string d0, .string e0, .int .i64 f0]) (t := 30) ?hr ?_; (case hd => rfl); (case hg => rfl); (case hr => first | (go_simp; done) | (go_simp; rfl)); intro b0 hg w8 hbox hb; have n_ := b_ (ac (hB_) hb) <| b_ (hbox) <| b_ (by rw [hg]; exact (ab (hB_)) : w.heap.size ≤ b0) <| c_ (by rw [hg]; exact (ab (hB_)) : w.heap.size ≤ b0); clear HB; obtain ⟨HB, a0, k0, j0⟩ := n_; clear hb hbox hg; have S0 : w8.cell? ⟨b0, 0, none⟩ = some (.string d0) := (au a0.out 0).trans rfl; have T0 : w8.cell? ⟨b0, 1, none⟩ = some (.string e0) := (au a0.out 1).trans rfl; have U0 : w8.cell? ⟨b0, 2, none⟩ = some (.int .i64 f0) := (au a0.out 2).trans rfl; have V0 := aj a0.out 0; have W0 := aj a0.out 1; have X0 := aj a0.out 2) | (go_at_call 75; (with_reducible refine (aW.calls f0 0 1000000000 false _ A4.out).mono ?_); rintro e w' ⟨rfl, ⟨nd, rfl⟩⟩))
  go_ret
  exact ⟨f1_, hS_ j0.out⟩

/-! ### dQ: function 76 -/
def dQ.f (a0 : ByteArray) (a1 : Int) : Option (Int) := if 0 ≤ a1 then (if a1 < (a0.size : Int) then (if 0 ≤ (wrap64 (a1 + 1)) then (if (wrap64 (a1 + 1)) < (a0.size : Int) then (if 0 ≤ (wrap64 (a1 + 2)) then (if (wrap64 (a1 + 2)) < (a0.size : Int) then (if 0 ≤ (wrap64 (a1 + 3)) then (if (wrap64 (a1 + 3)) < (a0.size : Int) then (some ((((((((((bt a0 a1) % 4294967296) * 16777216) % 4294967296) + ((((bt a0 (wrap64 (a1 + 1))) % 4294967296) * 65536) % 4294967296)) % 4294967296) + ((((bt a0 (wrap64 (a1 + 2))) % 4294967296) * 256) % 4294967296)) % 4294967296) + ((bt a0 (wrap64 (a1 + 3))) % 4294967296)) % 4294967296)) else (none)) else (none)) else (none)) else (none)) else (none)) else (none)) else (none)) else (none)
theorem dQ.calls (a0 : ByteArray) (a1 : Int) (r : Int) (w : World) (h : dQ.f a0 a1 = some r) :
  Calls Tryz.prog 76 #[.string a0, .int .i64 a1] w fun e w' => e = .returned (.int .u32 r) ∧ cp w w' := by
 delta dQ.f at h
 have H := h
 clear h
 obtain ⟨y0, H⟩ := iD_ H
 obtain ⟨B0, H⟩ := iD_ H
 obtain ⟨k0, e0⟩ : ∃ j_ : Int, (wrap64 (a1 + 1)) = j_ := ⟨_, rfl⟩
 first | rw [e0] at H | simp only [e0] at H
 have r0 : (IntKind.i64.wrap (a1 + 1)) = k0 := (bB _).trans e0
 obtain ⟨C0, H⟩ := iD_ H
 obtain ⟨D0, H⟩ := iD_ H
 obtain ⟨f0, b0⟩ : ∃ j_ : Int, (wrap64 (a1 + 2)) = j_ := ⟨_, rfl⟩
 first | rw [b0] at H | simp only [b0] at H
 have p0 : (IntKind.i64.wrap (a1 + 2)) = f0 := (bB _).trans b0
 obtain ⟨t0, H⟩ := iD_ H
 obtain ⟨u0, H⟩ := iD_ H
 obtain ⟨j0, d0⟩ : ∃ j_ : Int, (wrap64 (a1 + 3)) = j_ := ⟨_, rfl⟩
 first | rw [d0] at H | simp only [d0] at H
 have q0 : (IntKind.i64.wrap (a1 + 3)) = j0 := (bB _).trans d0
 obtain ⟨v0, H⟩ := iD_ H
 obtain ⟨x0, H⟩ := iD_ H
 obtain rfl := sI H
 have p5 := va (oD_ : 0 ≤ (a1 : Int))
 have q5 := va (oD_ : a1 < (a0.size : Int))
 have G0 := cB a0 a1
 have p9 := va (oD_ : 0 ≤ ((k0) : Int))
 have q9 := va (oD_ : (k0) < (a0.size : Int))
 have H0 := cB a0 (k0)
 have I0 := va (oD_ : 0 ≤ ((f0) : Int))
 have J0 := va (oD_ : (f0) < (a0.size : Int))
 have E0 := cB a0 (f0)
 have K0 := va (oD_ : 0 ≤ ((j0) : Int))
 have L0 := va (oD_ : (j0) < (a0.size : Int))
 have F0 := cB a0 (j0)
 go_enter Tryz.func76, Tryz.ntmps76
 go_wp2
 repeat (go_quiet (fail); try go_wp2)
 go_ret
 exact ⟨by first | rfl | (simp; done) | (simp only [← e0, ← b0, ← d0] <;> (first | rfl | simp)) | (simp [*]; done), d0_⟩

/-! ### bb: function 40 -/
def bb.l0 : Nat → ByteArray → List Int → Int → Option (List Int)
 | 0, _, _, _ => none
 | k + 1, x0, x3, x4 => if (wrap64 (x4 + 4)) ≤ (x0.size : Int) then ((dQ.f x0 x4).bind fun t106 => (if x3.length < 35184372088832 then (bb.l0 k x0 (x3 ++ [t106]) (wrap64 (x4 + 4))) else (none))) else (some x3)
def bb.f (k : Nat) (a0 : ByteArray) : Option (List Int) := bb.l0 k a0 (([] : List Int)) 0
theorem bb.mono_l : ∀ k, (∀ y0 y1 y2, LeO (bb.l0 k y0 y1 y2) (bb.l0 (k + 1) y0 y1 y2))
 | 0 => fun _ _ _ r h => by simp [bb.l0] at h
 | k + 1 => by
  have ih0 := bb.mono_l k
  intros; unfold bb.l0; exact o1_ ih0
theorem bb.mono : ∀ a0 k, LeO (bb.f k a0) (bb.f (k + 1) a0) := by
 intro a0 k
 have ih0 := bb.mono_l k
 unfold bb.f
 exact o1_ ih0
theorem bb.calls (k : Nat) (a0 : ByteArray) (r : List Int) (w : World) (h : bb.f k a0 = some r) :
  Calls Tryz.prog 40 #[.string a0] w fun e w' => ∃ C0 : Value, e = .returned (C0) ∧ Kd.R (Kd.int .u32) 45 w' w.heap.size (fun _ => True) C0 r ∧ Below w.heap.size w w' := by
 have HB := aa.mk (xa w.heap.size w)
 delta bb.f at h
 have H := h
 clear h
 obtain ⟨v0, d0⟩ : ∃ y_ : List Int, y_ = (([] : List Int)) := ⟨_, rfl⟩
 first | replace H := yb_ d0 H | rw [← d0] at H
 have k0 := aa.mk d0
 clear d0
 have H' := aa.mk H
 clear H
 go_enter Tryz.func40, Tryz.ntmps40
 go_wp2_with (first | ((with_reducible refine aI (N := 5) rfl ?_); refine Kd.R_lit (Kd.int .u32) _ 45 ?hg (N := 5) ?hd (xs := ([] : List Int)) (inner := []) (ok := fun _ => True) (okp := fun _ => True) ?hr ?hp (fun _ hk => hk) trivial (xa _ _) (wa _) (by simp) ?_; (case hd => rfl); (case hg => rfl); (case hr => first | (go_simp; done) | (go_simp; rfl)); (case hp => exact (br.none _ _)); intro E0 w2 q0 hb hg_ hnew_; clear hg_ hnew_; (first | rw [← k0.out] at q0 | (simp only [Int.reduceToNat] at q0; rw [← k0.out] at q0)); have n_ := b_ (Kd.R_lower q0 (ab (hB_))) <| c_ (ac (hB_) hb); clear HB; obtain ⟨r0, HB⟩ := n_; clear hb q0))
 go_loopg [3, 4] k (fun kq v3 v4 w' => ∃ (f0 : List Int) (b0 : Int), v4 = .int .i64 b0 ∧ aa (bb.l0 kq a0 f0 b0 = some r) ∧ aa (kq ≤ k) ∧ aa (Kd.R (Kd.int .u32) 45 w' w.heap.size (fun _ => True) v3 f0) ∧ aa (Below w.heap.size w w'))
 case atStart => exact ⟨(v0), (0), f0_, H', ⟨wa _⟩, ⟨rR_ r0.out⟩, ⟨hB_⟩⟩
 clear H'
 obtain ⟨f0, b0, rfl, HA, D0, p0, HB⟩ := hrel
 rcases gk with _ | k1
 ·exact absurd HA.out (by simp [bb.l0])
 have H := HA.out
 clear HA
 simp only [bb.l0] at H
 by_cases c4 : (wrap64 (b0 + 4)) ≤ (a0.size : Int)
 ·rw [za c4] at H
  have x0 := ta c4
  clear c4
  obtain ⟨j0, A5, H⟩ := bN_ H
  obtain ⟨c6, H⟩ := iN_ H
  have y0 := aa.mk c6
  clear c6
  obtain ⟨B0, e0⟩ : ∃ y_ : List Int, y_ = (f0 ++ [j0]) := ⟨_, rfl⟩
  first | replace H := yb_ e0 H | rw [← e0] at H
  have t0 := aa.mk e0
  clear e0
  have H' := aa.mk H
  clear H
  go_wp2_with (first | ((with_reducible refine ae (f := 76) rfl ?_); refine aq (some 16) rfl rfl Tryz.func76 (by kernel_rfl) rfl #[.string a0, .int .i64 b0] rfl aM_ ?_; (with_reducible refine (dQ.calls a0 b0 j0 _ A5.out).mono ?_); rintro e w' ⟨rfl, ⟨nd, rfl⟩⟩; refine ⟨_, rfl, ?_⟩) | ((with_reducible refine aV (b := .append) (xs := #[.tmp 13, .tmp 17]) rfl ?_); at_builtin; refine Kd.R_append (Kd.int .u32) (w0 := w) w.heap.size rfl (.tmp 13) (.tmp 17) 58 45 (.int .u32 0) 4 rfl Tryz.underlying58 mI rfl (by decide) (by omega) u3 f0 j0 [.int .u32 j0] (fun _ => True) (fun _ => False) rfl rfl ?aP (fun _ hk => hk.elim) ?aF ?aO ?aB ?aS ?aL ?_; (case aP => exact rfl); (case aB => exact (hB_)); (case aF => exact (fun _ _ => trivial)); (case aO => exact (rR_ p0.out)); (case aS => exact (ab (hB_))); (case aL => have := y0.out; omega); intro F0 w7 ho hb hg hat; rw [← t0.out] at ho; have n_ := b_ (hb) <| c_ (ho); clear p0 HB; obtain ⟨HB, u0⟩ := n_; clear ho hb hg hat))
  go_roundg k1
  case measure => have := D0.out; omega
  case rel => exact ⟨(B0), (wrap64 (b0 + 4)), f0_, H', ⟨by have := D0.out; omega⟩, ⟨rR_ u0.out⟩, ⟨hB_⟩⟩
 rw [Aa c4] at H
 have x0 := ua c4
 clear c4
 obtain rfl := sI H
 go_wp2
 go_ret
 exact ⟨_, f1_, rR_ p0.out, hB_⟩

/-! ### er: function 41 -/
def er.f  : Option (List Int) := some (([1116352408, 1899447441, 3049323471, 3921009573, 961987163, 1508970993, 2453635748, 2870763221, 3624381080, 310598401, 607225278, 1426881987, 1925078388, 2162078206, 2614888103, 3248222580, 3835390401, 4022224774, 264347078, 604807628, 770255983, 1249150122, 1555081692, 1996064986, 2554220882, 2821834349, 2952996808, 3210313671, 3336571891, 3584528711, 113926993, 338241895, 666307205, 773529912, 1294757372, 1396182291, 1695183700, 1986661051, 2177026350, 2456956037, 2730485921, 2820302411, 3259730800, 3345764771, 3516065817, 3600352804, 4094571909, 275423344, 430227734, 506948616, 659060556, 883997877, 958139571, 1322822218, 1537002063, 1747873779, 1955562222, 2024104815, 2227730452, 2361852424, 2428436474, 2756734187, 3204031479, 3329325298] : List Int))
theorem er.calls  (r : List Int) (w : World) (h : er.f  = some r) :
  Calls Tryz.prog 41 #[] w fun e w' => ∃ f0 : Value, e = .returned (f0) ∧ Kd.R (Kd.int .u32) 45 w' w.heap.size (fun _ => True) f0 r ∧ Below w.heap.size w w' := by
 have HB := aa.mk (xa w.heap.size w)
 delta er.f at h
 have H := h
 clear h
 obtain ⟨j0, a0⟩ : ∃ y_ : List Int, y_ = (([1116352408, 1899447441, 3049323471, 3921009573, 961987163, 1508970993, 2453635748, 2870763221, 3624381080, 310598401, 607225278, 1426881987, 1925078388, 2162078206, 2614888103, 3248222580, 3835390401, 4022224774, 264347078, 604807628, 770255983, 1249150122, 1555081692, 1996064986, 2554220882, 2821834349, 2952996808, 3210313671, 3336571891, 3584528711, 113926993, 338241895, 666307205, 773529912, 1294757372, 1396182291, 1695183700, 1986661051, 2177026350, 2456956037, 2730485921, 2820302411, 3259730800, 3345764771, 3516065817, 3600352804, 4094571909, 275423344, 430227734, 506948616, 659060556, 883997877, 958139571, 1322822218, 1537002063, 1747873779, 1955562222, 2024104815, 2227730452, 2361852424, 2428436474, 2756734187, 3204031479, 3329325298] : List Int)) := ⟨_, rfl⟩
 first | replace H := yb_ a0 H | rw [← a0] at H
 have b0 := aa.mk a0
 clear a0
 obtain rfl := sI H
 go_enter Tryz.func41, Tryz.ntmps41
 go_wp2_with (first | ((with_reducible refine aI (N := 1) rfl ?_); refine Kd.R_lit (Kd.int .u32) _ 45 ?hg (N := 1) ?hd (xs := ([1116352408, 1899447441, 3049323471, 3921009573, 961987163, 1508970993, 2453635748, 2870763221, 3624381080, 310598401, 607225278, 1426881987, 1925078388, 2162078206, 2614888103, 3248222580, 3835390401, 4022224774, 264347078, 604807628, 770255983, 1249150122, 1555081692, 1996064986, 2554220882, 2821834349, 2952996808, 3210313671, 3336571891, 3584528711, 113926993, 338241895, 666307205, 773529912, 1294757372, 1396182291, 1695183700, 1986661051, 2177026350, 2456956037, 2730485921, 2820302411, 3259730800, 3345764771, 3516065817, 3600352804, 4094571909, 275423344, 430227734, 506948616, 659060556, 883997877, 958139571, 1322822218, 1537002063, 1747873779, 1955562222, 2024104815, 2227730452, 2361852424, 2428436474, 2756734187, 3204031479, 3329325298] : List Int)) (inner := [.int .u32 1116352408, .int .u32 1899447441, .int .u32 3049323471, .int .u32 3921009573, .int .u32 961987163, .int .u32 1508970993, .int .u32 2453635748, .int .u32 2870763221, .int .u32 3624381080, .int .u32 310598401, .int .u32 607225278, .int .u32 1426881987, .int .u32 1925078388, .int .u32 2162078206, .int .u32 2614888103, .int .u32 3248222580, .int .u32 3835390401, .int .u32 4022224774, .int .u32 264347078, .int .u32 604807628, .int .u32 770255983, .int .u32 1249150122, .int .u32 1555081692, .int .u32 1996064986, .int .u32 2554220882, .int .u32 2821834349, .int .u32 2952996808, .int .u32 3210313671, .int .u32 3336571891, .int .u32 3584528711, .int .u32 113926993, .int .u32 338241895, .int .u32 666307205, .int .u32 773529912, .int .u32 1294757372, .int .u32 1396182291, .int .u32 1695183700, .int .u32 1986661051, .int .u32 2177026350, .int .u32 2456956037, .int .u32 2730485921, .int .u32 2820302411, .int .u32 3259730800, .int .u32 3345764771, .int .u32 3516065817, .int .u32 3600352804, .int .u32 4094571909, .int .u32 275423344, .int .u32 430227734, .int .u32 506948616, .int .u32 659060556, .int .u32 883997877, .int .u32 958139571, .int .u32 1322822218, .int .u32 1537002063, .int .u32 1747873779, .int .u32 1955562222, .int .u32 2024104815, .int .u32 2227730452, .int .u32 2361852424, .int .u32 2428436474, .int .u32 2756734187, .int .u32 3204031479, .int .u32 3329325298]) (ok := fun _ => True) (okp := fun _ => True) ?hr ?hp (fun _ hk => hk) trivial (xa _ _) (wa _) (by simp) ?_; (case hd => rfl); (case hg => rfl); (case hr => first | (go_simp; done) | (go_simp; rfl)); (case hp => exact (br.one (show Kd.M (Kd.int .u32) _ _ _ 1116352408 [.int .u32 1116352408] from rfl) (br.one (show Kd.M (Kd.int .u32) _ _ _ 1899447441 [.int .u32 1899447441] from rfl) (br.one (show Kd.M (Kd.int .u32) _ _ _ 3049323471 [.int .u32 3049323471] from rfl) (br.one (show Kd.M (Kd.int .u32) _ _ _ 3921009573 [.int .u32 3921009573] from rfl) (br.one (show Kd.M (Kd.int .u32) _ _ _ 961987163 [.int .u32 961987163] from rfl) (br.one (show Kd.M (Kd.int .u32) _ _ _ 1508970993 [.int .u32 1508970993] from rfl) (br.one (show Kd.M (Kd.int .u32) _ _ _ 2453635748 [.int .u32 2453635748] from rfl) (br.one (show Kd.M (Kd.int .u32) _ _ _ 2870763221 [.int .u32 2870763221] from rfl) (br.one (show Kd.M (Kd.int .u32) _ _ _ 3624381080 [.int .u32 3624381080] from rfl) (br.one (show Kd.M (Kd.int .u32) _ _ _ 310598401 [.int .u32 310598401] from rfl) (br.one (show Kd.M (Kd.int .u32) _ _ _ 607225278 [.int .u32 607225278] from rfl) (br.one (show Kd.M (Kd.int .u32) _ _ _ 1426881987 [.int .u32 1426881987] from rfl) (br.one (show Kd.M (Kd.int .u32) _ _ _ 1925078388 [.int .u32 1925078388] from rfl) (br.one (show Kd.M (Kd.int .u32) _ _ _ 2162078206 [.int .u32 2162078206] from rfl) (br.one (show Kd.M (Kd.int .u32) _ _ _ 2614888103 [.int .u32 2614888103] from rfl) (br.one (show Kd.M (Kd.int .u32) _ _ _ 3248222580 [.int .u32 3248222580] from rfl) (br.one (show Kd.M (Kd.int .u32) _ _ _ 3835390401 [.int .u32 3835390401] from rfl) (br.one (show Kd.M (Kd.int .u32) _ _ _ 4022224774 [.int .u32 4022224774] from rfl) (br.one (show Kd.M (Kd.int .u32) _ _ _ 264347078 [.int .u32 264347078] from rfl) (br.one (show Kd.M (Kd.int .u32) _ _ _ 604807628 [.int .u32 604807628] from rfl) (br.one (show Kd.M (Kd.int .u32) _ _ _ 770255983 [.int .u32 770255983] from rfl) (br.one (show Kd.M (Kd.int .u32) _ _ _ 1249150122 [.int .u32 1249150122] from rfl) (br.one (show Kd.M (Kd.int .u32) _ _ _ 1555081692 [.int .u32 1555081692] from rfl) (br.one (show Kd.M (Kd.int .u32) _ _ _ 1996064986 [.int .u32 1996064986] from rfl) (br.one (show Kd.M (Kd.int .u32) _ _ _ 2554220882 [.int .u32 2554220882] from rfl) (br.one (show Kd.M (Kd.int .u32) _ _ _ 2821834349 [.int .u32 2821834349] from rfl) (br.one (show Kd.M (Kd.int .u32) _ _ _ 2952996808 [.int .u32 2952996808] from rfl) (br.one (show Kd.M (Kd.int .u32) _ _ _ 3210313671 [.int .u32 3210313671] from rfl) (br.one (show Kd.M (Kd.int .u32) _ _ _ 3336571891 [.int .u32 3336571891] from rfl) (br.one (show Kd.M (Kd.int .u32) _ _ _ 3584528711 [.int .u32 3584528711] from rfl) (br.one (show Kd.M (Kd.int .u32) _ _ _ 113926993 [.int .u32 113926993] from rfl) (br.one (show Kd.M (Kd.int .u32) _ _ _ 338241895 [.int .u32 338241895] from rfl) (br.one (show Kd.M (Kd.int .u32) _ _ _ 666307205 [.int .u32 666307205] from rfl) (br.one (show Kd.M (Kd.int .u32) _ _ _ 773529912 [.int .u32 773529912] from rfl) (br.one (show Kd.M (Kd.int .u32) _ _ _ 1294757372 [.int .u32 1294757372] from rfl) (br.one (show Kd.M (Kd.int .u32) _ _ _ 1396182291 [.int .u32 1396182291] from rfl) (br.one (show Kd.M (Kd.int .u32) _ _ _ 1695183700 [.int .u32 1695183700] from rfl) (br.one (show Kd.M (Kd.int .u32) _ _ _ 1986661051 [.int .u32 1986661051] from rfl) (br.one (show Kd.M (Kd.int .u32) _ _ _ 2177026350 [.int .u32 2177026350] from rfl) (br.one (show Kd.M (Kd.int .u32) _ _ _ 2456956037 [.int .u32 2456956037] from rfl) (br.one (show Kd.M (Kd.int .u32) _ _ _ 2730485921 [.int .u32 2730485921] from rfl) (br.one (show Kd.M (Kd.int .u32) _ _ _ 2820302411 [.int .u32 2820302411] from rfl) (br.one (show Kd.M (Kd.int .u32) _ _ _ 3259730800 [.int .u32 3259730800] from rfl) (br.one (show Kd.M (Kd.int .u32) _ _ _ 3345764771 [.int .u32 3345764771] from rfl) (br.one (show Kd.M (Kd.int .u32) _ _ _ 3516065817 [.int .u32 3516065817] from rfl) (br.one (show Kd.M (Kd.int .u32) _ _ _ 3600352804 [.int .u32 3600352804] from rfl) (br.one (show Kd.M (Kd.int .u32) _ _ _ 4094571909 [.int .u32 4094571909] from rfl) (br.one (show Kd.M (Kd.int .u32) _ _ _ 275423344 [.int .u32 275423344] from rfl) (br.one (show Kd.M (Kd.int .u32) _ _ _ 430227734 [.int .u32 430227734] from rfl) (br.one (show Kd.M (Kd.int .u32) _ _ _ 506948616 [.int .u32 506948616] from rfl) (br.one (show Kd.M (Kd.int .u32) _ _ _ 659060556 [.int .u32 659060556] from rfl) (br.one (show Kd.M (Kd.int .u32) _ _ _ 883997877 [.int .u32 883997877] from rfl) (br.one (show Kd.M (Kd.int .u32) _ _ _ 958139571 [.int .u32 958139571] from rfl) (br.one (show Kd.M (Kd.int .u32) _ _ _ 1322822218 [.int .u32 1322822218] from rfl) (br.one (show Kd.M (Kd.int .u32) _ _ _ 1537002063 [.int .u32 1537002063] from rfl) (br.one (show Kd.M (Kd.int .u32) _ _ _ 1747873779 [.int .u32 1747873779] from rfl) (br.one (show Kd.M (Kd.int .u32) _ _ _ 1955562222 [.int .u32 1955562222] from rfl) (br.one (show Kd.M (Kd.int .u32) _ _ _ 2024104815 [.int .u32 2024104815] from rfl) (br.one (show Kd.M (Kd.int .u32) _ _ _ 2227730452 [.int .u32 2227730452] from rfl) (br.one (show Kd.M (Kd.int .u32) _ _ _ 2361852424 [.int .u32 2361852424] from rfl) (br.one (show Kd.M (Kd.int .u32) _ _ _ 2428436474 [.int .u32 2428436474] from rfl) (br.one (show Kd.M (Kd.int .u32) _ _ _ 2756734187 [.int .u32 2756734187] from rfl) (br.one (show Kd.M (Kd.int .u32) _ _ _ 3204031479 [.int .u32 3204031479] from rfl) (br.one (show Kd.M (Kd.int .u32) _ _ _ 3329325298 [.int .u32 3329325298] from rfl) (br.none _ _)))))))))))))))))))))))))))))))))))))))))))))))))))))))))))))))))); intro k0 w1 d0 hb hg_ hnew_; clear hg_ hnew_; (first | rw [← b0.out] at d0 | (simp only [Int.reduceToNat] at d0; rw [← b0.out] at d0)); have n_ := b_ (Kd.R_lower d0 (ab (hB_))) <| c_ (ac (hB_) hb); clear HB; obtain ⟨e0, HB⟩ := n_; clear hb d0))
 go_ret
 exact ⟨_, f1_, rR_ e0.out, hB_⟩

/-! ### cy: function 88 -/
def cy.f (a0 : Int) (a1 : Int) (a2 : Int) : Option (Int) := if a1 = 0 then (none) else (some ((((Int.tdiv a0 a1) % 4294967296) + (((Int.tmod a0 a1) * a2) % 4294967296)) % 4294967296))
theorem cy.calls (a0 : Int) (a1 : Int) (a2 : Int) (r : Int) (w : World) (h : cy.f a0 a1 a2 = some r) :
  Calls Tryz.prog 88 #[.int .u32 a0, .int .u32 a1, .int .u32 a2] w fun e w' => e = .returned (.int .u32 r) ∧ cp w w' := by
 delta cy.f at h
 have H := h
 clear h
 by_cases c4 : a1 = 0
 ·rw [za c4] at H
  exact absurd H (by simp)
 rw [Aa c4] at H
 have b0 : (a1 == 0) = false := beq_eq_false_iff_ne.mpr c4
 have d0 : (a1 != 0) = true := bne_iff_ne.mpr c4
 obtain rfl := sI H
 go_enter Tryz.func88, Tryz.ntmps88
 go_wp2
 repeat (go_quiet (fail); try go_wp2)
 go_ret
 exact ⟨f0_, d0_⟩

/-! ### cI: function 77 -/
def cI.f (a0 : Int) (a1 : Int) (a2 : Int) (a3 : Int) (a4 : Bool) : Option (Int) := if a1 = 0 then (none) else ((cy.f a0 a1 ((((Int.tdiv (2147483648 : Int) a1) % 4294967296) * 2) % 4294967296)).bind fun t113 => (if a2 = 0 then (none) else ((cy.f a0 a2 ((((Int.tdiv (2147483648 : Int) a2) % 4294967296) * 2) % 4294967296)).bind fun t114 => (if a3 = 0 then (none) else (if a4 = true then (some (Go.bits .xor .u32 (Go.bits .xor .u32 t113 t114) ((Int.tdiv a0 a3) % 4294967296))) else ((cy.f a0 a3 ((((Int.tdiv (2147483648 : Int) a3) % 4294967296) * 2) % 4294967296)).bind fun t115 => (some (Go.bits .xor .u32 (Go.bits .xor .u32 t113 t114) t115))))))))
theorem cI.calls (a0 : Int) (a1 : Int) (a2 : Int) (a3 : Int) (a4 : Bool) (r : Int) (w : World) (h : cI.f a0 a1 a2 a3 a4 = some r) :
  Calls Tryz.prog 77 #[.int .u32 a0, .int .u32 a1, .int .u32 a2, .int .u32 a3, .bool a4] w fun e w' => e = .returned (.int .u32 r) ∧ cp w w' := by
 delta cI.f at h
 have H := h
 clear h
 by_cases c6 : a1 = 0
 ·rw [za c6] at H
  exact absurd H (by simp)
 rw [Aa c6] at H
 have q0 : (a1 == 0) = false := beq_eq_false_iff_ne.mpr c6
 have r0 : (a1 != 0) = true := bne_iff_ne.mpr c6
 obtain ⟨b0, A7, H⟩ := bN_ H
 by_cases c8 : a2 = 0
 ·rw [za c8] at H
  exact absurd H (by simp)
 rw [Aa c8] at H
 have t0 : (a2 == 0) = false := beq_eq_false_iff_ne.mpr c8
 have u0 : (a2 != 0) = true := bne_iff_ne.mpr c8
 obtain ⟨d0, A9, H⟩ := bN_ H
 by_cases e0 : a3 = 0
 ·rw [za e0] at H
  exact absurd H (by simp)
 rw [Aa e0] at H
 have k0 : (a3 == 0) = false := beq_eq_false_iff_ne.mpr e0
 have p0 : (a3 != 0) = true := bne_iff_ne.mpr e0
 by_cases f0 : a4 = true
 ·subst f0
  replace H := iT_ H
  obtain rfl := sI H
  go_enter Tryz.func77, Tryz.ntmps77
  go_wp2_with (first | ((with_reducible refine ae (f := 88) rfl ?_); refine aq (some 19) rfl rfl Tryz.func88 (by kernel_rfl) rfl #[.int .u32 a0, .int .u32 a1, .int .u32 ((((Int.tdiv (2147483648 : Int) a1) % 4294967296) * 2) % 4294967296)] rfl aM_ ?_; (with_reducible refine (cy.calls a0 a1 ((((Int.tdiv (2147483648 : Int) a1) % 4294967296) * 2) % 4294967296) b0 _ A7.out).mono ?_); rintro e w' ⟨rfl, ⟨nd, rfl⟩⟩; refine ⟨_, rfl, ?_⟩) | ((with_reducible refine ae (f := 88) rfl ?_); refine aq (some 25) rfl rfl Tryz.func88 (by kernel_rfl) rfl #[.int .u32 a0, .int .u32 a2, .int .u32 ((((Int.tdiv (2147483648 : Int) a2) % 4294967296) * 2) % 4294967296)] rfl aM_ ?_; (with_reducible refine (cy.calls a0 a2 ((((Int.tdiv (2147483648 : Int) a2) % 4294967296) * 2) % 4294967296) d0 _ A9.out).mono ?_); rintro e w' ⟨rfl, ⟨nd, rfl⟩⟩; refine ⟨_, rfl, ?_⟩))
  go_ret
  exact ⟨f0_, d0_⟩
 ·replace f0 := ya f0
  subst f0
  replace H := iF_ H
  obtain ⟨j0, v0, H⟩ := bN_ H
  obtain rfl := sI H
  go_enter Tryz.func77, Tryz.ntmps77
  go_wp2_with (first | ((with_reducible refine ae (f := 88) rfl ?_); refine aq (some 19) rfl rfl Tryz.func88 (by kernel_rfl) rfl #[.int .u32 a0, .int .u32 a1, .int .u32 ((((Int.tdiv (2147483648 : Int) a1) % 4294967296) * 2) % 4294967296)] rfl aM_ ?_; (with_reducible refine (cy.calls a0 a1 ((((Int.tdiv (2147483648 : Int) a1) % 4294967296) * 2) % 4294967296) b0 _ A7.out).mono ?_); rintro e w' ⟨rfl, ⟨nd, rfl⟩⟩; refine ⟨_, rfl, ?_⟩) | ((with_reducible refine ae (f := 88) rfl ?_); refine aq (some 25) rfl rfl Tryz.func88 (by kernel_rfl) rfl #[.int .u32 a0, .int .u32 a2, .int .u32 ((((Int.tdiv (2147483648 : Int) a2) % 4294967296) * 2) % 4294967296)] rfl aM_ ?_; (with_reducible refine (cy.calls a0 a2 ((((Int.tdiv (2147483648 : Int) a2) % 4294967296) * 2) % 4294967296) d0 _ A9.out).mono ?_); rintro e w' ⟨rfl, ⟨nd, rfl⟩⟩; refine ⟨_, rfl, ?_⟩) | ((with_reducible refine ae (f := 88) rfl ?_); refine aq (some 36) rfl rfl Tryz.func88 (by kernel_rfl) rfl #[.int .u32 a0, .int .u32 a3, .int .u32 ((((Int.tdiv (2147483648 : Int) a3) % 4294967296) * 2) % 4294967296)] rfl aM_ ?_; (with_reducible refine (cy.calls a0 a3 ((((Int.tdiv (2147483648 : Int) a3) % 4294967296) * 2) % 4294967296) j0 _ v0.out).mono ?_); rintro e w' ⟨rfl, ⟨nd, rfl⟩⟩; refine ⟨_, rfl, ?_⟩))
  go_ret
  exact ⟨f0_, d0_⟩

/-! ### ag: function 42 -/
mutual
def ag.l0 : Nat → List Int → List Int → List Int → Int → Option (List Int)
 | 0, _, _, _, _ => none
 | k + 1, x0, x1, x7, x8 => if x8 < 64 then (if 0 ≤ (wrap64 (x8 - 2)) then (if (wrap64 (x8 - 2)) < (x7.length : Int) then ((cI.f (rd x7 (wrap64 (x8 - 2))) 131072 524288 1024 true).bind fun t120 => (if 0 ≤ (wrap64 (x8 - 7)) then (if (wrap64 (x8 - 7)) < (x7.length : Int) then (if 0 ≤ (wrap64 (x8 - 15)) then (if (wrap64 (x8 - 15)) < (x7.length : Int) then ((cI.f (rd x7 (wrap64 (x8 - 15))) 128 262144 8 true).bind fun t123 => (if 0 ≤ (wrap64 (x8 - 16)) then (if (wrap64 (x8 - 16)) < (x7.length : Int) then (if x7.length < 35184372088832 then (ag.l0 k x0 x1 (x7 ++ [(((((t120 + (rd x7 (wrap64 (x8 - 7)))) % 4294967296) + t123) % 4294967296) + (rd x7 (wrap64 (x8 - 16)))) % 4294967296]) (wrap64 (x8 + 1))) else (none)) else (none)) else (none))) else (none)) else (none)) else (none)) else (none))) else (none)) else (none)) else ((some (([] : List Int) : List Int)).bind fun y128 => (if y128.length + x0.length < 35184372088832 then (ag.l1 k x0 x1 x7 (y128 ++ x0) 0) else (none)))
def ag.l1 : Nat → List Int → List Int → List Int → List Int → Int → Option (List Int)
 | 0, _, _, _, _, _ => none
 | k + 1, x0, x1, x7, x9, x10 => if x10 < 64 then (if 4 < (x9.length : Int) then (if 5 < (x9.length : Int) then (if 6 < (x9.length : Int) then (if 7 < (x9.length : Int) then ((cI.f (rd x9 4) 64 2048 33554432 false).bind fun t138 => (if 0 ≤ x10 then (if x10 < (x1.length : Int) then (if x10 < (x7.length : Int) then (if 0 < (x9.length : Int) then (if 1 < (x9.length : Int) then (if 2 < (x9.length : Int) then ((cI.f (rd x9 0) 4 8192 4194304 false).bind fun t148 => (ag.l2 k x0 x1 x7 x9 x10 (((((((((rd x9 7) + t138) % 4294967296) + (Go.bits .xor .u32 (Go.bits .and .u32 (rd x9 4) (rd x9 5)) (Go.bits .and .u32 ((4294967295 - (rd x9 4)) % 4294967296) (rd x9 6)))) % 4294967296) + (rd x1 x10)) % 4294967296) + (rd x7 x10)) % 4294967296) ((t148 + (Go.bits .xor .u32 (Go.bits .xor .u32 (Go.bits .and .u32 (rd x9 0) (rd x9 1)) (Go.bits .and .u32 (rd x9 0) (rd x9 2))) (Go.bits .and .u32 (rd x9 1) (rd x9 2)))) % 4294967296) 7)) else (none)) else (none)) else (none)) else (none)) else (none)) else (none))) else (none)) else (none)) else (none)) else (none)) else (ag.l3 k x0 x9 (([] : List Int)) 0)
def ag.l2 : Nat → List Int → List Int → List Int → List Int → Int → Int → Int → Int → Option (List Int)
 | 0, _, _, _, _, _, _, _, _ => none
 | k + 1, x0, x1, x7, x9, x10, x13, x15, x16 => if x16 > 0 then (if 0 ≤ (wrap64 (x16 - 1)) then (if (wrap64 (x16 - 1)) < (x9.length : Int) then (if 0 ≤ x16 then (if x16 < (x9.length : Int) then (ag.l2 k x0 x1 x7 (x9.set (x16 : Int).toNat (rd x9 (wrap64 (x16 - 1)))) x10 x13 x15 (wrap64 (x16 - 1))) else (none)) else (none)) else (none)) else (none)) else (if 4 < (x9.length : Int) then (if 0 < (x9.length : Int) then (ag.l1 k x0 x1 x7 ((x9.set (4 : Int).toNat (((rd x9 4) + x13) % 4294967296)).set (0 : Int).toNat ((x13 + x15) % 4294967296)) (wrap64 (x10 + 1))) else (none)) else (none))
def ag.l3 : Nat → List Int → List Int → List Int → Int → Option (List Int)
 | 0, _, _, _, _ => none
 | k + 1, x0, x9, x17, x18 => if x18 < 8 then (if 0 ≤ x18 then (if x18 < (x0.length : Int) then (if x18 < (x9.length : Int) then (if x17.length < 35184372088832 then (ag.l3 k x0 x9 (x17 ++ [((rd x0 x18) + (rd x9 x18)) % 4294967296]) (wrap64 (x18 + 1))) else (none)) else (none)) else (none)) else (none)) else (some x17)
end
def ag.f (k : Nat) (l0 : List Int) (l1 : List Int) (a2 : ByteArray) : Option (List Int) := (bb.f k a2).bind fun t116 => (ag.l0 k l0 l1 t116 16)
theorem ag.mono_l : ∀ k, (∀ y0 y1 y2 y3, LeO (ag.l0 k y0 y1 y2 y3) (ag.l0 (k + 1) y0 y1 y2 y3)) ∧ (∀ y0 y1 y2 y3 y4, LeO (ag.l1 k y0 y1 y2 y3 y4) (ag.l1 (k + 1) y0 y1 y2 y3 y4)) ∧ (∀ y0 y1 y2 y3 y4 y5 y6 y7, LeO (ag.l2 k y0 y1 y2 y3 y4 y5 y6 y7) (ag.l2 (k + 1) y0 y1 y2 y3 y4 y5 y6 y7)) ∧ (∀ y0 y1 y2 y3, LeO (ag.l3 k y0 y1 y2 y3) (ag.l3 (k + 1) y0 y1 y2 y3))
 | 0 => ⟨fun _ _ _ _ r h => by simp [ag.l0] at h, fun _ _ _ _ _ r h => by simp [ag.l1] at h, fun _ _ _ _ _ _ _ _ r h => by simp [ag.l2] at h, fun _ _ _ _ r h => by simp [ag.l3] at h⟩
 | k + 1 => by
  obtain ⟨ih0, ih1, ih2, ih3⟩ := ag.mono_l k
  refine ⟨?_, ?_, ?_, ?_⟩ <;> (intros; (first | unfold ag.l0 | unfold ag.l1 | unfold ag.l2 | unfold ag.l3); exact o5_ ih0 ih1 ih2 ih3 bb.mono)
theorem ag.mono : ∀ a0 a1 a2 k, LeO (ag.f k a0 a1 a2) (ag.f (k + 1) a0 a1 a2) := by
 intro a0 a1 a2 k
 obtain ⟨ih0, ih1, ih2, ih3⟩ := ag.mono_l k
 unfold ag.f
 exact o5_ ih0 ih1 ih2 ih3 bb.mono
def ag.T5 : Bool × List (List Nat × List Nat) := (true, [([], []), ([], []), ([], []), ([2], [2]), ([1, 3], [1, 3]), ([4], [4]), ([5], [5]), ([], []), ([], []), ([8], [8]), ([7, 9], [7, 9]), ([10], [10]), ([6, 11], [6, 11]), ([], []), ([], []), ([14], [14]), ([13, 15], [13, 15]), ([16], [16]), ([17, 6], [17]), ([12, 18], [12, 18]), ([], []), ([], []), ([21], [21]), ([20, 22], [20, 22]), ([23], [23]), ([19, 24], [19, 24]), ([25], [25]), ([0, 26, 18], [0, 26]), ([27, 27, 0, 1, 2, 3, 4, 5, 6, 7, 8, 9, 10, 11, 12, 13, 14, 15, 16, 17, 18, 19, 20, 21, 22, 23, 24, 25, 26, 27], [0, 1, 7, 13, 20, 27])])
def ag.B5 : List Nat := [0, 0, 0, 4, 14, 30, 62, 0, 0, 256, 896, 1920, 4094, 0, 0, 16384, 57344, 122880, 254078, 524286, 0, 0, 2097152, 7340032, 15728640, 33554430, 67108862, 134217727, 268435455]
theorem ag.tab5 : dW .any (eW Tryz.f42 5) = ag.T5 := by kernel_rfl
theorem ag.bits5 : cZ ag.T5.2 ag.B5 = true := by kernel_rfl
def ag.T11 : Bool × List (List Nat × List Nat) := (true, [([], []), ([], []), ([1], [1]), ([2], [2]), ([0, 3], [0, 3]), ([], []), ([5], [5]), ([], []), ([7], [7]), ([8], [8]), ([6, 9], [6, 9]), ([4, 10], [4, 10]), ([11, 0, 1, 2, 3, 4, 5, 6, 7, 8, 9, 10, 11], [11])])
def ag.B11 : List Nat := [0, 0, 2, 6, 15, 0, 32, 0, 128, 384, 992, 2047, 4095]
theorem ag.tab11 : dW .any (eW Tryz.f42 11) = ag.T11 := by kernel_rfl
theorem ag.bits11 : cZ ag.T11.2 ag.B11 = true := by kernel_rfl
def ag.T12 : Bool × List (List Nat × List Nat) := (true, [([], []), ([0], [0]), ([1], [1]), ([], []), ([3], [3]), ([2, 4], [2, 4]), ([], []), ([5, 6], [5, 6]), ([], []), ([], []), ([8, 9], [8, 9]), ([10], [10]), ([7, 11], [7, 11]), ([], []), ([], []), ([13, 14], [13, 14]), ([15], [15]), ([12, 16], [12, 16]), ([17, 4, 0, 1, 2, 3, 4, 5, 6, 7, 8, 9, 10, 11, 12, 13, 14, 15, 16, 17], [17])])
def ag.B12 : List Nat := [0, 1, 3, 0, 8, 31, 0, 127, 0, 0, 768, 1792, 4095, 0, 0, 24576, 57344, 131071, 262143]
theorem ag.tab12 : dW .any (eW Tryz.f42 12) = ag.T12 := by kernel_rfl
theorem ag.bits12 : cZ ag.T12.2 ag.B12 = true := by kernel_rfl
def ag.T13 : Bool × List (List Nat × List Nat) := (true, [([], []), ([0], [0]), ([1], [1]), ([], []), ([3], [3]), ([4], [4]), ([2, 5], [2, 5]), ([], []), ([7], [7]), ([8], [8]), ([], []), ([10], [10]), ([11], [11]), ([9, 12], [9, 12]), ([6, 13], [6, 13]), ([], []), ([15], [15]), ([16], [16]), ([], []), ([18], [18]), ([19], [19]), ([17, 20], [17, 20]), ([14, 21], [14, 21]), ([22, 0, 1, 2, 3, 4, 5, 6, 7, 8, 9, 10, 11, 12, 13, 14, 15, 16, 17, 18, 19, 20, 21, 22], [22])])
def ag.B13 : List Nat := [0, 1, 3, 0, 8, 24, 63, 0, 128, 384, 0, 1024, 3072, 8064, 16383, 0, 32768, 98304, 0, 262144, 786432, 2064384, 4194303, 8388607]
theorem ag.tab13 : dW .any (eW Tryz.f42 13) = ag.T13 := by kernel_rfl
theorem ag.bits13 : cZ ag.T13.2 ag.B13 = true := by kernel_rfl
def ag.T25 : Bool × List (List Nat × List Nat) := (true, [([], []), ([], []), ([], []), ([1, 2], [1, 2]), ([3], [3]), ([], []), ([], []), ([5, 6], [5, 6]), ([7], [7]), ([4, 8], [4, 8]), ([9], [9]), ([0, 10], [0, 10]), ([11, 11, 0, 1, 2, 3, 4, 5, 6, 7, 8, 9, 10, 11], [0, 11])])
def ag.B25 : List Nat := [0, 0, 0, 6, 14, 0, 0, 96, 224, 510, 1022, 2047, 4095]
theorem ag.tab25 : dW .any (eW Tryz.f42 25) = ag.T25 := by kernel_rfl
theorem ag.bits25 : cZ ag.T25.2 ag.B25 = true := by kernel_rfl
theorem ag.calls (k : Nat) (A0 : Option Addr) (c0 : Nat) (l0 : List Int) (A1 : Option Addr) (c1 : Nat) (l1 : List Int) (a2 : ByteArray) (r : List Int) (w : World) (hr0 : Kd.C (Kd.int .u32) w A0 l0.length l0) (hc0 : l0.length ≤ c0) (hr1 : Kd.C (Kd.int .u32) w A1 l1.length l1) (hc1 : l1.length ≤ c1) (h : ag.f k l0 l1 a2 = some r) :
  Calls Tryz.prog 42 #[.slice A0 l0.length c0, .slice A1 l1.length c1, .string a2] w fun e w' => ∃ E5 : Value, e = .returned (E5) ∧ Kd.R (Kd.int .u32) 45 w' w.heap.size (fun _ => True) E5 r ∧ Below w.heap.size w w' := by
 have F5 := aa.mk hr0
 have s7 := aa.mk hc0
 clear hr0 hc0
 have M6 := aa.mk hr1
 have t7 := aa.mk hc1
 clear hr1 hc1
 have HB := aa.mk (xa w.heap.size w)
 delta ag.f at h
 have H := h
 clear h
 obtain ⟨c3, A4, H⟩ := bN_ H
 have H' := aa.mk H
 clear H
 go_enter Tryz.func42, Tryz.ntmps42
 go_wp2_with (first | ((with_reducible refine ae (f := 40) rfl ?_); refine aq (some 20) rfl rfl Tryz.func40 (by kernel_rfl) rfl #[.string a2] rfl aM_ ?_; (with_reducible refine (bb.calls k a2 c3 _ A4.out).mono ?_); rintro e w5 ⟨N6, rfl, G5, hb⟩; refine ⟨_, rfl, ?_⟩; have n_ := b_ (Kd.R_lower G5 (ab (hB_))) <| c_ (ac (hB_) hb); clear HB; obtain ⟨e3, HB⟩ := n_; (try clear G5)))
 go_loopg [7, 8] k (fun kq v7 v8 w' => ∃ (j0 : List Int) (H0 : Int), v8 = .int .i64 H0 ∧ aa (ag.l0 kq l0 l1 j0 H0 = some r) ∧ aa (kq ≤ k) ∧ aa (Kd.R (Kd.int .u32) 45 w' w.heap.size (fun _ => True) v7 j0) ∧ aa (Below w.heap.size w w'))
 case atStart => exact ⟨(c3), (16), f0_, H', ⟨wa _⟩, ⟨rR_ e3.out⟩, ⟨hB_⟩⟩
 clear H'
 obtain ⟨j0, H0, rfl, HA, M1, d0, HB⟩ := hrel
 rcases gk with _ | k1
 ·exact absurd HA.out (by simp [ag.l0])
 have H := HA.out
 clear HA
 simp only [ag.l0] at H
 by_cases c6 : H0 < 64
 ·rw [za c6] at H
  have y4 := ta c6
  clear c6
  obtain ⟨N1, H1⟩ : ∃ j_ : Int, (wrap64 (H0 - 2)) = j_ := ⟨_, rfl⟩
  first | rw [H1] at H | simp only [H1] at H
  have H5 : (IntKind.i64.wrap (H0 - 2)) = N1 := (bB _).trans H1
  obtain ⟨O6, H⟩ := iD_ H
  obtain ⟨P6, H⟩ := iD_ H
  obtain ⟨I1, w4, H⟩ := bN_ H
  obtain ⟨N0, b1⟩ : ∃ j_ : Int, (wrap64 (H0 - 7)) = j_ := ⟨_, rfl⟩
  first | rw [b1] at H | simp only [b1] at H
  (try rw [b1] at w4)
  have z4 : (IntKind.i64.wrap (H0 - 7)) = N0 := (bB _).trans b1
  obtain ⟨I5, H⟩ := iD_ H
  obtain ⟨J5, H⟩ := iD_ H
  obtain ⟨S0, T0⟩ : ∃ j_ : Int, (wrap64 (H0 - 15)) = j_ := ⟨_, rfl⟩
  first | rw [T0] at H | simp only [T0] at H
  (try rw [T0] at w4)
  have B4 : (IntKind.i64.wrap (H0 - 15)) = S0 := (bB _).trans T0
  obtain ⟨K5, H⟩ := iD_ H
  obtain ⟨L5, H⟩ := iD_ H
  obtain ⟨J1, M5, H⟩ := bN_ H
  obtain ⟨O0, U0⟩ : ∃ j_ : Int, (wrap64 (H0 - 16)) = j_ := ⟨_, rfl⟩
  first | rw [U0] at H | simp only [U0] at H
  (try rw [U0] at w4)
  (try rw [U0] at M5)
  have C4 : (IntKind.i64.wrap (H0 - 16)) = O0 := (bB _).trans U0
  obtain ⟨N5, H⟩ := iD_ H
  obtain ⟨O5, H⟩ := iD_ H
  obtain ⟨P5, H⟩ := iN_ H
  have f3 := aa.mk P5
  clear P5
  obtain ⟨D4, d1⟩ : ∃ y_ : List Int, y_ = (j0 ++ [(((((I1 + (rd j0 (N0))) % 4294967296) + J1) % 4294967296) + (rd j0 (O0))) % 4294967296]) := ⟨_, rfl⟩
  first | replace H := yb_ d1 H | rw [← d1] at H
  have g3 := aa.mk d1
  clear d1
  have H' := aa.mk H
  clear H
  try go_wp2
  have n_ := b_ (Kd.R_drew d0.out) <| c_ (bX HB.out)
  clear d0 HB
  obtain ⟨d0, HB⟩ := n_
  obtain ⟨Q6, E4, i3⟩ := Kd.R_slice d0.out
  (first | subst i3 | (injection i3 with f1_ f2_ f3_; have f4_ := f1_.symm; have f5_ := f3_.symm; clear f1_ f2_ f3_; subst f4_; subst f5_))
  have T1 : 0 ≤ ((N1) : Int) := oD_
  have U1 : (N1) < (j0.length : Int) := oD_
  obtain ⟨J0, F4, e1⟩ := Kd.at_int (Kd.R_reads' d0.out).2.2 (N1) T1 U1
  cases F4
  replace T1 := va T1
  replace U1 := va U1
  have V1 : 0 ≤ ((N0) : Int) := oD_
  have X1 : (N0) < (j0.length : Int) := oD_
  obtain ⟨m3, G4, f1⟩ := Kd.at_int (Kd.R_reads' d0.out).2.2 (N0) V1 X1
  obtain rfl : J0 = m3 := (by injection G4)
  replace V1 := va V1
  replace X1 := va X1
  have Y1 : 0 ≤ ((S0) : Int) := oD_
  have Z1 : (S0) < (j0.length : Int) := oD_
  obtain ⟨n3, H4, g1⟩ := Kd.at_int (Kd.R_reads' d0.out).2.2 (S0) Y1 Z1
  obtain rfl : J0 = n3 := (by injection H4)
  replace Y1 := va Y1
  replace Z1 := va Z1
  have b2 : 0 ≤ ((O0) : Int) := oD_
  have c2 : (O0) < (j0.length : Int) := oD_
  obtain ⟨p3, I4, i1⟩ := Kd.at_int (Kd.R_reads' d0.out).2.2 (O0) b2 c2
  obtain rfl : J0 = p3 := (by injection I4)
  replace b2 := va b2
  replace c2 := va c2
  refine dY (n := 29) (S := fun w' => w'.cell? (J0.add ((N1)).toNat) = some (.int .u32 (rd j0 (N1))) ∧ w'.cell? (J0.add ((N0)).toNat) = some (.int .u32 (rd j0 (N0))) ∧ w'.cell? (J0.add ((S0)).toNat) = some (.int .u32 (rd j0 (S0))) ∧ w'.cell? (J0.add ((O0)).toNat) = some (.int .u32 (rd j0 (O0)))) (ds := [26, 27]) (bb_ 29 0) (by kernel_rfl) rfl rfl ⟨e1, f1, g1, i1⟩ (fun hHeld => ?_); refine cM ag.tab5 ag.bits5 (fun HT_ HW_ => ?_)
  generalize wr.drew = w7 at d0 HB e1 f1 g1 i1 hHeld ⊢
  refine pS_ 0 25 (bb_ 29 1) HT_.out ?_
  refine pS_ 1 26 (bb_ 29 3) HT_.out ?_
  refine pS_ 2 27 (bb_ 29 7) HT_.out ?_
  refine pS_ 3 28 (bb_ 29 15) HT_.out ?_
  refine pS_ 4 29 (bb_ 29 31) HT_.out ?_
  refine pS_ 7 32 (bb_ 29 159) HT_.out ?_
  refine pS_ 8 33 (bb_ 29 415) HT_.out ?_
  refine pS_ 9 34 (bb_ 29 927) HT_.out ?_
  refine pS_ 10 35 (bb_ 29 1951) HT_.out ?_
  refine pS_ 13 38 (bb_ 29 10143) HT_.out ?_
  refine pS_ 14 39 (bb_ 29 26527) HT_.out ?_
  refine pS_ 15 40 (bb_ 29 59295) HT_.out ?_
  refine pS_ 16 41 (bb_ 29 124831) HT_.out ?_
  refine pS_ 20 45 (bb_ 29 1173407) HT_.out ?_
  refine pS_ 21 46 (bb_ 29 3270559) HT_.out ?_
  refine pS_ 22 47 (bb_ 29 7464863) HT_.out ?_
  refine pS_ 23 48 (bb_ 29 15853471) HT_.out ?_
  refine tS_ 5 30 (bb_ 29 15853503) (bA HT_.out HW_.out (by kernel_rfl)) hHeld ?_
  refine tS_ 11 36 (bb_ 29 15855551) (bA HT_.out HW_.out (by kernel_rfl)) hHeld ?_
  refine tS_ 17 42 (bb_ 29 15986623) (bA HT_.out HW_.out (by kernel_rfl)) hHeld ?_
  refine tS_ 24 49 (bb_ 29 32763839) (bA HT_.out HW_.out (by kernel_rfl)) hHeld ?_
  refine fC (i := 6) (N := some 31) (bb_ 29 32763903) rfl rfl (cC HT_.out (by kernel_rfl)) (by decide) (fun K hK => ?_)
  refine fj Tryz.func77 (by kernel_rfl) rfl #[.int .u32 (rd j0 (N1)), .int .u32 131072, .int .u32 524288, .int .u32 1024, .bool true] (by rfl) rfl rfl (by (try simp only [List.map_toArray, List.map_cons, List.map_nil]); first | done | (simp only [H1]; rfl) | rfl | (simp only [List.length_drop, List.length_take]; rfl)) ?_
  with_reducible refine (cI.calls (rd j0 (N1)) 131072 524288 1024 true I1 _ w4.out).mono ?_
  rintro e w' ⟨rfl, ⟨nd, rfl⟩⟩
  refine ⟨_, rfl, ?_⟩
  refine hK.out _ _ ⟨hHeld.1, hHeld.2.1, hHeld.2.2.1, hHeld.2.2.2⟩ (fun hHeld => ?_)
  clear hK K
  refine dV (a' := ?_) ?_ ?_
  rotate_left
  ·show Act.put _ (some 31) _ = _
   simp only [Act.put, List.setIfInBounds_toArray, List.set_cons_zero, List.set_cons_succ, bB, cJ]
   rfl
  refine pS_ 12 37 (bb_ 29 32767999) HT_.out ?_
  refine fC (i := 18) (N := some 43) (bb_ 29 33030143) rfl rfl (cC HT_.out (by kernel_rfl)) (by decide) (fun K hK => ?_)
  refine fj Tryz.func77 (by kernel_rfl) rfl #[.int .u32 (rd j0 (S0)), .int .u32 128, .int .u32 262144, .int .u32 8, .bool true] (by rfl) rfl rfl (by (try simp only [List.map_toArray, List.map_cons, List.map_nil]); first | done | (simp only [T0]; rfl) | rfl | (simp only [List.length_drop, List.length_take]; rfl)) ?_
  with_reducible refine (cI.calls (rd j0 (S0)) 128 262144 8 true J1 _ M5.out).mono ?_
  rintro e w' ⟨rfl, ⟨nd, rfl⟩⟩
  refine ⟨_, rfl, ?_⟩
  refine hK.out _ _ ⟨hHeld.1, hHeld.2.1, hHeld.2.2.1, hHeld.2.2.2⟩ (fun hHeld => ?_)
  clear hK K
  refine dV (a' := ?_) ?_ ?_
  rotate_left
  ·show Act.put _ (some 43) _ = _
   simp only [Act.put, List.setIfInBounds_toArray, List.set_cons_zero, List.set_cons_succ, bB, cJ]
   rfl
  refine pS_ 19 44 (bb_ 29 33554431) HT_.out ?_
  refine pS_ 25 50 (bb_ 29 67108863) HT_.out ?_
  refine gv (i := 26) (N := some 51) (bb_ 29 134217727) rfl rfl (cC HT_.out (by kernel_rfl)) (by decide) (fun K hK => ?_)
  refine nI (w1 := ?_) (v := ?_) (by rfl) rfl ?_ ?_
  rotate_left 2
  ·go_simp
   constructor
   ·rfl
   ·rfl
  refine hK.out _ _ ?_
  clear hK K
  refine dV (a' := ?_) ?_ ?_
  rotate_left
  ·show Act.put _ (some 51) _ = _
   simp only [Act.put, List.setIfInBounds_toArray, List.set_cons_zero, List.set_cons_succ, bB, cJ]
   rfl
  refine gv (i := 27) (N := some 52) (bb_ 29 268435455) rfl rfl (cC HT_.out (by kernel_rfl)) (by decide) (fun K hK => ?_)
  refine Kd.R_append_step (Kd.int .u32) (w0 := w) w.heap.size (by rfl) (.tmp 25) (.tmp 51) 58 45 (.int .u32 0) 4 rfl Tryz.underlying58 mI rfl (by decide) (by omega) (.slice (some J0) j0.length E4) j0 ((((((I1 + (rd j0 (N0))) % 4294967296) + J1) % 4294967296) + (rd j0 (O0))) % 4294967296) [.int .u32 ((((((I1 + (rd j0 (N0))) % 4294967296) + J1) % 4294967296) + (rd j0 (O0))) % 4294967296)] (fun _ => True) (fun _ => False) rfl rfl ?aP (fun _ hk => hk.elim) ?aF ?aO ?aB ?aS ?aL ?_
  (case aP => exact rfl)
  (case aB => exact (hB_))
  (case aF => exact (fun _ _ => trivial))
  (case aO => exact (rR_ d0.out))
  (case aS => exact (ab (hB_)))
  (case aL => have := f3.out; omega)
  intro R6 y7 ho hb hg hat
  rw [← g3.out] at ho
  have n_ := b_ (hb) <| c_ (ho)
  clear HB d0
  obtain ⟨HB, q3⟩ := n_
  clear ho hb hg hat
  refine hK.out _ _ ?_
  clear hK K
  refine dV (a' := ?_) ?_ ?_
  rotate_left
  ·show Act.put _ (some 52) _ = _
   simp only [Act.put, List.setIfInBounds_toArray, List.set_cons_zero, List.set_cons_succ, bB, cJ]
   rfl
  refine pS_ 28 7 (bb_ 29 536870911) HT_.out ?_
  refine eT (dn HT_.out (by kernel_rfl)) ?_
  try go_wp2
  go_roundg k1
  case measure => have := M1.out; omega
  case rel => exact ⟨(D4), (wrap64 (H0 + 1)), f0_, H', ⟨by have := M1.out; omega⟩, ⟨rR_ q3.out⟩, ⟨hB_⟩⟩
 rw [Aa c6] at H
 have y4 := ua c6
 clear c6
 obtain ⟨r3, j1⟩ : ∃ y_ : List Int, y_ = (([] : List Int)) := ⟨_, rfl⟩
 first | replace H := yb_ j1 H | rw [← j1] at H
 have O1 := aa.mk j1
 clear j1
 obtain ⟨Q5, H⟩ := iN_ H
 have t3 := aa.mk Q5
 clear Q5
 obtain ⟨J4, m1⟩ : ∃ y_ : List Int, y_ = (r3 ++ l0) := ⟨_, rfl⟩
 first | replace H := yb_ m1 H | rw [← m1] at H
 have u3 := aa.mk m1
 clear m1
 have H' := aa.mk H
 clear H
 go_wp2_with (first | ((with_reducible refine aI (N := 53) rfl ?_); refine Kd.R_lit (Kd.int .u32) _ 45 ?hg (N := 53) ?hd (xs := ([] : List Int)) (inner := []) (ok := fun _ => True) (okp := fun _ => True) ?hr ?hp (fun _ hk => hk) trivial (xa _ _) (wa _) (by simp) ?_; (case hd => rfl); (case hg => rfl); (case hr => first | (go_simp; done) | (go_simp; rfl)); (case hp => exact (br.none _ _)); intro K4 z7 D1 hb hg_ hnew_; clear hg_ hnew_; (first | rw [← O1.out] at D1 | (simp only [Int.reduceToNat] at D1; rw [← O1.out] at D1)); have n_ := b_ (Kd.R_elder' (rR_ d0.out) (Kd.R_base D1) hb) <| b_ (Kd.R_lower (Kd.R_new' D1 (Kd.R_lt (rR_ d0.out))) (ab (hB_))) <| c_ (ac (hB_) hb); clear d0 HB; obtain ⟨d0, P1, HB⟩ := n_; clear hb D1) | ((with_reducible refine aV (b := .append) (xs := #[.tmp 53, .tmp 54]) rfl ?_); at_builtin; refine Kd.R_append_rows (Kd.int .u32) (w0 := w) w.heap.size rfl (.tmp 53) (.tmp 54) 58 45 (.int .u32 0) 4 rfl Tryz.underlying58 mI rfl (by decide) (by omega) K4 r3 l0 _ _ _ (fun k_ => some k_ ≠ (u7 : Value).ownBlock) (fun _ => False) rfl rfl ?aO ?aR (fun _ _ h => h) (fun _ h => h.elim) ?aF ?aB ?aS ?aL ?_; (case aR => exact cR_ (Kd.C_below F5.out HB.out)); (case aB => exact (hB_)); (case aF => exact (fun k_ hk => Kd.fresh' (Kd.R_lt (rR_ d0.out)) k_ hk)); (case aO => exact (by refine kR_ ?_; exact Kd.R_mono P1.out (fun _ hk => hk.2))); (case aS => exact (ab (hB_))); (case aL => have := t3.out; omega); intro K1 A7 ho hb hg hat; rw [← u3.out] at ho; have n_ := b_ (Kd.R_after (ok := (fun _ => True)) (rR_ d0.out) hg hat) <| b_ (hb) <| c_ (ho); clear P1 d0 HB; obtain ⟨d0, HB, v3⟩ := n_; clear ho hb hg hat))
 go_loopg [10] k1 (fun kq S6 w' => ∃ (a0 : List Int) (f0 : Int), S6 = .int .i64 f0 ∧ aa (ag.l1 kq l0 l1 j0 a0 f0 = some r) ∧ aa (kq ≤ k1) ∧ aa (Kd.R (Kd.int .u32) 45 w' w.heap.size (fun k_ => some k_ ≠ (K1 : Value).ownBlock) u7 j0) ∧ aa (Kd.R (Kd.int .u32) 45 w' w.heap.size (fun k_ => some k_ ≠ (u7 : Value).ownBlock) K1 a0) ∧ aa (Below w.heap.size w w'))
 case atStart => exact ⟨(J4), (0), f0_, H', ⟨wa _⟩, ⟨by refine kR_ ?_; exact Kd.R_mono d0.out (fun _ hk => hk.2)⟩, ⟨rR_ v3.out⟩, ⟨hB_⟩⟩
 clear H'
 obtain ⟨a0, f0, rfl, HA, X2, d0, b0, HB⟩ := hrel
 rcases gk with _ | k2
 ·exact absurd HA.out (by simp [ag.l1])
 have H := HA.out
 clear HA
 simp only [ag.l1] at H
 by_cases Y2 : f0 < 64
 rotate_left
 ·rw [Aa Y2] at H
  have w3 := ua Y2
  clear Y2
  obtain ⟨L4, n1⟩ : ∃ y_ : List Int, y_ = (([] : List Int)) := ⟨_, rfl⟩
  first | replace H := yb_ n1 H | rw [← n1] at H
  have Q1 := aa.mk n1
  clear n1
  have H' := aa.mk H
  clear H
  go_wp2_with (first | ((with_reducible refine aI (N := 146) rfl ?_); refine Kd.R_lit (Kd.int .u32) _ 45 ?hg (N := 146) ?hd (xs := ([] : List Int)) (inner := []) (ok := fun _ => True) (okp := fun _ => True) ?hr ?hp (fun _ hk => hk) trivial (xa _ _) (wa _) (by simp) ?_; (case hd => rfl); (case hg => rfl); (case hr => first | (go_simp; done) | (go_simp; rfl)); (case hp => exact (br.none _ _)); intro T6 B7 Y0 hb hg_ hnew_; clear hg_ hnew_; (first | rw [← Q1.out] at Y0 | (simp only [Int.reduceToNat] at Y0; rw [← Q1.out] at Y0)); have n_ := b_ (Kd.R_elder' (rR_ d0.out) (Kd.R_base Y0) hb) <| b_ (Kd.R_elder' (rR_ b0.out) (Kd.R_base Y0) hb) <| b_ (Kd.R_lower (Kd.R_new' (Kd.R_new' Y0 (Kd.R_lt (rR_ d0.out))) (Kd.R_lt (rR_ b0.out))) (ab (hB_))) <| c_ (ac (hB_) hb); clear d0 b0 HB; obtain ⟨d0, b0, y3, HB⟩ := n_; clear hb Y0))
  go_loopg [17, 18] k2 (fun kq R5 U6 w' => ∃ (V0 : List Int) (k0 : Int), U6 = .int .i64 k0 ∧ aa (ag.l3 kq l0 a0 V0 k0 = some r) ∧ aa (kq ≤ k2) ∧ aa (Kd.R (Kd.int .u32) 45 w' w.heap.size (fun k_ => some k_ ≠ (R5 : Value).ownBlock) K1 a0) ∧ aa (Kd.R (Kd.int .u32) 45 w' w.heap.size (fun k_ => some k_ ≠ (K1 : Value).ownBlock) R5 V0) ∧ aa (Below w.heap.size w w'))
  case atStart => exact ⟨(L4), (0), f0_, H', ⟨wa _⟩, ⟨by refine kR_ ?_; exact Kd.R_mono b0.out (fun _ hk => hk.2)⟩, ⟨by refine kR_ ?_; exact Kd.R_mono y3.out (fun _ hk => hk.2)⟩, ⟨hB_⟩⟩
  clear H'
  obtain ⟨V0, k0, rfl, HA, e2, b0, M0, HB⟩ := hrel
  rcases gk with _ | k3
  ·exact absurd HA.out (by simp [ag.l3])
  have H := HA.out
  clear HA
  simp only [ag.l3] at H
  by_cases Z2 : k0 < 8
  rotate_left
  ·rw [Aa Z2] at H
   have z3 := ua Z2
   clear Z2
   obtain rfl := sI H
   go_wp2
   go_ret
   exact ⟨_, f1_, by refine kR_ ?_; exact Kd.R_mono M0.out (fun _ hk => trivial), hB_⟩
  rw [za Z2] at H
  have z3 := ta Z2
  clear Z2
  obtain ⟨S5, H⟩ := iD_ H
  obtain ⟨T5, H⟩ := iD_ H
  obtain ⟨U5, H⟩ := iD_ H
  obtain ⟨V5, H⟩ := iN_ H
  have A3 := aa.mk V5
  clear V5
  obtain ⟨M4, p1⟩ : ∃ y_ : List Int, y_ = (V0 ++ [((rd l0 k0) + (rd a0 k0)) % 4294967296]) := ⟨_, rfl⟩
  first | replace H := yb_ p1 H | rw [← p1] at H
  have B3 := aa.mk p1
  clear p1
  have H' := aa.mk H
  clear H
  try go_wp2
  have n_ := b_ (Kd.R_drew b0.out) <| b_ (Kd.R_drew M0.out) <| c_ (bX HB.out)
  clear b0 M0 HB
  obtain ⟨b0, M0, HB⟩ := n_
  have f2 : 0 ≤ (k0 : Int) := oD_
  have g2 : k0 < (l0.length : Int) := oD_
  obtain ⟨C3, N4, t0⟩ := Kd.at_int F5.out k0 f2 g2
  have q1 := t0
  cases N4
  replace t0 := (HB.out.cell (World.block_lt_of_cell? w _ t0)).trans t0
  replace f2 := va f2
  replace g2 := va g2
  obtain ⟨V6, O4, D3⟩ := Kd.R_slice b0.out
  (first | subst D3 | (injection D3 with f1_ f2_ f3_; have f4_ := f1_.symm; have f5_ := f3_.symm; clear f1_ f2_ f3_; subst f4_; subst f5_))
  have i2 : 0 ≤ (k0 : Int) := oD_
  have j2 : k0 < (a0.length : Int) := oD_
  obtain ⟨R1, P4, r1⟩ := Kd.at_int (Kd.R_reads' b0.out).2.2 k0 i2 j2
  cases P4
  replace i2 := va i2
  replace j2 := va j2
  refine dY (n := 13) (S := fun w' => w'.cell? (C3.add (k0).toNat) = some (.int .u32 (rd l0 k0)) ∧ w'.cell? (R1.add (k0).toNat) = some (.int .u32 (rd a0 k0))) (ds := [10, 11]) (bb_ 13 0) (by kernel_rfl) rfl rfl ⟨((HB.out.cell (World.block_lt_of_cell? w _ q1)).trans q1), r1⟩ (fun hHeld => ?_); refine cM ag.tab25 ag.bits25 (fun HT_ HW_ => ?_)
  generalize wr.drew = C7 at b0 M0 HB t0 r1 hHeld ⊢
  refine pS_ 0 151 (bb_ 13 1) HT_.out ?_
  refine pS_ 1 152 (bb_ 13 3) HT_.out ?_
  refine pS_ 2 153 (bb_ 13 7) HT_.out ?_
  refine pS_ 3 154 (bb_ 13 15) HT_.out ?_
  refine pS_ 5 156 (bb_ 13 47) HT_.out ?_
  refine pS_ 6 157 (bb_ 13 111) HT_.out ?_
  refine pS_ 7 158 (bb_ 13 239) HT_.out ?_
  refine tS_ 4 155 (bb_ 13 255) (bA HT_.out HW_.out (by kernel_rfl)) hHeld ?_
  refine tS_ 8 159 (bb_ 13 511) (bA HT_.out HW_.out (by kernel_rfl)) hHeld ?_
  refine pS_ 9 160 (bb_ 13 1023) HT_.out ?_
  refine gv (i := 10) (N := some 161) (bb_ 13 2047) rfl rfl (cC HT_.out (by kernel_rfl)) (by decide) (fun K hK => ?_)
  refine nI (w1 := ?_) (v := ?_) (by rfl) rfl ?_ ?_
  rotate_left 2
  ·go_simp
   constructor
   ·rfl
   ·rfl
  refine hK.out _ _ ?_
  clear hK K
  refine dV (a' := ?_) ?_ ?_
  rotate_left
  ·show Act.put _ (some 161) _ = _
   simp only [Act.put, List.setIfInBounds_toArray, List.set_cons_zero, List.set_cons_succ, bB, cJ]
   rfl
  refine gv (i := 11) (N := some 162) (bb_ 13 4095) rfl rfl (cC HT_.out (by kernel_rfl)) (by decide) (fun K hK => ?_)
  refine Kd.R_append_step (Kd.int .u32) (w0 := w) w.heap.size (by rfl) (.tmp 151) (.tmp 161) 58 45 (.int .u32 0) 4 rfl Tryz.underlying58 mI rfl (by decide) (by omega) u17 V0 (((rd l0 k0) + (rd a0 k0)) % 4294967296) [.int .u32 (((rd l0 k0) + (rd a0 k0)) % 4294967296)] (fun k_ => some k_ ≠ (.slice (some R1) a0.length O4 : Value).ownBlock) (fun _ => False) rfl rfl ?aP (fun _ hk => hk.elim) ?aF ?aO ?aB ?aS ?aL ?_
  (case aP => exact rfl)
  (case aB => exact (hB_))
  (case aF => exact (fun k_ hk => Kd.fresh' (Kd.R_lt (rR_ b0.out)) k_ hk))
  (case aO => exact (rR_ M0.out))
  (case aS => exact (ab (hB_)))
  (case aL => have := A3.out; omega)
  intro W6 D7 ho hb hg hat
  rw [← B3.out] at ho
  have n_ := b_ (Kd.R_after (ok := (fun _ => True)) (by refine kR_ ?_; exact Kd.R_mono b0.out (fun _ hk => ⟨trivial, hk⟩)) hg hat) <| b_ (hb) <| c_ (ho)
  clear b0 HB M0
  obtain ⟨b0, HB, E3⟩ := n_
  clear ho hb hg hat
  refine hK.out _ _ ?_
  clear hK K
  refine dV (a' := ?_) ?_ ?_
  rotate_left
  ·show Act.put _ (some 162) _ = _
   simp only [Act.put, List.setIfInBounds_toArray, List.set_cons_zero, List.set_cons_succ, bB, cJ]
   rfl
  refine pS_ 12 17 (bb_ 13 8191) HT_.out ?_
  refine eT (dn HT_.out (by kernel_rfl)) ?_
  try go_wp2
  go_roundg k3
  case measure => have := M1.out; have := X2.out; have := e2.out; omega
  case rel => exact ⟨(M4), (wrap64 (k0 + 1)), f0_, H', ⟨by have := M1.out; have := X2.out; have := e2.out; omega⟩, ⟨by refine kR_ ?_; exact Kd.R_mono b0.out (fun _ hk => hk.2)⟩, ⟨rR_ E3.out⟩, ⟨hB_⟩⟩
 rw [za Y2] at H
 have w3 := ta Y2
 clear Y2
 obtain ⟨W5, H⟩ := iN_ H
 have X5 := ta W5
 have Y5 : decide (4 < a0.length) = true := ta (by omega)
 clear W5
 obtain ⟨Z5, H⟩ := iN_ H
 have b6 := ta Z5
 have e6 : decide (5 < a0.length) = true := ta (by omega)
 clear Z5
 obtain ⟨f6, H⟩ := iN_ H
 have g6 := ta f6
 have i6 : decide (6 < a0.length) = true := ta (by omega)
 clear f6
 obtain ⟨k6, H⟩ := iN_ H
 have q6 := ta k6
 have s6 : decide (7 < a0.length) = true := ta (by omega)
 clear k6
 obtain ⟨W0, X6, H⟩ := bN_ H
 obtain ⟨t6, H⟩ := iD_ H
 obtain ⟨u6, H⟩ := iD_ H
 obtain ⟨v6, H⟩ := iD_ H
 obtain ⟨w6, H⟩ := iN_ H
 have y6 := ta w6
 have z6 : decide (0 < a0.length) = true := ta (by omega)
 clear w6
 obtain ⟨A6, H⟩ := iN_ H
 have B6 := ta A6
 have C6 : decide (1 < a0.length) = true := ta (by omega)
 clear A6
 obtain ⟨D6, H⟩ := iN_ H
 have E6 := ta D6
 have F6 : decide (2 < a0.length) = true := ta (by omega)
 clear D6
 obtain ⟨E1, Y6, H⟩ := bN_ H
 have H' := aa.mk H
 clear H
 obtain ⟨Z6, I0, Q4⟩ := Kd.R_slice b0.out
 subst Q4
 have m2 : 0 ≤ (4 : Int) := (by omega)
 have n2 : 4 < (a0.length : Int) := oD_
 obtain ⟨e0, R4, P0⟩ := Kd.at_int (Kd.R_reads' b0.out).2.2 4 m2 n2
 cases R4
 (try simp only [show (4 : Int).toNat = 4 from rfl, Nat.reduceMul, Nat.reduceEqDiff, Go.Addr.add, ↓reduceIte] at P0)
 have qi134 : (4 < a0.length) = True := va (by omega)
 (try rw [show ((4 : Int)).toNat = 4 from rfl] at P0)
 replace m2 := va m2
 replace n2 := va n2
 try go_wp2
 have n_ := b_ (Kd.R_drew d0.out) <| b_ (Kd.R_drew b0.out) <| c_ (bX HB.out)
 clear d0 b0 HB
 obtain ⟨d0, b0, HB⟩ := n_
 have p2 : 0 ≤ (5 : Int) := (by omega)
 have q2 : 5 < (a0.length : Int) := oD_
 obtain ⟨F3, S4, u0⟩ := Kd.at_int (Kd.R_reads' b0.out).2.2 5 p2 q2
 obtain rfl : e0 = F3 := (by injection S4)
 (try simp only [show (5 : Int).toNat = 5 from rfl, Nat.reduceMul, Nat.reduceEqDiff, Go.Addr.add, ↓reduceIte] at u0)
 have qi135 : (5 < a0.length) = True := va (by omega)
 (try rw [show ((5 : Int)).toNat = 5 from rfl] at u0)
 replace p2 := va p2
 replace q2 := va q2
 have r2 : 0 ≤ (6 : Int) := (by omega)
 have t2 : 6 < (a0.length : Int) := oD_
 obtain ⟨G3, T4, v0⟩ := Kd.at_int (Kd.R_reads' b0.out).2.2 6 r2 t2
 obtain rfl : e0 = G3 := (by injection T4)
 (try simp only [show (6 : Int).toNat = 6 from rfl, Nat.reduceMul, Nat.reduceEqDiff, Go.Addr.add, ↓reduceIte] at v0)
 have qi136 : (6 < a0.length) = True := va (by omega)
 (try rw [show ((6 : Int)).toNat = 6 from rfl] at v0)
 replace r2 := va r2
 replace t2 := va t2
 refine dY (n := 13) (S := fun w' => w'.cell? ⟨e0.block, e0.off + 5, none⟩ = some (.int .u32 (rd a0 5)) ∧ w'.cell? ⟨e0.block, e0.off + 6, none⟩ = some (.int .u32 (rd a0 6))) (ds := []) (bb_ 13 0) (by kernel_rfl) rfl rfl ⟨u0, v0⟩ (fun hHeld => ?_); refine cM ag.tab11 ag.bits11 (fun HT_ HW_ => ?_)
 generalize wr.drew = c7 at d0 b0 HB u0 v0 hHeld ⊢
 refine pS_ 0 63 (bb_ 13 1) HT_.out ?_
 refine pS_ 1 64 (bb_ 13 3) HT_.out ?_
 refine pS_ 2 65 (bb_ 13 7) HT_.out ?_
 refine pS_ 5 68 (bb_ 13 39) HT_.out ?_
 refine pS_ 6 69 (bb_ 13 103) HT_.out ?_
 refine pS_ 7 70 (bb_ 13 231) HT_.out ?_
 refine pS_ 8 71 (bb_ 13 487) HT_.out ?_
 refine tS_ 3 66 (bb_ 13 495) (bA HT_.out HW_.out (by kernel_rfl)) hHeld ?_
 refine pS_ 4 67 (bb_ 13 511) HT_.out ?_
 refine tS_ 9 72 (bb_ 13 1023) (bA HT_.out HW_.out (by kernel_rfl)) hHeld ?_
 refine pS_ 10 73 (bb_ 13 2047) HT_.out ?_
 refine pS_ 11 74 (bb_ 13 4095) HT_.out ?_
 refine pS_ 12 12 (bb_ 13 8191) HT_.out ?_
 refine eT (dn HT_.out (by kernel_rfl)) ?_
 try go_wp2
 have n_ := b_ (Kd.R_drew d0.out) <| b_ (Kd.R_drew b0.out) <| c_ (bX HB.out)
 clear d0 b0 HB
 obtain ⟨d0, b0, HB⟩ := n_
 have u2 : 0 ≤ (7 : Int) := (by omega)
 have v2 : 7 < (a0.length : Int) := oD_
 obtain ⟨H3, U4, x0⟩ := Kd.at_int (Kd.R_reads' b0.out).2.2 7 u2 v2
 obtain rfl : e0 = H3 := (by injection U4)
 (try simp only [show (7 : Int).toNat = 7 from rfl, Nat.reduceMul, Nat.reduceEqDiff, Go.Addr.add, ↓reduceIte] at x0)
 have qi137 : (7 < a0.length) = True := va (by omega)
 (try rw [show ((7 : Int)).toNat = 7 from rfl] at x0)
 replace u2 := va u2
 replace v2 := va v2
 have y2 : 0 ≤ (f0 : Int) := oD_
 have z2 : f0 < (l1.length : Int) := oD_
 obtain ⟨I3, V4, y0⟩ := Kd.at_int M6.out f0 y2 z2
 have L0 := y0
 cases V4
 replace y0 := (HB.out.cell (World.block_lt_of_cell? w _ y0)).trans y0
 replace y2 := va y2
 replace z2 := va z2
 obtain ⟨e7, Z0, J3⟩ := Kd.R_slice d0.out
 (first | subst J3 | (injection J3 with f1_ f2_ f3_; have f4_ := f1_.symm; have f5_ := f3_.symm; clear f1_ f2_ f3_; subst f4_; subst f5_))
 have A2 : 0 ≤ (f0 : Int) := oD_
 have B2 : f0 < (j0.length : Int) := oD_
 obtain ⟨K0, W4, t1⟩ := Kd.at_int (Kd.R_reads' d0.out).2.2 f0 A2 B2
 cases W4
 replace A2 := va A2
 replace B2 := va B2
 refine dY (n := 19) (S := fun w' => w'.cell? ⟨e0.block, e0.off + 7, none⟩ = some (.int .u32 (rd a0 7)) ∧ w'.cell? (I3.add (f0).toNat) = some (.int .u32 (rd l1 f0)) ∧ w'.cell? (K0.add (f0).toNat) = some (.int .u32 (rd j0 f0))) (ds := []) (bb_ 19 0) (by kernel_rfl) rfl rfl ⟨x0, ((HB.out.cell (World.block_lt_of_cell? w _ L0)).trans L0), t1⟩ (fun hHeld => ?_); refine cM ag.tab12 ag.bits12 (fun HT_ HW_ => ?_)
 generalize c7.drew = C2 at d0 b0 HB x0 y0 t1 hHeld ⊢
 refine pS_ 0 75 (bb_ 19 1) HT_.out ?_
 refine pS_ 1 76 (bb_ 19 3) HT_.out ?_
 refine pS_ 3 78 (bb_ 19 11) HT_.out ?_
 refine pS_ 6 81 (bb_ 19 75) HT_.out ?_
 refine pS_ 8 83 (bb_ 19 331) HT_.out ?_
 refine pS_ 9 84 (bb_ 19 843) HT_.out ?_
 refine pS_ 10 85 (bb_ 19 1867) HT_.out ?_
 refine pS_ 13 88 (bb_ 19 10059) HT_.out ?_
 refine pS_ 14 89 (bb_ 19 26443) HT_.out ?_
 refine pS_ 15 90 (bb_ 19 59211) HT_.out ?_
 refine tS_ 2 77 (bb_ 19 59215) (bA HT_.out HW_.out (by kernel_rfl)) hHeld ?_
 refine tS_ 11 86 (bb_ 19 61263) (bA HT_.out HW_.out (by kernel_rfl)) hHeld ?_
 refine tS_ 16 91 (bb_ 19 126799) (bA HT_.out HW_.out (by kernel_rfl)) hHeld ?_
 refine fC (i := 4) (N := some 79) (bb_ 19 126815) rfl rfl (cC HT_.out (by kernel_rfl)) (by decide) (fun K hK => ?_)
 refine fj Tryz.func77 (by kernel_rfl) rfl #[.int .u32 (rd a0 4), .int .u32 64, .int .u32 2048, .int .u32 33554432, .bool false] (by rfl) rfl rfl aM_ ?_
 with_reducible refine (cI.calls (rd a0 4) 64 2048 33554432 false W0 _ X6.out).mono ?_
 rintro e w' ⟨rfl, ⟨nd, rfl⟩⟩
 refine ⟨_, rfl, ?_⟩
 refine hK.out _ _ ⟨hHeld.1, ((HB.out.cell (World.block_lt_of_cell? w _ L0)).trans L0), hHeld.2.2⟩ (fun hHeld => ?_)
 clear hK K
 refine dV (a' := ?_) ?_ ?_
 rotate_left
 ·show Act.put _ (some 79) _ = _
  simp only [Act.put, List.setIfInBounds_toArray, List.set_cons_zero, List.set_cons_succ, bB, cJ]
  rfl
 refine pS_ 5 80 (bb_ 19 126847) HT_.out ?_
 refine pS_ 7 82 (bb_ 19 126975) HT_.out ?_
 refine pS_ 12 87 (bb_ 19 131071) HT_.out ?_
 refine pS_ 17 92 (bb_ 19 262143) HT_.out ?_
 refine pS_ 18 13 (bb_ 19 524287) HT_.out ?_
 refine eT (dn HT_.out (by kernel_rfl)) ?_
 try go_wp2
 (try (rw [cU C2]; generalize hq_ : World.drewN C2 _ = C2; have n_ := b_ (show Kd.R (Kd.int .u32) 45 C2 w.heap.size (fun k_ => some k_ ≠ (.slice (some e0) a0.length I0 : Value).ownBlock) (.slice (some K0) j0.length Z0) j0 from by rw [← hq_]; exact (rR_ d0.out)) <| b_ (show Kd.R (Kd.int .u32) 45 C2 w.heap.size (fun k_ => some k_ ≠ (.slice (some K0) j0.length Z0 : Value).ownBlock) (.slice (some e0) a0.length I0) a0 from by rw [← hq_]; exact (rR_ b0.out)) <| c_ (show Below w.heap.size w C2 from by rw [← hq_]; exact (hB_)); clear d0 b0 HB hq_; obtain ⟨d0, b0, HB⟩ := n_))
 have n_ := b_ (Kd.R_drew d0.out) <| b_ (Kd.R_drew b0.out) <| c_ (bX HB.out)
 clear d0 b0 HB
 obtain ⟨d0, b0, HB⟩ := n_
 have D2 : 0 ≤ (0 : Int) := (by omega)
 have E2 : 0 < (a0.length : Int) := oD_
 obtain ⟨K3, X4, B0⟩ := Kd.at_int (Kd.R_reads' b0.out).2.2 0 D2 E2
 obtain rfl : e0 = K3 := (by injection X4)
 have qi141 : (0 < a0.length) = True := va (by omega)
 (try rw [show ((0 : Int)).toNat = 0 from rfl] at B0)
 (try rw [Addr.add_zero'] at B0)
 replace D2 := va D2
 replace E2 := va E2
 have F2 : 0 ≤ (1 : Int) := (by omega)
 have G2 : 1 < (a0.length : Int) := oD_
 obtain ⟨L3, Y4, C0⟩ := Kd.at_int (Kd.R_reads' b0.out).2.2 1 F2 G2
 obtain rfl : e0 = L3 := (by injection Y4)
 (try simp only [show (1 : Int).toNat = 1 from rfl, Nat.reduceMul, Nat.reduceEqDiff, Go.Addr.add, ↓reduceIte] at C0)
 have qi142 : (1 < a0.length) = True := va (by omega)
 (try rw [show ((1 : Int)).toNat = 1 from rfl] at C0)
 replace F2 := va F2
 replace G2 := va G2
 have H2 : 0 ≤ (0 : Int) := (by omega)
 have I2 : 0 < (a0.length : Int) := oD_
 obtain ⟨M3, Z4, D0⟩ := Kd.at_int (Kd.R_reads' b0.out).2.2 0 H2 I2
 obtain rfl : e0 = M3 := (by injection Z4)
 have qi143 : (0 < a0.length) = True := va (by omega)
 (try rw [show ((0 : Int)).toNat = 0 from rfl] at D0)
 (try rw [Addr.add_zero'] at D0)
 replace H2 := va H2
 replace I2 := va I2
 have J2 : 0 ≤ (2 : Int) := (by omega)
 have K2 : 2 < (a0.length : Int) := oD_
 obtain ⟨N3, b5, E0⟩ := Kd.at_int (Kd.R_reads' b0.out).2.2 2 J2 K2
 obtain rfl : e0 = N3 := (by injection b5)
 (try simp only [show (2 : Int).toNat = 2 from rfl, Nat.reduceMul, Nat.reduceEqDiff, Go.Addr.add, ↓reduceIte] at E0)
 have qi144 : (2 < a0.length) = True := va (by omega)
 (try rw [show ((2 : Int)).toNat = 2 from rfl] at E0)
 replace J2 := va J2
 replace K2 := va K2
 have L2 : 0 ≤ (1 : Int) := (by omega)
 have M2 : 1 < (a0.length : Int) := oD_
 obtain ⟨O3, c5, F0⟩ := Kd.at_int (Kd.R_reads' b0.out).2.2 1 L2 M2
 obtain rfl : e0 = O3 := (by injection c5)
 (try simp only [show (1 : Int).toNat = 1 from rfl, Nat.reduceMul, Nat.reduceEqDiff, Go.Addr.add, ↓reduceIte] at F0)
 have qi145 : (1 < a0.length) = True := va (by omega)
 (try rw [show ((1 : Int)).toNat = 1 from rfl] at F0)
 replace L2 := va L2
 replace M2 := va M2
 have N2 : 0 ≤ (2 : Int) := (by omega)
 have O2 : 2 < (a0.length : Int) := oD_
 obtain ⟨P3, e5, G0⟩ := Kd.at_int (Kd.R_reads' b0.out).2.2 2 N2 O2
 obtain rfl : e0 = P3 := (by injection e5)
 (try simp only [show (2 : Int).toNat = 2 from rfl, Nat.reduceMul, Nat.reduceEqDiff, Go.Addr.add, ↓reduceIte] at G0)
 have qi146 : (2 < a0.length) = True := va (by omega)
 (try rw [show ((2 : Int)).toNat = 2 from rfl] at G0)
 replace N2 := va N2
 replace O2 := va O2
 refine dY (n := 24) (S := fun w' => w'.cell? e0 = some (.int .u32 (rd a0 0)) ∧ w'.cell? ⟨e0.block, e0.off + 1, none⟩ = some (.int .u32 (rd a0 1)) ∧ w'.cell? e0 = some (.int .u32 (rd a0 0)) ∧ w'.cell? ⟨e0.block, e0.off + 2, none⟩ = some (.int .u32 (rd a0 2)) ∧ w'.cell? ⟨e0.block, e0.off + 1, none⟩ = some (.int .u32 (rd a0 1)) ∧ w'.cell? ⟨e0.block, e0.off + 2, none⟩ = some (.int .u32 (rd a0 2))) (ds := []) (bb_ 24 0) (by kernel_rfl) rfl rfl ⟨B0, C0, D0, E0, F0, G0⟩ (fun hHeld => ?_); refine cM ag.tab13 ag.bits13 (fun HT_ HW_ => ?_)
 generalize C2.drew = E7 at d0 b0 HB B0 C0 D0 E0 F0 G0 hHeld ⊢
 refine pS_ 0 93 (bb_ 24 1) HT_.out ?_
 refine pS_ 1 94 (bb_ 24 3) HT_.out ?_
 refine pS_ 3 96 (bb_ 24 11) HT_.out ?_
 refine pS_ 4 97 (bb_ 24 27) HT_.out ?_
 refine pS_ 7 100 (bb_ 24 155) HT_.out ?_
 refine pS_ 8 101 (bb_ 24 411) HT_.out ?_
 refine pS_ 10 103 (bb_ 24 1435) HT_.out ?_
 refine pS_ 11 104 (bb_ 24 3483) HT_.out ?_
 refine pS_ 15 108 (bb_ 24 36251) HT_.out ?_
 refine pS_ 16 109 (bb_ 24 101787) HT_.out ?_
 refine pS_ 18 111 (bb_ 24 363931) HT_.out ?_
 refine pS_ 19 112 (bb_ 24 888219) HT_.out ?_
 refine tS_ 2 95 (bb_ 24 888223) (bA HT_.out HW_.out (by kernel_rfl)) hHeld ?_
 refine tS_ 5 98 (bb_ 24 888255) (bA HT_.out HW_.out (by kernel_rfl)) hHeld ?_
 refine pS_ 6 99 (bb_ 24 888319) HT_.out ?_
 refine tS_ 9 102 (bb_ 24 888831) (bA HT_.out HW_.out (by kernel_rfl)) hHeld ?_
 refine tS_ 12 105 (bb_ 24 892927) (bA HT_.out HW_.out (by kernel_rfl)) hHeld ?_
 refine pS_ 13 106 (bb_ 24 901119) HT_.out ?_
 refine pS_ 14 107 (bb_ 24 917503) HT_.out ?_
 refine tS_ 17 110 (bb_ 24 1048575) (bA HT_.out HW_.out (by kernel_rfl)) hHeld ?_
 refine tS_ 20 113 (bb_ 24 2097151) (bA HT_.out HW_.out (by kernel_rfl)) hHeld ?_
 refine pS_ 21 114 (bb_ 24 4194303) HT_.out ?_
 refine pS_ 22 115 (bb_ 24 8388607) HT_.out ?_
 refine pS_ 23 14 (bb_ 24 16777215) HT_.out ?_
 refine eT (dn HT_.out (by kernel_rfl)) ?_
 have P2 : 0 ≤ (0 : Int) := (by omega)
 have Q2 : 0 < (a0.length : Int) := oD_
 obtain ⟨Q3, f5, Q0⟩ := Kd.at_int (Kd.R_reads' b0.out).2.2 0 P2 Q2
 obtain rfl : e0 = Q3 := (by injection f5)
 have qi147 : (0 < a0.length) = True := va (by omega)
 (try rw [show ((0 : Int)).toNat = 0 from rfl] at Q0)
 (try rw [Addr.add_zero'] at Q0)
 replace P2 := va P2
 replace Q2 := va Q2
 try go_wp2_with (first | ((with_reducible refine ae (f := 77) rfl ?_); refine aq (some 119) rfl rfl Tryz.func77 (by kernel_rfl) rfl #[.int .u32 (rd a0 0), .int .u32 4, .int .u32 8192, .int .u32 4194304, .bool false] rfl aM_ ?_; (with_reducible refine (cI.calls (rd a0 0) 4 8192 4194304 false E1 _ Y6.out).mono ?_); rintro e w' ⟨rfl, ⟨nd, rfl⟩⟩; refine ⟨_, rfl, ?_⟩))
 go_loopg [16] k2 (fun kq i7 w' => ∃ (p0 : List Int) (r0 : Int), i7 = .int .i64 r0 ∧ aa (ag.l2 kq l0 l1 j0 p0 f0 (((((((((rd a0 7) + W0) % 4294967296) + (Go.bits .xor .u32 (Go.bits .and .u32 (rd a0 4) (rd a0 5)) (Go.bits .and .u32 ((4294967295 - (rd a0 4)) % 4294967296) (rd a0 6)))) % 4294967296) + (rd l1 f0)) % 4294967296) + (rd j0 f0)) % 4294967296) ((E1 + (Go.bits .xor .u32 (Go.bits .xor .u32 (Go.bits .and .u32 (rd a0 0) (rd a0 1)) (Go.bits .and .u32 (rd a0 0) (rd a0 2))) (Go.bits .and .u32 (rd a0 1) (rd a0 2)))) % 4294967296) r0 = some r) ∧ aa (kq ≤ k2) ∧ aa (Kd.R (Kd.int .u32) 45 w' w.heap.size (fun k_ => some k_ ≠ ((.slice (some e0) a0.length I0) : Value).ownBlock) (.slice (some K0) j0.length Z0) j0) ∧ aa (Kd.R (Kd.int .u32) 45 w' w.heap.size (fun k_ => some k_ ≠ ((.slice (some K0) j0.length Z0) : Value).ownBlock) (.slice (some e0) a0.length I0) p0) ∧ aa (Below w.heap.size w w'))
 case atStart => exact ⟨(a0), (7), f0_, H', ⟨wa _⟩, ⟨rR_ d0.out⟩, ⟨rR_ b0.out⟩, ⟨hB_⟩⟩
 clear H'
 obtain ⟨p0, r0, rfl, HA, e2, d0, b0, HB⟩ := hrel
 have q0 := (Kd.R_reads' b0.out).1
 rw [q0] at b0
 (try simp only [q0])
 (try simp only [q0] at d0)
 rcases gk with _ | k3
 ·exact absurd HA.out (by simp [ag.l2])
 have H := HA.out
 clear HA
 simp only [ag.l2] at H
 by_cases b3 : r0 > 0
 ·rw [za b3] at H
  have R3 := ta b3
  clear b3
  obtain ⟨X0, y1⟩ : ∃ j_ : Int, (wrap64 (r0 - 1)) = j_ := ⟨_, rfl⟩
  first | rw [y1] at H | simp only [y1] at H
  have i5 : (IntKind.i64.wrap (r0 - 1)) = X0 := (bB _).trans y1
  obtain ⟨G6, H⟩ := iD_ H
  obtain ⟨H6, H⟩ := iN_ H
  have S3 := ta H6
  (try simp only [q0] at S3)
  clear H6
  obtain ⟨I6, H⟩ := iD_ H
  obtain ⟨J6, H⟩ := iN_ H
  have T3 := ta J6
  (try simp only [q0] at T3)
  clear J6
  obtain ⟨U3, z1⟩ : ∃ y_ : List Int, y_ = (p0.set (r0 : Int).toNat (rd p0 (X0))) := ⟨_, rfl⟩
  first | replace H := yb_ z1 H | rw [← z1] at H
  have V3 := aa.mk z1
  clear z1
  have H' := aa.mk H
  clear H
  have R2 : 0 ≤ ((X0) : Int) := oD_
  have T2 : (X0) < (p0.length : Int) := oD_
  obtain ⟨W3, p5, L1⟩ := Kd.at_int (Kd.R_reads' b0.out).2.2 (X0) R2 T2
  obtain rfl : e0 = W3 := (by injection p5)
  replace R2 := va R2
  replace T2 := va T2
  have q5 : 0 ≤ (r0 : Int) := oD_
  have s5 : (r0 : Int) < ((p0.length : Int) : Int) := oD_
  obtain ⟨go53, k7, X3, Y3, gl53, cl53, HG53⟩ := Kd.R_form b0.out (by omega)
  (first | cases X3 | (injection X3 with ea_ en_ ec_; (first | subst ea_ | (injection ea_ with ea_; subst ea_)); subst ec_; clear en_))
  have t5 := aa.mk Y3
  have GG53 := aa.mk HG53
  clear Y3 gl53 HG53
  (first | simp only [bU] at P0 | skip)
  (first | simp only [bU] at u0 | skip)
  (first | simp only [bU] at v0 | skip)
  (first | simp only [bU] at x0 | skip)
  (first | simp only [bU] at B0 | skip)
  (first | simp only [bU] at C0 | skip)
  (first | simp only [bU] at D0 | skip)
  (first | simp only [bU] at E0 | skip)
  (first | simp only [bU] at F0 | skip)
  (first | simp only [bU] at G0 | skip)
  (first | simp only [bU] at Q0 | skip)
  (first | simp only [bU] at L1 | skip)
  obtain ⟨u5, hf53_0⟩ := Kd.R_celln 0 b0.out (r0 : Int) q5 s5
  replace q5 := va q5
  replace s5 := va s5
  have HP54 := Kd.R_putg b0.out (r0 : Int) (rd p0 (X0))
  go_wp2_with (first | ((with_reducible refine cm (t := 45) (p := 133) rfl ?_); refine b9 (t := 45) (p := 133) (v := ?vo_w55) (w1 := (wr.setCell ⟨go53, (r0 : Int).toNat, none⟩ (.int .u32 (rd p0 (X0))))) ?hg ?ho ?hn ?hr ?_; (case ho => rfl); (case hg => rfl); (case hn => rfl); (case hr => first | (go_simp; done) | (go_simp; rfl)); intro v5 hw; have hg : wr.grownBy v5 (some go53) := (by rw [hw]; exact HP54.2); have hp_ : Kd.R (Kd.int .u32) 45 v5 w.heap.size (fun k_ => some k_ ≠ (.slice (some K0) j0.length Z0 : Value).ownBlock) (.slice (some ⟨go53, 0, none⟩) p0.length I0) U3 := (by rw [hw, V3.out]; exact HP54.1); clear HP54; have n_ := b_ (Kd.R_after (v := (.slice (some ⟨go53, 0, none⟩) p0.length I0)) (v1 := (.slice (some ⟨go53, 0, none⟩) p0.length I0)) (ok := (fun _ => True)) (by refine kR_ ?_; exact Kd.R_mono d0.out (fun _ hk => ⟨trivial, hk⟩)) hg (.inl rfl)) <| b_ (hp_) <| c_ (by rw [hw]; exact co (HB.out) t5.out : Below w.heap.size w v5); clear d0 b0 HB; obtain ⟨d0, b0, HB⟩ := n_; clear hg hw hp_))
  (try simp only [← q0])
  go_roundg k3
  case measure => have := M1.out; have := X2.out; have := e2.out; omega
  case rel => exact ⟨(U3), (X0), (by first | rfl | (simp; done) | (simp only [← y1] <;> (first | rfl | simp)) | (simp [*]; done)), H', ⟨by have := M1.out; have := X2.out; have := e2.out; omega⟩, ⟨by (try simp only [q0]); refine kR_ ?_; exact Kd.R_mono d0.out (fun _ hk => hk.2)⟩, ⟨by (try simp only [q0]); refine kR_ ?_; exact b0.out⟩, ⟨hB_⟩⟩
 rw [Aa b3] at H
 have R3 := ua b3
 clear b3
 obtain ⟨K6, H⟩ := iN_ H
 have Z3 := ta K6
 have b4 : decide (4 < p0.length) = true := ta (by omega)
 (try simp only [q0] at Z3)
 (try simp only [q0] at b4)
 clear K6
 obtain ⟨c4, B1⟩ : ∃ y_ : List Int, y_ = (p0.set (4 : Int).toNat (((rd p0 4) + (((((((((rd a0 7) + W0) % 4294967296) + (Go.bits .xor .u32 (Go.bits .and .u32 (rd a0 4) (rd a0 5)) (Go.bits .and .u32 ((4294967295 - (rd a0 4)) % 4294967296) (rd a0 6)))) % 4294967296) + (rd l1 f0)) % 4294967296) + (rd j0 f0)) % 4294967296)) % 4294967296)) := ⟨_, rfl⟩
 first | replace H := yb_ B1 H | rw [← B1] at H
 have e4 := aa.mk B1
 clear B1
 obtain ⟨L6, H⟩ := iN_ H
 have f4 := ta L6
 have g4 : decide (0 < p0.length) = true := ta (by omega)
 (try simp only [q0] at f4)
 (try simp only [q0] at g4)
 clear L6
 obtain ⟨i4, C1⟩ : ∃ y_ : List Int, y_ = (c4.set (0 : Int).toNat (((((((((((rd a0 7) + W0) % 4294967296) + (Go.bits .xor .u32 (Go.bits .and .u32 (rd a0 4) (rd a0 5)) (Go.bits .and .u32 ((4294967295 - (rd a0 4)) % 4294967296) (rd a0 6)))) % 4294967296) + (rd l1 f0)) % 4294967296) + (rd j0 f0)) % 4294967296) + ((E1 + (Go.bits .xor .u32 (Go.bits .xor .u32 (Go.bits .and .u32 (rd a0 0) (rd a0 1)) (Go.bits .and .u32 (rd a0 0) (rd a0 2))) (Go.bits .and .u32 (rd a0 1) (rd a0 2)))) % 4294967296)) % 4294967296)) := ⟨_, rfl⟩
 first | replace H := yb_ C1 H | rw [← C1] at H
 have l4 := aa.mk C1
 clear C1
 have H' := aa.mk H
 clear H
 have U2 : 0 ≤ (4 : Int) := (by omega)
 have V2 : 4 < (p0.length : Int) := oD_
 obtain ⟨n4, y5, R0⟩ := Kd.at_int (Kd.R_reads' b0.out).2.2 4 U2 V2
 obtain rfl : e0 = n4 := (by injection y5)
 (try simp only [show (4 : Int).toNat = 4 from rfl, Nat.reduceMul, Nat.reduceEqDiff, Go.Addr.add, ↓reduceIte] at R0)
 have qi151 : (4 < p0.length) = True := va (by omega)
 (try rw [show ((4 : Int)).toNat = 4 from rfl] at R0)
 replace U2 := va U2
 replace V2 := va V2
 have z5 : 0 ≤ (4 : Int) := (by omega)
 have A5 : (4 : Int) < ((p0.length : Int) : Int) := oD_
 have qi57 : (4 < p0.length) = True := va (by omega)
 obtain ⟨go57, l7, q4, t4, gl57, cl57, HG57⟩ := Kd.R_form b0.out (by omega)
 (first | cases q4 | (injection q4 with ea_ en_ ec_; (first | subst ea_ | (injection ea_ with ea_; subst ea_)); subst ec_; clear en_))
 have u4 := aa.mk t4
 have GG57 := aa.mk HG57
 clear t4 gl57 HG57
 (first | simp only [bU] at R0 | skip)
 obtain ⟨F1, hf57_0⟩ := Kd.R_celln 0 b0.out (4 : Int) z5 A5
 (try rw [show ((4 : Int)).toNat = 4 from rfl] at F1)
 (try simp only [Nat.reduceMul, Nat.zero_mul, Nat.zero_add, Nat.reduceAdd] at F1)
 (try rw [show ((4 : Int)).toNat = 4 from rfl] at hf57_0)
 (try simp only [Nat.reduceMul, Nat.zero_mul, Nat.zero_add, Nat.reduceAdd] at hf57_0)
 replace z5 := va z5
 replace A5 := va A5
 have HP60 := Kd.R_putg b0.out (4 : Int) (((rd p0 4) + (((((((((rd a0 7) + W0) % 4294967296) + (Go.bits .xor .u32 (Go.bits .and .u32 (rd a0 4) (rd a0 5)) (Go.bits .and .u32 ((4294967295 - (rd a0 4)) % 4294967296) (rd a0 6)))) % 4294967296) + (rd l1 f0)) % 4294967296) + (rd j0 f0)) % 4294967296)) % 4294967296)
 go_wp2_with (first | ((with_reducible refine cm (t := 45) (p := 140) rfl ?_); refine b9 (t := 45) (p := 140) (v := ?vo_w61) (w1 := (wr.setCell ⟨go57, (4 : Int).toNat, none⟩ (.int .u32 (((rd p0 4) + (((((((((rd a0 7) + W0) % 4294967296) + (Go.bits .xor .u32 (Go.bits .and .u32 (rd a0 4) (rd a0 5)) (Go.bits .and .u32 ((4294967295 - (rd a0 4)) % 4294967296) (rd a0 6)))) % 4294967296) + (rd l1 f0)) % 4294967296) + (rd j0 f0)) % 4294967296)) % 4294967296)))) ?hg ?ho ?hn ?hr ?_; (case ho => rfl); (case hg => rfl); (case hn => rfl); (case hr => first | (go_simp; done) | (go_simp; rfl)); intro v4 hw; have hg : wr.grownBy v4 (some go57) := (by rw [hw]; exact HP60.2); have hp_ : Kd.R (Kd.int .u32) 45 v4 w.heap.size (fun k_ => some k_ ≠ (.slice (some K0) j0.length Z0 : Value).ownBlock) (.slice (some ⟨go57, 0, none⟩) p0.length I0) c4 := (by rw [hw, e4.out]; exact HP60.1); clear HP60; have n_ := b_ (Kd.R_after (v := (.slice (some ⟨go57, 0, none⟩) p0.length I0)) (v1 := (.slice (some ⟨go57, 0, none⟩) p0.length I0)) (ok := (fun _ => True)) (by refine kR_ ?_; exact Kd.R_mono d0.out (fun _ hk => ⟨trivial, hk⟩)) hg (.inl rfl)) <| b_ (hp_) <| c_ (by rw [hw]; exact co (HB.out) u4.out : Below w.heap.size w v4); clear d0 b0 HB; obtain ⟨d0, b0, HB⟩ := n_; clear hg hw hp_; have B5 : 0 ≤ (0 : Int) := (by omega); have C5 : (0 : Int) < ((p0.length : Int) : Int) := oD_; have qi59 : (0 < p0.length) = True := va (by omega); obtain ⟨G1, hf59_0⟩ := Kd.R_celln 0 b0.out (0 : Int) B5 C5; (try rw [show ((0 : Int)).toNat = 0 from rfl] at G1); (try simp only [Nat.reduceMul, Nat.zero_mul, Nat.zero_add, Nat.reduceAdd] at G1); (try rw [show ((0 : Int)).toNat = 0 from rfl] at hf59_0); (try simp only [Nat.reduceMul, Nat.zero_mul, Nat.zero_add, Nat.reduceAdd] at hf59_0); replace B5 := va B5; replace C5 := va C5; obtain ⟨S1, hz62_⟩ := Kd.R_celln 0 b0.out (0 : Int) (by omega) oD_; (try simp only [Int.reduceToNat, Int.toNat_zero, Int.toNat_ofNat, Nat.reduceMul, Nat.zero_mul, Nat.zero_add] at S1 hz62_); (try rw [show ((0 : Int)).toNat = 0 from rfl] at S1); (try rw [show ((0 : Int)).toNat = 0 from rfl] at hz62_); have HP62 := Kd.R_putg b0.out (0 : Int) (((((((((((rd a0 7) + W0) % 4294967296) + (Go.bits .xor .u32 (Go.bits .and .u32 (rd a0 4) (rd a0 5)) (Go.bits .and .u32 ((4294967295 - (rd a0 4)) % 4294967296) (rd a0 6)))) % 4294967296) + (rd l1 f0)) % 4294967296) + (rd j0 f0)) % 4294967296) + ((E1 + (Go.bits .xor .u32 (Go.bits .xor .u32 (Go.bits .and .u32 (rd a0 0) (rd a0 1)) (Go.bits .and .u32 (rd a0 0) (rd a0 2))) (Go.bits .and .u32 (rd a0 1) (rd a0 2)))) % 4294967296)) % 4294967296)) | ((with_reducible refine cm (t := 45) (p := 145) rfl ?_); refine b9 (t := 45) (p := 145) (v := ?vo_w63) (w1 := (v4.setCell ⟨go57, (0 : Int).toNat, none⟩ (.int .u32 (((((((((((rd a0 7) + W0) % 4294967296) + (Go.bits .xor .u32 (Go.bits .and .u32 (rd a0 4) (rd a0 5)) (Go.bits .and .u32 ((4294967295 - (rd a0 4)) % 4294967296) (rd a0 6)))) % 4294967296) + (rd l1 f0)) % 4294967296) + (rd j0 f0)) % 4294967296) + ((E1 + (Go.bits .xor .u32 (Go.bits .xor .u32 (Go.bits .and .u32 (rd a0 0) (rd a0 1)) (Go.bits .and .u32 (rd a0 0) (rd a0 2))) (Go.bits .and .u32 (rd a0 1) (rd a0 2)))) % 4294967296)) % 4294967296)))) ?hg ?ho ?hn ?hr ?_; (case ho => rfl); (case hg => rfl); (case hn => rfl); (case hr => first | (go_simp; done) | (go_simp; rfl)); intro D5 hw; have hg : v4.grownBy D5 (some go57) := (by rw [hw]; exact HP62.2); have hp_ : Kd.R (Kd.int .u32) 45 D5 w.heap.size (fun k_ => some k_ ≠ (.slice (some K0) j0.length Z0 : Value).ownBlock) (.slice (some ⟨go57, 0, none⟩) p0.length I0) i4 := (by rw [hw, l4.out]; exact HP62.1); clear HP62; have n_ := b_ (Kd.R_after (v := (.slice (some ⟨go57, 0, none⟩) p0.length I0)) (v1 := (.slice (some ⟨go57, 0, none⟩) p0.length I0)) (ok := (fun _ => True)) (rR_ d0.out) hg (.inl rfl)) <| b_ (hp_) <| c_ (by rw [hw]; exact co (HB.out) u4.out : Below w.heap.size w D5); clear d0 b0 HB; obtain ⟨d0, b0, HB⟩ := n_; clear hg hw hp_))
 (try simp only [← q0])
 go_roundg k3
 case measure => have := M1.out; have := X2.out; have := e2.out; omega
 case rel => exact ⟨(i4), (wrap64 (f0 + 1)), f0_, H', ⟨by have := M1.out; have := X2.out; have := e2.out; omega⟩, ⟨by (try simp only [q0]); refine kR_ ?_; exact Kd.R_mono d0.out (fun _ hk => hk.2)⟩, ⟨by (try simp only [q0]); refine kR_ ?_; exact b0.out⟩, ⟨hB_⟩⟩

/-! ### bd: function 43 -/
def bd.l0 : Nat → List Int → List Int → Int → Option (ByteArray)
 | 0, _, _, _ => none
 | k + 1, x0, x3, x4 => if x4 < (x0.length : Int) then (if 0 ≤ x4 then ((some (([((Int.tdiv (rd x0 x4) 16777216) % 4294967296) % 256, ((Int.tdiv (rd x0 x4) 65536) % 4294967296) % 256, ((Int.tdiv (rd x0 x4) 256) % 4294967296) % 256, (Int.tmod (rd x0 x4) 256) % 256] : List Int) : List Int)).bind fun y166 => (if x3.length + y166.length < 140737488355328 then (bd.l0 k x0 (x3 ++ y166) (wrap64 (x4 + 1))) else (none))) else (none)) else (some (strOfNums x3))
def bd.f (k : Nat) (l0 : List Int) : Option (ByteArray) := bd.l0 k l0 (([] : List Int)) 0
theorem bd.mono_l : ∀ k, (∀ y0 y1 y2, LeO (bd.l0 k y0 y1 y2) (bd.l0 (k + 1) y0 y1 y2))
 | 0 => fun _ _ _ r h => by simp [bd.l0] at h
 | k + 1 => by
  have ih0 := bd.mono_l k
  intros; unfold bd.l0; exact o1_ ih0
theorem bd.mono : ∀ a0 k, LeO (bd.f k a0) (bd.f (k + 1) a0) := by
 intro a0 k
 have ih0 := bd.mono_l k
 unfold bd.f
 exact o1_ ih0
theorem bd.calls (k : Nat) (A0 : Option Addr) (c0 : Nat) (l0 : List Int) (r : ByteArray) (w : World) (hr0 : Kd.C (Kd.int .u32) w A0 l0.length l0) (hc0 : l0.length ≤ c0) (h : bd.f k l0 = some r) :
  Calls Tryz.prog 43 #[.slice A0 l0.length c0] w fun e w' => e = .returned (.string r) ∧ Below w.heap.size w w' := by
 have P0 := aa.mk hr0
 have U0 := aa.mk hc0
 clear hr0 hc0
 have HB := aa.mk (xa w.heap.size w)
 delta bd.f at h
 have H := h
 clear h
 obtain ⟨E0, f0⟩ : ∃ y_ : List Int, y_ = (([] : List Int)) := ⟨_, rfl⟩
 first | replace H := yb_ f0 H | rw [← f0] at H
 have q0 := aa.mk f0
 clear f0
 have H' := aa.mk H
 clear H
 go_enter Tryz.func43, Tryz.ntmps43
 go_wp2_with (first | ((with_reducible refine aI (N := 6) rfl ?_); refine Kd.R_lit (Kd.int .u8) _ 5 ?hg (N := 6) ?hd (xs := ([] : List Int)) (inner := []) (ok := fun _ => True) (okp := fun _ => True) ?hr ?hp (fun _ hk => hk) trivial (xa _ _) (wa _) (by simp) ?_; (case hd => rfl); (case hg => rfl); (case hr => first | (go_simp; done) | (go_simp; rfl)); (case hp => exact (br.none _ _)); intro Q0 w2 y0 hb hg_ hnew_; clear hg_ hnew_; (first | rw [← q0.out] at y0 | (simp only [Int.reduceToNat] at y0; rw [← q0.out] at y0)); have n_ := b_ (Kd.R_lower y0 (ab (hB_))) <| c_ (ac (hB_) hb); clear HB; obtain ⟨B0, HB⟩ := n_; clear hb y0))
 go_loopg [3, 4] k (fun kq v3 v4 w' => ∃ (p0 : List Int) (a0 : Int), v4 = .int .i64 a0 ∧ aa (bd.l0 kq l0 p0 a0 = some r) ∧ aa (kq ≤ k) ∧ aa (Kd.R (Kd.int .u8) 5 w' w.heap.size (fun _ => True) v3 p0) ∧ aa (Below w.heap.size w w'))
 case atStart => exact ⟨(E0), (0), f0_, H', ⟨wa _⟩, ⟨rR_ B0.out⟩, ⟨hB_⟩⟩
 clear H'
 obtain ⟨p0, a0, rfl, HA, M0, e0, HB⟩ := hrel
 rcases gk with _ | k1
 ·exact absurd HA.out (by simp [bd.l0])
 have H := HA.out
 clear HA
 simp only [bd.l0] at H
 by_cases c4 : a0 < (l0.length : Int)
 rotate_left
 ·rw [Aa c4] at H
  have F0 := ua c4
  clear c4
  obtain rfl := sI H
  have N0 := dD (P := Tryz.prog) Tryz.underlying57 Tryz.underlying5 Tryz.underlying9 (Kd.own_of_R e0.out)
  go_wp2
  go_ret
  exact ⟨f1_, hB_⟩
 rw [za c4] at H
 have F0 := ta c4
 clear c4
 obtain ⟨R0, H⟩ := iD_ H
 obtain ⟨t0, j0⟩ : ∃ y_ : List Int, y_ = (([((Int.tdiv (rd l0 a0) 16777216) % 4294967296) % 256, ((Int.tdiv (rd l0 a0) 65536) % 4294967296) % 256, ((Int.tdiv (rd l0 a0) 256) % 4294967296) % 256, (Int.tmod (rd l0 a0) 256) % 256] : List Int)) := ⟨_, rfl⟩
 first | replace H := yb_ j0 H | rw [← j0] at H
 have r0 := aa.mk j0
 clear j0
 obtain ⟨c6, H⟩ := iN_ H
 have G0 := aa.mk c6
 clear c6
 obtain ⟨H0, k0⟩ : ∃ y_ : List Int, y_ = (p0 ++ t0) := ⟨_, rfl⟩
 first | replace H := yb_ k0 H | rw [← k0] at H
 have C0 := aa.mk k0
 clear k0
 have H' := aa.mk H
 clear H
 have u0 : 0 ≤ (a0 : Int) := oD_
 have v0 : a0 < (l0.length : Int) := oD_
 obtain ⟨O0, I0, d0⟩ := Kd.at_int P0.out a0 u0 v0
 cases I0
 replace d0 := (HB.out.cell (World.block_lt_of_cell? w _ d0)).trans d0
 replace u0 := va u0
 replace v0 := va v0
 go_wp2_with (first | ((with_reducible refine aI (N := 32) rfl ?_); refine Kd.R_lit (Kd.int .u8) _ 5 ?hg (N := 32) ?hd (xs := ([((Int.tdiv (rd l0 a0) 16777216) % 4294967296) % 256, ((Int.tdiv (rd l0 a0) 65536) % 4294967296) % 256, ((Int.tdiv (rd l0 a0) 256) % 4294967296) % 256, (Int.tmod (rd l0 a0) 256) % 256] : List Int)) (inner := [.int .u8 (((Int.tdiv (rd l0 a0) 16777216) % 4294967296) % 256), .int .u8 (((Int.tdiv (rd l0 a0) 65536) % 4294967296) % 256), .int .u8 (((Int.tdiv (rd l0 a0) 256) % 4294967296) % 256), .int .u8 ((Int.tmod (rd l0 a0) 256) % 256)]) (ok := fun _ => True) (okp := fun _ => True) ?hr ?hp (fun _ hk => hk) trivial (xa _ _) (wa _) (by simp) ?_; (case hd => rfl); (case hg => rfl); (case hr => first | (go_simp; done) | (go_simp; rfl)); (case hp => exact (br.one (show Kd.M (Kd.int .u8) _ _ _ (((Int.tdiv (rd l0 a0) 16777216) % 4294967296) % 256) [.int .u8 (((Int.tdiv (rd l0 a0) 16777216) % 4294967296) % 256)] from rfl) (br.one (show Kd.M (Kd.int .u8) _ _ _ (((Int.tdiv (rd l0 a0) 65536) % 4294967296) % 256) [.int .u8 (((Int.tdiv (rd l0 a0) 65536) % 4294967296) % 256)] from rfl) (br.one (show Kd.M (Kd.int .u8) _ _ _ (((Int.tdiv (rd l0 a0) 256) % 4294967296) % 256) [.int .u8 (((Int.tdiv (rd l0 a0) 256) % 4294967296) % 256)] from rfl) (br.one (show Kd.M (Kd.int .u8) _ _ _ ((Int.tmod (rd l0 a0) 256) % 256) [.int .u8 ((Int.tmod (rd l0 a0) 256) % 256)] from rfl) (br.none _ _)))))); intro S0 w7 x0 hb hg_ hnew_; clear hg_ hnew_; (first | rw [← r0.out] at x0 | (simp only [Int.reduceToNat] at x0; rw [← r0.out] at x0)); have n_ := b_ (Kd.R_elder' (rR_ e0.out) (Kd.R_base x0) hb) <| b_ (Kd.R_lower (Kd.R_new' x0 (Kd.R_lt (rR_ e0.out))) (ab (hB_))) <| c_ (ac (hB_) hb); clear e0 HB; obtain ⟨e0, b0, HB⟩ := n_; clear hb x0; obtain ⟨J0, K0, L0⟩ := Kd.R_slice b0.out; subst L0) | ((with_reducible refine aV (b := .append) (xs := #[.tmp 17, .tmp 32]) rfl ?_); at_builtin; refine Kd.R_append_rows (Kd.int .u8) (w0 := w) w.heap.size rfl (.tmp 17) (.tmp 32) 57 5 (.int .u8 0) 1 rfl Tryz.underlying57 iD rfl (by decide) (by omega) u3 p0 t0 _ _ _ (fun k_ => some k_ ≠ (.slice J0 t0.length K0 : Value).ownBlock) (fun _ => False) rfl rfl ?aO ?aR (fun _ _ h => h) (fun _ h => h.elim) ?aF ?aB ?aS ?aL ?_; (case aR => exact cR_ (Kd.R_reads' b0.out).2.2); (case aB => exact (hB_)); (case aF => exact (fun k_ hk => Kd.fresh' (Kd.R_lt (rR_ b0.out)) k_ hk)); (case aO => exact (by refine kR_ ?_; exact Kd.R_mono e0.out (fun _ hk => hk.2))); (case aS => exact (ab (hB_))); (case aL => have := G0.out; omega); intro T0 w9 ho hb hg hat; rw [← C0.out] at ho; have n_ := b_ (Kd.R_after (ok := (fun _ => True)) (rR_ b0.out) hg hat) <| b_ (hb) <| c_ (ho); clear e0 b0 HB; obtain ⟨b0, HB, D0⟩ := n_; clear ho hb hg hat))
 go_roundg k1
 case measure => have := M0.out; omega
 case rel => exact ⟨(H0), (wrap64 (a0 + 1)), f0_, H', ⟨by have := M0.out; omega⟩, ⟨by refine kR_ ?_; exact Kd.R_mono D0.out (fun _ hk => trivial)⟩, ⟨hB_⟩⟩

-- GIVEN: function 10 (cT)

/-! ### aD: function 11 -/
mutual
def aD.j0 : Nat → ByteArray → Bool → ByteArray → ByteArray → Int → Option (ByteArray × ByteArray × Int)
 | 0, _, _, _, _, _ => none
 | k + 1, x1, x19, x173000, x173001, x173002 => if x19 = true then (some (x173000, x173001, x173002)) else ((bb.f k x173000).bind fun t175 => ((er.f).bind fun t178 => (if x173001.size + x1.size ≤ 9223372036854775807 then (aD.l0 k x1 t175 t178 (x173001 ++ x1) 0 x173000 x173001 x173002) else (none))))
def aD.l0 : Nat → ByteArray → List Int → List Int → ByteArray → Int → ByteArray → ByteArray → Int → Option (ByteArray × ByteArray × Int)
 | 0, _, _, _, _, _, _, _, _ => none
 | k + 1, x1, x5, x6, x7, x8, x173000, x173001, x173002 => if (wrap64 (x8 + 64)) ≤ (x7.size : Int) then (if 0 ≤ x8 then (if x8 ≤ (wrap64 (x8 + 64)) then ((ag.f k x5 x6 (x7.extract (x8 : Int).toNat ((wrap64 (x8 + 64)) : Int).toNat)).bind fun t181 => (aD.l0 k x1 t181 x6 x7 (wrap64 (x8 + 64)) x173000 x173001 x173002)) else (none)) else (none)) else ((bd.f k x5).bind fun t184 => (if 0 ≤ x8 then (if x8 ≤ (x7.size : Int) then (some (t184, x7.extract (x8 : Int).toNat x7.size, wrap64 (x173002 + (x1.size : Int)))) else (none)) else (none)))
end
def aD.f (k : Nat) (a0_0 : ByteArray) (a0_1 : ByteArray) (a0_2 : Int) (a1 : ByteArray) : Option (ByteArray × ByteArray × Int) := (cE.f a0_0 a0_1 a0_2).bind fun t174 => (if t174 = true then (aD.j0 k a1 (decide ((wrap64 (a0_2 + (a1.size : Int))) > 1000000000)) a0_0 a0_1 a0_2) else (aD.j0 k a1 true a0_0 a0_1 a0_2))
theorem aD.mono_l : ∀ k, (∀ y0 y1 y2 y3 y4, LeO (aD.j0 k y0 y1 y2 y3 y4) (aD.j0 (k + 1) y0 y1 y2 y3 y4)) ∧ (∀ y0 y1 y2 y3 y4 y5 y6 y7, LeO (aD.l0 k y0 y1 y2 y3 y4 y5 y6 y7) (aD.l0 (k + 1) y0 y1 y2 y3 y4 y5 y6 y7))
 | 0 => ⟨fun _ _ _ _ _ r h => by simp [aD.j0] at h, fun _ _ _ _ _ _ _ _ r h => by simp [aD.l0] at h⟩
 | k + 1 => by
  obtain ⟨ih0, ih1⟩ := aD.mono_l k
  refine ⟨?_, ?_⟩ <;> (intros; (first | unfold aD.j0 | unfold aD.l0); exact o5_ ih0 ih1 bd.mono ag.mono bb.mono)
theorem aD.mono : ∀ a0 a1 a2 a3 k, LeO (aD.f k a0 a1 a2 a3) (aD.f (k + 1) a0 a1 a2 a3) := by
 intro a0 a1 a2 a3 k
 obtain ⟨ih0, ih1⟩ := aD.mono_l k
 unfold aD.f
 exact o5_ ih0 ih1 bd.mono ag.mono bb.mono
def aD.T10 : Bool × List (List Nat × List Nat) := (true, [([], []), ([0], [0]), ([], []), ([], []), ([2, 3], [2, 3]), ([], []), ([5], [5]), ([], []), ([7], [7]), ([6, 8], [6, 8]), ([1, 4, 9], [1, 4, 9]), ([10, 1, 0, 1, 2, 3, 4, 5, 6, 7, 8, 9, 10], [10])])
def aD.B10 : List Nat := [0, 1, 0, 0, 12, 0, 32, 0, 128, 480, 1023, 2047]
theorem aD.tab10 : dW .any (eW Tryz.f11 10) = aD.T10 := by kernel_rfl
theorem aD.bits10 : cZ aD.T10.2 aD.B10 = true := by kernel_rfl
theorem aD.calls (k : Nat) (k0 : ByteArray) (p0 : ByteArray) (q0 : Int) (a1 : ByteArray) (r1 : ByteArray) (r2 : ByteArray) (r3 : Int) (w : World) (h : aD.f k k0 p0 q0 a1 = some (r1, r2, r3)) :
  Calls Tryz.prog 11 #[.agg #[.string k0, .string p0, .int .i64 q0], .string a1] w fun e w' => e = .returned (.agg #[.string r1, .string r2, .int .i64 r3]) ∧ Below w.heap.size w w' := by
 have hu30 := Tryz.underlying30
 have HB := aa.mk (xa w.heap.size w)
 delta aD.f at h
 have H := h
 clear h
 have Q1 := aa.mk H
 clear H
 go_enter Tryz.func11, Tryz.ntmps11
 go_upto_region 1 with (first | ((with_reducible refine aI (N := 2) rfl ?_); (try (refine bj (by rfl) ?_; dsimp only)); refine cn ?hg (N := 2) ?hd (cs := #[.string k0, .string p0, .int .i64 q0]) (t := 30) ?hr ?_; (case hd => rfl); (case hg => rfl); (case hr => first | (go_simp; done) | (go_simp; rfl)); intro e0 hg w4 hbox hb; have n_ := b_ (ac (hB_) hb) <| b_ (hbox) <| b_ (by rw [hg]; exact (ab (hB_)) : w.heap.size ≤ e0) <| c_ (by rw [hg]; exact (ab (hB_)) : w.heap.size ≤ e0); clear HB; obtain ⟨HB, a0, v2, r0⟩ := n_; clear hb hbox hg) | ((with_reducible refine aI (N := 4) rfl ?_); (try (refine bj (by rfl) ?_; dsimp only)); refine cn ?hg (N := 4) ?hd (cs := #[.string (⟨#[]⟩ : ByteArray), .string (⟨#[]⟩ : ByteArray), .int .i64 0]) (t := 30) ?hr ?_; (case hd => rfl); (case hg => rfl); (case hr => first | (go_simp; done) | (go_simp; rfl)); intro f0 hg w5 hbox hb; have n_ := b_ (bG (g := e0) (o := .cells #[.string k0, .string p0, .int .i64 q0] 30 (0, 0)) (rK_ a0.out) hb) <| b_ (ac (hS_ r0.out) hb) <| b_ (hbox) <| b_ (by rw [hg]; exact (ab (hS_ r0.out)) : w.heap.size ≤ f0) <| b_ (by rw [hg]; exact (ab (hS_ r0.out)) : w.heap.size ≤ f0) <| b_ (by rw [hg]; exact Nat.ne_of_lt (ev (g := e0) (o := .cells #[.string k0, .string p0, .int .i64 q0] 30 (0, 0)) (rK_ a0.out)) : e0 ≠ f0) <| c_ (by rw [hg]; exact Nat.ne_of_gt (ev (g := e0) (o := .cells #[.string k0, .string p0, .int .i64 q0] 30 (0, 0)) (rK_ a0.out)) : f0 ≠ e0); clear a0 HB; obtain ⟨a0, HB, b0, y2, u0, d0, t0⟩ := n_; clear hb hbox hg))
 (try simp only [Act.put, List.setIfInBounds_toArray, List.set_cons_zero, List.set_cons_succ])
 go_cut [19] (fun T2 wc => ∃ (kq : Nat) (D0 : Bool), T2 = .bool D0 ∧ aa (aD.j0 kq a1 D0 k0 p0 q0 = some (r1, r2, r3)) ∧ aa (kq ≤ k) ∧ aa (wc.heap[e0]? = some (.cells #[.string k0, .string p0, .int .i64 q0] 30 (0, 0))) ∧ aa (wc.heap[f0]? = some (.cells #[.string (⟨#[]⟩ : ByteArray), .string (⟨#[]⟩ : ByteArray), .int .i64 0] 30 (0, 0))) ∧ aa (Below w.heap.size w wc))
 case first =>
  have H := Q1.out
  clear Q1
  obtain ⟨R1, A6, H⟩ := bN_ H
  by_cases c7 : R1 = true
  ·subst c7
   replace H := iT_ H
   have H' := aa.mk H
   clear H
   have hnb8 := d0.out
   have hnc8 := t0.out
   have S1 : w5.cell? ⟨e0, 0, none⟩ = some (.string k0) := (au a0.out 0).trans rfl
   have T1 : w5.cell? ⟨e0, 1, none⟩ = some (.string p0) := (au a0.out 1).trans rfl
   have U1 : w5.cell? ⟨e0, 2, none⟩ = some (.int .i64 q0) := (au a0.out 2).trans rfl
   have V1 := aj a0.out 0
   have X1 := aj a0.out 1
   have Y1 := aj a0.out 2
   go_wp2_with (first | ((with_reducible refine ae (f := 39) rfl ?_); refine aq (some 10) rfl rfl Tryz.func39 (by kernel_rfl) rfl #[.agg #[.string k0, .string p0, .int .i64 q0]] rfl aM_ ?_; (with_reducible refine (cE.calls k0 p0 q0 true _ A6.out).mono ?_); rintro e Z1 ⟨rfl, hb⟩; refine ⟨_, rfl, ?_⟩; have n_ := b_ (bG (g := e0) (o := .cells #[.string k0, .string p0, .int .i64 q0] 30 (0, 0)) (rK_ a0.out) hb) <| b_ (bG (g := f0) (o := .cells #[.string (⟨#[]⟩ : ByteArray), .string (⟨#[]⟩ : ByteArray), .int .i64 0] 30 (0, 0)) (rK_ b0.out) hb) <| c_ (ac ((u0_ r0.out u0.out)) hb); clear a0 b0 HB; obtain ⟨a0, b0, HB⟩ := n_; have P0 : Z1.cell? ⟨e0, 0, none⟩ = some (.string k0) := (au a0.out 0).trans rfl; have Q0 : Z1.cell? ⟨e0, 1, none⟩ = some (.string p0) := (au a0.out 1).trans rfl; have R0 : Z1.cell? ⟨e0, 2, none⟩ = some (.int .i64 q0) := (au a0.out 2).trans rfl; have S0 := aj a0.out 0; have T0 := aj a0.out 1; have U0 := aj a0.out 2))
   go_meet
   case rel => exact ⟨_, (decide ((wrap64 (q0 + (a1.size : Int))) > 1000000000)), f0_, H', ⟨by first | omega | exact wa _⟩, ⟨by refine kK_ ?_; exact a0.out⟩, ⟨by refine kK_ ?_; exact b0.out⟩, ⟨(u0_ r0.out u0.out)⟩⟩
  ·replace c7 := ya c7
   subst c7
   replace H := iF_ H
   have H' := aa.mk H
   clear H
   have hnb12 := d0.out
   have hnc12 := t0.out
   have V0 : w5.cell? ⟨e0, 0, none⟩ = some (.string k0) := (au a0.out 0).trans rfl
   have W0 : w5.cell? ⟨e0, 1, none⟩ = some (.string p0) := (au a0.out 1).trans rfl
   have X0 : w5.cell? ⟨e0, 2, none⟩ = some (.int .i64 q0) := (au a0.out 2).trans rfl
   have Y0 := aj a0.out 0
   have Z0 := aj a0.out 1
   have b1 := aj a0.out 2
   go_wp2_with (first | ((with_reducible refine ae (f := 39) rfl ?_); refine aq (some 10) rfl rfl Tryz.func39 (by kernel_rfl) rfl #[.agg #[.string k0, .string p0, .int .i64 q0]] rfl aM_ ?_; (with_reducible refine (cE.calls k0 p0 q0 false _ A6.out).mono ?_); rintro e g3 ⟨rfl, hb⟩; refine ⟨_, rfl, ?_⟩; have n_ := b_ (bG (g := e0) (o := .cells #[.string k0, .string p0, .int .i64 q0] 30 (0, 0)) (rK_ a0.out) hb) <| b_ (bG (g := f0) (o := .cells #[.string (⟨#[]⟩ : ByteArray), .string (⟨#[]⟩ : ByteArray), .int .i64 0] 30 (0, 0)) (rK_ b0.out) hb) <| c_ (ac ((u0_ r0.out u0.out)) hb); clear a0 b0 HB; obtain ⟨a0, b0, HB⟩ := n_; (try clear hb)))
   go_meet
   case rel => exact ⟨_, (true), f0_, H', ⟨by first | omega | exact wa _⟩, ⟨by refine kK_ ?_; exact a0.out⟩, ⟨by refine kK_ ?_; exact b0.out⟩, ⟨(u0_ r0.out u0.out)⟩⟩
 clear Q1
 obtain ⟨kq, D0, rfl, HA, z2, a0, b0, HB⟩ := hcut
 rcases kq with _ | b2
 ·exact absurd HA.out (by simp [aD.j0])
 have H := HA.out
 clear HA
 simp only [aD.j0] at H
 by_cases c1 : D0 = true
 ·subst c1
  replace H := iT_ H
  simp only [Option.some.injEq, Prod.mk.injEq] at H
  obtain ⟨rfl, rfl, rfl⟩ := H
  have hnb16 := d0.out
  have hnc16 := t0.out
  have d1 : wc.cell? ⟨e0, 0, none⟩ = some (.string k0) := (au a0.out 0).trans rfl
  have e1 : wc.cell? ⟨e0, 1, none⟩ = some (.string p0) := (au a0.out 1).trans rfl
  have f1 : wc.cell? ⟨e0, 2, none⟩ = some (.int .i64 q0) := (au a0.out 2).trans rfl
  have g1 := aj a0.out 0
  have i1 := aj a0.out 1
  have j1 := aj a0.out 2
  have l1 : wc.cell? ⟨f0, 0, none⟩ = some (.string (⟨#[]⟩ : ByteArray)) := (au b0.out 0).trans rfl
  have m1 : wc.cell? ⟨f0, 1, none⟩ = some (.string (⟨#[]⟩ : ByteArray)) := (au b0.out 1).trans rfl
  have n1 : wc.cell? ⟨f0, 2, none⟩ = some (.int .i64 0) := (au b0.out 2).trans rfl
  have p1 := aj b0.out 0
  have q1 := aj b0.out 1
  have t1 := aj b0.out 2
  go_wp2
  refine bodyPost_ret (results_cell_row rfl _ _ f0 30 #[.string k0, .string p0, .int .i64 q0] (0, 0) _ rfl (by refine kK_ ?_; refine bV (cs := #[.string k0, .string p0, .int .i64 0]) ?_ 2 _ rfl; refine kK_ ?_; refine bV (cs := #[.string k0, .string (⟨#[]⟩ : ByteArray), .int .i64 0]) ?_ 1 _ rfl; refine kK_ ?_; refine bV (cs := #[.string (⟨#[]⟩ : ByteArray), .string (⟨#[]⟩ : ByteArray), .int .i64 0]) ?_ 0 _ rfl; exact rK_ b0.out) Tryz.underlying30 rfl (by kernel_rfl)) rfl ?_
  exact ⟨f1_, (u0_ r0.out u0.out)⟩
 ·replace c1 := ya c1
  subst c1
  replace H := iF_ H
  obtain ⟨I0, U2, H⟩ := bN_ H
  obtain ⟨E0, V2, H⟩ := bN_ H
  obtain ⟨c2, H⟩ := iN_ H
  have A2 := va c2
  have B2 := ta c2
  try have C2 : (9223372036854775807 < p0.size + a1.size) = False := eq_false (Nat.not_lt.2 c2)
  obtain ⟨bf_, hbf_⟩ : ∃ y_ : ByteArray, y_ = p0 ++ a1 := ⟨_, rfl⟩
  rw [← hbf_] at H
  have HBF_ := aa.mk hbf_
  clear hbf_
  have H' := aa.mk H
  clear H
  have hnb22 := d0.out
  have hnc22 := t0.out
  have y1 : wc.cell? ⟨e0, 0, none⟩ = some (.string k0) := (au a0.out 0).trans rfl
  have z1 : wc.cell? ⟨e0, 1, none⟩ = some (.string p0) := (au a0.out 1).trans rfl
  have A1 : wc.cell? ⟨e0, 2, none⟩ = some (.int .i64 q0) := (au a0.out 2).trans rfl
  have B1 := aj a0.out 0
  have C1 := aj a0.out 1
  have D1 := aj a0.out 2
  go_wp2_with (first | ((with_reducible refine ae (f := 40) rfl ?_); refine aq (some 23) rfl rfl Tryz.func40 (by kernel_rfl) rfl #[.string k0] rfl aM_ ?_; (with_reducible refine (bb.calls b2 k0 I0 _ U2.out).mono ?_); rintro e i3 ⟨X2, rfl, F0, hb⟩; refine ⟨_, rfl, ?_⟩; have n_ := b_ (Kd.R_lower F0 (ab ((u0_ r0.out u0.out)))) <| b_ (bG (g := e0) (o := .cells #[.string k0, .string p0, .int .i64 q0] 30 (0, 0)) (rK_ a0.out) hb) <| b_ (bG (g := f0) (o := .cells #[.string (⟨#[]⟩ : ByteArray), .string (⟨#[]⟩ : ByteArray), .int .i64 0] 30 (0, 0)) (rK_ b0.out) hb) <| c_ (ac ((u0_ r0.out u0.out)) hb); clear a0 b0 HB; obtain ⟨B0, a0, b0, HB⟩ := n_; (try clear F0)) | ((with_reducible refine ae (f := 41) rfl ?_); refine aq (some 24) rfl rfl Tryz.func41 (by kernel_rfl) rfl #[] rfl aM_ ?_; (with_reducible refine (er.calls  E0 _ V2.out).mono ?_); rintro e e2 ⟨J0, rfl, F0, hb⟩; refine ⟨_, rfl, ?_⟩; have n_ := b_ (Kd.R_elder' (rR_ B0.out) (Kd.R_base F0) hb) <| b_ (Kd.R_lower (Kd.R_new' F0 (Kd.R_lt (rR_ B0.out))) (ab ((u0_ r0.out u0.out)))) <| b_ (bG (g := e0) (o := .cells #[.string k0, .string p0, .int .i64 q0] 30 (0, 0)) (rK_ a0.out) hb) <| b_ (bG (g := f0) (o := .cells #[.string (⟨#[]⟩ : ByteArray), .string (⟨#[]⟩ : ByteArray), .int .i64 0] 30 (0, 0)) (rK_ b0.out) hb) <| c_ (ac ((u0_ r0.out u0.out)) hb); clear B0 a0 b0 HB; obtain ⟨B0, K0, a0, b0, HB⟩ := n_; have E1 : e2.cell? ⟨e0, 0, none⟩ = some (.string k0) := (au a0.out 0).trans rfl; have F1 : e2.cell? ⟨e0, 1, none⟩ = some (.string p0) := (au a0.out 1).trans rfl; have G1 : e2.cell? ⟨e0, 2, none⟩ = some (.int .i64 q0) := (au a0.out 2).trans rfl; have H1 := aj a0.out 0; have I1 := aj a0.out 1; have J1 := aj a0.out 2))
  rw [← HBF_.out]
  go_loopg [5, 8] b2 (fun kq v5 v8 w' => ∃ (C0 : List Int) (y0 : Int), v8 = .int .i64 y0 ∧ aa (aD.l0 kq a1 C0 E0 bf_ y0 k0 p0 q0 = some (r1, r2, r3)) ∧ aa (kq ≤ b2) ∧ aa (Kd.R (Kd.int .u32) 45 w' w.heap.size (fun k_ => some k_ ≠ (J0 : Value).ownBlock) v5 C0) ∧ aa (Kd.R (Kd.int .u32) 45 w' w.heap.size (fun k_ => some k_ ≠ (v5 : Value).ownBlock) J0 E0) ∧ aa (w'.heap[e0]? = some (.cells #[.string k0, .string p0, .int .i64 q0] 30 (0, 0))) ∧ aa (w'.heap[f0]? = some (.cells #[.string (⟨#[]⟩ : ByteArray), .string (⟨#[]⟩ : ByteArray), .int .i64 0] 30 (0, 0))) ∧ aa (Below w.heap.size w w'))
  case atStart => exact ⟨(I0), (0), f0_, H', ⟨wa _⟩, ⟨by refine kR_ ?_; exact Kd.R_mono B0.out (fun _ hk => hk.2)⟩, ⟨by refine kR_ ?_; exact Kd.R_mono K0.out (fun _ hk => hk.2)⟩, ⟨by refine kK_ ?_; exact a0.out⟩, ⟨by refine kK_ ?_; exact b0.out⟩, ⟨(u0_ r0.out u0.out)⟩⟩
  clear H'
  obtain ⟨C0, y0, rfl, HA, D2, v0, x0, a0, b0, HB⟩ := hrel
  rcases gk with _ | k2
  ·exact absurd HA.out (by simp [aD.l0])
  have H := HA.out
  clear HA
  simp only [aD.l0] at H
  by_cases H0 : (wrap64 (y0 + 64)) ≤ (bf_.size : Int)
  ·rw [za H0] at H
   have L0 := ta H0
   clear H0
   obtain ⟨f2, H⟩ := iN_ H
   have E2 := va f2
   have F2 := ta f2
   clear f2
   obtain ⟨G2, H⟩ := iN_ H
   have H2 := va G2
   have I2 := ta G2
   have J2 := va (oD_ : (wrap64 (y0 + 64)) ≤ (bf_.size : Int))
   obtain ⟨M0, Y2, H⟩ := bN_ H
   have H' := aa.mk H
   clear H
   obtain ⟨g2, i2, j2⟩ := Kd.R_slice v0.out
   subst j2
   obtain ⟨l2, m2, n2⟩ := Kd.R_slice x0.out
   subst n2
   go_wp2_with (first | ((with_reducible refine ae (f := 42) rfl ?_); refine aq (some 41) rfl rfl Tryz.func42 (by kernel_rfl) rfl #[.slice g2 C0.length i2, .slice l2 E0.length m2, .string (bf_.extract (y0 : Int).toNat ((wrap64 (y0 + 64)) : Int).toNat)] rfl aM_ ?_; (with_reducible refine (ag.calls k2 _ _ C0 _ _ E0 (bf_.extract (y0 : Int).toNat ((wrap64 (y0 + 64)) : Int).toNat) M0 _ ?side1 ?side2 ?side3 ?side4 Y2.out).mono ?_); (case side1 => exact cR_ (Kd.R_reads' v0.out).2.2); (case side2 => exact (Kd.R_reads' v0.out).2.1); (case side3 => exact cR_ (Kd.R_reads' x0.out).2.2); (case side4 => exact (Kd.R_reads' x0.out).2.1); rintro e l3 ⟨Z2, rfl, F0, hb⟩; refine ⟨_, rfl, ?_⟩; have n_ := b_ (Kd.R_elder' (rR_ v0.out) (Kd.R_base F0) hb) <| b_ (Kd.R_elder' (rR_ x0.out) (Kd.R_base F0) hb) <| b_ (Kd.R_lower (Kd.R_new' (Kd.R_new' F0 (Kd.R_lt (rR_ v0.out))) (Kd.R_lt (rR_ x0.out))) (ab ((u0_ r0.out u0.out)))) <| b_ (bG (g := e0) (o := .cells #[.string k0, .string p0, .int .i64 q0] 30 (0, 0)) (rK_ a0.out) hb) <| b_ (bG (g := f0) (o := .cells #[.string (⟨#[]⟩ : ByteArray), .string (⟨#[]⟩ : ByteArray), .int .i64 0] 30 (0, 0)) (rK_ b0.out) hb) <| c_ (ac ((u0_ r0.out u0.out)) hb); clear v0 x0 a0 b0 HB; obtain ⟨v0, x0, N0, a0, b0, HB⟩ := n_; (try clear F0)))
   go_roundg k2
   case measure => have := z2.out; have := D2.out; omega
   case rel => exact ⟨(M0), (wrap64 (y0 + 64)), f0_, H', ⟨by have := z2.out; have := D2.out; omega⟩, ⟨by refine kR_ ?_; exact Kd.R_mono N0.out (fun _ hk => hk.2)⟩, ⟨by refine kR_ ?_; exact Kd.R_mono x0.out (fun _ hk => hk.2)⟩, ⟨by refine kK_ ?_; exact a0.out⟩, ⟨by refine kK_ ?_; exact b0.out⟩, ⟨(u0_ r0.out u0.out)⟩⟩
  rw [Aa H0] at H
  have L0 := ua H0
  clear H0
  obtain ⟨G0, b3, H⟩ := bN_ H
  obtain ⟨p2, H⟩ := iN_ H
  have K2 := va p2
  have L2 := ta p2
  clear p2
  obtain ⟨M2, H⟩ := iN_ H
  have N2 := va M2
  have O2 := ta M2
  simp only [Option.some.injEq, Prod.mk.injEq] at H
  obtain ⟨rfl, rfl, rfl⟩ := H
  try go_wp2
  have n_ := b_ (Kd.R_drew v0.out) <| b_ (Kd.R_drew x0.out) <| b_ (ji a0.out) <| b_ (ji b0.out) <| c_ (bX HB.out)
  clear v0 x0 a0 b0 HB
  obtain ⟨v0, x0, a0, b0, HB⟩ := n_
  obtain ⟨q2, t2, O0⟩ := Kd.R_slice v0.out
  (first | subst O0 | (injection O0 with f1_ f2_ f3_; have f4_ := f1_.symm; have f5_ := f3_.symm; clear f1_ f2_ f3_; subst f4_; subst f5_))
  refine dY (n := 12) (S := fun w' => w'.cell? ⟨e0, 0, none⟩ = some (.string k0) ∧ w'.cell? ⟨e0, 1, none⟩ = some (.string p0) ∧ w'.cell? ⟨e0, 2, none⟩ = some (.int .i64 q0)) (ds := []) (bb_ 12 0) (by kernel_rfl) rfl rfl ⟨(au a0.out 0).trans rfl, (au a0.out 1).trans rfl, (au a0.out 2).trans rfl⟩ (fun hHeld => ?_); refine cM aD.tab10 aD.bits10 (fun HT_ HW_ => ?_)
  generalize wr.drew = m3 at v0 x0 a0 b0 HB hHeld ⊢
  refine pS_ 0 44 (bb_ 12 1) HT_.out ?_
  refine pS_ 2 46 (bb_ 12 5) HT_.out ?_
  refine pS_ 3 47 (bb_ 12 13) HT_.out ?_
  refine pS_ 4 48 (bb_ 12 29) HT_.out ?_
  refine pS_ 5 49 (bb_ 12 61) HT_.out ?_
  refine pS_ 7 51 (bb_ 12 189) HT_.out ?_
  refine pS_ 8 52 (bb_ 12 445) HT_.out ?_
  refine tS_ 6 50 (bb_ 12 509) (bA HT_.out HW_.out (by kernel_rfl)) hHeld ?_
  refine pS_ 9 53 (bb_ 12 1021) HT_.out ?_
  refine fC (i := 1) (N := some 45) (bb_ 12 1023) rfl rfl (cC HT_.out (by kernel_rfl)) (by decide) (fun K hK => ?_)
  refine fj Tryz.func43 (by kernel_rfl) rfl #[.slice q2 C0.length t2] (by rfl) rfl rfl aM_ ?_
  with_reducible refine (bd.calls k2 _ _ C0 G0 _ ?side1 ?side2 b3.out).mono ?_
  (case side1 => exact cR_ (Kd.R_reads' v0.out).2.2)
  (case side2 => exact (Kd.R_reads' v0.out).2.1)
  rintro e u2 ⟨rfl, hb⟩
  refine ⟨_, rfl, ?_⟩
  have n_ := b_ (Kd.R_below (rR_ v0.out) hb) <| b_ (Kd.R_below (rR_ x0.out) hb) <| b_ (bG (g := e0) (o := .cells #[.string k0, .string p0, .int .i64 q0] 30 (0, 0)) (rK_ a0.out) hb) <| b_ (bG (g := f0) (o := .cells #[.string (⟨#[]⟩ : ByteArray), .string (⟨#[]⟩ : ByteArray), .int .i64 0] 30 (0, 0)) (rK_ b0.out) hb) <| c_ (ac ((u0_ r0.out u0.out)) hb)
  clear v0 x0 a0 b0 HB
  obtain ⟨v0, x0, a0, b0, HB⟩ := n_
  refine hK.out _ _ ⟨(au a0.out 0).trans rfl, (au a0.out 1).trans rfl, (au a0.out 2).trans rfl⟩ (fun hHeld => ?_)
  clear hK K
  refine dV (a' := ?_) ?_ ?_
  rotate_left
  ·show Act.put _ (some 45) _ = _
   simp only [Act.put, List.setIfInBounds_toArray, List.set_cons_zero, List.set_cons_succ, bB, cJ]
   rfl
  refine pS_ 10 54 (bb_ 12 2047) HT_.out ?_
  refine fC (i := 11) (N := none) (bb_ 12 4095) rfl rfl (cC HT_.out (by kernel_rfl)) (by decide) (fun K hK => ?_)
  have c3 : u2.cell? ⟨f0, 0, none⟩ = some (.string (⟨#[]⟩ : ByteArray)) := (au b0.out 0).trans rfl
  have P2 := aj b0.out 0
  have K1 := d0.out
  have L1 := t0.out
  have e3 : u2.cell? ⟨f0, 1, none⟩ = some (.string (⟨#[]⟩ : ByteArray)) := (au b0.out 1).trans rfl
  have Q2 := aj b0.out 1
  have M1 := d0.out
  have N1 := t0.out
  have f3 : u2.cell? ⟨f0, 2, none⟩ = some (.int .i64 0) := (au b0.out 2).trans rfl
  have R2 := aj b0.out 2
  have O1 := d0.out
  have P1 := t0.out
  refine iB (w1 := ?_) (by rfl) rfl ?_ ?_
  rotate_left
  ·go_simp
   rfl
  refine hK.out _ _ ⟨((fd (p := ⟨f0, _, none⟩) d0.out _).trans (((fd (p := ⟨f0, _, none⟩) d0.out _).trans (((fd (p := ⟨f0, _, none⟩) d0.out _).trans (hHeld.1)))))), ((fd (p := ⟨f0, _, none⟩) d0.out _).trans (((fd (p := ⟨f0, _, none⟩) d0.out _).trans (((fd (p := ⟨f0, _, none⟩) d0.out _).trans (hHeld.2.1)))))), ((fd (p := ⟨f0, _, none⟩) d0.out _).trans (((fd (p := ⟨f0, _, none⟩) d0.out _).trans (((fd (p := ⟨f0, _, none⟩) d0.out _).trans (hHeld.2.2))))))⟩ (fun hHeld => ?_)
  clear hK K
  refine eT (dn HT_.out (by kernel_rfl)) ?_
  try go_wp2
  refine bodyPost_ret (results_cell_row rfl _ _ f0 30 #[.string G0, .string (bf_.extract (y0 : Int).toNat bf_.size), .int .i64 (wrap64 (q0 + (a1.size : Int)))] (0, 0) _ rfl (by refine kK_ ?_; refine bV (cs := #[.string G0, .string (bf_.extract (y0 : Int).toNat bf_.size), .int .i64 0]) ?_ 2 _ rfl; refine kK_ ?_; refine bV (cs := #[.string G0, .string (⟨#[]⟩ : ByteArray), .int .i64 0]) ?_ 1 _ rfl; refine kK_ ?_; refine bV (cs := #[.string (⟨#[]⟩ : ByteArray), .string (⟨#[]⟩ : ByteArray), .int .i64 0]) ?_ 0 _ rfl; exact rK_ b0.out) Tryz.underlying30 rfl (by kernel_rfl)) rfl ?_
  exact ⟨f1_, (u0_ r0.out u0.out)⟩

/-! ### et: function 44 -/
def et.f  : Option (List Int) := some (([1779033703, 3144134277, 1013904242, 2773480762, 1359893119, 2600822924, 528734635, 1541459225] : List Int))
theorem et.calls  (r : List Int) (w : World) (h : et.f  = some r) :
  Calls Tryz.prog 44 #[] w fun e w' => ∃ f0 : Value, e = .returned (f0) ∧ Kd.R (Kd.int .u32) 45 w' w.heap.size (fun _ => True) f0 r ∧ Below w.heap.size w w' := by
 have HB := aa.mk (xa w.heap.size w)
 delta et.f at h
 have H := h
 clear h
 obtain ⟨j0, a0⟩ : ∃ y_ : List Int, y_ = (([1779033703, 3144134277, 1013904242, 2773480762, 1359893119, 2600822924, 528734635, 1541459225] : List Int)) := ⟨_, rfl⟩
 first | replace H := yb_ a0 H | rw [← a0] at H
 have b0 := aa.mk a0
 clear a0
 obtain rfl := sI H
 go_enter Tryz.func44, Tryz.ntmps44
 go_wp2_with (first | ((with_reducible refine aI (N := 1) rfl ?_); refine Kd.R_lit (Kd.int .u32) _ 45 ?hg (N := 1) ?hd (xs := ([1779033703, 3144134277, 1013904242, 2773480762, 1359893119, 2600822924, 528734635, 1541459225] : List Int)) (inner := [.int .u32 1779033703, .int .u32 3144134277, .int .u32 1013904242, .int .u32 2773480762, .int .u32 1359893119, .int .u32 2600822924, .int .u32 528734635, .int .u32 1541459225]) (ok := fun _ => True) (okp := fun _ => True) ?hr ?hp (fun _ hk => hk) trivial (xa _ _) (wa _) (by simp) ?_; (case hd => rfl); (case hg => rfl); (case hr => first | (go_simp; done) | (go_simp; rfl)); (case hp => exact (br.one (show Kd.M (Kd.int .u32) _ _ _ 1779033703 [.int .u32 1779033703] from rfl) (br.one (show Kd.M (Kd.int .u32) _ _ _ 3144134277 [.int .u32 3144134277] from rfl) (br.one (show Kd.M (Kd.int .u32) _ _ _ 1013904242 [.int .u32 1013904242] from rfl) (br.one (show Kd.M (Kd.int .u32) _ _ _ 2773480762 [.int .u32 2773480762] from rfl) (br.one (show Kd.M (Kd.int .u32) _ _ _ 1359893119 [.int .u32 1359893119] from rfl) (br.one (show Kd.M (Kd.int .u32) _ _ _ 2600822924 [.int .u32 2600822924] from rfl) (br.one (show Kd.M (Kd.int .u32) _ _ _ 528734635 [.int .u32 528734635] from rfl) (br.one (show Kd.M (Kd.int .u32) _ _ _ 1541459225 [.int .u32 1541459225] from rfl) (br.none _ _)))))))))); intro k0 w1 d0 hb hg_ hnew_; clear hg_ hnew_; (first | rw [← b0.out] at d0 | (simp only [Int.reduceToNat] at d0; rw [← b0.out] at d0)); have n_ := b_ (Kd.R_lower d0 (ab (hB_))) <| c_ (ac (hB_) hb); clear HB; obtain ⟨e0, HB⟩ := n_; clear hb d0))
 go_ret
 exact ⟨_, f1_, rR_ e0.out, hB_⟩

end Go.Proofs.YtielligodgabiaaGreatDoor.P
