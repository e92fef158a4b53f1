-- printed texts of this session, regrouped
import Derived.Test.YtielligodgabiaaGreatDoorMWC
import Derived.Test.YtielligodgabiaaGreatDoorMWA
import Derived.Test.YtielligodgabiaaGreatDoorMW7
import Derived.Test.YtielligodgabiaaGreatDoorMW6
import Derived.Test.YtielligodgabiaaGreatDoorPx0
import Derived.Test.YtielligodgabiaaGreatDoorPx1
namespace Go.Proofs.YtielligodgabiaaGreatDoor.P
open Go.RowKit YtielligodgabiaaGreatDoorW.PrintWords YtielligodgabiaaGreatDoorW.PrintLast YtielligodgabiaaGreatDoorW.PrintMore
attribute [local go_sem] dJ dC ej eh dh di dB dK   -- for this text's walks alone
set_option linter.unusedVariables false
set_option linter.unusedSimpArgs false
set_option maxHeartbeats 8000000
set_option maxRecDepth 100000

/-! ### cu: function 12 -/
def cu.f (k : Nat)  : Option (ByteArray × ByteArray × Int) := (et.f).bind fun t189 => ((bd.f k t189).bind fun t192 => (some (t192, (⟨#[]⟩ : ByteArray), 0)))
theorem cu.mono : ∀ k, LeO (cu.f k ) (cu.f (k + 1) ) := by
 intro  k
 unfold cu.f
 exact o1_ bd.mono
theorem cu.calls (k : Nat)  (r1 : ByteArray) (r2 : ByteArray) (r3 : Int) (w : World) (h : cu.f k  = some (r1, r2, r3)) :
  Calls Tryz.prog 12 #[] w fun e w' => e = .returned (.agg #[.string r1, .string r2, .int .i64 r3]) ∧ Below w.heap.size w w' := by
 have hu30 := Tryz.underlying30
 have HB := aa.mk (xa w.heap.size w)
 delta cu.f at h
 have H := h
 clear h
 obtain ⟨j0, A1, H⟩ := bN_ H
 obtain ⟨f0, A2, H⟩ := bN_ H
 simp only [Option.some.injEq, Prod.mk.injEq] at H
 obtain ⟨rfl, rfl, rfl⟩ := H
 go_enter Tryz.func12, Tryz.ntmps12
 go_wp2_with (first | ((with_reducible refine aI (N := 0) rfl ?_); refine cn ?hg (N := 0) ?hd (cs := #[.string (⟨#[]⟩ : ByteArray), .string (⟨#[]⟩ : ByteArray), .int .i64 0]) (t := 30) ?hr ?_; (case hd => rfl); (case hg => rfl); (case hr => first | (go_simp; done) | (go_simp; rfl)); intro b0 hg w3 hbox hb; have n_ := b_ (ac (hB_) hb) <| b_ (hbox) <| b_ (by rw [hg]; exact (ab (hB_)) : w.heap.size ≤ b0) <| c_ (by rw [hg]; exact (ab (hB_)) : w.heap.size ≤ b0); clear HB; obtain ⟨HB, a0, v0, e0⟩ := n_; clear hb hbox hg) | ((with_reducible refine ae (f := 44) rfl ?_); refine aq (some 1) rfl rfl Tryz.func44 (by kernel_rfl) rfl #[] rfl aM_ ?_; (with_reducible refine (et.calls  j0 _ A1.out).mono ?_); rintro e w4 ⟨x0, rfl, y0, hb⟩; refine ⟨_, rfl, ?_⟩; have n_ := b_ (Kd.R_lower y0 (ab (hS_ e0.out))) <| b_ (bG (g := b0) (o := .cells #[.string (⟨#[]⟩ : ByteArray), .string (⟨#[]⟩ : ByteArray), .int .i64 0] 30 (0, 0)) (rK_ a0.out) hb) <| c_ (ac (hS_ e0.out) hb); clear a0 HB; obtain ⟨d0, a0, HB⟩ := n_; obtain ⟨B0, C0, D0⟩ := Kd.R_slice d0.out; subst D0) | ((with_reducible refine ae (f := 43) rfl ?_); refine aq (some 2) rfl rfl Tryz.func43 (by kernel_rfl) rfl #[.slice B0 j0.length C0] rfl aM_ ?_; (with_reducible refine (bd.calls k _ _ j0 f0 _ ?side1 ?side2 A2.out).mono ?_); (case side1 => exact cR_ (Kd.R_reads' d0.out).2.2); (case side2 => exact (Kd.R_reads' d0.out).2.1); rintro e w6 ⟨rfl, hb⟩; refine ⟨_, rfl, ?_⟩; have n_ := b_ (Kd.R_below (rR_ d0.out) hb) <| b_ (bG (g := b0) (o := .cells #[.string (⟨#[]⟩ : ByteArray), .string (⟨#[]⟩ : ByteArray), .int .i64 0] 30 (0, 0)) (rK_ a0.out) hb) <| c_ (ac (hS_ e0.out) hb); clear d0 a0 HB; obtain ⟨d0, a0, HB⟩ := n_; have k0 : w6.cell? ⟨b0, 0, none⟩ = some (.string (⟨#[]⟩ : ByteArray)) := (au a0.out 0).trans rfl; have p0 : w6.cell? ⟨b0, 1, none⟩ = some (.string (⟨#[]⟩ : ByteArray)) := (au a0.out 1).trans rfl; have q0 : w6.cell? ⟨b0, 2, none⟩ = some (.int .i64 0) := (au a0.out 2).trans rfl; have r0 := aj a0.out 0; have t0 := aj a0.out 1; have u0 := aj a0.out 2))
 refine bodyPost_ret (results_cell_row rfl _ _ b0 30 #[.string f0, .string (⟨#[]⟩ : ByteArray), .int .i64 0] (0, 0) _ rfl (by refine kK_ ?_; refine bV (cs := #[.string f0, .string (⟨#[]⟩ : ByteArray), .int .i64 0]) ?_ 2 _ rfl; refine kK_ ?_; refine bV (cs := #[.string f0, .string (⟨#[]⟩ : ByteArray), .int .i64 0]) ?_ 1 _ rfl; refine kK_ ?_; refine bV (cs := #[.string (⟨#[]⟩ : ByteArray), .string (⟨#[]⟩ : ByteArray), .int .i64 0]) ?_ 0 _ rfl; exact rK_ a0.out) Tryz.underlying30 rfl (by kernel_rfl)) rfl ?_
 exact ⟨f1_, hS_ e0.out⟩

/-! ### ar: function 47 -/
def ar.l0 : Nat → List Int → Int → Option (Bool)
 | 0, _, _ => none
 | k + 1, x0, x3 => if x3 < (x0.length : Int) then (if 0 ≤ x3 then ((aW.f (rd x0 x3) 0 3328).bind fun t201 => (if t201 = true then (ar.l0 k x0 (wrap64 (x3 + 1))) else (some false))) else (none)) else (some true)
def ar.f (k : Nat) (l0 : List Int) : Option (Bool) := if (l0.length : Int) = 256 then (ar.l0 k l0 0) else (some false)
theorem ar.mono_l : ∀ k, (∀ y0 y1, LeO (ar.l0 k y0 y1) (ar.l0 (k + 1) y0 y1))
 | 0 => fun _ _ r h => by simp [ar.l0] at h
 | k + 1 => by
  have ih0 := ar.mono_l k
  intros; unfold ar.l0; exact o1_ ih0
theorem ar.mono : ∀ a0 k, LeO (ar.f k a0) (ar.f (k + 1) a0) := by
 intro a0 k
 have ih0 := ar.mono_l k
 unfold ar.f
 exact o1_ ih0
theorem ar.calls (k : Nat) (A0 : Option Addr) (c0 : Nat) (l0 : List Int) (r : Bool) (w : World) (hr0 : Kd.C (Kd.int .i64) w A0 l0.length l0) (hc0 : l0.length ≤ c0) (h : ar.f k l0 = some r) :
  Calls Tryz.prog 47 #[.slice A0 l0.length c0] w fun e w' => e = .returned (.bool r) ∧ cp w w' := by
 have t0 := aa.mk hr0
 have x0 := aa.mk hc0
 clear hr0 hc0
 delta ar.f at h
 have H := h
 clear h
 by_cases c2 : (l0.length : Int) = 256
 rotate_left
 ·rw [Aa c2] at H
  have k0 : ((l0.length : Int) == 256) = false := beq_eq_false_iff_ne.mpr c2
  have p0 : ((l0.length : Int) != 256) = true := bne_iff_ne.mpr c2
  obtain rfl := sI H
  go_enter Tryz.func47, Tryz.ntmps47
  go_wp2
  go_ret
  exact ⟨f0_, d0_⟩
 rw [za c2] at H
 have k0 : ((l0.length : Int) == 256) = true := beq_iff_eq.mpr c2
 have p0 : ((l0.length : Int) != 256) = false := bne_eq_false_iff_eq.mpr c2
 clear c2
 have H' := aa.mk H
 clear H
 go_enter Tryz.func47, Tryz.ntmps47
 go_wp2
 go_loopg [3] k (fun kq v3 w' => ∃ (a0 : Int), v3 = .int .i64 a0 ∧ aa (ar.l0 kq l0 a0 = some r) ∧ aa (kq ≤ k) ∧ cp w w')
 case atStart => exact ⟨(0), f0_, H', ⟨wa _⟩, d0_⟩
 clear H'
 obtain ⟨a0, rfl, HA, u0, ⟨m1, rfl⟩⟩ := hrel
 rcases gk with _ | k1
 ·exact absurd HA.out (by simp [ar.l0])
 have H := HA.out
 clear HA
 simp only [ar.l0] at H
 by_cases c3 : a0 < (l0.length : Int)
 rotate_left
 ·rw [Aa c3] at H
  have q0 := ua c3
  clear c3
  obtain rfl := sI H
  go_wp2
  go_ret
  exact ⟨f0_, d0_⟩
 rw [za c3] at H
 have q0 := ta c3
 clear c3
 obtain ⟨v0, H⟩ := iD_ H
 obtain ⟨r0, A5, H⟩ := bN_ H
 by_cases c6 : r0 = true
 ·subst c6
  replace H := iT_ H
  have H' := aa.mk H
  clear H
  have b0 : 0 ≤ (a0 : Int) := oD_
  have d0 : a0 < (l0.length : Int) := oD_
  obtain ⟨j0, f0, e0⟩ := Kd.at_int t0.out a0 b0 d0
  cases f0
  replace b0 := va b0
  replace d0 := va d0
  go_wp2_with (first | ((with_reducible refine ae (f := 75) rfl ?_); refine aq (some 17) rfl rfl Tryz.func75 (by kernel_rfl) rfl #[.int .i64 (rd l0 a0), .int .i64 0, .int .i64 3328] rfl aM_ ?_; (with_reducible refine (aW.calls (rd l0 a0) 0 3328 true _ A5.out).mono ?_); rintro e w' ⟨rfl, ⟨nd, rfl⟩⟩; refine ⟨_, rfl, ?_⟩))
  go_roundg k1
  case measure => have := u0.out; omega
  case rel => exact ⟨(wrap64 (a0 + 1)), f0_, H', ⟨by have := u0.out; omega⟩, d0_⟩
 ·replace c6 := ya c6
  subst c6
  replace H := iF_ H
  obtain rfl := sI H
  have b0 : 0 ≤ (a0 : Int) := oD_
  have d0 : a0 < (l0.length : Int) := oD_
  obtain ⟨j0, f0, e0⟩ := Kd.at_int t0.out a0 b0 d0
  cases f0
  replace b0 := va b0
  replace d0 := va d0
  go_wp2_with (first | ((with_reducible refine ae (f := 75) rfl ?_); refine aq (some 17) rfl rfl Tryz.func75 (by kernel_rfl) rfl #[.int .i64 (rd l0 a0), .int .i64 0, .int .i64 3328] rfl aM_ ?_; (with_reducible refine (aW.calls (rd l0 a0) 0 3328 false _ A5.out).mono ?_); rintro e w' ⟨rfl, ⟨nd, rfl⟩⟩; refine ⟨_, rfl, ?_⟩))
  go_ret
  exact ⟨f0_, d0_⟩

/-! ### av: function 81 -/
def av.l0 : Nat → Int → Int → Int → Option (Int)
 | 0, _, _, _ => none
 | k + 1, x0, x3, x4 => if x4 < x0 then (av.l0 k x0 (wrap64 (2 * x3)) (wrap64 (x4 + 1))) else (some x3)
def av.f (k : Nat) (a0 : Int) : Option (Int) := av.l0 k a0 1 0
theorem av.mono_l : ∀ k, (∀ y0 y1 y2, LeO (av.l0 k y0 y1 y2) (av.l0 (k + 1) y0 y1 y2))
 | 0 => fun _ _ _ r h => by simp [av.l0] at h
 | k + 1 => by
  have ih0 := av.mono_l k
  intros; unfold av.l0; exact o1_ ih0
theorem av.mono : ∀ a0 k, LeO (av.f k a0) (av.f (k + 1) a0) := by
 intro a0 k
 have ih0 := av.mono_l k
 unfold av.f
 exact o1_ ih0
theorem av.calls (k : Nat) (a0 : Int) (r : Int) (w : World) (h : av.f k a0 = some r) :
  Calls Tryz.prog 81 #[.int .i64 a0] w fun e w' => e = .returned (.int .i64 r) ∧ cp w w' := by
 delta av.f at h
 have H := h
 clear h
 have H' := aa.mk H
 clear H
 go_enter Tryz.func81, Tryz.ntmps81
 go_wp2
 go_loopg [3, 4] k (fun kq v3 v4 w' => ∃ (d0 : Int) (b0 : Int), v3 = .int .i64 d0 ∧ v4 = .int .i64 b0 ∧ aa (av.l0 kq a0 d0 b0 = some r) ∧ aa (kq ≤ k) ∧ cp w w')
 case atStart => exact ⟨(1), (0), f0_, f0_, H', ⟨wa _⟩, d0_⟩
 clear H'
 obtain ⟨d0, b0, rfl, rfl, HA, f0, ⟨m1, rfl⟩⟩ := hrel
 rcases gk with _ | k1
 ·exact absurd HA.out (by simp [av.l0])
 have H := HA.out
 clear HA
 simp only [av.l0] at H
 by_cases c2 : b0 < a0
 ·rw [za c2] at H
  have e0 := ta c2
  clear c2
  have H' := aa.mk H
  clear H
  go_wp2
  go_roundg k1
  case measure => have := f0.out; omega
  case rel => exact ⟨(wrap64 (2 * d0)), (wrap64 (b0 + 1)), f0_, f0_, H', ⟨by have := f0.out; omega⟩, d0_⟩
 rw [Aa c2] at H
 have e0 := ua c2
 clear c2
 obtain rfl := sI H
 go_wp2
 go_ret
 exact ⟨f0_, d0_⟩

/-! ### az: function 78 -/
mutual
def az.j0 : Nat → ByteArray → Int → Int → List Int → Bool → Option (List Int × Bool)
 | 0, _, _, _, _, _ => none
 | k + 1, x0, x1, x2, x8, x31 => if x31 = true then (some (x8, false)) else (az.l0 k x0 x1 x2 x8 0 0 0 0)
def az.l0 : Nat → ByteArray → Int → Int → List Int → Int → Int → Int → Int → Option (List Int × Bool)
 | 0, _, _, _, _, _, _, _, _ => none
 | k + 1, x0, x1, x2, x8, x9, x10, x11, x12 => if x12 < x2 then (az.l1 k x0 x1 x2 x8 x9 x10 x11 x12) else (if x9 = 0 then (some (x8, true)) else (some ((([] : List Int)), false)))
def az.l1 : Nat → ByteArray → Int → Int → List Int → Int → Int → Int → Int → Option (List Int × Bool)
 | 0, _, _, _, _, _, _, _, _ => none
 | k + 1, x0, x1, x2, x8, x9, x10, x11, x12 => if x10 < x1 then (if 0 ≤ x11 then (if x11 < (x0.size : Int) then ((av.f k x10).bind fun t210 => (az.l1 k x0 x1 x2 x8 (wrap64 (x9 + (wrap64 ((wrap64 (bt x0 x11)) * t210)))) (wrap64 (x10 + 8)) (wrap64 (x11 + 1)) x12)) else (none)) else (none)) else ((av.f k x1).bind fun t211 => (if t211 = 0 then (none) else (if x8.length < 17592186044416 then ((av.f k x1).bind fun t215 => (if t215 = 0 then (none) else (az.l0 k x0 x1 x2 (x8 ++ [Int.tmod x9 t211]) (wrap64 (Int.tdiv x9 t215)) (wrap64 (x10 - x1)) x11 (wrap64 (x12 + 1))))) else (none))))
end
def az.f (k : Nat) (a0 : ByteArray) (a1 : Int) (a2 : Int) : Option (List Int × Bool) := (some (([] : List Int) : List Int)).bind fun y202 => ((aW.f a1 1 12).bind fun t205 => (if t205 = true then ((aW.f a2 0 1000).bind fun t206 => (if t206 = true then (az.j0 k a0 a1 a2 y202 ((a0.size : Int) != (wrap64 (Int.tdiv (wrap64 ((wrap64 (a2 * a1)) + 7)) 8)))) else (az.j0 k a0 a1 a2 y202 true))) else (az.j0 k a0 a1 a2 y202 true)))
theorem az.mono_l : ∀ k, (∀ y0 y1 y2 y3 y4, LeO (az.j0 k y0 y1 y2 y3 y4) (az.j0 (k + 1) y0 y1 y2 y3 y4)) ∧ (∀ y0 y1 y2 y3 y4 y5 y6 y7, LeO (az.l0 k y0 y1 y2 y3 y4 y5 y6 y7) (az.l0 (k + 1) y0 y1 y2 y3 y4 y5 y6 y7)) ∧ (∀ y0 y1 y2 y3 y4 y5 y6 y7, LeO (az.l1 k y0 y1 y2 y3 y4 y5 y6 y7) (az.l1 (k + 1) y0 y1 y2 y3 y4 y5 y6 y7))
 | 0 => ⟨fun _ _ _ _ _ r h => by simp [az.j0] at h, fun _ _ _ _ _ _ _ _ r h => by simp [az.l0] at h, fun _ _ _ _ _ _ _ _ r h => by simp [az.l1] at h⟩
 | k + 1 => by
  obtain ⟨ih0, ih1, ih2⟩ := az.mono_l k
  refine ⟨?_, ?_, ?_⟩ <;> (intros; (first | unfold az.j0 | unfold az.l0 | unfold az.l1); exact o4_ ih0 ih1 ih2 av.mono)
theorem az.mono : ∀ a0 a1 a2 k, LeO (az.f k a0 a1 a2) (az.f (k + 1) a0 a1 a2) := by
 intro a0 a1 a2 k
 obtain ⟨ih0, ih1, ih2⟩ := az.mono_l k
 unfold az.f
 exact o4_ ih0 ih1 ih2 av.mono
theorem az.calls (k : Nat) (a0 : ByteArray) (a1 : Int) (a2 : Int) (r1 : List Int) (r2 : Bool) (w : World) (h : az.f k a0 a1 a2 = some (r1, r2)) :
  Calls Tryz.prog 78 #[.string a0, .int .i64 a1, .int .i64 a2] w fun e w' => ∃ y1 : Value, e = .returned (.tuple #[y1, .bool r2]) ∧ Kd.R (Kd.int .i64) 3 w' w.heap.size (fun _ => True) y1 r1 ∧ Below w.heap.size w w' := by
 have HB := aa.mk (xa w.heap.size w)
 delta az.f at h
 have H := h
 clear h
 obtain ⟨M0, y0⟩ : ∃ y_ : List Int, y_ = (([] : List Int)) := ⟨_, rfl⟩
 first | replace H := yb_ y0 H | rw [← y0] at H
 have q0 := aa.mk y0
 clear y0
 have e1 := aa.mk H
 clear H
 go_enter Tryz.func78, Tryz.ntmps78
 go_upto_region 2 with (first | ((with_reducible refine aI (N := 13) rfl ?_); (try (refine bj (by rfl) ?_; dsimp only)); refine Kd.R_lit (Kd.int .i64) _ 3 ?hg (N := 13) ?hd (xs := ([] : List Int)) (inner := []) (ok := fun _ => True) (okp := fun _ => True) ?hr ?hp (fun _ hk => hk) trivial (xa _ _) (wa _) (by simp) ?_; (case hd => rfl); (case hg => rfl); (case hr => first | (go_simp; done) | (go_simp; rfl)); (case hp => exact (br.none _ _)); intro N0 w5 u0 hb hg_ hnew_; clear hg_ hnew_; (first | rw [← q0.out] at u0 | (simp only [Int.reduceToNat] at u0; rw [← q0.out] at u0)); have n_ := b_ (Kd.R_lower u0 (ab (hB_))) <| c_ (ac (hB_) hb); clear HB; obtain ⟨v0, HB⟩ := n_; clear hb u0))
 repeat (go_quiet (first | ((with_reducible refine aI (N := 13) rfl ?_); (try (refine bj (by rfl) ?_; dsimp only)); refine Kd.R_lit (Kd.int .i64) _ 3 ?hg (N := 13) ?hd (xs := ([] : List Int)) (inner := []) (ok := fun _ => True) (okp := fun _ => True) ?hr ?hp (fun _ hk => hk) trivial (xa _ _) (wa _) (by simp) ?_; (case hd => rfl); (case hg => rfl); (case hr => first | (go_simp; done) | (go_simp; rfl)); (case hp => exact (br.none _ _)); intro N0 w5 u0 hb hg_ hnew_; clear hg_ hnew_; (first | rw [← q0.out] at u0 | (simp only [Int.reduceToNat] at u0; rw [← q0.out] at u0)); have n_ := b_ (Kd.R_lower u0 (ab (hB_))) <| c_ (ac (hB_) hb); clear HB; obtain ⟨v0, HB⟩ := n_; clear hb u0)); go_upto_region 2 with (first | ((with_reducible refine aI (N := 13) rfl ?_); (try (refine bj (by rfl) ?_; dsimp only)); refine Kd.R_lit (Kd.int .i64) _ 3 ?hg (N := 13) ?hd (xs := ([] : List Int)) (inner := []) (ok := fun _ => True) (okp := fun _ => True) ?hr ?hp (fun _ hk => hk) trivial (xa _ _) (wa _) (by simp) ?_; (case hd => rfl); (case hg => rfl); (case hr => first | (go_simp; done) | (go_simp; rfl)); (case hp => exact (br.none _ _)); intro N0 w5 u0 hb hg_ hnew_; clear hg_ hnew_; (first | rw [← q0.out] at u0 | (simp only [Int.reduceToNat] at u0; rw [← q0.out] at u0)); have n_ := b_ (Kd.R_lower u0 (ab (hB_))) <| c_ (ac (hB_) hb); clear HB; obtain ⟨v0, HB⟩ := n_; clear hb u0)))
 (try simp only [Act.put, List.setIfInBounds_toArray, List.set_cons_zero, List.set_cons_succ])
 go_cut [31] (fun I1 wc => ∃ (kq : Nat) (B0 : Bool), I1 = .bool B0 ∧ aa (az.j0 kq a0 a1 a2 M0 B0 = some (r1, r2)) ∧ aa (kq ≤ k) ∧ aa (Kd.R (Kd.int .i64) 3 wc w.heap.size (fun _ => True) N0 M0) ∧ aa (Below w.heap.size w wc))
 case first =>
  have H := e1.out
  clear e1
  obtain ⟨f1, A7, H⟩ := bN_ H
  by_cases c8 : f1 = true
  ·subst c8
   replace H := iT_ H
   obtain ⟨g1, A9, H⟩ := bN_ H
   by_cases W0 : g1 = true
   ·subst W0
    replace H := iT_ H
    have H' := aa.mk H
    clear H
    go_wp2_with (first | (go_at_call 75; (with_reducible refine (aW.calls a1 1 12 true _ A7.out).mono ?_); rintro e w' ⟨rfl, ⟨nd, rfl⟩⟩; (try first | exact ⟨rfl, _, World.drewN_drewN _ _ _⟩ | exact ⟨rfl, _, Eq.trans (World.drewN_drewN _ _ _) (congrArg (World.drewN _) (Nat.add_assoc _ _ _))⟩)) | (go_at_call 75; (with_reducible refine (aW.calls a2 0 1000 true _ A9.out).mono ?_); rintro e w' ⟨rfl, ⟨nd, rfl⟩⟩; (try first | exact ⟨rfl, _, World.drewN_drewN _ _ _⟩ | exact ⟨rfl, _, Eq.trans (World.drewN_drewN _ _ _) (congrArg (World.drewN _) (Nat.add_assoc _ _ _))⟩)))
    repeat (go_quiet (first | (go_at_call 75; (with_reducible refine (aW.calls a1 1 12 true _ A7.out).mono ?_); rintro e w' ⟨rfl, ⟨nd, rfl⟩⟩; (try first | exact ⟨rfl, _, World.drewN_drewN _ _ _⟩ | exact ⟨rfl, _, Eq.trans (World.drewN_drewN _ _ _) (congrArg (World.drewN _) (Nat.add_assoc _ _ _))⟩)) | (go_at_call 75; (with_reducible refine (aW.calls a2 0 1000 true _ A9.out).mono ?_); rintro e w' ⟨rfl, ⟨nd, rfl⟩⟩; (try first | exact ⟨rfl, _, World.drewN_drewN _ _ _⟩ | exact ⟨rfl, _, Eq.trans (World.drewN_drewN _ _ _) (congrArg (World.drewN _) (Nat.add_assoc _ _ _))⟩))); try go_wp2)
    go_meet
    case rel => exact ⟨_, (((a0.size : Int) != (wrap64 (Int.tdiv (wrap64 ((wrap64 (a2 * a1)) + 7)) 8)))), f0_, H', ⟨by first | omega | exact wa _⟩, ⟨rR_ v0.out⟩, ⟨hB_⟩⟩
   ·replace W0 := ya W0
    subst W0
    replace H := iF_ H
    have H' := aa.mk H
    clear H
    go_wp2_with (first | (go_at_call 75; (with_reducible refine (aW.calls a1 1 12 true _ A7.out).mono ?_); rintro e w' ⟨rfl, ⟨nd, rfl⟩⟩; (try first | exact ⟨rfl, _, World.drewN_drewN _ _ _⟩ | exact ⟨rfl, _, Eq.trans (World.drewN_drewN _ _ _) (congrArg (World.drewN _) (Nat.add_assoc _ _ _))⟩)) | (go_at_call 75; (with_reducible refine (aW.calls a2 0 1000 false _ A9.out).mono ?_); rintro e w' ⟨rfl, ⟨nd, rfl⟩⟩; (try first | exact ⟨rfl, _, World.drewN_drewN _ _ _⟩ | exact ⟨rfl, _, Eq.trans (World.drewN_drewN _ _ _) (congrArg (World.drewN _) (Nat.add_assoc _ _ _))⟩)))
    repeat (go_quiet (first | (go_at_call 75; (with_reducible refine (aW.calls a1 1 12 true _ A7.out).mono ?_); rintro e w' ⟨rfl, ⟨nd, rfl⟩⟩; (try first | exact ⟨rfl, _, World.drewN_drewN _ _ _⟩ | exact ⟨rfl, _, Eq.trans (World.drewN_drewN _ _ _) (congrArg (World.drewN _) (Nat.add_assoc _ _ _))⟩)) | (go_at_call 75; (with_reducible refine (aW.calls a2 0 1000 false _ A9.out).mono ?_); rintro e w' ⟨rfl, ⟨nd, rfl⟩⟩; (try first | exact ⟨rfl, _, World.drewN_drewN _ _ _⟩ | exact ⟨rfl, _, Eq.trans (World.drewN_drewN _ _ _) (congrArg (World.drewN _) (Nat.add_assoc _ _ _))⟩))); try go_wp2)
    go_meet
    case rel => exact ⟨_, (true), f0_, H', ⟨by first | omega | exact wa _⟩, ⟨rR_ v0.out⟩, ⟨hB_⟩⟩
  ·replace c8 := ya c8
   subst c8
   replace H := iF_ H
   have H' := aa.mk H
   clear H
   go_wp2_with (first | (go_at_call 75; (with_reducible refine (aW.calls a1 1 12 false _ A7.out).mono ?_); rintro e w' ⟨rfl, ⟨nd, rfl⟩⟩; (try first | exact ⟨rfl, _, World.drewN_drewN _ _ _⟩ | exact ⟨rfl, _, Eq.trans (World.drewN_drewN _ _ _) (congrArg (World.drewN _) (Nat.add_assoc _ _ _))⟩)))
   repeat (go_quiet (first | (go_at_call 75; (with_reducible refine (aW.calls a1 1 12 false _ A7.out).mono ?_); rintro e w' ⟨rfl, ⟨nd, rfl⟩⟩; (try first | exact ⟨rfl, _, World.drewN_drewN _ _ _⟩ | exact ⟨rfl, _, Eq.trans (World.drewN_drewN _ _ _) (congrArg (World.drewN _) (Nat.add_assoc _ _ _))⟩))); try go_wp2)
   go_meet
   case rel => exact ⟨_, (true), f0_, H', ⟨by first | omega | exact wa _⟩, ⟨rR_ v0.out⟩, ⟨hB_⟩⟩
 clear e1
 obtain ⟨kq, B0, rfl, HA, X0, b0, HB⟩ := hcut
 rcases kq with _ | z1
 ·exact absurd HA.out (by simp [az.j0])
 have H := HA.out
 clear HA
 simp only [az.j0] at H
 by_cases Y0 : B0 = true
 ·subst Y0
  replace H := iT_ H
  simp only [Option.some.injEq, Prod.mk.injEq] at H
  obtain ⟨rfl, rfl⟩ := H
  go_wp2
  repeat (go_quiet (fail); try go_wp2)
  go_ret2
  exact ⟨_, f1_, rR_ b0.out, hB_⟩
 ·replace Y0 := ya Y0
  subst Y0
  replace H := iF_ H
  have H' := aa.mk H
  clear H
  go_wp2
  repeat (go_quiet (fail); try go_wp2)
  go_loopg [8, 9, 10, 11, 12] z1 (fun kq v8 v9 i1 j1 J1 w' => ∃ (x0 : List Int) (t0 : Int) (C0 : Int) (D0 : Int) (r0 : Int), v9 = .int .i64 t0 ∧ i1 = .int .i64 C0 ∧ j1 = .int .i64 D0 ∧ J1 = .int .i64 r0 ∧ aa (az.l0 kq a0 a1 a2 x0 t0 C0 D0 r0 = some (r1, r2)) ∧ aa (kq ≤ z1) ∧ aa (Kd.R (Kd.int .i64) 3 w' w.heap.size (fun _ => True) v8 x0) ∧ aa (Below w.heap.size w w'))
  case atStart => exact ⟨(M0), (0), (0), (0), (0), f0_, f0_, f0_, f0_, H', ⟨wa _⟩, ⟨rR_ b0.out⟩, ⟨hB_⟩⟩
  clear H'
  obtain ⟨x0, t0, C0, D0, r0, rfl, rfl, rfl, rfl, HA, Z0, b0, HB⟩ := hrel
  rcases gk with _ | k2
  ·exact absurd HA.out (by simp [az.l0])
  have H := HA.out
  clear HA
  simp only [az.l0] at H
  by_cases Q0 : r0 < a2
  rotate_left
  ·rw [Aa Q0] at H
   have S0 := ua Q0
   clear Q0
   by_cases O0 : t0 = 0
   ·rw [za O0] at H
    have T0 : (t0 == 0) = true := beq_iff_eq.mpr O0
    have U0 : (t0 != 0) = false := bne_eq_false_iff_eq.mpr O0
    clear O0
    simp only [Option.some.injEq, Prod.mk.injEq] at H
    obtain ⟨rfl, rfl⟩ := H
    go_wp2
    repeat (go_quiet (fail); try go_wp2)
    go_ret2
    exact ⟨_, f1_, rR_ b0.out, hB_⟩
   rw [Aa O0] at H
   have T0 : (t0 == 0) = false := beq_eq_false_iff_ne.mpr O0
   have U0 : (t0 != 0) = true := bne_iff_ne.mpr O0
   obtain ⟨K1, E0⟩ : ∃ y_ : List Int, y_ = (([] : List Int)) := ⟨_, rfl⟩
   first | replace H := yb_ E0 H | rw [← E0] at H
   have F0 := aa.mk E0
   clear E0
   simp only [Option.some.injEq, Prod.mk.injEq] at H
   obtain ⟨rfl, rfl⟩ := H
   go_wp2_with (first | ((with_reducible refine aI (N := 70) rfl ?_); (try (refine bj (by rfl) ?_; dsimp only)); refine Kd.R_lit (Kd.int .i64) _ 3 ?hg (N := 70) ?hd (xs := ([] : List Int)) (inner := []) (ok := fun _ => True) (okp := fun _ => True) ?hr ?hp (fun _ hk => hk) trivial (xa _ _) (wa _) (by simp) ?_; (case hd => rfl); (case hg => rfl); (case hr => first | (go_simp; done) | (go_simp; rfl)); (case hp => exact (br.none _ _)); intro m1 L1 e0 hb hg_ hnew_; clear hg_ hnew_; (first | rw [← F0.out] at e0 | (simp only [Int.reduceToNat] at e0; rw [← F0.out] at e0)); have n_ := b_ (Kd.R_elder' (rR_ b0.out) (Kd.R_base e0) hb) <| b_ (Kd.R_lower (Kd.R_new' e0 (Kd.R_lt (rR_ b0.out))) (ab (hB_))) <| c_ (ac (hB_) hb); clear b0 HB; obtain ⟨b0, I0, HB⟩ := n_; clear hb e0))
   repeat (go_quiet (first | ((with_reducible refine aI (N := 70) rfl ?_); (try (refine bj (by rfl) ?_; dsimp only)); refine Kd.R_lit (Kd.int .i64) _ 3 ?hg (N := 70) ?hd (xs := ([] : List Int)) (inner := []) (ok := fun _ => True) (okp := fun _ => True) ?hr ?hp (fun _ hk => hk) trivial (xa _ _) (wa _) (by simp) ?_; (case hd => rfl); (case hg => rfl); (case hr => first | (go_simp; done) | (go_simp; rfl)); (case hp => exact (br.none _ _)); intro m1 L1 e0 hb hg_ hnew_; clear hg_ hnew_; (first | rw [← F0.out] at e0 | (simp only [Int.reduceToNat] at e0; rw [← F0.out] at e0)); have n_ := b_ (Kd.R_elder' (rR_ b0.out) (Kd.R_base e0) hb) <| b_ (Kd.R_lower (Kd.R_new' e0 (Kd.R_lt (rR_ b0.out))) (ab (hB_))) <| c_ (ac (hB_) hb); clear b0 HB; obtain ⟨b0, I0, HB⟩ := n_; clear hb e0)); try go_wp2)
   go_ret2
   exact ⟨_, f1_, by refine kR_ ?_; exact Kd.R_mono I0.out (fun _ hk => trivial), hB_⟩
  rw [za Q0] at H
  have S0 := ta Q0
  clear Q0
  have H' := aa.mk H
  clear H
  go_wp2
  repeat (go_quiet (fail); try go_wp2)
  go_loopg [9, 10, 11] k2 (fun kq v9 i1 j1 w' => ∃ (k0 : Int) (f0 : Int) (d0 : Int), v9 = .int .i64 k0 ∧ i1 = .int .i64 f0 ∧ j1 = .int .i64 d0 ∧ aa (az.l1 kq a0 a1 a2 x0 k0 f0 d0 r0 = some (r1, r2)) ∧ aa (kq ≤ k2) ∧ aa (Kd.R (Kd.int .i64) 3 w' w.heap.size (fun _ => True) u8 x0) ∧ aa (Below w.heap.size w w'))
  case atStart => exact ⟨(t0), (C0), (D0), f0_, f0_, f0_, H', ⟨wa _⟩, ⟨rR_ b0.out⟩, ⟨hB_⟩⟩
  clear H'
  obtain ⟨k0, f0, d0, rfl, rfl, rfl, HA, b1, b0, HB⟩ := hrel
  rcases gk with _ | k3
  ·exact absurd HA.out (by simp [az.l1])
  have H := HA.out
  clear HA
  simp only [az.l1] at H
  by_cases R0 : f0 < a1
  ·rw [za R0] at H
   have V0 := ta R0
   clear R0
   obtain ⟨A1, H⟩ := iD_ H
   obtain ⟨B1, H⟩ := iD_ H
   obtain ⟨P0, C1, H⟩ := bN_ H
   have H' := aa.mk H
   clear H
   have O1 := va (oD_ : 0 ≤ (d0 : Int))
   have P1 := va (oD_ : d0 < (a0.size : Int))
   have M1 := cB a0 d0
   go_wp2_with (first | (go_at_call 81; (with_reducible refine (av.calls k3 f0 P0 _ C1.out).mono ?_); rintro e w' ⟨rfl, ⟨nd, rfl⟩⟩; (try first | exact ⟨rfl, _, World.drewN_drewN _ _ _⟩ | exact ⟨rfl, _, Eq.trans (World.drewN_drewN _ _ _) (congrArg (World.drewN _) (Nat.add_assoc _ _ _))⟩)))
   repeat (go_quiet (first | (go_at_call 81; (with_reducible refine (av.calls k3 f0 P0 _ C1.out).mono ?_); rintro e w' ⟨rfl, ⟨nd, rfl⟩⟩; (try first | exact ⟨rfl, _, World.drewN_drewN _ _ _⟩ | exact ⟨rfl, _, Eq.trans (World.drewN_drewN _ _ _) (congrArg (World.drewN _) (Nat.add_assoc _ _ _))⟩))); try go_wp2)
   go_roundg k3
   case measure => have := X0.out; have := Z0.out; have := b1.out; omega
   case rel => exact ⟨(wrap64 (k0 + (wrap64 ((wrap64 (bt a0 d0)) * P0)))), (wrap64 (f0 + 8)), (wrap64 (d0 + 1)), f0_, f0_, f0_, H', ⟨by have := X0.out; have := Z0.out; have := b1.out; omega⟩, ⟨rR_ b0.out⟩, ⟨hB_⟩⟩
  rw [Aa R0] at H
  have V0 := ua R0
  clear R0
  obtain ⟨p0, n1, H⟩ := bN_ H
  by_cases c1 : p0 = 0
  ·rw [za c1] at H
   exact absurd H (by simp)
  rw [Aa c1] at H
  have D1 : (p0 == 0) = false := beq_eq_false_iff_ne.mpr c1
  have E1 : (p0 != 0) = true := bne_iff_ne.mpr c1
  obtain ⟨F1, H⟩ := iN_ H
  have J0 := aa.mk F1
  clear F1
  obtain ⟨p1, G0⟩ : ∃ y_ : List Int, y_ = (x0 ++ [Int.tmod k0 p0]) := ⟨_, rfl⟩
  first | replace H := yb_ G0 H | rw [← G0] at H
  have K0 := aa.mk G0
  clear G0
  obtain ⟨H0, q1, H⟩ := bN_ H
  have QA21 := aa.mk (sI (n1.out.symm.trans q1.out))
  by_cases d1 : H0 = 0
  ·rw [za d1] at H
   exact absurd H (by simp)
  rw [Aa d1] at H
  have G1 : (H0 == 0) = false := beq_eq_false_iff_ne.mpr d1
  have H1 : (H0 != 0) = true := bne_iff_ne.mpr d1
  have H' := aa.mk H
  clear H
  go_wp2_with (first | (go_at_call 81; (with_reducible refine (av.calls k3 a1 p0 _ n1.out).mono ?_); rintro e w' ⟨rfl, ⟨nd, rfl⟩⟩; (try first | exact ⟨rfl, _, World.drewN_drewN _ _ _⟩ | exact ⟨rfl, _, Eq.trans (World.drewN_drewN _ _ _) (congrArg (World.drewN _) (Nat.add_assoc _ _ _))⟩)) | ((with_reducible refine aV (b := .append) (xs := #[.tmp 54, .tmp 59]) rfl ?_); (try (refine bj (by rfl) ?_; dsimp only)); at_builtin; refine Kd.R_append (Kd.int .i64) (w0 := w) w.heap.size rfl (.tmp 54) (.tmp 59) 38 3 (.int .i64 0) 8 rfl Tryz.underlying38 cS rfl (by decide) (by omega) u8 x0 (Int.tmod k0 p0) [.int .i64 (Int.tmod k0 p0)] (fun _ => True) (fun _ => False) rfl rfl ?aP (fun _ hk => hk.elim) ?aF ?aO ?aB ?aS ?aL ?_; (case aP => exact rfl); (case aB => exact (hB_)); (case aF => exact (fun _ _ => trivial)); (case aO => exact (rR_ b0.out)); (case aS => exact (ab (hB_))); (case aL => have := J0.out; omega); intro t1 N1 ho hb hg hat; rw [← K0.out] at ho; have n_ := b_ (hb) <| c_ (ho); clear b0 HB; obtain ⟨HB, L0⟩ := n_; clear ho hb hg hat) | (go_at_call 81; (with_reducible refine (av.calls k3 a1 H0 _ q1.out).mono ?_); rintro e w' ⟨rfl, ⟨nd, rfl⟩⟩; (try first | exact ⟨rfl, _, World.drewN_drewN _ _ _⟩ | exact ⟨rfl, _, Eq.trans (World.drewN_drewN _ _ _) (congrArg (World.drewN _) (Nat.add_assoc _ _ _))⟩)))
  repeat (go_quiet (first | (go_at_call 81; (with_reducible refine (av.calls k3 a1 p0 _ n1.out).mono ?_); rintro e w' ⟨rfl, ⟨nd, rfl⟩⟩; (try first | exact ⟨rfl, _, World.drewN_drewN _ _ _⟩ | exact ⟨rfl, _, Eq.trans (World.drewN_drewN _ _ _) (congrArg (World.drewN _) (Nat.add_assoc _ _ _))⟩)) | ((with_reducible refine aV (b := .append) (xs := #[.tmp 54, .tmp 59]) rfl ?_); (try (refine bj (by rfl) ?_; dsimp only)); at_builtin; refine Kd.R_append (Kd.int .i64) (w0 := w) w.heap.size rfl (.tmp 54) (.tmp 59) 38 3 (.int .i64 0) 8 rfl Tryz.underlying38 cS rfl (by decide) (by omega) u8 x0 (Int.tmod k0 p0) [.int .i64 (Int.tmod k0 p0)] (fun _ => True) (fun _ => False) rfl rfl ?aP (fun _ hk => hk.elim) ?aF ?aO ?aB ?aS ?aL ?_; (case aP => exact rfl); (case aB => exact (hB_)); (case aF => exact (fun _ _ => trivial)); (case aO => exact (rR_ b0.out)); (case aS => exact (ab (hB_))); (case aL => have := J0.out; omega); intro t1 N1 ho hb hg hat; rw [← K0.out] at ho; have n_ := b_ (hb) <| c_ (ho); clear b0 HB; obtain ⟨HB, L0⟩ := n_; clear ho hb hg hat) | (go_at_call 81; (with_reducible refine (av.calls k3 a1 H0 _ q1.out).mono ?_); rintro e w' ⟨rfl, ⟨nd, rfl⟩⟩; (try first | exact ⟨rfl, _, World.drewN_drewN _ _ _⟩ | exact ⟨rfl, _, Eq.trans (World.drewN_drewN _ _ _) (congrArg (World.drewN _) (Nat.add_assoc _ _ _))⟩))); try go_wp2)
  go_roundg k3
  case measure => have := X0.out; have := Z0.out; have := b1.out; omega
  case rel => exact ⟨(p1), (wrap64 (Int.tdiv k0 H0)), (wrap64 (f0 - a1)), (d0), (wrap64 (r0 + 1)), (by first | rfl | (simp only [QA21.out]; done) | (simp; done) | (simp [*]; done)), (by first | rfl | (simp only [QA21.out]; done) | (simp; done) | (simp [*]; done)), (by first | rfl | (simp only [QA21.out]; done) | (simp; done) | (simp [*]; done)), (by first | rfl | (simp only [QA21.out]; done) | (simp; done) | (simp [*]; done)), H', ⟨by have := X0.out; have := Z0.out; have := b1.out; omega⟩, ⟨rR_ L0.out⟩, ⟨hB_⟩⟩

/-! ### ca: function 45 -/
def ca.f (k : Nat) (a0 : ByteArray) : Option (List Int × Bool) := (az.f k a0 12 256).bind fun bt216 => (if bt216.2 = true then ((ar.f k bt216.1).bind fun t220 => (if t220 = true then (some (bt216.1, true)) else (some ((([] : List Int)), false)))) else (some ((([] : List Int)), false)))
theorem ca.mono : ∀ a0 k, LeO (ca.f k a0) (ca.f (k + 1) a0) := by
 intro a0 k
 unfold ca.f
 exact o2_ ar.mono az.mono
theorem ca.calls (k : Nat) (a0 : ByteArray) (r1 : List Int) (r2 : Bool) (w : World) (h : ca.f k a0 = some (r1, r2)) :
  Calls Tryz.prog 45 #[.string a0] w fun e w' => ∃ B0 : Value, e = .returned (.tuple #[B0, .bool r2]) ∧ Kd.R (Kd.int .i64) 3 w' w.heap.size (fun _ => True) B0 r1 ∧ Below w.heap.size w w' := by
 have HB := aa.mk (xa w.heap.size w)
 delta ca.f at h
 have H := h
 clear h
 obtain ⟨⟨k0, x0⟩, A2, H⟩ := bN_ H
 by_cases c3 : x0 = true
 ·subst c3
  replace H := iT_ H
  obtain ⟨y0, A4, H⟩ := bN_ H
  by_cases c5 : y0 = true
  ·subst c5
   replace H := iT_ H
   simp only [Option.some.injEq, Prod.mk.injEq] at H
   obtain ⟨rfl, rfl⟩ := H
   go_enter Tryz.func45, Tryz.ntmps45
   go_wp2_with (first | ((with_reducible refine ae (f := 78) rfl ?_); refine aq (some 8) rfl rfl Tryz.func78 (by kernel_rfl) rfl #[.string a0, .int .i64 12, .int .i64 256] rfl aM_ ?_; (with_reducible refine (az.calls k a0 12 256 k0 true _ A2.out).mono ?_); rintro e w6 ⟨t0, rfl, r0, hb⟩; refine ⟨_, rfl, ?_⟩; have n_ := b_ (Kd.R_lower r0 (ab (hB_))) <| c_ (ac (hB_) hb); clear HB; obtain ⟨b0, HB⟩ := n_; obtain ⟨I0, J0, C0⟩ := Kd.R_slice b0.out; subst C0) | (go_at_call 47; (with_reducible refine (ar.calls k _ _ k0 true _ ?side1 ?side2 A4.out).mono ?_); (case side1 => exact cR_ (Kd.R_reads' b0.out).2.2); (case side2 => exact (Kd.R_reads' b0.out).2.1); rintro e w' ⟨rfl, ⟨nd, rfl⟩⟩))
   go_ret2
   exact ⟨_, f1_, rR_ b0.out, hB_⟩
  ·replace c5 := ya c5
   subst c5
   replace H := iF_ H
   obtain ⟨D0, d0⟩ : ∃ y_ : List Int, y_ = (([] : List Int)) := ⟨_, rfl⟩
   first | replace H := yb_ d0 H | rw [← d0] at H
   have p0 := aa.mk d0
   clear d0
   simp only [Option.some.injEq, Prod.mk.injEq] at H
   obtain ⟨rfl, rfl⟩ := H
   go_enter Tryz.func45, Tryz.ntmps45
   go_wp2_with (first | ((with_reducible refine ae (f := 78) rfl ?_); refine aq (some 8) rfl rfl Tryz.func78 (by kernel_rfl) rfl #[.string a0, .int .i64 12, .int .i64 256] rfl aM_ ?_; (with_reducible refine (az.calls k a0 12 256 k0 true _ A2.out).mono ?_); rintro e w8 ⟨t0, rfl, r0, hb⟩; refine ⟨_, rfl, ?_⟩; have n_ := b_ (Kd.R_lower r0 (ab (hB_))) <| c_ (ac (hB_) hb); clear HB; obtain ⟨b0, HB⟩ := n_; obtain ⟨K0, L0, E0⟩ := Kd.R_slice b0.out; subst E0) | (go_at_call 47; (with_reducible refine (ar.calls k _ _ k0 false _ ?side1 ?side2 A4.out).mono ?_); (case side1 => exact cR_ (Kd.R_reads' b0.out).2.2); (case side2 => exact (Kd.R_reads' b0.out).2.1); rintro e w' ⟨rfl, ⟨nd, rfl⟩⟩) | ((with_reducible refine aI (N := 18) rfl ?_); refine Kd.R_lit (Kd.int .i64) _ 3 ?hg (N := 18) ?hd (xs := ([] : List Int)) (inner := []) (ok := fun _ => True) (okp := fun _ => True) ?hr ?hp (fun _ hk => hk) trivial (xa _ _) (wa _) (by simp) ?_; (case hd => rfl); (case hg => rfl); (case hr => first | (go_simp; done) | (go_simp; rfl)); (case hp => exact (br.none _ _)); intro F0 M0 f0 hb hg_ hnew_; clear hg_ hnew_; (first | rw [← p0.out] at f0 | (simp only [Int.reduceToNat] at f0; rw [← p0.out] at f0)); have n_ := b_ (Kd.R_elder' (rR_ b0.out) (Kd.R_base f0) hb) <| b_ (Kd.R_lower (Kd.R_new' f0 (Kd.R_lt (rR_ b0.out))) (ab (hB_))) <| c_ (ac (hB_) hb); clear b0 HB; obtain ⟨b0, u0, HB⟩ := n_; clear hb f0))
   go_ret2
   exact ⟨_, f1_, by refine kR_ ?_; exact Kd.R_mono u0.out (fun _ hk => trivial), hB_⟩
 ·replace c3 := ya c3
  subst c3
  replace H := iF_ H
  obtain ⟨G0, e0⟩ : ∃ y_ : List Int, y_ = (([] : List Int)) := ⟨_, rfl⟩
  first | replace H := yb_ e0 H | rw [← e0] at H
  have q0 := aa.mk e0
  clear e0
  simp only [Option.some.injEq, Prod.mk.injEq] at H
  obtain ⟨rfl, rfl⟩ := H
  go_enter Tryz.func45, Tryz.ntmps45
  go_wp2_with (first | ((with_reducible refine ae (f := 78) rfl ?_); refine aq (some 8) rfl rfl Tryz.func78 (by kernel_rfl) rfl #[.string a0, .int .i64 12, .int .i64 256] rfl aM_ ?_; (with_reducible refine (az.calls k a0 12 256 k0 false _ A2.out).mono ?_); rintro e N0 ⟨t0, rfl, r0, hb⟩; refine ⟨_, rfl, ?_⟩; have n_ := b_ (Kd.R_lower r0 (ab (hB_))) <| c_ (ac (hB_) hb); clear HB; obtain ⟨b0, HB⟩ := n_; (try clear r0)) | ((with_reducible refine aI (N := 18) rfl ?_); refine Kd.R_lit (Kd.int .i64) _ 3 ?hg (N := 18) ?hd (xs := ([] : List Int)) (inner := []) (ok := fun _ => True) (okp := fun _ => True) ?hr ?hp (fun _ hk => hk) trivial (xa _ _) (wa _) (by simp) ?_; (case hd => rfl); (case hg => rfl); (case hr => first | (go_simp; done) | (go_simp; rfl)); (case hp => exact (br.none _ _)); intro H0 O0 j0 hb hg_ hnew_; clear hg_ hnew_; (first | rw [← q0.out] at j0 | (simp only [Int.reduceToNat] at j0; rw [← q0.out] at j0)); have n_ := b_ (Kd.R_elder' (rR_ b0.out) (Kd.R_base j0) hb) <| b_ (Kd.R_lower (Kd.R_new' j0 (Kd.R_lt (rR_ b0.out))) (ab (hB_))) <| c_ (ac (hB_) hb); clear b0 HB; obtain ⟨b0, v0, HB⟩ := n_; clear hb j0))
  go_ret2
  exact ⟨_, f1_, by refine kR_ ?_; exact Kd.R_mono v0.out (fun _ hk => trivial), hB_⟩

/-! ### bg: function 14 -/
def bg.l0 : Nat → ByteArray → List (List Int) → Int → Option ((List (List Int)) × Bool)
 | 0, _, _, _ => none
 | k + 1, x0, x4, x5 => if x5 < 2 then (if 0 ≤ (wrap64 (x5 * 384)) then (if (wrap64 (x5 * 384)) ≤ (wrap64 ((wrap64 (x5 + 1)) * 384)) then (if (wrap64 ((wrap64 (x5 + 1)) * 384)) ≤ (x0.size : Int) then ((ca.f k (x0.extract ((wrap64 (x5 * 384)) : Int).toNat ((wrap64 ((wrap64 (x5 + 1)) * 384)) : Int).toNat)).bind fun bt230 => (if bt230.2 = true then (if x4.length < 5864062014805 then (bg.l0 k x0 (x4 ++ [bt230.1]) (wrap64 (x5 + 1))) else (none)) else (some ((([] : List (List Int))), false)))) else (none)) else (none)) else (none)) else (some (x4, true))
def bg.f (k : Nat) (a0 : ByteArray) : Option ((List (List Int)) × Bool) := bg.l0 k a0 (([] : List (List Int))) 0
theorem bg.mono_l : ∀ k, (∀ y0 y1 y2, LeO (bg.l0 k y0 y1 y2) (bg.l0 (k + 1) y0 y1 y2))
 | 0 => fun _ _ _ r h => by simp [bg.l0] at h
 | k + 1 => by
  have ih0 := bg.mono_l k
  intros; unfold bg.l0; exact o2_ ih0 ca.mono
theorem bg.mono : ∀ a0 k, LeO (bg.f k a0) (bg.f (k + 1) a0) := by
 intro a0 k
 have ih0 := bg.mono_l k
 unfold bg.f
 exact o2_ ih0 ca.mono
theorem bg.calls (k : Nat) (a0 : ByteArray) (r1 : List (List Int)) (r2 : Bool) (w : World) (h : bg.f k a0 = some (r1, r2)) :
  Calls Tryz.prog 14 #[.string a0] w fun e w' => ∃ Q0 : Value, e = .returned (.tuple #[Q0, .bool r2]) ∧ Kd.S (Kd.slice 3 (Kd.int .i64)) 38 w' w.heap.size (fun _ => True) Q0 r1 ∧ Below w.heap.size w w' := by
 have HB := aa.mk (xa w.heap.size w)
 delta bg.f at h
 have H := h
 clear h
 obtain ⟨K0, f0⟩ : ∃ y_ : List (List Int), y_ = (([] : List (List Int))) := ⟨_, rfl⟩
 first | replace H := yb_ f0 H | rw [← f0] at H
 have u0 := aa.mk f0
 clear f0
 have H' := aa.mk H
 clear H
 go_enter Tryz.func14, Tryz.ntmps14
 go_wp2_with (first | ((with_reducible refine aI (N := 8) rfl ?_); refine Kd.S_lit (Kd.slice 3 (Kd.int .i64)) _ 38 ?hg (N := 8) ?hd (xs := ([] : List (List Int))) (inner := []) (ok := fun _ => True) (okp := fun _ => True) ?hr ?hp (fun _ hk => hk) trivial (xa _ _) (wa _) (by simp) ?_; (case hd => rfl); (case hg => rfl); (case hr => first | (go_simp; done) | (go_simp; rfl)); (case hp => exact (br.none _ _)); intro U0 w2 y0 hb hg_ hnew_; clear hg_ hnew_; (first | rw [← u0.out] at y0 | (simp only [Int.reduceToNat] at y0; rw [← u0.out] at y0)); have n_ := b_ (Kd.S_lower y0 (ab (hB_))) <| c_ (ac (hB_) hb); clear HB; obtain ⟨B0, HB⟩ := n_; clear hb y0))
 go_loopg [4, 5] k (fun kq v4 v5 w' => ∃ (t0 : List (List Int)) (e0 : Int), v5 = .int .i64 e0 ∧ aa (bg.l0 kq a0 t0 e0 = some (r1, r2)) ∧ aa (kq ≤ k) ∧ aa (Kd.S (Kd.slice 3 (Kd.int .i64)) 38 w' w.heap.size (fun _ => True) v4 t0) ∧ aa (Below w.heap.size w w'))
 case atStart => exact ⟨(K0), (0), f0_, H', ⟨wa _⟩, ⟨rS_ B0.out⟩, ⟨hB_⟩⟩
 clear H'
 obtain ⟨t0, e0, rfl, HA, R0, b0, HB⟩ := hrel
 rcases gk with _ | k1
 ·exact absurd HA.out (by simp [bg.l0])
 have H := HA.out
 clear HA
 simp only [bg.l0] at H
 by_cases c4 : e0 < 2
 rotate_left
 ·rw [Aa c4] at H
  have L0 := ua c4
  clear c4
  simp only [Option.some.injEq, Prod.mk.injEq] at H
  obtain ⟨rfl, rfl⟩ := H
  go_wp2
  go_ret2
  exact ⟨_, f1_, by refine kS_ ?_; exact b0.out, hB_⟩
 rw [za c4] at H
 have L0 := ta c4
 clear c4
 obtain ⟨C0, p0⟩ : ∃ j_ : Int, (wrap64 (e0 * 384)) = j_ := ⟨_, rfl⟩
 first | rw [p0] at H | simp only [p0] at H
 have S0 : (IntKind.i64.wrap (e0 * 384)) = C0 := (bB _).trans p0
 obtain ⟨c6, H⟩ := iN_ H
 have V0 := va c6
 have W0 := ta c6
 clear c6
 obtain ⟨c7, H⟩ := iN_ H
 have X0 := va c7
 have Y0 := ta c7
 obtain ⟨c8, H⟩ := iN_ H
 have Z0 := va c8
 have b1 := ta c8
 obtain ⟨⟨q0, M0⟩, A9, H⟩ := bN_ H
 by_cases J0 : M0 = true
 ·subst J0
  replace H := iT_ H
  obtain ⟨T0, H⟩ := iN_ H
  have D0 := aa.mk T0
  clear T0
  obtain ⟨N0, j0⟩ : ∃ y_ : List (List Int), y_ = (t0 ++ [q0]) := ⟨_, rfl⟩
  first | replace H := yb_ j0 H | rw [← j0] at H
  have E0 := aa.mk j0
  clear j0
  have H' := aa.mk H
  clear H
  go_wp2_with (first | ((with_reducible refine ae (f := 45) rfl ?_); refine aq (some 21) rfl rfl Tryz.func45 (by kernel_rfl) rfl #[.string (a0.extract ((C0) : Int).toNat ((wrap64 ((wrap64 (e0 + 1)) * 384)) : Int).toNat)] rfl (by (try simp only [List.map_toArray, List.map_cons, List.map_nil]); first | done | (simp only [p0]; rfl) | rfl | (simp only [List.length_drop, List.length_take]; rfl)) ?_; (with_reducible refine (ca.calls k1 (a0.extract ((C0) : Int).toNat ((wrap64 ((wrap64 (e0 + 1)) * 384)) : Int).toNat) q0 true _ A9.out).mono ?_); rintro e f1 ⟨O0, rfl, x0, hb⟩; refine ⟨_, rfl, ?_⟩; have n_ := b_ (Kd.S_elder' (rS_ b0.out) (Kd.R_base x0) hb) <| b_ (Kd.R_lower x0 (ab (hB_))) <| c_ (ac (hB_) hb); clear b0 HB; obtain ⟨b0, d0, HB⟩ := n_; obtain ⟨F0, G0, P0⟩ := Kd.R_slice d0.out; subst P0) | ((with_reducible refine aV (b := .append) (xs := #[.tmp 27, .tmp 29]) rfl ?_); at_builtin; refine Kd.S_append (Kd.slice 3 (Kd.int .i64)) (w0 := w) w.heap.size rfl (.tmp 27) (.tmp 29) 34 38 (.slice none 0 0) 24 rfl Tryz.underlying34 gK rfl (by decide) (by omega) u4 t0 q0 [.slice F0 q0.length G0] (fun _ => True) (fun k_ => some k_ = (.slice F0 q0.length G0 : Value).ownBlock) rfl rfl ?aP (fun k_ hk_ => ((Kd.R_mono (ok' := fun k_ => ((fun _ => True)) k_ ∧ some k_ ≠ (u4 : Value).ownBlock) (Kd.R_apart' (d0.out) (Kd.S_typed b0.out) (by decide)) (fun k_ hk => ⟨trivial, hk.2⟩))).1 k_ hk_.symm) ?aF ?aO ?aB ?aS ?aL ?_; (case aP => exact Kd.M_row (Kd.R_mono (Kd.R_tight rfl (Kd.R_mono (ok' := fun k_ => ((fun _ => True)) k_ ∧ some k_ ≠ (u4 : Value).ownBlock) (Kd.R_apart' (d0.out) (Kd.S_typed b0.out) (by decide)) (fun k_ hk => ⟨trivial, hk.2⟩))) (fun _ h_ => h_))); (case aB => exact (hB_)); (case aF => exact (fun _ _ => trivial)); (case aO => exact (by refine kS_ ?_; exact Kd.S_mono b0.out (fun k_ hk => ⟨trivial, fun e_ => hk.2 e_⟩))); (case aS => exact (ab (hB_))); (case aL => have := D0.out; omega); intro c1 g1 ho hb hg hat; rw [← E0.out] at ho; have n_ := b_ (hb) <| c_ (ho); clear b0 d0 HB; obtain ⟨HB, H0⟩ := n_; clear ho hb hg hat))
  go_roundg k1
  case measure => have := R0.out; omega
  case rel => exact ⟨(N0), (wrap64 (e0 + 1)), f0_, H', ⟨by have := R0.out; omega⟩, ⟨rS_ H0.out⟩, ⟨hB_⟩⟩
 ·replace J0 := ya J0
  subst J0
  replace H := iF_ H
  obtain ⟨d1, k0⟩ : ∃ y_ : List (List Int), y_ = (([] : List (List Int))) := ⟨_, rfl⟩
  first | replace H := yb_ k0 H | rw [← k0] at H
  have v0 := aa.mk k0
  clear k0
  simp only [Option.some.injEq, Prod.mk.injEq] at H
  obtain ⟨rfl, rfl⟩ := H
  go_wp2_with (first | ((with_reducible refine ae (f := 45) rfl ?_); refine aq (some 21) rfl rfl Tryz.func45 (by kernel_rfl) rfl #[.string (a0.extract ((C0) : Int).toNat ((wrap64 ((wrap64 (e0 + 1)) * 384)) : Int).toNat)] rfl (by (try simp only [List.map_toArray, List.map_cons, List.map_nil]); first | done | (simp only [p0]; rfl) | rfl | (simp only [List.length_drop, List.length_take]; rfl)) ?_; (with_reducible refine (ca.calls k1 (a0.extract ((C0) : Int).toNat ((wrap64 ((wrap64 (e0 + 1)) * 384)) : Int).toNat) q0 false _ A9.out).mono ?_); rintro e i1 ⟨O0, rfl, x0, hb⟩; refine ⟨_, rfl, ?_⟩; have n_ := b_ (Kd.S_elder' (rS_ b0.out) (Kd.R_base x0) hb) <| b_ (Kd.R_lower x0 (ab (hB_))) <| c_ (ac (hB_) hb); clear b0 HB; obtain ⟨b0, d0, HB⟩ := n_; (try clear x0)) | ((with_reducible refine aI (N := 26) rfl ?_); refine Kd.S_lit (Kd.slice 3 (Kd.int .i64)) _ 38 ?hg (N := 26) ?hd (xs := ([] : List (List Int))) (inner := []) (ok := fun _ => True) (okp := fun _ => True) ?hr ?hp (fun _ hk => hk) trivial (xa _ _) (wa _) (by simp) ?_; (case hd => rfl); (case hg => rfl); (case hr => first | (go_simp; done) | (go_simp; rfl)); (case hp => exact (br.none _ _)); intro e1 j1 r0 hb hg_ hnew_; clear hg_ hnew_; (first | rw [← v0.out] at r0 | (simp only [Int.reduceToNat] at r0; rw [← v0.out] at r0)); have n_ := b_ (Kd.S_elder' (rS_ b0.out) (Kd.S_base r0) hb) <| b_ (Kd.R_below (rR_ d0.out) hb) <| b_ (Kd.S_lower (Kd.S_new' (Kd.S_new' r0 (Kd.S_lt (rS_ b0.out))) (Kd.R_lt (rR_ d0.out))) (ab (hB_))) <| c_ (ac (hB_) hb); clear b0 d0 HB; obtain ⟨b0, d0, I0, HB⟩ := n_; clear hb r0))
  go_ret2
  exact ⟨_, by first | rfl | (simp [d2, d5] <;> rfl) | (simp only [← p0]; first | rfl | (simp [d2, d5] <;> rfl)) | (simp [*, d2, d5] <;> rfl), by refine kS_ ?_; exact Kd.S_mono I0.out (fun _ hk => trivial), hB_⟩

/-! ### ch: function 13 -/
def ch.f (k : Nat) (a0 : ByteArray) : Option (Bool) := if (a0.size : Int) = 800 then ((bg.f k a0).bind fun bt240 => (some bt240.2)) else (some false)
theorem ch.mono : ∀ a0 k, LeO (ch.f k a0) (ch.f (k + 1) a0) := by
 intro a0 k
 unfold ch.f
 exact o1_ bg.mono
theorem ch.calls (k : Nat) (a0 : ByteArray) (r : Bool) (w : World) (h : ch.f k a0 = some r) :
  Calls Tryz.prog 13 #[.string a0] w fun e w' => e = .returned (.bool r) ∧ Below w.heap.size w w' := by
 have HB := aa.mk (xa w.heap.size w)
 delta ch.f at h
 have H := h
 clear h
 by_cases c2 : (a0.size : Int) = 800
 ·rw [za c2] at H
  have b0 : ((a0.size : Int) == 800) = true := beq_iff_eq.mpr c2
  have d0 : ((a0.size : Int) != 800) = false := bne_eq_false_iff_eq.mpr c2
  clear c2
  obtain ⟨⟨e0, f0⟩, A3, H⟩ := bN_ H
  obtain rfl := sI H
  go_enter Tryz.func13, Tryz.ntmps13
  go_wp2_with (first | ((with_reducible refine ae (f := 14) rfl ?_); refine aq (some 10) rfl rfl Tryz.func14 (by kernel_rfl) rfl #[.string a0] rfl aM_ ?_; (with_reducible refine (bg.calls k a0 e0 f0 _ A3.out).mono ?_); rintro e w4 ⟨p0, rfl, j0, hb⟩; refine ⟨_, rfl, ?_⟩; have n_ := b_ (Kd.S_lower j0 (ab (hB_))) <| c_ (ac (hB_) hb); clear HB; obtain ⟨k0, HB⟩ := n_; (try clear j0)))
  go_ret
  exact ⟨f1_, hB_⟩
 rw [Aa c2] at H
 have b0 : ((a0.size : Int) == 800) = false := beq_eq_false_iff_ne.mpr c2
 have d0 : ((a0.size : Int) != 800) = true := bne_iff_ne.mpr c2
 obtain rfl := sI H
 go_enter Tryz.func13, Tryz.ntmps13
 go_wp2
 go_ret
 exact ⟨f1_, hB_⟩

/-! ### ct: function 51 -/
def ct.f (a0 : Int) : Option (ByteArray) := if (Int.tmod a0 256) < 0 then (some (strOfNums (([(wrap64 ((Int.tmod a0 256) + 256)) % 256] : List Int)))) else (some (strOfNums (([(Int.tmod a0 256) % 256] : List Int))))
theorem ct.calls (a0 : Int) (r : ByteArray) (w : World) (h : ct.f a0 = some r) :
  Calls Tryz.prog 51 #[.int .i64 a0] w fun e w' => e = .returned (.string r) ∧ Below w.heap.size w w' := by
 have HB := aa.mk (xa w.heap.size w)
 delta ct.f at h
 have H := h
 clear h
 by_cases c2 : (Int.tmod a0 256) < 0
 ·rw [za c2] at H
  have r0 := ta c2
  clear c2
  obtain ⟨t0, b0⟩ : ∃ y_ : List Int, y_ = (([(wrap64 ((Int.tmod a0 256) + 256)) % 256] : List Int)) := ⟨_, rfl⟩
  first | replace H := yb_ b0 H | rw [← b0] at H
  have e0 := aa.mk b0
  clear b0
  obtain rfl := sI H
  go_enter Tryz.func51, Tryz.ntmps51
  go_wp2_with (first | ((with_reducible refine aI (N := 11) rfl ?_); refine Kd.R_lit (Kd.int .u8) _ 5 ?hg (N := 11) ?hd (xs := ([(wrap64 ((Int.tmod a0 256) + 256)) % 256] : List Int)) (inner := [.int .u8 ((wrap64 ((Int.tmod a0 256) + 256)) % 256)]) (ok := fun _ => True) (okp := fun _ => True) ?hr ?hp (fun _ hk => hk) trivial (xa _ _) (wa _) (by simp) ?_; (case hd => rfl); (case hg => rfl); (case hr => first | (go_simp; done) | (go_simp; rfl)); (case hp => exact (br.one (show Kd.M (Kd.int .u8) _ _ _ ((wrap64 ((Int.tmod a0 256) + 256)) % 256) [.int .u8 ((wrap64 ((Int.tmod a0 256) + 256)) % 256)] from rfl) (br.none _ _))); intro u0 w3 j0 hb hg_ hnew_; clear hg_ hnew_; (first | rw [← e0.out] at j0 | (simp only [Int.reduceToNat] at j0; rw [← e0.out] at j0)); have n_ := b_ (Kd.R_lower j0 (ab (hB_))) <| c_ (ac (hB_) hb); clear HB; obtain ⟨k0, HB⟩ := n_; clear hb j0; have v0 := dD (P := Tryz.prog) Tryz.underlying57 Tryz.underlying5 Tryz.underlying9 (Kd.own_of_R k0.out)))
  go_ret
  exact ⟨f1_, hB_⟩
 rw [Aa c2] at H
 have r0 := ua c2
 clear c2
 obtain ⟨x0, d0⟩ : ∃ y_ : List Int, y_ = (([(Int.tmod a0 256) % 256] : List Int)) := ⟨_, rfl⟩
 first | replace H := yb_ d0 H | rw [← d0] at H
 have f0 := aa.mk d0
 clear d0
 obtain rfl := sI H
 go_enter Tryz.func51, Tryz.ntmps51
 go_wp2_with (first | ((with_reducible refine aI (N := 11) rfl ?_); refine Kd.R_lit (Kd.int .u8) _ 5 ?hg (N := 11) ?hd (xs := ([(Int.tmod a0 256) % 256] : List Int)) (inner := [.int .u8 ((Int.tmod a0 256) % 256)]) (ok := fun _ => True) (okp := fun _ => True) ?hr ?hp (fun _ hk => hk) trivial (xa _ _) (wa _) (by simp) ?_; (case hd => rfl); (case hg => rfl); (case hr => first | (go_simp; done) | (go_simp; rfl)); (case hp => exact (br.one (show Kd.M (Kd.int .u8) _ _ _ ((Int.tmod a0 256) % 256) [.int .u8 ((Int.tmod a0 256) % 256)] from rfl) (br.none _ _))); intro y0 w6 p0 hb hg_ hnew_; clear hg_ hnew_; (first | rw [← f0.out] at p0 | (simp only [Int.reduceToNat] at p0; rw [← f0.out] at p0)); have n_ := b_ (Kd.R_lower p0 (ab (hB_))) <| c_ (ac (hB_) hb); clear HB; obtain ⟨q0, HB⟩ := n_; clear hb p0; have B0 := dD (P := Tryz.prog) Tryz.underlying57 Tryz.underlying5 Tryz.underlying9 (Kd.own_of_R q0.out)))
 go_ret
 exact ⟨f1_, hB_⟩

/-! ### aK: function 94 -/
mutual
def aK.l0 : Nat → ByteArray → List Int → Int → Option (List Int)
 | 0, _, _, _ => none
 | k + 1, x0, x3, x4 => if (wrap64 (x4 + 8)) ≤ (x0.size : Int) then (aK.l1 k x0 x3 x4 0 7) else (some x3)
def aK.l1 : Nat → ByteArray → List Int → Int → Int → Int → Option (List Int)
 | 0, _, _, _, _, _ => none
 | k + 1, x0, x3, x4, x5, x6 => if x6 ≥ 0 then (if 0 ≤ (wrap64 (x4 + x6)) then (if (wrap64 (x4 + x6)) < (x0.size : Int) then (aK.l1 k x0 x3 x4 (IntKind.u64.wrap ((IntKind.u64.wrap (x5 * 256)) + (IntKind.u64.wrap (bt x0 (wrap64 (x4 + x6)))))) (wrap64 (x6 - 1))) else (none)) else (none)) else (if x3.length < 17592186044416 then (aK.l0 k x0 (x3 ++ [x5]) (wrap64 (x4 + 8))) else (none))
end
def aK.f (k : Nat) (a0 : ByteArray) : Option (List Int) := aK.l0 k a0 (([] : List Int)) 0
theorem aK.mono_l : ∀ k, (∀ y0 y1 y2, LeO (aK.l0 k y0 y1 y2) (aK.l0 (k + 1) y0 y1 y2)) ∧ (∀ y0 y1 y2 y3 y4, LeO (aK.l1 k y0 y1 y2 y3 y4) (aK.l1 (k + 1) y0 y1 y2 y3 y4))
 | 0 => ⟨fun _ _ _ r h => by simp [aK.l0] at h, fun _ _ _ _ _ r h => by simp [aK.l1] at h⟩
 | k + 1 => by
  obtain ⟨ih0, ih1⟩ := aK.mono_l k
  refine ⟨?_, ?_⟩ <;> (intros; (first | unfold aK.l0 | unfold aK.l1); exact o2_ ih0 ih1)
theorem aK.mono : ∀ a0 k, LeO (aK.f k a0) (aK.f (k + 1) a0) := by
 intro a0 k
 obtain ⟨ih0, ih1⟩ := aK.mono_l k
 unfold aK.f
 exact o2_ ih0 ih1
theorem aK.calls (k : Nat) (a0 : ByteArray) (r : List Int) (w : World) (h : aK.f k a0 = some r) :
  Calls Tryz.prog 94 #[.string a0] w fun e w' => ∃ I0 : Value, e = .returned (I0) ∧ Kd.R (Kd.int .u64) 91 w' w.heap.size (fun _ => True) I0 r ∧ Below w.heap.size w w' := by
 have HB := aa.mk (xa w.heap.size w)
 delta aK.f at h
 have H := h
 clear h
 obtain ⟨E0, j0⟩ : ∃ y_ : List Int, y_ = (([] : List Int)) := ⟨_, rfl⟩
 first | replace H := yb_ j0 H | rw [← j0] at H
 have r0 := aa.mk j0
 clear j0
 have H' := aa.mk H
 clear H
 go_enter Tryz.func94, Tryz.ntmps94
 go_wp2_with (first | ((with_reducible refine aI (N := 7) rfl ?_); refine Kd.R_lit (Kd.int .u64) _ 91 ?hg (N := 7) ?hd (xs := ([] : List Int)) (inner := []) (ok := fun _ => True) (okp := fun _ => True) ?hr ?hp (fun _ hk => hk) trivial (xa _ _) (wa _) (by simp) ?_; (case hd => rfl); (case hg => rfl); (case hr => first | (go_simp; done) | (go_simp; rfl)); (case hp => exact (br.none _ _)); intro L0 w2 t0 hb hg_ hnew_; clear hg_ hnew_; (first | rw [← r0.out] at t0 | (simp only [Int.reduceToNat] at t0; rw [← r0.out] at t0)); have n_ := b_ (Kd.R_lower t0 (ab (hB_))) <| c_ (ac (hB_) hb); clear HB; obtain ⟨u0, HB⟩ := n_; clear hb t0))
 go_loopg [3, 4] k (fun kq v3 v4 w' => ∃ (d0 : List Int) (b0 : Int), v4 = .int .i64 b0 ∧ aa (aK.l0 kq a0 d0 b0 = some r) ∧ aa (kq ≤ k) ∧ aa (Kd.R (Kd.int .u64) 91 w' w.heap.size (fun _ => True) v3 d0) ∧ aa (Below w.heap.size w w'))
 case atStart => exact ⟨(E0), (0), f0_, H', ⟨wa _⟩, ⟨rR_ u0.out⟩, ⟨hB_⟩⟩
 clear H'
 obtain ⟨d0, b0, rfl, HA, C0, p0, HB⟩ := hrel
 rcases gk with _ | k1
 ·exact absurd HA.out (by simp [aK.l0])
 have H := HA.out
 clear HA
 simp only [aK.l0] at H
 by_cases c4 : (wrap64 (b0 + 8)) ≤ (a0.size : Int)
 rotate_left
 ·rw [Aa c4] at H
  have F0 := ua c4
  clear c4
  obtain rfl := sI H
  go_wp2
  go_ret
  exact ⟨_, f1_, rR_ p0.out, hB_⟩
 rw [za c4] at H
 have F0 := ta c4
 clear c4
 have H' := aa.mk H
 clear H
 go_wp2
 go_loopg [5, 6] k1 (fun kq v5 v6 w' => ∃ (e0 : Int) (f0 : Int), v5 = .int .u64 e0 ∧ v6 = .int .i64 f0 ∧ aa (aK.l1 kq a0 d0 b0 e0 f0 = some r) ∧ aa (kq ≤ k1) ∧ aa (Kd.R (Kd.int .u64) 91 w' w.heap.size (fun _ => True) u3 d0) ∧ aa (Below w.heap.size w w'))
 case atStart => exact ⟨(0), (7), f0_, f0_, H', ⟨wa _⟩, ⟨rR_ p0.out⟩, ⟨hB_⟩⟩
 clear H'
 obtain ⟨e0, f0, rfl, rfl, HA, D0, p0, HB⟩ := hrel
 rcases gk with _ | k2
 ·exact absurd HA.out (by simp [aK.l1])
 have H := HA.out
 clear HA
 simp only [aK.l1] at H
 by_cases c5 : f0 ≥ 0
 ·rw [za c5] at H
  have G0 := ta c5
  clear c5
  obtain ⟨v0, q0⟩ : ∃ j_ : Int, (wrap64 (b0 + f0)) = j_ := ⟨_, rfl⟩
  first | rw [q0] at H | simp only [q0] at H
  have J0 : (IntKind.i64.wrap (b0 + f0)) = v0 := (bB _).trans q0
  obtain ⟨M0, H⟩ := iD_ H
  obtain ⟨N0, H⟩ := iD_ H
  have H' := aa.mk H
  clear H
  have p9 := va (oD_ : 0 ≤ ((v0) : Int))
  have q9 := va (oD_ : (v0) < (a0.size : Int))
  have P0 := cB a0 (v0)
  go_wp2
  go_roundg k2
  case measure => have := C0.out; have := D0.out; omega
  case rel => exact ⟨(IntKind.u64.wrap ((IntKind.u64.wrap (e0 * 256)) + (IntKind.u64.wrap (bt a0 (v0))))), (wrap64 (f0 - 1)), (by first | rfl | (simp; done) | (simp only [← q0] <;> (first | rfl | simp)) | (simp [*]; done)), f0_, H', ⟨by have := C0.out; have := D0.out; omega⟩, ⟨rR_ p0.out⟩, ⟨hB_⟩⟩
 rw [Aa c5] at H
 have G0 := ua c5
 clear c5
 obtain ⟨K0, H⟩ := iN_ H
 have x0 := aa.mk K0
 clear K0
 obtain ⟨H0, k0⟩ : ∃ y_ : List Int, y_ = (d0 ++ [e0]) := ⟨_, rfl⟩
 first | replace H := yb_ k0 H | rw [← k0] at H
 have y0 := aa.mk k0
 clear k0
 have H' := aa.mk H
 clear H
 go_wp2_with (first | ((with_reducible refine aV (b := .append) (xs := #[.tmp 28, .tmp 30]) rfl ?_); at_builtin; refine Kd.R_append (Kd.int .u64) (w0 := w) w.heap.size rfl (.tmp 28) (.tmp 30) 89 91 (.int .u64 0) 8 rfl Tryz.underlying89 jp rfl (by decide) (by omega) u3 d0 e0 [.int .u64 e0] (fun _ => True) (fun _ => False) rfl rfl ?aP (fun _ hk => hk.elim) ?aF ?aO ?aB ?aS ?aL ?_; (case aP => exact rfl); (case aB => exact (hB_)); (case aF => exact (fun _ _ => trivial)); (case aO => exact (rR_ p0.out)); (case aS => exact (ab (hB_))); (case aL => have := x0.out; omega); intro O0 Q0 ho hb hg hat; rw [← y0.out] at ho; have n_ := b_ (hb) <| c_ (ho); clear p0 HB; obtain ⟨HB, B0⟩ := n_; clear ho hb hg hat))
 go_roundg k2
 case measure => have := C0.out; have := D0.out; omega
 case rel => exact ⟨(H0), (wrap64 (b0 + 8)), f0_, H', ⟨by have := C0.out; have := D0.out; omega⟩, ⟨rR_ B0.out⟩, ⟨hB_⟩⟩

/-! ### bz: function 100 -/
def bz.l0 : Nat → List Int → Int → Int → Int → Option (List Int)
 | 0, _, _, _, _ => none
 | k + 1, x1, x2, x3, x4 => if x4 < 24 then (if 0 ≤ (wrap64 (x2 + (wrap64 (5 * x3)))) then (if (wrap64 (x2 + (wrap64 (5 * x3)))) < (x1.length : Int) then (bz.l0 k (x1.set ((wrap64 (x2 + (wrap64 (5 * x3)))) : Int).toNat (Int.tmod (wrap64 (Int.tdiv (wrap64 ((wrap64 (x4 + 1)) * (wrap64 (x4 + 2)))) 2)) 64)) x3 (Int.tmod (wrap64 ((wrap64 (2 * x2)) + (wrap64 (3 * x3)))) 5) (wrap64 (x4 + 1))) else (none)) else (none)) else (some x1)
def bz.f (k : Nat)  : Option (List Int) := if 25 ≤ 35184372088832 then (bz.l0 k (List.replicate 25 0) 1 0 0) else (none)
theorem bz.mono_l : ∀ k, (∀ y0 y1 y2 y3, LeO (bz.l0 k y0 y1 y2 y3) (bz.l0 (k + 1) y0 y1 y2 y3))
 | 0 => fun _ _ _ _ r h => by simp [bz.l0] at h
 | k + 1 => by
  have ih0 := bz.mono_l k
  intros; unfold bz.l0; exact o1_ ih0
theorem bz.mono : ∀ k, LeO (bz.f k ) (bz.f (k + 1) ) := by
 intro  k
 have ih0 := bz.mono_l k
 unfold bz.f
 exact o1_ ih0
theorem bz.calls (k : Nat)  (r : List Int) (w : World) (h : bz.f k  = some r) :
  Calls Tryz.prog 100 #[] w fun e w' => ∃ E0 : Value, e = .returned (E0) ∧ Kd.R (Kd.int .i64) 3 w' w.heap.size (fun _ => True) E0 r ∧ Below w.heap.size w w' := by
 have HB := aa.mk (xa w.heap.size w)
 delta bz.f at h
 have H := h
 clear h
 obtain ⟨c1, H⟩ := iN_ H
 have K0 := va c1
 have L0 := ta c1
 clear c1
 obtain ⟨y0, e0⟩ : ∃ y_ : List Int, y_ = (List.replicate 25 0) := ⟨_, rfl⟩
 first | replace H := yb_ e0 H | rw [← e0] at H
 have p0 := aa.mk e0
 clear e0
 have H' := aa.mk H
 clear H
 go_enter Tryz.func100, Tryz.ntmps100
 go_wp2_with (first | ((with_reducible refine aI (N := 6) rfl ?_); refine Kd.R_make (Kd.int .i64) _ 3 rfl (N := 6) rfl 38 _ _ rfl 25 rfl rfl Tryz.underlying38 (.int .i64 0) 8 cS rfl (by decide) (by omega) 0 (ok := fun _ => True) (okp := fun _ => True) rfl (fun _ hk => hk) trivial (by omega) (by omega) (xa _ _) (wa _) ?_; intro B0 w2 t0 hb hg_ hnew_; clear hg_ hnew_; (first | rw [← p0.out] at t0 | (simp only [Int.reduceToNat] at t0; rw [← p0.out] at t0)); have n_ := b_ (Kd.R_lower t0 (ab (hB_))) <| c_ (ac (hB_) hb); clear HB; obtain ⟨u0, HB⟩ := n_; clear hb t0))
 go_loopg [2, 3, 4] k (fun kq v2 v3 v4 w' => ∃ (j0 : List Int) (k0 : Int) (b0 : Int) (a0 : Int), v2 = .int .i64 k0 ∧ v3 = .int .i64 b0 ∧ v4 = .int .i64 a0 ∧ aa (bz.l0 kq j0 k0 b0 a0 = some r) ∧ aa (kq ≤ k) ∧ aa (Kd.R (Kd.int .i64) 3 w' w.heap.size (fun _ => True) B0 j0) ∧ aa (Below w.heap.size w w'))
 case atStart => exact ⟨(y0), (1), (0), (0), f0_, f0_, f0_, H', ⟨wa _⟩, ⟨rR_ u0.out⟩, ⟨hB_⟩⟩
 clear H'
 obtain ⟨j0, k0, b0, a0, rfl, rfl, rfl, HA, F0, d0, HB⟩ := hrel
 rcases gk with _ | k1
 ·exact absurd HA.out (by simp [bz.l0])
 have H := HA.out
 clear HA
 simp only [bz.l0] at H
 by_cases c4 : a0 < 24
 rotate_left
 ·rw [Aa c4] at H
  have C0 := ua c4
  clear c4
  obtain rfl := sI H
  go_wp2
  go_ret
  exact ⟨_, f1_, rR_ d0.out, hB_⟩
 rw [za c4] at H
 have C0 := ta c4
 clear c4
 obtain ⟨q0, r0⟩ : ∃ j_ : Int, (wrap64 (k0 + (wrap64 (5 * b0)))) = j_ := ⟨_, rfl⟩
 first | rw [r0] at H | simp only [r0] at H
 have G0 : (IntKind.i64.wrap (k0 + (wrap64 (5 * b0)))) = q0 := (bB _).trans r0
 obtain ⟨M0, H⟩ := iD_ H
 obtain ⟨N0, H⟩ := iD_ H
 obtain ⟨v0, f0⟩ : ∃ y_ : List Int, y_ = (j0.set ((q0) : Int).toNat (Int.tmod (wrap64 (Int.tdiv (wrap64 ((wrap64 (a0 + 1)) * (wrap64 (a0 + 2)))) 2)) 64)) := ⟨_, rfl⟩
 first | replace H := yb_ f0 H | rw [← f0] at H
 have x0 := aa.mk f0
 clear f0
 have H' := aa.mk H
 clear H
 have p8 : 0 ≤ ((q0) : Int) := oD_
 have q8 : ((q0) : Int) < ((j0.length : Int) : Int) := oD_
 obtain ⟨go8, O0, H0, I0, gl8, cl8, HG8⟩ := Kd.R_form d0.out (by omega)
 (first | cases H0 | (injection H0 with ea_ en_ ec_; (first | subst ea_ | (injection ea_ with ea_; subst ea_)); subst ec_; clear en_))
 have P0 := aa.mk I0
 have GG8 := aa.mk HG8
 clear I0 gl8 HG8
 obtain ⟨J0, hf8_0⟩ := Kd.R_celln 0 d0.out ((q0) : Int) p8 q8
 replace p8 := va p8
 replace q8 := va q8
 have HP9 := Kd.R_putg d0.out ((q0) : Int) (Int.tmod (wrap64 (Int.tdiv (wrap64 ((wrap64 (a0 + 1)) * (wrap64 (a0 + 2)))) 2)) 64)
 go_wp2_with (first | ((with_reducible refine cm (t := 3) (p := 23) rfl ?_); refine b9 (t := 3) (p := 23) (v := ?vo_w10) (w1 := (wr.setCell ⟨go8, ((q0) : Int).toNat, none⟩ (.int .i64 (Int.tmod (wrap64 (Int.tdiv (wrap64 ((wrap64 (a0 + 1)) * (wrap64 (a0 + 2)))) 2)) 64)))) ?hg ?ho ?hn ?hr ?_; (case ho => rfl); (case hg => rfl); (case hn => rfl); (case hr => first | (go_simp; done) | (go_simp; rfl)); intro D0 hw; have hg : wr.grownBy D0 (some go8) := (by rw [hw]; exact HP9.2); have hp_ : Kd.R (Kd.int .i64) 3 D0 w.heap.size (fun _ => True) (.slice (some ⟨go8, 0, none⟩) j0.length O0) v0 := (by rw [hw, x0.out]; exact HP9.1); clear HP9; have n_ := b_ (hp_) <| c_ (by rw [hw]; exact co (HB.out) P0.out : Below w.heap.size w D0); clear d0 HB; obtain ⟨d0, HB⟩ := n_; clear hg hw hp_))
 go_roundg k1
 case measure => have := F0.out; omega
 case rel => exact ⟨(v0), (b0), (Int.tmod (wrap64 ((wrap64 (2 * k0)) + (wrap64 (3 * b0)))) 5), (wrap64 (a0 + 1)), f0_, f0_, f0_, H', ⟨by have := F0.out; omega⟩, ⟨rR_ d0.out⟩, ⟨hB_⟩⟩

/-! ### aM: function 101 -/
mutual
def aM.l0 : Nat → List Int → Int → Int → Option (List Int)
 | 0, _, _, _ => none
 | k + 1, x1, x2, x3 => if x3 < 24 then (aM.l1 k x1 x2 x3 0 1 0) else (some x1)
def aM.l1 : Nat → List Int → Int → Int → Int → Int → Int → Option (List Int)
 | 0, _, _, _, _, _, _ => none
 | k + 1, x1, x2, x3, x4, x5, x6 => if x6 < 7 then (if (Int.tmod x2 2) = 1 then (if (wrap64 (x2 * 2)) ≥ 256 then (aM.l1 k x1 (Go.bits .xor .i64 (wrap64 ((wrap64 (x2 * 2)) - 256)) 113) x3 (IntKind.u64.wrap (x4 + x5)) (IntKind.u64.wrap ((IntKind.u64.wrap (x5 * x5)) * 2)) (wrap64 (x6 + 1))) else (aM.l1 k x1 (wrap64 (x2 * 2)) x3 (IntKind.u64.wrap (x4 + x5)) (IntKind.u64.wrap ((IntKind.u64.wrap (x5 * x5)) * 2)) (wrap64 (x6 + 1)))) else (if (wrap64 (x2 * 2)) ≥ 256 then (aM.l1 k x1 (Go.bits .xor .i64 (wrap64 ((wrap64 (x2 * 2)) - 256)) 113) x3 x4 (IntKind.u64.wrap ((IntKind.u64.wrap (x5 * x5)) * 2)) (wrap64 (x6 + 1))) else (aM.l1 k x1 (wrap64 (x2 * 2)) x3 x4 (IntKind.u64.wrap ((IntKind.u64.wrap (x5 * x5)) * 2)) (wrap64 (x6 + 1))))) else (if x1.length < 17592186044416 then (aM.l0 k (x1 ++ [x4]) x2 (wrap64 (x3 + 1))) else (none))
end
def aM.f (k : Nat)  : Option (List Int) := aM.l0 k (([] : List Int)) 1 0
theorem aM.mono_l : ∀ k, (∀ y0 y1 y2, LeO (aM.l0 k y0 y1 y2) (aM.l0 (k + 1) y0 y1 y2)) ∧ (∀ y0 y1 y2 y3 y4 y5, LeO (aM.l1 k y0 y1 y2 y3 y4 y5) (aM.l1 (k + 1) y0 y1 y2 y3 y4 y5))
 | 0 => ⟨fun _ _ _ r h => by simp [aM.l0] at h, fun _ _ _ _ _ _ r h => by simp [aM.l1] at h⟩
 | k + 1 => by
  obtain ⟨ih0, ih1⟩ := aM.mono_l k
  refine ⟨?_, ?_⟩ <;> (intros; (first | unfold aM.l0 | unfold aM.l1); exact o2_ ih0 ih1)
theorem aM.mono : ∀ k, LeO (aM.f k ) (aM.f (k + 1) ) := by
 intro  k
 obtain ⟨ih0, ih1⟩ := aM.mono_l k
 unfold aM.f
 exact o2_ ih0 ih1
theorem aM.calls (k : Nat)  (r : List Int) (w : World) (h : aM.f k  = some r) :
  Calls Tryz.prog 101 #[] w fun e w' => ∃ M0 : Value, e = .returned (M0) ∧ Kd.R (Kd.int .u64) 91 w' w.heap.size (fun _ => True) M0 r ∧ Below w.heap.size w w' := by
 have HB := aa.mk (xa w.heap.size w)
 delta aM.f at h
 have H := h
 clear h
 obtain ⟨D0, k0⟩ : ∃ y_ : List Int, y_ = (([] : List Int)) := ⟨_, rfl⟩
 first | replace H := yb_ k0 H | rw [← k0] at H
 have v0 := aa.mk k0
 clear k0
 have H' := aa.mk H
 clear H
 go_enter Tryz.func101, Tryz.ntmps101
 go_wp2_with (first | ((with_reducible refine aI (N := 7) rfl ?_); refine Kd.R_lit (Kd.int .u64) _ 91 ?hg (N := 7) ?hd (xs := ([] : List Int)) (inner := []) (ok := fun _ => True) (okp := fun _ => True) ?hr ?hp (fun _ hk => hk) trivial (xa _ _) (wa _) (by simp) ?_; (case hd => rfl); (case hg => rfl); (case hr => first | (go_simp; done) | (go_simp; rfl)); (case hp => exact (br.none _ _)); intro N0 w1 x0 hb hg_ hnew_; clear hg_ hnew_; (first | rw [← v0.out] at x0 | (simp only [Int.reduceToNat] at x0; rw [← v0.out] at x0)); have n_ := b_ (Kd.R_lower x0 (ab (hB_))) <| c_ (ac (hB_) hb); clear HB; obtain ⟨y0, HB⟩ := n_; clear hb x0))
 go_loopg [1, 2, 3] k (fun kq v1 v2 v3 w' => ∃ (j0 : List Int) (u0 : Int) (q0 : Int), v2 = .int .i64 u0 ∧ v3 = .int .i64 q0 ∧ aa (aM.l0 kq j0 u0 q0 = some r) ∧ aa (kq ≤ k) ∧ aa (Kd.R (Kd.int .u64) 91 w' w.heap.size (fun _ => True) v1 j0) ∧ aa (Below w.heap.size w w'))
 case atStart => exact ⟨(D0), (1), (0), f0_, f0_, H', ⟨wa _⟩, ⟨rR_ y0.out⟩, ⟨hB_⟩⟩
 clear H'
 obtain ⟨j0, u0, q0, rfl, rfl, HA, r0, e0, HB⟩ := hrel
 rcases gk with _ | k1
 ·exact absurd HA.out (by simp [aM.l0])
 have H := HA.out
 clear HA
 simp only [aM.l0] at H
 by_cases c3 : q0 < 24
 rotate_left
 ·rw [Aa c3] at H
  have E0 := ua c3
  clear c3
  obtain rfl := sI H
  go_wp2
  go_ret
  exact ⟨_, f1_, rR_ e0.out, hB_⟩
 rw [za c3] at H
 have E0 := ta c3
 clear c3
 have H' := aa.mk H
 clear H
 go_wp2
 go_loopg [2, 4, 5, 6] k1 (fun kq v2 v4 v5 v6 w' => ∃ (a0 : Int) (d0 : Int) (b0 : Int) (f0 : Int), v2 = .int .i64 a0 ∧ v4 = .int .u64 d0 ∧ v5 = .int .u64 b0 ∧ v6 = .int .i64 f0 ∧ aa (aM.l1 kq j0 a0 q0 d0 b0 f0 = some r) ∧ aa (kq ≤ k1) ∧ aa (Kd.R (Kd.int .u64) 91 w' w.heap.size (fun _ => True) u1 j0) ∧ aa (Below w.heap.size w w'))
 case atStart => exact ⟨(u0), (0), (1), (0), f0_, f0_, f0_, f0_, H', ⟨wa _⟩, ⟨rR_ e0.out⟩, ⟨hB_⟩⟩
 clear H'
 obtain ⟨a0, d0, b0, f0, rfl, rfl, rfl, rfl, HA, t0, e0, HB⟩ := hrel
 rcases gk with _ | k2
 ·exact absurd HA.out (by simp [aM.l1])
 have H := HA.out
 clear HA
 simp only [aM.l1] at H
 by_cases c4 : f0 < 7
 rotate_left
 ·rw [Aa c4] at H
  have F0 := ua c4
  clear c4
  obtain ⟨c8, H⟩ := iN_ H
  have G0 := aa.mk c8
  clear c8
  obtain ⟨H0, p0⟩ : ∃ y_ : List Int, y_ = (j0 ++ [d0]) := ⟨_, rfl⟩
  first | replace H := yb_ p0 H | rw [← p0] at H
  have B0 := aa.mk p0
  clear p0
  have H' := aa.mk H
  clear H
  go_wp2_with (first | ((with_reducible refine aV (b := .append) (xs := #[.tmp 33, .tmp 35]) rfl ?_); at_builtin; refine Kd.R_append (Kd.int .u64) (w0 := w) w.heap.size rfl (.tmp 33) (.tmp 35) 89 91 (.int .u64 0) 8 rfl Tryz.underlying89 jp rfl (by decide) (by omega) u1 j0 d0 [.int .u64 d0] (fun _ => True) (fun _ => False) rfl rfl ?aP (fun _ hk => hk.elim) ?aF ?aO ?aB ?aS ?aL ?_; (case aP => exact rfl); (case aB => exact (hB_)); (case aF => exact (fun _ _ => trivial)); (case aO => exact (rR_ e0.out)); (case aS => exact (ab (hB_))); (case aL => have := G0.out; omega); intro O0 w9 ho hb hg hat; rw [← B0.out] at ho; have n_ := b_ (hb) <| c_ (ho); clear e0 HB; obtain ⟨HB, C0⟩ := n_; clear ho hb hg hat))
  go_roundg k2
  case measure => have := r0.out; have := t0.out; omega
  case rel => exact ⟨(H0), (a0), (wrap64 (q0 + 1)), f0_, f0_, H', ⟨by have := r0.out; have := t0.out; omega⟩, ⟨rR_ C0.out⟩, ⟨hB_⟩⟩
 rw [za c4] at H
 have F0 := ta c4
 clear c4
 by_cases c5 : (Int.tmod a0 2) = 1
 ·rw [za c5] at H
  have I0 : ((Int.tmod a0 2) == 1) = true := beq_iff_eq.mpr c5
  have J0 : ((Int.tmod a0 2) != 1) = false := bne_eq_false_iff_eq.mpr c5
  clear c5
  by_cases c6 : (wrap64 (a0 * 2)) ≥ 256
  ·rw [za c6] at H
   have K0 := ta c6
   clear c6
   have H' := aa.mk H
   clear H
   go_wp2
   go_roundg k2
   case measure => have := r0.out; have := t0.out; omega
   case rel => exact ⟨(Go.bits .xor .i64 (wrap64 ((wrap64 (a0 * 2)) - 256)) 113), (IntKind.u64.wrap (d0 + b0)), (IntKind.u64.wrap ((IntKind.u64.wrap (b0 * b0)) * 2)), (wrap64 (f0 + 1)), f0_, f0_, f0_, f0_, H', ⟨by have := r0.out; have := t0.out; omega⟩, ⟨rR_ e0.out⟩, ⟨hB_⟩⟩
  rw [Aa c6] at H
  have K0 := ua c6
  clear c6
  have H' := aa.mk H
  clear H
  go_wp2
  go_roundg k2
  case measure => have := r0.out; have := t0.out; omega
  case rel => exact ⟨(wrap64 (a0 * 2)), (IntKind.u64.wrap (d0 + b0)), (IntKind.u64.wrap ((IntKind.u64.wrap (b0 * b0)) * 2)), (wrap64 (f0 + 1)), f0_, f0_, f0_, f0_, H', ⟨by have := r0.out; have := t0.out; omega⟩, ⟨rR_ e0.out⟩, ⟨hB_⟩⟩
 rw [Aa c5] at H
 have I0 : ((Int.tmod a0 2) == 1) = false := beq_eq_false_iff_ne.mpr c5
 have J0 : ((Int.tmod a0 2) != 1) = true := bne_iff_ne.mpr c5
 by_cases c7 : (wrap64 (a0 * 2)) ≥ 256
 ·rw [za c7] at H
  have L0 := ta c7
  clear c7
  have H' := aa.mk H
  clear H
  go_wp2
  go_roundg k2
  case measure => have := r0.out; have := t0.out; omega
  case rel => exact ⟨(Go.bits .xor .i64 (wrap64 ((wrap64 (a0 * 2)) - 256)) 113), (d0), (IntKind.u64.wrap ((IntKind.u64.wrap (b0 * b0)) * 2)), (wrap64 (f0 + 1)), f0_, f0_, f0_, f0_, H', ⟨by have := r0.out; have := t0.out; omega⟩, ⟨rR_ e0.out⟩, ⟨hB_⟩⟩
 rw [Aa c7] at H
 have L0 := ua c7
 clear c7
 have H' := aa.mk H
 clear H
 go_wp2
 go_roundg k2
 case measure => have := r0.out; have := t0.out; omega
 case rel => exact ⟨(wrap64 (a0 * 2)), (d0), (IntKind.u64.wrap ((IntKind.u64.wrap (b0 * b0)) * 2)), (wrap64 (f0 + 1)), f0_, f0_, f0_, f0_, H', ⟨by have := r0.out; have := t0.out; omega⟩, ⟨rR_ e0.out⟩, ⟨hB_⟩⟩

/-! ### bm: function 107 -/
def bm.l0 : Nat → Int → Int → Int → Int → Option (Int)
 | 0, _, _, _, _ => none
 | k + 1, x0, x1, x5, x6 => if x6 < x1 then (bm.l0 k x0 x1 (IntKind.u64.wrap (x5 * 2)) (wrap64 (x6 + 1))) else (if x1 = 0 then (some x0) else (if x5 = 0 then (none) else (if (IntKind.u64.wrap ((IntKind.u64.wrap (Int.tdiv (9223372036854775808 : Int) x5)) * 2)) = 0 then (none) else (some (IntKind.u64.wrap ((IntKind.u64.wrap (x0 * x5)) + (IntKind.u64.wrap (Int.tdiv x0 (IntKind.u64.wrap ((IntKind.u64.wrap (Int.tdiv (9223372036854775808 : Int) x5)) * 2))))))))))
def bm.f (k : Nat) (a0 : Int) (a1 : Int) : Option (Int) := bm.l0 k a0 a1 1 0
theorem bm.mono_l : ∀ k, (∀ y0 y1 y2 y3, LeO (bm.l0 k y0 y1 y2 y3) (bm.l0 (k + 1) y0 y1 y2 y3))
 | 0 => fun _ _ _ _ r h => by simp [bm.l0] at h
 | k + 1 => by
  have ih0 := bm.mono_l k
  intros; unfold bm.l0; exact o1_ ih0
theorem bm.mono : ∀ a0 a1 k, LeO (bm.f k a0 a1) (bm.f (k + 1) a0 a1) := by
 intro a0 a1 k
 have ih0 := bm.mono_l k
 unfold bm.f
 exact o1_ ih0
theorem bm.calls (k : Nat) (a0 : Int) (a1 : Int) (r : Int) (w : World) (h : bm.f k a0 a1 = some r) :
  Calls Tryz.prog 107 #[.int .u64 a0, .int .i64 a1] w fun e w' => e = .returned (.int .u64 r) ∧ cp w w' := by
 delta bm.f at h
 have H := h
 clear h
 have H' := aa.mk H
 clear H
 go_enter Tryz.func107, Tryz.ntmps107
 go_wp2
 go_loopg [5, 6] k (fun kq v5 v6 w' => ∃ (b0 : Int) (d0 : Int), v5 = .int .u64 b0 ∧ v6 = .int .i64 d0 ∧ aa (bm.l0 kq a0 a1 b0 d0 = some r) ∧ aa (kq ≤ k) ∧ cp w w')
 case atStart => exact ⟨(1), (0), f0_, f0_, H', ⟨wa _⟩, d0_⟩
 clear H'
 obtain ⟨b0, d0, rfl, rfl, HA, k0, ⟨m1, rfl⟩⟩ := hrel
 rcases gk with _ | k1
 ·exact absurd HA.out (by simp [bm.l0])
 have H := HA.out
 clear HA
 simp only [bm.l0] at H
 by_cases c3 : d0 < a1
 ·rw [za c3] at H
  have e0 := ta c3
  clear c3
  have H' := aa.mk H
  clear H
  go_wp2
  go_roundg k1
  case measure => have := k0.out; omega
  case rel => exact ⟨(IntKind.u64.wrap (b0 * 2)), (wrap64 (d0 + 1)), f0_, f0_, H', ⟨by have := k0.out; omega⟩, d0_⟩
 rw [Aa c3] at H
 have e0 := ua c3
 clear c3
 by_cases c4 : a1 = 0
 ·rw [za c4] at H
  have f0 : (a1 == 0) = true := beq_iff_eq.mpr c4
  have j0 : (a1 != 0) = false := bne_eq_false_iff_eq.mpr c4
  clear c4
  obtain rfl := sI H
  go_wp2
  go_ret
  exact ⟨f0_, d0_⟩
 rw [Aa c4] at H
 have f0 : (a1 == 0) = false := beq_eq_false_iff_ne.mpr c4
 have j0 : (a1 != 0) = true := bne_iff_ne.mpr c4
 by_cases c5 : b0 = 0
 ·rw [za c5] at H
  exact absurd H (by simp)
 rw [Aa c5] at H
 have p0 : (b0 == 0) = false := beq_eq_false_iff_ne.mpr c5
 have q0 : (b0 != 0) = true := bne_iff_ne.mpr c5
 by_cases c6 : (IntKind.u64.wrap ((IntKind.u64.wrap (Int.tdiv (9223372036854775808 : Int) b0)) * 2)) = 0
 ·rw [za c6] at H
  exact absurd H (by simp)
 rw [Aa c6] at H
 have r0 : ((IntKind.u64.wrap ((IntKind.u64.wrap (Int.tdiv (9223372036854775808 : Int) b0)) * 2)) == 0) = false := beq_eq_false_iff_ne.mpr c6
 have t0 : ((IntKind.u64.wrap ((IntKind.u64.wrap (Int.tdiv (9223372036854775808 : Int) b0)) * 2)) != 0) = true := bne_iff_ne.mpr c6
 obtain rfl := sI H
 go_wp2
 go_ret
 exact ⟨f0_, d0_⟩

end Go.Proofs.YtielligodgabiaaGreatDoor.P
