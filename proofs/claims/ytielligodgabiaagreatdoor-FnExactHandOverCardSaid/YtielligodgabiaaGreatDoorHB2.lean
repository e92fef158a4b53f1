/- Walks by hand: theta, rho and pi, chi. -/
import Derived.Test.YtielligodgabiaaGreatDoorMW2
import Derived.Test.YtielligodgabiaaGreatDoorMW3
import Derived.Test.YtielligodgabiaaGreatDoorMW4
import Derived.Test.YtielligodgabiaaGreatDoorHB1
import Derived.Test.YtielligodgabiaaGreatDoorPx0
import Derived.StillTailTactics
import Derived.Deep.QuietTactic
import Derived.BigQuiet
import Derived.IntWalk
import Derived.Laws.CopyOwn
namespace Go.Proofs.YtielligodgabiaaGreatDoor.P
open Go.RowKit YtielligodgabiaaGreatDoorW.PrintWords YtielligodgabiaaGreatDoorW.PrintLast YtielligodgabiaaGreatDoorW.PrintMore YtielligodgabiaaGreatDoor.Kit
set_option linter.unusedVariables false
set_option linter.unusedSimpArgs false

/-- x turned left by n. -/
def hZ (x : Int) (n : Nat) : Int := Go.bits .or .u64 (IntKind.u64.wrap (x * 2 ^ n)) (x / 2 ^ (64 - n))
theorem r4 (n : Nat) (hn : n < 64) : Go.bits .and .u64 (IntKind.u64.wrap (n : Int)) 63 = (n : Int) := by
  have h : ((List.range 64).all fun n : Nat => decide (Go.bits .and .u64 (IntKind.u64.wrap (n : Int)) 63 = (n : Int))) = true := by kernel_rfl
  exact of_decide_eq_true (List.all_eq_true.mp h n (List.mem_range.mpr hn))
theorem rN (n : Nat) (hn : n < 64) : IntKind.u64.wrap (64 - (n : Int)) = ((64 - n : Nat) : Int) := by
  rw [IntKind.wrap_u64]
  omega
set_option maxHeartbeats 1000000 in
theorem kP (x : Int) (n : Nat) (w : World) (hn : n < 64) : Calls Tryz.prog 108 #[.int .u64 x, .int .i64 (n : Int)] w fun e w' => e = .returned (.int .u64 (hZ x n)) ∧ w' = w := by
  have h1 := r4 n hn
  have h0 : IntKind.u64.wrap (n : Int) = (n : Int) := by rw [IntKind.wrap_u64]; omega
  rw [h0] at h1
  have h2 := rN n hn
  go_enter Tryz.func108, Tryz.ntmps108
  go_wp2
  go_ret
  exact ⟨rfl, rfl⟩

def zs5 : List Int := List.replicate 5 0
/-- The columns' gR, over the first m lanes. -/
def thC (a : List Int) : Nat → List Int
  | 0 => zs5
  | m + 1 => (thC a m).set (m % 5) (Go.bits .xor .u64 (rd (thC a m) ((m % 5 : Nat) : Int)) (rd a (m : Int)))
theorem ja (a : List Int) (m : Nat) : (thC a m).length = 5 := by
  induction m with
  | zero => rfl
  | succ m ih => simp only [thC, List.length_set, ih]
/-- The first m lanes mixed with their columns. -/
def thA (a c : List Int) : Nat → List Int
  | 0 => a
  | m + 1 => (thA a c m).set m (Go.bits .xor .u64 (rd (thA a c m) (m : Int)) (Go.bits .xor .u64 (rd c (((m % 5 + 4) % 5 : Nat) : Int)) (hZ (rd c (((m % 5 + 1) % 5 : Nat) : Int)) 1)))
theorem kj (a c : List Int) (m : Nat) : (thA a c m).length = a.length := by
  induction m with
  | zero => rfl
  | succ m ih => simp only [thA, List.length_set, ih]
def dq.v (a : List Int) : List Int := thA a (thC a 25) 25
set_option maxHeartbeats 1000000 in
set_option maxRecDepth 100000 in
theorem dq.calls (a : List Int) (w : World) (ha : a.length = 25) : Calls Tryz.prog 103 #[.agg (arrC .u64 a)] w fun e w' => e = .returned (.agg (arrC .u64 (dq.v a))) ∧ Below w.heap.size w w' := by
  have HX := aa.mk ha
  clear ha
  obtain ⟨w0, hw0⟩ : ∃ w0, w0 = ((w.alloc (.cells (arrC .u64 a) 95)).alloc (.cells (arrC .u64 eA) 95)).alloc (.cells (arrC .u64 zs5) 105) := ⟨_, rfl⟩
  have hA0 : Arr w0 w.heap.size 95 .u64 a := by rw [hw0]; exact ((Arr.new w _ _ _).alloc _).alloc _
  have hA1 : Arr w0 (w.heap.size + 1) 95 .u64 eA := by rw [hw0]; exact (Arr.new2 _ _ _ _ _).alloc _
  have hA2 : Arr w0 (w.heap.size + 2) 105 .u64 (thC a 0) := by
    rw [hw0]
    have := Arr.new ((w.alloc (.cells (arrC .u64 a) 95)).alloc (.cells (arrC .u64 eA) 95)) 105 .u64 zs5
    rwa [ce, ce] at this
  have hB0 : Below w.heap.size w w0 := by rw [hw0]; exact (dw _ _ _).alloc (by rw [ce, ce]; omega) _
  have HA0 := aa.mk hA0
  have HA1 := aa.mk hA1
  have HA2 := aa.mk hA2
  have HB0 := aa.mk hB0
  have HW0 := aa.mk hw0
  clear hA0 hA1 hA2 hB0 hw0
  go_enter Tryz.func103, Tryz.ntmps103
  go_wp2_with (first
    | (refine dy rfl 95 rfl _ rfl _ rfl (k := .u64) (m := 25) eA (by kernel_rfl) ?_)
    | (refine dy rfl 105 rfl _ rfl _ rfl (k := .u64) (m := 5) zs5 (by kernel_rfl) ?_
       simp only [ce, ← HW0.out])
    | (refine eq rfl 95 (.tmp 1) rfl w.heap.size rfl HA0.out 25 91 Tryz.underlying95 (by kernel_rfl) HX.out ?_))
  obtain ⟨N, hN⟩ : ∃ N, N = w.heap.size := ⟨_, rfl⟩
  rw [← hN] at HA0 HA1 HA2 HB0 ⊢
  have HN := aa.mk hN
  clear hN HW0
  go_loopw [9] (fun c wr => ∃ m : Nat, c = .int .i64 (m : Int) ∧ aa (m ≤ 25) ∧ aa (Arr wr N 95 .u64 a) ∧ aa (Arr wr (N + 1) 95 .u64 eA) ∧ aa (Arr wr (N + 2) 105 .u64 (thC a m)) ∧ aa (Below N w wr)) (fun c _ => 25 - (intOf c).toNat)
  case atStart => exact ⟨0, rfl, ⟨by omega⟩, HA0, HA1, HA2, HB0⟩
  case round =>
    clear HA0 HA1 HA2 HB0
    obtain ⟨m, rfl, HI, HA0, HA1, HA2, HB0⟩ := hrel
    have hi := HI.out
    by_cases hlt : m < 25
    · have hlk : decide ((m : Int) < 25) = true := ta (by omega)
      obtain ⟨i, hi2⟩ : ∃ i, i = m % 5 := ⟨_, rfl⟩
      have e1 : Int.tmod (m : Int) 5 = (i : Int) := by rw [Int.tmod_eq_emod_of_nonneg (by omega)]; omega
      have hix : ∀ w : World, (Instr.index 95 (.agg (arrC .u64 a)) (.int .i64 (m : Int))).run Tryz.prog w = .ok (.int .u64 (rd a (m : Int))) w := fun w => ix w 95 .u64 a m 25 91 Tryz.underlying95 Tryz.underlying91 (by kernel_rfl) HX.out hlt
      have hx1 : wr.cell? ⟨N + 2, i, none⟩ = some (.int .u64 (rd (thC a m) (i : Int))) := (HA2.out.cell i (by rw [ja]; omega)).trans (by rw [cR])
      have hf1 := HA2.out.frozen i
      have hi1 : ((i : Int) < 5) = True := va (by omega)
      have HM := aa.mk (show i = m % 5 from hi2)
      clear hi hi2
      go_wp2
      go_roundw
      case rel =>
        have hm := HM.out
        refine ⟨m + 1, by go_num, ⟨by omega⟩, ⟨HA0.out.far (by show N ≠ N + 2; omega) _⟩, ⟨HA1.out.far (by show N + 1 ≠ N + 2; omega) _⟩, ⟨?_⟩, ⟨bN HB0.out (by show N ≤ N + 2; omega) _⟩⟩
        simp only [thC]
        rw [← hm]
        exact HA2.out.set i _
      case measure => simp [intOf]; omega
    · have hlk : decide ((m : Int) < 25) = false := ua (by omega)
      obtain rfl : m = 25 := by omega
      clear hlt hi
      go_wp2
      go_loopw [21] (fun c wr => ∃ m : Nat, c = .int .i64 (m : Int) ∧ aa (m ≤ 25) ∧ aa (Arr wr N 95 .u64 (thA a (thC a 25) m)) ∧ aa (Arr wr (N + 1) 95 .u64 eA) ∧ aa (Arr wr (N + 2) 105 .u64 (thC a 25)) ∧ aa (Below N w wr)) (fun c _ => 25 - (intOf c).toNat)
      case atStart => exact ⟨0, rfl, ⟨by omega⟩, HA0, HA1, HA2, HB0⟩
      case round =>
        clear HA0 HA1 HA2 HB0
        obtain ⟨m, rfl, HI, HA0, HA1, HA2, HB0⟩ := hrel
        have hi := HI.out
        by_cases hlt : m < 25
        · have hlk : decide ((m : Int) < 25) = true := ta (by omega)
          obtain ⟨x, hx⟩ : ∃ x, x = m % 5 := ⟨_, rfl⟩
          obtain ⟨y, hy⟩ : ∃ y, y = (x + 4) % 5 := ⟨_, rfl⟩
          obtain ⟨z, hz⟩ : ∃ z, z = (x + 1) % 5 := ⟨_, rfl⟩
          have e1 : Int.tmod (m : Int) 5 = (x : Int) := by rw [Int.tmod_eq_emod_of_nonneg (by omega)]; omega
          have e2 : IntKind.i64.wrap ((x : Int) + 4) = (x : Int) + 4 := IntWalk.i64_in _ (by omega)
          have e3 : IntKind.i64.wrap ((x : Int) + 1) = (x : Int) + 1 := IntWalk.i64_in _ (by omega)
          have e4 : Int.tmod ((x : Int) + 4) 5 = (y : Int) := by rw [Int.tmod_eq_emod_of_nonneg (by omega)]; omega
          have e5 : Int.tmod ((x : Int) + 1) 5 = (z : Int) := by rw [Int.tmod_eq_emod_of_nonneg (by omega)]; omega
          have hy1 : ((y : Int) < 5) = True := va (by omega)
          have hz1 : ((z : Int) < 5) = True := va (by omega)
          have hm1 : ((m : Int) < 25) = True := va (by omega)
          have hc : ∀ (wx : World) (i : Nat), i < 5 → Arr wx (N + 2) 105 .u64 (thC a 25) → wx.cell? ⟨N + 2, i, none⟩ = some (.int .u64 (rd (thC a 25) (i : Int))) := fun wx i hi h => (h.cell i (by rw [ja]; exact hi)).trans (by rw [cR])
          have hca : ∀ (wx : World), Arr wx N 95 .u64 (thA a (thC a 25) m) → wx.cell? ⟨N, m, none⟩ = some (.int .u64 (rd (thA a (thC a 25) m) (m : Int))) := fun wx h => (h.cell m (by rw [kj, HX.out]; exact hlt)).trans (by rw [cR])
          have ky : y < 5 := by omega
          have kz : z < 5 := by omega
          have HM := aa.mk (show x = m % 5 ∧ y = (x + 4) % 5 ∧ z = (x + 1) % 5 from ⟨hx, hy, hz⟩)
          clear hi hx hy hz
          go_wp2
          refine wp_region_still_tail 17 (by kernel_rfl) (by kernel_rfl) ?_
          simp only [List.take_succ_cons, List.take_zero, List.drop_succ_cons, List.drop_zero]
          change wpStill _ _ wr.drew (fun a' => wpList _ _ _ _ a' wr.drew) _ _
          have HA0 := aa.mk HA0.out.drew
          have HA1 := aa.mk HA1.out.drew
          have HA2 := aa.mk HA2.out.drew
          have HB0 := aa.mk (cV HB0.out)
          generalize wr.drew = w2 at HA0 HA1 HA2 HB0 ⊢
          have hx1 := hca w2 HA0.out
          have hx2 := hc w2 y ky HA2.out
          have hx3 := hc w2 z kz HA2.out
          have hf1 := HA0.out.frozen m
          clear hc hca
          repeat still_step
          still_call (kP (rd (thC a 25) (z : Int)) 1 w2 (by decide))
          repeat still_step
          refine wpStill_nil ?_
          go_wp2
          go_roundw
          case rel =>
            refine ⟨_, _, _, _, _, _, _, _, _, _, _, _, _, _, _, _, _, _, _, _, _, _, _, _, _, ?_, rfl⟩
            have hm := HM.out
            refine ⟨m + 1, by go_num, ⟨by omega⟩, ⟨?_⟩, ⟨HA1.out.far (by show N + 1 ≠ N; omega) _⟩, ⟨HA2.out.far (by show N + 2 ≠ N; omega) _⟩, ⟨bN HB0.out (by show N ≤ N; omega) _⟩⟩
            simp only [thA]
            rw [← hm.1, ← hm.2.1, ← hm.2.2]
            exact HA0.out.set m _
          case measure => simp [intOf]; omega
        · have hlk : decide ((m : Int) < 25) = false := ua (by omega)
          obtain rfl : m = 25 := by omega
          have hl : (thA a (thC a 25) 25).length = 25 := by rw [kj]; exact HX.out
          have HL := aa.mk hl
          clear hlt hi hl
          go_wp2_with (first | (refine eq rfl 95 (.tmp 1) rfl N rfl HA0.out 25 91 Tryz.underlying95 (by kernel_rfl) HL.out ?_) | (refine dN rfl 95 (.tmp 2) (.tmp 44) rfl (N + 1) rfl rfl HA1.out 25 (by kernel_rfl) rfl HL.out ?_))
          exact bodyPost_ret (v := .agg (arrC .u64 (dq.v a))) (fY Tryz.results103 _ _ (N + 1) rfl (HA1.out.row _) 25 91 Tryz.underlying95 (by kernel_rfl) HL.out) rfl ⟨rfl, by rw [← HN.out]; exact below_setRow HB0.out (Nat.le_succ _) _⟩
/-- The place of a lane on its way. -/
def eB : Nat → Nat × Nat
  | 0 => (1, 0)
  | t + 1 => ((eB t).2, (2 * (eB t).1 + 3 * (eB t).2) % 5)
theorem mq (t : Nat) : (eB t).1 < 5 ∧ (eB t).2 < 5 := by
  induction t with
  | zero => exact ⟨by decide, by decide⟩
  | succ t ih => exact ⟨ih.2, Nat.mod_lt _ (by decide)⟩
def rpN (t : Nat) : Nat := (t + 1) * (t + 2) / 2 % 64
/-- The lanes turned and moved, t of them. -/
def rpA (a : List Int) : Nat → List Int
  | 0 => eA.set 0 (rd a ((0 : Nat) : Int))
  | t + 1 => (rpA a t).set ((eB (t + 1)).1 + 5 * (eB (t + 1)).2) (hZ (rd a (((eB t).1 + 5 * (eB t).2 : Nat) : Int)) (rpN t))
theorem gL (a : List Int) (t : Nat) : (rpA a t).length = 25 := by
  induction t with
  | zero => rfl
  | succ t ih => simp only [rpA, List.length_set, ih]
def dU.v (a : List Int) : List Int := rpA a 24
set_option maxHeartbeats 1000000 in
set_option maxRecDepth 100000 in
theorem dU.calls (a : List Int) (w : World) (ha : a.length = 25) : Calls Tryz.prog 104 #[.agg (arrC .u64 a)] w fun e w' => e = .returned (.agg (arrC .u64 (dU.v a))) ∧ Below w.heap.size w w' := by
  have HX := aa.mk ha
  clear ha
  obtain ⟨w0, hw0⟩ : ∃ w0, w0 = ((w.alloc (.cells (arrC .u64 a) 95)).alloc (.cells (arrC .u64 eA) 95)).alloc (.cells (arrC .u64 eA) 95) := ⟨_, rfl⟩
  have hA0 : Arr w0 w.heap.size 95 .u64 a := by rw [hw0]; exact ((Arr.new w _ _ _).alloc _).alloc _
  have hA1 : Arr w0 (w.heap.size + 1) 95 .u64 eA := by rw [hw0]; exact (Arr.new2 _ _ _ _ _).alloc _
  have hA2 : Arr w0 (w.heap.size + 2) 95 .u64 eA := by
    rw [hw0]
    have := Arr.new ((w.alloc (.cells (arrC .u64 a) 95)).alloc (.cells (arrC .u64 eA) 95)) 95 .u64 eA
    rwa [ce, ce] at this
  have hB0 : Below w.heap.size w w0 := by rw [hw0]; exact (dw _ _ _).alloc (by rw [ce, ce]; omega) _
  have hx0 : w0.cell? ⟨w.heap.size, 0, none⟩ = some (.int .u64 (rd a ((0 : Nat) : Int))) := (hA0.cell 0 (by rw [HX.out]; decide)).trans (by rw [cR])
  have hx1 := hA2.cell 0 (by decide)
  have hf1 := hA2.frozen 0
  have HA0 := aa.mk hA0
  have HA1 := aa.mk hA1
  have HA2 := aa.mk hA2
  have HB0 := aa.mk hB0
  have HW0 := aa.mk hw0
  clear hA0 hA1 hA2 hB0 hw0
  go_enter Tryz.func104, Tryz.ntmps104
  go_wp2_with (first
    | (refine dy rfl 95 (.some 2) rfl _ rfl (k := .u64) (m := 25) eA (by kernel_rfl) ?_)
    | (refine dy rfl 95 rfl _ rfl _ rfl (k := .u64) (m := 25) eA (by kernel_rfl) ?_
       try simp only [ce, ← HW0.out]))
  clear hx0 hx1 hf1
  have HA2 := aa.mk (HA2.out.set 0 (rd a ((0 : Nat) : Int)))
  have HA1 := aa.mk (HA1.out.far (p := ⟨w.heap.size + 2, 0, none⟩) (by show w.heap.size + 1 ≠ w.heap.size + 2; omega) (.int .u64 (rd a ((0 : Nat) : Int))))
  have HA0 := aa.mk (HA0.out.far (p := ⟨w.heap.size + 2, 0, none⟩) (by show w.heap.size ≠ w.heap.size + 2; omega) (.int .u64 (rd a ((0 : Nat) : Int))))
  have HB0 := aa.mk (bN HB0.out (p := ⟨w.heap.size + 2, 0, none⟩) (by show w.heap.size ≤ w.heap.size + 2; omega) (.int .u64 (rd a ((0 : Nat) : Int))))
  obtain ⟨N, hN⟩ : ∃ N, N = w.heap.size := ⟨_, rfl⟩
  rw [← hN] at HA0 HA1 HA2 HB0 ⊢
  have HN := aa.mk hN
  clear hN HW0
  go_loopw [13, 4, 5] (fun c u v wr => ∃ t : Nat, c = .int .i64 (t : Int) ∧ u = .int .i64 ((eB t).1 : Int) ∧ v = .int .i64 ((eB t).2 : Int) ∧ aa (t ≤ 24) ∧ aa (Arr wr N 95 .u64 a) ∧ aa (Arr wr (N + 1) 95 .u64 eA) ∧ aa (Arr wr (N + 2) 95 .u64 (rpA a t)) ∧ aa (Below N w wr)) (fun c _ _ _ => 24 - (intOf c).toNat)
  case atStart => exact ⟨0, rfl, rfl, rfl, ⟨by omega⟩, HA0, HA1, HA2, HB0⟩
  case round =>
    clear HA0 HA1 HA2 HB0
    obtain ⟨t, rfl, rfl, rfl, HI, HA0, HA1, HA2, HB0⟩ := hrel
    have hi := HI.out
    obtain ⟨hx5, hy5⟩ := mq t
    have hxs : eB (t + 1) = ((eB t).2, (2 * (eB t).1 + 3 * (eB t).2) % 5) := rfl
    have hrs : rpA a (t + 1) = (rpA a t).set ((eB (t + 1)).1 + 5 * (eB (t + 1)).2) (hZ (rd a (((eB t).1 + 5 * (eB t).2 : Nat) : Int)) (rpN t)) := rfl
    rw [hxs] at hrs
    have HXS := aa.mk hxs
    clear hxs
    generalize (eB t).1 = x at hx5 hrs HXS ⊢
    generalize (eB t).2 = y at hy5 hrs HXS ⊢
    by_cases hlt : t < 24
    · have hlk : decide ((t : Int) < 24) = true := ta (by omega)
      obtain ⟨q, hq⟩ : ∃ q, q = (t + 1) * (t + 2) := ⟨_, rfl⟩
      have hq2 : q ≤ 24 * 25 := by rw [hq]; exact Nat.mul_le_mul (by omega) (by omega)
      obtain ⟨h, hh⟩ : ∃ h, h = q / 2 := ⟨_, rfl⟩
      obtain ⟨n, hn⟩ : ∃ n, n = h % 64 := ⟨_, rfl⟩
      have hnn : rpN t = n := by rw [hn, hh, hq]; rfl
      obtain ⟨z, hz⟩ : ∃ z, z = (2 * x + 3 * y) % 5 := ⟨_, rfl⟩
      obtain ⟨d, hd⟩ : ∃ d, d = y + 5 * z := ⟨_, rfl⟩
      obtain ⟨s, hs⟩ : ∃ s, s = x + 5 * y := ⟨_, rfl⟩
      have e1 : IntKind.i64.wrap ((t : Int) + 1) = (t : Int) + 1 := IntWalk.i64_in _ (by omega)
      have e2 : IntKind.i64.wrap ((t : Int) + 2) = (t : Int) + 2 := IntWalk.i64_in _ (by omega)
      have e3 : IntKind.i64.wrap (((t : Int) + 1) * ((t : Int) + 2)) = (q : Int) := by
        have hqi : ((t : Int) + 1) * ((t : Int) + 2) = (q : Int) := by rw [hq]; push_cast; rfl
        rw [hqi]
        exact IntWalk.i64_in _ (by omega)
      have e4 : IntKind.i64.wrap ((q : Int) / 2) = (h : Int) := (IntWalk.i64_in _ (by omega)).trans (by omega)
      have e5 : Int.tmod (h : Int) 64 = (n : Int) := by rw [Int.tmod_eq_emod_of_nonneg (by omega)]; omega
      have f1 : IntKind.i64.wrap (2 * (x : Int)) = 2 * (x : Int) := IntWalk.i64_in _ (by omega)
      have f2 : IntKind.i64.wrap (3 * (y : Int)) = 3 * (y : Int) := IntWalk.i64_in _ (by omega)
      have f3 : IntKind.i64.wrap (2 * (x : Int) + 3 * (y : Int)) = 2 * (x : Int) + 3 * (y : Int) := IntWalk.i64_in _ (by omega)
      have f4 : Int.tmod (2 * (x : Int) + 3 * (y : Int)) 5 = (z : Int) := by rw [Int.tmod_eq_emod_of_nonneg (by omega)]; omega
      have g1 : IntKind.i64.wrap (5 * (z : Int)) = 5 * (z : Int) := IntWalk.i64_in _ (by omega)
      have g2 : IntKind.i64.wrap ((y : Int) + 5 * (z : Int)) = (d : Int) := (IntWalk.i64_in _ (by omega)).trans (by omega)
      have g3 : IntKind.i64.wrap (5 * (y : Int)) = 5 * (y : Int) := IntWalk.i64_in _ (by omega)
      have g4 : IntKind.i64.wrap ((x : Int) + 5 * (y : Int)) = (s : Int) := (IntWalk.i64_in _ (by omega)).trans (by omega)
      have hd25 : d < 25 := by omega
      have hs25 : s < 25 := by omega
      have hn64 : n < 64 := by omega
      have hd1 : ((d : Int) < 25) = True := va (by omega)
      have hs1 : ((s : Int) < 25) = True := va (by omega)
      have hx1 : wr.cell? ⟨N, s, none⟩ = some (.int .u64 (rd a (s : Int))) := (HA0.out.cell s (by rw [HX.out]; exact hs25)).trans (by rw [cR])
      have hx2 := HA2.out.cell d (by rw [gL]; exact hd25)
      have hf2 := HA2.out.frozen d
      rw [hnn, ← hz, ← hs, ← hd] at hrs
      rw [← hz] at HXS
      have HRS := aa.mk hrs
      have HN64 := aa.mk hn64
      clear hi hx5 hy5 hrs hq hq2 hh hn hz hd hs hnn hd25 hs25 hn64
      go_wp2_with (first
        | (go_at_call 108
           (with_reducible refine (kP _ n _ HN64.out).mono ?_)
           rintro e w1 ⟨rfl, rfl⟩))
      go_roundw
      case rel =>
        refine ⟨t + 1, by go_num, by rw [HXS.out], by rw [HXS.out], ⟨by omega⟩, ⟨HA0.out.far (by show N ≠ N + 2; omega) _⟩, ⟨HA1.out.far (by show N + 1 ≠ N + 2; omega) _⟩, ⟨?_⟩, ⟨bN HB0.out (by show N ≤ N + 2; omega) _⟩⟩
        rw [HRS.out]
        exact HA2.out.set d _
      case measure => simp [intOf]; omega
    · have hlk : decide ((t : Int) < 24) = false := ua (by omega)
      obtain rfl : t = 24 := by omega
      clear hlt hi hrs hx5 hy5
      go_wp2_with (first | (refine eq rfl 95 (.tmp 3) rfl (N + 2) rfl HA2.out 25 91 Tryz.underlying95 (by kernel_rfl) (gL a 24) ?_) | (refine dN rfl 95 (.tmp 2) (.tmp 46) rfl (N + 1) rfl rfl HA1.out 25 (by kernel_rfl) rfl (gL a 24) ?_))
      exact bodyPost_ret (v := .agg (arrC .u64 (dU.v a))) (fY Tryz.results104 _ _ (N + 1) rfl (HA1.out.row _) 25 91 Tryz.underlying95 (by kernel_rfl) (gL a 24)) rfl ⟨rfl, by rw [← HN.out]; exact below_setRow HB0.out (Nat.le_succ _) _⟩
def kD (x : Int) : Int := Go.bits .xor .u64 (if IntKind.u64.signed = true then -1 else IntKind.u64.max) x
/-- The first m lanes mixed with their rows. -/
def chA (a : List Int) : Nat → List Int
  | 0 => eA
  | m + 1 => (chA a m).set m (Go.bits .xor .u64 (rd a (m : Int)) (Go.bits .and .u64 (kD (rd a (((m % 5 + 1) % 5 + 5 * (m / 5) : Nat) : Int))) (rd a (((m % 5 + 2) % 5 + 5 * (m / 5) : Nat) : Int))))
theorem fW (a : List Int) (m : Nat) : (chA a m).length = 25 := by
  induction m with
  | zero => rfl
  | succ m ih => simp only [chA, List.length_set, ih]
def dG.v (a : List Int) : List Int := chA a 25
set_option maxHeartbeats 1000000 in
set_option maxRecDepth 100000 in
theorem dG.calls (a : List Int) (w : World) (ha : a.length = 25) : Calls Tryz.prog 105 #[.agg (arrC .u64 a)] w fun e w' => e = .returned (.agg (arrC .u64 (dG.v a))) ∧ Below w.heap.size w w' := by
  have HX := aa.mk ha
  clear ha
  obtain ⟨w0, hw0⟩ : ∃ w0, w0 = ((w.alloc (.cells (arrC .u64 a) 95)).alloc (.cells (arrC .u64 eA) 95)).alloc (.cells (arrC .u64 eA) 95) := ⟨_, rfl⟩
  have hA0 : Arr w0 w.heap.size 95 .u64 a := by rw [hw0]; exact ((Arr.new w _ _ _).alloc _).alloc _
  have hA1 : Arr w0 (w.heap.size + 1) 95 .u64 eA := by rw [hw0]; exact (Arr.new2 _ _ _ _ _).alloc _
  have hA2 : Arr w0 (w.heap.size + 2) 95 .u64 (chA a (5 * 0)) := by
    rw [hw0]
    have := Arr.new ((w.alloc (.cells (arrC .u64 a) 95)).alloc (.cells (arrC .u64 eA) 95)) 95 .u64 eA
    rwa [ce, ce] at this
  have hB0 : Below w.heap.size w w0 := by rw [hw0]; exact (dw _ _ _).alloc (by rw [ce, ce]; omega) _
  have HA0 := aa.mk hA0
  have HA1 := aa.mk hA1
  have HA2 := aa.mk hA2
  have HB0 := aa.mk hB0
  have HW0 := aa.mk hw0
  clear hA0 hA1 hA2 hB0 hw0
  go_enter Tryz.func105, Tryz.ntmps105
  go_wp2_with (first
    | (refine dy rfl 95 (.some 2) rfl _ rfl (k := .u64) (m := 25) eA (by kernel_rfl) ?_)
    | (refine dy rfl 95 rfl _ rfl _ rfl (k := .u64) (m := 25) eA (by kernel_rfl) ?_
       try simp only [ce, ← HW0.out]))
  obtain ⟨N, hN⟩ : ∃ N, N = w.heap.size := ⟨_, rfl⟩
  rw [← hN] at HA0 HA1 HA2 HB0 ⊢
  have HN := aa.mk hN
  clear hN HW0
  go_loopw [6] (fun c wr => ∃ y : Nat, c = .int .i64 (y : Int) ∧ aa (y ≤ 5) ∧ aa (Arr wr N 95 .u64 a) ∧ aa (Arr wr (N + 1) 95 .u64 eA) ∧ aa (Arr wr (N + 2) 95 .u64 (chA a (5 * y))) ∧ aa (Below N w wr)) (fun c _ => 5 - (intOf c).toNat)
  case atStart => exact ⟨0, rfl, ⟨by omega⟩, HA0, HA1, HA2, HB0⟩
  case round =>
    clear HA0 HA1 HA2 HB0
    obtain ⟨y, rfl, HI, HA0, HA1, HA2, HB0⟩ := hrel
    have hi := HI.out
    by_cases hlty : y < 5
    · have hlk : decide ((y : Int) < 5) = true := ta (by omega)
      have HY := aa.mk hlty
      clear hi
      go_wp2
      go_loopw [9] (fun c wr => ∃ x : Nat, c = .int .i64 (x : Int) ∧ aa (x ≤ 5) ∧ aa (Arr wr N 95 .u64 a) ∧ aa (Arr wr (N + 1) 95 .u64 eA) ∧ aa (Arr wr (N + 2) 95 .u64 (chA a (5 * y + x))) ∧ aa (Below N w wr)) (fun c _ => 5 - (intOf c).toNat)
      case atStart => exact ⟨0, rfl, ⟨by omega⟩, HA0, HA1, HA2, HB0⟩
      case round =>
        clear HA0 HA1 HA2 HB0
        obtain ⟨x, rfl, HI, HA0, HA1, HA2, HB0⟩ := hrel
        have hi := HI.out
        by_cases hlt : x < 5
        · have hlk2 : decide ((x : Int) < 5) = true := ta (by omega)
          obtain ⟨m, hm⟩ : ∃ m, m = 5 * y + x := ⟨_, rfl⟩
          obtain ⟨p, hp⟩ : ∃ p, p = (x + 1) % 5 := ⟨_, rfl⟩
          obtain ⟨q, hq⟩ : ∃ q, q = (x + 2) % 5 := ⟨_, rfl⟩
          obtain ⟨p2, hp2⟩ : ∃ p2, p2 = p + 5 * y := ⟨_, rfl⟩
          obtain ⟨q2, hq2⟩ : ∃ q2, q2 = q + 5 * y := ⟨_, rfl⟩
          have hcs : chA a (m + 1) = (chA a m).set m (Go.bits .xor .u64 (rd a (m : Int)) (Go.bits .and .u64 (kD (rd a (((m % 5 + 1) % 5 + 5 * (m / 5) : Nat) : Int))) (rd a (((m % 5 + 2) % 5 + 5 * (m / 5) : Nat) : Int)))) := rfl
          rw [show m % 5 = x by omega, show m / 5 = y by omega, ← hp, ← hq, ← hp2, ← hq2] at hcs
          rw [← hm] at HA2
          have e1 : IntKind.i64.wrap (5 * (y : Int)) = 5 * (y : Int) := IntWalk.i64_in _ (by omega)
          have e2 : IntKind.i64.wrap ((x : Int) + 5 * (y : Int)) = (m : Int) := (IntWalk.i64_in _ (by omega)).trans (by omega)
          have e3 : IntKind.i64.wrap ((x : Int) + 1) = (x : Int) + 1 := IntWalk.i64_in _ (by omega)
          have e4 : IntKind.i64.wrap ((x : Int) + 2) = (x : Int) + 2 := IntWalk.i64_in _ (by omega)
          have e5 : Int.tmod ((x : Int) + 1) 5 = (p : Int) := by rw [Int.tmod_eq_emod_of_nonneg (by omega)]; omega
          have e6 : Int.tmod ((x : Int) + 2) 5 = (q : Int) := by rw [Int.tmod_eq_emod_of_nonneg (by omega)]; omega
          have e7 : IntKind.i64.wrap ((p : Int) + 5 * (y : Int)) = (p2 : Int) := (IntWalk.i64_in _ (by omega)).trans (by omega)
          have e8 : IntKind.i64.wrap ((q : Int) + 5 * (y : Int)) = (q2 : Int) := (IntWalk.i64_in _ (by omega)).trans (by omega)
          have km : m < 25 := by omega
          have kp : p2 < 25 := by omega
          have kq : q2 < 25 := by omega
          have hm1 : ((m : Int) < 25) = True := va (by omega)
          have hp1 : ((p2 : Int) < 25) = True := va (by omega)
          have hq1 : ((q2 : Int) < 25) = True := va (by omega)
          have hc : ∀ (wx : World) (i : Nat), i < 25 → Arr wx N 95 .u64 a → wx.cell? ⟨N, i, none⟩ = some (.int .u64 (rd a (i : Int))) := fun wx i hi h => (h.cell i (by rw [HX.out]; exact hi)).trans (by rw [cR])
          have HCS := aa.mk hcs
          have HM := aa.mk hm
          clear hi hm hp hq hp2 hq2 hcs hlty
          go_wp2
          refine wp_region_still_tail 30 (by kernel_rfl) (by kernel_rfl) ?_
          simp only [List.take_succ_cons, List.take_zero, List.drop_succ_cons, List.drop_zero]
          change wpStill _ _ wr.drew (fun a' => wpList _ _ _ _ a' wr.drew) _ _
          have HA0 := aa.mk HA0.out.drew
          have HA1 := aa.mk HA1.out.drew
          have HA2 := aa.mk HA2.out.drew
          have HB0 := aa.mk (cV HB0.out)
          generalize wr.drew = w2 at HA0 HA1 HA2 HB0 ⊢
          have hx1 := hc w2 m km HA0.out
          have hx2 := hc w2 p2 kp HA0.out
          have hx3 := hc w2 q2 kq HA0.out
          have hx4 := HA2.out.cell m (by rw [fW]; exact km)
          have hf1 := HA2.out.frozen m
          clear hc km kp kq
          repeat still_step
          refine wpStill_nil ?_
          go_wp2
          go_roundw
          case rel =>
            have hm := HM.out
            refine ⟨x + 1, by go_num, ⟨by omega⟩, ⟨HA0.out.far (by show N ≠ N + 2; omega) _⟩, ⟨HA1.out.far (by show N + 1 ≠ N + 2; omega) _⟩, ⟨?_⟩, ⟨bN HB0.out (by show N ≤ N + 2; omega) _⟩⟩
            rw [show 5 * y + (x + 1) = m + 1 by omega, HCS.out]
            exact HA2.out.set m _
          case measure => simp [intOf]; omega
        · have hlk2 : decide ((x : Int) < 5) = false := ua (by omega)
          obtain rfl : x = 5 := by omega
          clear hlt hi
          go_wp2
          go_roundw
          case rel => exact ⟨y + 1, by go_num, ⟨by have := HY.out; omega⟩, HA0, HA1, HA2, HB0⟩
          case measure => have := HY.out; simp [intOf]; omega
    · have hlk : decide ((y : Int) < 5) = false := ua (by omega)
      obtain rfl : y = 5 := by omega
      clear hlty hi
      go_wp2_with (first | (refine eq rfl 95 (.tmp 3) rfl (N + 2) rfl HA2.out 25 91 Tryz.underlying95 (by kernel_rfl) (fW a 25) ?_) | (refine dN rfl 95 (.tmp 2) (.tmp 44) rfl (N + 1) rfl rfl HA1.out 25 (by kernel_rfl) rfl (fW a 25) ?_))
      exact bodyPost_ret (v := .agg (arrC .u64 (dG.v a))) (fY Tryz.results105 _ _ (N + 1) rfl (HA1.out.row _) 25 91 Tryz.underlying95 (by kernel_rfl) (fW a 25)) rfl ⟨rfl, by rw [← HN.out]; exact below_setRow HB0.out (Nat.le_succ _) _⟩
end Go.Proofs.YtielligodgabiaaGreatDoor.P
