/- Walks by hand: theta, rho and pi, chi. -/
import Derived.Test.YtmiackbomcjboaaGreatDoorHB1
namespace Go.Proofs.YtmiackbomcjboaaGreatDoor.P
open Go.RowKit YtmiackbomcjboaaGreatDoorW.PrintWords YtmiackbomcjboaaGreatDoorW.PrintLast YtmiackbomcjboaaGreatDoorW.PrintMore YtmiackbomcjboaaGreatDoor.Kit
set_option linter.unusedVariables false
set_option linter.unusedSimpArgs false

/-- x turned left by n. -/
def jn (x : Int) (n : Nat) : Int := Go.bits .or .u64 (IntKind.u64.wrap (x * 2 ^ n)) (x / 2 ^ (64 - n))
theorem uz (n : Nat) (hn : n < 64) : Go.bits .and .u64 (IntKind.u64.wrap (n : Int)) 63 = (n : Int) := by
  have h : ((List.range 64).all fun n : Nat => decide (Go.bits .and .u64 (IntKind.u64.wrap (n : Int)) 63 = (n : Int))) = true := by kernel_rfl
  exact of_decide_eq_true (List.all_eq_true.mp h n (List.mem_range.mpr hn))
theorem um (n : Nat) (hn : n < 64) : IntKind.u64.wrap (64 - (n : Int)) = ((64 - n : Nat) : Int) := by
  rw [IntKind.wrap_u64]
  omega
set_option maxHeartbeats 1000000 in
theorem mQ (x : Int) (n : Nat) (w : World) (hn : n < 64) : Calls Tryz.prog 131 #[.int .u64 x, .int .i64 (n : Int)] w fun e w' => e = .returned (.int .u64 (jn x n)) ∧ w' = w := by
  have h1 := uz n hn
  have h0 : IntKind.u64.wrap (n : Int) = (n : Int) := by rw [IntKind.wrap_u64]; omega
  rw [h0] at h1
  have h2 := um n hn
  go_enter Tryz.func131, Tryz.ntmps131
  go_wp2
  go_ret
  exact ⟨rfl, rfl⟩

def zs5 : List Int := List.replicate 5 0
/-- The columns' je, over the first m lanes. -/
def thC (a : List Int) : Nat → List Int
  | 0 => zs5
  | m + 1 => (thC a m).set (m % 5) (Go.bits .xor .u64 (rd (thC a m) ((m % 5 : Nat) : Int)) (rd a (m : Int)))
theorem ka (a : List Int) (m : Nat) : (thC a m).length = 5 := by
  induction m with
  | zero => rfl
  | succ m ih => simp only [thC, List.length_set, ih]
/-- The first m lanes mixed with their columns. -/
def thA (a c : List Int) : Nat → List Int
  | 0 => a
  | m + 1 => (thA a c m).set m (Go.bits .xor .u64 (rd (thA a c m) (m : Int)) (Go.bits .xor .u64 (rd c (((m % 5 + 4) % 5 : Nat) : Int)) (jn (rd c (((m % 5 + 1) % 5 : Nat) : Int)) 1)))
theorem lV (a c : List Int) (m : Nat) : (thA a c m).length = a.length := by
  induction m with
  | zero => rfl
  | succ m ih => simp only [thA, List.length_set, ih]
def d5.v (a : List Int) : List Int := thA a (thC a 25) 25
set_option maxHeartbeats 1000000 in
set_option maxRecDepth 100000 in
theorem d5.calls (a : List Int) (w : World) (ha : a.length = 25) : Calls Tryz.prog 126 #[.agg (arrC .u64 a)] w fun e w' => e = .returned (.agg (arrC .u64 (d5.v a))) ∧ Below w.heap.size w w' := by
  have HX := aa.mk ha
  clear ha
  obtain ⟨w0, hw0⟩ : ∃ w0, w0 = ((w.alloc (.cells (arrC .u64 a) 115)).alloc (.cells (arrC .u64 fy) 115)).alloc (.cells (arrC .u64 zs5) 125) := ⟨_, rfl⟩
  have hA0 : Arr w0 w.heap.size 115 .u64 a := by rw [hw0]; exact ((Arr.new w _ _ _).alloc _).alloc _
  have hA1 : Arr w0 (w.heap.size + 1) 115 .u64 fy := by rw [hw0]; exact (Arr.new2 _ _ _ _ _).alloc _
  have hA2 : Arr w0 (w.heap.size + 2) 125 .u64 (thC a 0) := by
    rw [hw0]
    have := Arr.new ((w.alloc (.cells (arrC .u64 a) 115)).alloc (.cells (arrC .u64 fy) 115)) 125 .u64 zs5
    rwa [cy, cy] at this
  have hB0 : Below w.heap.size w w0 := by rw [hw0]; exact (el _ _ _).alloc (by rw [cy, cy]; omega) _
  have HA0 := aa.mk hA0
  have HA1 := aa.mk hA1
  have HA2 := aa.mk hA2
  have HB0 := aa.mk hB0
  have HW0 := aa.mk hw0
  clear hA0 hA1 hA2 hB0 hw0
  go_enter Tryz.func126, Tryz.ntmps126
  go_wp2_with (first
    | (refine eu rfl 115 rfl _ rfl _ rfl (k := .u64) (m := 25) fy (by kernel_rfl) ?_)
    | (refine eu rfl 125 rfl _ rfl _ rfl (k := .u64) (m := 5) zs5 (by kernel_rfl) ?_
       simp only [cy, ← HW0.o])
    | (refine fl rfl 115 (.tmp 1) rfl w.heap.size rfl HA0.o 25 111 Tryz.underlying115 (by kernel_rfl) HX.o ?_))
  obtain ⟨N, hN⟩ : ∃ N, N = w.heap.size := ⟨_, rfl⟩
  rw [← hN] at HA0 HA1 HA2 HB0 ⊢
  have HN := aa.mk hN
  clear hN HW0
  go_loopw [9] (fun c wr => ∃ m : Nat, c = .int .i64 (m : Int) ∧ aa (m ≤ 25) ∧ aa (Arr wr N 115 .u64 a) ∧ aa (Arr wr (N + 1) 115 .u64 fy) ∧ aa (Arr wr (N + 2) 125 .u64 (thC a m)) ∧ aa (Below N w wr)) (fun c _ => 25 - (intOf c).toNat)
  case atStart => exact ⟨0, rfl, ⟨by omega⟩, HA0, HA1, HA2, HB0⟩
  case round =>
    clear HA0 HA1 HA2 HB0
    obtain ⟨m, rfl, HI, HA0, HA1, HA2, HB0⟩ := hrel
    have hi := HI.o
    by_cases hlt : m < 25
    · have hlk : decide ((m : Int) < 25) = true := ya (by omega)
      obtain ⟨i, hi2⟩ : ∃ i, i = m % 5 := ⟨_, rfl⟩
      have e1 : Int.tmod (m : Int) 5 = (i : Int) := by rw [Int.tmod_eq_emod_of_nonneg (by omega)]; omega
      have hix : ∀ w : World, (Instr.index 115 (.agg (arrC .u64 a)) (.int .i64 (m : Int))).run Tryz.prog w = .ok (.int .u64 (rd a (m : Int))) w := fun w => jR w 115 .u64 a m 25 111 Tryz.underlying115 Tryz.underlying111 (by kernel_rfl) HX.o hlt
      have hx1 : wr.cell? ⟨N + 2, i, none⟩ = some (.int .u64 (rd (thC a m) (i : Int))) := (HA2.o.cell i (by rw [ka]; omega)).trans (by rw [dv])
      have hf1 := HA2.o.frozen i
      have hi1 : ((i : Int) < 5) = True := Aa (by omega)
      have HM := aa.mk (show i = m % 5 from hi2)
      clear hi hi2
      go_wp2
      go_roundw
      case rel =>
        have hm := HM.o
        refine ⟨m + 1, by go_num, ⟨by omega⟩, ⟨HA0.o.far (by show N ≠ N + 2; omega) _⟩, ⟨HA1.o.far (by show N + 1 ≠ N + 2; omega) _⟩, ⟨?_⟩, ⟨bZ HB0.o (by show N ≤ N + 2; omega) _⟩⟩
        simp only [thC]
        rw [← hm]
        exact HA2.o.set i _
      case measure => simp [intOf]; omega
    · have hlk : decide ((m : Int) < 25) = false := za (by omega)
      obtain rfl : m = 25 := by omega
      clear hlt hi
      go_wp2
      go_loopw [21] (fun c wr => ∃ m : Nat, c = .int .i64 (m : Int) ∧ aa (m ≤ 25) ∧ aa (Arr wr N 115 .u64 (thA a (thC a 25) m)) ∧ aa (Arr wr (N + 1) 115 .u64 fy) ∧ aa (Arr wr (N + 2) 125 .u64 (thC a 25)) ∧ aa (Below N w wr)) (fun c _ => 25 - (intOf c).toNat)
      case atStart => exact ⟨0, rfl, ⟨by omega⟩, HA0, HA1, HA2, HB0⟩
      case round =>
        clear HA0 HA1 HA2 HB0
        obtain ⟨m, rfl, HI, HA0, HA1, HA2, HB0⟩ := hrel
        have hi := HI.o
        by_cases hlt : m < 25
        · have hlk : decide ((m : Int) < 25) = true := ya (by omega)
          obtain ⟨x, hx⟩ : ∃ x, x = m % 5 := ⟨_, rfl⟩
          obtain ⟨y, hy⟩ : ∃ y, y = (x + 4) % 5 := ⟨_, rfl⟩
          obtain ⟨z, hz⟩ : ∃ z, z = (x + 1) % 5 := ⟨_, rfl⟩
          have e1 : Int.tmod (m : Int) 5 = (x : Int) := by rw [Int.tmod_eq_emod_of_nonneg (by omega)]; omega
          have e2 : IntKind.i64.wrap ((x : Int) + 4) = (x : Int) + 4 := IntWalk.i64_in _ (by omega)
          have e3 : IntKind.i64.wrap ((x : Int) + 1) = (x : Int) + 1 := IntWalk.i64_in _ (by omega)
          have e4 : Int.tmod ((x : Int) + 4) 5 = (y : Int) := by rw [Int.tmod_eq_emod_of_nonneg (by omega)]; omega
          have e5 : Int.tmod ((x : Int) + 1) 5 = (z : Int) := by rw [Int.tmod_eq_emod_of_nonneg (by omega)]; omega
          have hy1 : ((y : Int) < 5) = True := Aa (by omega)
          have hz1 : ((z : Int) < 5) = True := Aa (by omega)
          have hm1 : ((m : Int) < 25) = True := Aa (by omega)
          have hc : ∀ (wx : World) (i : Nat), i < 5 → Arr wx (N + 2) 125 .u64 (thC a 25) → wx.cell? ⟨N + 2, i, none⟩ = some (.int .u64 (rd (thC a 25) (i : Int))) := fun wx i hi h => (h.cell i (by rw [ka]; exact hi)).trans (by rw [dv])
          have hca : ∀ (wx : World), Arr wx N 115 .u64 (thA a (thC a 25) m) → wx.cell? ⟨N, m, none⟩ = some (.int .u64 (rd (thA a (thC a 25) m) (m : Int))) := fun wx h => (h.cell m (by rw [lV, HX.o]; exact hlt)).trans (by rw [dv])
          have ky : y < 5 := by omega
          have kz : z < 5 := by omega
          have HM := aa.mk (show x = m % 5 ∧ y = (x + 4) % 5 ∧ z = (x + 1) % 5 from ⟨hx, hy, hz⟩)
          clear hi hx hy hz
          go_wp2
          refine wp_region_still_tail 17 (by kernel_rfl) (by kernel_rfl) ?_
          simp only [List.take_succ_cons, List.take_zero, List.drop_succ_cons, List.drop_zero]
          change wpStill _ _ wr.drew (fun a' => wpList _ _ _ _ a' wr.drew) _ _
          have HA0 := aa.mk HA0.o.drew
          have HA1 := aa.mk HA1.o.drew
          have HA2 := aa.mk HA2.o.drew
          have HB0 := aa.mk (dq HB0.o)
          generalize wr.drew = w2 at HA0 HA1 HA2 HB0 ⊢
          have hx1 := hca w2 HA0.o
          have hx2 := hc w2 y ky HA2.o
          have hx3 := hc w2 z kz HA2.o
          have hf1 := HA0.o.frozen m
          clear hc hca
          repeat still_step
          still_call (mQ (rd (thC a 25) (z : Int)) 1 w2 (by decide))
          repeat still_step
          refine wpStill_nil ?_
          go_wp2
          go_roundw
          case rel =>
            refine ⟨_, _, _, _, _, _, _, _, _, _, _, _, _, _, _, _, _, _, _, _, _, _, _, _, _, ?_, rfl⟩
            have hm := HM.o
            refine ⟨m + 1, by go_num, ⟨by omega⟩, ⟨?_⟩, ⟨HA1.o.far (by show N + 1 ≠ N; omega) _⟩, ⟨HA2.o.far (by show N + 2 ≠ N; omega) _⟩, ⟨bZ HB0.o (by show N ≤ N; omega) _⟩⟩
            simp only [thA]
            rw [← hm.1, ← hm.2.1, ← hm.2.2]
            exact HA0.o.set m _
          case measure => simp [intOf]; omega
        · have hlk : decide ((m : Int) < 25) = false := za (by omega)
          obtain rfl : m = 25 := by omega
          have hl : (thA a (thC a 25) 25).length = 25 := by rw [lV]; exact HX.o
          have HL := aa.mk hl
          clear hlt hi hl
          go_wp2_with (first | (refine fl rfl 115 (.tmp 1) rfl N rfl HA0.o 25 111 Tryz.underlying115 (by kernel_rfl) HL.o ?_) | (refine eJ rfl 115 (.tmp 2) (.tmp 44) rfl (N + 1) rfl rfl HA1.o 25 (by kernel_rfl) rfl HL.o ?_))
          exact bodyPost_ret (v := .agg (arrC .u64 (d5.v a))) (hU Tryz.results126 _ _ (N + 1) rfl (HA1.o.row _) 25 111 Tryz.underlying115 (by kernel_rfl) HL.o) rfl ⟨rfl, by rw [← HN.o]; exact below_setRow HB0.o (Nat.le_succ _) _⟩
/-- The place of a lane on its way. -/
def fD : Nat → Nat × Nat
  | 0 => (1, 0)
  | t + 1 => ((fD t).2, (2 * (fD t).1 + 3 * (fD t).2) % 5)
theorem oq (t : Nat) : (fD t).1 < 5 ∧ (fD t).2 < 5 := by
  induction t with
  | zero => exact ⟨by decide, by decide⟩
  | succ t ih => exact ⟨ih.2, Nat.mod_lt _ (by decide)⟩
def rpN (t : Nat) : Nat := (t + 1) * (t + 2) / 2 % 64
/-- The lanes turned and moved, t of them. -/
def rpA (a : List Int) : Nat → List Int
  | 0 => fy.set 0 (rd a ((0 : Nat) : Int))
  | t + 1 => (rpA a t).set ((fD (t + 1)).1 + 5 * (fD (t + 1)).2) (jn (rd a (((fD t).1 + 5 * (fD t).2 : Nat) : Int)) (rpN t))
theorem iL (a : List Int) (t : Nat) : (rpA a t).length = 25 := by
  induction t with
  | zero => rfl
  | succ t ih => simp only [rpA, List.length_set, ih]
def eN.v (a : List Int) : List Int := rpA a 24
set_option maxHeartbeats 1000000 in
set_option maxRecDepth 100000 in
theorem eN.calls (a : List Int) (w : World) (ha : a.length = 25) : Calls Tryz.prog 127 #[.agg (arrC .u64 a)] w fun e w' => e = .returned (.agg (arrC .u64 (eN.v a))) ∧ Below w.heap.size w w' := by
  have HX := aa.mk ha
  clear ha
  obtain ⟨w0, hw0⟩ : ∃ w0, w0 = ((w.alloc (.cells (arrC .u64 a) 115)).alloc (.cells (arrC .u64 fy) 115)).alloc (.cells (arrC .u64 fy) 115) := ⟨_, rfl⟩
  have hA0 : Arr w0 w.heap.size 115 .u64 a := by rw [hw0]; exact ((Arr.new w _ _ _).alloc _).alloc _
  have hA1 : Arr w0 (w.heap.size + 1) 115 .u64 fy := by rw [hw0]; exact (Arr.new2 _ _ _ _ _).alloc _
  have hA2 : Arr w0 (w.heap.size + 2) 115 .u64 fy := by
    rw [hw0]
    have := Arr.new ((w.alloc (.cells (arrC .u64 a) 115)).alloc (.cells (arrC .u64 fy) 115)) 115 .u64 fy
    rwa [cy, cy] at this
  have hB0 : Below w.heap.size w w0 := by rw [hw0]; exact (el _ _ _).alloc (by rw [cy, cy]; omega) _
  have hx0 : w0.cell? ⟨w.heap.size, 0, none⟩ = some (.int .u64 (rd a ((0 : Nat) : Int))) := (hA0.cell 0 (by rw [HX.o]; decide)).trans (by rw [dv])
  have hx1 := hA2.cell 0 (by decide)
  have hf1 := hA2.frozen 0
  have HA0 := aa.mk hA0
  have HA1 := aa.mk hA1
  have HA2 := aa.mk hA2
  have HB0 := aa.mk hB0
  have HW0 := aa.mk hw0
  clear hA0 hA1 hA2 hB0 hw0
  go_enter Tryz.func127, Tryz.ntmps127
  go_wp2_with (first
    | (refine eu rfl 115 (.some 2) rfl _ rfl (k := .u64) (m := 25) fy (by kernel_rfl) ?_)
    | (refine eu rfl 115 rfl _ rfl _ rfl (k := .u64) (m := 25) fy (by kernel_rfl) ?_
       try simp only [cy, ← HW0.o]))
  clear hx0 hx1 hf1
  have HA2 := aa.mk (HA2.o.set 0 (rd a ((0 : Nat) : Int)))
  have HA1 := aa.mk (HA1.o.far (p := ⟨w.heap.size + 2, 0, none⟩) (by show w.heap.size + 1 ≠ w.heap.size + 2; omega) (.int .u64 (rd a ((0 : Nat) : Int))))
  have HA0 := aa.mk (HA0.o.far (p := ⟨w.heap.size + 2, 0, none⟩) (by show w.heap.size ≠ w.heap.size + 2; omega) (.int .u64 (rd a ((0 : Nat) : Int))))
  have HB0 := aa.mk (bZ HB0.o (p := ⟨w.heap.size + 2, 0, none⟩) (by show w.heap.size ≤ w.heap.size + 2; omega) (.int .u64 (rd a ((0 : Nat) : Int))))
  obtain ⟨N, hN⟩ : ∃ N, N = w.heap.size := ⟨_, rfl⟩
  rw [← hN] at HA0 HA1 HA2 HB0 ⊢
  have HN := aa.mk hN
  clear hN HW0
  go_loopw [13, 4, 5] (fun c u v wr => ∃ t : Nat, c = .int .i64 (t : Int) ∧ u = .int .i64 ((fD t).1 : Int) ∧ v = .int .i64 ((fD t).2 : Int) ∧ aa (t ≤ 24) ∧ aa (Arr wr N 115 .u64 a) ∧ aa (Arr wr (N + 1) 115 .u64 fy) ∧ aa (Arr wr (N + 2) 115 .u64 (rpA a t)) ∧ aa (Below N w wr)) (fun c _ _ _ => 24 - (intOf c).toNat)
  case atStart => exact ⟨0, rfl, rfl, rfl, ⟨by omega⟩, HA0, HA1, HA2, HB0⟩
  case round =>
    clear HA0 HA1 HA2 HB0
    obtain ⟨t, rfl, rfl, rfl, HI, HA0, HA1, HA2, HB0⟩ := hrel
    have hi := HI.o
    obtain ⟨hx5, hy5⟩ := oq t
    have hxs : fD (t + 1) = ((fD t).2, (2 * (fD t).1 + 3 * (fD t).2) % 5) := rfl
    have hrs : rpA a (t + 1) = (rpA a t).set ((fD (t + 1)).1 + 5 * (fD (t + 1)).2) (jn (rd a (((fD t).1 + 5 * (fD t).2 : Nat) : Int)) (rpN t)) := rfl
    rw [hxs] at hrs
    have HXS := aa.mk hxs
    clear hxs
    generalize (fD t).1 = x at hx5 hrs HXS ⊢
    generalize (fD t).2 = y at hy5 hrs HXS ⊢
    by_cases hlt : t < 24
    · have hlk : decide ((t : Int) < 24) = true := ya (by omega)
      obtain ⟨q, hq⟩ : ∃ q, q = (t + 1) * (t + 2) := ⟨_, rfl⟩
      have hq2 : q ≤ 24 * 25 := by rw [hq]; exact Nat.mul_le_mul (by omega) (by omega)
      obtain ⟨h, hh⟩ : ∃ h, h = q / 2 := ⟨_, rfl⟩
      obtain ⟨n, hn⟩ : ∃ n, n = h % 64 := ⟨_, rfl⟩
      have hnn : rpN t = n := by rw [hn, hh, hq]; rfl
      obtain ⟨z, hz⟩ : ∃ z, z = (2 * x + 3 * y) % 5 := ⟨_, rfl⟩
      obtain ⟨d, hd⟩ : ∃ d, d = y + 5 * z := ⟨_, rfl⟩
      obtain ⟨s, hs⟩ : ∃ s, s = x + 5 * y := ⟨_, rfl⟩
      have e1 : IntKind.i64.wrap ((t : Int) + 1) = (t : Int) + 1 := IntWalk.i64_in _ (by omega)
      have e2 : IntKind.i64.wrap ((t : Int) + 2) = (t : Int) + 2 := IntWalk.i64_in _ (by omega)
      have e3 : IntKind.i64.wrap (((t : Int) + 1) * ((t : Int) + 2)) = (q : Int) := by
        have hqi : ((t : Int) + 1) * ((t : Int) + 2) = (q : Int) := by rw [hq]; push_cast; rfl
        rw [hqi]
        exact IntWalk.i64_in _ (by omega)
      have e4 : IntKind.i64.wrap ((q : Int) / 2) = (h : Int) := (IntWalk.i64_in _ (by omega)).trans (by omega)
      have e5 : Int.tmod (h : Int) 64 = (n : Int) := by rw [Int.tmod_eq_emod_of_nonneg (by omega)]; omega
      have f1 : IntKind.i64.wrap (2 * (x : Int)) = 2 * (x : Int) := IntWalk.i64_in _ (by omega)
      have f2 : IntKind.i64.wrap (3 * (y : Int)) = 3 * (y : Int) := IntWalk.i64_in _ (by omega)
      have f3 : IntKind.i64.wrap (2 * (x : Int) + 3 * (y : Int)) = 2 * (x : Int) + 3 * (y : Int) := IntWalk.i64_in _ (by omega)
      have f4 : Int.tmod (2 * (x : Int) + 3 * (y : Int)) 5 = (z : Int) := by rw [Int.tmod_eq_emod_of_nonneg (by omega)]; omega
      have g1 : IntKind.i64.wrap (5 * (z : Int)) = 5 * (z : Int) := IntWalk.i64_in _ (by omega)
      have g2 : IntKind.i64.wrap ((y : Int) + 5 * (z : Int)) = (d : Int) := (IntWalk.i64_in _ (by omega)).trans (by omega)
      have g3 : IntKind.i64.wrap (5 * (y : Int)) = 5 * (y : Int) := IntWalk.i64_in _ (by omega)
      have g4 : IntKind.i64.wrap ((x : Int) + 5 * (y : Int)) = (s : Int) := (IntWalk.i64_in _ (by omega)).trans (by omega)
      have hd25 : d < 25 := by omega
      have hs25 : s < 25 := by omega
      have hn64 : n < 64 := by omega
      have hd1 : ((d : Int) < 25) = True := Aa (by omega)
      have hs1 : ((s : Int) < 25) = True := Aa (by omega)
      have hx1 : wr.cell? ⟨N, s, none⟩ = some (.int .u64 (rd a (s : Int))) := (HA0.o.cell s (by rw [HX.o]; exact hs25)).trans (by rw [dv])
      have hx2 := HA2.o.cell d (by rw [iL]; exact hd25)
      have hf2 := HA2.o.frozen d
      rw [hnn, ← hz, ← hs, ← hd] at hrs
      rw [← hz] at HXS
      have HRS := aa.mk hrs
      have HN64 := aa.mk hn64
      clear hi hx5 hy5 hrs hq hq2 hh hn hz hd hs hnn hd25 hs25 hn64
      go_wp2_with (first
        | (go_at_call 131
           (with_reducible refine (mQ _ n _ HN64.o).mono ?_)
           rintro e w1 ⟨rfl, rfl⟩))
      go_roundw
      case rel =>
        refine ⟨t + 1, by go_num, by rw [HXS.o], by rw [HXS.o], ⟨by omega⟩, ⟨HA0.o.far (by show N ≠ N + 2; omega) _⟩, ⟨HA1.o.far (by show N + 1 ≠ N + 2; omega) _⟩, ⟨?_⟩, ⟨bZ HB0.o (by show N ≤ N + 2; omega) _⟩⟩
        rw [HRS.o]
        exact HA2.o.set d _
      case measure => simp [intOf]; omega
    · have hlk : decide ((t : Int) < 24) = false := za (by omega)
      obtain rfl : t = 24 := by omega
      clear hlt hi hrs hx5 hy5
      go_wp2_with (first | (refine fl rfl 115 (.tmp 3) rfl (N + 2) rfl HA2.o 25 111 Tryz.underlying115 (by kernel_rfl) (iL a 24) ?_) | (refine eJ rfl 115 (.tmp 2) (.tmp 46) rfl (N + 1) rfl rfl HA1.o 25 (by kernel_rfl) rfl (iL a 24) ?_))
      exact bodyPost_ret (v := .agg (arrC .u64 (eN.v a))) (hU Tryz.results127 _ _ (N + 1) rfl (HA1.o.row _) 25 111 Tryz.underlying115 (by kernel_rfl) (iL a 24)) rfl ⟨rfl, by rw [← HN.o]; exact below_setRow HB0.o (Nat.le_succ _) _⟩
def mF (x : Int) : Int := Go.bits .xor .u64 (if IntKind.u64.signed = true then -1 else IntKind.u64.max) x
/-- The first m lanes mixed with their rows. -/
def chA (a : List Int) : Nat → List Int
  | 0 => fy
  | m + 1 => (chA a m).set m (Go.bits .xor .u64 (rd a (m : Int)) (Go.bits .and .u64 (mF (rd a (((m % 5 + 1) % 5 + 5 * (m / 5) : Nat) : Int))) (rd a (((m % 5 + 2) % 5 + 5 * (m / 5) : Nat) : Int))))
theorem g9 (a : List Int) (m : Nat) : (chA a m).length = 25 := by
  induction m with
  | zero => rfl
  | succ m ih => simp only [chA, List.length_set, ih]
def eA.v (a : List Int) : List Int := chA a 25
set_option maxHeartbeats 1000000 in
set_option maxRecDepth 100000 in
theorem eA.calls (a : List Int) (w : World) (ha : a.length = 25) : Calls Tryz.prog 128 #[.agg (arrC .u64 a)] w fun e w' => e = .returned (.agg (arrC .u64 (eA.v a))) ∧ Below w.heap.size w w' := by
  have HX := aa.mk ha
  clear ha
  obtain ⟨w0, hw0⟩ : ∃ w0, w0 = ((w.alloc (.cells (arrC .u64 a) 115)).alloc (.cells (arrC .u64 fy) 115)).alloc (.cells (arrC .u64 fy) 115) := ⟨_, rfl⟩
  have hA0 : Arr w0 w.heap.size 115 .u64 a := by rw [hw0]; exact ((Arr.new w _ _ _).alloc _).alloc _
  have hA1 : Arr w0 (w.heap.size + 1) 115 .u64 fy := by rw [hw0]; exact (Arr.new2 _ _ _ _ _).alloc _
  have hA2 : Arr w0 (w.heap.size + 2) 115 .u64 (chA a (5 * 0)) := by
    rw [hw0]
    have := Arr.new ((w.alloc (.cells (arrC .u64 a) 115)).alloc (.cells (arrC .u64 fy) 115)) 115 .u64 fy
    rwa [cy, cy] at this
  have hB0 : Below w.heap.size w w0 := by rw [hw0]; exact (el _ _ _).alloc (by rw [cy, cy]; omega) _
  have HA0 := aa.mk hA0
  have HA1 := aa.mk hA1
  have HA2 := aa.mk hA2
  have HB0 := aa.mk hB0
  have HW0 := aa.mk hw0
  clear hA0 hA1 hA2 hB0 hw0
  go_enter Tryz.func128, Tryz.ntmps128
  go_wp2_with (first
    | (refine eu rfl 115 (.some 2) rfl _ rfl (k := .u64) (m := 25) fy (by kernel_rfl) ?_)
    | (refine eu rfl 115 rfl _ rfl _ rfl (k := .u64) (m := 25) fy (by kernel_rfl) ?_
       try simp only [cy, ← HW0.o]))
  obtain ⟨N, hN⟩ : ∃ N, N = w.heap.size := ⟨_, rfl⟩
  rw [← hN] at HA0 HA1 HA2 HB0 ⊢
  have HN := aa.mk hN
  clear hN HW0
  go_loopw [6] (fun c wr => ∃ y : Nat, c = .int .i64 (y : Int) ∧ aa (y ≤ 5) ∧ aa (Arr wr N 115 .u64 a) ∧ aa (Arr wr (N + 1) 115 .u64 fy) ∧ aa (Arr wr (N + 2) 115 .u64 (chA a (5 * y))) ∧ aa (Below N w wr)) (fun c _ => 5 - (intOf c).toNat)
  case atStart => exact ⟨0, rfl, ⟨by omega⟩, HA0, HA1, HA2, HB0⟩
  case round =>
    clear HA0 HA1 HA2 HB0
    obtain ⟨y, rfl, HI, HA0, HA1, HA2, HB0⟩ := hrel
    have hi := HI.o
    by_cases hlty : y < 5
    · have hlk : decide ((y : Int) < 5) = true := ya (by omega)
      have HY := aa.mk hlty
      clear hi
      go_wp2
      go_loopw [9] (fun c wr => ∃ x : Nat, c = .int .i64 (x : Int) ∧ aa (x ≤ 5) ∧ aa (Arr wr N 115 .u64 a) ∧ aa (Arr wr (N + 1) 115 .u64 fy) ∧ aa (Arr wr (N + 2) 115 .u64 (chA a (5 * y + x))) ∧ aa (Below N w wr)) (fun c _ => 5 - (intOf c).toNat)
      case atStart => exact ⟨0, rfl, ⟨by omega⟩, HA0, HA1, HA2, HB0⟩
      case round =>
        clear HA0 HA1 HA2 HB0
        obtain ⟨x, rfl, HI, HA0, HA1, HA2, HB0⟩ := hrel
        have hi := HI.o
        by_cases hlt : x < 5
        · have hlk2 : decide ((x : Int) < 5) = true := ya (by omega)
          obtain ⟨m, hm⟩ : ∃ m, m = 5 * y + x := ⟨_, rfl⟩
          obtain ⟨p, hp⟩ : ∃ p, p = (x + 1) % 5 := ⟨_, rfl⟩
          obtain ⟨q, hq⟩ : ∃ q, q = (x + 2) % 5 := ⟨_, rfl⟩
          obtain ⟨p2, hp2⟩ : ∃ p2, p2 = p + 5 * y := ⟨_, rfl⟩
          obtain ⟨q2, hq2⟩ : ∃ q2, q2 = q + 5 * y := ⟨_, rfl⟩
          have hcs : chA a (m + 1) = (chA a m).set m (Go.bits .xor .u64 (rd a (m : Int)) (Go.bits .and .u64 (mF (rd a (((m % 5 + 1) % 5 + 5 * (m / 5) : Nat) : Int))) (rd a (((m % 5 + 2) % 5 + 5 * (m / 5) : Nat) : Int)))) := rfl
          rw [show m % 5 = x by omega, show m / 5 = y by omega, ← hp, ← hq, ← hp2, ← hq2] at hcs
          rw [← hm] at HA2
          have e1 : IntKind.i64.wrap (5 * (y : Int)) = 5 * (y : Int) := IntWalk.i64_in _ (by omega)
          have e2 : IntKind.i64.wrap ((x : Int) + 5 * (y : Int)) = (m : Int) := (IntWalk.i64_in _ (by omega)).trans (by omega)
          have e3 : IntKind.i64.wrap ((x : Int) + 1) = (x : Int) + 1 := IntWalk.i64_in _ (by omega)
          have e4 : IntKind.i64.wrap ((x : Int) + 2) = (x : Int) + 2 := IntWalk.i64_in _ (by omega)
          have e5 : Int.tmod ((x : Int) + 1) 5 = (p : Int) := by rw [Int.tmod_eq_emod_of_nonneg (by omega)]; omega
          have e6 : Int.tmod ((x : Int) + 2) 5 = (q : Int) := by rw [Int.tmod_eq_emod_of_nonneg (by omega)]; omega
          have e7 : IntKind.i64.wrap ((p : Int) + 5 * (y : Int)) = (p2 : Int) := (IntWalk.i64_in _ (by omega)).trans (by omega)
          have e8 : IntKind.i64.wrap ((q : Int) + 5 * (y : Int)) = (q2 : Int) := (IntWalk.i64_in _ (by omega)).trans (by omega)
          have km : m < 25 := by omega
          have kp : p2 < 25 := by omega
          have kq : q2 < 25 := by omega
          have hm1 : ((m : Int) < 25) = True := Aa (by omega)
          have hp1 : ((p2 : Int) < 25) = True := Aa (by omega)
          have hq1 : ((q2 : Int) < 25) = True := Aa (by omega)
          have hc : ∀ (wx : World) (i : Nat), i < 25 → Arr wx N 115 .u64 a → wx.cell? ⟨N, i, none⟩ = some (.int .u64 (rd a (i : Int))) := fun wx i hi h => (h.cell i (by rw [HX.o]; exact hi)).trans (by rw [dv])
          have HCS := aa.mk hcs
          have HM := aa.mk hm
          clear hi hm hp hq hp2 hq2 hcs hlty
          go_wp2
          refine wp_region_still_tail 30 (by kernel_rfl) (by kernel_rfl) ?_
          simp only [List.take_succ_cons, List.take_zero, List.drop_succ_cons, List.drop_zero]
          change wpStill _ _ wr.drew (fun a' => wpList _ _ _ _ a' wr.drew) _ _
          have HA0 := aa.mk HA0.o.drew
          have HA1 := aa.mk HA1.o.drew
          have HA2 := aa.mk HA2.o.drew
          have HB0 := aa.mk (dq HB0.o)
          generalize wr.drew = w2 at HA0 HA1 HA2 HB0 ⊢
          have hx1 := hc w2 m km HA0.o
          have hx2 := hc w2 p2 kp HA0.o
          have hx3 := hc w2 q2 kq HA0.o
          have hx4 := HA2.o.cell m (by rw [g9]; exact km)
          have hf1 := HA2.o.frozen m
          clear hc km kp kq
          repeat still_step
          refine wpStill_nil ?_
          go_wp2
          go_roundw
          case rel =>
            have hm := HM.o
            refine ⟨x + 1, by go_num, ⟨by omega⟩, ⟨HA0.o.far (by show N ≠ N + 2; omega) _⟩, ⟨HA1.o.far (by show N + 1 ≠ N + 2; omega) _⟩, ⟨?_⟩, ⟨bZ HB0.o (by show N ≤ N + 2; omega) _⟩⟩
            rw [show 5 * y + (x + 1) = m + 1 by omega, HCS.o]
            exact HA2.o.set m _
          case measure => simp [intOf]; omega
        · have hlk2 : decide ((x : Int) < 5) = false := za (by omega)
          obtain rfl : x = 5 := by omega
          clear hlt hi
          go_wp2
          go_roundw
          case rel => exact ⟨y + 1, by go_num, ⟨by have := HY.o; omega⟩, HA0, HA1, HA2, HB0⟩
          case measure => have := HY.o; simp [intOf]; omega
    · have hlk : decide ((y : Int) < 5) = false := za (by omega)
      obtain rfl : y = 5 := by omega
      clear hlty hi
      go_wp2_with (first | (refine fl rfl 115 (.tmp 3) rfl (N + 2) rfl HA2.o 25 111 Tryz.underlying115 (by kernel_rfl) (g9 a 25) ?_) | (refine eJ rfl 115 (.tmp 2) (.tmp 44) rfl (N + 1) rfl rfl HA1.o 25 (by kernel_rfl) rfl (g9 a 25) ?_))
      exact bodyPost_ret (v := .agg (arrC .u64 (eA.v a))) (hU Tryz.results128 _ _ (N + 1) rfl (HA1.o.row _) 25 111 Tryz.underlying115 (by kernel_rfl) (g9 a 25)) rfl ⟨rfl, by rw [← HN.o]; exact below_setRow HB0.o (Nat.le_succ _) _⟩
end Go.Proofs.YtmiackbomcjboaaGreatDoor.P
