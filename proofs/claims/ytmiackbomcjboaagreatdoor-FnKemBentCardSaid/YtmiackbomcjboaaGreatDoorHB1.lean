/- Walks by hand: the lanes of a state's bytes, and back. -/
import Derived.Test.YtmiackbomcjboaaGreatDoorMW2
import Derived.Test.YtmiackbomcjboaaGreatDoorMW4
import Derived.Test.YtmiackbomcjboaaGreatDoorPx0
namespace Go.Proofs.YtmiackbomcjboaaGreatDoor.P
open Go.RowKit YtmiackbomcjboaaGreatDoorW.PrintWords YtmiackbomcjboaaGreatDoorW.PrintLast YtmiackbomcjboaaGreatDoorW.PrintMore YtmiackbomcjboaaGreatDoor.Kit
open Kd
set_option linter.unusedVariables false
set_option linter.unusedSimpArgs false

def fy : List Int := List.replicate 25 0
theorem dv (l : List Int) (i : Nat) : l.getD i 0 = rd l (i : Int) := by simp [rd]
theorem ik {P : Program} (w : World) (ty : TypeId) (s : ByteArray) (j : Nat) (hu : P.underlying ty = some .string) (h : j < s.size) : (Instr.index ty (.string s) (.int .i64 (j : Int))).run P w = .ok (.int .u8 (bt s (j : Int))) w := by
  have e : bt s (j : Int) = ((s[j]'h).toNat : Int) := by rw [← cY s (j : Int) (by simpa using h)]; simp
  rw [e]
  simp [Instr.index, asIntOf, run_underlying hu, h]
/-- The first m bytes of a state, in its lanes. -/
def gj (s : ByteArray) : Nat → List Int
  | 0 => fy
  | m + 1 => (gj s m).set (m / 8) (Go.bits .or .u64 (rd (gj s m) ((m / 8 : Nat) : Int)) (IntKind.u64.wrap (IntKind.u64.wrap (bt s (m : Int)) * 2 ^ min (8 * (m % 8)) 64)))
theorem fe (s : ByteArray) (m : Nat) : (gj s m).length = 25 := by
  induction m with
  | zero => rfl
  | succ m ih => simp only [gj, List.length_set, ih]
def dl.v (s : ByteArray) : List Int := gj s 200
set_option maxHeartbeats 1000000 in
set_option maxRecDepth 100000 in
theorem dl.calls (s : ByteArray) (w : World) (hs : s.size = 200) : Calls Tryz.prog 121 #[.string s] w fun e w' => e = .returned (.agg (arrC .u64 (dl.v s))) ∧ Below w.heap.size w w' := by
  have HS := aa.mk hs
  clear hs
  obtain ⟨w0, hw0⟩ : ∃ w0, w0 = (w.alloc (.cells (arrC .u64 fy) 115)).alloc (.cells (arrC .u64 fy) 115) := ⟨_, rfl⟩
  have hA0 : Arr w0 w.heap.size 115 .u64 fy := by rw [hw0]; exact (Arr.new w _ _ _).alloc _
  have hA1 : Arr w0 (w.heap.size + 1) 115 .u64 (gj s 0) := by rw [hw0]; exact Arr.new2 _ _ _ _ _
  have hB0 : Below w.heap.size w w0 := by rw [hw0]; exact el _ _ _
  have HA0 := aa.mk hA0
  have HA1 := aa.mk hA1
  have HB0 := aa.mk hB0
  have HW0 := aa.mk hw0
  clear hA0 hA1 hB0 hw0
  go_enter Tryz.func121, Tryz.ntmps121
  go_wp2_with (first | (refine eu rfl 115 rfl _ rfl _ rfl (k := .u64) (m := 25) fy (by kernel_rfl) ?_))
  simp only [cy, ← HW0.o]
  obtain ⟨N, hN⟩ : ∃ N, N = w.heap.size := ⟨_, rfl⟩
  rw [← hN] at HA0 HA1 HB0 ⊢
  have HN := aa.mk hN
  clear hN HW0
  go_loopw [5] (fun c wr => ∃ m : Nat, c = .int .i64 (m : Int) ∧ aa (m ≤ 200) ∧ aa (Arr wr N 115 .u64 fy) ∧ aa (Arr wr (N + 1) 115 .u64 (gj s m)) ∧ aa (Below N w wr)) (fun c _ => 200 - (intOf c).toNat)
  case atStart => exact ⟨0, rfl, ⟨by omega⟩, HA0, HA1, HB0⟩
  case round =>
    clear HA0 HA1 HB0
    obtain ⟨m, rfl, HI, HA0, HA1, HB0⟩ := hrel
    have hi := HI.o
    by_cases hlt : m < 200
    · have hlk : decide ((m : Int) < 200) = true := ya (by omega)
      obtain ⟨i, hi2⟩ : ∃ i, i = m / 8 := ⟨_, rfl⟩
      obtain ⟨p, hp⟩ : ∃ p, p = 8 * (m % 8) := ⟨_, rfl⟩
      have e1 : IntKind.i64.wrap ((m : Int) / 8) = (i : Int) := (IntWalk.i64_in _ (by omega)).trans (by omega)
      have e2 : IntKind.i64.wrap (8 * Int.tmod (m : Int) 8) = (p : Int) := by
        rw [Int.tmod_eq_emod_of_nonneg (by omega)]
        exact (IntWalk.i64_in _ (by omega)).trans (by omega)
      have hb : ∀ w : World, (Instr.index 9 (.string s) (.int .i64 (m : Int))).run Tryz.prog w = .ok (.int .u8 (bt s (m : Int))) w := fun w => ik w 9 s m Tryz.underlying9 (by have := HS.o; omega)
      have hc : ∀ (wx : World), Arr wx (N + 1) 115 .u64 (gj s m) → wx.cell? ⟨N + 1, i, none⟩ = some (.int .u64 (rd (gj s m) (i : Int))) := fun wx h => (h.cell i (by rw [fe]; omega)).trans (by rw [dv])
      have hi1 : ((i : Int) < 25) = True := Aa (by omega)
      have HM := aa.mk (show i = m / 8 ∧ p = 8 * (m % 8) ∧ m < 200 from ⟨hi2, hp, hlt⟩)
      clear hi hi2 hp
      go_wp2
      refine wp_region_still_tail 14 (by kernel_rfl) (by kernel_rfl) ?_
      simp only [List.take_succ_cons, List.take_zero, List.drop_succ_cons, List.drop_zero]
      change wpStill _ _ wr.drew (fun a' => wpList _ _ _ _ a' wr.drew) _ _
      have HA0 := aa.mk HA0.o.drew
      have HA1 := aa.mk HA1.o.drew
      have HB0 := aa.mk (dq HB0.o)
      generalize wr.drew = w2 at HA0 HA1 HB0 ⊢
      have hx1 := hc w2 HA1.o
      have hf1 := HA1.o.frozen i
      clear hc
      repeat still_step
      refine wpStill_nil ?_
      go_wp2
      go_roundw
      case rel =>
        have hm := HM.o
        refine ⟨m + 1, by go_num, ⟨by omega⟩, ⟨HA0.o.far (by show N ≠ N + 1; omega) _⟩, ⟨?_⟩, ⟨bZ HB0.o (by show N ≤ N + 1; omega) _⟩⟩
        simp only [gj]
        rw [← hm.1, ← hm.2.1]
        exact HA1.o.set i _
      case measure => have := HM.o; simp [intOf]; omega
    · have hlk : decide ((m : Int) < 200) = false := za (by omega)
      obtain rfl : m = 200 := by omega
      clear hlt hi
      go_wp2_with (first | (refine fl rfl 115 (.tmp 3) rfl _ rfl HA1.o 25 111 Tryz.underlying115 (by kernel_rfl) (fe s 200) ?_) | (refine eJ rfl 115 (.tmp 2) (.tmp 23) rfl _ rfl rfl HA0.o 25 (by kernel_rfl) rfl (fe s 200) ?_))
      exact bodyPost_ret (v := .agg (arrC .u64 (dl.v s))) (hU Tryz.results121 _ _ N rfl (HA0.o.row (gj s 200)) 25 111 Tryz.underlying115 (by kernel_rfl) (fe s 200)) rfl ⟨rfl, by rw [← HN.o]; exact below_setRow HB0.o (Ca _) _⟩
/-- The bytes of lanes, the first m of them. -/
def gg (xs : List Int) : Nat → List Int
  | 0 => List.replicate 200 0
  | m + 1 => (gg xs m).set m (rd xs ((m / 8 : Nat) : Int) / 2 ^ (8 * (m % 8)) % 256)
theorem dD (xs : List Int) (m : Nat) : (gg xs m).length = 200 := by
  induction m with
  | zero => simp only [gg, List.length_replicate]
  | succ m ih => simp only [gg, List.length_set, ih]
def fU.v (xs : List Int) : ByteArray := strOfNums (gg xs 200)
set_option maxHeartbeats 1000000 in
set_option maxRecDepth 100000 in
theorem fU.calls (xs : List Int) (w : World) (hx : xs.length = 25) : Calls Tryz.prog 122 #[.agg (arrC .u64 xs)] w fun e w' => e = .returned (.string (fU.v xs)) ∧ Below w.heap.size w w' := by
  have HX := aa.mk hx
  clear hx
  obtain ⟨w0, hw0⟩ : ∃ w0, w0 = w.alloc (.cells (arrC .u64 xs) 115) := ⟨_, rfl⟩
  have hA0 : Arr w0 w.heap.size 115 .u64 xs := by rw [hw0]; exact Arr.new w _ _ _
  have hB0 : Below w.heap.size w w0 := by rw [hw0]; exact (Da _ _).alloc (Ca _) _
  have hL0 : w.heap.size < w0.heap.size := by rw [hw0]; simp
  have HA0 := aa.mk hA0
  have HB0 := aa.mk hB0
  have HL0 := aa.mk hL0
  have HW0 := aa.mk hw0
  clear hA0 hB0 hL0 hw0
  go_enter Tryz.func122, Tryz.ntmps122
  go_wp2_with (first
    | ((with_reducible refine cQ (N := 5) rfl ?_)
       simp only [← HW0.o]
       refine vs (Kd.int .u8) w.heap.size 5 rfl (N := 5) rfl 22 _ _ rfl 200 rfl rfl Tryz.underlying22 (.int .u8 0) 1 jj rfl (by decide) (by omega) 0 (ok := fun _ => True) (okp := fun _ => True) rfl (fun _ hk => hk) trivial (by omega) (by omega) HB0.o (Nat.le_of_lt HL0.o) ?_
       intro v1 w1 ho hb hg_ hnew_
       have ho2 : (Kd.int .u8).R 5 w1 w.heap.size (fun _ => True) v1 (gg xs 0) := ho
       have HOM := aa.mk (cK.of_R ho2 (by rw [dD]; omega))
       have HGR := aa.mk hg_
       have HNB := aa.mk hnew_
       have HA0 := aa.mk (HA0.o.below (hH hg_))
       have HB0 := aa.mk hb
       clear ho ho2 hb hg_ hnew_
       obtain ⟨g, cap, hv, hrest⟩ := HOM.o
       rw [dD] at hv
       subst hv
       clear hrest))
  have hgb : w.heap.size < g := by
    obtain ⟨b, hb1, hb2⟩ := HNB.o
    have h1 : g = b := by simpa [Value.ownBlock] using hb1
    have := HL0.o
    omega
  have HGB := aa.mk hgb
  clear hgb
  obtain ⟨N, hN⟩ : ∃ N, N = w.heap.size := ⟨_, rfl⟩
  rw [← hN] at HA0 HB0 HOM HGB ⊢
  have HN := aa.mk hN
  clear hN HW0 HL0 HGR HNB
  go_loopw [8] (fun c wr => ∃ m : Nat, c = .int .i64 (m : Int) ∧ aa (m ≤ 200) ∧ aa (Arr wr N 115 .u64 xs) ∧ aa (cK wr N (.slice (some ⟨g, 0, none⟩) 200 cap) (gg xs m)) ∧ aa (Below N w wr)) (fun c _ => 200 - (intOf c).toNat)
  case atStart => exact ⟨0, rfl, ⟨by omega⟩, HA0, HOM, HB0⟩
  case round =>
    clear HA0 HOM HB0
    obtain ⟨m, rfl, HI, HA0, HO, HB0⟩ := hrel
    have hi := HI.o
    by_cases hlt : m < 200
    · have hlk : decide ((m : Int) < 200) = true := ya (by omega)
      obtain ⟨i, hi2⟩ : ∃ i, i = m / 8 := ⟨_, rfl⟩
      obtain ⟨p, hp⟩ : ∃ p, p = 8 * (m % 8) := ⟨_, rfl⟩
      have e1 : IntKind.i64.wrap ((m : Int) / 8) = (i : Int) := (IntWalk.i64_in _ (by omega)).trans (by omega)
      have e2 : IntKind.i64.wrap (8 * Int.tmod (m : Int) 8) = (p : Int) := by
        rw [Int.tmod_eq_emod_of_nonneg (by omega)]
        exact (IntWalk.i64_in _ (by omega)).trans (by omega)
      have hx1 : wr.cell? ⟨N, i, none⟩ = some (.int .u64 (rd xs (i : Int))) := (HA0.o.cell i (by rw [HX.o]; omega)).trans (by rw [dv])
      have hx2 : wr.cell? ⟨g, m, none⟩ = some (.int .u8 ((gg xs m).getD m 0)) := HO.o.cells.2.2.2.2.1 m (by rw [dD]; omega)
      have hf2 : wr.frozen? ⟨g, m, none⟩ = false := HO.o.froz m (by rw [dD]; omega)
      have hi1 : ((i : Int) < 25) = True := Aa (by omega)
      have HM := aa.mk (show i = m / 8 ∧ p = 8 * (m % 8) from ⟨hi2, hp⟩)
      clear hi hi2 hp
      go_wp2
      go_roundw
      case rel =>
        have hm := HM.o
        have hgb := HGB.o
        refine ⟨m + 1, by go_num, ⟨by omega⟩, ⟨HA0.o.far (by show N ≠ g; omega) _⟩, ⟨?_⟩, ⟨bZ HB0.o (by show N ≤ g; omega) _⟩⟩
        simp only [gg]
        rw [← hm.1, ← hm.2]
        exact HO.o.set m (by rw [dD]; omega) _
      case measure => simp [intOf]; omega
    · have hlk : decide ((m : Int) < 200) = false := za (by omega)
      obtain rfl : m = 200 := by omega
      clear hlt hi
      have hcv := run_convert_bytes_arg (P := Tryz.prog) wr 22 5 Tryz.underlying22 Tryz.underlying5 g 0 200 cap (gg xs 200) (dD xs 200) (fun i hi => by rw [Nat.zero_add]; exact (HO.o.cells.2.2.2.2.1 i (by rw [dD]; omega)).trans (by rw [dv])) 9 Tryz.underlying9
      go_wp2
      go_ret
      exact ⟨rfl, by rw [← HN.o]; exact HB0.o⟩
end Go.Proofs.YtmiackbomcjboaaGreatDoor.P
