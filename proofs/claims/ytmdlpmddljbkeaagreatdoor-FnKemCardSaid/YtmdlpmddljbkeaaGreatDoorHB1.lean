/- Walks by hand: the lanes of a state's bytes, and back. -/
import Derived.Test.YtmdlpmddljbkeaaGreatDoorMW2
import Derived.Test.YtmdlpmddljbkeaaGreatDoorMW4
import Derived.Test.YtmdlpmddljbkeaaGreatDoorPx0
namespace Go.Proofs.YtmdlpmddljbkeaaGreatDoor.P
open Go.RowKit YtmdlpmddljbkeaaGreatDoorW.PrintWords YtmdlpmddljbkeaaGreatDoorW.PrintLast YtmdlpmddljbkeaaGreatDoorW.PrintMore YtmdlpmddljbkeaaGreatDoor.Kit
open Kd
set_option linter.unusedVariables false
set_option linter.unusedSimpArgs false

def fk : List Int := List.replicate 25 0
theorem dl (l : List Int) (i : Nat) : l.getD i 0 = rd l (i : Int) := by simp [rd]
theorem hG {P : Program} (w : World) (ty : TypeId) (s : ByteArray) (j : Nat) (hu : P.underlying ty = some .string) (h : j < s.size) : (Instr.index ty (.string s) (.int .i64 (j : Int))).run P w = .ok (.int .u8 (bt s (j : Int))) w := by
  have e : bt s (j : Int) = ((s[j]'h).toNat : Int) := by rw [← cQ s (j : Int) (by simpa using h)]; simp
  rw [e]
  simp [Instr.index, asIntOf, run_underlying hu, h]
/-- The first m bytes of a state, in its lanes. -/
def gc (s : ByteArray) : Nat → List Int
  | 0 => fk
  | m + 1 => (gc s m).set (m / 8) (Go.bits .or .u64 (rd (gc s m) ((m / 8 : Nat) : Int)) (IntKind.u64.wrap (IntKind.u64.wrap (bt s (m : Int)) * 2 ^ min (8 * (m % 8)) 64)))
theorem eR (s : ByteArray) (m : Nat) : (gc s m).length = 25 := by
  induction m with
  | zero => rfl
  | succ m ih => simp only [gc, List.length_set, ih]
def dc.v (s : ByteArray) : List Int := gc s 200
set_option maxHeartbeats 1000000 in
set_option maxRecDepth 100000 in
theorem dc.calls (s : ByteArray) (w : World) (hs : s.size = 200) : Calls Tryz.prog 113 #[.string s] w fun e w' => e = .returned (.agg (arrC .u64 (dc.v s))) ∧ Below w.heap.size w w' := by
  have HS := aa.mk hs
  clear hs
  obtain ⟨w0, hw0⟩ : ∃ w0, w0 = (w.alloc (.cells (arrC .u64 fk) 109)).alloc (.cells (arrC .u64 fk) 109) := ⟨_, rfl⟩
  have hA0 : Arr w0 w.heap.size 109 .u64 fk := by rw [hw0]; exact (Arr.new w _ _ _).alloc _
  have hA1 : Arr w0 (w.heap.size + 1) 109 .u64 (gc s 0) := by rw [hw0]; exact Arr.new2 _ _ _ _ _
  have hB0 : Below w.heap.size w w0 := by rw [hw0]; exact d4 _ _ _
  have HA0 := aa.mk hA0
  have HA1 := aa.mk hA1
  have HB0 := aa.mk hB0
  have HW0 := aa.mk hw0
  clear hA0 hA1 hB0 hw0
  go_enter Tryz.func113, Tryz.ntmps113
  go_wp2_with (first | (refine ef rfl 109 rfl _ rfl _ rfl (k := .u64) (m := 25) fk (by kernel_rfl) ?_))
  simp only [cy, ← HW0.o]
  obtain ⟨N, hN⟩ : ∃ N, N = w.heap.size := ⟨_, rfl⟩
  rw [← hN] at HA0 HA1 HB0 ⊢
  have HN := aa.mk hN
  clear hN HW0
  go_loopw [5] (fun c wr => ∃ m : Nat, c = .int .i64 (m : Int) ∧ aa (m ≤ 200) ∧ aa (Arr wr N 109 .u64 fk) ∧ aa (Arr wr (N + 1) 109 .u64 (gc s m)) ∧ aa (Below N w wr)) (fun c _ => 200 - (intOf c).toNat)
  case atStart => exact ⟨0, rfl, ⟨by omega⟩, HA0, HA1, HB0⟩
  case round =>
    clear HA0 HA1 HB0
    obtain ⟨m, rfl, HI, HA0, HA1, HB0⟩ := hrel
    have hi := HI.o
    by_cases hlt : m < 200
    · have hlk : decide ((m : Int) < 200) = true := ya (by omega)
      obtain ⟨i, hi2⟩ : ∃ i, i = m / 8 := ⟨_, rfl⟩
      obtain ⟨p, hp⟩ : ∃ p, p = 8 * (m % 8) := ⟨_, rfl⟩
      have e1 : IntKind.i64.wrap ((m : Int) / 8) = (i : Int) := (IntWalk.i64_in _ (by omega)).trans (by omega)
      have e2 : IntKind.i64.wrap (8 * Int.tmod (m : Int) 8) = (p : Int) := by
        rw [Int.tmod_eq_emod_of_nonneg (by omega)]
        exact (IntWalk.i64_in _ (by omega)).trans (by omega)
      have hb : ∀ w : World, (Instr.index 9 (.string s) (.int .i64 (m : Int))).run Tryz.prog w = .ok (.int .u8 (bt s (m : Int))) w := fun w => hG w 9 s m Tryz.underlying9 (by have := HS.o; omega)
      have hc : ∀ (wx : World), Arr wx (N + 1) 109 .u64 (gc s m) → wx.cell? ⟨N + 1, i, none⟩ = some (.int .u64 (rd (gc s m) (i : Int))) := fun wx h => (h.cell i (by rw [eR]; omega)).trans (by rw [dl])
      have hi1 : ((i : Int) < 25) = True := Aa (by omega)
      have HM := aa.mk (show i = m / 8 ∧ p = 8 * (m % 8) ∧ m < 200 from ⟨hi2, hp, hlt⟩)
      clear hi hi2 hp
      go_wp2
      refine wp_region_still_tail 14 (by kernel_rfl) (by kernel_rfl) ?_
      simp only [List.take_succ_cons, List.take_zero, List.drop_succ_cons, List.drop_zero]
      change wpStill _ _ wr.drew (fun a' => wpList _ _ _ _ a' wr.drew) _ _
      have HA0 := aa.mk HA0.o.drew
      have HA1 := aa.mk HA1.o.drew
      have HB0 := aa.mk (dt HB0.o)
      generalize wr.drew = w2 at HA0 HA1 HB0 ⊢
      have hx1 := hc w2 HA1.o
      have hf1 := HA1.o.frozen i
      clear hc
      repeat still_step
      refine wpStill_nil ?_
      go_wp2
      go_roundw
      case rel =>
        have hm := HM.o
        refine ⟨m + 1, by go_num, ⟨by omega⟩, ⟨HA0.o.far (by show N ≠ N + 1; omega) _⟩, ⟨?_⟩, ⟨ce HB0.o (by show N ≤ N + 1; omega) _⟩⟩
        simp only [gc]
        rw [← hm.1, ← hm.2.1]
        exact HA1.o.set i _
      case measure => have := HM.o; simp [intOf]; omega
    · have hlk : decide ((m : Int) < 200) = false := za (by omega)
      obtain rfl : m = 200 := by omega
      clear hlt hi
      go_wp2_with (first | (refine eY rfl 109 (.tmp 3) rfl _ rfl HA1.o 25 107 Tryz.underlying109 (by kernel_rfl) (eR s 200) ?_) | (refine ev rfl 109 (.tmp 2) (.tmp 23) rfl _ rfl rfl HA0.o 25 (by kernel_rfl) rfl (eR s 200) ?_))
      exact bodyPost_ret (v := .agg (arrC .u64 (dc.v s))) (gP Tryz.results113 _ _ N rfl (HA0.o.row (gc s 200)) 25 107 Tryz.underlying109 (by kernel_rfl) (eR s 200)) rfl ⟨rfl, by rw [← HN.o]; exact below_setRow HB0.o (Ca _) _⟩
/-- The bytes of lanes, the first m of them. -/
def fT (xs : List Int) : Nat → List Int
  | 0 => List.replicate 200 0
  | m + 1 => (fT xs m).set m (rd xs ((m / 8 : Nat) : Int) / 2 ^ (8 * (m % 8)) % 256)
theorem du (xs : List Int) (m : Nat) : (fT xs m).length = 200 := by
  induction m with
  | zero => simp only [fT, List.length_replicate]
  | succ m ih => simp only [fT, List.length_set, ih]
def fM.v (xs : List Int) : ByteArray := strOfNums (fT xs 200)
set_option maxHeartbeats 1000000 in
set_option maxRecDepth 100000 in
theorem fM.calls (xs : List Int) (w : World) (hx : xs.length = 25) : Calls Tryz.prog 114 #[.agg (arrC .u64 xs)] w fun e w' => e = .returned (.string (fM.v xs)) ∧ Below w.heap.size w w' := by
  have HX := aa.mk hx
  clear hx
  obtain ⟨w0, hw0⟩ : ∃ w0, w0 = w.alloc (.cells (arrC .u64 xs) 109) := ⟨_, rfl⟩
  have hA0 : Arr w0 w.heap.size 109 .u64 xs := by rw [hw0]; exact Arr.new w _ _ _
  have hB0 : Below w.heap.size w w0 := by rw [hw0]; exact (Da _ _).alloc (Ca _) _
  have hL0 : w.heap.size < w0.heap.size := by rw [hw0]; simp
  have HA0 := aa.mk hA0
  have HB0 := aa.mk hB0
  have HL0 := aa.mk hL0
  have HW0 := aa.mk hw0
  clear hA0 hB0 hL0 hw0
  go_enter Tryz.func114, Tryz.ntmps114
  go_wp2_with (first
    | ((with_reducible refine cO (N := 5) rfl ?_)
       simp only [← HW0.o]
       refine vu (Kd.int .u8) w.heap.size 5 rfl (N := 5) rfl 22 _ _ rfl 200 rfl rfl Tryz.underlying22 (.int .u8 0) 1 jq rfl (by decide) (by omega) 0 (ok := fun _ => True) (okp := fun _ => True) rfl (fun _ hk => hk) trivial (by omega) (by omega) HB0.o (Nat.le_of_lt HL0.o) ?_
       intro v1 w1 ho hb hg_ hnew_
       have ho2 : (Kd.int .u8).R 5 w1 w.heap.size (fun _ => True) v1 (fT xs 0) := ho
       have HOM := aa.mk (cF.of_R ho2 (by rw [du]; omega))
       have HGR := aa.mk hg_
       have HNB := aa.mk hnew_
       have HA0 := aa.mk (HA0.o.below (gS hg_))
       have HB0 := aa.mk hb
       clear ho ho2 hb hg_ hnew_
       obtain ⟨g, cap, hv, hrest⟩ := HOM.o
       rw [du] at hv
       subst hv
       clear hrest))
  have hgb : w.heap.size < g := by
    obtain ⟨b, hb1, hb2⟩ := HNB.o
    have h1 : g = b := by simpa [Value.ownBlock] using hb1
    have := HL0.o
    omega
  have HGB := aa.mk hgb
  clear hgb
  obtain ⟨N, hN⟩ : ∃ N, N = w.heap.size := ⟨_, rfl⟩
  rw [← hN] at HA0 HB0 HOM HGB ⊢
  have HN := aa.mk hN
  clear hN HW0 HL0 HGR HNB
  go_loopw [8] (fun c wr => ∃ m : Nat, c = .int .i64 (m : Int) ∧ aa (m ≤ 200) ∧ aa (Arr wr N 109 .u64 xs) ∧ aa (cF wr N (.slice (some ⟨g, 0, none⟩) 200 cap) (fT xs m)) ∧ aa (Below N w wr)) (fun c _ => 200 - (intOf c).toNat)
  case atStart => exact ⟨0, rfl, ⟨by omega⟩, HA0, HOM, HB0⟩
  case round =>
    clear HA0 HOM HB0
    obtain ⟨m, rfl, HI, HA0, HO, HB0⟩ := hrel
    have hi := HI.o
    by_cases hlt : m < 200
    · have hlk : decide ((m : Int) < 200) = true := ya (by omega)
      obtain ⟨i, hi2⟩ : ∃ i, i = m / 8 := ⟨_, rfl⟩
      obtain ⟨p, hp⟩ : ∃ p, p = 8 * (m % 8) := ⟨_, rfl⟩
      have e1 : IntKind.i64.wrap ((m : Int) / 8) = (i : Int) := (IntWalk.i64_in _ (by omega)).trans (by omega)
      have e2 : IntKind.i64.wrap (8 * Int.tmod (m : Int) 8) = (p : Int) := by
        rw [Int.tmod_eq_emod_of_nonneg (by omega)]
        exact (IntWalk.i64_in _ (by omega)).trans (by omega)
      have hx1 : wr.cell? ⟨N, i, none⟩ = some (.int .u64 (rd xs (i : Int))) := (HA0.o.cell i (by rw [HX.o]; omega)).trans (by rw [dl])
      have hx2 : wr.cell? ⟨g, m, none⟩ = some (.int .u8 ((fT xs m).getD m 0)) := HO.o.cells.2.2.2.2.1 m (by rw [du]; omega)
      have hf2 : wr.frozen? ⟨g, m, none⟩ = false := HO.o.froz m (by rw [du]; omega)
      have hi1 : ((i : Int) < 25) = True := Aa (by omega)
      have HM := aa.mk (show i = m / 8 ∧ p = 8 * (m % 8) from ⟨hi2, hp⟩)
      clear hi hi2 hp
      go_wp2
      go_roundw
      case rel =>
        have hm := HM.o
        have hgb := HGB.o
        refine ⟨m + 1, by go_num, ⟨by omega⟩, ⟨HA0.o.far (by show N ≠ g; omega) _⟩, ⟨?_⟩, ⟨ce HB0.o (by show N ≤ g; omega) _⟩⟩
        simp only [fT]
        rw [← hm.1, ← hm.2]
        exact HO.o.set m (by rw [du]; omega) _
      case measure => simp [intOf]; omega
    · have hlk : decide ((m : Int) < 200) = false := za (by omega)
      obtain rfl : m = 200 := by omega
      clear hlt hi
      have hcv := run_convert_bytes_arg (P := Tryz.prog) wr 22 5 Tryz.underlying22 Tryz.underlying5 g 0 200 cap (fT xs 200) (du xs 200) (fun i hi => by rw [Nat.zero_add]; exact (HO.o.cells.2.2.2.2.1 i (by rw [du]; omega)).trans (by rw [dl])) 9 Tryz.underlying9
      go_wp2
      go_ret
      exact ⟨rfl, by rw [← HN.o]; exact HB0.o⟩
end Go.Proofs.YtmdlpmddljbkeaaGreatDoor.P
