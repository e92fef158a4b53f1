/- Walks by hand: the lanes of a state's bytes, and back. -/
import Derived.Test.YthdjmbbkenbeiaaDoorMW2
import Derived.Test.YthdjmbbkenbeiaaDoorMW3
import Derived.Test.YthdjmbbkenbeiaaDoorMW4
import Derived.Test.YthdjmbbkenbeiaaDoorPx0
import Derived.StillTailTactics
import Derived.Deep.QuietTactic
import Derived.BigQuiet
import Derived.IntWalk
import Derived.Laws.CopyOwn
namespace Go.Proofs.YthdjmbbkenbeiaaDoor.P
open Go.RowKit Go.Proofs.YthdjmbbkenbeiaaDoorW.PrintWords Go.Proofs.YthdjmbbkenbeiaaDoorW.PrintLast Go.Proofs.YthdjmbbkenbeiaaDoorW.PrintMore Go.Proofs.YthdjmbbkenbeiaaDoor.Kit
set_option linter.unusedVariables false
set_option linter.unusedSimpArgs false

def zs25 : List Int := List.replicate 25 0
theorem rd_getD (l : List Int) (i : Nat) : l.getD i 0 = rd l (i : Int) := by simp [rd]
theorem run_index_str {P : Program} (w : World) (ty : TypeId) (s : ByteArray) (j : Nat) (hu : P.underlying ty = some .string) (h : j < s.size) : (Instr.index ty (.string s) (.int .i64 (j : Int))).run P w = .ok (.int .u8 (bt s (j : Int))) w := by
  have e : bt s (j : Int) = ((s[j]'h).toNat : Int) := by rw [← bt_at s (j : Int) (by simpa using h)]; simp
  rw [e]
  simp [Instr.index, asIntOf, run_underlying hu, h]
/-- The first m bytes of a state, in its lanes. -/
def lanesA (s : ByteArray) : Nat → List Int
  | 0 => zs25
  | m + 1 => (lanesA s m).set (m / 8) (Go.bits .or .u64 (rd (lanesA s m) ((m / 8 : Nat) : Int)) (IntKind.u64.wrap (IntKind.u64.wrap (bt s (m : Int)) * 2 ^ min (8 * (m % 8)) 64)))
theorem lanesA_len (s : ByteArray) (m : Nat) : (lanesA s m).length = 25 := by
  induction m with
  | zero => rfl
  | succ m ih => simp only [lanesA, List.length_set, ih]
def impl_lanesOf.v (s : ByteArray) : List Int := lanesA s 200
set_option maxHeartbeats 1000000 in
set_option maxRecDepth 100000 in
theorem impl_lanesOf.calls (s : ByteArray) (w : World) (hs : s.size = 200) : Calls Tryd.prog 81 #[.string s] w fun e w' => e = .returned (.agg (arrC .u64 (impl_lanesOf.v s))) ∧ Below w.heap.size w w' := by
  have HS := Aside0.mk hs
  clear hs
  obtain ⟨w0, hw0⟩ : ∃ w0, w0 = (w.alloc (.cells (arrC .u64 zs25) 90)).alloc (.cells (arrC .u64 zs25) 90) := ⟨_, rfl⟩
  have hA0 : Arr w0 w.heap.size 90 .u64 zs25 := by rw [hw0]; exact (Arr.new w _ _ _).alloc _
  have hA1 : Arr w0 (w.heap.size + 1) 90 .u64 (lanesA s 0) := by rw [hw0]; exact Arr.new2 _ _ _ _ _
  have hB0 : Below w.heap.size w w0 := by rw [hw0]; exact below_alloc2 _ _ _
  have HA0 := Aside0.mk hA0
  have HA1 := Aside0.mk hA1
  have HB0 := Aside0.mk hB0
  have HW0 := Aside0.mk hw0
  clear hA0 hA1 hB0 hw0
  go_enter Tryd.func81, Tryd.ntmps81
  go_wp2_with (first | (refine alloc_arr rfl 90 rfl _ rfl _ rfl (k := .u64) (m := 25) zs25 (by kernel_rfl) ?_))
  simp only [size_alloc, ← HW0.out]
  obtain ⟨N, hN⟩ : ∃ N, N = w.heap.size := ⟨_, rfl⟩
  rw [← hN] at HA0 HA1 HB0 ⊢
  have HN := Aside0.mk hN
  clear hN HW0
  go_loopw [5] (fun c wr => ∃ m : Nat, c = .int .i64 (m : Int) ∧ Aside0 (m ≤ 200) ∧ Aside0 (Arr wr N 90 .u64 zs25) ∧ Aside0 (Arr wr (N + 1) 90 .u64 (lanesA s m)) ∧ Aside0 (Below N w wr)) (fun c _ => 200 - (intOf c).toNat)
  case atStart => exact ⟨0, rfl, ⟨by omega⟩, HA0, HA1, HB0⟩
  case round =>
    clear HA0 HA1 HB0
    obtain ⟨m, rfl, HI, HA0, HA1, HB0⟩ := hrel
    have hi := HI.out
    by_cases hlt : m < 200
    · have hlk : decide ((m : Int) < 200) = true := decide_eq_true (by omega)
      obtain ⟨i, hi2⟩ : ∃ i, i = m / 8 := ⟨_, rfl⟩
      obtain ⟨p, hp⟩ : ∃ p, p = 8 * (m % 8) := ⟨_, rfl⟩
      have e1 : IntKind.i64.wrap ((m : Int) / 8) = (i : Int) := (IntWalk.i64_in _ (by omega)).trans (by omega)
      have e2 : IntKind.i64.wrap (8 * Int.tmod (m : Int) 8) = (p : Int) := by
        rw [Int.tmod_eq_emod_of_nonneg (by omega)]
        exact (IntWalk.i64_in _ (by omega)).trans (by omega)
      have hb : ∀ w : World, (Instr.index 9 (.string s) (.int .i64 (m : Int))).run Tryd.prog w = .ok (.int .u8 (bt s (m : Int))) w := fun w => run_index_str w 9 s m Tryd.underlying9 (by have := HS.out; omega)
      have hc : ∀ (wx : World), Arr wx (N + 1) 90 .u64 (lanesA s m) → wx.cell? ⟨N + 1, i, none⟩ = some (.int .u64 (rd (lanesA s m) (i : Int))) := fun wx h => (h.cell i (by rw [lanesA_len]; omega)).trans (by rw [rd_getD])
      have hi1 : ((i : Int) < 25) = True := eq_true (by omega)
      have HM := Aside0.mk (show i = m / 8 ∧ p = 8 * (m % 8) ∧ m < 200 from ⟨hi2, hp, hlt⟩)
      clear hi hi2 hp
      go_wp2
      refine wp_region_still_tail 14 (by kernel_rfl) (by kernel_rfl) ?_
      simp only [List.take_succ_cons, List.take_zero, List.drop_succ_cons, List.drop_zero]
      change wpStill _ _ wr.drew (fun a' => wpList _ _ _ _ a' wr.drew) _ _
      have HA0 := Aside0.mk HA0.out.drew
      have HA1 := Aside0.mk HA1.out.drew
      have HB0 := Aside0.mk (below_drew HB0.out)
      generalize wr.drew = w2 at HA0 HA1 HB0 ⊢
      have hx1 := hc w2 HA1.out
      have hf1 := HA1.out.frozen i
      clear hc
      repeat still_step
      refine wpStill_nil ?_
      go_wp2
      go_roundw
      case rel =>
        have hm := HM.out
        refine ⟨m + 1, by go_num, ⟨by omega⟩, ⟨HA0.out.far (by show N ≠ N + 1; omega) _⟩, ⟨?_⟩, ⟨below_setCell HB0.out (by show N ≤ N + 1; omega) _⟩⟩
        simp only [lanesA]
        rw [← hm.1, ← hm.2.1]
        exact HA1.out.set i _
      case measure => have := HM.out; simp [intOf]; omega
    · have hlk : decide ((m : Int) < 200) = false := decide_eq_false (by omega)
      obtain rfl : m = 200 := by omega
      clear hlt hi
      go_wp2_with (first | (refine load_arr rfl 90 (.tmp 3) rfl _ rfl HA1.out 25 86 Tryd.underlying90 (by kernel_rfl) (lanesA_len s 200) ?_) | (refine store_arr rfl 90 (.tmp 2) (.tmp 23) rfl _ rfl rfl HA0.out 25 (by kernel_rfl) rfl (lanesA_len s 200) ?_))
      exact bodyPost_ret (v := .agg (arrC .u64 (impl_lanesOf.v s))) (ret_arr Tryd.results81 _ _ N rfl (HA0.out.row (lanesA s 200)) 25 86 Tryd.underlying90 (by kernel_rfl) (lanesA_len s 200)) rfl ⟨rfl, by rw [← HN.out]; exact below_setRow HB0.out (Nat.le_refl _) _⟩
/-- The bytes of lanes, the first m of them. -/
def textA (xs : List Int) : Nat → List Int
  | 0 => List.replicate 200 0
  | m + 1 => (textA xs m).set m (rd xs ((m / 8 : Nat) : Int) / 2 ^ (8 * (m % 8)) % 256)
theorem textA_len (xs : List Int) (m : Nat) : (textA xs m).length = 200 := by
  induction m with
  | zero => simp only [textA, List.length_replicate]
  | succ m ih => simp only [textA, List.length_set, ih]
def impl_text.v (xs : List Int) : ByteArray := strOfNums (textA xs 200)
set_option maxHeartbeats 1000000 in
set_option maxRecDepth 100000 in
theorem impl_text.calls (xs : List Int) (w : World) (hx : xs.length = 25) : Calls Tryd.prog 82 #[.agg (arrC .u64 xs)] w fun e w' => e = .returned (.string (impl_text.v xs)) ∧ Below w.heap.size w w' := by
  have HX := Aside0.mk hx
  clear hx
  obtain ⟨w0, hw0⟩ : ∃ w0, w0 = w.alloc (.cells (arrC .u64 xs) 90) := ⟨_, rfl⟩
  have hA0 : Arr w0 w.heap.size 90 .u64 xs := by rw [hw0]; exact Arr.new w _ _ _
  have hB0 : Below w.heap.size w w0 := by rw [hw0]; exact (Below.refl _ _).alloc (Nat.le_refl _) _
  have hL0 : w.heap.size < w0.heap.size := by rw [hw0]; simp
  have HA0 := Aside0.mk hA0
  have HB0 := Aside0.mk hB0
  have HL0 := Aside0.mk hL0
  have HW0 := Aside0.mk hw0
  clear hA0 hB0 hL0 hw0
  go_enter Tryd.func82, Tryd.ntmps82
  go_wp2_with (first
    | ((with_reducible refine gate_dst (N := 5) rfl ?_)
       simp only [← HW0.out]
       refine Kd.R_make (Kd.int .u8) w.heap.size 5 rfl (N := 5) rfl 62 _ _ rfl 200 rfl rfl Tryd.underlying62 (.int .u8 0) 1 info5 rfl (by decide) (by omega) 0 (ok := fun _ => True) (okp := fun _ => True) rfl (fun _ hk => hk) trivial (by omega) (by omega) HB0.out (Nat.le_of_lt HL0.out) ?_
       intro v1 w1 ho hb hg_ hnew_
       have ho2 : (Kd.int .u8).R 5 w1 w.heap.size (fun _ => True) v1 (textA xs 0) := ho
       have HOM := Aside0.mk (OwnG.of_R ho2 (by rw [textA_len]; omega))
       have HGR := Aside0.mk hg_
       have HNB := Aside0.mk hnew_
       have HA0 := Aside0.mk (HA0.out.below (grown_below hg_))
       have HB0 := Aside0.mk hb
       clear ho ho2 hb hg_ hnew_
       obtain ⟨g, cap, hv, hrest⟩ := HOM.out
       rw [textA_len] at hv
       subst hv
       clear hrest))
  have hgb : w.heap.size < g := by
    obtain ⟨b, hb1, hb2⟩ := HNB.out
    have h1 : g = b := by simpa [Value.ownBlock] using hb1
    have := HL0.out
    omega
  have HGB := Aside0.mk hgb
  clear hgb
  obtain ⟨N, hN⟩ : ∃ N, N = w.heap.size := ⟨_, rfl⟩
  rw [← hN] at HA0 HB0 HOM HGB ⊢
  have HN := Aside0.mk hN
  clear hN HW0 HL0 HGR HNB
  go_loopw [8] (fun c wr => ∃ m : Nat, c = .int .i64 (m : Int) ∧ Aside0 (m ≤ 200) ∧ Aside0 (Arr wr N 90 .u64 xs) ∧ Aside0 (OwnG wr N (.slice (some ⟨g, 0, none⟩) 200 cap) (textA xs m)) ∧ Aside0 (Below N w wr)) (fun c _ => 200 - (intOf c).toNat)
  case atStart => exact ⟨0, rfl, ⟨by omega⟩, HA0, HOM, HB0⟩
  case round =>
    clear HA0 HOM HB0
    obtain ⟨m, rfl, HI, HA0, HO, HB0⟩ := hrel
    have hi := HI.out
    by_cases hlt : m < 200
    · have hlk : decide ((m : Int) < 200) = true := decide_eq_true (by omega)
      obtain ⟨i, hi2⟩ : ∃ i, i = m / 8 := ⟨_, rfl⟩
      obtain ⟨p, hp⟩ : ∃ p, p = 8 * (m % 8) := ⟨_, rfl⟩
      have e1 : IntKind.i64.wrap ((m : Int) / 8) = (i : Int) := (IntWalk.i64_in _ (by omega)).trans (by omega)
      have e2 : IntKind.i64.wrap (8 * Int.tmod (m : Int) 8) = (p : Int) := by
        rw [Int.tmod_eq_emod_of_nonneg (by omega)]
        exact (IntWalk.i64_in _ (by omega)).trans (by omega)
      have hx1 : wr.cell? ⟨N, i, none⟩ = some (.int .u64 (rd xs (i : Int))) := (HA0.out.cell i (by rw [HX.out]; omega)).trans (by rw [rd_getD])
      have hx2 : wr.cell? ⟨g, m, none⟩ = some (.int .u8 ((textA xs m).getD m 0)) := HO.out.cells.2.2.2.2.1 m (by rw [textA_len]; omega)
      have hf2 : wr.frozen? ⟨g, m, none⟩ = false := HO.out.froz m (by rw [textA_len]; omega)
      have hi1 : ((i : Int) < 25) = True := eq_true (by omega)
      have HM := Aside0.mk (show i = m / 8 ∧ p = 8 * (m % 8) from ⟨hi2, hp⟩)
      clear hi hi2 hp
      go_wp2
      go_roundw
      case rel =>
        have hm := HM.out
        have hgb := HGB.out
        refine ⟨m + 1, by go_num, ⟨by omega⟩, ⟨HA0.out.far (by show N ≠ g; omega) _⟩, ⟨?_⟩, ⟨below_setCell HB0.out (by show N ≤ g; omega) _⟩⟩
        simp only [textA]
        rw [← hm.1, ← hm.2]
        exact HO.out.set m (by rw [textA_len]; omega) _
      case measure => simp [intOf]; omega
    · have hlk : decide ((m : Int) < 200) = false := decide_eq_false (by omega)
      obtain rfl : m = 200 := by omega
      clear hlt hi
      have hcv := run_convert_bytes_arg (P := Tryd.prog) wr 62 5 Tryd.underlying62 Tryd.underlying5 g 0 200 cap (textA xs 200) (textA_len xs 200) (fun i hi => by rw [Nat.zero_add]; exact (HO.out.cells.2.2.2.2.1 i (by rw [textA_len]; omega)).trans (by rw [rd_getD])) 9 Tryd.underlying9
      go_wp2
      go_ret
      exact ⟨rfl, by rw [← HN.out]; exact HB0.out⟩
end Go.Proofs.YthdjmbbkenbeiaaDoor.P
