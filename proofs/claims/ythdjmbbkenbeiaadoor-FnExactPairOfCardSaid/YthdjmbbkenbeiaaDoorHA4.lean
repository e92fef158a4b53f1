/- Walks by hand: all blocks of a text, the digest. -/
import Derived.Test.YthdjmbbkenbeiaaDoorMW2
import Derived.Test.YthdjmbbkenbeiaaDoorHA1
import Derived.Test.YthdjmbbkenbeiaaDoorHA3
import Derived.Test.YthdjmbbkenbeiaaDoorPx0
import Derived.Test.YthdjmbbkenbeiaaDoorHA1
import Derived.Test.YthdjmbbkenbeiaaDoorHA2
import Derived.Test.YthdjmbbkenbeiaaDoorHA3
import Derived.Test.YthdjmbbkenbeiaaDoorPx3
import Derived.StillTailTactics
import Derived.Deep.QuietTactic
import Derived.BigQuiet
import Derived.IntWalk
import Derived.Laws.CopyOwn
namespace Go.Proofs.YthdjmbbkenbeiaaDoor.P
open Go.RowKit Go.Proofs.YthdjmbbkenbeiaaDoorW.PrintWords Go.Proofs.YthdjmbbkenbeiaaDoorW.PrintLast Go.Proofs.YthdjmbbkenbeiaaDoorW.PrintMore Go.Proofs.YthdjmbbkenbeiaaDoor.Kit
set_option linter.unusedVariables false
set_option linter.unusedSimpArgs false

theorem impl_oneBlock.v_len (st : List Int) (s : ByteArray) (h : st.length = 8) : (impl_oneBlock.v st s).length = 8 := by
  unfold impl_oneBlock.v
  rw [sums_len]
  have : ∀ t, (rounds (impl_wordsOf.v s) st t).length = 8 := by
    intro t
    induction t with
    | zero => exact h
    | succ t ih =>
      simp only [rounds]
      match rounds (impl_wordsOf.v s) st t, ih with
      | [_, _, _, _, _, _, _, _], _ => rfl
  exact this 64
/-- The state behind the first n blocks of a text. -/
def stAt (st : List Int) (s : ByteArray) : Nat → List Int
  | 0 => st
  | n + 1 => impl_oneBlock.v (stAt st s n) (s.extract (64 * n) (64 * n + 64))
theorem stAt_len (st : List Int) (s : ByteArray) (h : st.length = 8) (n : Nat) : (stAt st s n).length = 8 := by
  induction n with
  | zero => exact h
  | succ n ih => exact impl_oneBlock.v_len _ _ ih
theorem ext_ext (s : ByteArray) (a b : Nat) (h : a + b ≤ s.size) : (s.extract a s.size).extract 0 b = s.extract a (a + b) := by
  rw [ByteArray.extract_extract]
  congr 1; omega
theorem ext_tail (s : ByteArray) (a b : Nat) (h : a + b ≤ s.size) : (s.extract a s.size).extract b (s.extract a s.size).size = s.extract (a + b) s.size := by
  rw [ByteArray.extract_extract, ByteArray.size_extract]
  congr 1; omega
set_option maxHeartbeats 1000000 in
set_option maxRecDepth 100000 in
theorem impl_blocks.calls (st : List Int) (s : ByteArray) (w : World) (hL : Laid w) (hst : st.length = 8) (hsz : s.size ≤ 9223372036854775807) : Calls Tryd.prog 32 #[.agg (arrC .u32 st), .string s] w fun e w' => e = .returned (.tuple #[.agg (arrC .u32 (stAt st s (s.size / 64))), .string (s.extract (64 * (s.size / 64)) s.size)]) ∧ Below w.heap.size w w' := by
  have HSZ := Aside0.mk hsz
  have HST := Aside0.mk hst
  have HL := Aside0.mk hL
  clear hst hL hsz
  obtain ⟨w0, hw0⟩ : ∃ w0, w0 = (w.alloc (.cells (arrC .u32 st) 54)).alloc (.cells (arrC .u32 zs8) 54) := ⟨_, rfl⟩
  have hA0 : Arr w0 w.heap.size 54 .u32 st := by rw [hw0]; exact (Arr.new w _ _ _).alloc _
  have hA1 : Arr w0 (w.heap.size + 1) 54 .u32 zs8 := by rw [hw0]; exact Arr.new2 _ _ _ _ _
  have hB0 : Below w.heap.size w w0 := by rw [hw0]; exact below_alloc2 _ _ _
  have HA0 := Aside0.mk hA0
  have HA1 := Aside0.mk hA1
  have HB0 := Aside0.mk hB0
  have HLD := Aside0.mk (HL.out.below HL.out.pos hB0)
  have HW0 := Aside0.mk hw0
  clear hA0 hA1 hB0 hw0
  go_enter Tryd.func32, Tryd.ntmps32
  go_wp2_with (first | (refine alloc_arr rfl 54 rfl _ rfl _ rfl (k := .u32) (m := 8) zs8 (by kernel_rfl) ?_))
  simp only [size_alloc, ← HW0.out]
  clear HW0
  obtain ⟨N, hN⟩ : ∃ N, N = w.heap.size := ⟨_, rfl⟩
  rw [← hN] at HA0 HA1 HB0 ⊢
  have hP := HL.out.pos
  rw [← hN] at hP
  have HP := Aside0.mk hP
  have HN := Aside0.mk hN
  clear hN hP HL
  go_loopw [1] (fun c wr => ∃ n : Nat, c = .string (s.extract (64 * n) s.size) ∧ Aside0 (64 * n ≤ s.size) ∧ Aside0 (Arr wr N 54 .u32 (stAt st s n)) ∧ Aside0 (Arr wr (N + 1) 54 .u32 zs8) ∧ Aside0 (Laid wr) ∧ Aside0 (Below N w wr)) (fun c _ => match c with | .string t => t.size | _ => 0)
  case atStart => exact ⟨0, by simp, ⟨by omega⟩, HA0, HA1, HLD, HB0⟩
  case round =>
    clear HA0 HA1 HB0 HLD
    obtain ⟨n, rfl, HI, HA0, HA1, HLD, HB0⟩ := hrel
    have hi := HI.out
    have hz := HSZ.out
    obtain ⟨m, hm⟩ : ∃ m, m = s.size - 64 * n := ⟨_, rfl⟩
    have hsm : (s.extract (64 * n) s.size).size = m := by rw [ByteArray.size_extract]; omega
    have HM := Aside0.mk hm
    by_cases hlt : 64 ≤ m
    · have hlk : decide ((64 : Int) ≤ (m : Int)) = true := decide_eq_true (by omega)
      clear hi hz hm
      go_wp2
      refine wp_region_still_tail 3 (by kernel_rfl) (by kernel_rfl) ?_
      simp only [List.take_succ_cons, List.take_zero, List.drop_succ_cons, List.drop_zero]
      change wpStill _ _ wr.drew (fun a' => wpList _ _ _ _ a' wr.drew) _ _
      have HA0 := Aside0.mk HA0.out.drew
      have HA1 := Aside0.mk HA1.out.drew
      have HLD := Aside0.mk (HLD.out.below HP.out (below_drew (Below.refl N wr)))
      have HB0 := Aside0.mk (below_drew HB0.out)
      generalize wr.drew = w2 at HA0 HA1 HLD HB0 ⊢
      have hle : (64 ≤ (m : Int)) = True := eq_true (by omega)
      refine still_load_arr rfl 54 (.tmp 2) rfl N rfl HA0.out 8 53 Tryd.underlying54 (by kernel_rfl) (stAt_len st s HST.out n) ?_
      repeat still_step
      refine wpStill_nil ?_
      have hs64 : ((s.extract (64 * n) s.size).extract 0 64).size = 64 := by rw [ByteArray.size_extract]; omega
      have HS64 := Aside0.mk hs64
      clear hs64
      go_wp2_with (first
        | (go_at_call 54
           (with_reducible refine (impl_oneBlock.calls _ _ _ HLD.out (stAt_len st s HST.out n) HS64.out).mono ?_)
           rintro e w1 ⟨rfl, hb1⟩
           have hs := HB0.out.size
           have hn1 := HN.out
           have hn2 : N ≤ w2.heap.size := by omega
           have HA0 := Aside0.mk (HA0.out.below hb1)
           have HA1 := Aside0.mk (HA1.out.below hb1)
           have HLD := Aside0.mk (HLD.out.below HLD.out.pos hb1)
           have HB0 := Aside0.mk (HB0.out.trans (hb1.mono hn2))
           clear hb1 hs hn1 hn2)
        | (refine store_arr rfl 54 (.tmp 2) (.tmp 12) rfl N rfl rfl HA0.out 8 (by kernel_rfl) (stAt_len st s HST.out n) (impl_oneBlock.v_len _ _ (stAt_len st s HST.out n)) ?_))
      go_roundw
      case rel =>
        have hm := HM.out
        refine ⟨n + 1, ?_, ⟨by omega⟩, ⟨?_⟩, ⟨HA1.out.row_far (show N + 1 ≠ N by omega) _⟩, ⟨HLD.out.below HP.out (below_setRow (Below.refl N w1) (Nat.le_refl _) _)⟩, ⟨below_setRow HB0.out (Nat.le_refl _) _⟩⟩
        · rw [← hsm, ext_tail s (64 * n) 64 (by omega), show 64 * (n + 1) = 64 * n + 64 by omega]
        · simp only [stAt]
          rw [← ext_ext s (64 * n) 64 (by omega)]
          exact HA0.out.row (impl_oneBlock.v (stAt st s n) ((s.extract (64 * n) s.size).extract 0 64))
      case measure =>
        have hm := HM.out
        show ((s.extract (64 * n) s.size).extract 64 m).size < (s.extract (64 * n) s.size).size
        rw [hsm, ByteArray.size_extract]
        omega
    · have hlk : decide ((64 : Int) ≤ (m : Int)) = false := decide_eq_false (by omega)
      clear hi hz hm
      go_wp2_with (first
        | (refine load_arr rfl 54 (.tmp 2) rfl N rfl HA0.out 8 53 Tryd.underlying54 (by kernel_rfl) (stAt_len st s HST.out n) ?_)
        | (refine store_arr rfl 54 (.tmp 4) (.tmp 15) rfl (N + 1) rfl rfl HA1.out 8 (by kernel_rfl) rfl (stAt_len st s HST.out n) ?_))
      have hm := HM.out
      have hn : s.size / 64 = n := by have := HI.out; omega
      rw [hn]
      exact bodyPost_ret (ret_arr_t Tryd.results32 _ _ (N + 1) rfl (HA1.out.row (stAt st s n)) 8 53 Tryd.underlying54 (by kernel_rfl) (stAt_len st s HST.out n)) rfl ⟨rfl, by rw [← HN.out]; exact below_setRow HB0.out (Nat.le_succ _) _⟩
/-- The digest of a text. -/
def impl_DigestOf.f (a0 : ByteArray) : Option ByteArray := (impl_ending.f (a0.size : Int)).bind fun e => if a0.size + e.size ≤ 9223372036854775807 then impl_stateText.f (stAt impl_firstState.v (a0 ++ e) ((a0 ++ e).size / 64)) else none
set_option maxHeartbeats 1000000 in
set_option maxRecDepth 100000 in
theorem impl_DigestOf.calls (a0 : ByteArray) (r : ByteArray) (w : World) (h : impl_DigestOf.f a0 = some r) (hLD : Laid w) : Calls Tryd.prog 14 #[.string a0] w fun e w' => e = .returned (.string r) ∧ Below w.heap.size w w' := by
  obtain ⟨u, h1, h2⟩ := Option.bind_eq_some_iff.mp h
  split at h2
  case isFalse => exact absurd h2 (by simp)
  case isTrue hle =>
    have HU := Aside0.mk h1
    obtain ⟨V, hV⟩ : ∃ V, V = stAt impl_firstState.v (a0 ++ u) ((a0 ++ u).size / 64) := ⟨_, rfl⟩
    rw [← hV] at h2
    have HV := Aside0.mk hV
    have HVL := Aside0.mk (show V.length = 8 by rw [hV]; exact stAt_len impl_firstState.v _ rfl _)
    have HR := Aside0.mk h2
    clear hV
    have HL := Aside0.mk hLD
    have HZ := Aside0.mk hle
    have hs1 : (9223372036854775807 < a0.size + u.size) = False := eq_false (Nat.not_lt.2 hle)
    clear h h1 h2 hLD hle
    go_enter Tryd.func14, Tryd.ntmps14
    go_wp2_with (first
      | (go_at_call 33; (with_reducible refine (impl_firstState.calls _).mono ?_); rintro e w1 ⟨rfl, hb1⟩)
      | (go_at_call 34; (with_reducible refine (impl_ending.calls _ _ _ HU.out).mono ?_); rintro e w2 ⟨rfl, hb2⟩)
      | (go_at_call 32
         have hb12 : Below w.heap.size w w2 := hb1.trans (hb2.mono hb1.size)
         have HL2 := Aside0.mk (HL.out.below HL.out.pos hb12)
         have hz2 : (a0 ++ u).size ≤ 9223372036854775807 := by rw [ByteArray.size_append]; exact HZ.out
         (with_reducible refine (impl_blocks.calls impl_firstState.v _ _ HL2.out rfl hz2).mono ?_)
         rw [← HV.out]
         rintro e w3 ⟨rfl, hb3⟩
         have HB3 := Aside0.mk (hb12.trans (hb3.mono hb12.size))
         clear hb12 hb3 hz2
         obtain ⟨M, hM⟩ : ∃ M, M = w3.heap.size := ⟨_, rfl⟩
         have hA2 := Arr.new w3 54 .u32 zs8
         rw [← hM] at hA2
         have HA2 := Aside0.mk hA2
         have HM := Aside0.mk hM
         clear hA2 hM)
      | (refine alloc_arr rfl 54 rfl _ rfl M HM.out.symm (k := .u32) (m := 8) zs8 (by kernel_rfl) ?_)
      | (refine store_arr rfl 54 (.tmp 3) (.tmp 13) rfl M rfl rfl HA2.out 8 (by kernel_rfl) rfl HVL.out ?_
         have HA3 := Aside0.mk (HA2.out.row V)
         have hbz : Below M w3 ((w3.alloc (.cells (arrC .u32 zs8) 54)).setRow M (arrC .u32 V)) := below_setRow (by rw [HM.out]; exact (Below.refl _ _).alloc (Nat.le_refl _) _) (Nat.le_refl _) _
         have HB4 := Aside0.mk (HB3.out.trans (hbz.mono (by rw [HM.out]; exact HB3.out.size)))
         generalize ((w3.alloc (.cells (arrC .u32 zs8) 54)).setRow M (arrC .u32 V)) = wz at HA3 HB4 ⊢
         clear hbz)
      | (refine load_arr rfl 54 (.tmp 3) rfl M rfl HA3.out 8 53 Tryd.underlying54 (by kernel_rfl) HVL.out ?_)
      | (go_at_call 35
         (with_reducible refine (impl_stateText.calls _ r _ HVL.out HR.out).mono ?_)
         rintro e w5 ⟨rfl, hb5⟩))
    go_ret
    exact ⟨rfl, HB4.out.trans (hb5.mono HB4.out.size)⟩
end Go.Proofs.YthdjmbbkenbeiaaDoor.P
