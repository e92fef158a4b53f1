/- Walks by hand: all blocks of a text, the digest. -/
import Derived.Test.YtielligodgabiaaGreatDoorMW2
import Derived.Test.YtielligodgabiaaGreatDoorHA1
import Derived.Test.YtielligodgabiaaGreatDoorHA3
import Derived.Test.YtielligodgabiaaGreatDoorPx0
import Derived.Test.YtielligodgabiaaGreatDoorHA1
import Derived.Test.YtielligodgabiaaGreatDoorHA2
import Derived.Test.YtielligodgabiaaGreatDoorHA3
import Derived.Test.YtielligodgabiaaGreatDoorPx4
import Derived.StillTailTactics
import Derived.Deep.QuietTactic
import Derived.BigQuiet
import Derived.IntWalk
import Derived.Laws.CopyOwn
namespace Go.Proofs.YtielligodgabiaaGreatDoor.P
open Go.RowKit YtielligodgabiaaGreatDoorW.PrintWords YtielligodgabiaaGreatDoorW.PrintLast YtielligodgabiaaGreatDoorW.PrintMore YtielligodgabiaaGreatDoor.Kit
set_option linter.unusedVariables false
set_option linter.unusedSimpArgs false

theorem cg.v_len (st : List Int) (s : ByteArray) (h : st.length = 8) : (cg.v st s).length = 8 := by
  unfold cg.v
  rw [nh]
  have : ∀ t, (rounds (bP.v s) st t).length = 8 := by
    intro t
    induction t with
    | zero => exact h
    | succ t ih =>
      simp only [rounds]
      match rounds (bP.v s) st t, ih with
      | [_, _, _, _, _, _, _, _], _ => rfl
  exact this 64
/-- The state behind the first n blocks of a text. -/
def fP (st : List Int) (s : ByteArray) : Nat → List Int
  | 0 => st
  | n + 1 => cg.v (fP st s n) (s.extract (64 * n) (64 * n + 64))
theorem fy (st : List Int) (s : ByteArray) (h : st.length = 8) (n : Nat) : (fP st s n).length = 8 := by
  induction n with
  | zero => exact h
  | succ n ih => exact cg.v_len _ _ ih
theorem qu (s : ByteArray) (a b : Nat) (h : a + b ≤ s.size) : (s.extract a s.size).extract 0 b = s.extract a (a + b) := by
  rw [ByteArray.extract_extract]
  congr 1; omega
theorem pC (s : ByteArray) (a b : Nat) (h : a + b ≤ s.size) : (s.extract a s.size).extract b (s.extract a s.size).size = s.extract (a + b) s.size := by
  rw [ByteArray.extract_extract, ByteArray.size_extract]
  congr 1; omega
set_option maxHeartbeats 1000000 in
set_option maxRecDepth 100000 in
theorem jJ.calls (st : List Int) (s : ByteArray) (w : World) (hL : Laid w) (hst : st.length = 8) (hsz : s.size ≤ 9223372036854775807) : Calls Tryz.prog 23 #[.agg (arrC .u32 st), .string s] w fun e w' => e = .returned (.tuple #[.agg (arrC .u32 (fP st s (s.size / 64))), .string (s.extract (64 * (s.size / 64)) s.size)]) ∧ Below w.heap.size w w' := by
  have HSZ := aa.mk hsz
  have HST := aa.mk hst
  have HL := aa.mk hL
  clear hst hL hsz
  obtain ⟨w0, hw0⟩ : ∃ w0, w0 = (w.alloc (.cells (arrC .u32 st) 46)).alloc (.cells (arrC .u32 zs8) 46) := ⟨_, rfl⟩
  have hA0 : Arr w0 w.heap.size 46 .u32 st := by rw [hw0]; exact (Arr.new w _ _ _).alloc _
  have hA1 : Arr w0 (w.heap.size + 1) 46 .u32 zs8 := by rw [hw0]; exact Arr.new2 _ _ _ _ _
  have hB0 : Below w.heap.size w w0 := by rw [hw0]; exact dw _ _ _
  have HA0 := aa.mk hA0
  have HA1 := aa.mk hA1
  have HB0 := aa.mk hB0
  have HLD := aa.mk (HL.out.below HL.out.pos hB0)
  have HW0 := aa.mk hw0
  clear hA0 hA1 hB0 hw0
  go_enter Tryz.func23, Tryz.ntmps23
  go_wp2_with (first | (refine dy rfl 46 rfl _ rfl _ rfl (k := .u32) (m := 8) zs8 (by kernel_rfl) ?_))
  simp only [ce, ← HW0.out]
  clear HW0
  obtain ⟨N, hN⟩ : ∃ N, N = w.heap.size := ⟨_, rfl⟩
  rw [← hN] at HA0 HA1 HB0 ⊢
  have hP := HL.out.pos
  rw [← hN] at hP
  have HP := aa.mk hP
  have HN := aa.mk hN
  clear hN hP HL
  go_loopw [1] (fun c wr => ∃ n : Nat, c = .string (s.extract (64 * n) s.size) ∧ aa (64 * n ≤ s.size) ∧ aa (Arr wr N 46 .u32 (fP st s n)) ∧ aa (Arr wr (N + 1) 46 .u32 zs8) ∧ aa (Laid wr) ∧ aa (Below N w wr)) (fun c _ => match c with | .string t => t.size | _ => 0)
  case atStart => exact ⟨0, by simp, ⟨by omega⟩, HA0, HA1, HLD, HB0⟩
  case round =>
    clear HA0 HA1 HB0 HLD
    obtain ⟨n, rfl, HI, HA0, HA1, HLD, HB0⟩ := hrel
    have hi := HI.out
    have hz := HSZ.out
    obtain ⟨m, hm⟩ : ∃ m, m = s.size - 64 * n := ⟨_, rfl⟩
    have hsm : (s.extract (64 * n) s.size).size = m := by rw [ByteArray.size_extract]; omega
    have HM := aa.mk hm
    by_cases hlt : 64 ≤ m
    · have hlk : decide ((64 : Int) ≤ (m : Int)) = true := ta (by omega)
      clear hi hz hm
      go_wp2
      refine wp_region_still_tail 3 (by kernel_rfl) (by kernel_rfl) ?_
      simp only [List.take_succ_cons, List.take_zero, List.drop_succ_cons, List.drop_zero]
      change wpStill _ _ wr.drew (fun a' => wpList _ _ _ _ a' wr.drew) _ _
      have HA0 := aa.mk HA0.out.drew
      have HA1 := aa.mk HA1.out.drew
      have HLD := aa.mk (HLD.out.below HP.out (cV (xa N wr)))
      have HB0 := aa.mk (cV HB0.out)
      generalize wr.drew = w2 at HA0 HA1 HLD HB0 ⊢
      have hle : (64 ≤ (m : Int)) = True := va (by omega)
      refine kC rfl 46 (.tmp 2) rfl N rfl HA0.out 8 45 Tryz.underlying46 (by kernel_rfl) (fy st s HST.out n) ?_
      repeat still_step
      refine wpStill_nil ?_
      have hs64 : ((s.extract (64 * n) s.size).extract 0 64).size = 64 := by rw [ByteArray.size_extract]; omega
      have HS64 := aa.mk hs64
      clear hs64
      go_wp2_with (first
        | (go_at_call 56
           (with_reducible refine (cg.calls _ _ _ HLD.out (fy st s HST.out n) HS64.out).mono ?_)
           rintro e w1 ⟨rfl, hb1⟩
           have hs := HB0.out.size
           have hn1 := HN.out
           have hn2 : N ≤ w2.heap.size := by omega
           have HA0 := aa.mk (HA0.out.below hb1)
           have HA1 := aa.mk (HA1.out.below hb1)
           have HLD := aa.mk (HLD.out.below HLD.out.pos hb1)
           have HB0 := aa.mk (HB0.out.trans (hb1.mono hn2))
           clear hb1 hs hn1 hn2)
        | (refine dN rfl 46 (.tmp 2) (.tmp 12) rfl N rfl rfl HA0.out 8 (by kernel_rfl) (fy st s HST.out n) (cg.v_len _ _ (fy st s HST.out n)) ?_))
      go_roundw
      case rel =>
        have hm := HM.out
        refine ⟨n + 1, ?_, ⟨by omega⟩, ⟨?_⟩, ⟨HA1.out.row_far (show N + 1 ≠ N by omega) _⟩, ⟨HLD.out.below HP.out (below_setRow (xa N w1) (wa _) _)⟩, ⟨below_setRow HB0.out (wa _) _⟩⟩
        · rw [← hsm, pC s (64 * n) 64 (by omega), show 64 * (n + 1) = 64 * n + 64 by omega]
        · simp only [fP]
          rw [← qu s (64 * n) 64 (by omega)]
          exact HA0.out.row (cg.v (fP st s n) ((s.extract (64 * n) s.size).extract 0 64))
      case measure =>
        have hm := HM.out
        show ((s.extract (64 * n) s.size).extract 64 m).size < (s.extract (64 * n) s.size).size
        rw [hsm, ByteArray.size_extract]
        omega
    · have hlk : decide ((64 : Int) ≤ (m : Int)) = false := ua (by omega)
      clear hi hz hm
      go_wp2_with (first
        | (refine eq rfl 46 (.tmp 2) rfl N rfl HA0.out 8 45 Tryz.underlying46 (by kernel_rfl) (fy st s HST.out n) ?_)
        | (refine dN rfl 46 (.tmp 4) (.tmp 15) rfl (N + 1) rfl rfl HA1.out 8 (by kernel_rfl) rfl (fy st s HST.out n) ?_))
      have hm := HM.out
      have hn : s.size / 64 = n := by have := HI.out; omega
      rw [hn]
      exact bodyPost_ret (pf Tryz.results23 _ _ (N + 1) rfl (HA1.out.row (fP st s n)) 8 45 Tryz.underlying46 (by kernel_rfl) (fy st s HST.out n)) rfl ⟨rfl, by rw [← HN.out]; exact below_setRow HB0.out (Nat.le_succ _) _⟩
/-- The digest of a text. -/
def cD.f (a0 : ByteArray) : Option ByteArray := (d7.f (a0.size : Int)).bind fun e => if a0.size + e.size ≤ 9223372036854775807 then bJ.f (fP bI.v (a0 ++ e) ((a0 ++ e).size / 64)) else none
set_option maxHeartbeats 1000000 in
set_option maxRecDepth 100000 in
theorem cD.calls (a0 : ByteArray) (r : ByteArray) (w : World) (h : cD.f a0 = some r) (hLD : Laid w) : Calls Tryz.prog 8 #[.string a0] w fun e w' => e = .returned (.string r) ∧ Below w.heap.size w w' := by
  obtain ⟨u, h1, h2⟩ := Option.bind_eq_some_iff.mp h
  split at h2
  case isFalse => exact absurd h2 (by simp)
  case isTrue hle =>
    have HU := aa.mk h1
    obtain ⟨V, hV⟩ : ∃ V, V = fP bI.v (a0 ++ u) ((a0 ++ u).size / 64) := ⟨_, rfl⟩
    rw [← hV] at h2
    have HV := aa.mk hV
    have HVL := aa.mk (show V.length = 8 by rw [hV]; exact fy bI.v _ rfl _)
    have HR := aa.mk h2
    clear hV
    have HL := aa.mk hLD
    have HZ := aa.mk hle
    have hs1 : (9223372036854775807 < a0.size + u.size) = False := eq_false (Nat.not_lt.2 hle)
    clear h h1 h2 hLD hle
    go_enter Tryz.func8, Tryz.ntmps8
    go_wp2_with (first
      | (go_at_call 24; (with_reducible refine (bI.calls _).mono ?_); rintro e w1 ⟨rfl, hb1⟩)
      | (go_at_call 25; (with_reducible refine (d7.calls _ _ _ HU.out).mono ?_); rintro e w2 ⟨rfl, hb2⟩)
      | (go_at_call 23
         have hb12 : Below w.heap.size w w2 := hb1.trans (hb2.mono hb1.size)
         have HL2 := aa.mk (HL.out.below HL.out.pos hb12)
         have hz2 : (a0 ++ u).size ≤ 9223372036854775807 := by rw [ByteArray.size_append]; exact HZ.out
         (with_reducible refine (jJ.calls bI.v _ _ HL2.out rfl hz2).mono ?_)
         rw [← HV.out]
         rintro e w3 ⟨rfl, hb3⟩
         have HB3 := aa.mk (hb12.trans (hb3.mono hb12.size))
         clear hb12 hb3 hz2
         obtain ⟨M, hM⟩ : ∃ M, M = w3.heap.size := ⟨_, rfl⟩
         have hA2 := Arr.new w3 46 .u32 zs8
         rw [← hM] at hA2
         have HA2 := aa.mk hA2
         have HM := aa.mk hM
         clear hA2 hM)
      | (refine dy rfl 46 rfl _ rfl M HM.out.symm (k := .u32) (m := 8) zs8 (by kernel_rfl) ?_)
      | (refine dN rfl 46 (.tmp 3) (.tmp 13) rfl M rfl rfl HA2.out 8 (by kernel_rfl) rfl HVL.out ?_
         have HA3 := aa.mk (HA2.out.row V)
         have hbz : Below M w3 ((w3.alloc (.cells (arrC .u32 zs8) 46)).setRow M (arrC .u32 V)) := below_setRow (by rw [HM.out]; exact (xa _ _).alloc (wa _) _) (wa _) _
         have HB4 := aa.mk (HB3.out.trans (hbz.mono (by rw [HM.out]; exact HB3.out.size)))
         generalize ((w3.alloc (.cells (arrC .u32 zs8) 46)).setRow M (arrC .u32 V)) = wz at HA3 HB4 ⊢
         clear hbz)
      | (refine eq rfl 46 (.tmp 3) rfl M rfl HA3.out 8 45 Tryz.underlying46 (by kernel_rfl) HVL.out ?_)
      | (go_at_call 26
         (with_reducible refine (bJ.calls _ r _ HVL.out HR.out).mono ?_)
         rintro e w5 ⟨rfl, hb5⟩))
    go_ret
    exact ⟨rfl, HB4.out.trans (hb5.mono HB4.out.size)⟩
end Go.Proofs.YtielligodgabiaaGreatDoor.P
