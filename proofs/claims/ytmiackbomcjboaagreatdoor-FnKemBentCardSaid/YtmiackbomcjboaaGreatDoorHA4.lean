/- Walks by hand: all blocks of a text, the digest. -/
import Derived.Test.YtmiackbomcjboaaGreatDoorHA3
namespace Go.Proofs.YtmiackbomcjboaaGreatDoor.P
open Go.RowKit YtmiackbomcjboaaGreatDoorW.PrintWords YtmiackbomcjboaaGreatDoorW.PrintLast YtmiackbomcjboaaGreatDoorW.PrintMore YtmiackbomcjboaaGreatDoor.Kit
set_option linter.unusedVariables false
set_option linter.unusedSimpArgs false

theorem cA.v_len (st : List Int) (s : ByteArray) (h : st.length = 8) : (cA.v st s).length = 8 := by
  unfold cA.v
  rw [oV]
  have : ∀ t, (rounds (b9.v s) st t).length = 8 := by
    intro t
    induction t with
    | zero => exact h
    | succ t ih =>
      simp only [rounds]
      match rounds (b9.v s) st t, ih with
      | [_, _, _, _, _, _, _, _], _ => rfl
  exact this 64
/-- The state behind the first n blocks of a text. -/
def gO (st : List Int) (s : ByteArray) : Nat → List Int
  | 0 => st
  | n + 1 => cA.v (gO st s n) (s.extract (64 * n) (64 * n + 64))
theorem gF (st : List Int) (s : ByteArray) (h : st.length = 8) (n : Nat) : (gO st s n).length = 8 := by
  induction n with
  | zero => exact h
  | succ n ih => exact cA.v_len _ _ ih
theorem sM (s : ByteArray) (a b : Nat) (h : a + b ≤ s.size) : (s.extract a s.size).extract 0 b = s.extract a (a + b) := by
  rw [ByteArray.extract_extract]
  congr 1; omega
theorem rx (s : ByteArray) (a b : Nat) (h : a + b ≤ s.size) : (s.extract a s.size).extract b (s.extract a s.size).size = s.extract (a + b) s.size := by
  rw [ByteArray.extract_extract, ByteArray.size_extract]
  congr 1; omega
set_option maxHeartbeats 1000000 in
set_option maxRecDepth 100000 in
theorem lv.calls (st : List Int) (s : ByteArray) (w : World) (hL : Laid w) (hst : st.length = 8) (hsz : s.size ≤ 9223372036854775807) : Calls Tryz.prog 54 #[.agg (arrC .u32 st), .string s] w fun e w' => e = .returned (.tuple #[.agg (arrC .u32 (gO st s (s.size / 64))), .string (s.extract (64 * (s.size / 64)) s.size)]) ∧ Below w.heap.size w w' := by
  have HSZ := aa.mk hsz
  have HST := aa.mk hst
  have HL := aa.mk hL
  clear hst hL hsz
  obtain ⟨w0, hw0⟩ : ∃ w0, w0 = (w.alloc (.cells (arrC .u32 st) 79)).alloc (.cells (arrC .u32 zs8) 79) := ⟨_, rfl⟩
  have hA0 : Arr w0 w.heap.size 79 .u32 st := by rw [hw0]; exact (Arr.new w _ _ _).alloc _
  have hA1 : Arr w0 (w.heap.size + 1) 79 .u32 zs8 := by rw [hw0]; exact Arr.new2 _ _ _ _ _
  have hB0 : Below w.heap.size w w0 := by rw [hw0]; exact el _ _ _
  have HA0 := aa.mk hA0
  have HA1 := aa.mk hA1
  have HB0 := aa.mk hB0
  have HLD := aa.mk (HL.o.below HL.o.pos hB0)
  have HW0 := aa.mk hw0
  clear hA0 hA1 hB0 hw0
  go_enter Tryz.func54, Tryz.ntmps54
  go_wp2_with (first | (refine eu rfl 79 rfl _ rfl _ rfl (k := .u32) (m := 8) zs8 (by kernel_rfl) ?_))
  simp only [cy, ← HW0.o]
  clear HW0
  obtain ⟨N, hN⟩ : ∃ N, N = w.heap.size := ⟨_, rfl⟩
  rw [← hN] at HA0 HA1 HB0 ⊢
  have hP := HL.o.pos
  rw [← hN] at hP
  have HP := aa.mk hP
  have HN := aa.mk hN
  clear hN hP HL
  go_loopw [1] (fun c wr => ∃ n : Nat, c = .string (s.extract (64 * n) s.size) ∧ aa (64 * n ≤ s.size) ∧ aa (Arr wr N 79 .u32 (gO st s n)) ∧ aa (Arr wr (N + 1) 79 .u32 zs8) ∧ aa (Laid wr) ∧ aa (Below N w wr)) (fun c _ => match c with | .string t => t.size | _ => 0)
  case atStart => exact ⟨0, by simp, ⟨by omega⟩, HA0, HA1, HLD, HB0⟩
  case round =>
    clear HA0 HA1 HB0 HLD
    obtain ⟨n, rfl, HI, HA0, HA1, HLD, HB0⟩ := hrel
    have hi := HI.o
    have hz := HSZ.o
    obtain ⟨m, hm⟩ : ∃ m, m = s.size - 64 * n := ⟨_, rfl⟩
    have hsm : (s.extract (64 * n) s.size).size = m := by rw [ByteArray.size_extract]; omega
    have HM := aa.mk hm
    by_cases hlt : 64 ≤ m
    · have hlk : decide ((64 : Int) ≤ (m : Int)) = true := ya (by omega)
      clear hi hz hm
      go_wp2
      refine wp_region_still_tail 3 (by kernel_rfl) (by kernel_rfl) ?_
      simp only [List.take_succ_cons, List.take_zero, List.drop_succ_cons, List.drop_zero]
      change wpStill _ _ wr.drew (fun a' => wpList _ _ _ _ a' wr.drew) _ _
      have HA0 := aa.mk HA0.o.drew
      have HA1 := aa.mk HA1.o.drew
      have HLD := aa.mk (HLD.o.below HP.o (dq (Da N wr)))
      have HB0 := aa.mk (dq HB0.o)
      generalize wr.drew = w2 at HA0 HA1 HLD HB0 ⊢
      have hle : (64 ≤ (m : Int)) = True := Aa (by omega)
      refine mg rfl 79 (.tmp 2) rfl N rfl HA0.o 8 78 Tryz.underlying79 (by kernel_rfl) (gF st s HST.o n) ?_
      repeat still_step
      refine wpStill_nil ?_
      have hs64 : ((s.extract (64 * n) s.size).extract 0 64).size = 64 := by rw [ByteArray.size_extract]; omega
      have HS64 := aa.mk hs64
      clear hs64
      go_wp2_with (first
        | (go_at_call 89
           (with_reducible refine (cA.calls _ _ _ HLD.o (gF st s HST.o n) HS64.o).mono ?_)
           rintro e w1 ⟨rfl, hb1⟩
           have hs := HB0.o.size
           have hn1 := HN.o
           have hn2 : N ≤ w2.heap.size := by omega
           have HA0 := aa.mk (HA0.o.below hb1)
           have HA1 := aa.mk (HA1.o.below hb1)
           have HLD := aa.mk (HLD.o.below HLD.o.pos hb1)
           have HB0 := aa.mk (HB0.o.trans (hb1.mono hn2))
           clear hb1 hs hn1 hn2)
        | (refine eJ rfl 79 (.tmp 2) (.tmp 12) rfl N rfl rfl HA0.o 8 (by kernel_rfl) (gF st s HST.o n) (cA.v_len _ _ (gF st s HST.o n)) ?_))
      go_roundw
      case rel =>
        have hm := HM.o
        refine ⟨n + 1, ?_, ⟨by omega⟩, ⟨?_⟩, ⟨HA1.o.row_far (show N + 1 ≠ N by omega) _⟩, ⟨HLD.o.below HP.o (below_setRow (Da N w1) (Ca _) _)⟩, ⟨below_setRow HB0.o (Ca _) _⟩⟩
        · rw [← hsm, rx s (64 * n) 64 (by omega), show 64 * (n + 1) = 64 * n + 64 by omega]
        · simp only [gO]
          rw [← sM s (64 * n) 64 (by omega)]
          exact HA0.o.row (cA.v (gO st s n) ((s.extract (64 * n) s.size).extract 0 64))
      case measure =>
        have hm := HM.o
        show ((s.extract (64 * n) s.size).extract 64 m).size < (s.extract (64 * n) s.size).size
        rw [hsm, ByteArray.size_extract]
        omega
    · have hlk : decide ((64 : Int) ≤ (m : Int)) = false := za (by omega)
      clear hi hz hm
      go_wp2_with (first
        | (refine fl rfl 79 (.tmp 2) rfl N rfl HA0.o 8 78 Tryz.underlying79 (by kernel_rfl) (gF st s HST.o n) ?_)
        | (refine eJ rfl 79 (.tmp 4) (.tmp 15) rfl (N + 1) rfl rfl HA1.o 8 (by kernel_rfl) rfl (gF st s HST.o n) ?_))
      have hm := HM.o
      have hn : s.size / 64 = n := by have := HI.o; omega
      rw [hn]
      exact bodyPost_ret (qZ Tryz.results54 _ _ (N + 1) rfl (HA1.o.row (gO st s n)) 8 78 Tryz.underlying79 (by kernel_rfl) (gF st s HST.o n)) rfl ⟨rfl, by rw [← HN.o]; exact below_setRow HB0.o (Nat.le_succ _) _⟩
/-- The digest of a text. -/
def cw.f (a0 : ByteArray) : Option ByteArray := (fb.f (a0.size : Int)).bind fun e => if a0.size + e.size ≤ 9223372036854775807 then bX.f (gO bT.v (a0 ++ e) ((a0 ++ e).size / 64)) else none
set_option maxHeartbeats 1000000 in
set_option maxRecDepth 100000 in
theorem cw.calls (a0 : ByteArray) (r : ByteArray) (w : World) (h : cw.f a0 = some r) (hLD : Laid w) : Calls Tryz.prog 24 #[.string a0] w fun e w' => e = .returned (.string r) ∧ Below w.heap.size w w' := by
  obtain ⟨u, h1, h2⟩ := Option.bind_eq_some_iff.mp h
  split at h2
  case isFalse => exact absurd h2 (by simp)
  case isTrue hle =>
    have HU := aa.mk h1
    obtain ⟨V, hV⟩ : ∃ V, V = gO bT.v (a0 ++ u) ((a0 ++ u).size / 64) := ⟨_, rfl⟩
    rw [← hV] at h2
    have HV := aa.mk hV
    have HVL := aa.mk (show V.length = 8 by rw [hV]; exact gF bT.v _ rfl _)
    have HR := aa.mk h2
    clear hV
    have HL := aa.mk hLD
    have HZ := aa.mk hle
    have hs1 : (9223372036854775807 < a0.size + u.size) = False := eq_false (Nat.not_lt.2 hle)
    clear h h1 h2 hLD hle
    go_enter Tryz.func24, Tryz.ntmps24
    go_wp2_with (first
      | (go_at_call 55; (with_reducible refine (bT.calls _).mono ?_); rintro e w1 ⟨rfl, hb1⟩)
      | (go_at_call 56; (with_reducible refine (fb.calls _ _ _ HU.o).mono ?_); rintro e w2 ⟨rfl, hb2⟩)
      | (go_at_call 54
         have hb12 : Below w.heap.size w w2 := hb1.trans (hb2.mono hb1.size)
         have HL2 := aa.mk (HL.o.below HL.o.pos hb12)
         have hz2 : (a0 ++ u).size ≤ 9223372036854775807 := by rw [ByteArray.size_append]; exact HZ.o
         (with_reducible refine (lv.calls bT.v _ _ HL2.o rfl hz2).mono ?_)
         rw [← HV.o]
         rintro e w3 ⟨rfl, hb3⟩
         have HB3 := aa.mk (hb12.trans (hb3.mono hb12.size))
         clear hb12 hb3 hz2
         obtain ⟨M, hM⟩ : ∃ M, M = w3.heap.size := ⟨_, rfl⟩
         have hA2 := Arr.new w3 79 .u32 zs8
         rw [← hM] at hA2
         have HA2 := aa.mk hA2
         have HM := aa.mk hM
         clear hA2 hM)
      | (refine eu rfl 79 rfl _ rfl M HM.o.symm (k := .u32) (m := 8) zs8 (by kernel_rfl) ?_)
      | (refine eJ rfl 79 (.tmp 3) (.tmp 13) rfl M rfl rfl HA2.o 8 (by kernel_rfl) rfl HVL.o ?_
         have HA3 := aa.mk (HA2.o.row V)
         have hbz : Below M w3 ((w3.alloc (.cells (arrC .u32 zs8) 79)).setRow M (arrC .u32 V)) := below_setRow (by rw [HM.o]; exact (Da _ _).alloc (Ca _) _) (Ca _) _
         have HB4 := aa.mk (HB3.o.trans (hbz.mono (by rw [HM.o]; exact HB3.o.size)))
         generalize ((w3.alloc (.cells (arrC .u32 zs8) 79)).setRow M (arrC .u32 V)) = wz at HA3 HB4 ⊢
         clear hbz)
      | (refine fl rfl 79 (.tmp 3) rfl M rfl HA3.o 8 78 Tryz.underlying79 (by kernel_rfl) HVL.o ?_)
      | (go_at_call 57
         (with_reducible refine (bX.calls _ r _ HVL.o HR.o).mono ?_)
         rintro e w5 ⟨rfl, hb5⟩))
    go_ret
    exact ⟨rfl, HB4.o.trans (hb5.mono HB4.o.size)⟩
end Go.Proofs.YtmiackbomcjboaaGreatDoor.P
