/- Walks by hand: all rounds, and the permutation of a text. -/
import Derived.Test.YtielligodgabiaaGreatDoorMW2
import Derived.Test.YtielligodgabiaaGreatDoorHB1
import Derived.Test.YtielligodgabiaaGreatDoorHB2
import Derived.Test.YtielligodgabiaaGreatDoorPx0
import Derived.Test.YtielligodgabiaaGreatDoorHB1
import Derived.Test.YtielligodgabiaaGreatDoorHB2
import Derived.Test.YtielligodgabiaaGreatDoorPx5
import Derived.StillTailTactics
import Derived.Deep.QuietTactic
import Derived.Deep.RegionWith
import Derived.BigQuiet
import Derived.IntWalk
import Derived.Laws.CopyOwn
namespace Go.Proofs.YtielligodgabiaaGreatDoor.P
open Go.RowKit YtielligodgabiaaGreatDoorW.PrintWords YtielligodgabiaaGreatDoorW.PrintLast YtielligodgabiaaGreatDoorW.PrintMore YtielligodgabiaaGreatDoor.Kit
set_option linter.unusedVariables false
set_option linter.unusedSimpArgs false

/-- The numbers of the rounds. -/
def rcV (t : Nat) : Int := (bu.f 400 (t : Int)).getD 0
theorem r9 (t : Nat) (ht : t < 24) : bu.f 400 (t : Int) = some (rcV t) := by
  have h : ((List.range 24).all fun t : Nat => (bu.f 400 (t : Int)).isSome) = true := by kernel_rfl
  have h2 := List.all_eq_true.mp h t (List.mem_range.mpr ht)
  unfold rcV
  cases hq : bu.f 400 (t : Int) with
  | none => rw [hq] at h2; exact absurd h2 (by decide)
  | some x => rfl
def eI (a : List Int) : List Int := dG.v (dU.v (dq.v a))
/-- The lanes behind t rounds. -/
def f7 (a : List Int) : Nat → List Int
  | 0 => a
  | t + 1 => (eI (f7 a t)).set 0 (Go.bits .xor .u64 (rd (eI (f7 a t)) ((0 : Nat) : Int)) (rcV t))
theorem i9 (a : List Int) : (eI a).length = 25 := fW _ _
theorem jC (a : List Int) (h : a.length = 25) : (dq.v a).length = 25 := (kj _ _ _).trans h
theorem lR (a : List Int) : (dU.v a).length = 25 := gL _ _
theorem fI (a : List Int) (t : Nat) (h : a.length = 25) : (f7 a t).length = 25 := by
  cases t with
  | zero => exact h
  | succ t => simp only [f7, List.length_set, i9]
def cq.v (a : List Int) : List Int := f7 a 24
set_option maxHeartbeats 2000000 in
set_option maxRecDepth 100000 in
theorem cq.calls (a : List Int) (w : World) (ha : a.length = 25) : Calls Tryz.prog 97 #[.agg (arrC .u64 a)] w fun e w' => e = .returned (.agg (arrC .u64 (cq.v a))) ∧ Below w.heap.size w w' := by
  have HX := aa.mk ha
  clear ha
  obtain ⟨w0, hw0⟩ : ∃ w0, w0 = (w.alloc (.cells (arrC .u64 a) 95)).alloc (.cells (arrC .u64 eA) 95) := ⟨_, rfl⟩
  have hA0 : Arr w0 w.heap.size 95 .u64 (f7 a 0) := by rw [hw0]; exact (Arr.new w _ _ _).alloc _
  have hA1 : Arr w0 (w.heap.size + 1) 95 .u64 eA := by rw [hw0]; exact Arr.new2 _ _ _ _ _
  have hB0 : Below w.heap.size w w0 := by rw [hw0]; exact dw _ _ _
  have HA0 := aa.mk hA0
  have HA1 := aa.mk hA1
  have HB0 := aa.mk hB0
  have HW0 := aa.mk hw0
  clear hA0 hA1 hB0 hw0
  go_enter Tryz.func97, Tryz.ntmps97
  go_wp2_with (first
    | (refine dy rfl 95 rfl _ rfl _ rfl (k := .u64) (m := 25) eA (by kernel_rfl) ?_
       try simp only [ce, ← HW0.out]))
  obtain ⟨N, hN⟩ : ∃ N, N = w.heap.size := ⟨_, rfl⟩
  rw [← hN] at HA0 HA1 HB0 ⊢
  have HN := aa.mk hN
  clear hN HW0
  go_loopw [4] (fun c wr => ∃ t : Nat, c = .int .i64 (t : Int) ∧ aa (t ≤ 24) ∧ aa (Arr wr N 95 .u64 (f7 a t)) ∧ aa (Arr wr (N + 1) 95 .u64 eA) ∧ aa (Below N w wr)) (fun c _ => 24 - (intOf c).toNat)
  case atStart => exact ⟨0, rfl, ⟨by omega⟩, HA0, HA1, HB0⟩
  case round =>
    clear HA0 HA1 HB0
    obtain ⟨t, rfl, HI, HA0, HA1, HB0⟩ := hrel
    have hi := HI.out
    by_cases hlt : t < 24
    · have hlk : decide ((t : Int) < 24) = true := ta (by omega)
      have HL := aa.mk (fI a t HX.out)
      have hps : f7 a (t + 1) = (eI (f7 a t)).set 0 (Go.bits .xor .u64 (rd (eI (f7 a t)) ((0 : Nat) : Int)) (rcV t)) := rfl
      have HRC := aa.mk (r9 t hlt)
      obtain ⟨b, hb0⟩ : ∃ b, b = f7 a t := ⟨_, rfl⟩
      obtain ⟨b1, hb1⟩ : ∃ b1, dq.v b = b1 := ⟨_, rfl⟩
      obtain ⟨b2, hb2⟩ : ∃ b2, dU.v b1 = b2 := ⟨_, rfl⟩
      obtain ⟨b3, hb3⟩ : ∃ b3, dG.v b2 = b3 := ⟨_, rfl⟩
      rw [← hb0] at HA0 HL hps
      have hor : eI b = b3 := by unfold eI; rw [hb1, hb2, hb3]
      rw [hor] at hps
      have HL1 := aa.mk (show b1.length = 25 by rw [← hb1]; exact jC b HL.out)
      have HL2 := aa.mk (show b2.length = 25 by rw [← hb2]; exact lR b1)
      have HL3 := aa.mk (show b3.length = 25 by rw [← hor]; exact i9 b)
      have HPS := aa.mk hps
      have HV1 := aa.mk hb1
      have HV2 := aa.mk hb2
      have HV3 := aa.mk hb3
      generalize rcV t = rc at HPS HRC
      clear hi hps hb0 hb1 hb2 hb3 hor
      go_wp2_with (first
        | (refine eq rfl 95 (.tmp 1) rfl N rfl HA0.out 25 91 Tryz.underlying95 (by kernel_rfl) HL.out ?_)
        | (go_at_call 103
           (with_reducible refine (dq.calls b _ HL.out).mono ?_)
           rw [HV1.out]
           rintro e w1 ⟨rfl, hb1⟩
           have hs1 := HA1.out.lt
           have HA0 := aa.mk (HA0.out.below hb1)
           have HA1 := aa.mk (HA1.out.below hb1)
           have HB0 := aa.mk (HB0.out.trans (hb1.mono (by omega)))
           clear hb1 hs1)
        | (go_at_call 104
           (with_reducible refine (dU.calls b1 _ HL1.out).mono ?_)
           rw [HV2.out]
           rintro e w2 ⟨rfl, hb2⟩
           have hs2 := HA1.out.lt
           have HA0 := aa.mk (HA0.out.below hb2)
           have HA1 := aa.mk (HA1.out.below hb2)
           have HB0 := aa.mk (HB0.out.trans (hb2.mono (by omega)))
           clear hb2 hs2)
        | (go_at_call 105
           (with_reducible refine (dG.calls b2 _ HL2.out).mono ?_)
           rw [HV3.out]
           rintro e w3 ⟨rfl, hb3⟩
           have hs3 := HA1.out.lt
           have HA0 := aa.mk (HA0.out.below hb3)
           have HA1 := aa.mk (HA1.out.below hb3)
           have HB0 := aa.mk (HB0.out.trans (hb3.mono (by omega)))
           clear hb3 hs3)
        | (refine dN rfl 95 (.tmp 1) (.tmp 10) rfl N rfl rfl HA0.out 25 (by kernel_rfl) HL.out HL3.out ?_
           have HA1 := aa.mk (HA1.out.row_far (show N + 1 ≠ N by omega) (arrC .u64 b3))
           have HB0 := aa.mk (below_setRow HB0.out (wa _) (arrC .u64 b3))
           have HA0 := aa.mk (HA0.out.row b3)
           generalize World.setRow _ N _ = w5 at HA0 HA1 HB0 ⊢))
      have hx1 : w5.cell? ⟨N, 0, none⟩ = some (.int .u64 (rd b3 ((0 : Nat) : Int))) := (HA0.out.cell 0 (by rw [HL3.out]; decide)).trans (by rw [cR])
      have hf1 := HA0.out.frozen 0
      go_region_with (go_at_call 106; (refine (bu.calls 400 (t : Int) rc _ HRC.out).mono ?_); rintro e w6 ⟨rfl, ⟨nd, rfl⟩⟩)
      all_goals
        clear hx1 hf1
        have HA1 := aa.mk ((HA1.out.drewN (1 + nd)).far (p := ⟨N, 0, none⟩) (by show N + 1 ≠ N; omega) (.int .u64 (Go.bits .xor .u64 (rd b3 0) rc)))
        have HB0 := aa.mk (bN (cw HB0.out (1 + nd)) (p := ⟨N, 0, none⟩) (by show N ≤ N; omega) (.int .u64 (Go.bits .xor .u64 (rd b3 0) rc)))
        have HA0 := aa.mk ((HA0.out.drewN (1 + nd)).set 0 (Go.bits .xor .u64 (rd b3 0) rc))
        generalize World.setCell _ _ _ = w7 at HA0 HA1 HB0 ⊢
        go_wp2
        go_roundw
        case rel => exact ⟨t + 1, by go_num, ⟨by omega⟩, ⟨by rw [HPS.out]; exact HA0.out⟩, HA1, HB0⟩
        case measure => simp [intOf]; omega
    · have hlk : decide ((t : Int) < 24) = false := ua (by omega)
      obtain rfl : t = 24 := by omega
      have HL := aa.mk (fI a 24 HX.out)
      clear hlt hi
      go_wp2_with (first | (refine eq rfl 95 (.tmp 1) rfl N rfl HA0.out 25 91 Tryz.underlying95 (by kernel_rfl) HL.out ?_) | (refine dN rfl 95 (.tmp 2) (.tmp 18) rfl (N + 1) rfl rfl HA1.out 25 (by kernel_rfl) rfl HL.out ?_))
      exact bodyPost_ret (v := .agg (arrC .u64 (cq.v a))) (fY Tryz.results97 _ _ (N + 1) rfl (HA1.out.row _) 25 91 Tryz.underlying95 (by kernel_rfl) HL.out) rfl ⟨rfl, by rw [← HN.out]; exact below_setRow HB0.out (Nat.le_succ _) _⟩
def dj.f (s : ByteArray) : Option ByteArray := if (s.size : Int) = 200 then some (eR.v (cq.v (cQ.v s))) else some s
theorem cq.v_len (a : List Int) (h : a.length = 25) : (cq.v a).length = 25 := fI a 24 h
set_option maxHeartbeats 1000000 in
set_option maxRecDepth 100000 in
theorem dj.calls (a0 : ByteArray) (r : ByteArray) (w : World) (h : dj.f a0 = some r) : Calls Tryz.prog 93 #[.string a0] w fun e w' => e = .returned (.string r) ∧ Below w.heap.size w w' := by
  unfold dj.f at h
  by_cases hs : (a0.size : Int) = 200
  · rw [za hs] at h
    have hlk : ((a0.size : Int) != 200) = false := bne_eq_false_iff_eq.mpr hs
    obtain ⟨l1, hl1⟩ : ∃ l1, cQ.v a0 = l1 := ⟨_, rfl⟩
    have hlen1 : l1.length = 25 := by rw [← hl1]; exact d9 a0 200
    rw [hl1] at h
    obtain ⟨l2, hl2⟩ : ∃ l2, cq.v l1 = l2 := ⟨_, rfl⟩
    have hlen2 : l2.length = 25 := by rw [← hl2]; exact cq.v_len l1 hlen1
    rw [hl2] at h
    have HR := aa.mk (sI h)
    have HS := aa.mk (show a0.size = 200 by omega)
    have HL1 := aa.mk hlen1
    have HL2 := aa.mk hlen2
    have HV1 := aa.mk hl1
    have HV2 := aa.mk hl2
    clear hs h hl1 hl2 hlen1 hlen2
    go_enter Tryz.func93, Tryz.ntmps93
    go_wp2_with (first
      | (go_at_call 98
         (with_reducible refine (cQ.calls a0 _ HS.out).mono ?_)
         rw [HV1.out]
         rintro e w1 ⟨rfl, hb1⟩
         have HB1 := aa.mk hb1
         clear hb1)
      | (go_at_call 97
         (with_reducible refine (cq.calls l1 _ HL1.out).mono ?_)
         rw [HV2.out]
         rintro e w2 ⟨rfl, hb2⟩
         have HB2 := aa.mk (HB1.out.trans (hb2.mono HB1.out.size))
         clear hb2)
      | (go_at_call 99
         (with_reducible refine (eR.calls l2 _ HL2.out).mono ?_)
         rintro e w3 ⟨rfl, hb3⟩
         have HB3 := aa.mk (HB2.out.trans (hb3.mono HB2.out.size))
         clear hb3))
    go_ret
    exact ⟨by rw [← HR.out]; rfl, HB3.out⟩
  · rw [Aa hs] at h
    have hlk : ((a0.size : Int) != 200) = true := bne_iff_ne.mpr hs
    obtain rfl := sI h
    clear h
    go_enter Tryz.func93, Tryz.ntmps93
    go_wp2
    go_ret
    exact ⟨rfl, xa _ _⟩
end Go.Proofs.YtielligodgabiaaGreatDoor.P
