/- Walks by hand: all rounds, and the permutation of a text. -/
import Derived.Test.YtmiackbomcjboaaGreatDoorHB2
import Derived.Test.YtmiackbomcjboaaGreatDoorPx5
namespace Go.Proofs.YtmiackbomcjboaaGreatDoor.P
open Go.RowKit YtmiackbomcjboaaGreatDoorW.PrintWords YtmiackbomcjboaaGreatDoorW.PrintLast YtmiackbomcjboaaGreatDoorW.PrintMore YtmiackbomcjboaaGreatDoor.Kit
set_option linter.unusedVariables false
set_option linter.unusedSimpArgs false

/-- The numbers of the rounds. -/
def rcV (t : Nat) : Int := (bI.f 400 (t : Int)).getD 0
theorem ui (t : Nat) (ht : t < 24) : bI.f 400 (t : Int) = some (rcV t) := by
  have h : ((List.range 24).all fun t : Nat => (bI.f 400 (t : Int)).isSome) = true := by kernel_rfl
  have h2 := List.all_eq_true.mp h t (List.mem_range.mpr ht)
  unfold rcV
  cases hq : bI.f 400 (t : Int) with
  | none => rw [hq] at h2; exact absurd h2 (by decide)
  | some x => rfl
def fP (a : List Int) : List Int := eA.v (eN.v (d5.v a))
/-- The lanes behind t rounds. -/
def hD (a : List Int) : Nat → List Int
  | 0 => a
  | t + 1 => (fP (hD a t)).set 0 (Go.bits .xor .u64 (rd (fP (hD a t)) ((0 : Nat) : Int)) (rcV t))
theorem ke (a : List Int) : (fP a).length = 25 := g9 _ _
theorem kN (a : List Int) (h : a.length = 25) : (d5.v a).length = 25 := (lV _ _ _).trans h
theorem nb (a : List Int) : (eN.v a).length = 25 := iL _ _
theorem gM (a : List Int) (t : Nat) (h : a.length = 25) : (hD a t).length = 25 := by
  cases t with
  | zero => exact h
  | succ t => simp only [hD, List.length_set, ke]
def cP.v (a : List Int) : List Int := hD a 24
set_option maxHeartbeats 2000000 in
set_option maxRecDepth 100000 in
theorem cP.calls (a : List Int) (w : World) (ha : a.length = 25) : Calls Tryz.prog 120 #[.agg (arrC .u64 a)] w fun e w' => e = .returned (.agg (arrC .u64 (cP.v a))) ∧ Below w.heap.size w w' := by
  have HX := aa.mk ha
  clear ha
  obtain ⟨w0, hw0⟩ : ∃ w0, w0 = (w.alloc (.cells (arrC .u64 a) 115)).alloc (.cells (arrC .u64 fy) 115) := ⟨_, rfl⟩
  have hA0 : Arr w0 w.heap.size 115 .u64 (hD a 0) := by rw [hw0]; exact (Arr.new w _ _ _).alloc _
  have hA1 : Arr w0 (w.heap.size + 1) 115 .u64 fy := by rw [hw0]; exact Arr.new2 _ _ _ _ _
  have hB0 : Below w.heap.size w w0 := by rw [hw0]; exact el _ _ _
  have HA0 := aa.mk hA0
  have HA1 := aa.mk hA1
  have HB0 := aa.mk hB0
  have HW0 := aa.mk hw0
  clear hA0 hA1 hB0 hw0
  go_enter Tryz.func120, Tryz.ntmps120
  go_wp2_with (first
    | (refine eu rfl 115 rfl _ rfl _ rfl (k := .u64) (m := 25) fy (by kernel_rfl) ?_
       try simp only [cy, ← HW0.o]))
  obtain ⟨N, hN⟩ : ∃ N, N = w.heap.size := ⟨_, rfl⟩
  rw [← hN] at HA0 HA1 HB0 ⊢
  have HN := aa.mk hN
  clear hN HW0
  go_loopw [4] (fun c wr => ∃ t : Nat, c = .int .i64 (t : Int) ∧ aa (t ≤ 24) ∧ aa (Arr wr N 115 .u64 (hD a t)) ∧ aa (Arr wr (N + 1) 115 .u64 fy) ∧ aa (Below N w wr)) (fun c _ => 24 - (intOf c).toNat)
  case atStart => exact ⟨0, rfl, ⟨by omega⟩, HA0, HA1, HB0⟩
  case round =>
    clear HA0 HA1 HB0
    obtain ⟨t, rfl, HI, HA0, HA1, HB0⟩ := hrel
    have hi := HI.o
    by_cases hlt : t < 24
    · have hlk : decide ((t : Int) < 24) = true := ya (by omega)
      have HL := aa.mk (gM a t HX.o)
      have hps : hD a (t + 1) = (fP (hD a t)).set 0 (Go.bits .xor .u64 (rd (fP (hD a t)) ((0 : Nat) : Int)) (rcV t)) := rfl
      have HRC := aa.mk (ui t hlt)
      obtain ⟨b, hb0⟩ : ∃ b, b = hD a t := ⟨_, rfl⟩
      obtain ⟨b1, hb1⟩ : ∃ b1, d5.v b = b1 := ⟨_, rfl⟩
      obtain ⟨b2, hb2⟩ : ∃ b2, eN.v b1 = b2 := ⟨_, rfl⟩
      obtain ⟨b3, hb3⟩ : ∃ b3, eA.v b2 = b3 := ⟨_, rfl⟩
      rw [← hb0] at HA0 HL hps
      have hor : fP b = b3 := by unfold fP; rw [hb1, hb2, hb3]
      rw [hor] at hps
      have HL1 := aa.mk (show b1.length = 25 by rw [← hb1]; exact kN b HL.o)
      have HL2 := aa.mk (show b2.length = 25 by rw [← hb2]; exact nb b1)
      have HL3 := aa.mk (show b3.length = 25 by rw [← hor]; exact ke b)
      have HPS := aa.mk hps
      have HV1 := aa.mk hb1
      have HV2 := aa.mk hb2
      have HV3 := aa.mk hb3
      generalize rcV t = rc at HPS HRC
      clear hi hps hb0 hb1 hb2 hb3 hor
      go_wp2_with (first
        | (refine fl rfl 115 (.tmp 1) rfl N rfl HA0.o 25 111 Tryz.underlying115 (by kernel_rfl) HL.o ?_)
        | (go_at_call 126
           (with_reducible refine (d5.calls b _ HL.o).mono ?_)
           rw [HV1.o]
           rintro e w1 ⟨rfl, hb1⟩
           have hs1 := HA1.o.lt
           have HA0 := aa.mk (HA0.o.below hb1)
           have HA1 := aa.mk (HA1.o.below hb1)
           have HB0 := aa.mk (HB0.o.trans (hb1.mono (by omega)))
           clear hb1 hs1)
        | (go_at_call 127
           (with_reducible refine (eN.calls b1 _ HL1.o).mono ?_)
           rw [HV2.o]
           rintro e w2 ⟨rfl, hb2⟩
           have hs2 := HA1.o.lt
           have HA0 := aa.mk (HA0.o.below hb2)
           have HA1 := aa.mk (HA1.o.below hb2)
           have HB0 := aa.mk (HB0.o.trans (hb2.mono (by omega)))
           clear hb2 hs2)
        | (go_at_call 128
           (with_reducible refine (eA.calls b2 _ HL2.o).mono ?_)
           rw [HV3.o]
           rintro e w3 ⟨rfl, hb3⟩
           have hs3 := HA1.o.lt
           have HA0 := aa.mk (HA0.o.below hb3)
           have HA1 := aa.mk (HA1.o.below hb3)
           have HB0 := aa.mk (HB0.o.trans (hb3.mono (by omega)))
           clear hb3 hs3)
        | (refine eJ rfl 115 (.tmp 1) (.tmp 10) rfl N rfl rfl HA0.o 25 (by kernel_rfl) HL.o HL3.o ?_
           have HA1 := aa.mk (HA1.o.row_far (show N + 1 ≠ N by omega) (arrC .u64 b3))
           have HB0 := aa.mk (below_setRow HB0.o (Ca _) (arrC .u64 b3))
           have HA0 := aa.mk (HA0.o.row b3)
           generalize World.setRow _ N _ = w5 at HA0 HA1 HB0 ⊢))
      have hx1 : w5.cell? ⟨N, 0, none⟩ = some (.int .u64 (rd b3 ((0 : Nat) : Int))) := (HA0.o.cell 0 (by rw [HL3.o]; decide)).trans (by rw [dv])
      have hf1 := HA0.o.frozen 0
      go_region_with (go_at_call 129; (refine (bI.calls 400 (t : Int) rc _ HRC.o).mono ?_); rintro e w6 ⟨rfl, ⟨nd, rfl⟩⟩)
      all_goals
        clear hx1 hf1
        have HA1 := aa.mk ((HA1.o.drewN (1 + nd)).far (p := ⟨N, 0, none⟩) (by show N + 1 ≠ N; omega) (.int .u64 (Go.bits .xor .u64 (rd b3 0) rc)))
        have HB0 := aa.mk (bZ (bH HB0.o (1 + nd)) (p := ⟨N, 0, none⟩) (by show N ≤ N; omega) (.int .u64 (Go.bits .xor .u64 (rd b3 0) rc)))
        have HA0 := aa.mk ((HA0.o.drewN (1 + nd)).set 0 (Go.bits .xor .u64 (rd b3 0) rc))
        generalize World.setCell _ _ _ = w7 at HA0 HA1 HB0 ⊢
        go_wp2
        go_roundw
        case rel => exact ⟨t + 1, by go_num, ⟨by omega⟩, ⟨by rw [HPS.o]; exact HA0.o⟩, HA1, HB0⟩
        case measure => simp [intOf]; omega
    · have hlk : decide ((t : Int) < 24) = false := za (by omega)
      obtain rfl : t = 24 := by omega
      have HL := aa.mk (gM a 24 HX.o)
      clear hlt hi
      go_wp2_with (first | (refine fl rfl 115 (.tmp 1) rfl N rfl HA0.o 25 111 Tryz.underlying115 (by kernel_rfl) HL.o ?_) | (refine eJ rfl 115 (.tmp 2) (.tmp 18) rfl (N + 1) rfl rfl HA1.o 25 (by kernel_rfl) rfl HL.o ?_))
      exact bodyPost_ret (v := .agg (arrC .u64 (cP.v a))) (hU Tryz.results120 _ _ (N + 1) rfl (HA1.o.row _) 25 111 Tryz.underlying115 (by kernel_rfl) HL.o) rfl ⟨rfl, by rw [← HN.o]; exact below_setRow HB0.o (Nat.le_succ _) _⟩
def dQ.f (s : ByteArray) : Option ByteArray := if (s.size : Int) = 200 then some (fU.v (cP.v (dl.v s))) else some s
theorem cP.v_len (a : List Int) (h : a.length = 25) : (cP.v a).length = 25 := gM a 24 h
set_option maxHeartbeats 1000000 in
set_option maxRecDepth 100000 in
theorem dQ.calls (a0 : ByteArray) (r : ByteArray) (w : World) (h : dQ.f a0 = some r) : Calls Tryz.prog 114 #[.string a0] w fun e w' => e = .returned (.string r) ∧ Below w.heap.size w w' := by
  unfold dQ.f at h
  by_cases hs : (a0.size : Int) = 200
  · rw [Fa hs] at h
    have hlk : ((a0.size : Int) != 200) = false := bne_eq_false_iff_eq.mpr hs
    obtain ⟨l1, hl1⟩ : ∃ l1, dl.v a0 = l1 := ⟨_, rfl⟩
    have hlen1 : l1.length = 25 := by rw [← hl1]; exact fe a0 200
    rw [hl1] at h
    obtain ⟨l2, hl2⟩ : ∃ l2, cP.v l1 = l2 := ⟨_, rfl⟩
    have hlen2 : l2.length = 25 := by rw [← hl2]; exact cP.v_len l1 hlen1
    rw [hl2] at h
    have HR := aa.mk (Ba h)
    have HS := aa.mk (show a0.size = 200 by omega)
    have HL1 := aa.mk hlen1
    have HL2 := aa.mk hlen2
    have HV1 := aa.mk hl1
    have HV2 := aa.mk hl2
    clear hs h hl1 hl2 hlen1 hlen2
    go_enter Tryz.func114, Tryz.ntmps114
    go_wp2_with (first
      | (go_at_call 121
         (with_reducible refine (dl.calls a0 _ HS.o).mono ?_)
         rw [HV1.o]
         rintro e w1 ⟨rfl, hb1⟩
         have HB1 := aa.mk hb1
         clear hb1)
      | (go_at_call 120
         (with_reducible refine (cP.calls l1 _ HL1.o).mono ?_)
         rw [HV2.o]
         rintro e w2 ⟨rfl, hb2⟩
         have HB2 := aa.mk (HB1.o.trans (hb2.mono HB1.o.size))
         clear hb2)
      | (go_at_call 122
         (with_reducible refine (fU.calls l2 _ HL2.o).mono ?_)
         rintro e w3 ⟨rfl, hb3⟩
         have HB3 := aa.mk (HB2.o.trans (hb3.mono HB2.o.size))
         clear hb3))
    go_ret
    exact ⟨by rw [← HR.o]; rfl, HB3.o⟩
  · rw [Ga hs] at h
    have hlk : ((a0.size : Int) != 200) = true := bne_iff_ne.mpr hs
    obtain rfl := Ba h
    clear h
    go_enter Tryz.func114, Tryz.ntmps114
    go_wp2
    go_ret
    exact ⟨rfl, Da _ _⟩
end Go.Proofs.YtmiackbomcjboaaGreatDoor.P
