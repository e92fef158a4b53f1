/- Walks by hand: all rounds, and the permutation of a text. -/
import Derived.Test.YthdjmbbkenbeiaaDoorMW2
import Derived.Test.YthdjmbbkenbeiaaDoorHB1
import Derived.Test.YthdjmbbkenbeiaaDoorHB2
import Derived.Test.YthdjmbbkenbeiaaDoorPx0
import Derived.Test.YthdjmbbkenbeiaaDoorHB1
import Derived.Test.YthdjmbbkenbeiaaDoorHB2
import Derived.Test.YthdjmbbkenbeiaaDoorPx4
import Derived.StillTailTactics
import Derived.Deep.QuietTactic
import Derived.Deep.RegionWith
import Derived.BigQuiet
import Derived.IntWalk
import Derived.Laws.CopyOwn
namespace Go.Proofs.YthdjmbbkenbeiaaDoor.P
open Go.RowKit Go.Proofs.YthdjmbbkenbeiaaDoorW.PrintWords Go.Proofs.YthdjmbbkenbeiaaDoorW.PrintLast Go.Proofs.YthdjmbbkenbeiaaDoorW.PrintMore Go.Proofs.YthdjmbbkenbeiaaDoor.Kit
set_option linter.unusedVariables false
set_option linter.unusedSimpArgs false

/-- The numbers of the rounds. -/
def rcV (t : Nat) : Int := (impl_roundLane.f 400 (t : Int)).getD 0
theorem rc_ev (t : Nat) (ht : t < 24) : impl_roundLane.f 400 (t : Int) = some (rcV t) := by
  have h : ((List.range 24).all fun t : Nat => (impl_roundLane.f 400 (t : Int)).isSome) = true := by kernel_rfl
  have h2 := List.all_eq_true.mp h t (List.mem_range.mpr ht)
  unfold rcV
  cases hq : impl_roundLane.f 400 (t : Int) with
  | none => rw [hq] at h2; exact absurd h2 (by decide)
  | some x => rfl
def oneRound (a : List Int) : List Int := impl_chi.v (impl_rhoPi.v (impl_theta.v a))
/-- The lanes behind t rounds. -/
def permA (a : List Int) : Nat → List Int
  | 0 => a
  | t + 1 => (oneRound (permA a t)).set 0 (Go.bits .xor .u64 (rd (oneRound (permA a t)) ((0 : Nat) : Int)) (rcV t))
theorem oneRound_len (a : List Int) : (oneRound a).length = 25 := chA_len _ _
theorem theta_len (a : List Int) (h : a.length = 25) : (impl_theta.v a).length = 25 := (thA_len _ _ _).trans h
theorem rhoPi_len (a : List Int) : (impl_rhoPi.v a).length = 25 := rpA_len _ _
theorem permA_len (a : List Int) (t : Nat) (h : a.length = 25) : (permA a t).length = 25 := by
  cases t with
  | zero => exact h
  | succ t => simp only [permA, List.length_set, oneRound_len]
def impl_permuted.v (a : List Int) : List Int := permA a 24
set_option maxHeartbeats 2000000 in
set_option maxRecDepth 100000 in
theorem impl_permuted.calls (a : List Int) (w : World) (ha : a.length = 25) : Calls Tryd.prog 80 #[.agg (arrC .u64 a)] w fun e w' => e = .returned (.agg (arrC .u64 (impl_permuted.v a))) ∧ Below w.heap.size w w' := by
  have HX := Aside0.mk ha
  clear ha
  obtain ⟨w0, hw0⟩ : ∃ w0, w0 = (w.alloc (.cells (arrC .u64 a) 90)).alloc (.cells (arrC .u64 zs25) 90) := ⟨_, rfl⟩
  have hA0 : Arr w0 w.heap.size 90 .u64 (permA a 0) := by rw [hw0]; exact (Arr.new w _ _ _).alloc _
  have hA1 : Arr w0 (w.heap.size + 1) 90 .u64 zs25 := by rw [hw0]; exact Arr.new2 _ _ _ _ _
  have hB0 : Below w.heap.size w w0 := by rw [hw0]; exact below_alloc2 _ _ _
  have HA0 := Aside0.mk hA0
  have HA1 := Aside0.mk hA1
  have HB0 := Aside0.mk hB0
  have HW0 := Aside0.mk hw0
  clear hA0 hA1 hB0 hw0
  go_enter Tryd.func80, Tryd.ntmps80
  go_wp2_with (first
    | (refine alloc_arr rfl 90 rfl _ rfl _ rfl (k := .u64) (m := 25) zs25 (by kernel_rfl) ?_
       try simp only [size_alloc, ← HW0.out]))
  obtain ⟨N, hN⟩ : ∃ N, N = w.heap.size := ⟨_, rfl⟩
  rw [← hN] at HA0 HA1 HB0 ⊢
  have HN := Aside0.mk hN
  clear hN HW0
  go_loopw [4] (fun c wr => ∃ t : Nat, c = .int .i64 (t : Int) ∧ Aside0 (t ≤ 24) ∧ Aside0 (Arr wr N 90 .u64 (permA a t)) ∧ Aside0 (Arr wr (N + 1) 90 .u64 zs25) ∧ Aside0 (Below N w wr)) (fun c _ => 24 - (intOf c).toNat)
  case atStart => exact ⟨0, rfl, ⟨by omega⟩, HA0, HA1, HB0⟩
  case round =>
    clear HA0 HA1 HB0
    obtain ⟨t, rfl, HI, HA0, HA1, HB0⟩ := hrel
    have hi := HI.out
    by_cases hlt : t < 24
    · have hlk : decide ((t : Int) < 24) = true := decide_eq_true (by omega)
      have HL := Aside0.mk (permA_len a t HX.out)
      have hps : permA a (t + 1) = (oneRound (permA a t)).set 0 (Go.bits .xor .u64 (rd (oneRound (permA a t)) ((0 : Nat) : Int)) (rcV t)) := rfl
      have HRC := Aside0.mk (rc_ev t hlt)
      obtain ⟨b, hb0⟩ : ∃ b, b = permA a t := ⟨_, rfl⟩
      obtain ⟨b1, hb1⟩ : ∃ b1, impl_theta.v b = b1 := ⟨_, rfl⟩
      obtain ⟨b2, hb2⟩ : ∃ b2, impl_rhoPi.v b1 = b2 := ⟨_, rfl⟩
      obtain ⟨b3, hb3⟩ : ∃ b3, impl_chi.v b2 = b3 := ⟨_, rfl⟩
      rw [← hb0] at HA0 HL hps
      have hor : oneRound b = b3 := by unfold oneRound; rw [hb1, hb2, hb3]
      rw [hor] at hps
      have HL1 := Aside0.mk (show b1.length = 25 by rw [← hb1]; exact theta_len b HL.out)
      have HL2 := Aside0.mk (show b2.length = 25 by rw [← hb2]; exact rhoPi_len b1)
      have HL3 := Aside0.mk (show b3.length = 25 by rw [← hor]; exact oneRound_len b)
      have HPS := Aside0.mk hps
      have HV1 := Aside0.mk hb1
      have HV2 := Aside0.mk hb2
      have HV3 := Aside0.mk hb3
      generalize rcV t = rc at HPS HRC
      clear hi hps hb0 hb1 hb2 hb3 hor
      go_wp2_with (first
        | (refine load_arr rfl 90 (.tmp 1) rfl N rfl HA0.out 25 86 Tryd.underlying90 (by kernel_rfl) HL.out ?_)
        | (go_at_call 86
           (with_reducible refine (impl_theta.calls b _ HL.out).mono ?_)
           rw [HV1.out]
           rintro e w1 ⟨rfl, hb1⟩
           have hs1 := HA1.out.lt
           have HA0 := Aside0.mk (HA0.out.below hb1)
           have HA1 := Aside0.mk (HA1.out.below hb1)
           have HB0 := Aside0.mk (HB0.out.trans (hb1.mono (by omega)))
           clear hb1 hs1)
        | (go_at_call 87
           (with_reducible refine (impl_rhoPi.calls b1 _ HL1.out).mono ?_)
           rw [HV2.out]
           rintro e w2 ⟨rfl, hb2⟩
           have hs2 := HA1.out.lt
           have HA0 := Aside0.mk (HA0.out.below hb2)
           have HA1 := Aside0.mk (HA1.out.below hb2)
           have HB0 := Aside0.mk (HB0.out.trans (hb2.mono (by omega)))
           clear hb2 hs2)
        | (go_at_call 88
           (with_reducible refine (impl_chi.calls b2 _ HL2.out).mono ?_)
           rw [HV3.out]
           rintro e w3 ⟨rfl, hb3⟩
           have hs3 := HA1.out.lt
           have HA0 := Aside0.mk (HA0.out.below hb3)
           have HA1 := Aside0.mk (HA1.out.below hb3)
           have HB0 := Aside0.mk (HB0.out.trans (hb3.mono (by omega)))
           clear hb3 hs3)
        | (refine store_arr rfl 90 (.tmp 1) (.tmp 10) rfl N rfl rfl HA0.out 25 (by kernel_rfl) HL.out HL3.out ?_
           have HA1 := Aside0.mk (HA1.out.row_far (show N + 1 ≠ N by omega) (arrC .u64 b3))
           have HB0 := Aside0.mk (below_setRow HB0.out (Nat.le_refl _) (arrC .u64 b3))
           have HA0 := Aside0.mk (HA0.out.row b3)
           generalize World.setRow _ N _ = w5 at HA0 HA1 HB0 ⊢))
      have hx1 : w5.cell? ⟨N, 0, none⟩ = some (.int .u64 (rd b3 ((0 : Nat) : Int))) := (HA0.out.cell 0 (by rw [HL3.out]; decide)).trans (by rw [rd_getD])
      have hf1 := HA0.out.frozen 0
      go_region_with (go_at_call 89; (refine (impl_roundLane.calls 400 (t : Int) rc _ HRC.out).mono ?_); rintro e w6 ⟨rfl, ⟨nd, rfl⟩⟩)
      all_goals
        clear hx1 hf1
        have HA1 := Aside0.mk ((HA1.out.drewN (1 + nd)).far (p := ⟨N, 0, none⟩) (by show N + 1 ≠ N; omega) (.int .u64 (Go.bits .xor .u64 (rd b3 0) rc)))
        have HB0 := Aside0.mk (below_setCell (pw_below_drewN HB0.out (1 + nd)) (p := ⟨N, 0, none⟩) (by show N ≤ N; omega) (.int .u64 (Go.bits .xor .u64 (rd b3 0) rc)))
        have HA0 := Aside0.mk ((HA0.out.drewN (1 + nd)).set 0 (Go.bits .xor .u64 (rd b3 0) rc))
        generalize World.setCell _ _ _ = w7 at HA0 HA1 HB0 ⊢
        go_wp2
        go_roundw
        case rel => exact ⟨t + 1, by go_num, ⟨by omega⟩, ⟨by rw [HPS.out]; exact HA0.out⟩, HA1, HB0⟩
        case measure => simp [intOf]; omega
    · have hlk : decide ((t : Int) < 24) = false := decide_eq_false (by omega)
      obtain rfl : t = 24 := by omega
      have HL := Aside0.mk (permA_len a 24 HX.out)
      clear hlt hi
      go_wp2_with (first | (refine load_arr rfl 90 (.tmp 1) rfl N rfl HA0.out 25 86 Tryd.underlying90 (by kernel_rfl) HL.out ?_) | (refine store_arr rfl 90 (.tmp 2) (.tmp 18) rfl (N + 1) rfl rfl HA1.out 25 (by kernel_rfl) rfl HL.out ?_))
      exact bodyPost_ret (v := .agg (arrC .u64 (impl_permuted.v a))) (ret_arr Tryd.results80 _ _ (N + 1) rfl (HA1.out.row _) 25 86 Tryd.underlying90 (by kernel_rfl) HL.out) rfl ⟨rfl, by rw [← HN.out]; exact below_setRow HB0.out (Nat.le_succ _) _⟩
def impl_Permute.f (s : ByteArray) : Option ByteArray := if (s.size : Int) = 200 then some (impl_text.v (impl_permuted.v (impl_lanesOf.v s))) else some s
theorem impl_permuted.v_len (a : List Int) (h : a.length = 25) : (impl_permuted.v a).length = 25 := permA_len a 24 h
set_option maxHeartbeats 1000000 in
set_option maxRecDepth 100000 in
theorem impl_Permute.calls (a0 : ByteArray) (r : ByteArray) (w : World) (h : impl_Permute.f a0 = some r) : Calls Tryd.prog 74 #[.string a0] w fun e w' => e = .returned (.string r) ∧ Below w.heap.size w w' := by
  unfold impl_Permute.f at h
  by_cases hs : (a0.size : Int) = 200
  · rw [if_pos hs] at h
    have hlk : ((a0.size : Int) != 200) = false := bne_eq_false_iff_eq.mpr hs
    obtain ⟨l1, hl1⟩ : ∃ l1, impl_lanesOf.v a0 = l1 := ⟨_, rfl⟩
    have hlen1 : l1.length = 25 := by rw [← hl1]; exact lanesA_len a0 200
    rw [hl1] at h
    obtain ⟨l2, hl2⟩ : ∃ l2, impl_permuted.v l1 = l2 := ⟨_, rfl⟩
    have hlen2 : l2.length = 25 := by rw [← hl2]; exact impl_permuted.v_len l1 hlen1
    rw [hl2] at h
    have HR := Aside0.mk (Option.some.inj h)
    have HS := Aside0.mk (show a0.size = 200 by omega)
    have HL1 := Aside0.mk hlen1
    have HL2 := Aside0.mk hlen2
    have HV1 := Aside0.mk hl1
    have HV2 := Aside0.mk hl2
    clear hs h hl1 hl2 hlen1 hlen2
    go_enter Tryd.func74, Tryd.ntmps74
    go_wp2_with (first
      | (go_at_call 81
         (with_reducible refine (impl_lanesOf.calls a0 _ HS.out).mono ?_)
         rw [HV1.out]
         rintro e w1 ⟨rfl, hb1⟩
         have HB1 := Aside0.mk hb1
         clear hb1)
      | (go_at_call 80
         (with_reducible refine (impl_permuted.calls l1 _ HL1.out).mono ?_)
         rw [HV2.out]
         rintro e w2 ⟨rfl, hb2⟩
         have HB2 := Aside0.mk (HB1.out.trans (hb2.mono HB1.out.size))
         clear hb2)
      | (go_at_call 82
         (with_reducible refine (impl_text.calls l2 _ HL2.out).mono ?_)
         rintro e w3 ⟨rfl, hb3⟩
         have HB3 := Aside0.mk (HB2.out.trans (hb3.mono HB2.out.size))
         clear hb3))
    go_ret
    exact ⟨by rw [← HR.out]; rfl, HB3.out⟩
  · rw [if_neg hs] at h
    have hlk : ((a0.size : Int) != 200) = true := bne_iff_ne.mpr hs
    obtain rfl := Option.some.inj h
    clear h
    go_enter Tryd.func74, Tryd.ntmps74
    go_wp2
    go_ret
    exact ⟨rfl, Below.refl _ _⟩
end Go.Proofs.YthdjmbbkenbeiaaDoor.P
