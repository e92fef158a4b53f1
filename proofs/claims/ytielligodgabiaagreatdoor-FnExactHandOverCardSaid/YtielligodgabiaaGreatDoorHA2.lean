/- Walks by hand: the words of a block. -/
import Derived.Test.YtielligodgabiaaGreatDoorMW2
import Derived.Test.YtielligodgabiaaGreatDoorHA1
import Derived.Test.YtielligodgabiaaGreatDoorPx0
import Derived.Test.YtielligodgabiaaGreatDoorPx4
import Derived.StillTailTactics
import Derived.Deep.QuietTactic
import Derived.BigQuiet
import Derived.IntWalk
import Derived.Laws.CopyOwn
namespace Go.Proofs.YtielligodgabiaaGreatDoor.P
open Go.RowKit YtielligodgabiaaGreatDoorW.PrintWords YtielligodgabiaaGreatDoorW.PrintLast YtielligodgabiaaGreatDoorW.PrintMore YtielligodgabiaaGreatDoor.Kit
set_option linter.unusedVariables false
set_option linter.unusedSimpArgs false

/-- x turned right by n. -/
def rot (x : Int) (n : Nat) : Int := Go.bits .or .u32 (shl .u32 x ((32 - n : Nat) : Int)) (shr .u32 x (n : Int))
theorem eK (x : Int) (n : Nat) (s : Int) (hs : Go.bits .and .u64 (IntKind.u64.wrap (wrap64 (-(n : Int)))) 31 = s) (h0 : 0 ≤ s) (h1 : s = ((32 - n : Nat) : Int)) (h2 : IntKind.u64.wrap (32 - s) = (n : Int)) : b8.f x (n : Int) = some (rot x n) := by
 unfold b8.f dd.f rot
 rw [hs, za h0, h2, za (by omega), h1]
 rfl
theorem ro (x : Int) : b8.f x 7 = some (rot x 7) := eK x 7 25 (by kernel_rfl) (by decide) rfl (by kernel_rfl)
theorem qo (x : Int) : b8.f x 18 = some (rot x 18) := eK x 18 14 (by kernel_rfl) (by decide) rfl (by kernel_rfl)
theorem qN (x : Int) : b8.f x 17 = some (rot x 17) := eK x 17 15 (by kernel_rfl) (by decide) rfl (by kernel_rfl)
theorem qO (x : Int) : b8.f x 19 = some (rot x 19) := eK x 19 13 (by kernel_rfl) (by decide) rfl (by kernel_rfl)
theorem rD (x : Int) : b8.f x 6 = some (rot x 6) := eK x 6 26 (by kernel_rfl) (by decide) rfl (by kernel_rfl)
theorem qw (x : Int) : b8.f x 11 = some (rot x 11) := eK x 11 21 (by kernel_rfl) (by decide) rfl (by kernel_rfl)
theorem qC (x : Int) : b8.f x 25 = some (rot x 25) := eK x 25 7 (by kernel_rfl) (by decide) rfl (by kernel_rfl)
theorem ru (x : Int) : b8.f x 2 = some (rot x 2) := eK x 2 30 (by kernel_rfl) (by decide) rfl (by kernel_rfl)
theorem qp (x : Int) : b8.f x 13 = some (rot x 13) := eK x 13 19 (by kernel_rfl) (by decide) rfl (by kernel_rfl)
theorem qq (x : Int) : b8.f x 22 = some (rot x 22) := eK x 22 10 (by kernel_rfl) (by decide) rfl (by kernel_rfl)

/-- The first m bytes of a block, in its words. -/
def jc : List Int := List.replicate 64 0
def eC (s : ByteArray) : Nat → List Int
 | 0 => jc
 | m + 1 => (eC s m).set (m / 4) (Go.bits .or .u32 ((rd (eC s m) ((m / 4 : Nat) : Int) * 256) % 4294967296) (bt s (m : Int) % 4294967296))
theorem kT (s : ByteArray) (m : Nat) : (eC s m).length = 64 := by
 induction m with
 | zero => rfl
 | succ m ih => simp only [eC, List.length_set, ih]
def hD (l : List Int) (t : Nat) : Int :=
 (Go.bits .xor .u32 (Go.bits .xor .u32 (rot (rd l ((t - 2 : Nat) : Int)) 17) (rot (rd l ((t - 2 : Nat) : Int)) 19)) (rd l ((t - 2 : Nat) : Int) / 1024) + rd l ((t - 7 : Nat) : Int) + Go.bits .xor .u32 (Go.bits .xor .u32 (rot (rd l ((t - 15 : Nat) : Int)) 7) (rot (rd l ((t - 15 : Nat) : Int)) 18)) (rd l ((t - 15 : Nat) : Int) / 8) + rd l ((t - 16 : Nat) : Int)) % 4294967296
def d3 (s : ByteArray) : Nat → List Int
 | 0 => eC s 64
 | j + 1 => (d3 s j).set (16 + j) (hD (d3 s j) (16 + j))
theorem dA (s : ByteArray) (m : Nat) : (d3 s m).length = 64 := by
 induction m with
 | zero => exact kT s 64
 | succ m ih => simp only [d3, List.length_set, ih]
def bP.v (s : ByteArray) : List Int := d3 s 48
theorem cR (l : List Int) (i : Nat) : l.getD i 0 = rd l (i : Int) := by simp [rd]
theorem ge {P : Program} (w : World) (ty : TypeId) (s : ByteArray) (j : Nat) (hu : P.underlying ty = some .string) (h : j < s.size) : (Instr.index ty (.string s) (.int .i64 (j : Int))).run P w = .ok (.int .u8 (bt s (j : Int))) w := by
 have e : bt s (j : Int) = ((s[j]'h).toNat : Int) := by rw [← cB s (j : Int) (by simpa using h)]; simp
 rw [e]
 simp [Instr.index, asIntOf, run_underlying hu, h]
set_option maxHeartbeats 1000000 in
set_option maxRecDepth 100000 in
theorem bP.calls (s : ByteArray) (w : World) (hs : s.size = 64) : Calls Tryz.prog 82 #[.string s] w fun e w' => e = .returned (.agg (arrC .u32 (bP.v s))) ∧ Below w.heap.size w w' := by
 have HS := aa.mk hs
 clear hs
 obtain ⟨w0, hw0⟩ : ∃ w0, w0 = (w.alloc (.cells (arrC .u32 jc) 84)).alloc (.cells (arrC .u32 jc) 84) := ⟨_, rfl⟩
 have hA0 : Arr w0 w.heap.size 84 .u32 jc := by rw [hw0]; exact (Arr.new w _ _ _).alloc _
 have hA1 : Arr w0 (w.heap.size + 1) 84 .u32 (eC s 0) := by rw [hw0]; exact Arr.new2 _ _ _ _ _
 have hB0 : Below w.heap.size w w0 := by rw [hw0]; exact dw _ _ _
 have HA0 := aa.mk hA0
 have HA1 := aa.mk hA1
 have HB0 := aa.mk hB0
 have HW0 := aa.mk hw0
 clear hA0 hA1 hB0 hw0
 go_enter Tryz.func82, Tryz.ntmps82
 go_wp2_with (first | (refine dy rfl 84 rfl _ rfl _ rfl (k := .u32) (m := 64) jc (by kernel_rfl) ?_))
 simp only [ce, ← HW0.out]
 obtain ⟨N, hN⟩ : ∃ N, N = w.heap.size := ⟨_, rfl⟩
 rw [← hN] at HA0 HA1 HB0 ⊢
 have HN := aa.mk hN
 clear hN HW0
 go_loopw [11] (fun c wr => ∃ i : Nat, c = .int .i64 (i : Int) ∧ aa (i ≤ 16) ∧ aa (Arr wr N 84 .u32 jc) ∧ aa (Arr wr (N + 1) 84 .u32 (eC s (4 * i))) ∧ aa (Below N w wr)) (fun c _ => 16 - (intOf c).toNat)
 case atStart => exact ⟨0, rfl, ⟨by omega⟩, HA0, HA1, HB0⟩
 case round =>
  clear HA0 HA1 HB0
  obtain ⟨i, rfl, HI, HA0, HA1, HB0⟩ := hrel
  obtain ⟨wo, rfl⟩ : ∃ wo : World, wo = wr := ⟨_, rfl⟩
  have hi := HI.out
  by_cases hlt : i < 16
  ·have hlt1 : decide ((i : Int) < 16) = true := ta (by omega)
   have HL := aa.mk hlt
   clear hi
   go_wp2
   go_loopw [14] (fun c wr => ∃ k : Nat, c = .int .i64 (k : Int) ∧ aa (k ≤ 4) ∧ aa (Arr wr N 84 .u32 jc) ∧ aa (Arr wr (N + 1) 84 .u32 (eC s (4 * i + k))) ∧ aa (Below N w wr)) (fun c _ => 4 - (intOf c).toNat)
   case atStart => exact ⟨0, rfl, ⟨by omega⟩, HA0, HA1, HB0⟩
   case round =>
    clear HA0 HA1 HB0
    obtain ⟨k, rfl, HK, HA0, HA1, HB0⟩ := hrel
    have hk := HK.out
    by_cases hlt : k < 4
    ·have hlk : decide ((k : Int) < 4) = true := ta (by omega)
     obtain ⟨m, hm⟩ : ∃ m, m = 4 * i + k := ⟨_, rfl⟩
     have hL := HL.out
     have hmi : m / 4 = i := by omega
     have hj1 : IntKind.i64.wrap (4 * (i : Int)) = 4 * (i : Int) := IntWalk.i64_in _ (by omega)
     have hj2 : IntKind.i64.wrap (4 * (i : Int) + (k : Int)) = (m : Int) := (IntWalk.i64_in _ (by omega)).trans (by omega)
     have hb : ∀ w : World, (Instr.index 9 (.string s) (.int .i64 (m : Int))).run Tryz.prog w = .ok (.int .u8 (bt s (m : Int))) w := fun w => ge w 9 s m Tryz.underlying9 (by have := HS.out; omega)
     rw [← hm] at HA1
     have hc : ∀ (wx : World), Arr wx (N + 1) 84 .u32 (eC s m) → wx.cell? ⟨N + 1, i, none⟩ = some (.int .u32 (rd (eC s m) (i : Int))) := fun wx h => (h.cell i (by rw [kT]; omega)).trans (by rw [cR])
     have hi1 : ((i : Int) < 64) = True := va (by omega)
     have HM := aa.mk hm
     have HMI := aa.mk hmi
     have HLK := aa.mk hlt
     clear hk hm hmi hL
     go_wp2
     refine wp_region_still_tail 14 (by kernel_rfl) (by kernel_rfl) ?_
     simp only [List.take_succ_cons, List.take_zero, List.drop_succ_cons, List.drop_zero]
     change wpStill _ _ wr.drew (fun a' => wpList _ _ _ _ a' wr.drew) _ _
     have HA0 := aa.mk HA0.out.drew
     have HA1 := aa.mk HA1.out.drew
     have HB0 := aa.mk (cV HB0.out)
     generalize wr.drew = w2 at HA0 HA1 HB0 ⊢
     have hx1 := hc w2 HA1.out
     have hf1 := HA1.out.frozen i
     clear hc
     repeat still_step
     refine wpStill_nil ?_
     go_wp2
     go_roundw
     case rel =>
      have hm := HM.out
      have hmi := HMI.out
      refine ⟨k + 1, by go_num, ⟨by have := HLK.out; omega⟩, ⟨HA0.out.far (by show N ≠ N + 1; omega) _⟩, ⟨?_⟩, ⟨bN HB0.out (by show N ≤ N + 1; omega) _⟩⟩
      rw [show 4 * i + (k + 1) = m + 1 by omega]
      simp only [eC]
      rw [hmi]
      exact HA1.out.set i _
     case measure => have := HLK.out; simp [intOf]; omega
    ·obtain rfl : k = 4 := by omega
     have hlk : decide (((4 : Nat) : Int) < 4) = false := by decide
     clear hlt hk
     go_wp2
     go_roundw
     case rel => exact ⟨i + 1, by go_num, ⟨by have := HL.out; omega⟩, HA0, HA1, HB0⟩
     case measure => have := HL.out; simp [intOf]; omega
  ·have hlk : decide ((i : Int) < 16) = false := ua (by omega)
   rw [show 4 * i = 64 by omega] at HA1
   clear hlt hi
   go_wp2
   go_loopw [6] (fun c wr => ∃ j : Nat, c = .int .i64 ((16 + j : Nat) : Int) ∧ aa (j ≤ 48) ∧ aa (Arr wr N 84 .u32 jc) ∧ aa (Arr wr (N + 1) 84 .u32 (d3 s j)) ∧ aa (Below N w wr)) (fun c _ => 64 - (intOf c).toNat)
   case atStart => exact ⟨0, rfl, ⟨by omega⟩, HA0, HA1, HB0⟩
   case round =>
    clear HA0 HA1 HB0
    obtain ⟨j, rfl, HJ, HA0, HA1, HB0⟩ := hrel
    have hj := HJ.out
    obtain ⟨t, ht⟩ : ∃ t, t = 16 + j := ⟨_, rfl⟩
    rw [← ht]
    by_cases hlt : t < 64
    ·have hlk : decide ((t : Int) < 64) = true := ta (by omega)
     obtain ⟨p, hp⟩ : ∃ p, p = t - 15 := ⟨_, rfl⟩
     obtain ⟨q, hq⟩ : ∃ q, q = t - 2 := ⟨_, rfl⟩
     obtain ⟨u, hu⟩ : ∃ u, u = t - 7 := ⟨_, rfl⟩
     obtain ⟨v, hv⟩ : ∃ v, v = t - 16 := ⟨_, rfl⟩
     have e15 : IntKind.i64.wrap ((t : Int) - 15) = (p : Int) := (IntWalk.i64_in _ (by omega)).trans (by omega)
     have e2 : IntKind.i64.wrap ((t : Int) - 2) = (q : Int) := (IntWalk.i64_in _ (by omega)).trans (by omega)
     have e7 : IntKind.i64.wrap ((t : Int) - 7) = (u : Int) := (IntWalk.i64_in _ (by omega)).trans (by omega)
     have e16 : IntKind.i64.wrap ((t : Int) - 16) = (v : Int) := (IntWalk.i64_in _ (by omega)).trans (by omega)
     have l15 : ((p : Int) < 64) = True := va (by omega)
     have l2 : ((q : Int) < 64) = True := va (by omega)
     have l7 : ((u : Int) < 64) = True := va (by omega)
     have l16 : ((v : Int) < 64) = True := va (by omega)
     have lt1 : ((t : Int) < 64) = True := va (by omega)
     have hc : ∀ (wx : World) (i : Nat), i < 64 → Arr wx (N + 1) 84 .u32 (d3 s j) → wx.cell? ⟨N + 1, i, none⟩ = some (.int .u32 (rd (d3 s j) (i : Int))) := fun wx i hi h => (h.cell i (by rw [dA]; exact hi)).trans (by rw [cR])
     have k15 : p < 64 := by omega
     have k2 : q < 64 := by omega
     have k7 : u < 64 := by omega
     have k16 : v < 64 := by omega
     have HX := aa.mk (show t = 16 + j ∧ p = t - 15 ∧ q = t - 2 ∧ u = t - 7 ∧ v = t - 16 from ⟨ht, hp, hq, hu, hv⟩)
     have hx1 := hc wr p k15 HA1.out
     have hx2 := hc wr q k2 HA1.out
     clear ht hp hq hu hv hj
     go_wp2
     go_quiet (fail)
     go_wp2_with (first | (go_at_call 83; (with_reducible refine (b8.calls _ 7 _ _ (ro _)).mono ?_); rintro e w1 ⟨rfl, ⟨nd7, rfl⟩⟩) | (go_at_call 83; (with_reducible refine (b8.calls _ 18 _ _ (qo _)).mono ?_); rintro e w1 ⟨rfl, ⟨nd18, rfl⟩⟩) | (go_at_call 83; (with_reducible refine (b8.calls _ 17 _ _ (qN _)).mono ?_); rintro e w1 ⟨rfl, ⟨nd17, rfl⟩⟩) | (go_at_call 83; (with_reducible refine (b8.calls _ 19 _ _ (qO _)).mono ?_); rintro e w1 ⟨rfl, ⟨nd19, rfl⟩⟩))
     have HA0 := aa.mk (HA0.out.drewN (nq + nd7 + nd18 + nd17 + nd19))
     have HA1 := aa.mk (HA1.out.drewN (nq + nd7 + nd18 + nd17 + nd19))
     have HB0 := aa.mk (cw HB0.out (nq + nd7 + nd18 + nd17 + nd19))
     generalize wr.drewN (nq + nd7 + nd18 + nd17 + nd19) = wz at HA0 HA1 HB0 ⊢
     refine wp_region_still_tail 15 (by kernel_rfl) (by kernel_rfl) ?_
     simp only [List.take_succ_cons, List.take_zero, List.drop_succ_cons, List.drop_zero]
     change wpStill _ _ wz.drew (fun a' => wpList _ _ _ _ a' wz.drew) _ _
     have HA0 := aa.mk HA0.out.drew
     have HA1 := aa.mk HA1.out.drew
     have HB0 := aa.mk (cV HB0.out)
     generalize wz.drew = w2 at HA0 HA1 HB0 ⊢
     have hx7 := hc w2 u k7 HA1.out
     have hx16 := hc w2 v k16 HA1.out
     have hxt := hc w2 t hlt HA1.out
     have hft := HA1.out.frozen t
     clear hc hx1 hx2
     repeat still_step
     refine wpStill_nil ?_
     go_wp2
     go_roundw
     case rel =>
      have hX := HX.out
      refine ⟨j + 1, ?_, ⟨by omega⟩, ⟨HA0.out.far (by show N ≠ N + 1; omega) _⟩, ⟨?_⟩, ⟨bN HB0.out (by show N ≤ N + 1; omega) _⟩⟩
      ·rw [show 16 + (j + 1) = t + 1 by omega]; go_num
      ·simp only [d3]
       rw [← hX.1]
       unfold hD
       rw [← hX.2.1, ← hX.2.2.1, ← hX.2.2.2.1, ← hX.2.2.2.2]
       exact HA1.out.set t _
     case measure => simp [intOf]; omega
    ·have hlk : decide ((t : Int) < 64) = false := ua (by omega)
     obtain rfl : j = 48 := by omega
     clear hlt ht hj
     go_wp2_with (first | (refine eq rfl 84 (.tmp 3) rfl _ rfl HA1.out 64 45 Tryz.underlying84 (by kernel_rfl) (dA s 48) ?_) | (refine dN rfl 84 (.tmp 2) (.tmp 76) rfl _ rfl rfl HA0.out 64 (by kernel_rfl) rfl (dA s 48) ?_))
     exact bodyPost_ret (v := .agg (arrC .u32 (bP.v s))) (fY Tryz.results82 _ _ N rfl (HA0.out.row (d3 s 48)) 64 45 Tryz.underlying84 (by kernel_rfl) (dA s 48)) rfl ⟨rfl, by rw [← HN.out]; exact below_setRow HB0.out (wa _) _⟩
end Go.Proofs.YtielligodgabiaaGreatDoor.P
