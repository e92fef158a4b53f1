/- Walks by hand: the words of a block. -/
import Derived.Test.YtmiackbomcjboaaGreatDoorHA1
import Derived.Laws.CopyOwn
namespace Go.Proofs.YtmiackbomcjboaaGreatDoor.P
open Go.RowKit YtmiackbomcjboaaGreatDoorW.PrintWords YtmiackbomcjboaaGreatDoorW.PrintLast YtmiackbomcjboaaGreatDoorW.PrintMore YtmiackbomcjboaaGreatDoor.Kit
set_option linter.unusedVariables false
set_option linter.unusedSimpArgs false

/-- x turned right by n. -/
def rot (x : Int) (n : Nat) : Int := Go.bits .or .u32 (shl .u32 x ((32 - n : Nat) : Int)) (shr .u32 x (n : Int))
theorem fL (x : Int) (n : Nat) (s : Int) (hs : Go.bits .and .u64 (IntKind.u64.wrap (wrap64 (-(n : Int)))) 31 = s) (h0 : 0 ≤ s) (h1 : s = ((32 - n : Nat) : Int)) (h2 : IntKind.u64.wrap (32 - s) = (n : Int)) : cn.f x (n : Int) = some (rot x n) := by
 unfold cn.f dG.f rot
 rw [hs, Fa h0, h2, Fa (by omega), h1]
 rfl
theorem tH (x : Int) : cn.f x 7 = some (rot x 7) := fL x 7 25 (by kernel_rfl) (by decide) rfl (by kernel_rfl)
theorem tk (x : Int) : cn.f x 18 = some (rot x 18) := fL x 18 14 (by kernel_rfl) (by decide) rfl (by kernel_rfl)
theorem sZ (x : Int) : cn.f x 17 = some (rot x 17) := fL x 17 15 (by kernel_rfl) (by decide) rfl (by kernel_rfl)
theorem sU (x : Int) : cn.f x 19 = some (rot x 19) := fL x 19 13 (by kernel_rfl) (by decide) rfl (by kernel_rfl)
theorem tZ (x : Int) : cn.f x 6 = some (rot x 6) := fL x 6 26 (by kernel_rfl) (by decide) rfl (by kernel_rfl)
theorem sS (x : Int) : cn.f x 11 = some (rot x 11) := fL x 11 21 (by kernel_rfl) (by decide) rfl (by kernel_rfl)
theorem sR (x : Int) : cn.f x 25 = some (rot x 25) := fL x 25 7 (by kernel_rfl) (by decide) rfl (by kernel_rfl)
theorem tK (x : Int) : cn.f x 2 = some (rot x 2) := fL x 2 30 (by kernel_rfl) (by decide) rfl (by kernel_rfl)
theorem sK (x : Int) : cn.f x 13 = some (rot x 13) := fL x 13 19 (by kernel_rfl) (by decide) rfl (by kernel_rfl)
theorem sX (x : Int) : cn.f x 22 = some (rot x 22) := fL x 22 10 (by kernel_rfl) (by decide) rfl (by kernel_rfl)

/-- The first m bytes of a block, in its words. -/
def kd : List Int := List.replicate 64 0
def fE (s : ByteArray) : Nat → List Int
 | 0 => kd
 | m + 1 => (fE s m).set (m / 4) (Go.bits .or .u32 ((rd (fE s m) ((m / 4 : Nat) : Int) * 256) % 4294967296) (bt s (m : Int) % 4294967296))
theorem mw (s : ByteArray) (m : Nat) : (fE s m).length = 64 := by
 induction m with
 | zero => rfl
 | succ m ih => simp only [fE, List.length_set, ih]
def jq (l : List Int) (t : Nat) : Int :=
 (Go.bits .xor .u32 (Go.bits .xor .u32 (rot (rd l ((t - 2 : Nat) : Int)) 17) (rot (rd l ((t - 2 : Nat) : Int)) 19)) (rd l ((t - 2 : Nat) : Int) / 1024) + rd l ((t - 7 : Nat) : Int) + Go.bits .xor .u32 (Go.bits .xor .u32 (rot (rd l ((t - 15 : Nat) : Int)) 7) (rot (rd l ((t - 15 : Nat) : Int)) 18)) (rd l ((t - 15 : Nat) : Int) / 8) + rd l ((t - 16 : Nat) : Int)) % 4294967296
def eY (s : ByteArray) : Nat → List Int
 | 0 => fE s 64
 | j + 1 => (eY s j).set (16 + j) (jq (eY s j) (16 + j))
theorem eF (s : ByteArray) (m : Nat) : (eY s m).length = 64 := by
 induction m with
 | zero => exact mw s 64
 | succ m ih => simp only [eY, List.length_set, ih]
def b9.v (s : ByteArray) : List Int := eY s 48
theorem dv (l : List Int) (i : Nat) : l.getD i 0 = rd l (i : Int) := by simp [rd]
theorem ik {P : Program} (w : World) (ty : TypeId) (s : ByteArray) (j : Nat) (hu : P.underlying ty = some .string) (h : j < s.size) : (Instr.index ty (.string s) (.int .i64 (j : Int))).run P w = .ok (.int .u8 (bt s (j : Int))) w := by
 have e : bt s (j : Int) = ((s[j]'h).toNat : Int) := by rw [← cY s (j : Int) (by simpa using h)]; simp
 rw [e]
 simp [Instr.index, asIntOf, run_underlying hu, h]
set_option maxHeartbeats 1000000 in
set_option maxRecDepth 100000 in
theorem b9.calls (s : ByteArray) (w : World) (hs : s.size = 64) : Calls Tryz.prog 108 #[.string s] w fun e w' => e = .returned (.agg (arrC .u32 (b9.v s))) ∧ Below w.heap.size w w' := by
 have HS := aa.mk hs
 clear hs
 obtain ⟨w0, hw0⟩ : ∃ w0, w0 = (w.alloc (.cells (arrC .u32 kd) 105)).alloc (.cells (arrC .u32 kd) 105) := ⟨_, rfl⟩
 have hA0 : Arr w0 w.heap.size 105 .u32 kd := by rw [hw0]; exact (Arr.new w _ _ _).alloc _
 have hA1 : Arr w0 (w.heap.size + 1) 105 .u32 (fE s 0) := by rw [hw0]; exact Arr.new2 _ _ _ _ _
 have hB0 : Below w.heap.size w w0 := by rw [hw0]; exact el _ _ _
 have HA0 := aa.mk hA0
 have HA1 := aa.mk hA1
 have HB0 := aa.mk hB0
 have HW0 := aa.mk hw0
 clear hA0 hA1 hB0 hw0
 go_enter Tryz.func108, Tryz.ntmps108
 go_wp2_with (first | (refine eu rfl 105 rfl _ rfl _ rfl (k := .u32) (m := 64) kd (by kernel_rfl) ?_))
 simp only [cy, ← HW0.o]
 obtain ⟨N, hN⟩ : ∃ N, N = w.heap.size := ⟨_, rfl⟩
 rw [← hN] at HA0 HA1 HB0 ⊢
 have HN := aa.mk hN
 clear hN HW0
 go_loopw [11] (fun c wr => ∃ i : Nat, c = .int .i64 (i : Int) ∧ aa (i ≤ 16) ∧ aa (Arr wr N 105 .u32 kd) ∧ aa (Arr wr (N + 1) 105 .u32 (fE s (4 * i))) ∧ aa (Below N w wr)) (fun c _ => 16 - (intOf c).toNat)
 case atStart => exact ⟨0, rfl, ⟨by omega⟩, HA0, HA1, HB0⟩
 case round =>
  clear HA0 HA1 HB0
  obtain ⟨i, rfl, HI, HA0, HA1, HB0⟩ := hrel
  obtain ⟨wo, rfl⟩ : ∃ wo : World, wo = wr := ⟨_, rfl⟩
  have hi := HI.o
  by_cases hlt : i < 16
  ·have hlt1 : decide ((i : Int) < 16) = true := ya (by omega)
   have HL := aa.mk hlt
   clear hi
   go_wp2
   go_loopw [14] (fun c wr => ∃ k : Nat, c = .int .i64 (k : Int) ∧ aa (k ≤ 4) ∧ aa (Arr wr N 105 .u32 kd) ∧ aa (Arr wr (N + 1) 105 .u32 (fE s (4 * i + k))) ∧ aa (Below N w wr)) (fun c _ => 4 - (intOf c).toNat)
   case atStart => exact ⟨0, rfl, ⟨by omega⟩, HA0, HA1, HB0⟩
   case round =>
    clear HA0 HA1 HB0
    obtain ⟨k, rfl, HK, HA0, HA1, HB0⟩ := hrel
    have hk := HK.o
    by_cases hlt : k < 4
    ·have hlk : decide ((k : Int) < 4) = true := ya (by omega)
     obtain ⟨m, hm⟩ : ∃ m, m = 4 * i + k := ⟨_, rfl⟩
     have hL := HL.o
     have hmi : m / 4 = i := by omega
     have hj1 : IntKind.i64.wrap (4 * (i : Int)) = 4 * (i : Int) := IntWalk.i64_in _ (by omega)
     have hj2 : IntKind.i64.wrap (4 * (i : Int) + (k : Int)) = (m : Int) := (IntWalk.i64_in _ (by omega)).trans (by omega)
     have hb : ∀ w : World, (Instr.index 9 (.string s) (.int .i64 (m : Int))).run Tryz.prog w = .ok (.int .u8 (bt s (m : Int))) w := fun w => ik w 9 s m Tryz.underlying9 (by have := HS.o; omega)
     rw [← hm] at HA1
     have hc : ∀ (wx : World), Arr wx (N + 1) 105 .u32 (fE s m) → wx.cell? ⟨N + 1, i, none⟩ = some (.int .u32 (rd (fE s m) (i : Int))) := fun wx h => (h.cell i (by rw [mw]; omega)).trans (by rw [dv])
     have hi1 : ((i : Int) < 64) = True := Aa (by omega)
     have HM := aa.mk hm
     have HMI := aa.mk hmi
     have HLK := aa.mk hlt
     clear hk hm hmi hL
     go_wp2
     refine wp_region_still_tail 14 (by kernel_rfl) (by kernel_rfl) ?_
     simp only [List.take_succ_cons, List.take_zero, List.drop_succ_cons, List.drop_zero]
     change wpStill _ _ wr.drew (fun a' => wpList _ _ _ _ a' wr.drew) _ _
     have HA0 := aa.mk HA0.o.drew
     have HA1 := aa.mk HA1.o.drew
     have HB0 := aa.mk (dq HB0.o)
     generalize wr.drew = w2 at HA0 HA1 HB0 ⊢
     have hx1 := hc w2 HA1.o
     have hf1 := HA1.o.frozen i
     clear hc
     repeat still_step
     refine wpStill_nil ?_
     go_wp2
     go_roundw
     case rel =>
      have hm := HM.o
      have hmi := HMI.o
      refine ⟨k + 1, by go_num, ⟨by have := HLK.o; omega⟩, ⟨HA0.o.far (by show N ≠ N + 1; omega) _⟩, ⟨?_⟩, ⟨bZ HB0.o (by show N ≤ N + 1; omega) _⟩⟩
      rw [show 4 * i + (k + 1) = m + 1 by omega]
      simp only [fE]
      rw [hmi]
      exact HA1.o.set i _
     case measure => have := HLK.o; simp [intOf]; omega
    ·obtain rfl : k = 4 := by omega
     have hlk : decide (((4 : Nat) : Int) < 4) = false := by decide
     clear hlt hk
     go_wp2
     go_roundw
     case rel => exact ⟨i + 1, by go_num, ⟨by have := HL.o; omega⟩, HA0, HA1, HB0⟩
     case measure => have := HL.o; simp [intOf]; omega
  ·have hlk : decide ((i : Int) < 16) = false := za (by omega)
   rw [show 4 * i = 64 by omega] at HA1
   clear hlt hi
   go_wp2
   go_loopw [6] (fun c wr => ∃ j : Nat, c = .int .i64 ((16 + j : Nat) : Int) ∧ aa (j ≤ 48) ∧ aa (Arr wr N 105 .u32 kd) ∧ aa (Arr wr (N + 1) 105 .u32 (eY s j)) ∧ aa (Below N w wr)) (fun c _ => 64 - (intOf c).toNat)
   case atStart => exact ⟨0, rfl, ⟨by omega⟩, HA0, HA1, HB0⟩
   case round =>
    clear HA0 HA1 HB0
    obtain ⟨j, rfl, HJ, HA0, HA1, HB0⟩ := hrel
    have hj := HJ.o
    obtain ⟨t, ht⟩ : ∃ t, t = 16 + j := ⟨_, rfl⟩
    rw [← ht]
    by_cases hlt : t < 64
    ·have hlk : decide ((t : Int) < 64) = true := ya (by omega)
     obtain ⟨p, hp⟩ : ∃ p, p = t - 15 := ⟨_, rfl⟩
     obtain ⟨q, hq⟩ : ∃ q, q = t - 2 := ⟨_, rfl⟩
     obtain ⟨u, hu⟩ : ∃ u, u = t - 7 := ⟨_, rfl⟩
     obtain ⟨v, hv⟩ : ∃ v, v = t - 16 := ⟨_, rfl⟩
     have e15 : IntKind.i64.wrap ((t : Int) - 15) = (p : Int) := (IntWalk.i64_in _ (by omega)).trans (by omega)
     have e2 : IntKind.i64.wrap ((t : Int) - 2) = (q : Int) := (IntWalk.i64_in _ (by omega)).trans (by omega)
     have e7 : IntKind.i64.wrap ((t : Int) - 7) = (u : Int) := (IntWalk.i64_in _ (by omega)).trans (by omega)
     have e16 : IntKind.i64.wrap ((t : Int) - 16) = (v : Int) := (IntWalk.i64_in _ (by omega)).trans (by omega)
     have l15 : ((p : Int) < 64) = True := Aa (by omega)
     have l2 : ((q : Int) < 64) = True := Aa (by omega)
     have l7 : ((u : Int) < 64) = True := Aa (by omega)
     have l16 : ((v : Int) < 64) = True := Aa (by omega)
     have lt1 : ((t : Int) < 64) = True := Aa (by omega)
     have hc : ∀ (wx : World) (i : Nat), i < 64 → Arr wx (N + 1) 105 .u32 (eY s j) → wx.cell? ⟨N + 1, i, none⟩ = some (.int .u32 (rd (eY s j) (i : Int))) := fun wx i hi h => (h.cell i (by rw [eF]; exact hi)).trans (by rw [dv])
     have k15 : p < 64 := by omega
     have k2 : q < 64 := by omega
     have k7 : u < 64 := by omega
     have k16 : v < 64 := by omega
     have HX := aa.mk (show t = 16 + j ∧ p = t - 15 ∧ q = t - 2 ∧ u = t - 7 ∧ v = t - 16 from ⟨ht, hp, hq, hu, hv⟩)
     have hx1 := hc wr p k15 HA1.o
     have hx2 := hc wr q k2 HA1.o
     clear ht hp hq hu hv hj
     go_wp2
     go_quiet (fail)
     go_wp2_with (first | (go_at_call 109; (with_reducible refine (cn.calls _ 7 _ _ (tH _)).mono ?_); rintro e w1 ⟨rfl, ⟨nd7, rfl⟩⟩) | (go_at_call 109; (with_reducible refine (cn.calls _ 18 _ _ (tk _)).mono ?_); rintro e w1 ⟨rfl, ⟨nd18, rfl⟩⟩) | (go_at_call 109; (with_reducible refine (cn.calls _ 17 _ _ (sZ _)).mono ?_); rintro e w1 ⟨rfl, ⟨nd17, rfl⟩⟩) | (go_at_call 109; (with_reducible refine (cn.calls _ 19 _ _ (sU _)).mono ?_); rintro e w1 ⟨rfl, ⟨nd19, rfl⟩⟩))
     have HA0 := aa.mk (HA0.o.drewN (nq + nd7 + nd18 + nd17 + nd19))
     have HA1 := aa.mk (HA1.o.drewN (nq + nd7 + nd18 + nd17 + nd19))
     have HB0 := aa.mk (bH HB0.o (nq + nd7 + nd18 + nd17 + nd19))
     generalize wr.drewN (nq + nd7 + nd18 + nd17 + nd19) = wz at HA0 HA1 HB0 ⊢
     refine wp_region_still_tail 15 (by kernel_rfl) (by kernel_rfl) ?_
     simp only [List.take_succ_cons, List.take_zero, List.drop_succ_cons, List.drop_zero]
     change wpStill _ _ wz.drew (fun a' => wpList _ _ _ _ a' wz.drew) _ _
     have HA0 := aa.mk HA0.o.drew
     have HA1 := aa.mk HA1.o.drew
     have HB0 := aa.mk (dq HB0.o)
     generalize wz.drew = w2 at HA0 HA1 HB0 ⊢
     have hx7 := hc w2 u k7 HA1.o
     have hx16 := hc w2 v k16 HA1.o
     have hxt := hc w2 t hlt HA1.o
     have hft := HA1.o.frozen t
     clear hc hx1 hx2
     repeat still_step
     refine wpStill_nil ?_
     go_wp2
     go_roundw
     case rel =>
      have hX := HX.o
      refine ⟨j + 1, ?_, ⟨by omega⟩, ⟨HA0.o.far (by show N ≠ N + 1; omega) _⟩, ⟨?_⟩, ⟨bZ HB0.o (by show N ≤ N + 1; omega) _⟩⟩
      ·rw [show 16 + (j + 1) = t + 1 by omega]; go_num
      ·simp only [eY]
       rw [← hX.1]
       unfold jq
       rw [← hX.2.1, ← hX.2.2.1, ← hX.2.2.2.1, ← hX.2.2.2.2]
       exact HA1.o.set t _
     case measure => simp [intOf]; omega
    ·have hlk : decide ((t : Int) < 64) = false := za (by omega)
     obtain rfl : j = 48 := by omega
     clear hlt ht hj
     go_wp2_with (first | (refine fl rfl 105 (.tmp 3) rfl _ rfl HA1.o 64 78 Tryz.underlying105 (by kernel_rfl) (eF s 48) ?_) | (refine eJ rfl 105 (.tmp 2) (.tmp 76) rfl _ rfl rfl HA0.o 64 (by kernel_rfl) rfl (eF s 48) ?_))
     exact bodyPost_ret (v := .agg (arrC .u32 (b9.v s))) (hU Tryz.results108 _ _ N rfl (HA0.o.row (eY s 48)) 64 78 Tryz.underlying105 (by kernel_rfl) (eF s 48)) rfl ⟨rfl, by rw [← HN.o]; exact below_setRow HB0.o (Ca _) _⟩
end Go.Proofs.YtmiackbomcjboaaGreatDoor.P
