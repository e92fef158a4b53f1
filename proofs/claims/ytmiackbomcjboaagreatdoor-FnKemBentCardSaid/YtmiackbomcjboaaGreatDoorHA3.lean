/- Walks by hand: one block of SHA-256. -/
import Derived.Test.YtmiackbomcjboaaGreatDoorHA2
namespace Go.Proofs.YtmiackbomcjboaaGreatDoor.P
open Go.RowKit YtmiackbomcjboaaGreatDoorW.PrintWords YtmiackbomcjboaaGreatDoorW.PrintLast YtmiackbomcjboaaGreatDoorW.PrintMore YtmiackbomcjboaaGreatDoor.Kit
set_option linter.unusedVariables false
set_option linter.unusedSimpArgs false

/-- The numbers of the rounds. -/
def roundKeys : List Int := [1116352408, 1899447441, 3049323471, 3921009573, 961987163, 1508970993, 2453635748, 2870763221, 3624381080, 310598401, 607225278, 1426881987, 1925078388, 2162078206, 2614888103, 3248222580, 3835390401, 4022224774, 264347078, 604807628, 770255983, 1249150122, 1555081692, 1996064986, 2554220882, 2821834349, 2952996808, 3210313671, 3336571891, 3584528711, 113926993, 338241895, 666307205, 773529912, 1294757372, 1396182291, 1695183700, 1986661051, 2177026350, 2456956037, 2730485921, 2820302411, 3259730800, 3345764771, 3516065817, 3600352804, 4094571909, 275423344, 430227734, 506948616, 659060556, 883997877, 958139571, 1322822218, 1537002063, 1747873779, 1955562222, 2024104815, 2227730452, 2361852424, 2428436474, 2756734187, 3204031479, 3329325298]
theorem sA : roundKeys.length = 64 := rfl
/-- The package's table lies as its text says. -/
structure Laid (w : World) : Prop where mk :: (o : ∃ t fr, w.heap[0]? = some (.cells (arrC .u32 roundKeys) t fr))
theorem Laid.below {w w1 : World} {B : Nat} (h : Laid w) (hB : 0 < B) (hb : Below B w w1) : Laid w1 := by
  obtain ⟨t, fr, h⟩ := h.o
  exact ⟨t, fr, (hb.block 0 hB).trans h⟩
theorem Laid.pos {w : World} (h : Laid w) : 0 < w.heap.size := by
  obtain ⟨t, fr, h⟩ := h.o
  exact (Array.getElem?_eq_some_iff.1 h).1
theorem Laid.cell {w : World} (h : Laid w) (i : Nat) (hi : i < 64) : w.cell? ⟨0, i, none⟩ = some (.int .u32 (rd roundKeys (i : Int))) := by
  obtain ⟨t, fr, h⟩ := h.o
  refine (cell_of_row w 0 i _ t _ h).trans ((mb .u32 roundKeys i hi).trans ?_)
  rw [dv]

theorem jk (x n r : Int) (w : World) (m : Nat) (h : cn.f x n = some r) : Calls Tryz.prog 109 #[.int .u32 x, .int .i64 n] (w.drewN m) fun e w'' => e = .returned (.int .u32 r) ∧ ∃ k, w'' = w.drewN k :=
  (cn.calls x n r _ h).mono (by rintro e w1 ⟨h1, ⟨k, h2⟩⟩; exact ⟨h1, m + k, by rw [h2, World.drewN_drewN]⟩)
/-- One round over eight words. -/
def rnd (k w : Int) : List Int → List Int
  | [a, b, c, d, e, f, g, h] =>
    let t1 := (h + Go.bits .xor .u32 (Go.bits .xor .u32 (rot e 6) (rot e 11)) (rot e 25) + Go.bits .xor .u32 (Go.bits .and .u32 e f) (Go.bits .and .u32 (Go.bits .xor .u32 (if IntKind.u32.signed = true then -1 else IntKind.u32.max) e) g) + k + w) % 4294967296
    let t2 := (Go.bits .xor .u32 (Go.bits .xor .u32 (rot a 2) (rot a 13)) (rot a 22) + Go.bits .xor .u32 (Go.bits .xor .u32 (Go.bits .and .u32 a b) (Go.bits .and .u32 a c)) (Go.bits .and .u32 b c)) % 4294967296
    [(t1 + t2) % 4294967296, a, b, c, (d + t1) % 4294967296, e, f, g]
  | l => l
def rounds (ws st : List Int) : Nat → List Int
  | 0 => st
  | t + 1 => rnd (rd roundKeys (t : Int)) (rd ws (t : Int)) (rounds ws st t)
def je (st v : List Int) : Nat → List Int
  | 0 => v
  | i + 1 => (je st v i).set i ((rd (je st v i) (i : Int) + rd st (i : Int)) % 4294967296)
theorem oV (st v : List Int) (i : Nat) : (je st v i).length = v.length := by
  induction i with
  | zero => rfl
  | succ i ih => simp only [je, List.length_set, ih]
def zs8 : List Int := List.replicate 8 0
def cA.v (st : List Int) (s : ByteArray) : List Int := je st (rounds (b9.v s) st 64) 8
set_option maxHeartbeats 1000000 in
set_option maxRecDepth 100000 in
theorem cA.calls (st : List Int) (s : ByteArray) (w : World) (hL : Laid w) (hst : st.length = 8) (hs : s.size = 64) : Calls Tryz.prog 89 #[.agg (arrC .u32 st), .string s] w fun e w' => e = .returned (.agg (arrC .u32 (cA.v st s))) ∧ Below w.heap.size w w' := by
  have HS := aa.mk hs
  have HST := aa.mk hst
  have HL := aa.mk hL
  clear hs hst hL
  obtain ⟨w0, hw0⟩ : ∃ w0, w0 = (w.alloc (.cells (arrC .u32 st) 79)).alloc (.cells (arrC .u32 zs8) 79) := ⟨_, rfl⟩
  have hA0 : Arr w0 w.heap.size 79 .u32 st := by rw [hw0]; exact (Arr.new w _ _ _).alloc _
  have hA1 : Arr w0 (w.heap.size + 1) 79 .u32 zs8 := by rw [hw0]; exact Arr.new2 _ _ _ _ _
  have hB0 : Below w.heap.size w w0 := by rw [hw0]; exact el _ _ _
  have HA0 := aa.mk hA0
  have HA1 := aa.mk hA1
  have HB0 := aa.mk hB0
  have HW0 := aa.mk hw0
  clear hA0 hA1 hB0 hw0
  go_enter Tryz.func89, Tryz.ntmps89
  go_wp2_with (first
    | (refine eu rfl 79 rfl _ rfl _ rfl (k := .u32) (m := 8) zs8 (by kernel_rfl) ?_)
    | (go_at_call 108
       (with_reducible refine (b9.calls _ _ HS.o).mono ?_)
       rintro e w1 ⟨rfl, hb1⟩
       simp only [cy, ← HW0.o] at hb1 ⊢
       have HLD := aa.mk (HL.o.below HL.o.pos (HB0.o.trans (hb1.mono HB0.o.size)))
       have HA0 := aa.mk (HA0.o.below hb1)
       have HA1 := aa.mk (HA1.o.below hb1)
       have HB0 := aa.mk (HB0.o.trans (hb1.mono HB0.o.size))
       clear hb1
       obtain ⟨M, hM⟩ : ∃ M, M = w1.heap.size := ⟨_, rfl⟩
       have hA2 := Arr.new w1 105 .u32 kd
       rw [← hM] at hA2
       have HA2 := aa.mk hA2
       have HM := aa.mk hM
       clear hA2 hM)
    | (refine eu rfl 105 rfl _ rfl M HM.o.symm (k := .u32) (m := 64) kd (by kernel_rfl) ?_)
    | (refine eJ rfl 105 (.tmp 5) (.tmp 20) rfl M rfl rfl HA2.o 64 (by kernel_rfl) rfl (eF s 48) ?_))
  have hlt0 := HA0.o.lt
  have hlt1 := HA1.o.lt
  rw [← HM.o] at hlt0 hlt1
  have HA0 := aa.mk ((HA0.o.alloc (.cells (arrC .u32 kd) 105)).row_far (show w.heap.size ≠ M by omega) (arrC .u32 (b9.v s)))
  have HA1 := aa.mk ((HA1.o.alloc (.cells (arrC .u32 kd) 105)).row_far (show w.heap.size + 1 ≠ M by omega) (arrC .u32 (b9.v s)))
  have HA2 := aa.mk (HA2.o.row (b9.v s))
  have hbz : Below M w1 ((w1.alloc (.cells (arrC .u32 kd) 105)).setRow M (arrC .u32 (b9.v s))) := below_setRow (by rw [HM.o]; exact (Da _ _).alloc (Ca _) _) (Ca _) _
  have HLD := aa.mk (HLD.o.below (by omega) hbz)
  have HB0 := aa.mk (HB0.o.trans (hbz.mono (by omega)))
  generalize ((w1.alloc (.cells (arrC .u32 kd) 105)).setRow M (arrC .u32 (b9.v s))) = wz at HA0 HA1 HA2 HLD HB0 ⊢
  clear HM hbz
  obtain ⟨N, hN⟩ : ∃ N, N = w.heap.size := ⟨_, rfl⟩
  rw [← hN] at HA0 HA1 HB0 hlt0 hlt1 ⊢
  have HN := aa.mk hN
  have HNM := aa.mk hlt1
  have hP := HL.o.pos
  rw [← hN] at hP
  have HP := aa.mk hP
  clear hN hlt0 hlt1 hP HL
  have hc : ∀ (wx : World) (i : Nat), i < 8 → Arr wx N 79 .u32 st → wx.cell? ⟨N, i, none⟩ = some (.int .u32 (rd st (i : Int))) := fun wx i hi h => (h.cell i (by rw [HST.o]; exact hi)).trans (by rw [dv])
  have hx0 : wz.cell? ⟨N, 0, none⟩ = some (.int .u32 (rd st 0)) := hc wz 0 (by decide) HA0.o
  have hx1 : wz.cell? ⟨N, 1, none⟩ = some (.int .u32 (rd st 1)) := hc wz 1 (by decide) HA0.o
  have hx2 : wz.cell? ⟨N, 2, none⟩ = some (.int .u32 (rd st 2)) := hc wz 2 (by decide) HA0.o
  have hx3 : wz.cell? ⟨N, 3, none⟩ = some (.int .u32 (rd st 3)) := hc wz 3 (by decide) HA0.o
  have hx4 : wz.cell? ⟨N, 4, none⟩ = some (.int .u32 (rd st 4)) := hc wz 4 (by decide) HA0.o
  have hx5 : wz.cell? ⟨N, 5, none⟩ = some (.int .u32 (rd st 5)) := hc wz 5 (by decide) HA0.o
  have hx6 : wz.cell? ⟨N, 6, none⟩ = some (.int .u32 (rd st 6)) := hc wz 6 (by decide) HA0.o
  have hx7 : wz.cell? ⟨N, 7, none⟩ = some (.int .u32 (rd st 7)) := hc wz 7 (by decide) HA0.o
  have HC := aa.mk hc
  clear hc
  go_quiet (fail)
  clear hx0 hx1 hx2 hx3 hx4 hx5 hx6 hx7
  go_wp2
  have HA0 := aa.mk (HA0.o.drewN nq)
  have HA1 := aa.mk (HA1.o.drewN nq)
  have HA2 := aa.mk (HA2.o.drewN nq)
  have HLD := aa.mk (HLD.o.below HP.o ((bH (Da N wz) nq)))
  have HB0 := aa.mk (bH HB0.o nq)
  generalize wz.drewN nq = wy at HA0 HA1 HA2 HLD HB0 ⊢
  go_loopw [37, 6, 7, 8, 9, 10, 11, 12, 13] (fun q a b c d e f g h wr => ∃ (t : Nat) (a' b' c' d' e' f' g' h' : Int), q = .int .i64 (t : Int) ∧ a = .int .u32 a' ∧ b = .int .u32 b' ∧ c = .int .u32 c' ∧ d = .int .u32 d' ∧ e = .int .u32 e' ∧ f = .int .u32 f' ∧ g = .int .u32 g' ∧ h = .int .u32 h' ∧ aa (t ≤ 64) ∧ aa (rounds (b9.v s) st t = [a', b', c', d', e', f', g', h']) ∧ aa (Arr wr N 79 .u32 st) ∧ aa (Arr wr (N + 1) 79 .u32 zs8) ∧ aa (Arr wr M 105 .u32 (b9.v s)) ∧ aa (Laid wr) ∧ aa (Below N w wr)) (fun q _ _ _ _ _ _ _ _ _ => 64 - (intOf q).toNat)
  case atStart =>
    refine ⟨0, _, _, _, _, _, _, _, _, rfl, rfl, rfl, rfl, rfl, rfl, rfl, rfl, rfl, ⟨by omega⟩, ⟨?_⟩, HA0, HA1, HA2, HLD, HB0⟩
    have hs := HST.o
    match st, hs with
    | [_, _, _, _, _, _, _, _], _ => rfl
  case round =>
    clear HA0 HA1 HA2 HLD HB0
    obtain ⟨t, a', b', c', d', e', f', g', h', rfl, rfl, rfl, rfl, rfl, rfl, rfl, rfl, rfl, HT, HV, HA0, HA1, HA2, HLD, HB0⟩ := hrel
    have ht := HT.o
    by_cases hlt : t < 64
    · have hlk : decide ((t : Int) < 64) = true := ya (by omega)
      have lt1 : ((t : Int) < 64) = True := Aa (by omega)
      have hxk := HLD.o.cell t hlt
      have hxw : wr.cell? ⟨M, t, none⟩ = some (.int .u32 (rd (b9.v s) (t : Int))) := (HA2.o.cell t (by rw [show (b9.v s).length = 64 from eF s 48]; exact hlt)).trans (by rw [dv])
      have HX := aa.mk (show t < 64 from hlt)
      clear ht
      go_wp2
      go_quiet (first | (go_at_call 109; (with_reducible refine jk _ 6 _ _ _ (tZ _))) | (go_at_call 109; (with_reducible refine jk _ 11 _ _ _ (sS _))) | (go_at_call 109; (with_reducible refine jk _ 25 _ _ _ (sR _))))
      clear hxk hxw
      go_wp2_with (first | (go_at_call 109; (with_reducible refine (cn.calls _ 2 _ _ (tK _)).mono ?_); rintro e w1 ⟨rfl, ⟨nd2, rfl⟩⟩) | (go_at_call 109; (with_reducible refine (cn.calls _ 13 _ _ (sK _)).mono ?_); rintro e w1 ⟨rfl, ⟨nd13, rfl⟩⟩) | (go_at_call 109; (with_reducible refine (cn.calls _ 22 _ _ (sX _)).mono ?_); rintro e w1 ⟨rfl, ⟨nd22, rfl⟩⟩))
      go_roundw
      case rel =>
        refine ⟨t + 1, _, _, _, _, _, _, _, _, by go_num, rfl, rfl, rfl, rfl, rfl, rfl, rfl, rfl, ⟨by have := HX.o; omega⟩, ⟨?_⟩, ⟨HA0.o.drewN _⟩, ⟨HA1.o.drewN _⟩, ⟨HA2.o.drewN _⟩, ⟨HLD.o.below HP.o (bH (Da N wr) _)⟩, ⟨bH HB0.o _⟩⟩
        simp only [rounds]
        rw [HV.o]
        rfl
      case measure => have := HX.o; simp [intOf]; omega
    · have hlk : decide ((t : Int) < 64) = false := za (by omega)
      have hV := HV.o
      rw [show t = 64 by omega] at hV
      have HV := aa.mk hV
      clear hlt ht hV
      go_wp2
      have hn := (HB0.o.size)
      have hA3 : Arr (wr.alloc (.cells #[.int .u32 a', .int .u32 b', .int .u32 c', .int .u32 d', .int .u32 e', .int .u32 f', .int .u32 g', .int .u32 h'] 79)) wr.heap.size 79 .u32 [a', b', c', d', e', f', g', h'] := Arr.new wr 79 .u32 [a', b', c', d', e', f', g', h']
      rw [← HV.o] at hA3
      have hl0 := HA0.o.lt
      have hl1 := HA1.o.lt
      obtain ⟨O, hO⟩ : ∃ O, O = wr.heap.size := ⟨_, rfl⟩
      rw [← hO] at hA3 hl0 hl1 ⊢
      have HA3 := aa.mk hA3
      have HA0 := aa.mk (HA0.o.alloc (.cells #[.int .u32 a', .int .u32 b', .int .u32 c', .int .u32 d', .int .u32 e', .int .u32 f', .int .u32 g', .int .u32 h'] 79))
      have HA1 := aa.mk (HA1.o.alloc (.cells #[.int .u32 a', .int .u32 b', .int .u32 c', .int .u32 d', .int .u32 e', .int .u32 f', .int .u32 g', .int .u32 h'] 79))
      have hNw : N ≤ wr.heap.size := by omega
      have HB0 := aa.mk (HB0.o.alloc hNw (.cells #[.int .u32 a', .int .u32 b', .int .u32 c', .int .u32 d', .int .u32 e', .int .u32 f', .int .u32 g', .int .u32 h'] 79))
      generalize wr.alloc (.cells #[.int .u32 a', .int .u32 b', .int .u32 c', .int .u32 d', .int .u32 e', .int .u32 f', .int .u32 g', .int .u32 h'] 79) = wu at HA0 HA1 HA3 HB0 ⊢
      have HO := aa.mk (show N < O ∧ N + 1 < O from ⟨hl0, hl1⟩)
      clear hO hl0 hl1 hNw hn hA3
      go_loopw [109] (fun q wr => ∃ i : Nat, q = .int .i64 (i : Int) ∧ aa (i ≤ 8) ∧ aa (Arr wr N 79 .u32 st) ∧ aa (Arr wr (N + 1) 79 .u32 zs8) ∧ aa (Arr wr O 79 .u32 (je st (rounds (b9.v s) st 64) i)) ∧ aa (Below N w wr)) (fun q _ => 8 - (intOf q).toNat)
      case atStart => exact ⟨0, rfl, ⟨by omega⟩, HA0, HA1, HA3, HB0⟩
      case round =>
        clear HA0 HA1 HA3 HB0
        obtain ⟨i, rfl, HI, HA0, HA1, HA3, HB0⟩ := hrel
        have hi := HI.o
        have HSL := aa.mk (show (je st (rounds (b9.v s) st 64) i).length = 8 by rw [oV, HV.o]; rfl)
        by_cases hlt : i < 8
        · have hlk : decide ((i : Int) < 8) = true := ya (by omega)
          have hi1 : ((i : Int) < 8) = True := Aa (by omega)
          have HLK := aa.mk hlt
          clear hi
          go_wp2
          refine wp_region_still_tail 8 (by kernel_rfl) (by kernel_rfl) ?_
          simp only [List.take_succ_cons, List.take_zero, List.drop_succ_cons, List.drop_zero]
          change wpStill _ _ wr.drew (fun a' => wpList _ _ _ _ a' wr.drew) _ _
          have HA0 := aa.mk HA0.o.drew
          have HA1 := aa.mk HA1.o.drew
          have HA3 := aa.mk HA3.o.drew
          have HB0 := aa.mk (dq HB0.o)
          generalize wr.drew = w2 at HA0 HA1 HA3 HB0 ⊢
          have hx1 := HC.o w2 i hlt HA0.o
          have hx2 : w2.cell? ⟨O, i, none⟩ = some (.int .u32 (rd (je st (rounds (b9.v s) st 64) i) (i : Int))) := (HA3.o.cell i (by rw [HSL.o]; exact hlt)).trans (by rw [dv])
          have hf1 := HA3.o.frozen i
          repeat still_step
          refine wpStill_nil ?_
          go_wp2
          go_roundw
          case rel =>
            have hO := HO.o
            refine ⟨i + 1, by go_num, ⟨by have := HLK.o; omega⟩, ⟨HA0.o.far (by show N ≠ O; omega) _⟩, ⟨HA1.o.far (by show N + 1 ≠ O; omega) _⟩, ⟨?_⟩, ⟨bZ HB0.o (by show N ≤ O; omega) _⟩⟩
            simp only [je]
            exact HA3.o.set i _
          case measure => have := HLK.o; simp [intOf]; omega
        · have hlk : decide ((i : Int) < 8) = false := za (by omega)
          obtain rfl : i = 8 := by omega
          clear hlt hi
          go_wp2_with (first
            | (refine fl rfl 79 (.tmp 17) rfl O rfl HA3.o 8 78 Tryz.underlying79 (by kernel_rfl) HSL.o ?_)
            | (refine eJ rfl 79 (.tmp 4) (.tmp 121) rfl (N + 1) rfl rfl HA1.o 8 (by kernel_rfl) rfl HSL.o ?_))
          exact bodyPost_ret (v := .agg (arrC .u32 (cA.v st s))) (hU Tryz.results89 _ _ (N + 1) rfl (HA1.o.row _) 8 78 Tryz.underlying79 (by kernel_rfl) HSL.o) rfl ⟨rfl, by rw [← HN.o]; exact below_setRow HB0.o (Nat.le_succ _) _⟩
end Go.Proofs.YtmiackbomcjboaaGreatDoor.P
