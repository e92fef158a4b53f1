/- Walks by hand: the reference's taking of bytes. -/
import Derived.Test.YtmiackbomcjboaaGreatDoorHB1
import Derived.Test.YtmiackbomcjboaaGreatDoorPx3
namespace Go.Proofs.YtmiackbomcjboaaGreatDoor.P
open Go.RowKit YtmiackbomcjboaaGreatDoorW.PrintWords YtmiackbomcjboaaGreatDoorW.PrintLast YtmiackbomcjboaaGreatDoorW.PrintMore YtmiackbomcjboaaGreatDoor.Kit
set_option linter.unusedVariables false
set_option linter.unusedSimpArgs false

def aD.l0 : Nat → Nat → ByteArray → ByteArray → Nat → Option (ByteArray × Int × ByteArray)
  | 0, _, _, _, _ => none
  | k + 1, n, o, s, a => if o.size < n then (if a = 168 then ((dc.f k s).bind fun t => if t.size = 200 then aD.l0 k n (o ++ t.extract 0 (min 168 (n - o.size))) t (min 168 (n - o.size)) else none) else (if a < 168 ∧ s.size = 200 then aD.l0 k n (o ++ s.extract a (a + min (168 - a) (n - o.size))) s (a + min (168 - a) (n - o.size)) else none)) else some (s, (a : Int), o)
def aD.f (k : Nat) (s : ByteArray) (a n : Int) : Option (ByteArray × Int × ByteArray) :=
  if 0 ≤ n ∧ n ≤ 4000 ∧ s.size = 200 ∧ 0 ≤ a ∧ a ≤ 168 then aD.l0 k n.toNat ⟨#[]⟩ s a.toNat else none
theorem aD.mono_l : ∀ k, (∀ y0 y1 y2 y3, LeO (aD.l0 k y0 y1 y2 y3) (aD.l0 (k + 1) y0 y1 y2 y3))
  | 0 => fun _ _ _ _ r h => by simp [aD.l0] at h
  | k + 1 => by
    have ih0 := aD.mono_l k
    intro y0 y1 y2 y3
    unfold aD.l0
    exact LeO.ite (LeO.ite (LeO.bind (dc.mono _ k) (fun _ => LeO.ite (ih0 _ _ _ _) (LeO.refl _))) (LeO.ite (ih0 _ _ _ _) (LeO.refl _))) (LeO.refl _)
theorem aD.mono : ∀ a0 a1 a2 k, LeO (aD.f k a0 a1 a2) (aD.f (k + 1) a0 a1 a2) := by
  intro a0 a1 a2 k
  unfold aD.f
  exact LeO.ite (aD.mono_l k _ _ _ _) (LeO.refl _)
/-- A stream's state, in its block. -/
structure gm (w : World) (g : Nat) (s : ByteArray) (a : Nat) : Prop where mk :: (o : w.heap[g]? = some (.cells #[.string s, .int .i64 (a : Int)] 95 (0, 0)))
theorem gm.lt {w : World} {g : Nat} {s : ByteArray} {a : Nat} (h : gm w g s a) : g < w.heap.size := (Array.getElem?_eq_some_iff.1 h.o).1
theorem gm.c0 {w : World} {g : Nat} {s : ByteArray} {a : Nat} (h : gm w g s a) : w.cell? ⟨g, 0, none⟩ = some (.string s) := cell_of_row w g 0 _ _ _ h.o
theorem gm.c1 {w : World} {g : Nat} {s : ByteArray} {a : Nat} (h : gm w g s a) : w.cell? ⟨g, 1, none⟩ = some (.int .i64 (a : Int)) := cell_of_row w g 1 _ _ _ h.o
theorem gm.fz {w : World} {g : Nat} {s : ByteArray} {a : Nat} (h : gm w g s a) (i : Nat) : w.frozen? ⟨g, i, none⟩ = false := frozen_of_row w g i _ _ h.o
theorem gm.s0 {w : World} {g : Nat} {s : ByteArray} {a : Nat} (h : gm w g s a) (t : ByteArray) : gm (w.setCell ⟨g, 0, none⟩ (.string t)) g t a := ⟨(heap_setCell_same w g 0 _ _ _ h.o).trans rfl⟩
theorem gm.s1 {w : World} {g : Nat} {s : ByteArray} {a : Nat} (h : gm w g s a) (b : Nat) : gm (w.setCell ⟨g, 1, none⟩ (.int .i64 (b : Int))) g s b := ⟨(heap_setCell_same w g 1 _ _ _ h.o).trans rfl⟩
theorem gm.below {w w1 : World} {B g : Nat} {s : ByteArray} {a : Nat} (h : gm w g s a) (hg : g < B) (hb : Below B w w1) : gm w1 g s a := ⟨(hb.block g hg).trans h.o⟩
theorem nH (a b : ByteArray) : bl (a ++ b) = bl a ++ bl b := by simp [bl]
set_option maxHeartbeats 4000000 in
set_option maxRecDepth 100000 in
theorem aD.calls (k : Nat) (a0_0 : ByteArray) (a0_1 a1 : Int) (r1 : ByteArray) (r2 : Int) (r3 : ByteArray) (w : World) (h : aD.f k a0_0 a0_1 a1 = some (r1, r2, r3)) :
    Calls Tryz.prog 86 #[.agg #[.string a0_0, .int .i64 a0_1], .int .i64 a1] w fun e w' => e = .returned (.tuple #[.agg #[.string r1, .int .i64 r2], .string r3]) ∧ Below w.heap.size w w' := by
  unfold aD.f at h
  split at h
  case isFalse => exact absurd h (by simp)
  case isTrue hc =>
  obtain ⟨hn0, hn1, hs0, ha0, ha1⟩ := hc
  obtain ⟨n, rfl⟩ := Int.eq_ofNat_of_zero_le hn0
  obtain ⟨a, rfl⟩ := Int.eq_ofNat_of_zero_le ha0
  rw [Int.toNat_natCast, Int.toNat_natCast] at h
  have HNN := aa.mk (show n ≤ 4000 by omega)
  have H' := aa.mk h
  have i1 : aZ.f (n : Int) 0 4000 = some true := by unfold aZ.f; rw [Fa (by omega)]; simp; omega
  have i2 : aZ.f (a : Int) 0 168 = some true := by unfold aZ.f; rw [Fa (by omega)]; simp; omega
  have HI1 := aa.mk i1
  have HI2 := aa.mk i2
  have hsz : ((a0_0.size : Int) != 200) = false := by simp; omega
  clear i1 i2 h hn0 hn1 ha0
  have hu53 := Tryz.underlying95
  obtain ⟨w0, hw0⟩ : ∃ w0, w0 = (w.alloc (.cells #[.string a0_0, .int .i64 (a : Int)] 95)).alloc (.cells #[.string ⟨#[]⟩, .int .i64 0] 95) := ⟨_, rfl⟩
  have hS0 : gm w0 w.heap.size a0_0 a := ⟨by rw [hw0]; exact (Below.heap_alloc (w.alloc _) _ w.heap.size (by simp)).trans (heap_alloc_new w _)⟩
  have hS1 : gm w0 (w.heap.size + 1) ⟨#[]⟩ 0 := ⟨by
    rw [hw0]
    have := heap_alloc_new (w.alloc (.cells #[.string a0_0, .int .i64 (a : Int)] 95)) (.cells #[.string ⟨#[]⟩, .int .i64 0] 95)
    rwa [cy] at this⟩
  have hB0 : Below w.heap.size w w0 := by rw [hw0]; exact el _ _ _
  have HS0 := aa.mk hS0
  have HS1 := aa.mk hS1
  have HB0 := aa.mk hB0
  have HW0 := aa.mk hw0
  have hx0 := hS0.c0
  have hx1 := hS0.c1
  clear hS0 hS1 hB0 hw0
  go_enter Tryz.func86, Tryz.ntmps86
  go_wp2_with (first
    | (go_at_call 87
       try simp only [← HW0.o]
       first
       | (with_reducible refine (aZ.calls (n : Int) 0 4000 true _ HI1.o).mono ?_)
       | (with_reducible refine (aZ.calls (a : Int) 0 168 true _ HI2.o).mono ?_)
       rintro e w1 ⟨rfl, ⟨nd, hw1⟩⟩
       have HS0 := aa.mk (show gm w1 w.heap.size a0_0 a from ⟨by rw [hw1]; exact HS0.o.o⟩)
       have HS1 := aa.mk (show gm w1 (w.heap.size + 1) ⟨#[]⟩ 0 from ⟨by rw [hw1]; exact HS1.o.o⟩)
       have HB0 := aa.mk (show Below w.heap.size w w1 from by rw [hw1]; exact bH HB0.o nd)
       have hx0 := HS0.o.c0
       have hx1 := HS0.o.c1
       clear hw1))
  have hE := co (Da w1.heap.size w1) (.cells #[] 5)
  have HO := aa.mk (show cK (w1.alloc (.cells #[] 5)) w1.heap.size (.slice (some ⟨w1.heap.size, 0, none⟩) 0 0) (bl ⟨#[]⟩) from cK.empty w1 5)
  have HNB := aa.mk (show w.heap.size < w1.heap.size ∧ w.heap.size + 1 < w1.heap.size from ⟨HS0.o.lt, HS1.o.lt⟩)
  have HS0 := aa.mk (HS0.o.below HS0.o.lt hE)
  have HS1 := aa.mk (HS1.o.below HS1.o.lt hE)
  have HB0 := aa.mk (HB0.o.trans (hE.mono HB0.o.size))
  have HBZ := aa.mk hE.size
  obtain ⟨B, hB⟩ : ∃ B, B = w1.heap.size := ⟨_, rfl⟩
  obtain ⟨N, hN⟩ : ∃ N, N = w.heap.size := ⟨_, rfl⟩
  rw [← hB] at HO HNB HBZ ⊢
  rw [← hN] at HS0 HS1 HB0 HNB ⊢
  have HN := aa.mk hN
  have HA := aa.mk ha1
  clear hx0 hx1 hE hB hN hs0 ha1 hsz
  generalize w1.alloc _ = wA at HO HS0 HS1 HB0 HBZ ⊢
  go_loopg [6] k (fun kq v wr => ∃ (o s : ByteArray) (a : Nat), aa (aD.l0 kq n o s a = some (r1, r2, r3)) ∧ aa (kq ≤ k) ∧ aa (cK wr B v (bl o)) ∧ aa (gm wr N s a) ∧ aa (gm wr (N + 1) ⟨#[]⟩ 0) ∧ aa (B ≤ wr.heap.size) ∧ aa (Below N w wr) ∧ aa (o.size ≤ n ∧ a ≤ 168))
  case atStart => exact ⟨⟨#[]⟩, a0_0, a, H', ⟨Ca _⟩, HO, HS0, HS1, HBZ, HB0, ⟨Nat.zero_le _, by have := HA.o; omega⟩⟩
  case round =>
    clear HO HS0 HS1 HBZ HB0 H'
    obtain ⟨o, s, a, HL, HK1, HO, HS0, HS1, HBZ, HB0, HOA⟩ := hrel
    cases gk with
    | zero => exact absurd HL.o (by simp [aD.l0])
    | succ k1 =>
      have H := HL.o
      clear HL
      simp only [aD.l0] at H
      obtain ⟨g, cap, hv, hrest⟩ := HO.o
      rw [dH] at hv
      subst hv
      clear hrest
      have hon2 := HOA.o
      have hn4 := HNN.o
      by_cases hon : o.size < n
      · rw [Fa hon] at H
        have hl1 : decide ((o.size : Int) < (n : Int)) = true := ya (by omega)
        have hl2 : decide (o.size < n) = true := ya hon
        have hx1 := HS0.o.c1
        have hx0 := HS0.o.c0
        by_cases ha : a = 168
        · rw [Fa ha] at H
          obtain ⟨t, ht, H⟩ := Option.bind_eq_some_iff.mp H
          split at H
          case isFalse => exact absurd H (by simp)
          case isTrue hs200 =>
            subst ha
            have HPT := aa.mk ht
            have hsz200 : (t.size : Int) = 200 := by omega
            have hf0 := HS0.o.fz 0
            have hnx : aD.l0 k1 n (o ++ t.extract 0 (0 + min (168 - 0) (n - o.size))) t (0 + min (168 - 0) (n - o.size)) = some (r1, r2, r3) := by simpa using H
            clear H ht
            go_upto_region 8 with (first
              | (go_at_call 107
                 (with_reducible refine (dc.calls k1 s t _ HPT.o).mono ?_)
                 rintro e w5 ⟨rfl, hb5⟩
                 have HO := aa.mk (HO.o.below hb5)
                 have HBZ := aa.mk (Nat.le_trans HBZ.o hb5.size)
                 have HS1 := aa.mk (HS1.o.below HS1.o.lt hb5)
                 have HS0 := aa.mk (HS0.o.below HS0.o.lt hb5)
                 have HB0 := aa.mk (HB0.o.trans (hb5.mono (by rw [HN.o]; exact HB0.o.size)))
                 have hy0 := HS0.o.c0
                 have hy1 := HS0.o.c1
                 have hz0 := HS0.o.fz 0
                 have hz1 := HS0.o.fz 1
                 clear hb5))
            clear hx0 hx1 hf0 hy0 hy1 hz0 hz1
            have HO := aa.mk ((HO.o.setfar (p := ⟨N, 0, none⟩) (by show N < B; exact HNB.o.1) (.string t)).setfar (p := ⟨N, 1, none⟩) (by show N < B; exact HNB.o.1) (.int .i64 ((0 : Nat) : Int)))
            have HS1 := aa.mk (show gm ((w5.setCell ⟨N, 0, none⟩ (.string t)).setCell ⟨N, 1, none⟩ (.int .i64 ((0 : Nat) : Int))) (N + 1) ⟨#[]⟩ 0 from ⟨(heap_setCell_other _ ⟨N, 1, none⟩ (N + 1) _ (by show N + 1 ≠ N; omega)).trans ((heap_setCell_other w5 ⟨N, 0, none⟩ (N + 1) _ (by show N + 1 ≠ N; omega)).trans HS1.o.o)⟩)
            have HB0 := aa.mk (bZ (bZ HB0.o (p := ⟨N, 0, none⟩) (by show N ≤ N; omega) (.string t)) (p := ⟨N, 1, none⟩) (by show N ≤ N; omega) (.int .i64 ((0 : Nat) : Int)))
            have HBZ := aa.mk (show B ≤ ((w5.setCell ⟨N, 0, none⟩ (.string t)).setCell ⟨N, 1, none⟩ (.int .i64 ((0 : Nat) : Int))).heap.size by simpa [World.setCell] using HBZ.o)
            have HS0 := aa.mk ((HS0.o.s0 t).s1 0)
            obtain ⟨z, hz⟩ : ∃ z : Nat, 0 = z := ⟨_, rfl⟩
            rw [hz] at HS0 hnx
            have hz168 : z < 168 := by omega
            have e0 : World.setCell (World.setCell w5 ⟨N, 0, none⟩ (.string t)) ⟨N, 1, none⟩ (.int .i64 ((0 : Nat) : Int)) = World.setCell (World.setCell w5 ⟨N, 0, none⟩ (.string t)) ⟨N, 1, none⟩ (.int .i64 0) := rfl
            rw [e0] at HO HS1 HB0 HBZ
            have HS0 := aa.mk (show gm (World.setCell (World.setCell w5 ⟨N, 0, none⟩ (.string t)) ⟨N, 1, none⟩ (.int .i64 0)) N t z from by have := HS0.o; rw [← hz] at this ⊢; exact this)
            clear hz e0
            generalize World.setCell (World.setCell w5 _ _) _ _ = wr at HO HS0 HS1 HB0 HBZ ⊢
            have hx1 := HS0.o.c1
            have hx0 := HS0.o.c0
            have e2 : IntKind.i64.wrap (168 - (z : Int)) = ((168 - z : Nat) : Int) := (IntWalk.i64_in _ (by omega)).trans (by omega)
            have e3 : IntKind.i64.wrap ((n : Int) - (o.size : Int)) = ((n - o.size : Nat) : Int) := (IntWalk.i64_in _ (by omega)).trans (by omega)
            by_cases hgt : n - o.size < 168 - z
            rotate_left
            have hg1 : decide (((n - o.size : Nat) : Int) < ((168 - z : Nat) : Int)) = false := za (by omega)
            have hg2 : decide (n - o.size < 168 - z) = false := za hgt
            obtain ⟨c, hc⟩ : ∃ c, c = 168 - z := ⟨_, rfl⟩
            rw [← hc] at e2 hg1 hg2
            obtain ⟨d, hd⟩ : ∃ d, d = n - o.size := ⟨_, rfl⟩
            rw [← hd] at e3 hg1 hg2
            have hcq : c = min (168 - z) (n - o.size) := by omega
            obtain ⟨q, hq⟩ : ∃ q, q = z + c := ⟨_, rfl⟩
            have e4 : IntKind.i64.wrap ((z : Int) + (c : Int)) = (q : Int) := (IntWalk.i64_in _ (by omega)).trans (by omega)
            have e4b : IntKind.i64.wrap ((z : Int) + ((168 - z : Nat) : Int)) = (q : Int) := by rw [← hc]; exact e4
            have q5 : (q ≤ t.size) = True := Aa (by omega)
            rotate_left
            have hg1 : decide (((n - o.size : Nat) : Int) < ((168 - z : Nat) : Int)) = true := ya (by omega)
            have hg2 : decide (n - o.size < 168 - z) = true := ya hgt
            obtain ⟨c, hc⟩ : ∃ c, c = n - o.size := ⟨_, rfl⟩
            rw [← hc] at e3 hg1 hg2
            obtain ⟨d, hd⟩ : ∃ d, d = 168 - z := ⟨_, rfl⟩
            rw [← hd] at e2 hg1 hg2
            have hcq : c = min (168 - z) (n - o.size) := by omega
            obtain ⟨q, hq⟩ : ∃ q, q = z + c := ⟨_, rfl⟩
            have e4 : IntKind.i64.wrap ((z : Int) + (c : Int)) = (q : Int) := (IntWalk.i64_in _ (by omega)).trans (by omega)
            have e4b : IntKind.i64.wrap ((z : Int) + ((n - o.size : Nat) : Int)) = (q : Int) := by rw [← hc]; exact e4
            have q5 : (q ≤ t.size) = True := Aa (by omega)
            all_goals
              have q6 : ((q : Int) ≤ (t.size : Int)) = True := Aa (by omega)
              have q1 : (z ≤ q) = True := Aa (by omega)
              have q2 : (q ≤ 200) = True := Aa (by omega)
              have q3 : ((z : Int) ≤ (q : Int)) = True := Aa (by omega)
              have q4 : ((q : Int) ≤ 200) = True := Aa (by omega)
              have hnext : aD.l0 k1 n (o ++ t.extract z q) t q = some (r1, r2, r3) := by rw [hq, hcq]; exact hnx
              have hexs : (t.extract z q).size = c := by rw [ByteArray.size_extract]; omega
              have H' := aa.mk hnext
              have HQ := aa.mk (show q ≤ 168 ∧ o.size + c ≤ n by omega)
              have hcv := Lib.run_convert_string_bytes (P := Tryz.prog) wr 9 22 5 (t.extract z q) Tryz.underlying9 Tryz.underlying22 Tryz.underlying5
              have HOC := aa.mk (cK.conv wr 5 (t.extract z q))
              have hbb := fd wr 5 (t.extract z q)
              have HO := aa.mk (HO.o.below hbb)
              have HS0 := aa.mk (HS0.o.below HS0.o.lt hbb)
              have HS1 := aa.mk (HS1.o.below HS1.o.lt hbb)
              have HBZ := aa.mk (Nat.le_trans HBZ.o hbb.size)
              have HB0 := aa.mk (HB0.o.trans (hbb.mono (by rw [HN.o]; exact HB0.o.size)))
              have HSX := aa.mk hexs
              have HSX2 := aa.mk (show (t.extract z q).size = q - z by omega)
              clear hnx hcq hq hnext hexs hbb hon hon2 hs200 hsz200
              go_wp2_with (first
                | (refine ld rfl (.tmp 50) (.tmp 60) 22 rfl 5 Tryz.underlying22 (by kernel_rfl) B rfl HO.o HBZ.o wr.heap.size _ (bl (t.extract z q)) (by rw [dH, HSX2.o]; rfl) (fun j hj => by rw [dH] at hj; exact HOC.o.cells.2.2.2.2.1 j (by rw [dH]; exact hj)) (by rw [dH, dH, HSX.o]; have := HQ.o; have := HNN.o; omega) ?_
                   rintro v2 w2 ho2 hb2
                   have HO2 := aa.mk (show cK w2 B v2 (bl (o ++ t.extract z q)) by rw [nH]; exact ho2)
                   have HS0 := aa.mk (HS0.o.below HNB.o.1 hb2)
                   have HS1 := aa.mk (HS1.o.below HNB.o.2 hb2)
                   have HBZ := aa.mk (Nat.le_trans HBZ.o hb2.size)
                   have HB0 := aa.mk (HB0.o.trans (hb2.mono (by have := HNB.o; omega)))
                   have hy1 := HS0.o.c1
                   have hyf := HS0.o.fz 1
                   clear ho2 hb2))
              have HO2 := aa.mk (HO2.o.setfar (p := ⟨N, 1, none⟩) (by show N < B; exact HNB.o.1) (.int .i64 (q : Int)))
              have HS1 := aa.mk (show gm (w2.setCell ⟨N, 1, none⟩ (.int .i64 (q : Int))) (N + 1) ⟨#[]⟩ 0 from ⟨(heap_setCell_other w2 ⟨N, 1, none⟩ (N + 1) _ (by show N + 1 ≠ N; omega)).trans HS1.o.o⟩)
              have HB0 := aa.mk (bZ HB0.o (p := ⟨N, 1, none⟩) (by show N ≤ N; omega) (.int .i64 (q : Int)))
              have HS0 := aa.mk (HS0.o.s1 q)
              have HBZ := aa.mk (show B ≤ (w2.setCell ⟨N, 1, none⟩ (.int .i64 (q : Int))).heap.size by simpa [World.setCell] using HBZ.o)
              generalize World.setCell w2 _ _ = w3 at HO2 HS0 HS1 HBZ HB0 ⊢
              go_roundg k1
              case measure => have := HK1.o; omega
              case rel => exact ⟨_, _, q, H', ⟨by have := HK1.o; omega⟩, HO2, HS0, HS1, HBZ, HB0, ⟨by rw [ByteArray.size_append, HSX.o]; exact HQ.o.2, HQ.o.1⟩⟩
        · rw [Ga ha] at H
          split at H
          case isFalse => exact absurd H (by simp)
          case isTrue hc2 =>
            obtain ⟨ha168, hs200⟩ := hc2
            have hnx := H
            have hsz200 : (s.size : Int) = 200 := by omega
            have hl3 : ((a : Int) == 168) = false := by simp; omega
            have hl4 : decide ((a : Int) = 168) = false := za (by omega)
            clear H
            have e2 : IntKind.i64.wrap (168 - (a : Int)) = ((168 - a : Nat) : Int) := (IntWalk.i64_in _ (by omega)).trans (by omega)
            have e3 : IntKind.i64.wrap ((n : Int) - (o.size : Int)) = ((n - o.size : Nat) : Int) := (IntWalk.i64_in _ (by omega)).trans (by omega)
            by_cases hgt : n - o.size < 168 - a
            rotate_left
            have hg1 : decide (((n - o.size : Nat) : Int) < ((168 - a : Nat) : Int)) = false := za (by omega)
            have hg2 : decide (n - o.size < 168 - a) = false := za hgt
            obtain ⟨c, hc⟩ : ∃ c, c = 168 - a := ⟨_, rfl⟩
            rw [← hc] at e2 hg1 hg2
            obtain ⟨d, hd⟩ : ∃ d, d = n - o.size := ⟨_, rfl⟩
            rw [← hd] at e3 hg1 hg2
            have hcq : c = min (168 - a) (n - o.size) := by omega
            obtain ⟨q, hq⟩ : ∃ q, q = a + c := ⟨_, rfl⟩
            have e4 : IntKind.i64.wrap ((a : Int) + (c : Int)) = (q : Int) := (IntWalk.i64_in _ (by omega)).trans (by omega)
            have e4b : IntKind.i64.wrap ((a : Int) + ((168 - a : Nat) : Int)) = (q : Int) := by rw [← hc]; exact e4
            have q5 : (q ≤ s.size) = True := Aa (by omega)
            rotate_left
            have hg1 : decide (((n - o.size : Nat) : Int) < ((168 - a : Nat) : Int)) = true := ya (by omega)
            have hg2 : decide (n - o.size < 168 - a) = true := ya hgt
            obtain ⟨c, hc⟩ : ∃ c, c = n - o.size := ⟨_, rfl⟩
            rw [← hc] at e3 hg1 hg2
            obtain ⟨d, hd⟩ : ∃ d, d = 168 - a := ⟨_, rfl⟩
            rw [← hd] at e2 hg1 hg2
            have hcq : c = min (168 - a) (n - o.size) := by omega
            obtain ⟨q, hq⟩ : ∃ q, q = a + c := ⟨_, rfl⟩
            have e4 : IntKind.i64.wrap ((a : Int) + (c : Int)) = (q : Int) := (IntWalk.i64_in _ (by omega)).trans (by omega)
            have e4b : IntKind.i64.wrap ((a : Int) + ((n - o.size : Nat) : Int)) = (q : Int) := by rw [← hc]; exact e4
            have q5 : (q ≤ s.size) = True := Aa (by omega)
            all_goals
              have q6 : ((q : Int) ≤ (s.size : Int)) = True := Aa (by omega)
              have q1 : (a ≤ q) = True := Aa (by omega)
              have q2 : (q ≤ 200) = True := Aa (by omega)
              have q3 : ((a : Int) ≤ (q : Int)) = True := Aa (by omega)
              have q4 : ((q : Int) ≤ 200) = True := Aa (by omega)
              have hnext : aD.l0 k1 n (o ++ s.extract a q) s q = some (r1, r2, r3) := by rw [hq, hcq]; exact hnx
              have hexs : (s.extract a q).size = c := by rw [ByteArray.size_extract]; omega
              have H' := aa.mk hnext
              have HQ := aa.mk (show q ≤ 168 ∧ o.size + c ≤ n by omega)
              have hcv := Lib.run_convert_string_bytes (P := Tryz.prog) wr 9 22 5 (s.extract a q) Tryz.underlying9 Tryz.underlying22 Tryz.underlying5
              have HOC := aa.mk (cK.conv wr 5 (s.extract a q))
              have hbb := fd wr 5 (s.extract a q)
              have HO := aa.mk (HO.o.below hbb)
              have HS0 := aa.mk (HS0.o.below HS0.o.lt hbb)
              have HS1 := aa.mk (HS1.o.below HS1.o.lt hbb)
              have HBZ := aa.mk (Nat.le_trans HBZ.o hbb.size)
              have HB0 := aa.mk (HB0.o.trans (hbb.mono (by rw [HN.o]; exact HB0.o.size)))
              have HSX := aa.mk hexs
              have HSX2 := aa.mk (show (s.extract a q).size = q - a by omega)
              clear hnx hcq hq hnext hexs hbb hon hon2 hs200 hsz200
              go_wp2_with (first
                | (refine ld rfl (.tmp 50) (.tmp 60) 22 rfl 5 Tryz.underlying22 (by kernel_rfl) B rfl HO.o HBZ.o wr.heap.size _ (bl (s.extract a q)) (by rw [dH, HSX2.o]; rfl) (fun j hj => by rw [dH] at hj; exact HOC.o.cells.2.2.2.2.1 j (by rw [dH]; exact hj)) (by rw [dH, dH, HSX.o]; have := HQ.o; have := HNN.o; omega) ?_
                   rintro v2 w2 ho2 hb2
                   have HO2 := aa.mk (show cK w2 B v2 (bl (o ++ s.extract a q)) by rw [nH]; exact ho2)
                   have HS0 := aa.mk (HS0.o.below HNB.o.1 hb2)
                   have HS1 := aa.mk (HS1.o.below HNB.o.2 hb2)
                   have HBZ := aa.mk (Nat.le_trans HBZ.o hb2.size)
                   have HB0 := aa.mk (HB0.o.trans (hb2.mono (by have := HNB.o; omega)))
                   have hy1 := HS0.o.c1
                   have hyf := HS0.o.fz 1
                   clear ho2 hb2))
              have HO2 := aa.mk (HO2.o.setfar (p := ⟨N, 1, none⟩) (by show N < B; exact HNB.o.1) (.int .i64 (q : Int)))
              have HS1 := aa.mk (show gm (w2.setCell ⟨N, 1, none⟩ (.int .i64 (q : Int))) (N + 1) ⟨#[]⟩ 0 from ⟨(heap_setCell_other w2 ⟨N, 1, none⟩ (N + 1) _ (by show N + 1 ≠ N; omega)).trans HS1.o.o⟩)
              have HB0 := aa.mk (bZ HB0.o (p := ⟨N, 1, none⟩) (by show N ≤ N; omega) (.int .i64 (q : Int)))
              have HS0 := aa.mk (HS0.o.s1 q)
              have HBZ := aa.mk (show B ≤ (w2.setCell ⟨N, 1, none⟩ (.int .i64 (q : Int))).heap.size by simpa [World.setCell] using HBZ.o)
              generalize World.setCell w2 _ _ = w3 at HO2 HS0 HS1 HBZ HB0 ⊢
              go_roundg k1
              case measure => have := HK1.o; omega
              case rel => exact ⟨_, _, q, H', ⟨by have := HK1.o; omega⟩, HO2, HS0, HS1, HBZ, HB0, ⟨by rw [ByteArray.size_append, HSX.o]; exact HQ.o.2, HQ.o.1⟩⟩
      · rw [Ga hon] at H
        have hl1 : decide ((o.size : Int) < (n : Int)) = false := za (by omega)
        have hl2 : decide (o.size < n) = false := za hon
        have hI := Ba H
        have HI := aa.mk hI
        clear H hI hon hon2 hn4
        have hx0 := HS0.o.c0
        have hx1 := HS0.o.c1
        have hy0 := HS1.o.c0
        have hy1 := HS1.o.c1
        have hz0 := HS1.o.fz 0
        have hz1 := HS1.o.fz 1
        have hcvT : ∀ wx : World, cK wx B (.slice (some ⟨g, 0, none⟩) o.size cap) (bl o) → (convert 22 9 (.slice (some ⟨g, 0, none⟩) o.size cap)).run Tryz.prog wx = .ok (.string o) wx := by
          intro wx hO
          have hcv := run_convert_bytes_arg (P := Tryz.prog) wx 22 5 Tryz.underlying22 Tryz.underlying5 g 0 o.size cap (bl o) (dH o) (fun i hi => by rw [Nat.zero_add]; exact (hO.cells.2.2.2.2.1 i (by rw [dH]; exact hi)).trans (by rw [dv])) 9 Tryz.underlying9
          rw [kr] at hcv
          exact hcv
        have hcv1 := hcvT wr.drew HO.o.drew
        have hcv2 := hcvT ((wr.setCell ⟨N + 1, 0, none⟩ (.string s)).setCell ⟨N + 1, 1, none⟩ (.int .i64 (a : Int))).drew (((HO.o.setfar (p := ⟨N + 1, 0, none⟩) HNB.o.2 _).setfar (p := ⟨N + 1, 1, none⟩) HNB.o.2 _).drew)
        have HCV := aa.mk hcvT
        clear hcvT
        go_wp2
        go_region
        all_goals
          go_wp2
          have hE := ((HS1.o.s0 s).s1 a).o
          refine bodyPost_ret (gQ rfl _ _ (N + 1) 95 #[.string s, .int .i64 (a : Int)] (0, 0) _ rfl hE Tryz.underlying95 rfl (by kernel_rfl)) rfl ?_
          have hI := HI.o
          simp only [Prod.mk.injEq] at hI
          obtain ⟨rfl, rfl, rfl⟩ := hI
          refine ⟨rfl, ?_⟩
          rw [← HN.o]
          exact dq (bZ (bZ HB0.o (by show N ≤ N + 1; omega) _) (by show N ≤ N + 1; omega) _)
end Go.Proofs.YtmiackbomcjboaaGreatDoor.P
