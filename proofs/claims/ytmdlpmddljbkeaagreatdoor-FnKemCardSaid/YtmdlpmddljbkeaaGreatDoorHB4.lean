/- Walks by hand: the program's state behind a text. -/
import Derived.Test.YtmdlpmddljbkeaaGreatDoorHB3
namespace Go.Proofs.YtmdlpmddljbkeaaGreatDoor.P
open Go.RowKit YtmdlpmddljbkeaaGreatDoorW.PrintWords YtmdlpmddljbkeaaGreatDoorW.PrintLast YtmdlpmddljbkeaaGreatDoorW.PrintMore YtmdlpmddljbkeaaGreatDoor.Kit
open Kd
set_option linter.unusedVariables false
set_option linter.unusedSimpArgs false

/-- A text filled up to whole blocks of 168 bytes. -/
def fD (s : ByteArray) (c : Int) (j : Nat) : List Int := (bl s ++ [c]) ++ List.replicate j 0
def kH (s : ByteArray) : Nat := (168 - (s.size + 1) % 168) % 168
theorem ju (s : ByteArray) : kH s < 168 := Nat.mod_lt _ (by decide)
theorem jg (s : ByteArray) (c : Int) (j : Nat) : (fD s c j).length = s.size + 1 + j := by
  simp only [fD, List.length_append, dU, List.length_replicate, List.length_singleton]
theorem nt (s : ByteArray) (c : Int) (j : Nat) : fD s c (j + 1) = fD s c j ++ [0] := by
  simp only [fD, List.append_assoc, List.replicate_succ']
/-- Its last byte's highest bit is turned. -/
def qd (T : List Int) : List Int := T.set (T.length - 1) (Go.bits .xor .u8 (rd T ((T.length - 1 : Nat) : Int)) 128)
theorem qG (T : List Int) : (qd T).length = T.length := by simp only [qd, List.length_set]
def hD (s : ByteArray) (c : Int) : List Int := qd (fD s c (kH s))
theorem my (s : ByteArray) (c : Int) : (hD s c).length = s.size + 1 + kH s := by rw [hD, qG, jg]
theorem ur (s : ByteArray) (c : Int) : (hD s c).length % 168 = 0 ∧ s.size < (hD s c).length ∧ (hD s c).length ≤ s.size + 168 := by
  rw [my]
  unfold kH
  omega
/-- A state's bytes, i of them turned by a block's. -/
def ii (st T : List Int) (o : Nat) : Nat → List Int
  | 0 => st
  | i + 1 => (ii st T o i).set i (Go.bits .xor .u8 (rd (ii st T o i) (i : Int)) (rd T ((o + i : Nat) : Int)))
theorem j9 (st T : List Int) (o i : Nat) : (ii st T o i).length = st.length := by
  induction i with
  | zero => rfl
  | succ i ih => simp only [ii, List.length_set, ih]
def fh (s : ByteArray) : ByteArray := fM.v (cE.v (dc.v s))
theorem gH (s : ByteArray) : (fh s).size = 200 := by
  unfold fh fM.v
  rw [strOfNums_size, du]
theorem qx (s : ByteArray) (h : s.size = 200) : dJ.f s = some (fh s) := by
  unfold dJ.f
  rw [Fa (by omega)]
  rfl
/-- The state behind n blocks. -/
def gO (T : List Int) : Nat → List Int
  | 0 => List.replicate 200 0
  | n + 1 => bl (fh (strOfNums (ii (gO T n) T (168 * n) 168)))
theorem im (T : List Int) (n : Nat) : (gO T n).length = 200 := by
  cases n with
  | zero => simp only [gO, List.length_replicate]
  | succ n => simp only [gO, dU, gH]
def db.f (k : Nat) (a0 : ByteArray) (a1 a2 : Int) : Option ByteArray :=
  if a1 = 168 ∧ a0.size ≤ 1000000000000 then some (strOfNums (gO (hD a0 a2) ((hD a0 a2).length / 168))) else none
theorem db.mono : ∀ a0 a1 a2 k, LeO (db.f k a0 a1 a2) (db.f (k + 1) a0 a1 a2) := fun _ _ _ _ => LeO.refl _
set_option maxHeartbeats 4000000 in
set_option maxRecDepth 100000 in
theorem db.calls (k : Nat) (a0 : ByteArray) (a1 a2 : Int) (r : ByteArray) (w : World) (h : db.f k a0 a1 a2 = some r) : Calls Tryz.prog 106 #[.string a0, .int .i64 a1, .int .u8 a2] w fun e w' => e = .returned (.string r) ∧ Below w.heap.size w w' := by
  unfold db.f at h
  split at h
  case isFalse => exact absurd h (by simp)
  case isTrue hc =>
  obtain ⟨h1, h2⟩ := hc
  subst h1
  have HR := aa.mk (Ba h)
  have HSZ := aa.mk h2
  clear h h2
  have hcv := Lib.run_convert_string_bytes (P := Tryz.prog) w 9 22 5 a0 Tryz.underlying9 Tryz.underlying22 Tryz.underlying5
  have HO := aa.mk (cF.conv w 5 a0)
  have HB := aa.mk (ft w 5 a0)
  obtain ⟨N, hN⟩ : ∃ N, N = w.heap.size := ⟨_, rfl⟩
  have HN := aa.mk hN
  go_enter Tryz.func106, Tryz.ntmps106
  go_wp2_with (first
    | (refine fK rfl (.tmp 12) (.tmp 14) 22 rfl 5 Tryz.underlying22 (by kernel_rfl) w.heap.size rfl rfl HO.o HB.o.size _ rfl (by rw [dU]; have := HSZ.o; omega) ?_
       rintro v2 w2 ho2 hb2
       have HO := aa.mk (show cF w2 w.heap.size v2 (fD a0 a2 0) by simpa [fD] using ho2)
       have HB := aa.mk (HB.o.trans hb2)
       clear ho2 hb2))
  clear hcv
  rw [← hN] at HO HB
  rw [← hN]
  clear hN
  go_loopw [7] (fun v wr => ∃ j : Nat, aa (j ≤ kH a0) ∧ aa (cF wr N v (fD a0 a2 j)) ∧ aa (Below N w wr)) (fun v _ => match v with | .slice _ n _ => a0.size + 400 - n | _ => 0)
  case atStart => exact ⟨0, ⟨Nat.zero_le _⟩, HO, HB⟩
  case round =>
    clear HO HB
    obtain ⟨j, HJ, HO, HB⟩ := hrel
    obtain ⟨g, cap, hv, hrest⟩ := HO.o
    subst hv
    clear hrest
    obtain ⟨m, hm⟩ : ∃ m, m = (fD a0 a2 j).length := ⟨_, rfl⟩
    rw [← hm] at HO ⊢
    have HML := aa.mk hm
    rw [jg] at hm
    have HM := aa.mk hm
    have hj := HJ.o
    have hsz := HSZ.o
    have hpj := ju a0
    by_cases hlt : m % 168 = 0
    · have hlk : ((m : Int) % 168 != 0) = false := by simp; omega
      have hjp : j = kH a0 := by unfold kH at hj ⊢; omega
      obtain ⟨q, hq⟩ : ∃ q, q = m - 1 := ⟨_, rfl⟩
      have e1 : IntKind.i64.wrap ((m : Int) - 1) = (q : Int) := (IntWalk.i64_in _ (by omega)).trans (by omega)
      have hqm : q < (fD a0 a2 j).length := by rw [← HML.o]; omega
      have hx1 : wr.cell? ⟨g, q, none⟩ = some (.int .u8 (rd (fD a0 a2 j) (q : Int))) := (HO.o.cells.2.2.2.2.1 q hqm).trans (by rw [dl])
      have hf1 : wr.frozen? ⟨g, q, none⟩ = false := HO.o.froz q hqm
      have hq1 : ((q : Int) < (m : Int)) = True := Aa (by omega)
      have HOX := aa.mk (HO.o.set q hqm (Go.bits .xor .u8 (rd (fD a0 a2 j) (q : Int)) 128))
      have HGN := aa.mk (show N ≤ g from HO.o.cells.2.1)
      have HGL := aa.mk (show g < wr.heap.size from HO.o.cells.2.2.1)
      have hT : (fD a0 a2 j).set q (Go.bits .xor .u8 (rd (fD a0 a2 j) (q : Int)) 128) = hD a0 a2 := by
        rw [hq, HML.o, hjp]; rfl
      rw [hT] at HOX
      have HR := aa.mk HR.o
      have hTl : (hD a0 a2).length = m := by rw [my, ← hjp]; exact hm.symm
      obtain ⟨T, hTT⟩ : ∃ T, T = hD a0 a2 := ⟨_, rfl⟩
      rw [← hTT] at HOX HR hTl
      have HTL := aa.mk hTl
      have HM168 := aa.mk (show m % 168 = 0 ∧ m ≤ 1000000001000 from ⟨hlt, by unfold kH at hj; omega⟩)
      clear hT hTl hTT hjp hqm hj hm hlt hsz hq hpj
      go_wp2_with (first
        | ((with_reducible refine cO (N := 32) rfl ?_)
           have HB := aa.mk (ce HB.o (p := ⟨g, q, none⟩) HGN.o (.int .u8 (Go.bits .xor .u8 (rd (fD a0 a2 j) (q : Int)) 128)))
           have HGL := aa.mk (show g < (wr.setCell ⟨g, q, none⟩ (.int .u8 (Go.bits .xor .u8 (rd (fD a0 a2 j) (q : Int)) 128))).heap.size from HOX.o.cells.2.2.1)
           generalize (wr.setCell ⟨g, q, none⟩ (.int .u8 (Go.bits .xor .u8 (rd (fD a0 a2 j) (q : Int)) 128))) = ws at HOX HB HGL ⊢
           refine vu (Kd.int .u8) (w0 := w) N 5 rfl (N := 32) rfl 22 _ _ rfl 200 rfl rfl Tryz.underlying22 (.int .u8 0) 1 jq rfl (by decide) (by omega) 0 (ok := fun _ => True) (okp := fun _ => True) rfl (fun _ hk => hk) trivial (by omega) (by omega) HB.o (Nat.le_of_lt (Nat.lt_of_le_of_lt HGN.o HGL.o)) ?_
           intro v1 w1 ho hb hg_ hnew_
           have ho2 : (Kd.int .u8).R 5 w1 N (fun _ => True) v1 (gO T 0) := ho
           have HOM := aa.mk (cF.of_R ho2 (by rw [im]; omega))
           have HOX := aa.mk (HOX.o.below (gS hg_))
           have HB := aa.mk hb
           obtain ⟨g2, cap2, hv, hrest⟩ := HOM.o
           rw [im] at hv
           subst hv
           have hne : g2 ≠ g := by
             obtain ⟨b, hb1, hb2⟩ := hnew_
             have h1 : g2 = b := by simpa [Value.ownBlock] using hb1
             have := HGL.o
             omega
           have HNE := aa.mk hne
           clear ho ho2 hb hg_ hnew_ hrest hne))
      clear hx1 hf1
      go_loopw [8, 9] (fun v c wr => ∃ (n g2 cap2 : Nat), c = .int .i64 ((168 * n : Nat) : Int) ∧ v = .slice (some ⟨g2, 0, none⟩) 200 cap2 ∧ aa (168 * n ≤ m) ∧ aa (g2 ≠ g) ∧ aa (cF wr N (.slice (some ⟨g, 0, none⟩) m cap) T) ∧ aa (cF wr N (.slice (some ⟨g2, 0, none⟩) 200 cap2) (gO T n)) ∧ aa (Below N w wr)) (fun _ c _ => m - (intOf c).toNat)
      case atStart => exact ⟨0, g2, cap2, rfl, rfl, ⟨Nat.zero_le _⟩, HNE, HOX, HOM, HB⟩
      case round =>
        clear HOX HOM HB HNE HGL HGN
        obtain ⟨n, g3, cap3, rfl, rfl, HN3, HNE, HOX, HOS, HB⟩ := hrel
        obtain ⟨p, hp⟩ : ∃ p, p = 168 * n := ⟨_, rfl⟩
        have hn3 := HN3.o
        have hm168 := HM168.o
        rw [← hp] at hn3 ⊢
        have HPP := aa.mk hp
        by_cases hlt : p < m
        · have hlk3 : decide ((p : Int) < (m : Int)) = true := ya (by omega)
          have HLT := aa.mk hlt
          clear hn3 hm168 hp
          go_wp2
          go_loopw [41] (fun c wr => ∃ i : Nat, c = .int .i64 (i : Int) ∧ aa (i ≤ 168) ∧ aa (cF wr N (.slice (some ⟨g, 0, none⟩) m cap) T) ∧ aa (cF wr N (.slice (some ⟨g3, 0, none⟩) 200 cap3) (ii (gO T n) T p i)) ∧ aa (Below N w wr)) (fun c _ => 168 - (intOf c).toNat)
          case atStart => exact ⟨0, rfl, ⟨by omega⟩, HOX, HOS, HB⟩
          case round =>
            clear HOX HOS HB
            obtain ⟨i, rfl, HI, HOX, HOS, HB⟩ := hrel
            have hi := HI.o
            have hxl : (ii (gO T n) T p i).length = 200 := by rw [j9, im]
            have HXL := aa.mk hxl
            by_cases hlti : i < 168
            · have hlk4 : decide ((i : Int) < 168) = true := ya (by omega)
              obtain ⟨o, ho⟩ : ∃ o, o = p + i := ⟨_, rfl⟩
              have hpm := HPP.o
              have hm168 := HM168.o
              have e1 : IntKind.i64.wrap ((p : Int) + (i : Int)) = (o : Int) := (IntWalk.i64_in _ (by omega)).trans (by omega)
              have ko : o < T.length := by have := HTL.o; omega
              have ki : i < (ii (gO T n) T p i).length := by omega
              have hi2 : ((i : Int) < 200) = True := Aa (by omega)
              have ho2 : ((o : Int) < (m : Int)) = True := Aa (by have := HTL.o; omega)
              have hxs : ii (gO T n) T p (i + 1) = (ii (gO T n) T p i).set i (Go.bits .xor .u8 (rd (ii (gO T n) T p i) (i : Int)) (rd T ((p + i : Nat) : Int))) := rfl
              rw [← ho] at hxs
              have HXS := aa.mk hxs
              have HKO := aa.mk ko
              have HKI := aa.mk ki
              clear hi hxl ho hpm hm168 ko ki hxs
              go_wp2
              refine wp_region_still_tail 12 (by kernel_rfl) (by kernel_rfl) ?_
              simp only [List.take_succ_cons, List.take_zero, List.drop_succ_cons, List.drop_zero]
              change wpStill _ _ wr.drew (fun a' => wpList _ _ _ _ a' wr.drew) _ _
              have HOX := aa.mk HOX.o.drew
              have HOS := aa.mk HOS.o.drew
              have HB := aa.mk (dt HB.o)
              generalize wr.drew = w4 at HOX HOS HB ⊢
              have hx1 : w4.cell? ⟨g3, i, none⟩ = some (.int .u8 (rd (ii (gO T n) T p i) (i : Int))) := (HOS.o.cells.2.2.2.2.1 i HKI.o).trans (by rw [dl])
              have hx2 : w4.cell? ⟨g, o, none⟩ = some (.int .u8 (rd T (o : Int))) := (HOX.o.cells.2.2.2.2.1 o HKO.o).trans (by rw [dl])
              have hf1 : w4.frozen? ⟨g3, i, none⟩ = false := HOS.o.froz i HKI.o
              repeat still_step
              refine wpStill_nil ?_
              go_wp2
              go_roundw
              case rel =>
                refine ⟨i + 1, by go_num, ⟨by omega⟩, ⟨HOX.o.far (by show g3 ≠ g; exact HNE.o) _⟩, ⟨?_⟩, ⟨ce HB.o (by show N ≤ g3; exact HOS.o.cells.2.1) _⟩⟩
                rw [HXS.o]
                exact HOS.o.set i HKI.o _
              case measure => simp [intOf]; omega
            · have hlk4 : decide ((i : Int) < 168) = false := za (by omega)
              obtain rfl : i = 168 := by omega
              clear hlti hi hxl
              have hcv1 := run_convert_bytes_arg (P := Tryz.prog) wr 22 5 Tryz.underlying22 Tryz.underlying5 g3 0 200 cap3 (ii (gO T n) T p 168) HXL.o (fun i hi => by rw [Nat.zero_add]; exact (HOS.o.cells.2.2.2.2.1 i (by rw [HXL.o]; exact hi)).trans (by rw [dl])) 9 Tryz.underlying9
              obtain ⟨S, hS⟩ : ∃ S, S = strOfNums (ii (gO T n) T p 168) := ⟨_, rfl⟩
              have hPf : dJ.f S = some (fh S) := qx S (by rw [hS, strOfNums_size, HXL.o])
              have hnx : gO T (n + 1) = bl (fh S) := by rw [hS, HPP.o]; rfl
              rw [← hS] at hcv1
              have HPF := aa.mk hPf
              have HNX := aa.mk hnx
              have HPS := aa.mk (gH S)
              generalize fh S = Q at HPF HNX HPS
              clear hPf hnx hS
              have e9 : IntKind.i64.wrap ((p : Int) + 168) = ((168 * (n + 1) : Nat) : Int) := (IntWalk.i64_in _ (by have := HLT.o; have := HM168.o; omega)).trans (by have := HPP.o; omega)
              go_wp2_with (first
                | (go_at_call 107
                   (with_reducible refine (dJ.calls S Q _ HPF.o).mono ?_)
                   rintro e w6 ⟨rfl, hb6⟩
                   have hcv2 := Lib.run_convert_string_bytes (P := Tryz.prog) w6 9 22 5 Q Tryz.underlying9 Tryz.underlying22 Tryz.underlying5
                   have HOX6 := aa.mk (HOX.o.below hb6)
                   have HB6 := aa.mk (HB.o.trans (hb6.mono (by rw [HN.o]; exact HB.o.size)))
                   have HOX7 := aa.mk (HOX6.o.below (ft w6 5 Q))
                   have HB7 := aa.mk (HB6.o.trans ((ft w6 5 Q).mono (by rw [HN.o]; exact HB6.o.size)))
                   have HOS7 := aa.mk ((cF.conv w6 5 Q).lower (base' := N) (by rw [HN.o]; exact HB6.o.size))
                   rw [← HNX.o] at HOS7
                   clear hb6))
              go_roundw
              case rel =>
                refine ⟨n + 1, w6.heap.size, _, rfl, by rw [HPS.o], ⟨by have := HLT.o; have := HM168.o; have := HPP.o; omega⟩, ⟨fun he => ?_⟩, HOX7, ?_, HB7⟩
                · have := HOX6.o.cells.2.2.1
                  omega
                · rw [HPS.o] at HOS7
                  exact HOS7
              case measure => have := HLT.o; have := HPP.o; simp [intOf]; omega
        · have hlk3 : decide ((p : Int) < (m : Int)) = false := za (by omega)
          have hlk5 : decide (p < m) = false := za hlt
          have hnm : n = T.length / 168 := by have := HTL.o; omega
          have hR := HR.o
          rw [← hnm] at hR
          have HR := aa.mk hR
          have hcv1 := run_convert_bytes_arg (P := Tryz.prog) wr 22 5 Tryz.underlying22 Tryz.underlying5 g3 0 200 cap3 (gO T n) (im T n) (fun i hi => by rw [Nat.zero_add]; exact (HOS.o.cells.2.2.2.2.1 i (by rw [im]; exact hi)).trans (by rw [dl])) 9 Tryz.underlying9
          rw [hR] at hcv1
          clear hn3 hm168 hp hlt hnm hR
          go_wp2
          go_ret
          exact ⟨rfl, by rw [← HN.o]; exact HB.o⟩
    · have hlk : ((m : Int) % 168 != 0) = true := by simp; omega
      clear hj hm hsz hpj
      go_wp2_with (first
        | (refine fK rfl (.tmp 21) (.tmp 22) 22 rfl 5 Tryz.underlying22 (by kernel_rfl) N rfl rfl HO.o (by have := HB.o.size; rw [HN.o]; exact this) _ rfl (by rw [← HML.o]; have := HM.o; have := HJ.o; have := HSZ.o; have := ju a0; omega) ?_
           rintro v2 w2 ho2 hb2
           have HO2 := aa.mk (show cF w2 N v2 (fD a0 a2 (j + 1)) by rw [nt]; exact ho2)
           have HB := aa.mk (HB.o.trans hb2)
           clear ho2 hb2))
      go_roundw
      case rel =>
        refine ⟨j + 1, ⟨?_⟩, HO2, HB⟩
        have h1 := HJ.o
        have h2 := HM.o
        unfold kH at h1 ⊢
        omega
      case measure =>
        obtain ⟨g2, cap2, hv2, _⟩ := HO2.o
        subst hv2
        have := HM.o
        have := HJ.o
        have := ju a0
        simp only [jg]
        omega
end Go.Proofs.YtmdlpmddljbkeaaGreatDoor.P
