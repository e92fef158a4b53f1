/- Walks by hand: the program's state behind a text. -/
import Derived.Test.YtielligodgabiaaGreatDoorMW2
import Derived.Test.YtielligodgabiaaGreatDoorMW3
import Derived.Test.YtielligodgabiaaGreatDoorMW4
import Derived.Test.YtielligodgabiaaGreatDoorHB1
import Derived.Test.YtielligodgabiaaGreatDoorHB3
import Derived.Test.YtielligodgabiaaGreatDoorPx0
import Derived.Test.YtielligodgabiaaGreatDoorHB1
import Derived.Test.YtielligodgabiaaGreatDoorHB3
import Derived.StillTailTactics
import Derived.Deep.QuietTactic
import Derived.BigQuiet
import Derived.IntWalk
import Derived.Laws.CopyOwn
namespace Go.Proofs.YtielligodgabiaaGreatDoor.P
open Go.RowKit YtielligodgabiaaGreatDoorW.PrintWords YtielligodgabiaaGreatDoorW.PrintLast YtielligodgabiaaGreatDoorW.PrintMore YtielligodgabiaaGreatDoor.Kit
set_option linter.unusedVariables false
set_option linter.unusedSimpArgs false

/-- A text filled up to whole blocks of 168 bytes. -/
def eJ (s : ByteArray) (c : Int) (j : Nat) : List Int := (bl s ++ [c]) ++ List.replicate j 0
def jz (s : ByteArray) : Nat := (168 - (s.size + 1) % 168) % 168
theorem ig (s : ByteArray) : jz s < 168 := Nat.mod_lt _ (by decide)
theorem hG (s : ByteArray) (c : Int) (j : Nat) : (eJ s c j).length = s.size + 1 + j := by
  simp only [eJ, List.length_append, cN, List.length_replicate, List.length_singleton]
theorem l9 (s : ByteArray) (c : Int) (j : Nat) : eJ s c (j + 1) = eJ s c j ++ [0] := by
  simp only [eJ, List.append_assoc, List.replicate_succ']
/-- Its last byte's highest bit is turned. -/
def oK (T : List Int) : List Int := T.set (T.length - 1) (Go.bits .xor .u8 (rd T ((T.length - 1 : Nat) : Int)) 128)
theorem oY (T : List Int) : (oK T).length = T.length := by simp only [oK, List.length_set]
def gi (s : ByteArray) (c : Int) : List Int := oK (eJ s c (jz s))
theorem kX (s : ByteArray) (c : Int) : (gi s c).length = s.size + 1 + jz s := by rw [gi, oY, hG]
theorem r8 (s : ByteArray) (c : Int) : (gi s c).length % 168 = 0 ∧ s.size < (gi s c).length ∧ (gi s c).length ≤ s.size + 168 := by
  rw [kX]
  unfold jz
  omega
/-- A state's bytes, i of them turned by a block's. -/
def gn (st T : List Int) (o : Nat) : Nat → List Int
  | 0 => st
  | i + 1 => (gn st T o i).set i (Go.bits .xor .u8 (rd (gn st T o i) (i : Int)) (rd T ((o + i : Nat) : Int)))
theorem iX (st T : List Int) (o i : Nat) : (gn st T o i).length = st.length := by
  induction i with
  | zero => rfl
  | succ i ih => simp only [gn, List.length_set, ih]
def ex (s : ByteArray) : ByteArray := eR.v (cq.v (cQ.v s))
theorem fR (s : ByteArray) : (ex s).size = 200 := by
  unfold ex eR.v
  rw [strOfNums_size, cX]
theorem oq (s : ByteArray) (h : s.size = 200) : dj.f s = some (ex s) := by
  unfold dj.f
  rw [za (by omega)]
  rfl
/-- The state behind n blocks. -/
def fU (T : List Int) : Nat → List Int
  | 0 => List.replicate 200 0
  | n + 1 => bl (ex (strOfNums (gn (fU T n) T (168 * n) 168)))
theorem gz (T : List Int) (n : Nat) : (fU T n).length = 200 := by
  cases n with
  | zero => simp only [fU, List.length_replicate]
  | succ n => simp only [fU, cN, fR]
def cP.f (k : Nat) (a0 : ByteArray) (a1 a2 : Int) : Option ByteArray :=
  if a1 = 168 ∧ a0.size ≤ 1000000000000 then some (strOfNums (fU (gi a0 a2) ((gi a0 a2).length / 168))) else none
theorem cP.mono : ∀ a0 a1 a2 k, LeO (cP.f k a0 a1 a2) (cP.f (k + 1) a0 a1 a2) := fun _ _ _ _ => LeO.refl _
set_option maxHeartbeats 4000000 in
set_option maxRecDepth 100000 in
theorem cP.calls (k : Nat) (a0 : ByteArray) (a1 a2 : Int) (r : ByteArray) (w : World) (h : cP.f k a0 a1 a2 = some r) : Calls Tryz.prog 92 #[.string a0, .int .i64 a1, .int .u8 a2] w fun e w' => e = .returned (.string r) ∧ Below w.heap.size w w' := by
  unfold cP.f at h
  split at h
  case isFalse => exact absurd h (by simp)
  case isTrue hc =>
  obtain ⟨h1, h2⟩ := hc
  subst h1
  have HR := aa.mk (sI h)
  have HSZ := aa.mk h2
  clear h h2
  have hcv := Lib.run_convert_string_bytes (P := Tryz.prog) w 9 57 5 a0 Tryz.underlying9 Tryz.underlying57 Tryz.underlying5
  have HO := aa.mk (cj.conv w 5 a0)
  have HB := aa.mk (dP w 5 a0)
  obtain ⟨N, hN⟩ : ∃ N, N = w.heap.size := ⟨_, rfl⟩
  have HN := aa.mk hN
  go_enter Tryz.func92, Tryz.ntmps92
  go_wp2_with (first
    | (refine eP rfl (.tmp 12) (.tmp 14) 57 rfl 5 Tryz.underlying57 (by kernel_rfl) w.heap.size rfl rfl HO.out HB.out.size _ rfl (by rw [cN]; have := HSZ.out; omega) ?_
       rintro v2 w2 ho2 hb2
       have HO := aa.mk (show cj w2 w.heap.size v2 (eJ a0 a2 0) by simpa [eJ] using ho2)
       have HB := aa.mk (HB.out.trans hb2)
       clear ho2 hb2))
  clear hcv
  rw [← hN] at HO HB
  rw [← hN]
  clear hN
  go_loopw [7] (fun v wr => ∃ j : Nat, aa (j ≤ jz a0) ∧ aa (cj wr N v (eJ a0 a2 j)) ∧ aa (Below N w wr)) (fun v _ => match v with | .slice _ n _ => a0.size + 400 - n | _ => 0)
  case atStart => exact ⟨0, ⟨Nat.zero_le _⟩, HO, HB⟩
  case round =>
    clear HO HB
    obtain ⟨j, HJ, HO, HB⟩ := hrel
    obtain ⟨g, cap, hv, hrest⟩ := HO.out
    subst hv
    clear hrest
    obtain ⟨m, hm⟩ : ∃ m, m = (eJ a0 a2 j).length := ⟨_, rfl⟩
    rw [← hm] at HO ⊢
    have HML := aa.mk hm
    rw [hG] at hm
    have HM := aa.mk hm
    have hj := HJ.out
    have hsz := HSZ.out
    have hpj := ig a0
    by_cases hlt : m % 168 = 0
    · have hlk : ((m : Int) % 168 != 0) = false := by simp; omega
      have hjp : j = jz a0 := by unfold jz at hj ⊢; omega
      obtain ⟨q, hq⟩ : ∃ q, q = m - 1 := ⟨_, rfl⟩
      have e1 : IntKind.i64.wrap ((m : Int) - 1) = (q : Int) := (IntWalk.i64_in _ (by omega)).trans (by omega)
      have hqm : q < (eJ a0 a2 j).length := by rw [← HML.out]; omega
      have hx1 : wr.cell? ⟨g, q, none⟩ = some (.int .u8 (rd (eJ a0 a2 j) (q : Int))) := (HO.out.cells.2.2.2.2.1 q hqm).trans (by rw [cR])
      have hf1 : wr.frozen? ⟨g, q, none⟩ = false := HO.out.froz q hqm
      have hq1 : ((q : Int) < (m : Int)) = True := va (by omega)
      have HOX := aa.mk (HO.out.set q hqm (Go.bits .xor .u8 (rd (eJ a0 a2 j) (q : Int)) 128))
      have HGN := aa.mk (show N ≤ g from HO.out.cells.2.1)
      have HGL := aa.mk (show g < wr.heap.size from HO.out.cells.2.2.1)
      have hT : (eJ a0 a2 j).set q (Go.bits .xor .u8 (rd (eJ a0 a2 j) (q : Int)) 128) = gi a0 a2 := by
        rw [hq, HML.out, hjp]; rfl
      rw [hT] at HOX
      have HR := aa.mk HR.out
      have hTl : (gi a0 a2).length = m := by rw [kX, ← hjp]; exact hm.symm
      obtain ⟨T, hTT⟩ : ∃ T, T = gi a0 a2 := ⟨_, rfl⟩
      rw [← hTT] at HOX HR hTl
      have HTL := aa.mk hTl
      have HM168 := aa.mk (show m % 168 = 0 ∧ m ≤ 1000000001000 from ⟨hlt, by unfold jz at hj; omega⟩)
      clear hT hTl hTT hjp hqm hj hm hlt hsz hq hpj
      go_wp2_with (first
        | ((with_reducible refine aI (N := 32) rfl ?_)
           have HB := aa.mk (bN HB.out (p := ⟨g, q, none⟩) HGN.out (.int .u8 (Go.bits .xor .u8 (rd (eJ a0 a2 j) (q : Int)) 128)))
           have HGL := aa.mk (show g < (wr.setCell ⟨g, q, none⟩ (.int .u8 (Go.bits .xor .u8 (rd (eJ a0 a2 j) (q : Int)) 128))).heap.size from HOX.out.cells.2.2.1)
           generalize (wr.setCell ⟨g, q, none⟩ (.int .u8 (Go.bits .xor .u8 (rd (eJ a0 a2 j) (q : Int)) 128))) = ws at HOX HB HGL ⊢
           refine Kd.R_make (Kd.int .u8) (w0 := w) N 5 rfl (N := 32) rfl 57 _ _ rfl 200 rfl rfl Tryz.underlying57 (.int .u8 0) 1 iD rfl (by decide) (by omega) 0 (ok := fun _ => True) (okp := fun _ => True) rfl (fun _ hk => hk) trivial (by omega) (by omega) HB.out (Nat.le_of_lt (Nat.lt_of_le_of_lt HGN.out HGL.out)) ?_
           intro v1 w1 ho hb hg_ hnew_
           have ho2 : (Kd.int .u8).R 5 w1 N (fun _ => True) v1 (fU T 0) := ho
           have HOM := aa.mk (cj.of_R ho2 (by rw [gz]; omega))
           have HOX := aa.mk (HOX.out.below (fX hg_))
           have HB := aa.mk hb
           obtain ⟨g2, cap2, hv, hrest⟩ := HOM.out
           rw [gz] at hv
           subst hv
           have hne : g2 ≠ g := by
             obtain ⟨b, hb1, hb2⟩ := hnew_
             have h1 : g2 = b := by simpa [Value.ownBlock] using hb1
             have := HGL.out
             omega
           have HNE := aa.mk hne
           clear ho ho2 hb hg_ hnew_ hrest hne))
      clear hx1 hf1
      go_loopw [8, 9] (fun v c wr => ∃ (n g2 cap2 : Nat), c = .int .i64 ((168 * n : Nat) : Int) ∧ v = .slice (some ⟨g2, 0, none⟩) 200 cap2 ∧ aa (168 * n ≤ m) ∧ aa (g2 ≠ g) ∧ aa (cj wr N (.slice (some ⟨g, 0, none⟩) m cap) T) ∧ aa (cj wr N (.slice (some ⟨g2, 0, none⟩) 200 cap2) (fU T n)) ∧ aa (Below N w wr)) (fun _ c _ => m - (intOf c).toNat)
      case atStart => exact ⟨0, g2, cap2, rfl, rfl, ⟨Nat.zero_le _⟩, HNE, HOX, HOM, HB⟩
      case round =>
        clear HOX HOM HB HNE HGL HGN
        obtain ⟨n, g3, cap3, rfl, rfl, HN3, HNE, HOX, HOS, HB⟩ := hrel
        obtain ⟨p, hp⟩ : ∃ p, p = 168 * n := ⟨_, rfl⟩
        have hn3 := HN3.out
        have hm168 := HM168.out
        rw [← hp] at hn3 ⊢
        have HPP := aa.mk hp
        by_cases hlt : p < m
        · have hlk3 : decide ((p : Int) < (m : Int)) = true := ta (by omega)
          have HLT := aa.mk hlt
          clear hn3 hm168 hp
          go_wp2
          go_loopw [41] (fun c wr => ∃ i : Nat, c = .int .i64 (i : Int) ∧ aa (i ≤ 168) ∧ aa (cj wr N (.slice (some ⟨g, 0, none⟩) m cap) T) ∧ aa (cj wr N (.slice (some ⟨g3, 0, none⟩) 200 cap3) (gn (fU T n) T p i)) ∧ aa (Below N w wr)) (fun c _ => 168 - (intOf c).toNat)
          case atStart => exact ⟨0, rfl, ⟨by omega⟩, HOX, HOS, HB⟩
          case round =>
            clear HOX HOS HB
            obtain ⟨i, rfl, HI, HOX, HOS, HB⟩ := hrel
            have hi := HI.out
            have hxl : (gn (fU T n) T p i).length = 200 := by rw [iX, gz]
            have HXL := aa.mk hxl
            by_cases hlti : i < 168
            · have hlk4 : decide ((i : Int) < 168) = true := ta (by omega)
              obtain ⟨o, ho⟩ : ∃ o, o = p + i := ⟨_, rfl⟩
              have hpm := HPP.out
              have hm168 := HM168.out
              have e1 : IntKind.i64.wrap ((p : Int) + (i : Int)) = (o : Int) := (IntWalk.i64_in _ (by omega)).trans (by omega)
              have ko : o < T.length := by have := HTL.out; omega
              have ki : i < (gn (fU T n) T p i).length := by omega
              have hi2 : ((i : Int) < 200) = True := va (by omega)
              have ho2 : ((o : Int) < (m : Int)) = True := va (by have := HTL.out; omega)
              have hxs : gn (fU T n) T p (i + 1) = (gn (fU T n) T p i).set i (Go.bits .xor .u8 (rd (gn (fU T n) T p i) (i : Int)) (rd T ((p + i : Nat) : Int))) := rfl
              rw [← ho] at hxs
              have HXS := aa.mk hxs
              have HKO := aa.mk ko
              have HKI := aa.mk ki
              clear hi hxl ho hpm hm168 ko ki hxs
              go_wp2
              refine wp_region_still_tail 12 (by kernel_rfl) (by kernel_rfl) ?_
              simp only [List.take_succ_cons, List.take_zero, List.drop_succ_cons, List.drop_zero]
              change wpStill _ _ wr.drew (fun a' => wpList _ _ _ _ a' wr.drew) _ _
              have HOX := aa.mk HOX.out.drew
              have HOS := aa.mk HOS.out.drew
              have HB := aa.mk (cV HB.out)
              generalize wr.drew = w4 at HOX HOS HB ⊢
              have hx1 : w4.cell? ⟨g3, i, none⟩ = some (.int .u8 (rd (gn (fU T n) T p i) (i : Int))) := (HOS.out.cells.2.2.2.2.1 i HKI.out).trans (by rw [cR])
              have hx2 : w4.cell? ⟨g, o, none⟩ = some (.int .u8 (rd T (o : Int))) := (HOX.out.cells.2.2.2.2.1 o HKO.out).trans (by rw [cR])
              have hf1 : w4.frozen? ⟨g3, i, none⟩ = false := HOS.out.froz i HKI.out
              repeat still_step
              refine wpStill_nil ?_
              go_wp2
              go_roundw
              case rel =>
                refine ⟨i + 1, by go_num, ⟨by omega⟩, ⟨HOX.out.far (by show g3 ≠ g; exact HNE.out) _⟩, ⟨?_⟩, ⟨bN HB.out (by show N ≤ g3; exact HOS.out.cells.2.1) _⟩⟩
                rw [HXS.out]
                exact HOS.out.set i HKI.out _
              case measure => simp [intOf]; omega
            · have hlk4 : decide ((i : Int) < 168) = false := ua (by omega)
              obtain rfl : i = 168 := by omega
              clear hlti hi hxl
              have hcv1 := run_convert_bytes_arg (P := Tryz.prog) wr 57 5 Tryz.underlying57 Tryz.underlying5 g3 0 200 cap3 (gn (fU T n) T p 168) HXL.out (fun i hi => by rw [Nat.zero_add]; exact (HOS.out.cells.2.2.2.2.1 i (by rw [HXL.out]; exact hi)).trans (by rw [cR])) 9 Tryz.underlying9
              obtain ⟨S, hS⟩ : ∃ S, S = strOfNums (gn (fU T n) T p 168) := ⟨_, rfl⟩
              have hPf : dj.f S = some (ex S) := oq S (by rw [hS, strOfNums_size, HXL.out])
              have hnx : fU T (n + 1) = bl (ex S) := by rw [hS, HPP.out]; rfl
              rw [← hS] at hcv1
              have HPF := aa.mk hPf
              have HNX := aa.mk hnx
              have HPS := aa.mk (fR S)
              generalize ex S = Q at HPF HNX HPS
              clear hPf hnx hS
              have e9 : IntKind.i64.wrap ((p : Int) + 168) = ((168 * (n + 1) : Nat) : Int) := (IntWalk.i64_in _ (by have := HLT.out; have := HM168.out; omega)).trans (by have := HPP.out; omega)
              go_wp2_with (first
                | (go_at_call 93
                   (with_reducible refine (dj.calls S Q _ HPF.out).mono ?_)
                   rintro e w6 ⟨rfl, hb6⟩
                   have hcv2 := Lib.run_convert_string_bytes (P := Tryz.prog) w6 9 57 5 Q Tryz.underlying9 Tryz.underlying57 Tryz.underlying5
                   have HOX6 := aa.mk (HOX.out.below hb6)
                   have HB6 := aa.mk (HB.out.trans (hb6.mono (by rw [HN.out]; exact HB.out.size)))
                   have HOX7 := aa.mk (HOX6.out.below (dP w6 5 Q))
                   have HB7 := aa.mk (HB6.out.trans ((dP w6 5 Q).mono (by rw [HN.out]; exact HB6.out.size)))
                   have HOS7 := aa.mk ((cj.conv w6 5 Q).lower (base' := N) (by rw [HN.out]; exact HB6.out.size))
                   rw [← HNX.out] at HOS7
                   clear hb6))
              go_roundw
              case rel =>
                refine ⟨n + 1, w6.heap.size, _, rfl, by rw [HPS.out], ⟨by have := HLT.out; have := HM168.out; have := HPP.out; omega⟩, ⟨fun he => ?_⟩, HOX7, ?_, HB7⟩
                · have := HOX6.out.cells.2.2.1
                  omega
                · rw [HPS.out] at HOS7
                  exact HOS7
              case measure => have := HLT.out; have := HPP.out; simp [intOf]; omega
        · have hlk3 : decide ((p : Int) < (m : Int)) = false := ua (by omega)
          have hlk5 : decide (p < m) = false := ua hlt
          have hnm : n = T.length / 168 := by have := HTL.out; omega
          have hR := HR.out
          rw [← hnm] at hR
          have HR := aa.mk hR
          have hcv1 := run_convert_bytes_arg (P := Tryz.prog) wr 57 5 Tryz.underlying57 Tryz.underlying5 g3 0 200 cap3 (fU T n) (gz T n) (fun i hi => by rw [Nat.zero_add]; exact (HOS.out.cells.2.2.2.2.1 i (by rw [gz]; exact hi)).trans (by rw [cR])) 9 Tryz.underlying9
          rw [hR] at hcv1
          clear hn3 hm168 hp hlt hnm hR
          go_wp2
          go_ret
          exact ⟨rfl, by rw [← HN.out]; exact HB.out⟩
    · have hlk : ((m : Int) % 168 != 0) = true := by simp; omega
      clear hj hm hsz hpj
      go_wp2_with (first
        | (refine eP rfl (.tmp 21) (.tmp 22) 57 rfl 5 Tryz.underlying57 (by kernel_rfl) N rfl rfl HO.out (by have := HB.out.size; rw [HN.out]; exact this) _ rfl (by rw [← HML.out]; have := HM.out; have := HJ.out; have := HSZ.out; have := ig a0; omega) ?_
           rintro v2 w2 ho2 hb2
           have HO2 := aa.mk (show cj w2 N v2 (eJ a0 a2 (j + 1)) by rw [l9]; exact ho2)
           have HB := aa.mk (HB.out.trans hb2)
           clear ho2 hb2))
      go_roundw
      case rel =>
        refine ⟨j + 1, ⟨?_⟩, HO2, HB⟩
        have h1 := HJ.out
        have h2 := HM.out
        unfold jz at h1 ⊢
        omega
      case measure =>
        obtain ⟨g2, cap2, hv2, _⟩ := HO2.out
        subst hv2
        have := HM.out
        have := HJ.out
        have := ig a0
        simp only [hG]
        omega
end Go.Proofs.YtielligodgabiaaGreatDoor.P
