/- Walks by hand: the program's state behind a text. -/
import Derived.Test.YthdjmbbkenbeiaaDoorMW2
import Derived.Test.YthdjmbbkenbeiaaDoorMW3
import Derived.Test.YthdjmbbkenbeiaaDoorMW4
import Derived.Test.YthdjmbbkenbeiaaDoorHB1
import Derived.Test.YthdjmbbkenbeiaaDoorHB3
import Derived.Test.YthdjmbbkenbeiaaDoorPx0
import Derived.Test.YthdjmbbkenbeiaaDoorHB1
import Derived.Test.YthdjmbbkenbeiaaDoorHB3
import Derived.StillTailTactics
import Derived.Deep.QuietTactic
import Derived.BigQuiet
import Derived.IntWalk
import Derived.Laws.CopyOwn
namespace Go.Proofs.YthdjmbbkenbeiaaDoor.P
open Go.RowKit Go.Proofs.YthdjmbbkenbeiaaDoorW.PrintWords Go.Proofs.YthdjmbbkenbeiaaDoorW.PrintLast Go.Proofs.YthdjmbbkenbeiaaDoorW.PrintMore Go.Proofs.YthdjmbbkenbeiaaDoor.Kit
set_option linter.unusedVariables false
set_option linter.unusedSimpArgs false

/-- A text filled up to whole blocks of 168 bytes. -/
def padZ (s : ByteArray) (c : Int) (j : Nat) : List Int := (bl s ++ [c]) ++ List.replicate j 0
def padJ (s : ByteArray) : Nat := (168 - (s.size + 1) % 168) % 168
theorem padJ_lt (s : ByteArray) : padJ s < 168 := Nat.mod_lt _ (by decide)
theorem padZ_len (s : ByteArray) (c : Int) (j : Nat) : (padZ s c j).length = s.size + 1 + j := by
  simp only [padZ, List.length_append, bl_len, List.length_replicate, List.length_singleton]
theorem padZ_succ (s : ByteArray) (c : Int) (j : Nat) : padZ s c (j + 1) = padZ s c j ++ [0] := by
  simp only [padZ, List.append_assoc, List.replicate_succ']
/-- Its last byte's highest bit is turned. -/
def lastX (T : List Int) : List Int := T.set (T.length - 1) (Go.bits .xor .u8 (rd T ((T.length - 1 : Nat) : Int)) 128)
theorem lastX_len (T : List Int) : (lastX T).length = T.length := by simp only [lastX, List.length_set]
def padT (s : ByteArray) (c : Int) : List Int := lastX (padZ s c (padJ s))
theorem padT_len (s : ByteArray) (c : Int) : (padT s c).length = s.size + 1 + padJ s := by rw [padT, lastX_len, padZ_len]
theorem padT_mod (s : ByteArray) (c : Int) : (padT s c).length % 168 = 0 ∧ s.size < (padT s c).length ∧ (padT s c).length ≤ s.size + 168 := by
  rw [padT_len]
  unfold padJ
  omega
/-- A state's bytes, i of them turned by a block's. -/
def xorA (st T : List Int) (o : Nat) : Nat → List Int
  | 0 => st
  | i + 1 => (xorA st T o i).set i (Go.bits .xor .u8 (rd (xorA st T o i) (i : Int)) (rd T ((o + i : Nat) : Int)))
theorem xorA_len (st T : List Int) (o i : Nat) : (xorA st T o i).length = st.length := by
  induction i with
  | zero => rfl
  | succ i ih => simp only [xorA, List.length_set, ih]
def permB (s : ByteArray) : ByteArray := impl_text.v (impl_permuted.v (impl_lanesOf.v s))
theorem permB_size (s : ByteArray) : (permB s).size = 200 := by
  unfold permB impl_text.v
  rw [strOfNums_size, textA_len]
theorem permB_f (s : ByteArray) (h : s.size = 200) : impl_Permute.f s = some (permB s) := by
  unfold impl_Permute.f
  rw [if_pos (by omega)]
  rfl
/-- The state behind n blocks. -/
def absS (T : List Int) : Nat → List Int
  | 0 => List.replicate 200 0
  | n + 1 => bl (permB (strOfNums (xorA (absS T n) T (168 * n) 168)))
theorem absS_len (T : List Int) (n : Nat) : (absS T n).length = 200 := by
  cases n with
  | zero => simp only [absS, List.length_replicate]
  | succ n => simp only [absS, bl_len, permB_size]
def impl_absorbed.f (k : Nat) (a0 : ByteArray) (a1 a2 : Int) : Option ByteArray :=
  if a1 = 168 ∧ a0.size ≤ 1000000000000 then some (strOfNums (absS (padT a0 a2) ((padT a0 a2).length / 168))) else none
theorem impl_absorbed.mono : ∀ a0 a1 a2 k, LeO (impl_absorbed.f k a0 a1 a2) (impl_absorbed.f (k + 1) a0 a1 a2) := fun _ _ _ _ => LeO.refl _
set_option maxHeartbeats 4000000 in
set_option maxRecDepth 100000 in
theorem impl_absorbed.calls (k : Nat) (a0 : ByteArray) (a1 a2 : Int) (r : ByteArray) (w : World) (h : impl_absorbed.f k a0 a1 a2 = some r) : Calls Tryd.prog 73 #[.string a0, .int .i64 a1, .int .u8 a2] w fun e w' => e = .returned (.string r) ∧ Below w.heap.size w w' := by
  unfold impl_absorbed.f at h
  split at h
  case isFalse => exact absurd h (by simp)
  case isTrue hc =>
  obtain ⟨h1, h2⟩ := hc
  subst h1
  have HR := Aside0.mk (Option.some.inj h)
  have HSZ := Aside0.mk h2
  clear h h2
  have hcv := Lib.run_convert_string_bytes (P := Tryd.prog) w 9 62 5 a0 Tryd.underlying9 Tryd.underlying62 Tryd.underlying5
  have HO := Aside0.mk (OwnG.conv w 5 a0)
  have HB := Aside0.mk (below_bytes w 5 a0)
  obtain ⟨N, hN⟩ : ∃ N, N = w.heap.size := ⟨_, rfl⟩
  have HN := Aside0.mk hN
  go_enter Tryd.func73, Tryd.ntmps73
  go_wp2_with (first
    | (refine append_one rfl (.tmp 12) (.tmp 14) 62 rfl 5 Tryd.underlying62 (by kernel_rfl) w.heap.size rfl rfl HO.out HB.out.size _ rfl (by rw [bl_len]; have := HSZ.out; omega) ?_
       rintro v2 w2 ho2 hb2
       have HO := Aside0.mk (show OwnG w2 w.heap.size v2 (padZ a0 a2 0) by simpa [padZ] using ho2)
       have HB := Aside0.mk (HB.out.trans hb2)
       clear ho2 hb2))
  clear hcv
  rw [← hN] at HO HB
  rw [← hN]
  clear hN
  go_loopw [7] (fun v wr => ∃ j : Nat, Aside0 (j ≤ padJ a0) ∧ Aside0 (OwnG wr N v (padZ a0 a2 j)) ∧ Aside0 (Below N w wr)) (fun v _ => match v with | .slice _ n _ => a0.size + 400 - n | _ => 0)
  case atStart => exact ⟨0, ⟨Nat.zero_le _⟩, HO, HB⟩
  case round =>
    clear HO HB
    obtain ⟨j, HJ, HO, HB⟩ := hrel
    obtain ⟨g, cap, hv, hrest⟩ := HO.out
    subst hv
    clear hrest
    obtain ⟨m, hm⟩ : ∃ m, m = (padZ a0 a2 j).length := ⟨_, rfl⟩
    rw [← hm] at HO ⊢
    have HML := Aside0.mk hm
    rw [padZ_len] at hm
    have HM := Aside0.mk hm
    have hj := HJ.out
    have hsz := HSZ.out
    have hpj := padJ_lt a0
    by_cases hlt : m % 168 = 0
    · have hlk : ((m : Int) % 168 != 0) = false := by simp; omega
      have hjp : j = padJ a0 := by unfold padJ at hj ⊢; omega
      obtain ⟨q, hq⟩ : ∃ q, q = m - 1 := ⟨_, rfl⟩
      have e1 : IntKind.i64.wrap ((m : Int) - 1) = (q : Int) := (IntWalk.i64_in _ (by omega)).trans (by omega)
      have hqm : q < (padZ a0 a2 j).length := by rw [← HML.out]; omega
      have hx1 : wr.cell? ⟨g, q, none⟩ = some (.int .u8 (rd (padZ a0 a2 j) (q : Int))) := (HO.out.cells.2.2.2.2.1 q hqm).trans (by rw [rd_getD])
      have hf1 : wr.frozen? ⟨g, q, none⟩ = false := HO.out.froz q hqm
      have hq1 : ((q : Int) < (m : Int)) = True := eq_true (by omega)
      have HOX := Aside0.mk (HO.out.set q hqm (Go.bits .xor .u8 (rd (padZ a0 a2 j) (q : Int)) 128))
      have HGN := Aside0.mk (show N ≤ g from HO.out.cells.2.1)
      have HGL := Aside0.mk (show g < wr.heap.size from HO.out.cells.2.2.1)
      have hT : (padZ a0 a2 j).set q (Go.bits .xor .u8 (rd (padZ a0 a2 j) (q : Int)) 128) = padT a0 a2 := by
        rw [hq, HML.out, hjp]; rfl
      rw [hT] at HOX
      have HR := Aside0.mk HR.out
      have hTl : (padT a0 a2).length = m := by rw [padT_len, ← hjp]; exact hm.symm
      obtain ⟨T, hTT⟩ : ∃ T, T = padT a0 a2 := ⟨_, rfl⟩
      rw [← hTT] at HOX HR hTl
      have HTL := Aside0.mk hTl
      have HM168 := Aside0.mk (show m % 168 = 0 ∧ m ≤ 1000000001000 from ⟨hlt, by unfold padJ at hj; omega⟩)
      clear hT hTl hTT hjp hqm hj hm hlt hsz hq hpj
      go_wp2_with (first
        | ((with_reducible refine gate_dst (N := 32) rfl ?_)
           have HB := Aside0.mk (below_setCell HB.out (p := ⟨g, q, none⟩) HGN.out (.int .u8 (Go.bits .xor .u8 (rd (padZ a0 a2 j) (q : Int)) 128)))
           have HGL := Aside0.mk (show g < (wr.setCell ⟨g, q, none⟩ (.int .u8 (Go.bits .xor .u8 (rd (padZ a0 a2 j) (q : Int)) 128))).heap.size from HOX.out.cells.2.2.1)
           generalize (wr.setCell ⟨g, q, none⟩ (.int .u8 (Go.bits .xor .u8 (rd (padZ a0 a2 j) (q : Int)) 128))) = ws at HOX HB HGL ⊢
           refine Kd.R_make (Kd.int .u8) (w0 := w) N 5 rfl (N := 32) rfl 62 _ _ rfl 200 rfl rfl Tryd.underlying62 (.int .u8 0) 1 info5 rfl (by decide) (by omega) 0 (ok := fun _ => True) (okp := fun _ => True) rfl (fun _ hk => hk) trivial (by omega) (by omega) HB.out (Nat.le_of_lt (Nat.lt_of_le_of_lt HGN.out HGL.out)) ?_
           intro v1 w1 ho hb hg_ hnew_
           have ho2 : (Kd.int .u8).R 5 w1 N (fun _ => True) v1 (absS T 0) := ho
           have HOM := Aside0.mk (OwnG.of_R ho2 (by rw [absS_len]; omega))
           have HOX := Aside0.mk (HOX.out.below (grown_below hg_))
           have HB := Aside0.mk hb
           obtain ⟨g2, cap2, hv, hrest⟩ := HOM.out
           rw [absS_len] at hv
           subst hv
           have hne : g2 ≠ g := by
             obtain ⟨b, hb1, hb2⟩ := hnew_
             have h1 : g2 = b := by simpa [Value.ownBlock] using hb1
             have := HGL.out
             omega
           have HNE := Aside0.mk hne
           clear ho ho2 hb hg_ hnew_ hrest hne))
      clear hx1 hf1
      go_loopw [8, 9] (fun v c wr => ∃ (n g2 cap2 : Nat), c = .int .i64 ((168 * n : Nat) : Int) ∧ v = .slice (some ⟨g2, 0, none⟩) 200 cap2 ∧ Aside0 (168 * n ≤ m) ∧ Aside0 (g2 ≠ g) ∧ Aside0 (OwnG wr N (.slice (some ⟨g, 0, none⟩) m cap) T) ∧ Aside0 (OwnG wr N (.slice (some ⟨g2, 0, none⟩) 200 cap2) (absS T n)) ∧ Aside0 (Below N w wr)) (fun _ c _ => m - (intOf c).toNat)
      case atStart => exact ⟨0, g2, cap2, rfl, rfl, ⟨Nat.zero_le _⟩, HNE, HOX, HOM, HB⟩
      case round =>
        clear HOX HOM HB HNE HGL HGN
        obtain ⟨n, g3, cap3, rfl, rfl, HN3, HNE, HOX, HOS, HB⟩ := hrel
        obtain ⟨p, hp⟩ : ∃ p, p = 168 * n := ⟨_, rfl⟩
        have hn3 := HN3.out
        have hm168 := HM168.out
        rw [← hp] at hn3 ⊢
        have HPP := Aside0.mk hp
        by_cases hlt : p < m
        · have hlk3 : decide ((p : Int) < (m : Int)) = true := decide_eq_true (by omega)
          have HLT := Aside0.mk hlt
          clear hn3 hm168 hp
          go_wp2
          go_loopw [41] (fun c wr => ∃ i : Nat, c = .int .i64 (i : Int) ∧ Aside0 (i ≤ 168) ∧ Aside0 (OwnG wr N (.slice (some ⟨g, 0, none⟩) m cap) T) ∧ Aside0 (OwnG wr N (.slice (some ⟨g3, 0, none⟩) 200 cap3) (xorA (absS T n) T p i)) ∧ Aside0 (Below N w wr)) (fun c _ => 168 - (intOf c).toNat)
          case atStart => exact ⟨0, rfl, ⟨by omega⟩, HOX, HOS, HB⟩
          case round =>
            clear HOX HOS HB
            obtain ⟨i, rfl, HI, HOX, HOS, HB⟩ := hrel
            have hi := HI.out
            have hxl : (xorA (absS T n) T p i).length = 200 := by rw [xorA_len, absS_len]
            have HXL := Aside0.mk hxl
            by_cases hlti : i < 168
            · have hlk4 : decide ((i : Int) < 168) = true := decide_eq_true (by omega)
              obtain ⟨o, ho⟩ : ∃ o, o = p + i := ⟨_, rfl⟩
              have hpm := HPP.out
              have hm168 := HM168.out
              have e1 : IntKind.i64.wrap ((p : Int) + (i : Int)) = (o : Int) := (IntWalk.i64_in _ (by omega)).trans (by omega)
              have ko : o < T.length := by have := HTL.out; omega
              have ki : i < (xorA (absS T n) T p i).length := by omega
              have hi2 : ((i : Int) < 200) = True := eq_true (by omega)
              have ho2 : ((o : Int) < (m : Int)) = True := eq_true (by have := HTL.out; omega)
              have hxs : xorA (absS T n) T p (i + 1) = (xorA (absS T n) T p i).set i (Go.bits .xor .u8 (rd (xorA (absS T n) T p i) (i : Int)) (rd T ((p + i : Nat) : Int))) := rfl
              rw [← ho] at hxs
              have HXS := Aside0.mk hxs
              have HKO := Aside0.mk ko
              have HKI := Aside0.mk ki
              clear hi hxl ho hpm hm168 ko ki hxs
              go_wp2
              refine wp_region_still_tail 12 (by kernel_rfl) (by kernel_rfl) ?_
              simp only [List.take_succ_cons, List.take_zero, List.drop_succ_cons, List.drop_zero]
              change wpStill _ _ wr.drew (fun a' => wpList _ _ _ _ a' wr.drew) _ _
              have HOX := Aside0.mk HOX.out.drew
              have HOS := Aside0.mk HOS.out.drew
              have HB := Aside0.mk (below_drew HB.out)
              generalize wr.drew = w4 at HOX HOS HB ⊢
              have hx1 : w4.cell? ⟨g3, i, none⟩ = some (.int .u8 (rd (xorA (absS T n) T p i) (i : Int))) := (HOS.out.cells.2.2.2.2.1 i HKI.out).trans (by rw [rd_getD])
              have hx2 : w4.cell? ⟨g, o, none⟩ = some (.int .u8 (rd T (o : Int))) := (HOX.out.cells.2.2.2.2.1 o HKO.out).trans (by rw [rd_getD])
              have hf1 : w4.frozen? ⟨g3, i, none⟩ = false := HOS.out.froz i HKI.out
              repeat still_step
              refine wpStill_nil ?_
              go_wp2
              go_roundw
              case rel =>
                refine ⟨i + 1, by go_num, ⟨by omega⟩, ⟨HOX.out.far (by show g3 ≠ g; exact HNE.out) _⟩, ⟨?_⟩, ⟨below_setCell HB.out (by show N ≤ g3; exact HOS.out.cells.2.1) _⟩⟩
                rw [HXS.out]
                exact HOS.out.set i HKI.out _
              case measure => simp [intOf]; omega
            · have hlk4 : decide ((i : Int) < 168) = false := decide_eq_false (by omega)
              obtain rfl : i = 168 := by omega
              clear hlti hi hxl
              have hcv1 := run_convert_bytes_arg (P := Tryd.prog) wr 62 5 Tryd.underlying62 Tryd.underlying5 g3 0 200 cap3 (xorA (absS T n) T p 168) HXL.out (fun i hi => by rw [Nat.zero_add]; exact (HOS.out.cells.2.2.2.2.1 i (by rw [HXL.out]; exact hi)).trans (by rw [rd_getD])) 9 Tryd.underlying9
              obtain ⟨S, hS⟩ : ∃ S, S = strOfNums (xorA (absS T n) T p 168) := ⟨_, rfl⟩
              have hPf : impl_Permute.f S = some (permB S) := permB_f S (by rw [hS, strOfNums_size, HXL.out])
              have hnx : absS T (n + 1) = bl (permB S) := by rw [hS, HPP.out]; rfl
              rw [← hS] at hcv1
              have HPF := Aside0.mk hPf
              have HNX := Aside0.mk hnx
              have HPS := Aside0.mk (permB_size S)
              generalize permB S = Q at HPF HNX HPS
              clear hPf hnx hS
              have e9 : IntKind.i64.wrap ((p : Int) + 168) = ((168 * (n + 1) : Nat) : Int) := (IntWalk.i64_in _ (by have := HLT.out; have := HM168.out; omega)).trans (by have := HPP.out; omega)
              go_wp2_with (first
                | (go_at_call 74
                   (with_reducible refine (impl_Permute.calls S Q _ HPF.out).mono ?_)
                   rintro e w6 ⟨rfl, hb6⟩
                   have hcv2 := Lib.run_convert_string_bytes (P := Tryd.prog) w6 9 62 5 Q Tryd.underlying9 Tryd.underlying62 Tryd.underlying5
                   have HOX6 := Aside0.mk (HOX.out.below hb6)
                   have HB6 := Aside0.mk (HB.out.trans (hb6.mono (by rw [HN.out]; exact HB.out.size)))
                   have HOX7 := Aside0.mk (HOX6.out.below (below_bytes w6 5 Q))
                   have HB7 := Aside0.mk (HB6.out.trans ((below_bytes w6 5 Q).mono (by rw [HN.out]; exact HB6.out.size)))
                   have HOS7 := Aside0.mk ((OwnG.conv w6 5 Q).lower (base' := N) (by rw [HN.out]; exact HB6.out.size))
                   rw [← HNX.out] at HOS7
                   clear hb6))
              go_roundw
              case rel =>
                refine ⟨n + 1, w6.heap.size, _, rfl, by rw [HPS.out], ⟨by have := HLT.out; have := HM168.out; have := HPP.out; omega⟩, ⟨fun he => ?_⟩, HOX7, ?_, HB7⟩
                · have := HOX6.out.cells.2.2.1
                  omega
                · rw [HPS.out] at HOS7
                  exact HOS7
              case measure => have := HLT.out; have := HPP.out; simp [intOf]; omega
        · have hlk3 : decide ((p : Int) < (m : Int)) = false := decide_eq_false (by omega)
          have hlk5 : decide (p < m) = false := decide_eq_false hlt
          have hnm : n = T.length / 168 := by have := HTL.out; omega
          have hR := HR.out
          rw [← hnm] at hR
          have HR := Aside0.mk hR
          have hcv1 := run_convert_bytes_arg (P := Tryd.prog) wr 62 5 Tryd.underlying62 Tryd.underlying5 g3 0 200 cap3 (absS T n) (absS_len T n) (fun i hi => by rw [Nat.zero_add]; exact (HOS.out.cells.2.2.2.2.1 i (by rw [absS_len]; exact hi)).trans (by rw [rd_getD])) 9 Tryd.underlying9
          rw [hR] at hcv1
          clear hn3 hm168 hp hlt hnm hR
          go_wp2
          go_ret
          exact ⟨rfl, by rw [← HN.out]; exact HB.out⟩
    · have hlk : ((m : Int) % 168 != 0) = true := by simp; omega
      clear hj hm hsz hpj
      go_wp2_with (first
        | (refine append_one rfl (.tmp 21) (.tmp 22) 62 rfl 5 Tryd.underlying62 (by kernel_rfl) N rfl rfl HO.out (by have := HB.out.size; rw [HN.out]; exact this) _ rfl (by rw [← HML.out]; have := HM.out; have := HJ.out; have := HSZ.out; have := padJ_lt a0; omega) ?_
           rintro v2 w2 ho2 hb2
           have HO2 := Aside0.mk (show OwnG w2 N v2 (padZ a0 a2 (j + 1)) by rw [padZ_succ]; exact ho2)
           have HB := Aside0.mk (HB.out.trans hb2)
           clear ho2 hb2))
      go_roundw
      case rel =>
        refine ⟨j + 1, ⟨?_⟩, HO2, HB⟩
        have h1 := HJ.out
        have h2 := HM.out
        unfold padJ at h1 ⊢
        omega
      case measure =>
        obtain ⟨g2, cap2, hv2, _⟩ := HO2.out
        subst hv2
        have := HM.out
        have := HJ.out
        have := padJ_lt a0
        simp only [padZ_len]
        omega
end Go.Proofs.YthdjmbbkenbeiaaDoor.P
