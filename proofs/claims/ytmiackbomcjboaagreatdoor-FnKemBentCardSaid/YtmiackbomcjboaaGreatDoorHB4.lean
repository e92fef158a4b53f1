/- Walks by hand: the program's state behind a text. -/
import Derived.Test.YtmiackbomcjboaaGreatDoorHB3
namespace Go.Proofs.YtmiackbomcjboaaGreatDoor.P
open Go.RowKit YtmiackbomcjboaaGreatDoorW.PrintWords YtmiackbomcjboaaGreatDoorW.PrintLast YtmiackbomcjboaaGreatDoorW.PrintMore YtmiackbomcjboaaGreatDoor.Kit
open Kd
set_option linter.unusedVariables false
set_option linter.unusedSimpArgs false

/-- A text filled up to whole blocks of 168 bytes. -/
def fM (s : ByteArray) (c : Int) (j : Nat) : List Int := (bl s ++ [c]) ++ List.replicate j 0
def kR (s : ByteArray) : Nat := (168 - (s.size + 1) % 168) % 168
theorem jC (s : ByteArray) : kR s < 168 := Nat.mod_lt _ (by decide)
theorem jy (s : ByteArray) (c : Int) (j : Nat) : (fM s c j).length = s.size + 1 + j := by
  simp only [fM, List.length_append, dH, List.length_replicate, List.length_singleton]
theorem nD (s : ByteArray) (c : Int) (j : Nat) : fM s c (j + 1) = fM s c j ++ [0] := by
  simp only [fM, List.append_assoc, List.replicate_succ']
/-- Its last byte's highest bit is turned. -/
def qD (T : List Int) : List Int := T.set (T.length - 1) (Go.bits .xor .u8 (rd T ((T.length - 1 : Nat) : Int)) 128)
theorem qX (T : List Int) : (qD T).length = T.length := by simp only [qD, List.length_set]
def ig (s : ByteArray) (c : Int) : List Int := qD (fM s c (kR s))
theorem mO (s : ByteArray) (c : Int) : (ig s c).length = s.size + 1 + kR s := by rw [ig, qX, jy]
theorem ux (s : ByteArray) (c : Int) : (ig s c).length % 168 = 0 ∧ s.size < (ig s c).length ∧ (ig s c).length ≤ s.size + 168 := by
  rw [mO]
  unfold kR
  omega
/-- A state's bytes, i of them turned by a block's. -/
def iI (st T : List Int) (o : Nat) : Nat → List Int
  | 0 => st
  | i + 1 => (iI st T o i).set i (Go.bits .xor .u8 (rd (iI st T o i) (i : Int)) (rd T ((o + i : Nat) : Int)))
theorem kn (st T : List Int) (o i : Nat) : (iI st T o i).length = st.length := by
  induction i with
  | zero => rfl
  | succ i ih => simp only [iI, List.length_set, ih]
def fx (s : ByteArray) : ByteArray := fU.v (cP.v (dl.v s))
theorem gZ (s : ByteArray) : (fx s).size = 200 := by
  unfold fx fU.v
  rw [strOfNums_size, dD]
theorem qz (s : ByteArray) (h : s.size = 200) : dQ.f s = some (fx s) := by
  unfold dQ.f
  rw [Fa (by omega)]
  rfl
/-- The state behind n blocks. -/
def g5 (T : List Int) : Nat → List Int
  | 0 => List.replicate 200 0
  | n + 1 => bl (fx (strOfNums (iI (g5 T n) T (168 * n) 168)))
theorem iy (T : List Int) (n : Nat) : (g5 T n).length = 200 := by
  cases n with
  | zero => simp only [g5, List.length_replicate]
  | succ n => simp only [g5, dH, gZ]
def dk.f (k : Nat) (a0 : ByteArray) (a1 a2 : Int) : Option ByteArray :=
  if a1 = 168 ∧ a0.size ≤ 1000000000000 then some (strOfNums (g5 (ig a0 a2) ((ig a0 a2).length / 168))) else none
theorem dk.mono : ∀ a0 a1 a2 k, LeO (dk.f k a0 a1 a2) (dk.f (k + 1) a0 a1 a2) := fun _ _ _ _ => LeO.refl _
set_option maxHeartbeats 4000000 in
set_option maxRecDepth 100000 in
theorem dk.calls (k : Nat) (a0 : ByteArray) (a1 a2 : Int) (r : ByteArray) (w : World) (h : dk.f k a0 a1 a2 = some r) : Calls Tryz.prog 113 #[.string a0, .int .i64 a1, .int .u8 a2] w fun e w' => e = .returned (.string r) ∧ Below w.heap.size w w' := by
  unfold dk.f at h
  split at h
  case isFalse => exact absurd h (by simp)
  case isTrue hc =>
  obtain ⟨h1, h2⟩ := hc
  subst h1
  have HR := aa.mk (Ba h)
  have HSZ := aa.mk h2
  clear h h2
  have hcv := Lib.run_convert_string_bytes (P := Tryz.prog) w 9 22 5 a0 Tryz.underlying9 Tryz.underlying22 Tryz.underlying5
  have HO := aa.mk (cK.conv w 5 a0)
  have HB := aa.mk (fd w 5 a0)
  obtain ⟨N, hN⟩ : ∃ N, N = w.heap.size := ⟨_, rfl⟩
  have HN := aa.mk hN
  go_enter Tryz.func113, Tryz.ntmps113
  go_wp2_with (first
    | (refine fT rfl (.tmp 12) (.tmp 14) 22 rfl 5 Tryz.underlying22 (by kernel_rfl) w.heap.size rfl rfl HO.o HB.o.size _ rfl (by rw [dH]; have := HSZ.o; omega) ?_
       rintro v2 w2 ho2 hb2
       have HO := aa.mk (show cK w2 w.heap.size v2 (fM a0 a2 0) by simpa [fM] using ho2)
       have HB := aa.mk (HB.o.trans hb2)
       clear ho2 hb2))
  clear hcv
  rw [← hN] at HO HB
  rw [← hN]
  clear hN
  go_loopw [7] (fun v wr => ∃ j : Nat, aa (j ≤ kR a0) ∧ aa (cK wr N v (fM a0 a2 j)) ∧ aa (Below N w wr)) (fun v _ => match v with | .slice _ n _ => a0.size + 400 - n | _ => 0)
  case atStart => exact ⟨0, ⟨Nat.zero_le _⟩, HO, HB⟩
  case round =>
    clear HO HB
    obtain ⟨j, HJ, HO, HB⟩ := hrel
    obtain ⟨g, cap, hv, hrest⟩ := HO.o
    subst hv
    clear hrest
    obtain ⟨m, hm⟩ : ∃ m, m = (fM a0 a2 j).length := ⟨_, rfl⟩
    rw [← hm] at HO ⊢
    have HML := aa.mk hm
    rw [jy] at hm
    have HM := aa.mk hm
    have hj := HJ.o
    have hsz := HSZ.o
    have hpj := jC a0
    by_cases hlt : m % 168 = 0
    · have hlk : ((m : Int) % 168 != 0) = false := by simp; omega
      have hjp : j = kR a0 := by unfold kR at hj ⊢; omega
      obtain ⟨q, hq⟩ : ∃ q, q = m - 1 := ⟨_, rfl⟩
      have e1 : IntKind.i64.wrap ((m : Int) - 1) = (q : Int) := (IntWalk.i64_in _ (by omega)).trans (by omega)
      have hqm : q < (fM a0 a2 j).length := by rw [← HML.o]; omega
      have hx1 : wr.cell? ⟨g, q, none⟩ = some (.int .u8 (rd (fM a0 a2 j) (q : Int))) := (HO.o.cells.2.2.2.2.1 q hqm).trans (by rw [dv])
      have hf1 : wr.frozen? ⟨g, q, none⟩ = false := HO.o.froz q hqm
      have hq1 : ((q : Int) < (m : Int)) = True := Aa (by omega)
      have HOX := aa.mk (HO.o.set q hqm (Go.bits .xor .u8 (rd (fM a0 a2 j) (q : Int)) 128))
      have HGN := aa.mk (show N ≤ g from HO.o.cells.2.1)
      have HGL := aa.mk (show g < wr.heap.size from HO.o.cells.2.2.1)
      have hT : (fM a0 a2 j).set q (Go.bits .xor .u8 (rd (fM a0 a2 j) (q : Int)) 128) = ig a0 a2 := by
        rw [hq, HML.o, hjp]; rfl
      rw [hT] at HOX
      have HR := aa.mk HR.o
      have hTl : (ig a0 a2).length = m := by rw [mO, ← hjp]; exact hm.symm
      obtain ⟨T, hTT⟩ : ∃ T, T = ig a0 a2 := ⟨_, rfl⟩
      rw [← hTT] at HOX HR hTl
      have HTL := aa.mk hTl
      have HM168 := aa.mk (show m % 168 = 0 ∧ m ≤ 1000000001000 from ⟨hlt, by unfold kR at hj; omega⟩)
      clear hT hTl hTT hjp hqm hj hm hlt hsz hq hpj
      go_wp2_with (first
        | ((with_reducible refine cQ (N := 32) rfl ?_)
           have HB := aa.mk (bZ HB.o (p := ⟨g, q, none⟩) HGN.o (.int .u8 (Go.bits .xor .u8 (rd (fM a0 a2 j) (q : Int)) 128)))
           have HGL := aa.mk (show g < (wr.setCell ⟨g, q, none⟩ (.int .u8 (Go.bits .xor .u8 (rd (fM a0 a2 j) (q : Int)) 128))).heap.size from HOX.o.cells.2.2.1)
           generalize (wr.setCell ⟨g, q, none⟩ (.int .u8 (Go.bits .xor .u8 (rd (fM a0 a2 j) (q : Int)) 128))) = ws at HOX HB HGL ⊢
           refine vs (Kd.int .u8) (w0 := w) N 5 rfl (N := 32) rfl 22 _ _ rfl 200 rfl rfl Tryz.underlying22 (.int .u8 0) 1 jj rfl (by decide) (by omega) 0 (ok := fun _ => True) (okp := fun _ => True) rfl (fun _ hk => hk) trivial (by omega) (by omega) HB.o (Nat.le_of_lt (Nat.lt_of_le_of_lt HGN.o HGL.o)) ?_
           intro v1 w1 ho hb hg_ hnew_
           have ho2 : (Kd.int .u8).R 5 w1 N (fun _ => True) v1 (g5 T 0) := ho
           have HOM := aa.mk (cK.of_R ho2 (by rw [iy]; omega))
           have HOX := aa.mk (HOX.o.below (hH hg_))
           have HB := aa.mk hb
           obtain ⟨g2, cap2, hv, hrest⟩ := HOM.o
           rw [iy] at hv
           subst hv
           have hne : g2 ≠ g := by
             obtain ⟨b, hb1, hb2⟩ := hnew_
             have h1 : g2 = b := by simpa [Value.ownBlock] using hb1
             have := HGL.o
             omega
           have HNE := aa.mk hne
           clear ho ho2 hb hg_ hnew_ hrest hne))
      clear hx1 hf1
      go_loopw [8, 9] (fun v c wr => ∃ (n g2 cap2 : Nat), c = .int .i64 ((168 * n : Nat) : Int) ∧ v = .slice (some ⟨g2, 0, none⟩) 200 cap2 ∧ aa (168 * n ≤ m) ∧ aa (g2 ≠ g) ∧ aa (cK wr N (.slice (some ⟨g, 0, none⟩) m cap) T) ∧ aa (cK wr N (.slice (some ⟨g2, 0, none⟩) 200 cap2) (g5 T n)) ∧ aa (Below N w wr)) (fun _ c _ => m - (intOf c).toNat)
      case atStart => exact ⟨0, g2, cap2, rfl, rfl, ⟨Nat.zero_le _⟩, HNE, HOX, HOM, HB⟩
      case round =>
        clear HOX HOM HB HNE HGL HGN
        obtain ⟨n, g3, cap3, rfl, rfl, HN3, HNE, HOX, HOS, HB⟩ := hrel
        obtain ⟨p, hp⟩ : ∃ p, p = 168 * n := ⟨_, rfl⟩
        have hn3 := HN3.o
        have hm168 := HM168.o
        rw [← hp] at hn3 ⊢
        have HPP := aa.mk hp
        by_cases hlt : p < m
        · have hlk3 : decide ((p : Int) < (m : Int)) = true := ya (by omega)
          have HLT := aa.mk hlt
          clear hn3 hm168 hp
          go_wp2
          go_loopw [41] (fun c wr => ∃ i : Nat, c = .int .i64 (i : Int) ∧ aa (i ≤ 168) ∧ aa (cK wr N (.slice (some ⟨g, 0, none⟩) m cap) T) ∧ aa (cK wr N (.slice (some ⟨g3, 0, none⟩) 200 cap3) (iI (g5 T n) T p i)) ∧ aa (Below N w wr)) (fun c _ => 168 - (intOf c).toNat)
          case atStart => exact ⟨0, rfl, ⟨by omega⟩, HOX, HOS, HB⟩
          case round =>
            clear HOX HOS HB
            obtain ⟨i, rfl, HI, HOX, HOS, HB⟩ := hrel
            have hi := HI.o
            have hxl : (iI (g5 T n) T p i).length = 200 := by rw [kn, iy]
            have HXL := aa.mk hxl
            by_cases hlti : i < 168
            · have hlk4 : decide ((i : Int) < 168) = true := ya (by omega)
              obtain ⟨o, ho⟩ : ∃ o, o = p + i := ⟨_, rfl⟩
              have hpm := HPP.o
              have hm168 := HM168.o
              have e1 : IntKind.i64.wrap ((p : Int) + (i : Int)) = (o : Int) := (IntWalk.i64_in _ (by omega)).trans (by omega)
              have ko : o < T.length := by have := HTL.o; omega
              have ki : i < (iI (g5 T n) T p i).length := by omega
              have hi2 : ((i : Int) < 200) = True := Aa (by omega)
              have ho2 : ((o : Int) < (m : Int)) = True := Aa (by have := HTL.o; omega)
              have hxs : iI (g5 T n) T p (i + 1) = (iI (g5 T n) T p i).set i (Go.bits .xor .u8 (rd (iI (g5 T n) T p i) (i : Int)) (rd T ((p + i : Nat) : Int))) := rfl
              rw [← ho] at hxs
              have HXS := aa.mk hxs
              have HKO := aa.mk ko
              have HKI := aa.mk ki
              clear hi hxl ho hpm hm168 ko ki hxs
              go_wp2
              refine wp_region_still_tail 12 (by kernel_rfl) (by kernel_rfl) ?_
              simp only [List.take_succ_cons, List.take_zero, List.drop_succ_cons, List.drop_zero]
              change wpStill _ _ wr.drew (fun a' => wpList _ _ _ _ a' wr.drew) _ _
              have HOX := aa.mk HOX.o.drew
              have HOS := aa.mk HOS.o.drew
              have HB := aa.mk (dq HB.o)
              generalize wr.drew = w4 at HOX HOS HB ⊢
              have hx1 : w4.cell? ⟨g3, i, none⟩ = some (.int .u8 (rd (iI (g5 T n) T p i) (i : Int))) := (HOS.o.cells.2.2.2.2.1 i HKI.o).trans (by rw [dv])
              have hx2 : w4.cell? ⟨g, o, none⟩ = some (.int .u8 (rd T (o : Int))) := (HOX.o.cells.2.2.2.2.1 o HKO.o).trans (by rw [dv])
              have hf1 : w4.frozen? ⟨g3, i, none⟩ = false := HOS.o.froz i HKI.o
              repeat still_step
              refine wpStill_nil ?_
              go_wp2
              go_roundw
              case rel =>
                refine ⟨i + 1, by go_num, ⟨by omega⟩, ⟨HOX.o.far (by show g3 ≠ g; exact HNE.o) _⟩, ⟨?_⟩, ⟨bZ HB.o (by show N ≤ g3; exact HOS.o.cells.2.1) _⟩⟩
                rw [HXS.o]
                exact HOS.o.set i HKI.o _
              case measure => simp [intOf]; omega
            · have hlk4 : decide ((i : Int) < 168) = false := za (by omega)
              obtain rfl : i = 168 := by omega
              clear hlti hi hxl
              have hcv1 := run_convert_bytes_arg (P := Tryz.prog) wr 22 5 Tryz.underlying22 Tryz.underlying5 g3 0 200 cap3 (iI (g5 T n) T p 168) HXL.o (fun i hi => by rw [Nat.zero_add]; exact (HOS.o.cells.2.2.2.2.1 i (by rw [HXL.o]; exact hi)).trans (by rw [dv])) 9 Tryz.underlying9
              obtain ⟨S, hS⟩ : ∃ S, S = strOfNums (iI (g5 T n) T p 168) := ⟨_, rfl⟩
              have hPf : dQ.f S = some (fx S) := qz S (by rw [hS, strOfNums_size, HXL.o])
              have hnx : g5 T (n + 1) = bl (fx S) := by rw [hS, HPP.o]; rfl
              rw [← hS] at hcv1
              have HPF := aa.mk hPf
              have HNX := aa.mk hnx
              have HPS := aa.mk (gZ S)
              generalize fx S = Q at HPF HNX HPS
              clear hPf hnx hS
              have e9 : IntKind.i64.wrap ((p : Int) + 168) = ((168 * (n + 1) : Nat) : Int) := (IntWalk.i64_in _ (by have := HLT.o; have := HM168.o; omega)).trans (by have := HPP.o; omega)
              go_wp2_with (first
                | (go_at_call 114
                   (with_reducible refine (dQ.calls S Q _ HPF.o).mono ?_)
                   rintro e w6 ⟨rfl, hb6⟩
                   have hcv2 := Lib.run_convert_string_bytes (P := Tryz.prog) w6 9 22 5 Q Tryz.underlying9 Tryz.underlying22 Tryz.underlying5
                   have HOX6 := aa.mk (HOX.o.below hb6)
                   have HB6 := aa.mk (HB.o.trans (hb6.mono (by rw [HN.o]; exact HB.o.size)))
                   have HOX7 := aa.mk (HOX6.o.below (fd w6 5 Q))
                   have HB7 := aa.mk (HB6.o.trans ((fd w6 5 Q).mono (by rw [HN.o]; exact HB6.o.size)))
                   have HOS7 := aa.mk ((cK.conv w6 5 Q).lower (base' := N) (by rw [HN.o]; exact HB6.o.size))
                   rw [← HNX.o] at HOS7
                   clear hb6))
              go_roundw
              case rel =>
                refine ⟨n + 1, w6.heap.size, _, rfl, by rw [HPS.o], ⟨by have := HLT.o; have := HM168.o; have := HPP.o; omega⟩, ⟨fun he => ?_⟩, HOX7, ?_, HB7⟩
                · have := HOX6.o.cells.2.2.1
                  omega
                · rw [HPS.o] at HOS7
                  exact HOS7
              case measure => have := HLT.o; have := HPP.o; simp [intOf]; omega
        · have hlk3 : decide ((p : Int) < (m : Int)) = false := za (by omega)
          have hlk5 : decide (p < m) = false := za hlt
          have hnm : n = T.length / 168 := by have := HTL.o; omega
          have hR := HR.o
          rw [← hnm] at hR
          have HR := aa.mk hR
          have hcv1 := run_convert_bytes_arg (P := Tryz.prog) wr 22 5 Tryz.underlying22 Tryz.underlying5 g3 0 200 cap3 (g5 T n) (iy T n) (fun i hi => by rw [Nat.zero_add]; exact (HOS.o.cells.2.2.2.2.1 i (by rw [iy]; exact hi)).trans (by rw [dv])) 9 Tryz.underlying9
          rw [hR] at hcv1
          clear hn3 hm168 hp hlt hnm hR
          go_wp2
          go_ret
          exact ⟨rfl, by rw [← HN.o]; exact HB.o⟩
    · have hlk : ((m : Int) % 168 != 0) = true := by simp; omega
      clear hj hm hsz hpj
      go_wp2_with (first
        | (refine fT rfl (.tmp 21) (.tmp 22) 22 rfl 5 Tryz.underlying22 (by kernel_rfl) N rfl rfl HO.o (by have := HB.o.size; rw [HN.o]; exact this) _ rfl (by rw [← HML.o]; have := HM.o; have := HJ.o; have := HSZ.o; have := jC a0; omega) ?_
           rintro v2 w2 ho2 hb2
           have HO2 := aa.mk (show cK w2 N v2 (fM a0 a2 (j + 1)) by rw [nD]; exact ho2)
           have HB := aa.mk (HB.o.trans hb2)
           clear ho2 hb2))
      go_roundw
      case rel =>
        refine ⟨j + 1, ⟨?_⟩, HO2, HB⟩
        have h1 := HJ.o
        have h2 := HM.o
        unfold kR at h1 ⊢
        omega
      case measure =>
        obtain ⟨g2, cap2, hv2, _⟩ := HO2.o
        subst hv2
        have := HM.o
        have := HJ.o
        have := jC a0
        simp only [jy]
        omega
end Go.Proofs.YtmiackbomcjboaaGreatDoor.P
