/- Walks by hand: the reference's permutation hands back a row of its own. -/
import Derived.Test.YtielligodgabiaaGreatDoorMW2
import Derived.Test.YtielligodgabiaaGreatDoorMW3
import Derived.Test.YtielligodgabiaaGreatDoorMW4
import Derived.Test.YtielligodgabiaaGreatDoorHB4
import Derived.Test.YtielligodgabiaaGreatDoorPx0
import Derived.Test.YtielligodgabiaaGreatDoorPx2
import Derived.Test.YtielligodgabiaaGreatDoorPx3
import Derived.StillTailTactics
import Derived.Deep.QuietTactic
import Derived.BigQuiet
import Derived.IntWalk
import Derived.Laws.CopyOwn
namespace Go.Proofs.YtielligodgabiaaGreatDoor.P
open Go.RowKit YtielligodgabiaaGreatDoorW.PrintWords YtielligodgabiaaGreatDoorW.PrintLast YtielligodgabiaaGreatDoorW.PrintMore YtielligodgabiaaGreatDoor.Kit
set_option linter.unusedVariables false
set_option linter.unusedSimpArgs false

set_option maxHeartbeats 8000000 in
set_option maxRecDepth 100000 in
theorem kG (k : Nat) (A0 : Option Addr) (c0 : Nat) (l0 : List Int) (r : List Int) (w : World) (hr0 : Kd.C (Kd.int .u64) w A0 l0.length l0) (hc0 : l0.length ≤ c0) (h : aN.f k l0 = some r) :
    Calls Tryz.prog 95 #[.slice A0 l0.length c0] w fun e w' => ∃ v0_ : Value, e = .returned (v0_) ∧ Kd.R (Kd.int .u64) 91 w' w.heap.size (fun _ => True) v0_ r ∧ Below w.heap.size w w' := by
  have HR0 := aa.mk hr0
  have HC0 := aa.mk hc0
  clear hr0 hc0
  have HB := aa.mk (xa w.heap.size w)
  obtain ⟨t145, A20, H⟩ := Option.bind_eq_some_iff.mp h
  obtain ⟨t148, A30, H⟩ := Option.bind_eq_some_iff.mp H
  have A2 := aa.mk A20
  have A3 := aa.mk A30
  have H' := aa.mk H
  clear H A20 A30 h
  go_enter Tryz.func95, Tryz.ntmps95
  go_wp2_with (first
    | (go_at_call 100
       (with_reducible refine (bz.calls k t145 _ A2.out).mono ?_)
       rintro e w4 ⟨v146, rfl, ho0, hb⟩
       have HT := aa.mk ho0
       have HB := aa.mk (HB.out.trans hb)
       clear ho0 hb)
    | (go_at_call 101
       (with_reducible refine (aM.calls k t148 _ A3.out).mono ?_)
       rintro e w5 ⟨v149, rfl, ho0, hb⟩
       have HT := aa.mk (Kd.R_below HT.out hb)
       have HS := aa.mk (Kd.R_lower ho0 HB.out.size)
       have HB := aa.mk (HB.out.trans (hb.mono HB.out.size))
       clear ho0 hb))
  go_loopg [0, 5] k (fun kq v0 v5 w' => ∃ (x0 : List Int) (x5 : Int), v5 = .int .i64 x5 ∧ aa (aN.l0 kq x0 t145 t148 x5 = some r) ∧ aa (kq ≤ k) ∧ aa (∃ A c, v0 = .slice A x0.length c ∧ x0.length ≤ c ∧ Kd.C (Kd.int .u64) w' A x0.length x0) ∧ aa (0 < x5 → Kd.R (Kd.int .u64) 91 w' w.heap.size (fun _ => True) v0 x0) ∧ aa (Kd.R (Kd.int .i64) 3 w' w.heap.size (fun _ => True) v146 t145) ∧ aa (Kd.R (Kd.int .u64) 91 w' w.heap.size (fun _ => True) v149 t148) ∧ aa (Below w.heap.size w w'))
  case atStart => exact ⟨l0, 0, rfl, H', ⟨wa _⟩, ⟨_, _, rfl, HC0.out, Kd.C_below HR0.out HB.out⟩, ⟨fun h => absurd h (by decide)⟩, HT, HS, HB⟩
  case round =>
    clear H' HT HS HB
    obtain ⟨x0, x5, rfl, HA, HK1, HV, HO, HT, HS, HB⟩ := hrel
    cases gk with
    | zero => exact absurd HA.out (by simp [aN.l0])
    | succ k1 =>
      have H := HA.out
      clear HA
      simp only [aN.l0] at H
      obtain ⟨A, c, hv, hlc, hC⟩ := HV.out
      subst hv
      have HLC := aa.mk hlc
      have HC := aa.mk hC
      clear hlc hC HV
      by_cases c6 : x5 < 24
      · rw [za c6] at H
        have c6b0 : decide (x5 < 24) = true := ta c6
        by_cases c7 : 0 ≤ x5
        · rw [za c7] at H
          by_cases c8 : x5 < (t148.length : Int)
          · rw [za c8] at H
            obtain ⟨t152, A90, H⟩ := Option.bind_eq_some_iff.mp H
            have A9 := aa.mk A90
            have H' := aa.mk H
            clear H A90
            obtain ⟨Ao10, co10, eo10⟩ := Kd.R_slice HS.out
            subst eo10
            obtain ⟨ad151, e151, hx151_0⟩ := Kd.at_int (Kd.R_reads' HS.out).2.2 x5 c7 c8
            cases e151
            have p151 := va c7
            have q151 := va c8
            obtain ⟨Ao12, co12, eo12⟩ := Kd.R_slice HT.out
            subst eo12
            clear c6 c7 c8
            go_wp2_with (first
              | (go_at_call 102
                 (with_reducible refine (af.calls k1 _ _ x0 _ _ t145 (rd t148 x5) t152 _ HC.out HLC.out (Kd.R_reads' HT.out).2.2 (Kd.R_reads' HT.out).2.1 A9.out).mono ?_)
                 rintro e w13 ⟨v153, rfl, ho0, hb⟩
                 have HT := aa.mk (Kd.R_below HT.out hb)
                 have HS := aa.mk (Kd.R_below HS.out hb)
                 have HO2 := aa.mk (Kd.R_lower ho0 HB.out.size)
                 have HB := aa.mk (HB.out.trans (hb.mono HB.out.size))
                 clear ho0 hb))
            go_roundg k1
            case measure => have := HK1.out; omega
            case rel => exact ⟨t152, (wrap64 (x5 + 1)), (by first | rfl | (simp; done) | (simp [*]; done)), H', ⟨by have := HK1.out; omega⟩, ⟨Kd.R_reads HO2.out⟩, ⟨fun _ => HO2.out⟩, HT, HS, HB⟩
          · rw [Aa c8] at H
            exact absurd H (by simp)
        · rw [Aa c7] at H
          exact absurd H (by simp)
      · rw [Aa c6] at H
        have c6b0 : decide (x5 < 24) = false := ua c6
        have HP := aa.mk (HO.out (by omega))
        clear c6
        obtain rfl := sI H
        go_wp2
        go_ret
        exact ⟨_, rfl, HP.out, HB.out⟩
/-- A state's lanes, i of them turned by a block's. -/
def gt (st ls : List Int) : Nat → List Int
  | 0 => st
  | i + 1 => (gt st ls i).set i (Go.bits .xor .u64 (rd (gt st ls i) (i : Int)) (rd ls (i : Int)))
theorem hJ (st ls : List Int) (i : Nat) : (gt st ls i).length = st.length := by
  induction i with
  | zero => rfl
  | succ i ih => simp only [gt, List.length_set, ih]
/-- The block n of a filled text. -/
def eu (T : List Int) (n : Nat) : ByteArray := strOfNums ((T.drop (168 * n)).take 168)
/-- The lanes behind n blocks. -/
def kh (k : Nat) (T : List Int) : Nat → Option (List Int)
  | 0 => some (List.replicate 25 0)
  | n + 1 => (kh k T n).bind fun st => (aK.f k (eu T n)).bind fun ls => if 0 < ls.length ∧ ls.length ≤ st.length ∧ st.length ≤ 1000 then (aN.f k (gt st ls ls.length)).bind fun r => if 0 < r.length ∧ r.length ≤ 1000 then some r else none else none
theorem mb {k : Nat} {T : List Int} {n : Nat} : ∀ {m : Nat} {r : List Int}, kh k T (n + m) = some r → ∃ t, kh k T n = some t
  | 0, r, h => ⟨r, h⟩
  | m + 1, r, h => by
    obtain ⟨t, h1, _⟩ := Option.bind_eq_some_iff.mp h
    exact mb h1
theorem pe {k : Nat} {T : List Int} {n M : Nat} {st r : List Int} (h : kh k T M = some r) (hn : n < M) (h0 : kh k T n = some st) : ∃ ls s2, aK.f k (eu T n) = some ls ∧ (0 < ls.length ∧ ls.length ≤ st.length ∧ st.length ≤ 1000) ∧ aN.f k (gt st ls ls.length) = some s2 ∧ (0 < s2.length ∧ s2.length ≤ 1000) ∧ kh k T (n + 1) = some s2 := by
  obtain ⟨s', h1⟩ := mb (n := n + 1) (m := M - (n + 1)) (r := r) (by rw [show n + 1 + (M - (n + 1)) = M by omega]; exact h)
  have h9 := h1
  obtain ⟨sv, h2, h3⟩ := Option.bind_eq_some_iff.mp h1
  rw [h0] at h2
  obtain rfl := sI h2
  obtain ⟨ls, h4, h5⟩ := Option.bind_eq_some_iff.mp h3
  split at h5
  · rename_i hc
    obtain ⟨s2, h6, h7⟩ := Option.bind_eq_some_iff.mp h5
    split at h7
    · rename_i hd
      obtain rfl := sI h7
      exact ⟨ls, _, h4, hc, h6, hd, h9⟩
    · exact absurd h7 (by simp)
  · exact absurd h5 (by simp)
theorem pr {k : Nat} {T : List Int} {n : Nat} {st : List Int} (h : kh k T n = some st) : st.length ≤ 1000 := by
  cases n with
  | zero =>
    obtain rfl := sI h
    rw [List.length_replicate]
    decide
  | succ n =>
    obtain ⟨sv, _, h3⟩ := Option.bind_eq_some_iff.mp h
    obtain ⟨ls, _, h5⟩ := Option.bind_eq_some_iff.mp h3
    split at h5
    · obtain ⟨s2, _, h7⟩ := Option.bind_eq_some_iff.mp h5
      split at h7
      · rename_i hd
        obtain rfl := sI h7
        exact hd.2
      · exact absurd h7 (by simp)
    · exact absurd h5 (by simp)
def cv.f (k : Nat) (a0 : ByteArray) (a1 a2 : Int) : Option ByteArray :=
  if a1 = 168 ∧ a0.size ≤ 1000000000000 then (kh k (gi a0 a2) ((gi a0 a2).length / 168)).bind fun st => aJ.f k st else none
theorem ma (k : Nat) (T : List Int) : ∀ n, LeO (kh k T n) (kh (k + 1) T n)
  | 0 => LeO.refl _
  | n + 1 => LeO.bind (ma k T n) (fun _ => LeO.bind (aK.mono _ k) (fun _ => LeO.ite (LeO.bind (aN.mono _ k) (fun _ => LeO.refl _)) (LeO.refl _)))
theorem cv.mono : ∀ a0 a1 a2 k, LeO (cv.f k a0 a1 a2) (cv.f (k + 1) a0 a1 a2) := by
  intro a0 a1 a2 k
  unfold cv.f
  exact LeO.ite (LeO.bind (ma k _ _) (fun _ => aJ.mono _ k)) (LeO.refl _)
set_option maxHeartbeats 4000000 in
set_option maxRecDepth 100000 in
theorem cv.calls (k : Nat) (a0 : ByteArray) (a1 a2 : Int) (r : ByteArray) (w : World) (h : cv.f k a0 a1 a2 = some r) : Calls Tryz.prog 89 #[.string a0, .int .i64 a1, .int .u8 a2] w fun e w' => e = .returned (.string r) ∧ Below w.heap.size w w' := by
  unfold cv.f at h
  split at h
  case isFalse => exact absurd h (by simp)
  case isTrue hc =>
  obtain ⟨h1, h2⟩ := hc
  subst h1
  obtain ⟨st9, h3, h4⟩ := Option.bind_eq_some_iff.mp h
  have HRW := aa.mk h3
  have HRB := aa.mk h4
  have HSZ := aa.mk h2
  clear h h2 h3 h4
  obtain ⟨N, hN⟩ : ∃ N, N = w.heap.size := ⟨_, rfl⟩
  have HN := aa.mk hN
  go_enter Tryz.func89, Tryz.ntmps89
  go_wp2_with (first
    | ((with_reducible refine aI (N := 12) rfl ?_)
       refine Kd.R_make (Kd.int .u64) (w0 := w) w.heap.size 91 rfl (N := 12) rfl 89 _ _ rfl 25 rfl rfl Tryz.underlying89 (.int .u64 0) 8 jp rfl (by decide) (by omega) 0 (ok := fun _ => True) (okp := fun _ => True) rfl (fun _ hk => hk) trivial (by omega) (by omega) (xa _ _) (wa _) ?_
       intro v1 w1 ho hb hg_ hnew_
       have HOS := aa.mk (dS.of_R (show (Kd.int .u64).R 91 w1 w.heap.size (fun _ => True) v1 (List.replicate 25 0) from ho) (by decide))
       have HB1 := aa.mk hb
       have hcv := Lib.run_convert_string_bytes (P := Tryz.prog) w1 9 57 5 a0 Tryz.underlying9 Tryz.underlying57 Tryz.underlying5
       have HO := aa.mk (cj.conv w1 5 a0)
       have HB := aa.mk (dP w1 5 a0)
       obtain ⟨g1, cap1, hv1, hrest1⟩ := HOS.out
       rw [List.length_replicate] at hv1
       subst hv1
       clear ho hb hg_ hnew_ hrest1)
    | (refine eP rfl (.tmp 14) (.tmp 16) 57 rfl 5 Tryz.underlying57 (by kernel_rfl) w1.heap.size rfl rfl HO.out HB.out.size _ rfl (by rw [cN]; have := HSZ.out; omega) ?_
       rintro v2 w2 ho2 hb2
       have HO := aa.mk (show cj w2 w1.heap.size v2 (eJ a0 a2 0) by simpa [eJ] using ho2)
       have HB := aa.mk (HB.out.trans hb2)
       clear ho2 hb2))
  clear hcv
  have hg1 : g1 < w1.heap.size := HOS.out.cells.2.2.1
  have HOS := aa.mk (HOS.out.keep hg1 HB.out)
  have HBN := aa.mk HB1.out.size
  have HBB := aa.mk HB.out.size
  have HB := aa.mk (HB1.out.trans (HB.out.mono HB1.out.size))
  obtain ⟨B, hB⟩ : ∃ B, B = w1.heap.size := ⟨_, rfl⟩
  rw [← hB] at HO HBN HBB hg1
  rw [← hN] at HOS HBN HB
  have HG1 := aa.mk hg1
  clear hN hB hg1
  go_loopw [8] (fun v wr => ∃ j : Nat, aa (j ≤ jz a0) ∧ aa (cj wr B v (eJ a0 a2 j)) ∧ aa (dS .u64 wr N (.slice (some ⟨g1, 0, none⟩) 25 cap1) (List.replicate 25 0)) ∧ aa (B ≤ wr.heap.size) ∧ aa (Below N w wr)) (fun v _ => match v with | .slice _ n _ => a0.size + 400 - n | _ => 0)
  case atStart => exact ⟨0, ⟨Nat.zero_le _⟩, HO, HOS, HBB, HB⟩
  case round =>
    clear HO HB HOS HBB
    obtain ⟨j, HJ, HO, HOS, HBB, HB⟩ := hrel
    obtain ⟨g, cap, hv, hrest⟩ := HO.out
    subst hv
    clear hrest
    obtain ⟨m, hm⟩ : ∃ m, m = (eJ a0 a2 j).length := ⟨_, rfl⟩
    rw [← hm] at HO ⊢
    have HML := aa.mk hm
    rw [hG] at hm
    have HM := aa.mk hm
    have hj := HJ.out
    have hsz := HSZ.out
    have hpj := ig a0
    by_cases hlt : m % 168 = 0
    · have hlk : ((m : Int) % 168 != 0) = false := by simp; omega
      have hjp : j = jz a0 := by unfold jz at hj ⊢; omega
      obtain ⟨q, hq⟩ : ∃ q, q = m - 1 := ⟨_, rfl⟩
      have e1 : IntKind.i64.wrap ((m : Int) - 1) = (q : Int) := (IntWalk.i64_in _ (by omega)).trans (by omega)
      have hqm : q < (eJ a0 a2 j).length := by rw [← HML.out]; omega
      have hx1 : wr.cell? ⟨g, q, none⟩ = some (.int .u8 (rd (eJ a0 a2 j) (q : Int))) := (HO.out.cells.2.2.2.2.1 q hqm).trans (by rw [cR])
      have hf1 : wr.frozen? ⟨g, q, none⟩ = false := HO.out.froz q hqm
      have hq1 : ((q : Int) < (m : Int)) = True := va (by omega)
      have HGN := aa.mk (show B ≤ g from HO.out.cells.2.1)
      have HOX := aa.mk (HO.out.set q hqm (Go.bits .xor .u8 (rd (eJ a0 a2 j) (q : Int)) 128))
      have hne : g ≠ g1 := by have := HGN.out; have := HG1.out; omega
      have HOS := aa.mk (HOS.out.far (p := ⟨g, q, none⟩) hne (.int .u8 (Go.bits .xor .u8 (rd (eJ a0 a2 j) (q : Int)) 128)))
      have HB := aa.mk (bN HB.out (p := ⟨g, q, none⟩) (by show N ≤ g; have := HGN.out; have := HBN.out; omega) (.int .u8 (Go.bits .xor .u8 (rd (eJ a0 a2 j) (q : Int)) 128)))
      have hT : (eJ a0 a2 j).set q (Go.bits .xor .u8 (rd (eJ a0 a2 j) (q : Int)) 128) = gi a0 a2 := by
        rw [hq, HML.out, hjp]; rfl
      rw [hT] at HOX
      have hRW := HRW.out
      have hTl : (gi a0 a2).length = m := by rw [kX, ← hjp]; exact hm.symm
      obtain ⟨T, hTT⟩ : ∃ T, T = gi a0 a2 := ⟨_, rfl⟩
      rw [← hTT] at HOX hRW hTl
      have HRW := aa.mk hRW
      have HTL := aa.mk hTl
      have HNE := aa.mk (Ne.symm hne)
      have HM168 := aa.mk (show m % 168 = 0 ∧ m ≤ 1000000001000 from ⟨hlt, by omega⟩)
      clear hT hTl hTT hjp hqm hj hm hlt hsz hq hpj hne hRW
      go_wp2
      clear hx1 hf1
      generalize World.setCell wr _ _ = ws at HOX HOS HB ⊢
      go_loopw [7, 9] (fun v c wr => ∃ (n gs cs len : Nat) (st : List Int), c = .int .i64 ((168 * n : Nat) : Int) ∧ v = .slice (some ⟨gs, 0, none⟩) len cs ∧ aa (st.length = len) ∧ aa (168 * n ≤ m) ∧ aa (kh k T n = some st) ∧ aa (gs ≠ g) ∧ aa (cj wr B (.slice (some ⟨g, 0, none⟩) m cap) T) ∧ aa (dS .u64 wr N (.slice (some ⟨gs, 0, none⟩) len cs) st) ∧ aa (Below N w wr)) (fun _ c _ => m - (intOf c).toNat)
      case atStart => exact ⟨0, g1, cap1, 25, _, rfl, rfl, ⟨List.length_replicate⟩, ⟨Nat.zero_le _⟩, ⟨rfl⟩, HNE, HOX, HOS, HB⟩
      case round =>
        clear HOX HOS HB HNE
        obtain ⟨n, gs, cs, len, st, rfl, rfl, HLEN, HN3, HAW, HNE, HOX, HOS, HB⟩ := hrel
        obtain ⟨p, hp⟩ : ∃ p, p = 168 * n := ⟨_, rfl⟩
        have hn3 := HN3.out
        have hm168 := HM168.out
        rw [← hp] at hn3 ⊢
        have HPP := aa.mk hp
        by_cases hlt : p < m
        · have hlk3 : decide ((p : Int) < (m : Int)) = true := ta (by omega)
          have HLT := aa.mk hlt
          obtain ⟨ls, s2, hls, hll, hs2, hs2l, haw⟩ := pe HRW.out (show n < T.length / 168 by have := HTL.out; omega) HAW.out
          have HLS := aa.mk hls
          have HLL := aa.mk hll
          have HS2 := aa.mk hs2
          have HS2L := aa.mk hs2l
          have HAW2 := aa.mk haw
          obtain ⟨p2, hp2⟩ : ∃ p2, p2 = p + 168 := ⟨_, rfl⟩
          have e2 : IntKind.i64.wrap ((p : Int) + 168) = (p2 : Int) := (IntWalk.i64_in _ (by omega)).trans (by omega)
          have hcap : m ≤ cap := by have := HOX.out.cells.2.2.2.1; have := HTL.out; omega
          have s1 : (p ≤ p2) = True := va (by omega)
          have s2' : (p2 ≤ cap) = True := va (by omega)
          have s3 : (cap = p) = False := eq_false (by omega)
          have hseg : ((T.drop p).take 168).length = p2 - p := by rw [List.length_take, List.length_drop]; have := HTL.out; omega
          have hcv2 := run_convert_bytes_arg (P := Tryz.prog) wr 57 5 Tryz.underlying57 Tryz.underlying5 g p (p2 - p) (cap - p) ((T.drop p).take 168) hseg (fun i hi => by rw [HOX.out.cells.2.2.2.2.1 (p + i) (by have := HTL.out; omega)]; simp [List.getD, List.getElem?_take, List.getElem?_drop, show i < 168 by omega]) 9 Tryz.underlying9
          have hbk : strOfNums ((T.drop p).take 168) = eu T n := by rw [hp]; rfl
          rw [hbk] at hcv2
          have HP2 := aa.mk hp2
          clear hn3 hm168 hp hls hll hs2 hs2l haw hp2 hcap hseg hbk
          go_wp2_with (first
            | (go_at_call 94
               (with_reducible refine (aK.calls k _ ls _ HLS.out).mono ?_)
               rintro e w5 ⟨v5, rfl, ho5, hb5⟩
               have HOL := aa.mk (dS.of_R ho5 HLL.out.1)
               have HGG := aa.mk (show g < wr.heap.size ∧ gs < wr.heap.size from ⟨HOX.out.cells.2.2.1, HOS.out.cells.2.2.1⟩)
               have HOX := aa.mk (HOX.out.below hb5)
               have HOS := aa.mk (HOS.out.below hb5)
               have HB := aa.mk (HB.out.trans (hb5.mono (by rw [HN.out]; exact HB.out.size)))
               obtain ⟨gl, cl, hvl, hrl⟩ := HOL.out
               subst hvl
               have HNL := aa.mk (show gs ≠ gl ∧ g ≠ gl by have := HOL.out.cells.2.1; have := HGG.out; omega)
               clear ho5 hb5 hrl))
          clear hcv2 s1 s2' s3
          obtain ⟨ln, hln⟩ : ∃ ln, ln = ls.length := ⟨_, rfl⟩
          rw [← hln] at HOL ⊢
          have HLN := aa.mk hln
          clear hln
          go_loopw [11] (fun c wr => ∃ i : Nat, c = .int .i64 (i : Int) ∧ aa (i ≤ ln) ∧ aa (cj wr B (.slice (some ⟨g, 0, none⟩) m cap) T) ∧ aa (dS .u64 wr N (.slice (some ⟨gs, 0, none⟩) len cs) (gt st ls i)) ∧ aa (∃ b, dS .u64 wr b (.slice (some ⟨gl, 0, none⟩) ln cl) ls) ∧ aa (Below N w wr)) (fun c _ => ln - (intOf c).toNat)
          case atStart => exact ⟨0, rfl, ⟨by omega⟩, HOX, HOS, ⟨_, HOL.out⟩, HB⟩
          case round =>
            clear HOX HOS HB HOL
            obtain ⟨i, rfl, HI, HOX, HOS, HOL, HB⟩ := hrel
            have hi := HI.out
            have hxl : (gt st ls i).length = len := by rw [hJ]; exact HLEN.out
            have HXL := aa.mk hxl
            have hln := HLN.out
            have hll := HLL.out
            have hle := HLEN.out
            by_cases hlti : i < ln
            · have hlk4 : decide ((i : Int) < (ln : Int)) = true := ta (by omega)
              have hlk5 : decide (i < ln) = true := ta hlti
              have ki : i < (gt st ls i).length := by omega
              have kl : i < ls.length := by omega
              have hi2 : ((i : Int) < (len : Int)) = True := va (by omega)
              have hi3 : ((i : Int) < (ln : Int)) = True := va (by omega)
              have hi4 : (i < len) = True := va (by omega)
              have hi5 : (i < ln) = True := va hlti
              have hb1000 : ln ≤ 1000 := by omega
              have HKL := aa.mk kl
              have HKI := aa.mk ki
              clear hi hxl hln hll hle ki kl
              go_wp2
              refine wp_region_still_tail 12 (by kernel_rfl) (by kernel_rfl) ?_
              simp only [List.take_succ_cons, List.take_zero, List.drop_succ_cons, List.drop_zero]
              change wpStill _ _ wr.drew (fun a' => wpList _ _ _ _ a' wr.drew) _ _
              have HOX := aa.mk HOX.out.drew
              have HOS := aa.mk HOS.out.drew
              have HOL := aa.mk (HOL.out.elim fun b h => ⟨b, dS.drew h⟩ : ∃ b, dS .u64 wr.drew b (.slice (some ⟨gl, 0, none⟩) ln cl) ls)
              have HB := aa.mk (cV HB.out)
              generalize wr.drew = w4 at HOX HOS HOL HB ⊢
              obtain ⟨b, hol⟩ := HOL.out
              have hx1 : w4.cell? ⟨gs, i, none⟩ = some (.int .u64 (rd (gt st ls i) (i : Int))) := (HOS.out.at i HKI.out).trans (by rw [cR])
              have hx2 : w4.cell? ⟨gl, i, none⟩ = some (.int .u64 (rd ls (i : Int))) := (hol.at i HKL.out).trans (by rw [cR])
              have hf1 : w4.frozen? ⟨gs, i, none⟩ = false := HOS.out.froz i HKI.out
              clear hol
              repeat still_step
              refine wpStill_nil ?_
              go_wp2
              go_roundw
              case rel =>
                refine ⟨i + 1, by go_num, ⟨by omega⟩, ⟨HOX.out.far (by show gs ≠ g; exact HNE.out) _⟩, ⟨HOS.out.set i HKI.out _⟩, ⟨?_⟩, ⟨bN HB.out (by show N ≤ gs; exact HOS.out.cells.2.1) _⟩⟩
                obtain ⟨b, hol⟩ := HOL.out
                exact ⟨b, hol.far (by show gs ≠ gl; exact HNL.out.1) _⟩
              case measure => simp [intOf]; omega
            · have hlk4 : decide ((i : Int) < (ln : Int)) = false := ua (by omega)
              have hlk5 : decide (i < ln) = false := ua hlti
              obtain rfl : i = ln := by omega
              obtain ⟨X, hX⟩ : ∃ X, X = gt st ls i := ⟨_, rfl⟩
              have hs2 := HS2.out
              rw [← hln, ← hX] at hs2
              rw [← hX] at HOS hxl
              subst hxl
              have HS2 := aa.mk hs2
              have HXB := aa.mk (show X.length ≤ 1000 by omega)
              have e9 : IntKind.i64.wrap ((p : Int) + 168) = ((168 * (n + 1) : Nat) : Int) := (IntWalk.i64_in _ (by have := HLT.out; have := HM168.out; omega)).trans (by have := HPP.out; omega)
              clear hlti hi hln hll hle hX hs2 e2
              go_wp2_with (first
                | (go_at_call 95
                   (with_reducible refine (kG k (some ⟨gs, 0, none⟩) cs X s2 _ (dS.C HOS.out (by have := HXB.out; omega)) HOS.out.cells.2.2.2.1 HS2.out).mono ?_)
                   rintro e w6 ⟨v6, rfl, ho6, hb6⟩
                   have HGG := aa.mk (show g < wr.heap.size from HOX.out.cells.2.2.1)
                   have HO6 := aa.mk (dS.of_R ho6 HS2L.out.1)
                   have HOX6 := aa.mk (HOX.out.below hb6)
                   have HB6 := aa.mk (HB.out.trans (hb6.mono (by rw [HN.out]; exact HB.out.size)))
                   have HO7 := aa.mk (HO6.out.lower (base' := N) (by rw [HN.out]; exact HB.out.size))
                   obtain ⟨g6, c6, hv6, hr6⟩ := HO6.out
                   subst hv6
                   have HN6 := aa.mk (show g6 ≠ g by have := HO6.out.cells.2.1; have := HGG.out; omega)
                   clear ho6 hb6 hr6))
              go_roundw
              case rel =>
                exact ⟨n + 1, g6, c6, s2.length, s2, rfl, rfl, ⟨rfl⟩, ⟨by have := HLT.out; have := HM168.out; have := HPP.out; omega⟩, HAW2, HN6, HOX6, HO7, HB6⟩
              case measure => have := HLT.out; have := HPP.out; simp [intOf]; omega
        · have hlk3 : decide ((p : Int) < (m : Int)) = false := ua (by omega)
          have hlk5 : decide (p < m) = false := ua hlt
          have hnm : n = T.length / 168 := by have := HTL.out; omega
          have hst : st = st9 := by
            have h1 := HAW.out
            rw [hnm] at h1
            exact sI (h1.symm.trans HRW.out)
          subst hst
          have hle := HLEN.out
          subst hle
          have HSL := aa.mk (pr HAW.out)
          clear hn3 hm168 hp hlt hnm
          go_wp2_with (first
            | (go_at_call 96
               (with_reducible refine (aJ.calls k (some ⟨gs, 0, none⟩) cs st r _ (dS.C HOS.out (by have := HSL.out; omega)) HOS.out.cells.2.2.2.1 HRB.out).mono ?_)
               rintro e w6 ⟨rfl, hb6⟩
               have HB6 := aa.mk (HB.out.trans (hb6.mono (by rw [HN.out]; exact HB.out.size)))
               clear hb6))
          go_ret
          exact ⟨rfl, by rw [← HN.out]; exact HB6.out⟩
    · have hlk : ((m : Int) % 168 != 0) = true := by simp; omega
      clear hj hm hsz hpj
      go_wp2_with (first
        | (refine eP rfl (.tmp 23) (.tmp 24) 57 rfl 5 Tryz.underlying57 (by kernel_rfl) B rfl rfl HO.out HBB.out _ rfl (by rw [← HML.out]; have := HM.out; have := HJ.out; have := HSZ.out; have := ig a0; omega) ?_
           rintro v2 w2 ho2 hb2
           have HO2 := aa.mk (show cj w2 B v2 (eJ a0 a2 (j + 1)) by rw [l9]; exact ho2)
           have HOS := aa.mk (HOS.out.keep HG1.out hb2)
           have HBB := aa.mk (Nat.le_trans HBB.out hb2.size)
           have HB := aa.mk (HB.out.trans (hb2.mono HBN.out))
           clear ho2 hb2))
      go_roundw
      case rel =>
        refine ⟨j + 1, ⟨?_⟩, HO2, HOS, HBB, HB⟩
        have h1 := HJ.out
        have h2 := HM.out
        unfold jz at h1 ⊢
        omega
      case measure =>
        obtain ⟨g2, cap2, hv2, _⟩ := HO2.out
        subst hv2
        have := HM.out
        have := HJ.out
        have := ig a0
        simp only [hG]
        omega
end Go.Proofs.YtielligodgabiaaGreatDoor.P
