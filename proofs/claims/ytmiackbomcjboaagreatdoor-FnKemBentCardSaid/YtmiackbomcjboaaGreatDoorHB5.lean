/- Walks by hand: the reference's permutation hands back a row of its own. -/
import Derived.Test.YtmiackbomcjboaaGreatDoorHB4
namespace Go.Proofs.YtmiackbomcjboaaGreatDoor.P
open Go.RowKit YtmiackbomcjboaaGreatDoorW.PrintWords YtmiackbomcjboaaGreatDoorW.PrintLast YtmiackbomcjboaaGreatDoorW.PrintMore YtmiackbomcjboaaGreatDoor.Kit
open Kd
set_option linter.unusedVariables false
set_option linter.unusedSimpArgs false

set_option maxHeartbeats 8000000 in
set_option maxRecDepth 100000 in
theorem mN (k : Nat) (A0 : Option Addr) (c0 : Nat) (l0 : List Int) (r : List Int) (w : World) (hr0 : Kd.C (Kd.int .u64) w A0 l0.length l0) (hc0 : l0.length ≤ c0) (h : aY.f k l0 = some r) :
    Calls Tryz.prog 117 #[.slice A0 l0.length c0] w fun e w' => ∃ v0_ : Value, e = .returned (v0_) ∧ Kd.R (Kd.int .u64) 111 w' w.heap.size (fun _ => True) v0_ r ∧ Below w.heap.size w w' := by
  have HR0 := aa.mk hr0
  have HC0 := aa.mk hc0
  clear hr0 hc0
  have HB := aa.mk (Da w.heap.size w)
  obtain ⟨t145, A20, H⟩ := Option.bind_eq_some_iff.mp h
  obtain ⟨t148, A30, H⟩ := Option.bind_eq_some_iff.mp H
  have A2 := aa.mk A20
  have A3 := aa.mk A30
  have H' := aa.mk H
  clear H A20 A30 h
  go_enter Tryz.func117, Tryz.ntmps117
  go_wp2_with (first
    | (go_at_call 123
       (with_reducible refine (bM.calls k t145 _ A2.o).mono ?_)
       rintro e w4 ⟨v146, rfl, ho0, hb⟩
       have HT := aa.mk ho0
       have HB := aa.mk (HB.o.trans hb)
       clear ho0 hb)
    | (go_at_call 124
       (with_reducible refine (aX.calls k t148 _ A3.o).mono ?_)
       rintro e w5 ⟨v149, rfl, ho0, hb⟩
       have HT := aa.mk (vE HT.o hb)
       have HS := aa.mk (uY ho0 HB.o.size)
       have HB := aa.mk (HB.o.trans (hb.mono HB.o.size))
       clear ho0 hb))
  go_loopg [0, 5] k (fun kq v0 v5 w' => ∃ (x0 : List Int) (x5 : Int), v5 = .int .i64 x5 ∧ aa (aY.l0 kq x0 t145 t148 x5 = some r) ∧ aa (kq ≤ k) ∧ aa (∃ A c, v0 = .slice A x0.length c ∧ x0.length ≤ c ∧ Kd.C (Kd.int .u64) w' A x0.length x0) ∧ aa (0 < x5 → Kd.R (Kd.int .u64) 111 w' w.heap.size (fun _ => True) v0 x0) ∧ aa (Kd.R (Kd.int .i64) 3 w' w.heap.size (fun _ => True) v146 t145) ∧ aa (Kd.R (Kd.int .u64) 111 w' w.heap.size (fun _ => True) v149 t148) ∧ aa (Below w.heap.size w w'))
  case atStart => exact ⟨l0, 0, rfl, H', ⟨Ca _⟩, ⟨_, _, rfl, HC0.o, vb HR0.o HB.o⟩, ⟨fun h => absurd h (by decide)⟩, HT, HS, HB⟩
  case round =>
    clear H' HT HS HB
    obtain ⟨x0, x5, rfl, HA, HK1, HV, HO, HT, HS, HB⟩ := hrel
    cases gk with
    | zero => exact absurd HA.o (by simp [aY.l0])
    | succ k1 =>
      have H := HA.o
      clear HA
      simp only [aY.l0] at H
      obtain ⟨A, c, hv, hlc, hC⟩ := HV.o
      subst hv
      have HLC := aa.mk hlc
      have HC := aa.mk hC
      clear hlc hC HV
      by_cases c6 : x5 < 24
      · rw [Fa c6] at H
        have c6b0 : decide (x5 < 24) = true := ya c6
        by_cases c7 : 0 ≤ x5
        · rw [Fa c7] at H
          by_cases c8 : x5 < (t148.length : Int)
          · rw [Fa c8] at H
            obtain ⟨t152, A90, H⟩ := Option.bind_eq_some_iff.mp H
            have A9 := aa.mk A90
            have H' := aa.mk H
            clear H A90
            obtain ⟨Ao10, co10, eo10⟩ := uV HS.o
            subst eo10
            obtain ⟨ad151, e151, hx151_0⟩ := uX (uU HS.o).2.2 x5 c7 c8
            cases e151
            have p151 := Aa c7
            have q151 := Aa c8
            obtain ⟨Ao12, co12, eo12⟩ := uV HT.o
            subst eo12
            clear c6 c7 c8
            go_wp2_with (first
              | (go_at_call 125
                 (with_reducible refine (ac.calls k1 _ _ x0 _ _ t145 (rd t148 x5) t152 _ HC.o HLC.o (uU HT.o).2.2 (uU HT.o).2.1 A9.o).mono ?_)
                 rintro e w13 ⟨v153, rfl, ho0, hb⟩
                 have HT := aa.mk (vE HT.o hb)
                 have HS := aa.mk (vE HS.o hb)
                 have HO2 := aa.mk (uY ho0 HB.o.size)
                 have HB := aa.mk (HB.o.trans (hb.mono HB.o.size))
                 clear ho0 hb))
            go_roundg k1
            case measure => have := HK1.o; omega
            case rel => exact ⟨t152, (wrap64 (x5 + 1)), (by first | rfl | (simp; done) | (simp [*]; done)), H', ⟨by have := HK1.o; omega⟩, ⟨we HO2.o⟩, ⟨fun _ => HO2.o⟩, HT, HS, HB⟩
          · rw [Ga c8] at H
            exact absurd H (by simp)
        · rw [Ga c7] at H
          exact absurd H (by simp)
      · rw [Ga c6] at H
        have c6b0 : decide (x5 < 24) = false := za c6
        have HP := aa.mk (HO.o (by omega))
        clear c6
        obtain rfl := Ba H
        go_wp2
        go_ret
        exact ⟨_, rfl, HP.o, HB.o⟩
/-- A state's lanes, i of them turned by a block's. -/
def iw (st ls : List Int) : Nat → List Int
  | 0 => st
  | i + 1 => (iw st ls i).set i (Go.bits .xor .u64 (rd (iw st ls i) (i : Int)) (rd ls (i : Int)))
theorem jt (st ls : List Int) (i : Nat) : (iw st ls i).length = st.length := by
  induction i with
  | zero => rfl
  | succ i ih => simp only [iw, List.length_set, ih]
/-- The block n of a filled text. -/
def fv (T : List Int) (n : Nat) : ByteArray := strOfNums ((T.drop (168 * n)).take 168)
/-- The lanes behind n blocks. -/
def lN (k : Nat) (T : List Int) : Nat → Option (List Int)
  | 0 => some (List.replicate 25 0)
  | n + 1 => (lN k T n).bind fun st => (aN.f k (fv T n)).bind fun ls => if 0 < ls.length ∧ ls.length ≤ st.length ∧ st.length ≤ 1000 then (aY.f k (iw st ls ls.length)).bind fun r => if 0 < r.length ∧ r.length ≤ 1000 then some r else none else none
theorem nx {k : Nat} {T : List Int} {n : Nat} : ∀ {m : Nat} {r : List Int}, lN k T (n + m) = some r → ∃ t, lN k T n = some t
  | 0, r, h => ⟨r, h⟩
  | m + 1, r, h => by
    obtain ⟨t, h1, _⟩ := Option.bind_eq_some_iff.mp h
    exact nx h1
theorem rk {k : Nat} {T : List Int} {n M : Nat} {st r : List Int} (h : lN k T M = some r) (hn : n < M) (h0 : lN k T n = some st) : ∃ ls s2, aN.f k (fv T n) = some ls ∧ (0 < ls.length ∧ ls.length ≤ st.length ∧ st.length ≤ 1000) ∧ aY.f k (iw st ls ls.length) = some s2 ∧ (0 < s2.length ∧ s2.length ≤ 1000) ∧ lN k T (n + 1) = some s2 := by
  obtain ⟨s', h1⟩ := nx (n := n + 1) (m := M - (n + 1)) (r := r) (by rw [show n + 1 + (M - (n + 1)) = M by omega]; exact h)
  have h9 := h1
  obtain ⟨sv, h2, h3⟩ := Option.bind_eq_some_iff.mp h1
  rw [h0] at h2
  obtain rfl := Ba h2
  obtain ⟨ls, h4, h5⟩ := Option.bind_eq_some_iff.mp h3
  split at h5
  · rename_i hc
    obtain ⟨s2, h6, h7⟩ := Option.bind_eq_some_iff.mp h5
    split at h7
    · rename_i hd
      obtain rfl := Ba h7
      exact ⟨ls, _, h4, hc, h6, hd, h9⟩
    · exact absurd h7 (by simp)
  · exact absurd h5 (by simp)
theorem rD {k : Nat} {T : List Int} {n : Nat} {st : List Int} (h : lN k T n = some st) : st.length ≤ 1000 := by
  cases n with
  | zero =>
    obtain rfl := Ba h
    rw [List.length_replicate]
    decide
  | succ n =>
    obtain ⟨sv, _, h3⟩ := Option.bind_eq_some_iff.mp h
    obtain ⟨ls, _, h5⟩ := Option.bind_eq_some_iff.mp h3
    split at h5
    · obtain ⟨s2, _, h7⟩ := Option.bind_eq_some_iff.mp h5
      split at h7
      · rename_i hd
        obtain rfl := Ba h7
        exact hd.2
      · exact absurd h7 (by simp)
    · exact absurd h5 (by simp)
def cT.f (k : Nat) (a0 : ByteArray) (a1 a2 : Int) : Option ByteArray :=
  if a1 = 168 ∧ a0.size ≤ 1000000000000 then (lN k (ig a0 a2) ((ig a0 a2).length / 168)).bind fun st => aQ.f k st else none
theorem nC (k : Nat) (T : List Int) : ∀ n, LeO (lN k T n) (lN (k + 1) T n)
  | 0 => LeO.refl _
  | n + 1 => LeO.bind (nC k T n) (fun _ => LeO.bind (aN.mono _ k) (fun _ => LeO.ite (LeO.bind (aY.mono _ k) (fun _ => LeO.refl _)) (LeO.refl _)))
theorem cT.mono : ∀ a0 a1 a2 k, LeO (cT.f k a0 a1 a2) (cT.f (k + 1) a0 a1 a2) := by
  intro a0 a1 a2 k
  unfold cT.f
  exact LeO.ite (LeO.bind (nC k _ _) (fun _ => aQ.mono _ k)) (LeO.refl _)
set_option maxHeartbeats 4000000 in
set_option maxRecDepth 100000 in
theorem cT.calls (k : Nat) (a0 : ByteArray) (a1 a2 : Int) (r : ByteArray) (w : World) (h : cT.f k a0 a1 a2 = some r) : Calls Tryz.prog 106 #[.string a0, .int .i64 a1, .int .u8 a2] w fun e w' => e = .returned (.string r) ∧ Below w.heap.size w w' := by
  unfold cT.f at h
  split at h
  case isFalse => exact absurd h (by simp)
  case isTrue hc =>
  obtain ⟨h1, h2⟩ := hc
  subst h1
  obtain ⟨st9, h3, h4⟩ := Option.bind_eq_some_iff.mp h
  have HRW := aa.mk h3
  have HRB := aa.mk h4
  have HSZ := aa.mk h2
  clear h h2 h3 h4
  obtain ⟨N, hN⟩ : ∃ N, N = w.heap.size := ⟨_, rfl⟩
  have HN := aa.mk hN
  go_enter Tryz.func106, Tryz.ntmps106
  go_wp2_with (first
    | ((with_reducible refine cQ (N := 12) rfl ?_)
       refine vs (Kd.int .u64) (w0 := w) w.heap.size 111 rfl (N := 12) rfl 109 _ _ rfl 25 rfl rfl Tryz.underlying109 (.int .u64 0) 8 jH rfl (by decide) (by omega) 0 (ok := fun _ => True) (okp := fun _ => True) rfl (fun _ hk => hk) trivial (by omega) (by omega) (Da _ _) (Ca _) ?_
       intro v1 w1 ho hb hg_ hnew_
       have HOS := aa.mk (eG.of_R (show (Kd.int .u64).R 111 w1 w.heap.size (fun _ => True) v1 (List.replicate 25 0) from ho) (by decide))
       have HB1 := aa.mk hb
       have hcv := Lib.run_convert_string_bytes (P := Tryz.prog) w1 9 22 5 a0 Tryz.underlying9 Tryz.underlying22 Tryz.underlying5
       have HO := aa.mk (cK.conv w1 5 a0)
       have HB := aa.mk (fd w1 5 a0)
       obtain ⟨g1, cap1, hv1, hrest1⟩ := HOS.o
       rw [List.length_replicate] at hv1
       subst hv1
       clear ho hb hg_ hnew_ hrest1)
    | (refine fT rfl (.tmp 14) (.tmp 16) 22 rfl 5 Tryz.underlying22 (by kernel_rfl) w1.heap.size rfl rfl HO.o HB.o.size _ rfl (by rw [dH]; have := HSZ.o; omega) ?_
       rintro v2 w2 ho2 hb2
       have HO := aa.mk (show cK w2 w1.heap.size v2 (fM a0 a2 0) by simpa [fM] using ho2)
       have HB := aa.mk (HB.o.trans hb2)
       clear ho2 hb2))
  clear hcv
  have hg1 : g1 < w1.heap.size := HOS.o.cells.2.2.1
  have HOS := aa.mk (HOS.o.keep hg1 HB.o)
  have HBN := aa.mk HB1.o.size
  have HBB := aa.mk HB.o.size
  have HB := aa.mk (HB1.o.trans (HB.o.mono HB1.o.size))
  obtain ⟨B, hB⟩ : ∃ B, B = w1.heap.size := ⟨_, rfl⟩
  rw [← hB] at HO HBN HBB hg1
  rw [← hN] at HOS HBN HB
  have HG1 := aa.mk hg1
  clear hN hB hg1
  go_loopw [8] (fun v wr => ∃ j : Nat, aa (j ≤ kR a0) ∧ aa (cK wr B v (fM a0 a2 j)) ∧ aa (eG .u64 wr N (.slice (some ⟨g1, 0, none⟩) 25 cap1) (List.replicate 25 0)) ∧ aa (B ≤ wr.heap.size) ∧ aa (Below N w wr)) (fun v _ => match v with | .slice _ n _ => a0.size + 400 - n | _ => 0)
  case atStart => exact ⟨0, ⟨Nat.zero_le _⟩, HO, HOS, HBB, HB⟩
  case round =>
    clear HO HB HOS HBB
    obtain ⟨j, HJ, HO, HOS, HBB, HB⟩ := hrel
    obtain ⟨g, cap, hv, hrest⟩ := HO.o
    subst hv
    clear hrest
    obtain ⟨m, hm⟩ : ∃ m, m = (fM a0 a2 j).length := ⟨_, rfl⟩
    rw [← hm] at HO ⊢
    have HML := aa.mk hm
    rw [jy] at hm
    have HM := aa.mk hm
    have hj := HJ.o
    have hsz := HSZ.o
    have hpj := jC a0
    by_cases hlt : m % 168 = 0
    · have hlk : ((m : Int) % 168 != 0) = false := by simp; omega
      have hjp : j = kR a0 := by unfold kR at hj ⊢; omega
      obtain ⟨q, hq⟩ : ∃ q, q = m - 1 := ⟨_, rfl⟩
      have e1 : IntKind.i64.wrap ((m : Int) - 1) = (q : Int) := (IntWalk.i64_in _ (by omega)).trans (by omega)
      have hqm : q < (fM a0 a2 j).length := by rw [← HML.o]; omega
      have hx1 : wr.cell? ⟨g, q, none⟩ = some (.int .u8 (rd (fM a0 a2 j) (q : Int))) := (HO.o.cells.2.2.2.2.1 q hqm).trans (by rw [dv])
      have hf1 : wr.frozen? ⟨g, q, none⟩ = false := HO.o.froz q hqm
      have hq1 : ((q : Int) < (m : Int)) = True := Aa (by omega)
      have HGN := aa.mk (show B ≤ g from HO.o.cells.2.1)
      have HOX := aa.mk (HO.o.set q hqm (Go.bits .xor .u8 (rd (fM a0 a2 j) (q : Int)) 128))
      have hne : g ≠ g1 := by have := HGN.o; have := HG1.o; omega
      have HOS := aa.mk (HOS.o.far (p := ⟨g, q, none⟩) hne (.int .u8 (Go.bits .xor .u8 (rd (fM a0 a2 j) (q : Int)) 128)))
      have HB := aa.mk (bZ HB.o (p := ⟨g, q, none⟩) (by show N ≤ g; have := HGN.o; have := HBN.o; omega) (.int .u8 (Go.bits .xor .u8 (rd (fM a0 a2 j) (q : Int)) 128)))
      have hT : (fM a0 a2 j).set q (Go.bits .xor .u8 (rd (fM a0 a2 j) (q : Int)) 128) = ig a0 a2 := by
        rw [hq, HML.o, hjp]; rfl
      rw [hT] at HOX
      have hRW := HRW.o
      have hTl : (ig a0 a2).length = m := by rw [mO, ← hjp]; exact hm.symm
      obtain ⟨T, hTT⟩ : ∃ T, T = ig a0 a2 := ⟨_, rfl⟩
      rw [← hTT] at HOX hRW hTl
      have HRW := aa.mk hRW
      have HTL := aa.mk hTl
      have HNE := aa.mk (Ne.symm hne)
      have HM168 := aa.mk (show m % 168 = 0 ∧ m ≤ 1000000001000 from ⟨hlt, by omega⟩)
      clear hT hTl hTT hjp hqm hj hm hlt hsz hq hpj hne hRW
      go_wp2
      clear hx1 hf1
      generalize World.setCell wr _ _ = ws at HOX HOS HB ⊢
      go_loopw [7, 9] (fun v c wr => ∃ (n gs cs len : Nat) (st : List Int), c = .int .i64 ((168 * n : Nat) : Int) ∧ v = .slice (some ⟨gs, 0, none⟩) len cs ∧ aa (st.length = len) ∧ aa (168 * n ≤ m) ∧ aa (lN k T n = some st) ∧ aa (gs ≠ g) ∧ aa (cK wr B (.slice (some ⟨g, 0, none⟩) m cap) T) ∧ aa (eG .u64 wr N (.slice (some ⟨gs, 0, none⟩) len cs) st) ∧ aa (Below N w wr)) (fun _ c _ => m - (intOf c).toNat)
      case atStart => exact ⟨0, g1, cap1, 25, _, rfl, rfl, ⟨List.length_replicate⟩, ⟨Nat.zero_le _⟩, ⟨rfl⟩, HNE, HOX, HOS, HB⟩
      case round =>
        clear HOX HOS HB HNE
        obtain ⟨n, gs, cs, len, st, rfl, rfl, HLEN, HN3, HAW, HNE, HOX, HOS, HB⟩ := hrel
        obtain ⟨p, hp⟩ : ∃ p, p = 168 * n := ⟨_, rfl⟩
        have hn3 := HN3.o
        have hm168 := HM168.o
        rw [← hp] at hn3 ⊢
        have HPP := aa.mk hp
        by_cases hlt : p < m
        · have hlk3 : decide ((p : Int) < (m : Int)) = true := ya (by omega)
          have HLT := aa.mk hlt
          obtain ⟨ls, s2, hls, hll, hs2, hs2l, haw⟩ := rk HRW.o (show n < T.length / 168 by have := HTL.o; omega) HAW.o
          have HLS := aa.mk hls
          have HLL := aa.mk hll
          have HS2 := aa.mk hs2
          have HS2L := aa.mk hs2l
          have HAW2 := aa.mk haw
          obtain ⟨p2, hp2⟩ : ∃ p2, p2 = p + 168 := ⟨_, rfl⟩
          have e2 : IntKind.i64.wrap ((p : Int) + 168) = (p2 : Int) := (IntWalk.i64_in _ (by omega)).trans (by omega)
          have hcap : m ≤ cap := by have := HOX.o.cells.2.2.2.1; have := HTL.o; omega
          have s1 : (p ≤ p2) = True := Aa (by omega)
          have s2' : (p2 ≤ cap) = True := Aa (by omega)
          have s3 : (cap = p) = False := eq_false (by omega)
          have hseg : ((T.drop p).take 168).length = p2 - p := by rw [List.length_take, List.length_drop]; have := HTL.o; omega
          have hcv2 := run_convert_bytes_arg (P := Tryz.prog) wr 22 5 Tryz.underlying22 Tryz.underlying5 g p (p2 - p) (cap - p) ((T.drop p).take 168) hseg (fun i hi => by rw [HOX.o.cells.2.2.2.2.1 (p + i) (by have := HTL.o; omega)]; simp [List.getD, List.getElem?_take, List.getElem?_drop, show i < 168 by omega]) 9 Tryz.underlying9
          have hbk : strOfNums ((T.drop p).take 168) = fv T n := by rw [hp]; rfl
          rw [hbk] at hcv2
          have HP2 := aa.mk hp2
          clear hn3 hm168 hp hls hll hs2 hs2l haw hp2 hcap hseg hbk
          go_wp2_with (first
            | (go_at_call 116
               (with_reducible refine (aN.calls k _ ls _ HLS.o).mono ?_)
               rintro e w5 ⟨v5, rfl, ho5, hb5⟩
               have HOL := aa.mk (eG.of_R ho5 HLL.o.1)
               have HGG := aa.mk (show g < wr.heap.size ∧ gs < wr.heap.size from ⟨HOX.o.cells.2.2.1, HOS.o.cells.2.2.1⟩)
               have HOX := aa.mk (HOX.o.below hb5)
               have HOS := aa.mk (HOS.o.below hb5)
               have HB := aa.mk (HB.o.trans (hb5.mono (by rw [HN.o]; exact HB.o.size)))
               obtain ⟨gl, cl, hvl, hrl⟩ := HOL.o
               subst hvl
               have HNL := aa.mk (show gs ≠ gl ∧ g ≠ gl by have := HOL.o.cells.2.1; have := HGG.o; omega)
               clear ho5 hb5 hrl))
          clear hcv2 s1 s2' s3
          obtain ⟨ln, hln⟩ : ∃ ln, ln = ls.length := ⟨_, rfl⟩
          rw [← hln] at HOL ⊢
          have HLN := aa.mk hln
          clear hln
          go_loopw [11] (fun c wr => ∃ i : Nat, c = .int .i64 (i : Int) ∧ aa (i ≤ ln) ∧ aa (cK wr B (.slice (some ⟨g, 0, none⟩) m cap) T) ∧ aa (eG .u64 wr N (.slice (some ⟨gs, 0, none⟩) len cs) (iw st ls i)) ∧ aa (∃ b, eG .u64 wr b (.slice (some ⟨gl, 0, none⟩) ln cl) ls) ∧ aa (Below N w wr)) (fun c _ => ln - (intOf c).toNat)
          case atStart => exact ⟨0, rfl, ⟨by omega⟩, HOX, HOS, ⟨_, HOL.o⟩, HB⟩
          case round =>
            clear HOX HOS HB HOL
            obtain ⟨i, rfl, HI, HOX, HOS, HOL, HB⟩ := hrel
            have hi := HI.o
            have hxl : (iw st ls i).length = len := by rw [jt]; exact HLEN.o
            have HXL := aa.mk hxl
            have hln := HLN.o
            have hll := HLL.o
            have hle := HLEN.o
            by_cases hlti : i < ln
            · have hlk4 : decide ((i : Int) < (ln : Int)) = true := ya (by omega)
              have hlk5 : decide (i < ln) = true := ya hlti
              have ki : i < (iw st ls i).length := by omega
              have kl : i < ls.length := by omega
              have hi2 : ((i : Int) < (len : Int)) = True := Aa (by omega)
              have hi3 : ((i : Int) < (ln : Int)) = True := Aa (by omega)
              have hi4 : (i < len) = True := Aa (by omega)
              have hi5 : (i < ln) = True := Aa hlti
              have hb1000 : ln ≤ 1000 := by omega
              have HKL := aa.mk kl
              have HKI := aa.mk ki
              clear hi hxl hln hll hle ki kl
              go_wp2
              refine wp_region_still_tail 12 (by kernel_rfl) (by kernel_rfl) ?_
              simp only [List.take_succ_cons, List.take_zero, List.drop_succ_cons, List.drop_zero]
              change wpStill _ _ wr.drew (fun a' => wpList _ _ _ _ a' wr.drew) _ _
              have HOX := aa.mk HOX.o.drew
              have HOS := aa.mk HOS.o.drew
              have HOL := aa.mk (HOL.o.elim fun b h => ⟨b, eG.drew h⟩ : ∃ b, eG .u64 wr.drew b (.slice (some ⟨gl, 0, none⟩) ln cl) ls)
              have HB := aa.mk (dq HB.o)
              generalize wr.drew = w4 at HOX HOS HOL HB ⊢
              obtain ⟨b, hol⟩ := HOL.o
              have hx1 : w4.cell? ⟨gs, i, none⟩ = some (.int .u64 (rd (iw st ls i) (i : Int))) := (HOS.o.at i HKI.o).trans (by rw [dv])
              have hx2 : w4.cell? ⟨gl, i, none⟩ = some (.int .u64 (rd ls (i : Int))) := (hol.at i HKL.o).trans (by rw [dv])
              have hf1 : w4.frozen? ⟨gs, i, none⟩ = false := HOS.o.froz i HKI.o
              clear hol
              repeat still_step
              refine wpStill_nil ?_
              go_wp2
              go_roundw
              case rel =>
                refine ⟨i + 1, by go_num, ⟨by omega⟩, ⟨HOX.o.far (by show gs ≠ g; exact HNE.o) _⟩, ⟨HOS.o.set i HKI.o _⟩, ⟨?_⟩, ⟨bZ HB.o (by show N ≤ gs; exact HOS.o.cells.2.1) _⟩⟩
                obtain ⟨b, hol⟩ := HOL.o
                exact ⟨b, hol.far (by show gs ≠ gl; exact HNL.o.1) _⟩
              case measure => simp [intOf]; omega
            · have hlk4 : decide ((i : Int) < (ln : Int)) = false := za (by omega)
              have hlk5 : decide (i < ln) = false := za hlti
              obtain rfl : i = ln := by omega
              obtain ⟨X, hX⟩ : ∃ X, X = iw st ls i := ⟨_, rfl⟩
              have hs2 := HS2.o
              rw [← hln, ← hX] at hs2
              rw [← hX] at HOS hxl
              subst hxl
              have HS2 := aa.mk hs2
              have HXB := aa.mk (show X.length ≤ 1000 by omega)
              have e9 : IntKind.i64.wrap ((p : Int) + 168) = ((168 * (n + 1) : Nat) : Int) := (IntWalk.i64_in _ (by have := HLT.o; have := HM168.o; omega)).trans (by have := HPP.o; omega)
              clear hlti hi hln hll hle hX hs2 e2
              go_wp2_with (first
                | (go_at_call 117
                   (with_reducible refine (mN k (some ⟨gs, 0, none⟩) cs X s2 _ (eG.C HOS.o (by have := HXB.o; omega)) HOS.o.cells.2.2.2.1 HS2.o).mono ?_)
                   rintro e w6 ⟨v6, rfl, ho6, hb6⟩
                   have HGG := aa.mk (show g < wr.heap.size from HOX.o.cells.2.2.1)
                   have HO6 := aa.mk (eG.of_R ho6 HS2L.o.1)
                   have HOX6 := aa.mk (HOX.o.below hb6)
                   have HB6 := aa.mk (HB.o.trans (hb6.mono (by rw [HN.o]; exact HB.o.size)))
                   have HO7 := aa.mk (HO6.o.lower (base' := N) (by rw [HN.o]; exact HB.o.size))
                   obtain ⟨g6, c6, hv6, hr6⟩ := HO6.o
                   subst hv6
                   have HN6 := aa.mk (show g6 ≠ g by have := HO6.o.cells.2.1; have := HGG.o; omega)
                   clear ho6 hb6 hr6))
              go_roundw
              case rel =>
                exact ⟨n + 1, g6, c6, s2.length, s2, rfl, rfl, ⟨rfl⟩, ⟨by have := HLT.o; have := HM168.o; have := HPP.o; omega⟩, HAW2, HN6, HOX6, HO7, HB6⟩
              case measure => have := HLT.o; have := HPP.o; simp [intOf]; omega
        · have hlk3 : decide ((p : Int) < (m : Int)) = false := za (by omega)
          have hlk5 : decide (p < m) = false := za hlt
          have hnm : n = T.length / 168 := by have := HTL.o; omega
          have hst : st = st9 := by
            have h1 := HAW.o
            rw [hnm] at h1
            exact Ba (h1.symm.trans HRW.o)
          subst hst
          have hle := HLEN.o
          subst hle
          have HSL := aa.mk (rD HAW.o)
          clear hn3 hm168 hp hlt hnm
          go_wp2_with (first
            | (go_at_call 118
               (with_reducible refine (aQ.calls k (some ⟨gs, 0, none⟩) cs st r _ (eG.C HOS.o (by have := HSL.o; omega)) HOS.o.cells.2.2.2.1 HRB.o).mono ?_)
               rintro e w6 ⟨rfl, hb6⟩
               have HB6 := aa.mk (HB.o.trans (hb6.mono (by rw [HN.o]; exact HB.o.size)))
               clear hb6))
          go_ret
          exact ⟨rfl, by rw [← HN.o]; exact HB6.o⟩
    · have hlk : ((m : Int) % 168 != 0) = true := by simp; omega
      clear hj hm hsz hpj
      go_wp2_with (first
        | (refine fT rfl (.tmp 23) (.tmp 24) 22 rfl 5 Tryz.underlying22 (by kernel_rfl) B rfl rfl HO.o HBB.o _ rfl (by rw [← HML.o]; have := HM.o; have := HJ.o; have := HSZ.o; have := jC a0; omega) ?_
           rintro v2 w2 ho2 hb2
           have HO2 := aa.mk (show cK w2 B v2 (fM a0 a2 (j + 1)) by rw [nD]; exact ho2)
           have HOS := aa.mk (HOS.o.keep HG1.o hb2)
           have HBB := aa.mk (Nat.le_trans HBB.o hb2.size)
           have HB := aa.mk (HB.o.trans (hb2.mono HBN.o))
           clear ho2 hb2))
      go_roundw
      case rel =>
        refine ⟨j + 1, ⟨?_⟩, HO2, HOS, HBB, HB⟩
        have h1 := HJ.o
        have h2 := HM.o
        unfold kR at h1 ⊢
        omega
      case measure =>
        obtain ⟨g2, cap2, hv2, _⟩ := HO2.o
        subst hv2
        have := HM.o
        have := HJ.o
        have := jC a0
        simp only [jy]
        omega
end Go.Proofs.YtmiackbomcjboaaGreatDoor.P
