/- Walks by hand: the reference's end of a digest. -/
import Derived.Test.YtmiackbomcjboaaGreatDoorMW2
import Derived.Test.YtmiackbomcjboaaGreatDoorMW3
import Derived.Test.YtmiackbomcjboaaGreatDoorPx1
namespace Go.Proofs.YtmiackbomcjboaaGreatDoor.P
open Go.RowKit YtmiackbomcjboaaGreatDoorW.PrintWords YtmiackbomcjboaaGreatDoorW.PrintLast YtmiackbomcjboaaGreatDoorW.PrintMore YtmiackbomcjboaaGreatDoor.Kit
open Kd
set_option linter.unusedVariables false
set_option linter.unusedSimpArgs false

def sh8 (x : Int) : Nat → Int
  | 0 => x
  | k + 1 => wrap64 (Int.tdiv (sh8 x k) 256)
def nV (x : Int) : Nat → List Int
  | 0 => []
  | m + 1 => nV x m ++ [Int.tmod (sh8 x (7 - m)) 256 % 256]
/-- What is filled up to a whole number of blocks, less eight. -/
def ja (b : ByteArray) (j : Nat) : List Int := (bl b ++ [128]) ++ List.replicate j 0
def ij (b : ByteArray) : Nat := (119 - b.size) % 64
def hJ (b : ByteArray) (c : Int) (m : Nat) : List Int := ja b (ij b) ++ nV (wrap64 (8 * c)) m
def fk (k : Nat) (ks T st : List Int) : Nat → Option (List Int)
  | 0 => some st
  | n + 1 => (fk k ks T st n).bind fun s => ae.f k s ks (strOfNums ((T.drop (64 * n)).take 64))
theorem jN {k : Nat} {ks T st : List Int} {n : Nat} : ∀ {m : Nat} {r : List Int}, fk k ks T st (n + m) = some r → ∃ t, fk k ks T st n = some t
  | 0, r, h => ⟨r, h⟩
  | m + 1, r, h => by
    obtain ⟨t, h1, _⟩ := Option.bind_eq_some_iff.mp h
    exact jN h1
theorem mV {k : Nat} {ks T st sv : List Int} {n N : Nat} {r : List Int} (h : fk k ks T st N = some r) (hn : n < N) (h0 : fk k ks T st n = some sv) : ∃ s', ae.f k sv ks (strOfNums ((T.drop (64 * n)).take 64)) = some s' ∧ fk k ks T st (n + 1) = some s' := by
  obtain ⟨s', h1⟩ := jN (n := n + 1) (m := N - (n + 1)) (r := r) (by rw [show n + 1 + (N - (n + 1)) = N by omega]; exact h)
  obtain ⟨sv', h2, h3⟩ := Option.bind_eq_some_iff.mp h1
  rw [h0] at h2
  obtain rfl := Ba h2
  exact ⟨s', h3, h1⟩
def dz.f (k : Nat) (a0_0 a0_1 : ByteArray) (a0_2 : Int) : Option ByteArray :=
  (da.f a0_0 a0_1 a0_2).bind fun ok => if ok = true then ((bm.f k a0_0).bind fun st => (ft.f).bind fun ks => (fk k ks (hJ a0_1 a0_2 8) st ((hJ a0_1 a0_2 8).length / 64)).bind fun s => bu.f k s) else none
theorem jM (k : Nat) (ks T st : List Int) : ∀ n, LeO (fk k ks T st n) (fk (k + 1) ks T st n)
  | 0 => LeO.refl _
  | n + 1 => LeO.bind (jM k ks T st n) (fun _ => ae.mono _ _ _ k)
theorem dz.mono : ∀ a0 a1 a2 k, LeO (dz.f k a0 a1 a2) (dz.f (k + 1) a0 a1 a2) := by
  intro a0 a1 a2 k
  unfold dz.f
  refine LeO.bind (LeO.refl _) (fun _ => ?_)
  refine LeO.ite (LeO.bind (bm.mono _ k) (fun _ => LeO.bind (LeO.refl _) (fun _ => LeO.bind (jM k _ _ _ _) (fun _ => bu.mono _ k)))) (LeO.refl _)
theorem mX {a b : ByteArray} {c : Int} (h : da.f a b c = some true) : b.size < 64 := by
  unfold da.f at h
  split at h
  · split at h
    · omega
    · simp at h
  · simp at h
theorem kK (b : ByteArray) (j : Nat) : (ja b j).length = b.size + 1 + j := by
  simp [ja, dH]; omega
theorem pF (b : ByteArray) (j : Nat) : ja b (j + 1) = ja b j ++ [0] := by
  simp only [ja, List.append_assoc, List.replicate_succ']
theorem rK (x : Int) (m : Nat) : (nV x m).length = m := by
  induction m with
  | zero => rfl
  | succ m ih => simp [nV, ih]
theorem kS (b : ByteArray) (c : Int) (m : Nat) : (hJ b c m).length = b.size + 1 + ij b + m := by
  simp [hJ, kK, rK]
/-- What stays while the end is made. -/
def lO (w wr : World) (a b : ByteArray) (c : Int) : Prop :=
  Below w.heap.size w wr ∧ wr.heap[w.heap.size]? = some (.cells #[.string a, .string b, .int .i64 c] 68 (0, 0))
theorem lO.step {w wr w1 : World} {a b : ByteArray} {c : Int} (h : lO w wr a b c) (hb : Below (w.heap.size + 1) wr w1) : lO w w1 a b c :=
  ⟨h.1.trans (hb.mono (Nat.le_succ _)), (hb.block _ (Nat.lt_succ_self _)).trans h.2⟩
theorem lO.lt {w wr : World} {a b : ByteArray} {c : Int} (h : lO w wr a b c) : w.heap.size + 1 ≤ wr.heap.size := (Array.getElem?_eq_some_iff.1 h.2).1
theorem lO.cell {w wr : World} {a b : ByteArray} {c : Int} (h : lO w wr a b c) (i : Nat) : wr.cell? ⟨w.heap.size, i, none⟩ = #[Value.string a, .string b, .int .i64 c][i]? := cell_of_row wr w.heap.size i _ _ _ h.2
set_option maxHeartbeats 1000000 in
set_option maxRecDepth 100000 in
theorem dz.calls (k : Nat) (a0_0 a0_1 : ByteArray) (a0_2 : Int) (r : ByteArray) (w : World) (h : dz.f k a0_0 a0_1 a0_2 = some r) : Calls Tryz.prog 43 #[.agg #[.string a0_0, .string a0_1, .int .i64 a0_2]] w fun e w' => e = .returned (.string r) ∧ Below w.heap.size w w' := by
  obtain ⟨ok, hok, h1⟩ := Option.bind_eq_some_iff.mp h
  split at h1
  case isFalse => exact absurd h1 (by simp)
  case isTrue hokt =>
    subst hokt
    obtain ⟨st, hst, h2⟩ := Option.bind_eq_some_iff.mp h1
    obtain ⟨ks, hks, h3⟩ := Option.bind_eq_some_iff.mp h2
    obtain ⟨s8, hs8, h4⟩ := Option.bind_eq_some_iff.mp h3
    have HOK := aa.mk hok
    have HSZ := aa.mk (mX hok)
    have HST := aa.mk hst
    have HKS := aa.mk hks
    have HS8 := aa.mk hs8
    have HRR := aa.mk h4
    clear h h1 h2 h3 h4 hok hst hks hs8
    have hu53 := Tryz.underlying68
    obtain ⟨w0, hw0⟩ : ∃ w0, w0 = w.alloc (.cells #[.string a0_0, .string a0_1, .int .i64 a0_2] 68) := ⟨_, rfl⟩
    have hE0 : lO w w0 a0_0 a0_1 a0_2 := ⟨by rw [hw0]; exact (Da _ _).alloc (Ca _) _, by rw [hw0]; exact heap_alloc_new w _⟩
    have HW0 := aa.mk hw0
    have HE := aa.mk hE0
    clear hw0 hE0
    go_enter Tryz.func43, Tryz.ntmps43
    go_wp2_with (first
      | (go_at_call 79
         simp only [← HW0.o]
         (with_reducible refine (da.calls _ _ _ _ _ HOK.o).mono ?_)
         rintro e w1 ⟨rfl, hb1⟩
         have HE := aa.mk (HE.o.step (hb1.mono HE.o.lt))
         have hc1 : w1.cell? ⟨w.heap.size, 1, none⟩ = some (.string a0_1) := HE.o.cell 1
         have hcv := Lib.run_convert_string_bytes (P := Tryz.prog) w1 9 22 5 a0_1 Tryz.underlying9 Tryz.underlying22 Tryz.underlying5
         have HO := aa.mk ((cK.conv w1 5 a0_1).lower HE.o.lt)
         have HE := aa.mk (HE.o.step ((fd w1 5 a0_1).mono HE.o.lt))
         clear hb1)
      | (refine fT rfl (.tmp 17) (.tmp 18) 22 rfl 5 Tryz.underlying22 (by kernel_rfl) (w.heap.size + 1) rfl rfl HO.o HE.o.lt _ rfl (by rw [dH]; have := HSZ.o; omega) ?_
         rintro v2 w2 ho2 hb2
         have HO := aa.mk (show cK w2 (w.heap.size + 1) v2 (ja a0_1 0) by simpa [ja] using ho2)
         have HE := aa.mk (HE.o.step hb2)
         clear ho2 hb2))
    clear hc1 hcv
    go_loopw [3] (fun v wr => ∃ j : Nat, aa (j ≤ ij a0_1) ∧ aa (cK wr (w.heap.size + 1) v (ja a0_1 j)) ∧ aa (lO w wr a0_0 a0_1 a0_2)) (fun v _ => match v with | .slice _ n _ => 200 - n | _ => 0)
    case atStart => exact ⟨0, ⟨Nat.zero_le _⟩, HO, HE⟩
    case round =>
      clear HO HE
      obtain ⟨j, HJ, HO, HE⟩ := hrel
      obtain ⟨g, cap, hv, hrest⟩ := HO.o
      subst hv
      clear hrest
      obtain ⟨m, hm⟩ : ∃ m, m = (ja a0_1 j).length := ⟨_, rfl⟩
      rw [← hm] at HO ⊢
      have hm2 := hm
      rw [kK] at hm2
      have HM := aa.mk hm2
      have HML := aa.mk hm
      have hj := HJ.o
      have hsz := HSZ.o
      by_cases hlt : m % 64 = 56
      · have hlk : ((m : Int) % 64 != 56) = false := by simp; omega
        have hc2 : wr.cell? ⟨w.heap.size, 2, none⟩ = some (.int .i64 a0_2) := HE.o.cell 2
        have hjp : j = ij a0_1 := by unfold ij at hj ⊢; omega
        have HJP := aa.mk hjp
        clear hm hm2 hjp hj
        go_wp2
        clear hc2
        obtain ⟨B, hB⟩ : ∃ B, B = wrap64 (8 * a0_2) := ⟨_, rfl⟩
        rw [← hB]
        have HO := aa.mk (show cK wr (w.heap.size + 1) (.slice (some ⟨g, 0, none⟩) m cap) (hJ a0_1 a0_2 0) by have := HO.o; rw [HJP.o] at this; simpa [hJ, nV] using this)
        have HBB := aa.mk hB
        clear hB
        go_loopw [3, 5] (fun v q wr => ∃ (n : Nat) (i : Int), q = .int .i64 i ∧ aa (i = 7 - (n : Int) ∧ n ≤ 8) ∧ aa (cK wr (w.heap.size + 1) v (hJ a0_1 a0_2 n)) ∧ aa (lO w wr a0_0 a0_1 a0_2)) (fun _ q _ => (intOf q + 1).toNat)
        case atStart => exact ⟨0, 7, rfl, ⟨by omega, by omega⟩, HO, HE⟩
        case round =>
          clear HO HE hlk hlt
          obtain ⟨n, i, rfl, HI, HO, HE⟩ := hrel
          have hi := HI.o
          by_cases hlt : 0 ≤ i
          · have hlk : decide (0 ≤ i) = true := ya hlt
            have HL := aa.mk hlt
            clear hi
            go_wp2
            go_loopw [6, 7] (fun x q wr => ∃ (t : Nat), q = .int .i64 (t : Int) ∧ x = .int .i64 (sh8 B t) ∧ aa ((t : Int) ≤ i) ∧ aa (cK wr (w.heap.size + 1) u3 (hJ a0_1 a0_2 n)) ∧ aa (lO w wr a0_0 a0_1 a0_2)) (fun _ q _ => (8 - intOf q).toNat)
            case atStart => exact ⟨0, rfl, rfl, ⟨HL.o⟩, HO, HE⟩
            case round =>
              clear HO HE
              obtain ⟨t, rfl, rfl, HT, HO, HE⟩ := hrel
              have ht := HT.o
              by_cases hlt2 : (t : Int) < i
              · have hlk2 : decide ((t : Int) < i) = true := ya hlt2
                have hi7 : i ≤ 7 := by have := HI.o; omega
                clear ht
                go_wp2
                go_roundw
                case rel => exact ⟨t + 1, by go_num, rfl, ⟨by have := HI.o; push_cast; omega⟩, HO, HE⟩
                case measure => have := HI.o; simp [intOf]; omega
              · have hlk2 : decide ((t : Int) < i) = false := za hlt2
                have htn : t = 7 - n := by have := HI.o; have := HL.o; omega
                have e1 : IntKind.i64.wrap (i - 1) = i - 1 := IntWalk.i64_in _ (by have := HI.o; omega)
                have HTN := aa.mk htn
                clear ht htn
                go_wp2_with (first
                  | (refine fT rfl (.tmp 42) (.tmp 46) 22 rfl 5 Tryz.underlying22 (by kernel_rfl) (w.heap.size + 1) rfl rfl HO.o HE.o.lt _ rfl (by rw [kS]; have := HSZ.o; have := HI.o; unfold ij; omega) ?_
                     rintro v5 w5 ho5 hb5
                     have HO5 := aa.mk (show cK w5 (w.heap.size + 1) v5 (hJ a0_1 a0_2 (n + 1)) by rw [HBB.o, HTN.o] at ho5; simpa [hJ, nV] using ho5)
                     have HE := aa.mk (HE.o.step hb5)
                     clear ho5 hb5))
                go_roundw
                case rel => exact ⟨n + 1, i - 1, rfl, ⟨by have := HI.o; push_cast; omega, by have := HI.o; have := HL.o; omega⟩, HO5, HE⟩
                case measure => have := HL.o; simp [intOf]; omega
          · have hlk : decide (0 ≤ i) = false := za hlt
            have hn : n = 8 := by omega
            rw [hn] at HO
            have hc0 : wr.cell? ⟨w.heap.size, 0, none⟩ = some (.string a0_0) := HE.o.cell 0
            clear hi hlt hn
            go_wp2_with (first
              | (go_at_call 80
                 (with_reducible refine (bm.calls k _ st _ HST.o).mono ?_)
                 rintro e w3 ⟨v3, rfl, ho3, hb3⟩
                 have HO := aa.mk (HO.o.below hb3)
                 have HE3 := aa.mk (HE.o.step (hb3.mono HE.o.lt))
                 have HR3 := aa.mk ho3
                 clear ho3 hb3)
              | (go_at_call 81
                 (with_reducible refine (ft.calls ks _ HKS.o).mono ?_)
                 rintro e w4 ⟨v4, rfl, ho4, hb4⟩
                 have HO := aa.mk (HO.o.below hb4)
                 have HE4 := aa.mk (HE3.o.step (hb4.mono HE3.o.lt))
                 have HR3 := aa.mk (vE HR3.o hb4)
                 have HR4 := aa.mk ho4
                 clear ho4 hb4))
            obtain ⟨g3, cap3, hv3, hrest3⟩ := HO.o
            obtain ⟨A4, c4, e4⟩ := uV HR4.o
            subst e4
            obtain ⟨T, hT⟩ : ∃ T, T = hJ a0_1 a0_2 8 := ⟨_, rfl⟩
            have HS8 := aa.mk HS8.o
            rw [← hT] at HO HS8 hv3 hrest3
            obtain ⟨m3, hm3⟩ : ∃ m3, m3 = T.length := ⟨_, rfl⟩
            rw [← hm3] at hv3 hrest3 HS8
            have hm8 : m3 % 64 = 0 ∧ m3 ≤ 200 := by rw [hm3, hT, kS]; have := HSZ.o; unfold ij; omega
            have HM3 := aa.mk hm3
            have HM8 := aa.mk hm8
            have HCAP := aa.mk (show m3 ≤ cap3 from hrest3.2.2.1)
            clear hT hm3 hm8 hrest3
            subst hv3
            go_loopw [8, 10] (fun v q wr => ∃ (n : Nat) (sv : List Int), q = .int .i64 ((64 * n : Nat) : Int) ∧ aa (64 * n ≤ m3) ∧ aa (fk k ks T st n = some sv) ∧ aa (Kd.R (Kd.int .u32) 78 wr w.heap.size (fun _ => True) v sv) ∧ aa (Kd.R (Kd.int .u32) 78 wr w.heap.size (fun _ => True) (.slice A4 ks.length c4) ks) ∧ aa (cK wr (w.heap.size + 1) (.slice (some ⟨g3, 0, none⟩) m3 cap3) T) ∧ aa (lO w wr a0_0 a0_1 a0_2)) (fun _ q _ => m3 - (intOf q).toNat)
            case atStart => exact ⟨0, st, rfl, ⟨Nat.zero_le _⟩, ⟨rfl⟩, ⟨uY HR3.o (Nat.le_trans (Nat.le_succ _) HE.o.lt)⟩, ⟨uY HR4.o (Nat.le_trans (Nat.le_succ _) HE3.o.lt)⟩, HO, HE4⟩
            case round =>
              clear HO HE4 HE3 HR3 HR4 HE
              obtain ⟨n3, sv, rfl, HN3, HSV, HR3, HR4, HO, HE⟩ := hrel
              obtain ⟨p, hp⟩ : ∃ p, p = 64 * n3 := ⟨_, rfl⟩
              rw [← hp]
              have HPP := aa.mk hp
              have hn3 := HN3.o
              have hm8 := HM8.o
              by_cases hlt : p < m3
              · have hlk : decide ((p : Int) < (m3 : Int)) = true := ya (by omega)
                obtain ⟨p2, hp2⟩ : ∃ p2, p2 = p + 64 := ⟨_, rfl⟩
                have e1 : IntKind.i64.wrap ((p : Int) + 64) = (p2 : Int) := (IntWalk.i64_in _ (by omega)).trans (by omega)
                have hcap := HCAP.o
                have s1 : (p ≤ p2) = True := Aa (by omega)
                have s2 : (p2 ≤ cap3) = True := Aa (by omega)
                have s3 : (cap3 = p) = False := eq_false (by omega)
                have hTm := HM3.o
                have hseg : ((T.drop p).take 64).length = p2 - p := by rw [List.length_take, List.length_drop]; omega
                have hcv2 := run_convert_bytes_arg (P := Tryz.prog) wr 22 5 Tryz.underlying22 Tryz.underlying5 g3 p (p2 - p) (cap3 - p) ((T.drop p).take 64) hseg (fun i hi => by rw [HO.o.at (p + i) (by omega)]; simp [List.getD, List.getElem?_take, List.getElem?_drop, show i < 64 by omega]) 9 Tryz.underlying9
                obtain ⟨s', hs1, hs2⟩ := mV HS8.o (by omega) HSV.o
                rw [← hp] at hs1
                have HS1 := aa.mk hs1
                have HS2 := aa.mk hs2
                obtain ⟨A8, c8, e8⟩ := uV HR3.o
                subst e8
                have HP2 := aa.mk hp2
                have HL := aa.mk hlt
                clear hp hn3 hm8 hp2 hcap hTm hseg hs1 hs2
                go_wp2_with (first
                  | (go_at_call 82
                     (with_reducible refine (ae.calls k A8 c8 sv A4 c4 ks _ s' _ ?s1 ?s2 ?s3 ?s4 HS1.o).mono ?_)
                     (case s1 => exact (uU HR3.o).2.2)
                     (case s2 => exact (uU HR3.o).2.1)
                     (case s3 => exact (uU HR4.o).2.2)
                     (case s4 => exact (uU HR4.o).2.1)
                     rintro e w6 ⟨v6, rfl, ho6, hb6⟩
                     have HO := aa.mk (HO.o.below hb6)
                     have HR4 := aa.mk (vE HR4.o hb6)
                     have HR6 := aa.mk (uY ho6 (Nat.le_trans (Nat.le_succ _) HE.o.lt))
                     have HE := aa.mk (HE.o.step (hb6.mono HE.o.lt))
                     clear ho6 hb6))
                go_roundw
                case rel =>
                  have hp := HPP.o
                  have hp2 := HP2.o
                  exact ⟨n3 + 1, s', by rw [show 64 * (n3 + 1) = p2 by omega], ⟨by have := HL.o; have := HM8.o; omega⟩, HS2, HR6, HR4, HO, HE⟩
                case measure => have := HP2.o; have := HL.o; simp [intOf]; omega
              · have hlk : decide ((p : Int) < (m3 : Int)) = false := za (by omega)
                have hsv : sv = s8 := by
                  have := HS8.o
                  rw [show m3 / 64 = n3 by omega] at this
                  exact Ba (HSV.o.symm.trans this)
                subst hsv
                obtain ⟨A8, c8, e8⟩ := uV HR3.o
                subst e8
                clear hp hn3 hm8
                go_wp2_with (first
                  | (go_at_call 83
                     (with_reducible refine (bu.calls k A8 c8 sv r _ ?s1 ?s2 HRR.o).mono ?_)
                     (case s1 => exact (uU HR3.o).2.2)
                     (case s2 => exact (uU HR3.o).2.1)
                     rintro e w6 ⟨rfl, hb6⟩
                     have HE := aa.mk (HE.o.step (hb6.mono HE.o.lt))
                     clear hb6))
                go_ret
                exact ⟨rfl, HE.o.1⟩
      · have hlk : ((m : Int) % 64 != 56) = true := by simp; omega
        clear hm hm2 hj
        go_wp2_with (first
          | (refine fT rfl (.tmp 24) (.tmp 25) 22 rfl 5 Tryz.underlying22 (by kernel_rfl) (w.heap.size + 1) rfl rfl HO.o HE.o.lt _ rfl (by rw [← HML.o]; have := HM.o; have := HJ.o; unfold ij at this; omega) ?_
             rintro v2 w2 ho2 hb2
             have HO2 := aa.mk (show cK w2 (w.heap.size + 1) v2 (ja a0_1 (j + 1)) by rw [pF]; exact ho2)
             have HE := aa.mk (HE.o.step hb2)
             clear ho2 hb2))
        go_roundw
        case rel => exact ⟨j + 1, ⟨by have := HJ.o; have := HM.o; unfold ij at *; omega⟩, HO2, HE⟩
        case measure =>
          obtain ⟨g2, cap2, hv2, _⟩ := HO2.o
          subst hv2
          have := HM.o
          have := HJ.o
          unfold ij at this
          simp [kK]
          omega
end Go.Proofs.YtmiackbomcjboaaGreatDoor.P
