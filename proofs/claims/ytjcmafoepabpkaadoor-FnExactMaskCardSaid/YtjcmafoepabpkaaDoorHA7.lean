/- Walks by hand: bytes of a text, each turned by a byte; a key filled to a block. -/
import Derived.Test.YtjcmafoepabpkaaDoorMW2
import Derived.Test.YtjcmafoepabpkaaDoorMW3
import Derived.Test.YtjcmafoepabpkaaDoorMW4
import Derived.Test.YtjcmafoepabpkaaDoorPx0
import Derived.Test.YtjcmafoepabpkaaDoorPx3
import Derived.StillTailTactics
import Derived.Deep.QuietTactic
import Derived.BigQuiet
import Derived.RegionTactic
import Derived.IntWalk
import Derived.Laws.CopyOwn
namespace Go.Proofs.YtjcmafoepabpkaaDoor.P
open Go.RowKit Go.Proofs.YtjcmafoepabpkaaDoorW.PrintWords Go.Proofs.YtjcmafoepabpkaaDoorW.PrintLast Go.Proofs.YtjcmafoepabpkaaDoorW.PrintMore Go.Proofs.YtjcmafoepabpkaaDoor.Kit
set_option linter.unusedVariables false
set_option linter.unusedSimpArgs false

/-- The first m bytes turned by x. -/
def xorA (l : List Int) (x : Int) : Nat → List Int
  | 0 => l
  | m + 1 => (xorA l x m).set m (Go.bits .xor .u8 ((xorA l x m).getD m 0) x)
theorem xorA_len (l : List Int) (x : Int) (m : Nat) : (xorA l x m).length = l.length := by
  induction m with
  | zero => rfl
  | succ m ih => simp only [xorA, List.length_set, ih]
def impl_xored.f (s : ByteArray) (x : Int) : Option ByteArray := if s.size ≤ 1000000 then some (strOfNums (xorA (bl s) x s.size)) else none
set_option maxHeartbeats 1000000 in
set_option maxRecDepth 100000 in
theorem impl_xored.calls (a0 : ByteArray) (a1 : Int) (r : ByteArray) (w : World) (h : impl_xored.f a0 a1 = some r) :
    Calls Tryd.prog 111 #[.string a0, .int .u8 a1] w fun e w' => e = .returned (.string r) ∧ Below w.heap.size w w' := by
  unfold impl_xored.f at h
  split at h
  case isFalse => exact absurd h (by simp)
  case isTrue hs =>
  obtain rfl := Option.some.inj h
  have HS := Aside0.mk hs
  clear h hs
  have hcv := Lib.run_convert_string_bytes (P := Tryd.prog) w 9 31 5 a0 Tryd.underlying9 Tryd.underlying31 Tryd.underlying5
  have HO := Aside0.mk (show OwnI .u8 (Lib.bytesWorld w 5 a0) w.heap.size (.slice (some ⟨w.heap.size, 0, none⟩) a0.size (grownCap w a0.size 0 5)) (xorA (bl a0) a1 0) from OwnG.conv w 5 a0)
  have HB := Aside0.mk (below_bytes w 5 a0)
  go_enter Tryd.func111, Tryd.ntmps111
  go_wp2
  generalize grownCap w a0.size 0 5 = C at HO hcv ⊢
  obtain ⟨B, hB⟩ : ∃ B, B = w.heap.size := ⟨_, rfl⟩
  rw [← hB] at HO HB ⊢
  have HBB := Aside0.mk hB
  clear hcv hB
  generalize Lib.bytesWorld w 5 a0 = w1 at HO HB ⊢
  go_loopw [11] (fun c wr => ∃ i : Nat, c = .int .i64 (i : Int) ∧ Aside0 (i ≤ a0.size) ∧ Aside0 (OwnI .u8 wr B (.slice (some ⟨B, 0, none⟩) a0.size C) (xorA (bl a0) a1 i)) ∧ Aside0 (Below B w wr)) (fun c _ => a0.size - (intOf c).toNat)
  case atStart => exact ⟨0, rfl, ⟨Nat.zero_le _⟩, HO, HB⟩
  case round =>
    clear HO HB
    obtain ⟨i, rfl, HI, HO, HB⟩ := hrel
    have hi := HI.out
    have hS := HS.out
    by_cases hlt : i < a0.size
    · have hl1 : decide ((i : Int) < (a0.size : Int)) = true := decide_eq_true (by omega)
      have hl2 : decide (i < a0.size) = true := decide_eq_true hlt
      have l1 : ((i : Int) < (a0.size : Int)) = True := eq_true (by omega)
      have l2 : (i < a0.size) = True := eq_true hlt
      have e1 : IntKind.i64.wrap ((i : Int) + 1) = ((i + 1 : Nat) : Int) := (IntWalk.i64_in _ (by omega)).trans (by omega)
      have hlen : i < (xorA (bl a0) a1 i).length := by rw [xorA_len, bl_len]; exact hlt
      have HL := Aside0.mk hlt
      have HLN := Aside0.mk hlen
      have hx1 := HO.out.at i hlen
      have hf1 := HO.out.froz i hlen
      clear hi hS
      go_wp2
      go_roundw
      case rel =>
        refine ⟨i + 1, by go_num, ⟨by have := HL.out; omega⟩, ⟨?_⟩, ⟨below_setCell HB.out (by show B ≤ B; omega) _⟩⟩
        simp only [xorA]
        rw [show (xorA (bl a0) a1 i).getD i 0 = (xorA (bl a0) a1 i)[i]'HLN.out by simp [List.getD, HLN.out]]
        exact HO.out.set i HLN.out _
      case measure => have := HL.out; simp [intOf]; omega
    · obtain rfl : i = a0.size := by omega
      have hl1 : decide ((a0.size : Int) < (a0.size : Int)) = false := decide_eq_false (by omega)
      have hl2 : decide (a0.size < a0.size) = false := decide_eq_false (by omega)
      have hl3 : ((a0.size : Int) < (a0.size : Int)) = False := eq_false (by omega)
      have hcv : (convert 31 9 (.slice (some ⟨B, 0, none⟩) a0.size C)).run Tryd.prog wr = .ok (.string (strOfNums (xorA (bl a0) a1 a0.size))) wr :=
        run_convert_bytes_arg (P := Tryd.prog) wr 31 5 Tryd.underlying31 Tryd.underlying5 B 0 a0.size C (xorA (bl a0) a1 a0.size) (by rw [xorA_len, bl_len]) (fun j hj => by rw [Nat.zero_add]; exact HO.out.at j (by rw [xorA_len, bl_len]; exact hj)) 9 Tryd.underlying9
      clear hi hS hlt
      go_wp2
      go_ret
      exact ⟨rfl, by rw [← HBB.out]; exact HB.out⟩
/-- The first m bytes of a key's block. -/
def maskA (d : ByteArray) (x : Int) : Nat → List Int
  | 0 => List.replicate 64 0
  | m + 1 => (maskA d x m).set m (Go.bits .xor .u8 (if m < d.size then bt d (m : Int) else 0) x)
theorem maskA_len (d : ByteArray) (x : Int) (m : Nat) : (maskA d x m).length = 64 := by
  induction m with
  | zero => simp [maskA]
  | succ m ih => simp only [maskA, List.length_set, ih]
theorem maskA_hi (d : ByteArray) (x : Int) (j : Nat) (hj : j < 64) : ∀ m, m ≤ j → (maskA d x m).getD j 0 = 0
  | 0, _ => by
    unfold maskA
    rw [List.getD, List.getElem?_replicate]
    split <;> rfl
  | m + 1, h => by
    have ih := maskA_hi d x j hj m (by omega)
    simp only [maskA, List.getD, List.getElem?_set_ne (show m ≠ j by omega)]
    exact ih
theorem run_index_s {P : Program} (w : World) (ty : TypeId) (s : ByteArray) (j : Nat) (hu : P.underlying ty = some .string) (h : j < s.size) : (Instr.index ty (.string s) (.int .i64 (j : Int))).run P w = .ok (.int .u8 (bt s (j : Int))) w := by
  have e : bt s (j : Int) = ((s[j]'h).toNat : Int) := by rw [← bt_at s (j : Int) (by simpa using h)]; simp
  rw [e]
  simp [Instr.index, asIntOf, run_underlying hu, h]
def spec_l06Mask.f (k : Nat) (s : ByteArray) (x : Int) : Option ByteArray := if 64 < s.size then (spec_DigestOf.f k s).bind fun d => (if d.size ≤ 1000000 then some (strOfNums (maskA d x 64)) else none) else some (strOfNums (maskA s x 64))
theorem spec_l06Mask.mono : ∀ a0 a1 k, LeO (spec_l06Mask.f k a0 a1) (spec_l06Mask.f (k + 1) a0 a1) := by
  intro a0 a1 k
  unfold spec_l06Mask.f
  exact LeO.ite (LeO.bind (spec_DigestOf.mono _ k) (fun _ => LeO.refl _)) (LeO.refl _)
set_option maxHeartbeats 1000000 in
set_option maxRecDepth 100000 in
theorem spec_l06Mask.calls (k : Nat) (a0 : ByteArray) (a1 : Int) (r : ByteArray) (w : World) (h : spec_l06Mask.f k a0 a1 = some r) :
    Calls Tryd.prog 107 #[.string a0, .int .u8 a1] w fun e w' => e = .returned (.string r) ∧ Below w.heap.size w w' := by
  unfold spec_l06Mask.f at h
  by_cases hs : 64 < a0.size
  · rw [if_pos hs] at h
    obtain ⟨d, hd, h⟩ := Option.bind_eq_some_iff.mp h
    have c1 : decide ((a0.size : Int) > 64) = true := decide_eq_true (by omega)
    have c2 : decide (64 < a0.size) = true := decide_eq_true hs
    have c3 : decide ((64 : Int) < (a0.size : Int)) = true := decide_eq_true (by omega)
    split at h
    case isFalse => exact absurd h (by simp)
    case isTrue hdz =>
    obtain rfl := Option.some.inj h
    have HD := Aside0.mk hd
    have HZ := Aside0.mk (show d.size ≤ 64 ∨ True from .inr trivial)
    clear h hs hd
    go_enter Tryd.func107, Tryd.ntmps107
    go_wp2_with (first
      | (go_at_call 106
         (with_reducible refine (spec_DigestOf.calls k a0 d _ HD.out).mono ?_)
         rintro e w1 ⟨rfl, hb1⟩
         have HB0 := Aside0.mk hb1
         clear hb1)
      | ((with_reducible refine gate_dst (N := 12) rfl ?_)
         refine Kd.R_make (Kd.int .u8) _ 5 rfl (N := 12) rfl 31 _ _ rfl 64 rfl rfl Tryd.underlying31 (.int .u8 0) 1 info5 rfl (by decide) (by omega) 0 (ok := fun _ => True) (okp := fun _ => True) rfl (fun _ hk => hk) trivial (by decide) (by decide) (Below.refl _ _) (Nat.le_refl _) ?_
         intro v1 w4 ho hb hg_ hnew_
         clear hg_ hnew_
         obtain ⟨g, C, hv, h1, hrest⟩ := OwnI.of_R (k := .u8) (xs := maskA d a1 0) ho (by rw [maskA_len]; decide)
         rw [maskA_len] at hv
         have HO := Aside0.mk (show OwnI .u8 w4 g (.slice (some ⟨g, 0, none⟩) 64 C) (maskA d a1 0) from ⟨g, C, by rw [maskA_len], Nat.le_refl _, hrest⟩)
         have HB := Aside0.mk (HB0.out.trans (hb.mono HB0.out.size))
         have HG := Aside0.mk (show w.heap.size ≤ g from Nat.le_trans HB0.out.size h1)
         subst hv
         clear hb ho h1 hrest))
    go_loopw [6] (fun c wr => ∃ i : Nat, c = .int .i64 (i : Int) ∧ Aside0 (i ≤ 64) ∧ Aside0 (OwnI .u8 wr g (.slice (some ⟨g, 0, none⟩) 64 C) (maskA d a1 i)) ∧ Aside0 (Below w.heap.size w wr)) (fun c _ => 64 - (intOf c).toNat)
    case atStart => exact ⟨0, rfl, ⟨Nat.zero_le _⟩, HO, HB⟩
    case round =>
      clear HO HB
      obtain ⟨i, rfl, HI, HO, HB⟩ := hrel
      have hi := HI.out
      by_cases hlt : i < 64
      · have hl1 : decide ((i : Int) < 64) = true := decide_eq_true (by omega)
        have l1 : ((i : Int) < 64) = True := eq_true (by omega)
        have e1 : IntKind.i64.wrap ((i : Int) + 1) = ((i + 1 : Nat) : Int) := (IntWalk.i64_in _ (by omega)).trans (by omega)
        have hlen : i < (maskA d a1 i).length := by rw [maskA_len]; exact hlt
        have HL := Aside0.mk hlt
        have HLN := Aside0.mk hlen
        by_cases hk : i < d.size
        · have hk1 : decide ((i : Int) < (d.size : Int)) = true := decide_eq_true (by omega)
          have hk2 : decide (i < d.size) = true := decide_eq_true hk
          have hk3 : ((i : Int) < (d.size : Int)) = True := eq_true (by omega)
          have hix := fun wx : World => run_index_s (P := Tryd.prog) wx 9 d i Tryd.underlying9 hk
          have hf1 := HO.out.froz i hlen
          have hx1 := HO.out.at i hlen
          have HO2 := Aside0.mk (HO.out.set i hlen (bt d (i : Int)))
          have hx2 : (wr.setCell ⟨g, i, none⟩ (.int .u8 (bt d (i : Int)))).cell? ⟨g, i, none⟩ = some (.int .u8 (bt d (i : Int))) := (HO2.out.at i (by rw [List.length_set]; exact hlen)).trans (by simp [List.getD, hlen])
          have hf2 := HO2.out.froz i (by rw [List.length_set]; exact hlen)
          have HK := Aside0.mk hk
          clear hi
          go_wp2
          go_roundw
          case rel =>
            refine ⟨i + 1, by go_num, ⟨by have := HL.out; omega⟩, ⟨?_⟩, ⟨below_setCell (below_setCell HB.out (by show w.heap.size ≤ g; exact HG.out) _) (by show w.heap.size ≤ g; exact HG.out) _⟩⟩
            have ho := HO2.out.set i (by rw [List.length_set]; exact HLN.out) (Go.bits .xor .u8 (bt d (i : Int)) a1)
            rw [List.set_set] at ho
            simp only [maskA, if_pos HK.out]
            exact ho
          case measure => have := HL.out; simp [intOf]; omega
        · have hk1 : decide ((i : Int) < (d.size : Int)) = false := decide_eq_false (by omega)
          have hk2 : decide (i < d.size) = false := decide_eq_false hk
          have hk3 : ((i : Int) < (d.size : Int)) = False := eq_false (by omega)
          have hf1 := HO.out.froz i hlen
          have hx1 : wr.cell? ⟨g, i, none⟩ = some (.int .u8 0) := (HO.out.at i hlen).trans (by rw [maskA_hi _ _ i hlt i (Nat.le_refl _)])
          have HK := Aside0.mk hk
          clear hi
          go_wp2
          go_roundw
          case rel =>
            refine ⟨i + 1, by go_num, ⟨by have := HL.out; omega⟩, ⟨?_⟩, ⟨below_setCell HB.out (by show w.heap.size ≤ g; exact HG.out) _⟩⟩
            simp only [maskA, if_neg HK.out]
            exact HO.out.set i HLN.out _
          case measure => have := HL.out; simp [intOf]; omega
      · obtain rfl : i = 64 := by omega
        have hl1 : decide (((64 : Nat) : Int) < 64) = false := by decide
        have hcv : (convert 31 9 (.slice (some ⟨g, 0, none⟩) 64 C)).run Tryd.prog wr = .ok (.string (strOfNums (maskA d a1 64))) wr :=
          run_convert_bytes_arg (P := Tryd.prog) wr 31 5 Tryd.underlying31 Tryd.underlying5 g 0 64 C (maskA d a1 64) (by rw [maskA_len]) (fun j hj => by rw [Nat.zero_add]; exact HO.out.at j (by rw [maskA_len]; exact hj)) 9 Tryd.underlying9
        clear hi hlt
        go_wp2
        go_ret
        exact ⟨rfl, HB.out⟩
  · rw [if_neg hs] at h
    have c1 : decide ((a0.size : Int) > 64) = false := decide_eq_false (by omega)
    have c2 : decide (64 < a0.size) = false := decide_eq_false hs
    have c3 : decide ((64 : Int) < (a0.size : Int)) = false := decide_eq_false (by omega)
    obtain rfl := Option.some.inj h
    clear h hs
    go_enter Tryd.func107, Tryd.ntmps107
    have HB0 := Aside0.mk (Below.refl w.heap.size w)
    go_wp2_with (first
      | ((with_reducible refine gate_dst (N := 12) rfl ?_)
         refine Kd.R_make (Kd.int .u8) _ 5 rfl (N := 12) rfl 31 _ _ rfl 64 rfl rfl Tryd.underlying31 (.int .u8 0) 1 info5 rfl (by decide) (by omega) 0 (ok := fun _ => True) (okp := fun _ => True) rfl (fun _ hk => hk) trivial (by decide) (by decide) (Below.refl _ _) (Nat.le_refl _) ?_
         intro v1 w4 ho hb hg_ hnew_
         clear hg_ hnew_
         obtain ⟨g, C, hv, h1, hrest⟩ := OwnI.of_R (k := .u8) (xs := maskA a0 a1 0) ho (by rw [maskA_len]; decide)
         rw [maskA_len] at hv
         have HO := Aside0.mk (show OwnI .u8 w4 g (.slice (some ⟨g, 0, none⟩) 64 C) (maskA a0 a1 0) from ⟨g, C, by rw [maskA_len], Nat.le_refl _, hrest⟩)
         have HB := Aside0.mk (HB0.out.trans (hb.mono HB0.out.size))
         have HG := Aside0.mk (show w.heap.size ≤ g from Nat.le_trans HB0.out.size h1)
         subst hv
         clear hb ho h1 hrest))
    go_loopw [6] (fun c wr => ∃ i : Nat, c = .int .i64 (i : Int) ∧ Aside0 (i ≤ 64) ∧ Aside0 (OwnI .u8 wr g (.slice (some ⟨g, 0, none⟩) 64 C) (maskA a0 a1 i)) ∧ Aside0 (Below w.heap.size w wr)) (fun c _ => 64 - (intOf c).toNat)
    case atStart => exact ⟨0, rfl, ⟨Nat.zero_le _⟩, HO, HB⟩
    case round =>
      clear HO HB
      obtain ⟨i, rfl, HI, HO, HB⟩ := hrel
      have hi := HI.out
      by_cases hlt : i < 64
      · have hl1 : decide ((i : Int) < 64) = true := decide_eq_true (by omega)
        have l1 : ((i : Int) < 64) = True := eq_true (by omega)
        have e1 : IntKind.i64.wrap ((i : Int) + 1) = ((i + 1 : Nat) : Int) := (IntWalk.i64_in _ (by omega)).trans (by omega)
        have hlen : i < (maskA a0 a1 i).length := by rw [maskA_len]; exact hlt
        have HL := Aside0.mk hlt
        have HLN := Aside0.mk hlen
        by_cases hk : i < a0.size
        · have hk1 : decide ((i : Int) < (a0.size : Int)) = true := decide_eq_true (by omega)
          have hk2 : decide (i < a0.size) = true := decide_eq_true hk
          have hk3 : ((i : Int) < (a0.size : Int)) = True := eq_true (by omega)
          have hix := fun wx : World => run_index_s (P := Tryd.prog) wx 9 a0 i Tryd.underlying9 hk
          have hf1 := HO.out.froz i hlen
          have hx1 := HO.out.at i hlen
          have HO2 := Aside0.mk (HO.out.set i hlen (bt a0 (i : Int)))
          have hx2 : (wr.setCell ⟨g, i, none⟩ (.int .u8 (bt a0 (i : Int)))).cell? ⟨g, i, none⟩ = some (.int .u8 (bt a0 (i : Int))) := (HO2.out.at i (by rw [List.length_set]; exact hlen)).trans (by simp [List.getD, hlen])
          have hf2 := HO2.out.froz i (by rw [List.length_set]; exact hlen)
          have HK := Aside0.mk hk
          clear hi
          go_wp2
          go_roundw
          case rel =>
            refine ⟨i + 1, by go_num, ⟨by have := HL.out; omega⟩, ⟨?_⟩, ⟨below_setCell (below_setCell HB.out (by show w.heap.size ≤ g; exact HG.out) _) (by show w.heap.size ≤ g; exact HG.out) _⟩⟩
            have ho := HO2.out.set i (by rw [List.length_set]; exact HLN.out) (Go.bits .xor .u8 (bt a0 (i : Int)) a1)
            rw [List.set_set] at ho
            simp only [maskA, if_pos HK.out]
            exact ho
          case measure => have := HL.out; simp [intOf]; omega
        · have hk1 : decide ((i : Int) < (a0.size : Int)) = false := decide_eq_false (by omega)
          have hk2 : decide (i < a0.size) = false := decide_eq_false hk
          have hk3 : ((i : Int) < (a0.size : Int)) = False := eq_false (by omega)
          have hf1 := HO.out.froz i hlen
          have hx1 : wr.cell? ⟨g, i, none⟩ = some (.int .u8 0) := (HO.out.at i hlen).trans (by rw [maskA_hi _ _ i hlt i (Nat.le_refl _)])
          have HK := Aside0.mk hk
          clear hi
          go_wp2
          go_roundw
          case rel =>
            refine ⟨i + 1, by go_num, ⟨by have := HL.out; omega⟩, ⟨?_⟩, ⟨below_setCell HB.out (by show w.heap.size ≤ g; exact HG.out) _⟩⟩
            simp only [maskA, if_neg HK.out]
            exact HO.out.set i HLN.out _
          case measure => have := HL.out; simp [intOf]; omega
      · obtain rfl : i = 64 := by omega
        have hl1 : decide (((64 : Nat) : Int) < 64) = false := by decide
        have hcv : (convert 31 9 (.slice (some ⟨g, 0, none⟩) 64 C)).run Tryd.prog wr = .ok (.string (strOfNums (maskA a0 a1 64))) wr :=
          run_convert_bytes_arg (P := Tryd.prog) wr 31 5 Tryd.underlying31 Tryd.underlying5 g 0 64 C (maskA a0 a1 64) (by rw [maskA_len]) (fun j hj => by rw [Nat.zero_add]; exact HO.out.at j (by rw [maskA_len]; exact hj)) 9 Tryd.underlying9
        clear hi hlt
        go_wp2
        go_ret
        exact ⟨rfl, HB.out⟩
end Go.Proofs.YtjcmafoepabpkaaDoor.P
