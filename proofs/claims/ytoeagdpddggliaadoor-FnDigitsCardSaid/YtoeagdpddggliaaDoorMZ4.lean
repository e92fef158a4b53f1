/- SHA-256: the digest of a text: the reference's is the program's. -/
import Derived.Test.YtoeagdpddggliaaDoorMZ3
import Derived.Test.YtoeagdpddggliaaDoorPx2
import Derived.Test.YtoeagdpddggliaaDoorPx3
import Derived.Test.YtoeagdpddggliaaDoorPx4
import Derived.Test.YtoeagdpddggliaaDoorPx5
import Derived.Test.YtoeagdpddggliaaDoorPx6
import Derived.Test.YtoeagdpddggliaaDoorPx7
import Derived.Test.YtoeagdpddggliaaDoorPx8
import Derived.Test.YtoeagdpddggliaaDoorPx11
import Derived.Test.YtoeagdpddggliaaDoorHA4
import Derived.Test.YtoeagdpddggliaaDoorHA5
namespace Go.Proofs.YtoeagdpddggliaaDoor.Pure
open Go.RowKit Go.Proofs.YtoeagdpddggliaaDoorW.PrintWords Go.Proofs.YtoeagdpddggliaaDoorW.PrintLast Go.Proofs.YtoeagdpddggliaaDoorW.PrintMore Go.Proofs.YtoeagdpddggliaaDoor.P Go.Proofs.YtoeagdpddggliaaDoor.Kit
set_option linter.unusedVariables false
set_option linter.unusedSimpArgs false

theorem sh8_succ (x : Int) (k : Nat) (h0 : 0 ≤ sh8 x k) (h1 : sh8 x k ≤ 4611686018427387904) : sh8 x (k + 1) = sh8 x k / 256 := by
  simp only [sh8]
  rw [Int.tdiv_eq_ediv_of_nonneg h0, w64 (by omega) (by omega)]
theorem endB_eight (x : Int) (h0 : 0 ≤ x) (h1 : x ≤ 4611686018427387904) : endB x 8 = fourL ((x / 4294967296) % 4294967296) ++ fourL (x % 4294967296) := by
  have y0 : sh8 x 0 = x := rfl
  have y1 := sh8_succ x 0 (by rw [y0]; omega) (by rw [y0]; omega)
  rw [y0] at y1
  have y2 := sh8_succ x 1 (by rw [y1]; omega) (by rw [y1]; omega)
  rw [y1] at y2
  have y3 := sh8_succ x 2 (by rw [y2]; omega) (by rw [y2]; omega)
  rw [y2] at y3
  have y4 := sh8_succ x 3 (by rw [y3]; omega) (by rw [y3]; omega)
  rw [y3] at y4
  have y5 := sh8_succ x 4 (by rw [y4]; omega) (by rw [y4]; omega)
  rw [y4] at y5
  have y6 := sh8_succ x 5 (by rw [y5]; omega) (by rw [y5]; omega)
  rw [y5] at y6
  have y7 := sh8_succ x 6 (by rw [y6]; omega) (by rw [y6]; omega)
  rw [y6] at y7
  have e : endB x 8 = [Int.tmod (sh8 x 7) 256 % 256, Int.tmod (sh8 x 6) 256 % 256, Int.tmod (sh8 x 5) 256 % 256, Int.tmod (sh8 x 4) 256 % 256, Int.tmod (sh8 x 3) 256 % 256, Int.tmod (sh8 x 2) 256 % 256, Int.tmod (sh8 x 1) 256 % 256, Int.tmod (sh8 x 0) 256 % 256] := by
    simp [endB]
  rw [e, y7, y6, y5, y4, y3, y2, y1, y0]
  rw [Int.tmod_eq_emod_of_nonneg (by omega), Int.tmod_eq_emod_of_nonneg (by omega), Int.tmod_eq_emod_of_nonneg (by omega), Int.tmod_eq_emod_of_nonneg (by omega), Int.tmod_eq_emod_of_nonneg (by omega), Int.tmod_eq_emod_of_nonneg (by omega), Int.tmod_eq_emod_of_nonneg (by omega), Int.tmod_eq_emod_of_nonneg (by omega)]
  simp only [fourL, List.cons_append, List.nil_append, List.cons.injEq, and_true]
  refine ⟨by omega, by omega, by omega, by omega, by omega, by omega, by omega, by omega⟩
theorem ending_eq (c : Nat) (rest : ByteArray) (hr : rest.size = c % 64) (hc : c ≤ 1000000000) : ∃ e, impl_ending.f (c : Int) = some e ∧ e.size ≤ 200 ∧ rest ++ e = strOfNums (tailE rest (c : Int) 8) := by
  have ez : Int.tmod (wrap64 (119 - (Int.tmod (c : Int) 64))) 64 = ((padN rest : Nat) : Int) := by
    have h1 : Int.tmod (c : Int) 64 = (c : Int) % 64 := Int.tmod_eq_emod_of_nonneg (by omega)
    rw [h1, w64 (by omega) (by omega), Int.tmod_eq_emod_of_nonneg (by omega)]
    unfold padN
    omega
  have hp : padN rest < 64 := Nat.mod_lt _ (by decide)
  have e8 : wrap64 (8 * (c : Int)) = 8 * (c : Int) := w64 (by omega) (by omega)
  have hz : impl_zeros.f ((padN rest : Nat) : Int) = some (strOfNums (List.replicate (padN rest) 0)) := by
    unfold impl_zeros.f
    rw [if_pos (by omega), Int.toNat_natCast, if_pos (by omega)]
  have h8 : impl_eightBytes.f (8 * (c : Int)) = some (strOfNums (fourL ((8 * (c : Int) / 4294967296) % 4294967296) ++ fourL (8 * (c : Int) % 4294967296))) := by
    have key : ∀ hi lo : Int, (if (strOfNums (fourL hi)).size + (strOfNums (fourL lo)).size ≤ 9223372036854775807 then some (strOfNums (fourL hi) ++ strOfNums (fourL lo)) else none) = some (strOfNums (fourL hi ++ fourL lo)) := by
      intro hi lo
      rw [strOf_app]
      exact if_pos (by rw [strOfNums_size, strOfNums_size]; show 4 + 4 ≤ _; decide)
    exact key _ _
  refine ⟨(strOfNums [128] ++ strOfNums (List.replicate (padN rest) 0)) ++ strOfNums (fourL ((8 * (c : Int) / 4294967296) % 4294967296) ++ fourL (8 * (c : Int) % 4294967296)), ?_, ?_, ?_⟩
  · unfold impl_ending.f
    rw [ez, hz, e8, h8]
    simp only [Option.bind_some]
    rw [if_pos (by rw [strOfNums_size]; simp; omega), if_pos (by rw [ByteArray.size_append, strOfNums_size, strOfNums_size]; simp [fourL]; exact (show 1 + padN rest ≤ 9223372036854775799 by omega))]
    rfl
  · rw [ByteArray.size_append, ByteArray.size_append, strOfNums_size, strOfNums_size, strOfNums_size]
    simp [fourL]
    omega
  · unfold tailE tailZ
    rw [e8, endB_eight _ (by omega) (by omega), strOf_app, strOf_app]
    have := strOf_app (bl rest) ([128] ++ List.replicate (padN rest) 0 ++ (fourL ((8 * (c : Int) / 4294967296) % 4294967296) ++ fourL (8 * (c : Int) % 4294967296)))
    rw [strOfNums_bl] at this
    rw [this]
    simp only [List.append_assoc]
theorem hasherOk_eq (a b : ByteArray) (c : Nat) (ha : a.size = 32) (hb : b.size = c % 64) (hc : c ≤ 1000000000) : spec_HasherOk.f a b (c : Int) = some true := by
  unfold spec_HasherOk.f
  rw [if_pos (by omega), if_pos (by omega)]
  have : spec_l01In.f (c : Int) 0 1000000000 = some true := by
    unfold spec_l01In.f
    rw [if_pos (by omega), decide_eq_true (by omega)]
  rw [this]
  simp only [Option.bind_some]
  rw [if_pos trivial, Int.tmod_eq_emod_of_nonneg (by omega)]
  congr 1
  rw [beq_iff_eq]
  omega
def S0 : ByteArray := strOfNums (bytesW impl_firstState.v)
theorem bytes32 {l : List Int} (h : Eight l) : (strOfNums (bytesW l)).size = 32 := by
  rw [strOfNums_size, bytesW_len, h.1]
theorem spec_HasherNew_ev : Ev (fun k => spec_HasherNew.f k) (S0, (⟨#[]⟩ : ByteArray), 0) := by
  unfold spec_HasherNew.f
  refine Ev.then (a := impl_firstState.v) rfl ?_
  refine Ev.bind (spec_l05Bytes_ev _ (by decide) first_eight.2) ?_
  exact Ev.now _
theorem words_ev {l : List Int} (h : Eight l) : Ev (fun k => spec_l05Words.f k (strOfNums (bytesW l))) l := by
  have := spec_l05Words_ev (strOfNums (bytesW l)) 8 (bytes32 h) (by decide)
  rwa [wordL_bytes h] at this
theorem K_eq : spec_l05K.f = some roundKeys := rfl
theorem spec_HashMore_ev (s : ByteArray) (hs : s.size ≤ 1000000000) : Ev (fun k => spec_HashMore.f k S0 (⟨#[]⟩ : ByteArray) 0 s) (strOfNums (bytesW (stAt impl_firstState.v s (s.size / 64))), s.extract (64 * (s.size / 64)) s.size, (s.size : Int)) := by
  unfold spec_HashMore.f
  refine Ev.then (hasherOk_eq S0 _ 0 (bytes32 first_eight) rfl (by decide)) ?_
  refine Ev.pos rfl ?_
  have e0 : wrap64 (0 + (s.size : Int)) = (s.size : Int) := by rw [w64 (by omega) (by omega)]; omega
  have hd : decide (wrap64 (0 + (s.size : Int)) > 1000000000) = false := by rw [e0]; exact decide_eq_false (by omega)
  rw [hd]
  refine Ev.step (f := fun k => (spec_l05Words.f k S0).bind fun t => (spec_l05K.f).bind fun t2 => (spec_HashMore.l0 k s t t2 s 0 S0 (⟨#[]⟩ : ByteArray) 0)) (fun k => ?_) ?_
  · simp only [spec_HashMore.j0]
    have hz : (⟨#[]⟩ : ByteArray).size + s.size ≤ 9223372036854775807 := (show 0 + s.size ≤ 9223372036854775807 by omega)
    rw [if_neg (by decide), empty_app]
    simp only [if_pos hz]
  refine Ev.bind (words_ev first_eight) ?_
  refine Ev.then K_eq ?_
  refine Ev.up (g := fun n k => spec_HashMore.l0 k s (stAt impl_firstState.v s n) roundKeys s ((64 * n : Nat) : Int) S0 (⟨#[]⟩ : ByteArray) 0) (s.size / 64) ?_ ?_ 0 (Nat.zero_le _)
  · intro n hn hh
    have e1 : wrap64 (((64 * n : Nat) : Int) + 64) = ((64 * (n + 1) : Nat) : Int) := by rw [w64 (by omega) (by omega)]; omega
    refine Ev.step (f := fun k => (spec_l05Round.f k (stAt impl_firstState.v s n) roundKeys (s.extract (64 * n) (64 * n + 64))).bind fun t => spec_HashMore.l0 k s t roundKeys s ((64 * (n + 1) : Nat) : Int) S0 (⟨#[]⟩ : ByteArray) 0) (fun k => ?_) ?_
    · simp only [spec_HashMore.l0]
      rw [e1, if_pos (by omega), if_pos (by omega), if_pos (by omega), Int.toNat_natCast, Int.toNat_natCast, show 64 * (n + 1) = 64 * n + 64 by omega]
    exact Ev.bind (spec_l05Round_ev _ _ (stAt_eight first_eight s n) (by rw [ByteArray.size_extract]; omega)) hh
  · have e1 : wrap64 (((64 * (s.size / 64) : Nat) : Int) + 64) = ((64 * (s.size / 64 + 1) : Nat) : Int) := by rw [w64 (by omega) (by omega)]; omega
    refine Ev.step (f := fun k => (spec_l05Bytes.f k (stAt impl_firstState.v s (s.size / 64))).bind fun t => some (t, s.extract (64 * (s.size / 64)) s.size, (s.size : Int))) (fun k => ?_) ?_
    · simp only [spec_HashMore.l0]
      have ha : (0 : Int) ≤ ((64 * (s.size / 64) : Nat) : Int) := by omega
      have hb : ((64 * (s.size / 64) : Nat) : Int) ≤ (s.size : Int) := by omega
      rw [e1, if_neg (by omega)]
      simp only [if_pos ha, if_pos hb, Int.toNat_natCast, e0]
    exact Ev.bind (spec_l05Bytes_ev _ (by rw [(stAt_eight first_eight s _).1]; decide) (stAt_eight first_eight s _).2) (Ev.now _)
/-- Both digests of a text. -/
theorem digest_same (s : ByteArray) (hs : s.size ≤ 1000000000) : ∃ d, d.size = 32 ∧ Ev (fun k => spec_DigestOf.f k s) d ∧ impl_DigestOf.f s = some d := by
  have hrs : (s.extract (64 * (s.size / 64)) s.size).size = s.size % 64 := by rw [ByteArray.size_extract]; omega
  obtain ⟨e, he, hes, hT⟩ := ending_eq s.size (s.extract (64 * (s.size / 64)) s.size) hrs hs
  have hTl := tailE_len (s.extract (64 * (s.size / 64)) s.size) (s.size : Int) 8
  have hpad : (s.size % 64 + 1 + padN (s.extract (64 * (s.size / 64)) s.size) + 8) % 64 = 0 := by unfold padN; rw [hrs]; omega
  have hes2 : e.size + s.size % 64 = s.size % 64 + 1 + padN (s.extract (64 * (s.size / 64)) s.size) + 8 := by
    have := congrArg ByteArray.size hT
    rw [ByteArray.size_append, strOfNums_size, hTl, hrs] at this
    omega
  rw [hrs] at hTl
  have hn : (s ++ e).size / 64 = s.size / 64 + (tailE (s.extract (64 * (s.size / 64)) s.size) (s.size : Int) 8).length / 64 := by
    rw [ByteArray.size_append, hTl]
    omega
  refine ⟨strOfNums (bytesW (stAt impl_firstState.v (s ++ e) ((s ++ e).size / 64))), bytes32 (stAt_eight first_eight _ _), ?_, ?_⟩
  · unfold spec_DigestOf.f
    refine Ev.bind spec_HasherNew_ev ?_
    refine Ev.bind (spec_HashMore_ev s hs) ?_
    refine Ev.bind (a := strOfNums (bytesW (stAt impl_firstState.v (s ++ e) ((s ++ e).size / 64)))) ?_ (Ev.now _)
    show Ev (fun k => spec_HashEnd.f k (strOfNums (bytesW (stAt impl_firstState.v s (s.size / 64)))) (s.extract (64 * (s.size / 64)) s.size) (s.size : Int)) _
    unfold spec_HashEnd.f
    refine Ev.then (hasherOk_eq _ _ _ (bytes32 (stAt_eight first_eight s _)) hrs hs) ?_
    refine Ev.pos rfl ?_
    refine Ev.bind (words_ev (stAt_eight first_eight s _)) ?_
    refine Ev.then K_eq ?_
    refine Ev.bind (blocksAt_ev s e _ _ first_eight (s.size / 64) (by omega) hT _ (by omega)) ?_
    rw [← hn]
    exact spec_l05Bytes_ev _ (by rw [(stAt_eight first_eight _ _).1]; decide) (stAt_eight first_eight _ _).2
  · unfold impl_DigestOf.f
    rw [he]
    simp only [Option.bind_some]
    rw [if_pos (by omega), stateText_eq _ (stAt_eight first_eight _ _).1]
end Go.Proofs.YtoeagdpddggliaaDoor.Pure
