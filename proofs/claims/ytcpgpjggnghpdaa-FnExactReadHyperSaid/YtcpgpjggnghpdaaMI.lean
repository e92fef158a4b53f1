/- ReadSig, of the program and of the reference. -/
import Derived.Test.YtcpgpjggnghpdaaMB
import Derived.Test.YtcpgpjggnghpdaaPx65
import Derived.Test.YtcpgpjggnghpdaaPx67
namespace Go.Proofs.Ytcpgpjggnghpdaa.Pure
open Go.RowKit Go.Proofs.YtcpgpjggnghpdaaW.PrintWords Go.Proofs.YtcpgpjggnghpdaaW.PrintLast Go.Proofs.YtcpgpjggnghpdaaW.PrintMore Go.Proofs.Ytcpgpjggnghpdaa.P

def part4 (s : ByteArray) (i : Nat) : ByteArray := s.extract (1 + i * 4) (1 + (i + 1) * 4)
def onceP (s : ByteArray) (n : Nat) : List ByteArray := (List.range (min n 10)).map (part4 s)
def pathP (s : ByteArray) (n : Nat) : List ByteArray := (List.range (n - 10)).map fun i => part4 s (10 + i)
def readSigR (s : ByteArray) : Int × List ByteArray × List ByteArray × Bool :=
  if s.size = 49 ∧ bt s 0 < 4 then (bt s 0, onceP s 12, pathP s 12, true) else (0, [], [], false)
theorem onceP_lo (s : ByteArray) (i : Nat) (h : i < 10) : onceP s i ++ [part4 s i] = onceP s (i + 1) := by
  unfold onceP
  rw [Nat.min_eq_left (by omega), Nat.min_eq_left (by omega), List.range_succ, List.map_append]; rfl
theorem pathP_lo (s : ByteArray) (i : Nat) (h : i < 10) : pathP s i = pathP s (i + 1) := by
  unfold pathP
  rw [show i - 10 = 0 by omega, show i + 1 - 10 = 0 by omega]
theorem onceP_hi (s : ByteArray) (i : Nat) (h : 10 ≤ i) : onceP s i = onceP s (i + 1) := by
  unfold onceP
  rw [Nat.min_eq_right (by omega), Nat.min_eq_right (by omega)]
theorem pathP_hi (s : ByteArray) (i : Nat) (h : 10 ≤ i) : pathP s i ++ [part4 s i] = pathP s (i + 1) := by
  unfold pathP
  rw [show i + 1 - 10 = (i - 10) + 1 by omega, List.range_succ, List.map_append]
  simp only [List.map_cons, List.map_nil]
  rw [show 10 + (i - 10) = i by omega]
theorem readSigR_len (s : ByteArray) : (readSigR s).2.1.length ≤ 10 ∧ (readSigR s).2.2.1.length ≤ 2 := by
  unfold readSigR
  split <;> simp [onceP, pathP]

theorem at4 (i : Nat) (h : i < 1000) : wrap64 (1 + (wrap64 ((i : Int) * 4))) = ((1 + i * 4 : Nat) : Int) := by
  rw [w64 (x := (i : Int) * 4) (by omega) (by omega), w64 (x := 1 + (i : Int) * 4) (by omega) (by omega)]; omega
theorem at4s (i : Nat) (h : i < 999) : wrap64 (1 + (wrap64 ((wrap64 ((i : Int) + 1)) * 4))) = ((1 + (i + 1) * 4 : Nat) : Int) := by
  rw [w64s i (by omega), at4 (i + 1) (by omega)]

theorem spec_ReadSig_ev (s : ByteArray) : Ev (fun k => spec_ReadSig.f k s) (readSigR s) := by
  have bad : Ev (fun k => spec_ReadSig.j0 k s true) ((0 : Int), ([] : List ByteArray), ([] : List ByteArray), false) := by
    refine Ev.step (f := fun _ => some (0, [], [], false)) (fun k => ?_) (Ev.now _)
    simp only [spec_ReadSig.j0, if_true]
  have hr := bt_range s 0
  unfold spec_ReadSig.f readSigR
  by_cases hs : s.size = 49
  · refine Ev.pos (by omega) (Ev.pos (by omega) ?_)
    rw [w64 (by omega) (by omega)]
    by_cases h4 : bt s 0 < 4
    · rw [if_pos ⟨hs, h4⟩, decide_eq_false (by omega)]
      refine Ev.step (f := fun k => spec_ReadSig.l0 k s 0 (bt s 0) [] []) (fun k => ?_) ?_
      · simp only [spec_ReadSig.j0]
        rw [if_neg (by decide), if_pos (by omega), w64 (by omega) (by omega)]
      · refine Ev.up (g := fun i k => spec_ReadSig.l0 k s (i : Int) (bt s 0) (onceP s i) (pathP s i)) (r := (bt s 0, onceP s 12, pathP s 12, true)) 12 ?_ ?_ 0 (by omega)
        · intro i hi h
          refine Ev.step (fun k => ?_) h
          simp only [spec_ReadSig.l0]
          rw [if_pos (by omega), at4 i (by omega), at4s i (by omega), if_pos (by omega), if_pos (by omega), if_pos (by omega), w64s i (by omega), Int.toNat_natCast, Int.toNat_natCast]
          by_cases h10 : i < 10
          · rw [if_pos (by omega), if_pos (by simp [onceP]; omega), show s.extract (1 + i * 4) (1 + (i + 1) * 4) = part4 s i from rfl, onceP_lo s i h10, pathP_lo s i h10]
          · rw [if_neg (by omega), if_pos (by simp [pathP]; omega), show s.extract (1 + i * 4) (1 + (i + 1) * 4) = part4 s i from rfl, pathP_hi s i (by omega), onceP_hi s i (by omega)]
        · refine Ev.step (f := fun _ => some (bt s 0, onceP s 12, pathP s 12, true)) (fun k => ?_) (Ev.now _)
          simp only [spec_ReadSig.l0]
          rw [if_neg (by omega)]
    · rw [if_neg (fun h => h4 h.2), decide_eq_true (by omega)]
      exact bad
  · rw [if_neg (fun h => hs h.1)]
    exact Ev.neg (by omega) bad
theorem impl_ReadSig_ev (s : ByteArray) : Ev (fun k => impl_ReadSig.f k s) (readSigR s) := by
  have bad : Ev (fun k => impl_ReadSig.j0 k s true) ((0 : Int), ([] : List ByteArray), ([] : List ByteArray), false) := by
    refine Ev.step (f := fun _ => some (0, [], [], false)) (fun k => ?_) (Ev.now _)
    simp only [impl_ReadSig.j0, if_true]
  have hr := bt_range s 0
  unfold impl_ReadSig.f readSigR
  by_cases hs : s.size = 49
  · refine Ev.pos (by omega) (Ev.pos (by omega) ?_)
    by_cases h4 : bt s 0 < 4
    · rw [if_pos ⟨hs, h4⟩, decide_eq_false (by omega)]
      refine Ev.step (f := fun k => impl_ReadSig.l0 k s 0 (bt s 0) [] []) (fun k => ?_) ?_
      · simp only [impl_ReadSig.j0]
        rw [if_neg (by decide), if_pos (by omega), w64 (by omega) (by omega)]
      · refine Ev.up (g := fun i k => impl_ReadSig.l0 k s (i : Int) (bt s 0) (onceP s i) (pathP s i)) (r := (bt s 0, onceP s 12, pathP s 12, true)) 12 ?_ ?_ 0 (by omega)
        · intro i hi h
          refine Ev.step (fun k => ?_) h
          simp only [impl_ReadSig.l0]
          rw [if_pos (by omega), at4 i (by omega), at4s i (by omega), if_pos (by omega), if_pos (by omega), if_pos (by omega), w64s i (by omega), Int.toNat_natCast, Int.toNat_natCast]
          by_cases h10 : i < 10
          · rw [if_pos (by omega), if_pos (by simp [onceP]; omega), show s.extract (1 + i * 4) (1 + (i + 1) * 4) = part4 s i from rfl, onceP_lo s i h10, pathP_lo s i h10]
          · rw [if_neg (by omega), if_pos (by simp [pathP]; omega), show s.extract (1 + i * 4) (1 + (i + 1) * 4) = part4 s i from rfl, pathP_hi s i (by omega), onceP_hi s i (by omega)]
        · refine Ev.step (f := fun _ => some (bt s 0, onceP s 12, pathP s 12, true)) (fun k => ?_) (Ev.now _)
          simp only [impl_ReadSig.l0]
          rw [if_neg (by omega)]
    · rw [if_neg (fun h => h4 h.2), decide_eq_true (by omega)]
      exact bad
  · rw [if_neg (fun h => hs h.1)]
    exact Ev.neg (by omega) bad
end Go.Proofs.Ytcpgpjggnghpdaa.Pure
