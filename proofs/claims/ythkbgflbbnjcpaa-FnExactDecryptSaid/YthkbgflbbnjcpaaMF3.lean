/- Two polynomials of one text: PublicOk, of the program and of the reference. -/
import Derived.Test.YthkbgflbbnjcpaaMPK
import Derived.Test.YthkbgflbbnjcpaaPx1
import Derived.Test.YthkbgflbbnjcpaaPx2
import Derived.Test.YthkbgflbbnjcpaaPx11
namespace Go.Proofs.Ythkbgflbbnjcpaa.Pure
open Go.RowKit Go.Proofs.YthkbgflbbnjcpaaW.PrintWords Go.Proofs.YthkbgflbbnjcpaaW.PrintLast Go.Proofs.YthkbgflbbnjcpaaW.PrintMore Go.Proofs.Ythkbgflbbnjcpaa.P

def two384 (s : ByteArray) : List (List Int) × Bool :=
  if (polyFromR (s.extract 0 384)).2 = true then
    if (polyFromR (s.extract 384 768)).2 = true then ([(polyFromR (s.extract 0 384)).1, (polyFromR (s.extract 384 768)).1], true) else ([], false)
  else ([], false)
theorem w384 (i : Nat) (h : i < 1000) : wrap64 ((i : Int) * 384) = ((i * 384 : Nat) : Int) := by rw [w64 (by omega) (by omega)]; omega
theorem spec_l13Polys_ev (s : ByteArray) (hs : 768 ≤ s.size) : Ev (fun k => spec_l13Polys.f k s) (two384 s) := by
  unfold spec_l13Polys.f two384
  have e0 : wrap64 ((0 : Int) * 384) = 0 := by rw [w64 (by omega) (by omega)]; rfl
  have e2 : wrap64 ((0 : Int) + 1) = 1 := by rw [w64 (by omega) (by omega)]; rfl
  have e3 : wrap64 ((1 : Int) * 384) = 384 := by rw [w64 (by omega) (by omega)]; rfl
  have e5 : wrap64 ((1 : Int) + 1) = 2 := by rw [w64 (by omega) (by omega)]; rfl
  have e4 : wrap64 ((2 : Int) * 384) = 768 := by rw [w64 (by omega) (by omega)]; rfl
  refine Ev.step (f := fun k => (spec_PolyFrom.f k (s.extract 0 384)).bind fun bt => (if bt.2 = true then (spec_l13Polys.l0 k s ([] ++ [bt.1]) 1) else (some ([], false)))) (fun k => ?_) ?_
  · simp only [spec_l13Polys.l0, e0, e2, e3]
    rw [if_pos (by omega), if_pos (by omega), if_pos (by omega), if_pos (by omega)]
    simp only [if_pos (show (([] : List (List Int)).length < 5864062014805) from (by rw [List.length_nil]; omega))]
    rfl
  refine Ev.bind (spec_PolyFrom_ev _) ?_
  by_cases h0 : (polyFromR (s.extract 0 384)).2 = true
  · refine Ev.pos h0 ?_
    rw [if_pos h0]
    refine Ev.step (f := fun k => (spec_PolyFrom.f k (s.extract 384 768)).bind fun bt => (if bt.2 = true then (spec_l13Polys.l0 k s ([(polyFromR (s.extract 0 384)).1] ++ [bt.1]) 2) else (some ([], false)))) (fun k => ?_) ?_
    · simp only [spec_l13Polys.l0, e3, e4, e5]
      rw [if_pos (by omega), if_pos (by omega), if_pos (by omega), if_pos (by omega)]
      rfl
    refine Ev.bind (spec_PolyFrom_ev _) ?_
    by_cases h1 : (polyFromR (s.extract 384 768)).2 = true
    · refine Ev.pos h1 ?_
      rw [if_pos h1]
      refine Ev.step (f := fun k => some ([(polyFromR (s.extract 0 384)).1] ++ [(polyFromR (s.extract 384 768)).1], true)) (fun k => ?_) (Ev.now _)
      simp only [spec_l13Polys.l0]
      rw [if_neg (by omega)]
    · rw [if_neg h1]; exact Ev.neg h1 (Ev.now _)
  · rw [if_neg h0]; exact Ev.neg h0 (Ev.now _)
theorem impl_polysOf_ev (s : ByteArray) (hs : 768 ≤ s.size) : Ev (fun k => impl_polysOf.f k s) (two384 s) := by
  unfold impl_polysOf.f two384
  have e0 : wrap64 ((0 : Int) * 384) = 0 := by rw [w64 (by omega) (by omega)]; rfl
  have e2 : wrap64 ((0 : Int) + 1) = 1 := by rw [w64 (by omega) (by omega)]; rfl
  have e3 : wrap64 ((1 : Int) * 384) = 384 := by rw [w64 (by omega) (by omega)]; rfl
  have e5 : wrap64 ((1 : Int) + 1) = 2 := by rw [w64 (by omega) (by omega)]; rfl
  have e4 : wrap64 ((2 : Int) * 384) = 768 := by rw [w64 (by omega) (by omega)]; rfl
  refine Ev.step (f := fun k => (impl_PolyFrom.f k (s.extract 0 384)).bind fun bt => (if bt.2 = true then (impl_polysOf.l0 k s ([] ++ [bt.1]) 1) else (some ([], false)))) (fun k => ?_) ?_
  · simp only [impl_polysOf.l0, e0, e2, e3]
    rw [if_pos (by omega), if_pos (by omega), if_pos (by omega), if_pos (by omega)]
    simp only [if_pos (show (([] : List (List Int)).length < 5864062014805) from (by rw [List.length_nil]; omega))]
    rfl
  refine Ev.bind (impl_PolyFrom_ev _) ?_
  by_cases h0 : (polyFromR (s.extract 0 384)).2 = true
  · refine Ev.pos h0 ?_
    rw [if_pos h0]
    refine Ev.step (f := fun k => (impl_PolyFrom.f k (s.extract 384 768)).bind fun bt => (if bt.2 = true then (impl_polysOf.l0 k s ([(polyFromR (s.extract 0 384)).1] ++ [bt.1]) 2) else (some ([], false)))) (fun k => ?_) ?_
    · simp only [impl_polysOf.l0, e3, e4, e5]
      rw [if_pos (by omega), if_pos (by omega), if_pos (by omega), if_pos (by omega)]
      rfl
    refine Ev.bind (impl_PolyFrom_ev _) ?_
    by_cases h1 : (polyFromR (s.extract 384 768)).2 = true
    · refine Ev.pos h1 ?_
      rw [if_pos h1]
      refine Ev.step (f := fun k => some ([(polyFromR (s.extract 0 384)).1] ++ [(polyFromR (s.extract 384 768)).1], true)) (fun k => ?_) (Ev.now _)
      simp only [impl_polysOf.l0]
      rw [if_neg (by omega)]
    · rw [if_neg h1]; exact Ev.neg h1 (Ev.now _)
  · rw [if_neg h0]; exact Ev.neg h0 (Ev.now _)
def publicOkV (s : ByteArray) : Bool := if (s.size : Int) = 800 then (two384 s).2 else false
end Go.Proofs.Ythkbgflbbnjcpaa.Pure
