/- PolyFrom, of the program and of the reference. -/
import Derived.Test.YtcpgpjggnghpdaaMD
import Derived.Test.YtcpgpjggnghpdaaPx19
import Derived.Test.YtcpgpjggnghpdaaPx24
namespace Go.Proofs.Ytcpgpjggnghpdaa.Pure
open Go.RowKit Go.Proofs.YtcpgpjggnghpdaaW.PrintWords Go.Proofs.YtcpgpjggnghpdaaW.PrintLast Go.Proofs.YtcpgpjggnghpdaaW.PrintMore Go.Proofs.Ytcpgpjggnghpdaa.P

def polyBytesV (l : List Int) : ByteArray := if polyOk l = true then packV 12 l else ⟨#[]⟩
def polyFromR (s : ByteArray) : List Int × Bool := if (unpackR s 12 256).2 = true ∧ polyOk (unpackR s 12 256).1 = true then ((unpackR s 12 256).1, true) else ([], false)

theorem polyOk_fits {l : List Int} (h : polyOk l = true) : l.all (fitsB 12) = true := by
  rw [List.all_eq_true]
  intro x hx
  have := polyOk_mem h hx
  exact decide_eq_true ⟨this.1, by omega⟩
theorem packR_poly {l : List Int} (h : polyOk l = true) : packR l 12 = (packV 12 l, true) := by
  unfold packR
  rw [if_pos ⟨by omega, polyOk_fits h⟩]
  rfl
theorem unpackR_len (s : ByteArray) (b n : Int) : (unpackR s b n).1.length ≤ 1000 := by
  unfold unpackR
  split
  · split
    · rw [pieces_length]; omega
    · simp
  · simp
theorem polyFromR_len (s : ByteArray) : (polyFromR s).1.length ≤ 1000 := by
  have := unpackR_len s 12 256
  unfold polyFromR
  split
  · exact this
  · simp
theorem spec_PolyFrom_ev (s : ByteArray) : Ev (fun k => spec_PolyFrom.f k s) (polyFromR s) := by
  unfold spec_PolyFrom.f polyFromR
  refine Ev.bind (spec_Unpack_ev s 12 256) ?_
  by_cases h : (unpackR s 12 256).2 = true
  · refine Ev.pos h (Ev.bind (spec_PolyOk_ev _) ?_)
    by_cases h2 : polyOk (unpackR s 12 256).1 = true
    · refine Ev.pos h2 ?_
      rw [if_pos ⟨h, h2⟩]; exact Ev.now _
    · refine Ev.neg h2 ?_
      rw [if_neg (fun h3 => h2 h3.2)]; exact Ev.now _
  · rw [if_neg (fun h3 => h h3.1)]
    exact Ev.neg h (Ev.now _)
theorem impl_PolyFrom_ev (s : ByteArray) : Ev (fun k => impl_PolyFrom.f k s) (polyFromR s) := by
  unfold impl_PolyFrom.f polyFromR
  refine Ev.bind (impl_Unpack_ev s 12 256) ?_
  by_cases h : (unpackR s 12 256).2 = true
  · refine Ev.pos h (Ev.bind (impl_PolyOk_ev _ (by have := unpackR_len s 12 256; omega)) ?_)
    by_cases h2 : polyOk (unpackR s 12 256).1 = true
    · refine Ev.pos h2 ?_
      rw [if_pos ⟨h, h2⟩]; exact Ev.now _
    · refine Ev.neg h2 ?_
      rw [if_neg (fun h3 => h2 h3.2)]; exact Ev.now _
  · rw [if_neg (fun h3 => h h3.1)]
    exact Ev.neg h (Ev.now _)
end Go.Proofs.Ytcpgpjggnghpdaa.Pure
