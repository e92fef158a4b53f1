/- Signatures of trees of trees: copies of them, how much they hold, their index and their bytes. -/
import Derived.Test.YtcpgpjggnghpdaaML
import Derived.Test.YtcpgpjggnghpdaaPx46
import Derived.Test.YtcpgpjggnghpdaaPx48
import Derived.Test.YtcpgpjggnghpdaaPx51
import Derived.Test.YtcpgpjggnghpdaaPx54
import Derived.Test.YtcpgpjggnghpdaaPx57
import Derived.Test.YtcpgpjggnghpdaaPx81
import Derived.Test.YtcpgpjggnghpdaaPx84
namespace Go.Proofs.Ytcpgpjggnghpdaa.Pure
open Go.RowKit Go.Proofs.YtcpgpjggnghpdaaW.PrintWords Go.Proofs.YtcpgpjggnghpdaaW.PrintLast Go.Proofs.YtcpgpjggnghpdaaW.PrintMore Go.Proofs.Ytcpgpjggnghpdaa.P

theorem szHyper_ev (x : Int) (a b : List ByteArray) (s : ByteArray) (y : Int) (c d : List ByteArray) (ha : a.length ≤ 9223372036854775807) (hb : b.length ≤ 9223372036854775807) (hsa : ∀ s ∈ a, s.size ≤ 9223372036854775807) (hsb : ∀ s ∈ b, s.size ≤ 9223372036854775807)
    (hs : s.size ≤ 9223372036854775807) (hc : c.length ≤ 9223372036854775807) (hd : d.length ≤ 9223372036854775807) (hsc : ∀ s ∈ c, s.size ≤ 9223372036854775807) (hsd : ∀ s ∈ d, s.size ≤ 9223372036854775807) :
    ∃ r, Ev (fun k => laws_szHyper.f k x a b s y c d 1048576) r ∧ (r < 0 ∨ (0 ≤ r ∧ a.length ≤ 1048576 ∧ b.length ≤ 1048576 ∧ s.size ≤ 1048576 ∧ c.length ≤ 1048576 ∧ d.length ≤ 1048576)) := by
  obtain ⟨r, hr, hp⟩ := szSig_ev x a b 1048576 (by omega) (by omega) ha hb hsa hsb
  unfold laws_szHyper.f
  rcases hp with hp | ⟨p0, p1, p2, p3, _, _⟩
  · exact ⟨-1, Ev.bind hr (Ev.pos hp (Ev.now _)), .inl (by omega)⟩
  · have p0' : ¬ r < 0 := by omega
    have e : wrap64 (r - (s.size : Int)) = r - s.size := w64 (by omega) (by omega)
    by_cases hn : wrap64 (r - (s.size : Int)) < 0
    · exact ⟨-1, Ev.bind hr (Ev.neg p0' (Ev.pos hn (Ev.now _))), .inl (by decide)⟩
    · have hn2 : 0 ≤ wrap64 (r - (s.size : Int)) := Int.not_lt.mp hn
      obtain ⟨q, hq, hp2⟩ := szSig_ev y c d (wrap64 (r - (s.size : Int))) hn2 (by rw [e]; clear e hn hn2; omega) hc hd hsc hsd
      rw [e] at hn2 hp2
      clear e
      rcases hp2 with hp2 | ⟨q0, q1, q2, q3, _, _⟩
      · exact ⟨-1, Ev.bind hr (Ev.neg p0' (Ev.neg hn (Ev.bind hq (Ev.pos hp2 (Ev.now _))))), .inl (by omega)⟩
      · have q0' : ¬ q < 0 := by omega
        exact ⟨q, Ev.bind hr (Ev.neg p0' (Ev.neg hn (Ev.bind hq (Ev.neg q0' (Ev.now _))))), .inr ⟨q0, p2, p3, by omega, q2, q3⟩⟩
theorem toHyper_ev (x : Int) (a b : List ByteArray) (s : ByteArray) (y : Int) (c d : List ByteArray) (ha : a.length ≤ 17592186044416) (hb : b.length ≤ 17592186044416) (hc : c.length ≤ 17592186044416) (hd : d.length ≤ 17592186044416) :
    Ev (fun k => laws_toHyper.f k x a b s y c d) (x, a, b, s, y, c, d) := by
  unfold laws_toHyper.f
  exact Ev.bind (toSig_ev x a b ha hb) (Ev.bind (toSig_ev y c d hc hd) (Ev.now _))
theorem eqHyper_refl (x : Int) (a b : List ByteArray) (s : ByteArray) (y : Int) (c d : List ByteArray) (ha : a.length ≤ 17592186044416) (hb : b.length ≤ 17592186044416) (hc : c.length ≤ 17592186044416) (hd : d.length ≤ 17592186044416) :
    Ev (fun k => laws_eqHyper.f k x a b s y c d x a b s y c d) true := by
  unfold laws_eqHyper.f
  exact Ev.bind (eqSig_refl x a b (by omega) (by omega)) (Ev.pos rfl (Ev.pos rfl (Ev.bind (eqSig_refl y c d (by omega) (by omega)) (Ev.pos rfl (Ev.now _)))))
def hyperIndexR (x : Int) (a b : List ByteArray) (y : Int) (c d : List ByteArray) : Int := if sigOk x a b = true then if sigOk y c d = true then 4 * x + y else -1 else -1
theorem spec_HyperIndex_ev (x : Int) (a b : List ByteArray) (s : ByteArray) (y : Int) (c d : List ByteArray) : Ev (fun k => spec_HyperIndex.f k x a b s y c d) (hyperIndexR x a b y c d) := by
  unfold spec_HyperIndex.f hyperIndexR
  refine Ev.bind (spec_SigOk_ev x a b) ?_
  by_cases h : sigOk x a b = true
  · rw [if_pos h]
    refine Ev.pos h (Ev.bind (spec_SigOk_ev y c d) ?_)
    by_cases h2 : sigOk y c d = true
    · have hx := (sigOk_all h).1
      have hy := (sigOk_all h2).1
      have e : wrap64 (wrap64 (4 * x) + y) = 4 * x + y := by rw [w64 (x := 4 * x) (by omega) (by omega), w64 (by omega) (by omega)]
      rw [e]
      simpa only [if_pos h2] using Ev.now (4 * x + y)
    · simpa only [if_neg h2] using Ev.now (-1 : Int)
  · rw [if_neg h]
    exact Ev.neg h (Ev.now _)
theorem impl_HyperIndex_ev (x : Int) (a b : List ByteArray) (s : ByteArray) (y : Int) (c d : List ByteArray) (ha : a.length ≤ 35184372088832) (hb : b.length ≤ 35184372088832) (hc : c.length ≤ 35184372088832) (hd : d.length ≤ 35184372088832) :
    Ev (fun k => impl_HyperIndex.f k x a b s y c d) (hyperIndexR x a b y c d) := by
  unfold impl_HyperIndex.f hyperIndexR
  refine Ev.bind (impl_SigOk_ev x a b ha hb) ?_
  by_cases h : sigOk x a b = true
  · rw [if_pos h]
    refine Ev.pos h (Ev.bind (impl_SigOk_ev y c d hc hd) ?_)
    by_cases h2 : sigOk y c d = true
    · have hx := (sigOk_all h).1
      have hy := (sigOk_all h2).1
      have e : wrap64 (wrap64 (4 * x) + y) = 4 * x + y := by rw [w64 (x := 4 * x) (by omega) (by omega), w64 (by omega) (by omega)]
      rw [e]
      simpa only [if_pos h2] using Ev.now (4 * x + y)
    · simpa only [if_neg h2] using Ev.now (-1 : Int)
  · rw [if_neg h]
    exact Ev.neg h (Ev.now _)
theorem sigTextR_ok {x : Int} {a b : List ByteArray} (h : sigOk x a b = true) : (sigTextR x a b).2 = true ∧ (sigTextR x a b).1.size = 49 := by
  obtain ⟨_, ha, ha4, hb, hb4⟩ := sigOk_all h
  unfold sigTextR
  rw [if_pos h]
  refine ⟨rfl, ?_⟩
  show (catL (catL (byteV x) a) b).size = 49
  rw [catL_size _ b 4 hb4, catL_size _ a 4 ha4, byteV_size, ha, hb]
theorem sigTextR_no {x : Int} {a b : List ByteArray} (h : ¬ sigOk x a b = true) : (sigTextR x a b).2 = false := by
  unfold sigTextR
  rw [if_neg h]
def hyperTextR (x : Int) (a b : List ByteArray) (s : ByteArray) (y : Int) (c d : List ByteArray) : ByteArray × Bool :=
  if (sigTextR x a b).2 = true then if (sigTextR y c d).2 = true then if (s.size : Int) = 4 then (((sigTextR x a b).1 ++ s) ++ (sigTextR y c d).1, true) else (⟨#[]⟩, false) else (⟨#[]⟩, false) else (⟨#[]⟩, false)
theorem sigTextR_size {x : Int} {a b : List ByteArray} (h : (sigTextR x a b).2 = true) : (sigTextR x a b).1.size = 49 := by
  by_cases h2 : sigOk x a b = true
  · exact (sigTextR_ok h2).2
  · rw [sigTextR_no h2] at h
    exact absurd h (by decide)
theorem hyper_join (A B : ByteArray × Bool) (s : ByteArray) (hA : A.2 = true → A.1.size = 49) (hB : B.2 = true → B.1.size = 49) :
    (if A.2 = true then (if B.2 = true then (if (s.size : Int) = 4 then (if A.1.size + s.size ≤ 9223372036854775807 then (if (A.1 ++ s).size + B.1.size ≤ 9223372036854775807 then (some ((A.1 ++ s) ++ B.1, true)) else (none)) else (none)) else (some ((⟨#[]⟩ : ByteArray), false))) else (some ((⟨#[]⟩ : ByteArray), false))) else (some ((⟨#[]⟩ : ByteArray), false))) =
    some (if A.2 = true then if B.2 = true then if (s.size : Int) = 4 then ((A.1 ++ s) ++ B.1, true) else (⟨#[]⟩, false) else (⟨#[]⟩, false) else (⟨#[]⟩, false)) := by
  by_cases p : A.2 = true
  · rw [if_pos p, if_pos p]
    by_cases q : B.2 = true
    · rw [if_pos q, if_pos q]
      by_cases r : (s.size : Int) = 4
      · have e1 := hA p
        have e2 := hB q
        rw [if_pos r, if_pos r, if_pos (by omega), if_pos (by rw [ByteArray.size_append]; omega)]
      · rw [if_neg r, if_neg r]
    · rw [if_neg q, if_neg q]
  · rw [if_neg p, if_neg p]
theorem spec_HyperText_ev (x : Int) (a b : List ByteArray) (s : ByteArray) (y : Int) (c d : List ByteArray) (h1 : -9223372036854775808 ≤ x) (h2 : x ≤ 9223372036854775807) (h3 : -9223372036854775808 ≤ y) (h4 : y ≤ 9223372036854775807) :
    Ev (fun k => spec_HyperText.f k x a b s y c d) (hyperTextR x a b s y c d) := by
  unfold spec_HyperText.f hyperTextR
  exact Ev.bind (spec_SigText_ev x a b h1 h2) (Ev.bind (spec_SigText_ev y c d h3 h4) (Ev.const (hyper_join _ _ s sigTextR_size sigTextR_size)))
theorem impl_HyperText_ev (x : Int) (a b : List ByteArray) (s : ByteArray) (y : Int) (c d : List ByteArray) (ha : a.length ≤ 35184372088832) (hb : b.length ≤ 35184372088832) (hc : c.length ≤ 35184372088832) (hd : d.length ≤ 35184372088832) :
    Ev (fun k => impl_HyperText.f k x a b s y c d) (hyperTextR x a b s y c d) := by
  unfold impl_HyperText.f hyperTextR
  exact Ev.bind (impl_SigText_ev x a b ha hb) (Ev.bind (impl_SigText_ev y c d hc hd) (Ev.const (hyper_join _ _ s sigTextR_size sigTextR_size)))
end Go.Proofs.Ytcpgpjggnghpdaa.Pure
