/- PolyAdd and PolySub, of the program, of right polynomials. -/
import Derived.Test.YtcpgpjggnghpdaaMV
import Derived.Test.YtcpgpjggnghpdaaPx9
import Derived.Test.YtcpgpjggnghpdaaPx10
import Derived.Test.YtcpgpjggnghpdaaPx11
import Derived.Test.YtcpgpjggnghpdaaPx13
namespace Go.Proofs.Ytcpgpjggnghpdaa.Pure
open Go.RowKit Go.Proofs.YtcpgpjggnghpdaaW.PrintWords Go.Proofs.YtcpgpjggnghpdaaW.PrintLast Go.Proofs.YtcpgpjggnghpdaaW.PrintMore Go.Proofs.Ytcpgpjggnghpdaa.P

theorem impl_PolySub_ev (a b : Nat → Int) (ha : ∀ i, 0 ≤ a i ∧ a i ≤ 3328) (hb : ∀ i, 0 ≤ b i ∧ b i ≤ 3328) : Ev (fun k => impl_PolySub.f k (vec a) (vec b)) (vec fun i => (a i - b i) % 3329) := by
  have key : Ev (fun k => impl_each_PolySub_1.f k (vec a) (vec b)) (vec fun i => (a i - b i) % 3329) := by
    unfold impl_each_PolySub_1.f
    have oka := vec_ok (f := a) fun i _ => ha i
    have okb := vec_ok (f := b) fun i _ => hb i
    have la := vec_length a
    have lb := vec_length b
    refine Ev.bind (oka ▸ impl_PolyOk_ev (vec a) (by omega)) (Ev.pos rfl (Ev.bind (okb ▸ impl_PolyOk_ev (vec b) (by omega)) ?_))
    refine Ev.step (f := fun k => impl_each_PolySub_1.l0 k (vec a) (vec b) (List.replicate 256 0) ((256 : Nat) : Int) 0) (fun k => ?_) ?_
    · simp only [impl_each_PolySub_1.j0, Option.bind_some]
      rw [if_neg (by decide), if_pos (by omega), List.length_replicate]
    · rw [vec_replicate]
      have key := Ev.up (g := fun i k => impl_each_PolySub_1.l0 k (vec a) (vec b) (vec fun n => if n < i then (a n - b n) % 3329 else 0) ((256 : Nat) : Int) (i : Int)) (r := vec fun i => (a i - b i) % 3329) 256 ?_ ?_ 0 (by omega)
      · have e : (vec fun _ => (0 : Int)) = vec fun n => if n < 0 then (a n - b n) % 3329 else 0 := vec_congr fun n _ => by rw [if_neg (by omega)]
        rw [e]; exact key
      · intro i hi h
        refine Ev.step (fun k => ?_) h
        have h1 := ha i
        have h2 := hb i
        simp only [impl_each_PolySub_1.l0, impl_PolySub_1.f, Option.bind_some]
        rw [if_pos (by omega), if_pos (by omega), if_pos (by omega), if_pos (by omega), vec_rd a i hi, vec_rd b i hi, w64 (x := a i - b i) (by omega) (by omega), modQ_eq _ (by omega) (by omega), Option.bind_some, if_pos (by rw [vec_length]; omega), Int.toNat_natCast, vec_set, w64s i (by omega)]
        have e : (vec fun n => if n = i then (a i - b i) % 3329 else if n < i then (a n - b n) % 3329 else 0) = vec fun n => if n < i + 1 then (a n - b n) % 3329 else 0 := by
          refine vec_congr fun n _ => ?_
          by_cases h1 : n = i
          · subst h1; rw [if_pos rfl, if_pos (by omega)]
          · rw [if_neg h1]
            by_cases h2 : n < i
            · rw [if_pos h2, if_pos (by omega)]
            · rw [if_neg h2, if_neg (by omega)]
        rw [e]
      · refine Ev.step (f := fun _ => some (vec fun i => (a i - b i) % 3329)) (fun k => ?_) (Ev.now _)
        simp only [impl_each_PolySub_1.l0]
        rw [if_neg (by omega)]
        exact congrArg some (vec_congr fun n hn => if_pos hn)
  unfold impl_PolySub.f
  exact Ev.bind key (Ev.now _)

theorem sameInts_refl (l : List Int) (hl : l.length ≤ 35184372088832) : Ev (fun k => laws_sameInts.f k l l) true := by
  unfold laws_sameInts.f
  refine Ev.pos rfl ?_
  refine Ev.up (g := fun i k => laws_sameInts.l0 k l l (i : Int)) (r := true) l.length ?_ ?_ 0 (by omega)
  · intro i hi h
    refine Ev.step (fun k => ?_) h
    simp only [laws_sameInts.l0]
    rw [if_pos (by omega), if_pos (by omega), if_pos (by omega), if_pos trivial, w64s i (by omega)]
  · refine Ev.step (f := fun _ => some true) (fun k => ?_) (Ev.now _)
    simp only [laws_sameInts.l0]
    rw [if_neg (by omega)]
theorem sameInts_vec {f g : Nat → Int} (h : ∀ i, i < 256 → f i = g i) : Ev (fun k => laws_sameInts.f k (vec f) (vec g)) true := by
  rw [vec_congr h]
  exact sameInts_refl _ (by rw [vec_length]; omega)
end Go.Proofs.Ytcpgpjggnghpdaa.Pure
