/- The transform InvNtt, of the program and of the reference, whole. -/
import Derived.Test.YtcpgpjggnghpdaaMP6
import Derived.Test.YtcpgpjggnghpdaaPx28
import Derived.Test.YtcpgpjggnghpdaaPx32
import Derived.Test.YtcpgpjggnghpdaaPx77
namespace Go.Proofs.Ytcpgpjggnghpdaa.Pure
open Go.RowKit Go.Proofs.YtcpgpjggnghpdaaW.PrintWords Go.Proofs.YtcpgpjggnghpdaaW.PrintLast Go.Proofs.YtcpgpjggnghpdaaW.PrintMore Go.Proofs.Ytcpgpjggnghpdaa.P

def fin3 (f : Nat → Int) (i : Nat) : Nat → Int := fun n => if n < i then f n * 3303 % 3329 else f n
theorem fin3_0 (f : Nat → Int) : fin3 f 0 = f := rfl
theorem fin3_all (f : Nat → Int) : vec (fin3 f 256) = vec fun n => f n * 3303 % 3329 := vec_congr fun _ hn => if_pos hn
theorem fin3_step (f : Nat → Int) (i : Nat) : (vec (fin3 f i)).set i (f i * 3303 % 3329) = vec (fin3 f (i + 1)) := by
  rw [vec_set]
  refine vec_congr fun n _ => ?_
  unfold fin3
  by_cases e : n = i
  · subst e; rw [if_pos rfl, if_pos (by omega)]
  · rw [if_neg e]
    by_cases h : n < i
    · rw [if_pos h, if_pos (by omega)]
    · rw [if_neg h, if_neg (by omega)]
theorem impl_InvNtt_l3 (f : Nat → Int) (hf : ∀ i, 0 ≤ f i ∧ f i ≤ 3328) : Ev (fun k => impl_InvNtt.l3 k (vec f) ((256 : Nat) : Int) 0) (vec fun n => f n * 3303 % 3329) := by
  have e0 : vec f = vec (fin3 f 0) := by rw [fin3_0]
  rw [e0]
  refine Ev.up (g := fun i k => impl_InvNtt.l3 k (vec (fin3 f i)) ((256 : Nat) : Int) (i : Int)) 256 ?_ ?_ 0 (by omega)
  · intro i hi h
    refine Ev.step (fun k => ?_) h
    have hb := hf i
    have ei : fin3 f i i = f i := if_neg (Nat.lt_irrefl _)
    simp only [impl_InvNtt.l3]
    rw [if_pos (by omega), if_pos (by omega), if_pos (by rw [vec_length]; omega), vec_rd _ _ hi, ei, w64 (x := f i * 3303) (by omega) (by omega), modQ_eq _ (by omega) (by omega), Option.bind_some, Int.toNat_natCast, fin3_step, w64s i (by omega)]
  · refine Ev.step (f := fun _ => some (vec (fin3 f 256))) (fun k => ?_) ?_
    · simp only [impl_InvNtt.l3]
      rw [if_neg (by omega)]
    · rw [fin3_all]; exact Ev.now _
theorem spec_InvNtt_l3 (f : Nat → Int) (hf : ∀ i, 0 ≤ f i ∧ f i ≤ 3328) : Ev (fun k => spec_InvNtt.l3 k (vec f) 0) (vec fun n => f n * 3303 % 3329) := by
  have e0 : vec f = vec (fin3 f 0) := by rw [fin3_0]
  rw [e0]
  refine Ev.up (g := fun i k => spec_InvNtt.l3 k (vec (fin3 f i)) (i : Int)) 256 ?_ ?_ 0 (by omega)
  · intro i hi h
    refine Ev.step (fun k => ?_) h
    have hb := hf i
    have ei : fin3 f i i = f i := if_neg (Nat.lt_irrefl _)
    simp only [spec_InvNtt.l3]
    rw [if_pos (by omega), if_pos (by omega), if_pos (by rw [vec_length]; omega), vec_rd _ _ hi, ei, w64 (x := f i * 3303) (by omega) (by omega), Int.tmod_eq_emod_of_nonneg (show 0 ≤ f i * 3303 by omega), Int.toNat_natCast, fin3_step, w64s i (by omega)]
  · refine Ev.step (f := fun _ => some (vec (fin3 f 256))) (fun k => ?_) ?_
    · simp only [spec_InvNtt.l3]
      rw [if_neg (by omega)]
    · rw [fin3_all]; exact Ev.now _
theorem impl_InvNtt_ev (f : Nat → Int) (hf : ∀ i, 0 ≤ f i ∧ f i ≤ 3328) : Ev (fun k => impl_InvNtt.f k (vec f)) (vec (invV f)) := by
  have core : Ev (fun k => impl_InvNtt.l0 k (vec f) 127 2) (vec (invV f)) := by
    have i1 := layI_in (s := 2) (m := 64) hf 64
    have i2 := layI_in (s := 4) (m := 32) i1 32
    have i3 := layI_in (s := 8) (m := 16) i2 16
    have i4 := layI_in (s := 16) (m := 8) i3 8
    have i5 := layI_in (s := 32) (m := 4) i4 4
    have i6 := layI_in (s := 64) (m := 2) i5 2
    have i7 := layI_in (s := 128) (m := 1) i6 1
    refine impl_InvNtt_lay 2 64 (by decide) (by decide) (by decide) f hf ?_
    refine impl_InvNtt_lay 4 32 (by decide) (by decide) (by decide) _ i1 ?_
    refine impl_InvNtt_lay 8 16 (by decide) (by decide) (by decide) _ i2 ?_
    refine impl_InvNtt_lay 16 8 (by decide) (by decide) (by decide) _ i3 ?_
    refine impl_InvNtt_lay 32 4 (by decide) (by decide) (by decide) _ i4 ?_
    refine impl_InvNtt_lay 64 2 (by decide) (by decide) (by decide) _ i5 ?_
    refine impl_InvNtt_lay 128 1 (by decide) (by decide) (by decide) _ i6 ?_
    refine Ev.step (fun k => ?_) (impl_InvNtt_l3 _ i7)
    simp only [impl_InvNtt.l0]
    rw [if_neg (by decide), vec_length]
  unfold impl_InvNtt.f
  have ok := vec_ok (f := f) fun i _ => hf i
  have ln := vec_length f
  refine Ev.bind (ok ▸ impl_PolyOk_ev (vec f) (by omega)) (Ev.pos rfl ?_)
  refine Ev.then (a := vec f) ?_ core
  unfold impl_copyInts.f
  rw [if_pos (by rw [ln]; decide), List.nil_append]

theorem spec_InvNtt_ev (f : Nat → Int) (hf : ∀ i, 0 ≤ f i ∧ f i ≤ 3328) : Ev (fun k => spec_InvNtt.f k (vec f)) (vec (invV f)) := by
  have core : Ev (fun k => spec_InvNtt.l0 k (vec f) 127 2) (vec (invV f)) := by
    have i1 := layI_in (s := 2) (m := 64) hf 64
    have i2 := layI_in (s := 4) (m := 32) i1 32
    have i3 := layI_in (s := 8) (m := 16) i2 16
    have i4 := layI_in (s := 16) (m := 8) i3 8
    have i5 := layI_in (s := 32) (m := 4) i4 4
    have i6 := layI_in (s := 64) (m := 2) i5 2
    have i7 := layI_in (s := 128) (m := 1) i6 1
    refine spec_InvNtt_lay 2 64 (by decide) (by decide) (by decide) f hf ?_
    refine spec_InvNtt_lay 4 32 (by decide) (by decide) (by decide) _ i1 ?_
    refine spec_InvNtt_lay 8 16 (by decide) (by decide) (by decide) _ i2 ?_
    refine spec_InvNtt_lay 16 8 (by decide) (by decide) (by decide) _ i3 ?_
    refine spec_InvNtt_lay 32 4 (by decide) (by decide) (by decide) _ i4 ?_
    refine spec_InvNtt_lay 64 2 (by decide) (by decide) (by decide) _ i5 ?_
    refine spec_InvNtt_lay 128 1 (by decide) (by decide) (by decide) _ i6 ?_
    refine Ev.step (fun k => ?_) (spec_InvNtt_l3 _ i7)
    simp only [spec_InvNtt.l0]
    rw [if_neg (by decide)]
  unfold spec_InvNtt.f
  have ok := vec_ok (f := f) fun i _ => hf i
  have ln := vec_length f
  refine Ev.bind (ok ▸ spec_PolyOk_ev (vec f)) (Ev.pos rfl ?_)
  simp only [Option.bind_some]
  refine Ev.pos (by rw [ln]; decide) ?_
  rw [List.nil_append]
  exact core
end Go.Proofs.Ytcpgpjggnghpdaa.Pure
