/- The law on bent ciphers: a cipher of a drawn pair with one byte turned gives a secret all the same; a text of another length gives none. -/
import Derived.Test.YtmiackbomcjboaaGreatDoorKFnKemBentb
namespace Go.Proofs.YtmiackbomcjboaaGreatDoor.Pure
open Go.RowKit YtmiackbomcjboaaGreatDoorW.PrintWords YtmiackbomcjboaaGreatDoorW.PrintLast YtmiackbomcjboaaGreatDoorW.PrintMore YtmiackbomcjboaaGreatDoor.P

theorem FnKemBent : ci.Pure := by
 intro l _ _ _
 refine Ev.rounds ?_
 unfold ci.f
 by_cases hb : (l.length : Int) > 1048576
 ·exact Ev.then (a := true) (by unfold ga.f; rw [ya hb]) (Ev.pos rfl (Ev.now _))
 refine Ev.then (a := false) (by unfold ga.f; rw [za hb]) (Ev.neg (by decide) ?_)
 obtain ⟨a, m, a32, m32, e⟩ := oT l (by omega)
 obtain ⟨P, S, u0, u1, v0, v1, hu0, hu1, hv0, hv1, hP, hS, tP, tS, eP, s1⟩ := sf a a32
 obtain ⟨C, K, hC, hK, _, i2⟩ := o3 P m v0 v1 hv0 hv1 hP tP m32
 obtain ⟨ps, e3, hl, hp⟩ := pq l (by omega)
 obtain ⟨B, hB, e4⟩ := pe C ps hC hl hp
 obtain ⟨A, hA, s5, i5⟩ := rQ S B P u0 u1 v0 v1 hu0 hu1 hv0 hv1 hP hS tP tS eP hB
 obtain ⟨X, hX, _, i8⟩ := ly P m m v0 v1 hv0 hv1 hP tP m32 m32
 obtain ⟨w, hw, _, io⟩ := qk S C u0 u1 hu0 hu1 hS tS hC
 have one : ∀ d : ByteArray, (d ++ (⟨#[120]⟩ : ByteArray)).size = d.size + 1 := fun d => by rw [ByteArray.size_append]; rfl
 have i6 := qM S (C ++ (⟨#[120]⟩ : ByteArray)) hS (by rw [one]; omega)
 have i7 := nW P (m ++ (⟨#[120]⟩ : ByteArray)) m v0 v1 hP tP (by rw [one]; omega)
 have i9 := oP S C (⟨#[109]⟩ : ByteArray) w (by decide) io
 refine Ev.bind e (Ev.bind s1 (Ev.bind i2 (Ev.bind e3 (Ev.then e4 (Ev.bind i5 (Ev.bind s5 (Ev.pos (by show C.size + 1 ≤ _; omega) (Ev.bind i6 (Ev.pos (by show m.size + 1 ≤ _; omega) (Ev.bind i7 (Ev.bind i8 ?_)))))))))))
 exact Ev.pos rfl (Ev.pos rfl (Ev.pos rfl (Ev.pos (by show (A.size : Int) = 32; omega) (Ev.neg (by simp) (Ev.neg (by simp) (Ev.pos rfl (Ev.pos (by show (X.size : Int) = (C.size : Int); omega) (Ev.bind i9 (Ev.const rfl)))))))))
end Go.Proofs.YtmiackbomcjboaaGreatDoor.Pure
