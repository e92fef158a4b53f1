/- The law on TakeOver: the program's secret is the reference's. -/
import Derived.Test.YtooanbpkknlmjaaGreatDoorKFnExactTakeOverb
namespace Go.Proofs.YtooanbpkknlmjaaGreatDoor.Pure
open Go.RowKit YtooanbpkknlmjaaGreatDoorW.PrintWords YtooanbpkknlmjaaGreatDoorW.PrintLast YtooanbpkknlmjaaGreatDoorW.PrintMore YtooanbpkknlmjaaGreatDoor.P

theorem mF (P m : ByteArray) (hP : P.size ≤ 1048576) (hm : m.size ≤ 1048576) : ∃ (A B : ByteArray) (b : Bool), Ev (fun k => cu.f k P m) (A, B, b) ∧ Ev (fun k => cv.f k P m) (A, B, b) := by
 have one : ∀ (d : ByteArray) (x : UInt8), (d ++ (⟨#[x]⟩ : ByteArray)).size = d.size + 1 := fun d x => by rw [ByteArray.size_append]; rfl
 obtain ⟨h, h32, s1, i1⟩ := gy P (by omega)
 have hz : (m ++ h).size = m.size + 32 := by rw [ByteArray.size_append, h32]
 obtain ⟨c, c32, s2, i2⟩ := gy ((m ++ h) ++ (⟨#[99]⟩ : ByteArray)) (by rw [one]; omega)
 obtain ⟨q, q32, s3, i3⟩ := gy ((m ++ h) ++ (⟨#[107]⟩ : ByteArray)) (by rw [one]; omega)
 obtain ⟨⟨C, ok⟩, e1, e2⟩ := nT P m c
 cases ok with
 | true =>
  refine ⟨C, q, true, ?_, ?_⟩
  ·unfold cu.f
   exact Ev.bind s1 (Ev.pos (by omega) (Ev.pos (by omega) (Ev.bind s2 (Ev.bind e1 (Ev.pos rfl (Ev.bind s3 (Ev.now _)))))))
  ·unfold cv.f
   exact Ev.then i1 (Ev.pos (by omega) (Ev.pos (by omega) (Ev.then i2 (Ev.bind e2 (Ev.pos rfl (Ev.then i3 (Ev.now _)))))))
 | false =>
  refine ⟨(⟨#[]⟩ : ByteArray), (⟨#[]⟩ : ByteArray), false, ?_, ?_⟩
  ·unfold cu.f
   exact Ev.bind s1 (Ev.pos (by omega) (Ev.pos (by omega) (Ev.bind s2 (Ev.bind e1 (Ev.neg (by simp) (Ev.now _))))))
  ·unfold cv.f
   exact Ev.then i1 (Ev.pos (by omega) (Ev.pos (by omega) (Ev.then i2 (Ev.bind e2 (Ev.neg (by simp) (Ev.now _))))))
theorem nK (s c : ByteArray) : ∃ (m : ByteArray) (b : Bool), m.size ≤ 10000 ∧ Ev (fun k => cB.f k s c) (m, b) ∧ Ev (fun k => cA.f k s c) (m, b) := by
 obtain ⟨R, hR, so, io⟩ := pZ s c
 unfold cB.f cA.f
 by_cases h : R.2 = true
 ·exact ⟨fl 1 (sqV R.1 1), true, gA 1 R.1 (by decide) hR, Ev.bind so (Ev.pos h (Ev.bind (eo R.1 1 (by decide) (by decide) hR) (Ev.now _))), Ev.bind io (Ev.pos h (Ev.bind (eY R.1 1 hR) (Ev.bind (eN R.1 1 (by decide) (by decide) hR) (Ev.now _))))⟩
 ·exact ⟨⟨#[]⟩, false, by decide, Ev.bind so (Ev.neg h (Ev.now _)), Ev.bind io (Ev.neg h (Ev.now _))⟩
theorem m4 (S C : ByteArray) (hC : C.size ≤ 1048576) : ∃ (A : ByteArray) (b : Bool), Ev (fun k => ck.f k S C) (A, b) ∧ Ev (fun k => cm.f k S C) (A, b) := by
 by_cases hs : (S.size : Int) = 1632
 rotate_left
 ·have so : Ev (fun k => aV.f k S C) ([], false) := by
   unfold aV.f
   exact Ev.neg hs (Ev.step (f := fun _ => some _) (fun k => by simp only [aV.j0]; rw [Da trivial]) (Ev.now _))
  have io : Ev (fun k => bb.f k S C) ([], false) := by
   unfold bb.f
   exact Ev.neg hs (Ev.step (f := fun _ => some _) (fun k => by simp only [bb.j0]; rw [Da trivial]) (Ev.now _))
  refine ⟨⟨#[]⟩, false, ?_, ?_⟩
  ·unfold ck.f cB.f
   exact Ev.bind (Ev.bind so (Ev.neg (by simp) (Ev.now _))) (Ev.neg (by simp) (Ev.now _))
  ·unfold cm.f cA.f
   exact Ev.bind (Ev.bind io (Ev.neg (by simp) (Ev.now _))) (Ev.neg (by simp) (Ev.now _))
 obtain ⟨m, b, m1, d1, d2⟩ := nK S C
 cases b with
 | false =>
  refine ⟨⟨#[]⟩, false, ?_, ?_⟩
  ·unfold ck.f
   exact Ev.bind d1 (Ev.neg (by simp) (Ev.now _))
  ·unfold cm.f
   exact Ev.bind d2 (Ev.neg (by simp) (Ev.now _))
 | true =>
  have hw : wrap64 ((S.size : Int) - 32) = 1600 := by rw [hs, w64 (by decide) (by decide)]; rfl
  have hx : (S.extract 1600 S.size).size = 32 := by rw [ByteArray.size_extract]; omega
  obtain ⟨A, B, o, h1, h2⟩ := mF (S.extract 768 1568) m (by rw [ByteArray.size_extract]; omega) (by omega)
  obtain ⟨d, d32, g1, g2⟩ := gy (S.extract 1600 S.size ++ C) (by rw [ByteArray.size_append]; omega)
  have fs : ∀ f : Nat → Option (ByteArray × Bool), (f = fun k => (if 0 ≤ (wrap64 ((S.size : Int) - 32)) then (if (wrap64 ((S.size : Int) - 32)) ≤ (S.size : Int) then (if (S.extract ((wrap64 ((S.size : Int) - 32)) : Int).toNat S.size).size + C.size ≤ 9223372036854775807 then ((bQ.f k ((S.extract ((wrap64 ((S.size : Int) - 32)) : Int).toNat S.size) ++ C)).bind fun t617 => (some (t617, true))) else (none)) else (none)) else (none))) → Ev f (d, true) := by
   intro f hf
   subst hf
   rw [hw]
   exact Ev.pos (by decide) (Ev.pos (by omega) (Ev.pos (by show (S.extract 1600 S.size).size + C.size ≤ _; omega) (Ev.bind g1 (Ev.now _))))
  by_cases ho : o = true
  ·by_cases hA : A.toList = C.toList
   ·refine ⟨B, true, ?_, ?_⟩
    ·unfold ck.f
     exact Ev.bind d1 (Ev.pos rfl (Ev.pos (by decide) (Ev.pos (by omega) (Ev.bind h1 (Ev.pos ho (Ev.pos hA (Ev.now _)))))))
    ·unfold cm.f
     exact Ev.bind d2 (Ev.pos rfl (Ev.pos (by decide) (Ev.pos (by omega) (Ev.bind h2 (Ev.pos ho (Ev.pos hA (Ev.now _)))))))
   ·refine ⟨d, true, ?_, ?_⟩
    ·unfold ck.f
     exact Ev.bind d1 (Ev.pos rfl (Ev.pos (by decide) (Ev.pos (by omega) (Ev.bind h1 (Ev.pos ho (Ev.neg hA (fs _ rfl)))))))
    ·unfold cm.f
     exact Ev.bind d2 (Ev.pos rfl (Ev.pos (by decide) (Ev.pos (by omega) (Ev.bind h2 (Ev.pos ho (Ev.neg hA (Ev.pos (by omega) (Ev.pos (by omega) (Ev.then g2 (Ev.now _))))))))))
  ·refine ⟨d, true, ?_, ?_⟩
   ·unfold ck.f
    exact Ev.bind d1 (Ev.pos rfl (Ev.pos (by decide) (Ev.pos (by omega) (Ev.bind h1 (Ev.neg ho (fs _ rfl))))))
   ·unfold cm.f
    exact Ev.bind d2 (Ev.pos rfl (Ev.pos (by decide) (Ev.pos (by omega) (Ev.bind h2 (Ev.neg ho (Ev.pos (by omega) (Ev.pos (by omega) (Ev.then g2 (Ev.now _)))))))))
theorem FnExactTakeOver : bz.Pure := by
 intro s m _ _
 refine Ev.rounds ?_
 unfold bz.f
 by_cases h : (s.size : Int) > 1048576
 ·exact Ev.pos h (Ev.now _)
 by_cases h2 : (m.size : Int) > 1048576
 ·exact Ev.neg h (Ev.pos h2 (Ev.now _))
 obtain ⟨A, b, e1, e2⟩ := m4 s m (by omega)
 exact Ev.neg h (Ev.neg h2 (Ev.bind e1 (Ev.bind e2 (Ev.pos rfl (Ev.neg (by simp) (Ev.now _))))))
end Go.Proofs.YtooanbpkknlmjaaGreatDoor.Pure
