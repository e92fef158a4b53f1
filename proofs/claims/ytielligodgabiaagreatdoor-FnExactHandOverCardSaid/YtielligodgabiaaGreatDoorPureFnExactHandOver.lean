/- The law on HandOver: the program's cipher and secret are the reference's. -/
import Derived.Test.YtielligodgabiaaGreatDoorPx0
import Derived.Test.YtielligodgabiaaGreatDoorV0
import Derived.Test.YtielligodgabiaaGreatDoorHB2
import Derived.Test.YtielligodgabiaaGreatDoorHB3
import Derived.Laws.BitsAllLaws
import Derived.Laws.BitsLemmas
import Derived.Test.YtielligodgabiaaGreatDoorHB4
import Derived.Test.YtielligodgabiaaGreatDoorHB5
import Derived.Test.YtielligodgabiaaGreatDoorHB6
import Derived.Test.YtielligodgabiaaGreatDoorHA2
import Derived.Test.YtielligodgabiaaGreatDoorHA3
import Derived.Test.YtielligodgabiaaGreatDoorHA4
import Derived.Test.YtielligodgabiaaGreatDoorHA5
import Derived.Test.YtielligodgabiaaGreatDoorMW3
import Derived.Test.YtielligodgabiaaGreatDoorPx1
import Derived.Test.YtielligodgabiaaGreatDoorPx2
import Derived.Test.YtielligodgabiaaGreatDoorPx3
import Derived.Test.YtielligodgabiaaGreatDoorPx4
import Derived.Test.YtielligodgabiaaGreatDoorPx5
import Derived.Test.YtielligodgabiaaGreatDoorPx6
import Derived.Test.YtielligodgabiaaGreatDoorPx7
import Derived.Test.YtielligodgabiaaGreatDoorPx8
import Derived.Test.YtielligodgabiaaGreatDoorPx9
import Derived.Test.YtielligodgabiaaGreatDoorPx10
import Derived.Test.YtielligodgabiaaGreatDoorPx11
import Derived.Test.YtielligodgabiaaGreatDoorPx12
import Derived.Test.YtielligodgabiaaGreatDoorPx13
import Derived.Test.YtielligodgabiaaGreatDoorPx14
import Derived.Test.YtielligodgabiaaGreatDoorHB2
import Derived.Test.YtielligodgabiaaGreatDoorHB3
import Derived.Test.YtielligodgabiaaGreatDoorHB1
import Derived.Test.YtielligodgabiaaGreatDoorHB5
import Derived.Test.YtielligodgabiaaGreatDoorHB4
import Derived.Test.YtielligodgabiaaGreatDoorHB6
import Derived.Test.YtielligodgabiaaGreatDoorHA2
import Derived.Test.YtielligodgabiaaGreatDoorHA3
import Derived.Test.YtielligodgabiaaGreatDoorHA1
import Derived.Test.YtielligodgabiaaGreatDoorHA4
import Derived.Test.YtielligodgabiaaGreatDoorHA5
import Derived.Test.YtielligodgabiaaGreatDoorKFnExactHandOver
import Derived.Test.YtielligodgabiaaGreatDoorKFnExactHandOverb
namespace Go.Proofs.YtielligodgabiaaGreatDoor.Pure
open Go.RowKit YtielligodgabiaaGreatDoorW.PrintWords YtielligodgabiaaGreatDoorW.PrintLast YtielligodgabiaaGreatDoorW.PrintMore YtielligodgabiaaGreatDoor.P

theorem ml (P m : ByteArray) (hP : P.size ≤ 1048576) (hm : m.size ≤ 1048576) : ∃ (A B : ByteArray) (b : Bool), Ev (fun k => cx.f k P m) (A, B, b) ∧ Ev (fun k => cz.f k P m) (A, B, b) := by
  have one : ∀ (d : ByteArray) (x : UInt8), (d ++ (⟨#[x]⟩ : ByteArray)).size = d.size + 1 := fun d x => by rw [ByteArray.size_append]; rfl
  obtain ⟨h, h32, s1, i1⟩ := hH P (by omega)
  have hz : (m ++ h).size = m.size + 32 := by rw [ByteArray.size_append, h32]
  obtain ⟨c, c32, s2, i2⟩ := hH ((m ++ h) ++ (⟨#[99]⟩ : ByteArray)) (by rw [one]; omega)
  obtain ⟨q, q32, s3, i3⟩ := hH ((m ++ h) ++ (⟨#[107]⟩ : ByteArray)) (by rw [one]; omega)
  obtain ⟨⟨C, ok⟩, e1, e2⟩ := mU P m c
  cases ok with
  | true =>
    refine ⟨C, q, true, ?_, ?_⟩
    · unfold cx.f
      exact Ev.bind s1 (Ev.pos (by omega) (Ev.pos (by omega) (Ev.bind s2 (Ev.bind e1 (Ev.pos rfl (Ev.bind s3 (Ev.now _)))))))
    · unfold cz.f
      exact Ev.then i1 (Ev.pos (by omega) (Ev.pos (by omega) (Ev.then i2 (Ev.bind e2 (Ev.pos rfl (Ev.then i3 (Ev.now _)))))))
  | false =>
    refine ⟨(⟨#[]⟩ : ByteArray), (⟨#[]⟩ : ByteArray), false, ?_, ?_⟩
    · unfold cx.f
      exact Ev.bind s1 (Ev.pos (by omega) (Ev.pos (by omega) (Ev.bind s2 (Ev.bind e1 (Ev.neg (by simp) (Ev.now _))))))
    · unfold cz.f
      exact Ev.then i1 (Ev.pos (by omega) (Ev.pos (by omega) (Ev.then i2 (Ev.bind e2 (Ev.neg (by simp) (Ev.now _))))))
theorem FnExactHandOver : bq.Pure := by
  intro s m _ _
  refine Ev.rounds ?_
  unfold bq.f
  by_cases h : (s.size : Int) > 1048576
  · exact Ev.pos h (Ev.now _)
  by_cases h2 : (m.size : Int) > 1048576
  · exact Ev.neg h (Ev.pos h2 (Ev.now _))
  obtain ⟨A, B, b, e1, e2⟩ := ml s m (by omega) (by omega)
  exact Ev.neg h (Ev.neg h2 (Ev.bind e1 (Ev.bind e2 (Ev.pos rfl (Ev.pos rfl (Ev.neg (by simp) (Ev.now _)))))))
end Go.Proofs.YtielligodgabiaaGreatDoor.Pure
