/- The law on keys: what is handed over to a drawn pair is opened again, when its error is small; then both find the same secret. -/
import Derived.Test.YtmdlpmddljbkeaaGreatDoorKFnKemb
namespace Go.Proofs.YtmdlpmddljbkeaaGreatDoor.Pure
open Go.RowKit YtmdlpmddljbkeaaGreatDoorW.PrintWords YtmdlpmddljbkeaaGreatDoorW.PrintLast YtmdlpmddljbkeaaGreatDoorW.PrintMore YtmdlpmddljbkeaaGreatDoor.P

theorem p7 (s c w : _) (hw : bW w = true) (io : Ev (fun k => aW.f k s c) (w, true)) : Ev (fun k => ck.f k s c) (d1 1 (sqV w 1), true) := by
 have lw : w.length ≤ 1000 := by have := fo hw; omega
 unfold ck.f
 exact Ev.bind io (Ev.pos rfl (Ev.bind (fy w 1 lw) (Ev.bind (fg w 1 (by decide) (by decide) lw) (Ev.now _))))
theorem ob (S C P m K : ByteArray) (hS : S.size = 1632) (hP : S.extract 768 1568 = P) (d : Ev (fun k => ck.f k S C) (m, true)) (h : Ev (fun k => ci.f k P m) (C, K, true)) : Ev (fun k => cM.f k S C) (K, true) := by
 unfold cM.f
 rw [← hP] at h
 exact Ev.bind d (Ev.pos rfl (Ev.pos (by decide) (Ev.pos (by omega) (Ev.bind h (Ev.pos rfl (Ev.pos rfl (Ev.now _)))))))
theorem FnKem : bv.Pure := by
 intro l _ _ _
 refine Ev.rounds ?_
 unfold bv.f
 by_cases hb : (l.length : Int) > 1048576
 ·exact Ev.then (a := true) (by unfold fW.f; rw [ya hb]) (Ev.pos rfl (Ev.now _))
 refine Ev.then (a := false) (by unfold fW.f; rw [za hb]) (Ev.neg (by decide) ?_)
 obtain ⟨a, m, a32, m32, e⟩ := ow l (by omega)
 obtain ⟨P, S, u0, u1, v0, v1, hu0, hu1, hv0, hv1, hP, hS, tP, tS, eP, s1, i1⟩ := sR a a32
 obtain ⟨C, K, hC, hK, i2⟩ := oS P m v0 v1 hv0 hv1 hP tP m32
 obtain ⟨w, hw, so, io⟩ := th S C u0 u1 hu0 hu1 hS tS hC
 obtain ⟨r, r0, s3, i3, back⟩ := rx S m C w hw m32 so io
 have pk : gB P = true := by
  unfold gB
  rw [Fa (by omega), tP]
 have i0 := ib P
 rw [pk] at i0
 refine Ev.bind e (Ev.bind i1 (Ev.bind s1 (Ev.pos rfl (Ev.neg (by simp) (Ev.bind i0 ?_)))))
 refine Ev.step (fun k => by simp only [bv.j0]; rw [Ga (by decide)]) ?_
 refine Ev.bind i2 (Ev.bind i3 (Ev.pos rfl (Ev.neg (Int.not_lt.mpr r0) (Ev.bind s3 ?_))))
 refine Ev.step (fun k => by simp only [bv.j1]; rw [Ga (by simp)]) ?_
 by_cases hr : r > 831
 ·exact Ev.pos hr (Ev.now _)
 have bm := back (by omega)
 have d := p7 S C w hw io
 rw [bm] at d
 have t := ob S C P m K hS eP d i2
 refine Ev.neg hr (Ev.bind d (Ev.bind t (Ev.pos rfl (Ev.pos rfl (Ev.pos rfl (Ev.pos rfl ?_))))))
 exact Ev.const (by rw [hK]; rfl)
end Go.Proofs.YtmdlpmddljbkeaaGreatDoor.Pure
