-- printed texts of this session, regrouped
import Derived.Test.YtielligodgabiaaGreatDoorMWC
import Derived.Test.YtielligodgabiaaGreatDoorMWA
import Derived.Test.YtielligodgabiaaGreatDoorMW7
import Derived.Test.YtielligodgabiaaGreatDoorMW6
import Derived.Test.YtielligodgabiaaGreatDoorHB5
import Derived.Test.YtielligodgabiaaGreatDoorPx0
namespace Go.Proofs.YtielligodgabiaaGreatDoor.P
open Go.RowKit YtielligodgabiaaGreatDoorW.PrintWords YtielligodgabiaaGreatDoorW.PrintLast YtielligodgabiaaGreatDoorW.PrintMore
attribute [local go_sem] dJ dC ej eh dh di dB dK   -- for this text's walks alone
set_option linter.unusedVariables false
set_option linter.unusedSimpArgs false

/-! ### bQ: function 79 -/
def bQ.f (k : Nat) (a0 : ByteArray) : Option (ByteArray × Int) := (cv.f k a0 168 31).bind fun t312 => (some (t312, 0))
theorem bQ.mono : ∀ a0 k, LeO (bQ.f k a0) (bQ.f (k + 1) a0) := by
 intro a0 k
 unfold bQ.f
 exact o1_ cv.mono
set_option maxHeartbeats 8000000 in
set_option maxRecDepth 100000 in
theorem bQ.calls (k : Nat) (a0 : ByteArray) (r1 : ByteArray) (r2 : Int) (w : World) (h : bQ.f k a0 = some (r1, r2)) :
  Calls Tryz.prog 79 #[.string a0] w fun e w' => e = .returned (.agg #[.string r1, .int .i64 r2]) ∧ Below w.heap.size w w' := by
 have hu80 := Tryz.underlying80
 have HB := aa.mk (xa w.heap.size w)
 delta bQ.f at h
 have H := h
 clear h
 obtain ⟨f0, A2, H⟩ := bN_ H
 simp only [Option.some.injEq, Prod.mk.injEq] at H
 obtain ⟨rfl, rfl⟩ := H
 go_enter Tryz.func79, Tryz.ntmps79
 go_wp2_with (first | ((with_reducible refine aI (N := 2) rfl ?_); refine cn ?hg (N := 2) ?hd (cs := #[.string (⟨#[]⟩ : ByteArray), .int .i64 0]) (t := 80) ?hr ?_; (case hd => rfl); (case hg => rfl); (case hr => first | (go_simp; done) | (go_simp; rfl)); intro d0 hg w3 hbox hb; have n_ := b_ (ac (hB_) hb) <| b_ (hbox) <| b_ (by rw [hg]; exact (ab (hB_)) : w.heap.size ≤ d0) <| c_ (by rw [hg]; exact (ab (hB_)) : w.heap.size ≤ d0); clear HB; obtain ⟨HB, b0, r0, e0⟩ := n_; clear hb hbox hg) | ((with_reducible refine ae (f := 89) rfl ?_); refine aq (some 4) rfl rfl Tryz.func89 (by kernel_rfl) rfl #[.string a0, .int .i64 168, .int .u8 31] rfl aM_ ?_; (with_reducible refine (cv.calls k a0 168 31 f0 _ A2.out).mono ?_); rintro e w4 ⟨rfl, hb⟩; refine ⟨_, rfl, ?_⟩; have n_ := b_ (bG (g := d0) (o := .cells #[.string (⟨#[]⟩ : ByteArray), .int .i64 0] 80 (0, 0)) (rK_ b0.out) hb) <| c_ (ac (hS_ e0.out) hb); clear b0 HB; obtain ⟨b0, HB⟩ := n_; have j0 : w4.cell? ⟨d0, 0, none⟩ = some (.string (⟨#[]⟩ : ByteArray)) := (au b0.out 0).trans rfl; have k0 : w4.cell? ⟨d0, 1, none⟩ = some (.int .i64 0) := (au b0.out 1).trans rfl; have p0 := aj b0.out 0; have q0 := aj b0.out 1))
 refine bodyPost_ret (results_cell_row rfl _ _ d0 80 #[.string f0, .int .i64 0] (0, 0) _ rfl (by refine kK_ ?_; refine bV (cs := #[.string f0, .int .i64 0]) ?_ 1 _ rfl; refine kK_ ?_; refine bV (cs := #[.string (⟨#[]⟩ : ByteArray), .int .i64 0]) ?_ 0 _ rfl; exact rK_ b0.out) Tryz.underlying80 rfl (by kernel_rfl)) rfl ?_
 exact ⟨f1_, hS_ e0.out⟩

end Go.Proofs.YtielligodgabiaaGreatDoor.P
