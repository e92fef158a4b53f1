-- printed texts of this session, regrouped
import Derived.Test.YtmdlpmddljbkeaaGreatDoorHB5
namespace Go.Proofs.YtmdlpmddljbkeaaGreatDoor.P
open Go.RowKit YtmdlpmddljbkeaaGreatDoorW.PrintWords YtmdlpmddljbkeaaGreatDoorW.PrintLast YtmdlpmddljbkeaaGreatDoorW.PrintMore
attribute [local go_sem] d3 dW eG eI dD dC dZ dY
set_option linter.unusedVariables false
set_option linter.unusedSimpArgs false
def cf.f (k : Nat) (a0 : ByteArray) : Option (ByteArray × Int) := (cJ.f k a0 168 31).bind fun t491 => (some (t491, 0))
theorem cf.mono : ∀ a0 k, LeO (cf.f k a0) (cf.f (k + 1) a0) := by
 intro a0 k
 unfold cf.f
 exact o1_ cJ.mono
set_option maxHeartbeats 8000000 in
set_option maxRecDepth 100000 in
theorem cf.calls (k : Nat) (a0 : ByteArray) (r1 : ByteArray) (r2 : Int) (w : World) (h : cf.f k a0 = some (r1, r2)) :
  Calls Tryz.prog 95 #[.string a0] w fun e w' => e = .returned (.agg #[.string r1, .int .i64 r2]) ∧ Below w.heap.size w w' := by
 have hu96 := Tryz.underlying96
 have HB := c_ (Da w.heap.size w)
 delta cf.f at h
 have H := h
 clear h
 obtain ⟨e0, A2, H⟩ := bN_ H
 simp only [Option.some.injEq, Prod.mk.injEq] at H
 obtain ⟨rfl, rfl⟩ := H
 go_enter Tryz.func95, Tryz.ntmps95
 go_wp2_with (first | (refine bx_ 2 #[.string (⟨#[]⟩ : ByteArray), .int .i64 0] 96 fun d0 w3 hb HB b0 f0 => ?_) | (refine gc_ (k_ 4 Tryz.func108) (cJ.calls _ _ _ _ _ _ A2.o) fun w4 hb => ?_; obtain ⟨b0, HB⟩ := n_ (fK_ b0) <| sB_; have j0 : w4.cell? ⟨d0, 0, none⟩ = some (.string (⟨#[]⟩ : ByteArray)) := (ah b0.o 0).trans rfl; have k0 : w4.cell? ⟨d0, 1, none⟩ = some (.int .i64 0) := (ah b0.o 1).trans rfl; have n0 := ae b0.o 0; have p0 := ae b0.o 1))
 refine bodyPost_ret (results_cell_row rfl _ _ d0 96 #[.string e0, .int .i64 0] (0, 0) _ rfl (by refine kK_ ?_; refine bO (cs := #[.string e0, .int .i64 0]) ?_ 1 _ rfl; refine kK_ ?_; refine bO (cs := #[.string (⟨#[]⟩ : ByteArray), .int .i64 0]) ?_ 0 _ rfl; exact rK_ b0.o) Tryz.underlying96 rfl (by kernel_rfl)) rfl ?_
 exact ⟨f1_, hS_ f0.o⟩
end Go.Proofs.YtmdlpmddljbkeaaGreatDoor.P
