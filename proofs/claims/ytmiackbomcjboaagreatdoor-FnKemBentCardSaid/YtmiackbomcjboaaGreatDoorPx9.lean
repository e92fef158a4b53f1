-- printed texts of this session, regrouped
import Derived.Test.YtmiackbomcjboaaGreatDoorHB5
namespace Go.Proofs.YtmiackbomcjboaaGreatDoor.P
open Go.RowKit YtmiackbomcjboaaGreatDoorW.PrintWords YtmiackbomcjboaaGreatDoorW.PrintLast YtmiackbomcjboaaGreatDoorW.PrintMore
attribute [local go_sem] d9 eg eV eU dK dL d8 eh
set_option linter.unusedVariables false
set_option linter.unusedSimpArgs false
def ce.f (k : Nat) (a0 : ByteArray) : Option (ByteArray × Int) := (cT.f k a0 168 31).bind fun t314 => (some (t314, 0))
theorem ce.mono : ∀ a0 k, LeO (ce.f k a0) (ce.f (k + 1) a0) := by
 intro a0 k
 unfold ce.f
 exact o1_ cT.mono
set_option maxHeartbeats 8000000 in
set_option maxRecDepth 100000 in
theorem ce.calls (k : Nat) (a0 : ByteArray) (r1 : ByteArray) (r2 : Int) (w : World) (h : ce.f k a0 = some (r1, r2)) :
  Calls Tryz.prog 85 #[.string a0] w fun e w' => e = .returned (.agg #[.string r1, .int .i64 r2]) ∧ Below w.heap.size w w' := by
 have hu95 := Tryz.underlying95
 have HB := c_ (Da w.heap.size w)
 delta ce.f at h
 have H := h
 clear h
 obtain ⟨e0, A2, H⟩ := bN_ H
 simp only [Option.some.injEq, Prod.mk.injEq] at H
 obtain ⟨rfl, rfl⟩ := H
 go_enter Tryz.func85, Tryz.ntmps85
 go_wp2_with (first | (refine bx_ 2 #[.string (⟨#[]⟩ : ByteArray), .int .i64 0] 95 fun d0 w3 hb HB b0 f0 => ?_) | (refine gc_ (k_ 4 Tryz.func106) (cT.calls _ _ _ _ _ _ A2.o) fun w4 hb => ?_; obtain ⟨b0, HB⟩ := n_ (fK_ b0) <| sB_; have j0 : w4.cell? ⟨d0, 0, none⟩ = some (.string (⟨#[]⟩ : ByteArray)) := (ak b0.o 0).trans rfl; have k0 : w4.cell? ⟨d0, 1, none⟩ = some (.int .i64 0) := (ak b0.o 1).trans rfl; have n0 := ag b0.o 0; have p0 := ag b0.o 1))
 refine bodyPost_ret (results_cell_row rfl _ _ d0 95 #[.string e0, .int .i64 0] (0, 0) _ rfl (by refine kK_ ?_; refine ca (cs := #[.string e0, .int .i64 0]) ?_ 1 _ rfl; refine kK_ ?_; refine ca (cs := #[.string (⟨#[]⟩ : ByteArray), .int .i64 0]) ?_ 0 _ rfl; exact rK_ b0.o) Tryz.underlying95 rfl (by kernel_rfl)) rfl ?_
 exact ⟨f1_, hS_ f0.o⟩
end Go.Proofs.YtmiackbomcjboaaGreatDoor.P
