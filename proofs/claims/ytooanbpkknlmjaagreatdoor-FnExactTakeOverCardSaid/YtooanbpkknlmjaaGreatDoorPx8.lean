-- printed texts of this session, regrouped
import Derived.Test.YtooanbpkknlmjaaGreatDoorHB5
namespace Go.Proofs.YtooanbpkknlmjaaGreatDoor.P
open Go.RowKit YtooanbpkknlmjaaGreatDoorW.PrintWords YtooanbpkknlmjaaGreatDoorW.PrintLast YtooanbpkknlmjaaGreatDoorW.PrintMore
attribute [local go_sem] dZ d4 eE ev dx dy dV dX
set_option linter.unusedVariables false
set_option linter.unusedSimpArgs false
def bZ.f (k : Nat) (a0 : ByteArray) : Option (ByteArray × Int) := (cJ.f k a0 168 31).bind fun t481 => (some (t481, 0))
theorem bZ.mono : ∀ a0 k, LeO (bZ.f k a0) (bZ.f (k + 1) a0) := by
 intro a0 k
 unfold bZ.f
 exact o1_ cJ.mono
set_option maxHeartbeats 8000000 in
set_option maxRecDepth 100000 in
theorem bZ.calls (k : Nat) (a0 : ByteArray) (r1 : ByteArray) (r2 : Int) (w : World) (h : bZ.f k a0 = some (r1, r2)) :
  Calls Tryz.prog 95 #[.string a0] w fun e w' => e = .returned (.agg #[.string r1, .int .i64 r2]) ∧ Below w.heap.size w w' := by
 have hu85 := Tryz.underlying85
 have HB := c_ (Ba w.heap.size w)
 delta bZ.f at h
 have H := h
 clear h
 obtain ⟨f0, A2, H⟩ := bN_ H
 simp only [Option.some.injEq, Prod.mk.injEq] at H
 obtain ⟨rfl, rfl⟩ := H
 go_enter Tryz.func95, Tryz.ntmps95
 go_wp2_with (first | ((refine aI (N := 2) rfl ?_); refine cz ?hg (N := 2) ?hd (cs := #[.string (⟨#[]⟩ : ByteArray), .int .i64 0]) (t := 85) ?hr ?_; (case hd => rfl); (case hg => rfl); (case hr => first | (go_simp; done) | (go_simp; rfl)); intro d0 hg w3 hbox hb; obtain ⟨HB, b0, q0, e0⟩ := b_ (ab (hB_) hb) <| b_ (hbox) <| b_ (by rw [hg]; exact (ac (hB_)) : w.heap.size ≤ d0) <| c_ (by rw [hg]; exact (ac (hB_)) : w.heap.size ≤ d0); clear hb hbox hg) | (refine gq_ 101 (some 4) Tryz.func101 #[.string a0, .int .i64 168, .int .u8 31] (cJ.calls k a0 168 31 f0 _ A2.o) ?_; rintro e w4 ⟨rfl, hb⟩; refine ⟨_, rfl, ?_⟩; obtain ⟨b0, HB⟩ := b_ (bM (g := d0) (o := .cells #[.string (⟨#[]⟩ : ByteArray), .int .i64 0] 85 (0, 0)) (rK_ b0.o) hb) <| c_ (ab (hS_ e0.o) hb); have j0 : w4.cell? ⟨d0, 0, none⟩ = some (.string (⟨#[]⟩ : ByteArray)) := (ar b0.o 0).trans rfl; have k0 : w4.cell? ⟨d0, 1, none⟩ = some (.int .i64 0) := (ar b0.o 1).trans rfl; have n0 := aj b0.o 0; have p0 := aj b0.o 1))
 refine bodyPost_ret (results_cell_row rfl _ _ d0 85 #[.string f0, .int .i64 0] (0, 0) _ rfl (by refine kK_ ?_; refine cd (cs := #[.string f0, .int .i64 0]) ?_ 1 _ rfl; refine kK_ ?_; refine cd (cs := #[.string (⟨#[]⟩ : ByteArray), .int .i64 0]) ?_ 0 _ rfl; exact rK_ b0.o) Tryz.underlying85 rfl (by kernel_rfl)) rfl ?_
 exact ⟨f1_, hS_ e0.o⟩
end Go.Proofs.YtooanbpkknlmjaaGreatDoor.P
