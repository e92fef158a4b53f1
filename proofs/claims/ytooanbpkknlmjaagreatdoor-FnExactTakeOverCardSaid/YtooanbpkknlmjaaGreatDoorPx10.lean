-- printed texts of this session, regrouped
import Derived.Test.YtooanbpkknlmjaaGreatDoorPx7
import Derived.Test.YtooanbpkknlmjaaGreatDoorPx9
namespace Go.Proofs.YtooanbpkknlmjaaGreatDoor.P
open Go.RowKit YtooanbpkknlmjaaGreatDoorW.PrintWords YtooanbpkknlmjaaGreatDoorW.PrintLast YtooanbpkknlmjaaGreatDoorW.PrintMore
attribute [local go_sem] dZ d4 eE ev dx dy dV dX
set_option linter.unusedVariables false
set_option linter.unusedSimpArgs false
set_option maxHeartbeats 8000000
set_option maxRecDepth 100000
def cu.f (k : Nat) (a0 : ByteArray) (a1 : ByteArray) : Option (ByteArray × ByteArray × Bool) := (bQ.f k a0).bind fun t607 => (if a1.size + t607.size ≤ 9223372036854775807 then (if (a1 ++ t607).size + 1 ≤ 9223372036854775807 then ((bQ.f k ((a1 ++ t607) ++ (⟨#[99]⟩ : ByteArray))).bind fun t608 => ((al.f k a0 a1 t608).bind fun bt609 => (if bt609.2 = true then ((bQ.f k ((a1 ++ t607) ++ (⟨#[107]⟩ : ByteArray))).bind fun t611 => (some (bt609.1, t611, true))) else (some ((⟨#[]⟩ : ByteArray), (⟨#[]⟩ : ByteArray), false))))) else (none)) else (none))
theorem cu.mono : ∀ a0 a1 k, LeO (cu.f k a0 a1) (cu.f (k + 1) a0 a1) := by
 intro a0 a1 k
 unfold cu.f
 exact o2_ bQ.mono al.mono
theorem cu.calls (k : Nat) (a0 : ByteArray) (a1 : ByteArray) (r1 : ByteArray) (r2 : ByteArray) (r3 : Bool) (w : World) (h : cu.f k a0 a1 = some (r1, r2, r3)) :
  Calls Tryz.prog 7 #[.string a0, .string a1] w fun e w' => e = .returned (.tuple #[.string r1, .string r2, .bool r3]) ∧ Below w.heap.size w w' := by
 have HB := c_ (Ba w.heap.size w)
 delta cu.f at h
 have H := h
 clear h
 obtain ⟨b0, A3, H⟩ := bN_ H
 obtain ⟨c4, H⟩ := iN_ H
 have p0 := ya c4
 have q0 := wa c4
 try have r0 : (9223372036854775807 < a1.size + b0.size) = False := eq_false (Nat.not_lt.2 c4)
 obtain ⟨c5, H⟩ := iN_ H
 have t0 := ya c5
 have u0 := wa c5
 try have f0 : (9223372036854775807 < (a1 ++ b0).size + 1) = False := eq_false (Nat.not_lt.2 c5)
 try (have j0 : (9223372036854775807 < (a1 ++ b0).size + 1) = False := f0; simp only [ByteArray.size_append] at j0)
 obtain ⟨d0, A6, H⟩ := bN_ H
 obtain ⟨⟨e0, k0⟩, A7, H⟩ := bN_ H
 by_cases c8 : k0 = true
 ·subst c8
  replace H := iT_ H
  obtain ⟨n0, A9, H⟩ := bN_ H
  simp only [Option.some.injEq, Prod.mk.injEq] at H
  obtain ⟨rfl, rfl, rfl⟩ := H
  go_enter Tryz.func7, Tryz.ntmps7
  go_wp2_with (first | (refine gq_ 8 (some 11) Tryz.func8 #[.string a0] (bQ.calls k a0 b0 _ A3.o) ?_; rintro e v0 ⟨rfl, hb⟩; refine ⟨_, rfl, ?_⟩; replace HB := c_ (ab (hB_) hb); (try clear hb)) | (refine gq_ 8 (some 19) Tryz.func8 #[.string ((a1 ++ b0) ++ (⟨#[99]⟩ : ByteArray))] (bQ.calls k ((a1 ++ b0) ++ (⟨#[99]⟩ : ByteArray)) d0 _ A6.o) ?_; rintro e x0 ⟨rfl, hb⟩; refine ⟨_, rfl, ?_⟩; replace HB := c_ (ab (hB_) hb); (try clear hb)) | (refine gq_ 14 (some 20) Tryz.func14 #[.string a0, .string a1, .string d0] (al.calls k a0 a1 d0 e0 true _ A7.o) ?_; rintro e y0 ⟨rfl, hb⟩; refine ⟨_, rfl, ?_⟩; replace HB := c_ (ab (hB_) hb); (try clear hb)) | (refine gq_ 8 (some 30) Tryz.func8 #[.string ((a1 ++ b0) ++ (⟨#[107]⟩ : ByteArray))] (bQ.calls k ((a1 ++ b0) ++ (⟨#[107]⟩ : ByteArray)) n0 _ A9.o) ?_; rintro e B0 ⟨rfl, hb⟩; refine ⟨_, rfl, ?_⟩; replace HB := c_ (ab (hB_) hb); (try clear hb)))
  go_ret3
  exact ⟨f1_, hB_⟩
 ·replace c8 := Ca c8
  subst c8
  replace H := iF_ H
  simp only [Option.some.injEq, Prod.mk.injEq] at H
  obtain ⟨rfl, rfl, rfl⟩ := H
  go_enter Tryz.func7, Tryz.ntmps7
  go_wp2_with (first | (refine gq_ 8 (some 11) Tryz.func8 #[.string a0] (bQ.calls k a0 b0 _ A3.o) ?_; rintro e C0 ⟨rfl, hb⟩; refine ⟨_, rfl, ?_⟩; replace HB := c_ (ab (hB_) hb); (try clear hb)) | (refine gq_ 8 (some 19) Tryz.func8 #[.string ((a1 ++ b0) ++ (⟨#[99]⟩ : ByteArray))] (bQ.calls k ((a1 ++ b0) ++ (⟨#[99]⟩ : ByteArray)) d0 _ A6.o) ?_; rintro e D0 ⟨rfl, hb⟩; refine ⟨_, rfl, ?_⟩; replace HB := c_ (ab (hB_) hb); (try clear hb)) | (refine gq_ 14 (some 20) Tryz.func14 #[.string a0, .string a1, .string d0] (al.calls k a0 a1 d0 e0 false _ A7.o) ?_; rintro e E0 ⟨rfl, hb⟩; refine ⟨_, rfl, ?_⟩; replace HB := c_ (ab (hB_) hb); (try clear hb)))
  go_ret3
  exact ⟨f1_, hB_⟩
def ck.f (k : Nat) (a0 : ByteArray) (a1 : ByteArray) : Option (ByteArray × Bool) := (cB.f k a0 a1).bind fun bt612 => (if bt612.2 = true then (if 768 ≤ 1568 then (if 1568 ≤ (a0.size : Int) then ((cu.f k (a0.extract 768 1568) bt612.1).bind fun bt614 => (if bt614.2.2 = true then (if bt614.1.toList = a1.toList then (some (bt614.2.1, true)) else (if 0 ≤ (wrap64 ((a0.size : Int) - 32)) then (if (wrap64 ((a0.size : Int) - 32)) ≤ (a0.size : Int) then (if (a0.extract ((wrap64 ((a0.size : Int) - 32)) : Int).toNat a0.size).size + a1.size ≤ 9223372036854775807 then ((bQ.f k ((a0.extract ((wrap64 ((a0.size : Int) - 32)) : Int).toNat a0.size) ++ a1)).bind fun t617 => (some (t617, true))) else (none)) else (none)) else (none))) else (if 0 ≤ (wrap64 ((a0.size : Int) - 32)) then (if (wrap64 ((a0.size : Int) - 32)) ≤ (a0.size : Int) then (if (a0.extract ((wrap64 ((a0.size : Int) - 32)) : Int).toNat a0.size).size + a1.size ≤ 9223372036854775807 then ((bQ.f k ((a0.extract ((wrap64 ((a0.size : Int) - 32)) : Int).toNat a0.size) ++ a1)).bind fun t618 => (some (t618, true))) else (none)) else (none)) else (none)))) else (none)) else (none)) else (some ((⟨#[]⟩ : ByteArray), false)))
theorem ck.mono : ∀ a0 a1 k, LeO (ck.f k a0 a1) (ck.f (k + 1) a0 a1) := by
 intro a0 a1 k
 unfold ck.f
 exact o3_ cB.mono bQ.mono cu.mono
theorem ck.calls (k : Nat) (a0 : ByteArray) (a1 : ByteArray) (r1 : ByteArray) (r2 : Bool) (w : World) (h : ck.f k a0 a1 = some (r1, r2)) :
  Calls Tryz.prog 4 #[.string a0, .string a1] w fun e w' => e = .returned (.tuple #[.string r1, .bool r2]) ∧ Below w.heap.size w w' := by
 have HB := c_ (Ba w.heap.size w)
 delta ck.f at h
 have H := h
 clear h
 obtain ⟨⟨e0, p0⟩, A3, H⟩ := bN_ H
 by_cases c4 : p0 = true
 ·subst c4
  replace H := iT_ H
  obtain ⟨c5, H⟩ := iN_ H
  have V0 := ya c5
  have W0 := wa c5
  clear c5
  obtain ⟨c6, H⟩ := iN_ H
  have X0 := ya c6
  have Y0 := wa c6
  clear c6
  obtain ⟨⟨f0, n0, q0⟩, A7, H⟩ := bN_ H
  by_cases c8 : q0 = true
  ·subst c8
   replace H := iT_ H
   by_cases c9 : f0.toList = a1.toList
   ·rw [Da c9] at H
    have r0 : (f0.toList == a1.toList) = true := beq_iff_eq.mpr c9
    have t0 : (f0.toList != a1.toList) = false := bne_eq_false_iff_eq.mpr c9
    clear c9
    simp only [Option.some.injEq, Prod.mk.injEq] at H
    obtain ⟨rfl, rfl⟩ := H
    go_enter Tryz.func4, Tryz.ntmps4
    go_wp2_with (first | (refine gq_ 6 (some 15) Tryz.func6 #[.string a0, .string a1] (cB.calls k a0 a1 e0 true _ A3.o) ?_; rintro e c1 ⟨rfl, hb⟩; refine ⟨_, rfl, ?_⟩; replace HB := c_ (ab (hB_) hb); (try clear hb)) | (refine gq_ 7 (some 25) Tryz.func7 #[.string (a0.extract 768 1568), .string e0] (cu.calls k (a0.extract 768 1568) e0 f0 n0 true _ A7.o) ?_; rintro e d1 ⟨rfl, hb⟩; refine ⟨_, rfl, ?_⟩; replace HB := c_ (ab (hB_) hb); (try clear hb)))
    go_ret2
    exact ⟨f1_, hB_⟩
   rw [Ea c9] at H
   have r0 : (f0.toList == a1.toList) = false := beq_eq_false_iff_ne.mpr c9
   have t0 : (f0.toList != a1.toList) = true := bne_iff_ne.mpr c9
   obtain ⟨j0, b0⟩ : ∃ j_ : Int, (wrap64 ((a0.size : Int) - 32)) = j_ := ⟨_, rfl⟩
   first | rw [b0] at H | simp only [b0] at H
   (try rw [b0] at A3)
   (try rw [b0] at A7)
   have u0 : (IntKind.i64.wrap ((a0.size : Int) - 32)) = j0 := (bv _).trans b0
   obtain ⟨v0, H⟩ := iN_ H
   have H0 := ya v0
   have I0 := wa v0
   clear v0
   obtain ⟨x0, H⟩ := iN_ H
   have J0 := ya x0
   have K0 := wa x0
   clear x0
   obtain ⟨y0, H⟩ := iN_ H
   have L0 := ya y0
   have M0 := wa y0
   try have N0 : (9223372036854775807 < (a0.extract ((j0) : Int).toNat a0.size).size + a1.size) = False := eq_false (Nat.not_lt.2 y0)
   obtain ⟨B0, Z0, H⟩ := bN_ H
   simp only [Option.some.injEq, Prod.mk.injEq] at H
   obtain ⟨rfl, rfl⟩ := H
   go_enter Tryz.func4, Tryz.ntmps4
   go_wp2_with (first | (refine gq_ 6 (some 15) Tryz.func6 #[.string a0, .string a1] (cB.calls k a0 a1 e0 true _ A3.o) ?_; rintro e e1 ⟨rfl, hb⟩; refine ⟨_, rfl, ?_⟩; replace HB := c_ (ab (hB_) hb); (try clear hb)) | (refine gq_ 7 (some 25) Tryz.func7 #[.string (a0.extract 768 1568), .string e0] (cu.calls k (a0.extract 768 1568) e0 f0 n0 true _ A7.o) ?_; rintro e f1 ⟨rfl, hb⟩; refine ⟨_, rfl, ?_⟩; replace HB := c_ (ab (hB_) hb); (try clear hb)) | ((with_reducible refine dM (f := 8) rfl ?_); refine gm (some 43) rfl rfl Tryz.func8 (by kernel_rfl) rfl #[.string ((a0.extract ((j0) : Int).toNat a0.size) ++ a1)] rfl (by (try simp only [List.map_toArray, List.map_cons, List.map_nil]); first | done | (simp only [b0]; rfl) | rfl | (simp only [List.length_drop, List.length_take]; rfl)) ?_; (with_reducible refine (bQ.calls k ((a0.extract ((j0) : Int).toNat a0.size) ++ a1) B0 _ Z0.o).mono ?_); rintro e g1 ⟨rfl, hb⟩; refine ⟨_, rfl, ?_⟩; replace HB := c_ (ab (hB_) hb); (try clear hb)))
   go_ret2
   exact ⟨by first | rfl | (simp [dk, dh] <;> rfl) | (simp only [← b0]; first | rfl | (simp [dk, dh] <;> rfl)) | (simp [*, dk, dh] <;> rfl), hB_⟩
  ·replace c8 := Ca c8
   subst c8
   replace H := iF_ H
   obtain ⟨k0, d0⟩ : ∃ j_ : Int, (wrap64 ((a0.size : Int) - 32)) = j_ := ⟨_, rfl⟩
   first | rw [d0] at H | simp only [d0] at H
   (try rw [d0] at A3)
   (try rw [d0] at A7)
   have C0 : (IntKind.i64.wrap ((a0.size : Int) - 32)) = k0 := (bv _).trans d0
   obtain ⟨D0, H⟩ := iN_ H
   have O0 := ya D0
   have P0 := wa D0
   clear D0
   obtain ⟨E0, H⟩ := iN_ H
   have Q0 := ya E0
   have R0 := wa E0
   clear E0
   obtain ⟨F0, H⟩ := iN_ H
   have S0 := ya F0
   have T0 := wa F0
   try have U0 : (9223372036854775807 < (a0.extract ((k0) : Int).toNat a0.size).size + a1.size) = False := eq_false (Nat.not_lt.2 F0)
   obtain ⟨G0, b1, H⟩ := bN_ H
   simp only [Option.some.injEq, Prod.mk.injEq] at H
   obtain ⟨rfl, rfl⟩ := H
   go_enter Tryz.func4, Tryz.ntmps4
   go_wp2_with (first | (refine gq_ 6 (some 15) Tryz.func6 #[.string a0, .string a1] (cB.calls k a0 a1 e0 true _ A3.o) ?_; rintro e i1 ⟨rfl, hb⟩; refine ⟨_, rfl, ?_⟩; replace HB := c_ (ab (hB_) hb); (try clear hb)) | (refine gq_ 7 (some 25) Tryz.func7 #[.string (a0.extract 768 1568), .string e0] (cu.calls k (a0.extract 768 1568) e0 f0 n0 false _ A7.o) ?_; rintro e j1 ⟨rfl, hb⟩; refine ⟨_, rfl, ?_⟩; replace HB := c_ (ab (hB_) hb); (try clear hb)) | ((with_reducible refine dM (f := 8) rfl ?_); refine gm (some 43) rfl rfl Tryz.func8 (by kernel_rfl) rfl #[.string ((a0.extract ((k0) : Int).toNat a0.size) ++ a1)] rfl (by (try simp only [List.map_toArray, List.map_cons, List.map_nil]); first | done | (simp only [d0]; rfl) | rfl | (simp only [List.length_drop, List.length_take]; rfl)) ?_; (with_reducible refine (bQ.calls k ((a0.extract ((k0) : Int).toNat a0.size) ++ a1) G0 _ b1.o).mono ?_); rintro e l1 ⟨rfl, hb⟩; refine ⟨_, rfl, ?_⟩; replace HB := c_ (ab (hB_) hb); (try clear hb)))
   go_ret2
   exact ⟨by first | rfl | (simp [dk, dh] <;> rfl) | (simp only [← d0]; first | rfl | (simp [dk, dh] <;> rfl)) | (simp [*, dk, dh] <;> rfl), hB_⟩
 ·replace c4 := Ca c4
  subst c4
  replace H := iF_ H
  simp only [Option.some.injEq, Prod.mk.injEq] at H
  obtain ⟨rfl, rfl⟩ := H
  go_enter Tryz.func4, Tryz.ntmps4
  go_wp2_with (first | (refine gq_ 6 (some 15) Tryz.func6 #[.string a0, .string a1] (cB.calls k a0 a1 e0 false _ A3.o) ?_; rintro e m1 ⟨rfl, hb⟩; refine ⟨_, rfl, ?_⟩; replace HB := c_ (ab (hB_) hb); (try clear hb)))
  go_ret2
  exact ⟨f1_, hB_⟩
end Go.Proofs.YtooanbpkknlmjaaGreatDoor.P
