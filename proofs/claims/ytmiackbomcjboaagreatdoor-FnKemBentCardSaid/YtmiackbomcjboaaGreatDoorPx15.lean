-- printed texts of this session, regrouped
import Derived.Test.YtmiackbomcjboaaGreatDoorHC2
import Derived.Test.YtmiackbomcjboaaGreatDoorPx11
import Derived.Test.YtmiackbomcjboaaGreatDoorPx14
namespace Go.Proofs.YtmiackbomcjboaaGreatDoor.P
open Go.RowKit YtmiackbomcjboaaGreatDoorW.PrintWords YtmiackbomcjboaaGreatDoorW.PrintLast YtmiackbomcjboaaGreatDoorW.PrintMore
open Kd
attribute [local go_sem] d9 eg eV eU dK dL d8 eh
set_option linter.unusedVariables false
set_option linter.unusedSimpArgs false
def ci.f (k : Nat) (l0 : List Int) : Option (Bool) := (ga.f l0).bind fun t1055 => (if t1055 = true then (some true) else ((cF.f k l0).bind fun bt1056 => ((bq.f k bt1056.1).bind fun bt1058 => ((cm.f k bt1058.1 bt1056.2).bind fun bt1062 => ((bw.f k l0).bind fun t1065 => ((fc.f bt1062.1 t1065).bind fun t1068 => ((cu.f k bt1058.2.1 t1068).bind fun bt1069 => ((cZ.f k bt1058.2.1 t1068).bind fun bt1071 => (if bt1062.1.size + 1 ≤ 9223372036854775807 then ((cu.f k bt1058.2.1 (bt1062.1 ++ (⟨#[120]⟩ : ByteArray))).bind fun bt1073 => (if bt1056.2.size + 1 ≤ 9223372036854775807 then ((aE.f k bt1058.1 (bt1056.2 ++ (⟨#[120]⟩ : ByteArray)) bt1056.2).bind fun bt1075 => ((aE.f k bt1058.1 bt1056.2 bt1056.2).bind fun bt1077 => (if bt1062.2.2 = true then (if bt1069.2 = true then (if bt1069.1.toList = bt1071.1.toList then (if (bt1069.1.size : Int) = 32 then (if bt1073.2 = true then (none) else (if bt1075.2 = true then (none) else (if bt1077.2 = true then (if (bt1077.1.size : Int) = (bt1062.1.size : Int) then ((bW.f k bt1058.2.1 (⟨#[109]⟩ : ByteArray) bt1062.1).bind fun t1079 => (some (t1079 == (-1)))) else (none)) else (none)))) else (none)) else (none)) else (none)) else (none)))) else (none))) else (none))))))))))
theorem ci.mono : ∀ a0 k, LeO (ci.f k a0) (ci.f (k + 1) a0) := by
 intro a0 k
 unfold ci.f
 exact o8_ aE.mono bW.mono cm.mono cu.mono bw.mono cF.mono bq.mono cZ.mono
set_option maxHeartbeats 8000000 in
set_option maxRecDepth 100000 in
theorem ci.calls (k : Nat) (A0 : Option Addr) (c0 : Nat) (l0 : List Int) (r : Bool) (w : World) (hr0 : Kd.C (Kd.int .u8) w A0 l0.length l0) (hc0 : l0.length ≤ c0) (h : ci.f k l0 = some r) (hLD : Laid w) :
  Calls Tryz.prog 3 #[.slice A0 l0.length c0] w fun e w' => e = .returned (.bool r) ∧ Below w.heap.size w w' := by
 have HLD := c_ hLD
 clear hLD
 have hu27 := Tryz.underlying27
 have G0 := c_ hr0
 have H0 := c_ hc0
 clear hr0 hc0
 have HB := c_ (Da w.heap.size w)
 delta ci.f at h
 have H := h
 clear h
 obtain ⟨t0, A2, H⟩ := bN_ H
 by_cases c3 : t0 = true
 ·subst c3
  replace H := iT_ H
  obtain rfl := Ba H
  go_enter Tryz.func3, Tryz.ntmps3
  go_wp2_with (first | (refine gp_ (k_ 22 Tryz.func4) (ga.calls _ _ _ _ _ (cR_ G0.o) H0.o A2.o) fun nd => ?_))
  go_ret
  exact ⟨f1_, hB_⟩
 ·replace c3 := Ea c3
  subst c3
  replace H := iF_ H
  obtain ⟨⟨F1, v0⟩, A4, H⟩ := bN_ H
  obtain ⟨⟨e0, f0, G1⟩, A5, H⟩ := bN_ H
  obtain ⟨⟨j0, H1, x0⟩, A6, H⟩ := bN_ H
  obtain ⟨q0, A7, H⟩ := bN_ H
  obtain ⟨y0, A8, H⟩ := bN_ H
  obtain ⟨⟨n0, B0⟩, A9, H⟩ := bN_ H
  obtain ⟨⟨r0, I1⟩, n2, H⟩ := bN_ H
  obtain ⟨y1, H⟩ := iN_ H
  have J1 := Aa y1
  have K1 := ya y1
  try have L1 : (9223372036854775807 < j0.size + 1) = False := eq_false (Nat.not_lt.2 y1)
  obtain ⟨⟨M1, C0⟩, p2, H⟩ := bN_ H
  obtain ⟨z1, H⟩ := iN_ H
  have N1 := Aa z1
  have O1 := ya z1
  try have P1 : (9223372036854775807 < v0.size + 1) = False := eq_false (Nat.not_lt.2 z1)
  obtain ⟨⟨Q1, D0⟩, q2, H⟩ := bN_ H
  obtain ⟨⟨p0, E0⟩, r2, H⟩ := bN_ H
  by_cases I0 : x0 = true
  ·subst I0
   replace H := iT_ H
   by_cases J0 : B0 = true
   ·subst J0
    replace H := iT_ H
    obtain ⟨A1, H⟩ := iN_ H
    have R1 : (n0.toList == r0.toList) = true := beq_iff_eq.mpr A1
    have S1 : (n0.toList != r0.toList) = false := bne_eq_false_iff_eq.mpr A1
    clear A1
    obtain ⟨B1, H⟩ := iN_ H
    have T1 : ((n0.size : Int) == 32) = true := beq_iff_eq.mpr B1
    have U1 : ((n0.size : Int) != 32) = false := bne_eq_false_iff_eq.mpr B1
    clear B1
    by_cases K0 : C0 = true
    ·subst K0
     replace H := iT_ H
     exact absurd H (by simp)
    ·replace K0 := Ea K0
     subst K0
     replace H := iF_ H
     by_cases L0 : D0 = true
     ·subst L0
      replace H := iT_ H
      exact absurd H (by simp)
     ·replace L0 := Ea L0
      subst L0
      replace H := iF_ H
      by_cases M0 : E0 = true
      ·subst M0
       replace H := iT_ H
       obtain ⟨F0, H⟩ := iN_ H
       have V1 : ((p0.size : Int) == (j0.size : Int)) = true := beq_iff_eq.mpr F0
       have X1 : ((p0.size : Int) != (j0.size : Int)) = false := bne_eq_false_iff_eq.mpr F0
       have Y1 : (p0.size == j0.size) = true := by first | simpa using F0 | (simp at F0 ⊢; omega)
       clear F0
       obtain ⟨Z1, t2, H⟩ := bN_ H
       obtain rfl := Ba H
       go_enter Tryz.func3, Tryz.ntmps3
       go_wp2_with (first | (refine gp_ (k_ 22 Tryz.func4) (ga.calls _ _ _ _ _ (cR_ G0.o) H0.o A2.o) fun nd => ?_) | (refine gb_ (k_ 25 Tryz.func5) (cF.calls _ _ _ _ _ _ _ (cR_ G0.o) H0.o A4.o) fun v2 HB => ?_) | (refine gb_ (k_ 30 Tryz.func6) (bq.calls _ _ _ _ _ _ A5.o) fun y2 HB => ?_) | ((try (refine bh (by rfl) ?_; dsimp only)); refine bx_ 5 #[.string (⟨#[]⟩ : ByteArray), .string (⟨#[]⟩ : ByteArray)] 27 fun d0 b2 hb HB a0 k0 => ?_; have N0 : b2.cell? ⟨d0, 0, none⟩ = some (.string (⟨#[]⟩ : ByteArray)) := (ak a0.o 0).trans rfl; have O0 : b2.cell? ⟨d0, 1, none⟩ = some (.string (⟨#[]⟩ : ByteArray)) := (ak a0.o 1).trans rfl; have P0 := ag a0.o 0; have Q0 := ag a0.o 1) | (refine gc_ (k_ 37 Tryz.func7) (cm.calls _ _ _ _ _ _ _ A6.o (HLD.o.below HLD.o.pos (hS_ k0.o))) fun z2 hb => ?_; obtain ⟨a0, HB⟩ := b_ (eX (g := d0) (o := .cells #[.string e0, .string f0] 27 (0, 0)) (by refine kK_ ?_; refine ca (cs := #[.string e0, .string (⟨#[]⟩ : ByteArray)]) ?_ 1 _ rfl; refine kK_ ?_; refine ca (cs := #[.string (⟨#[]⟩ : ByteArray), .string (⟨#[]⟩ : ByteArray)]) ?_ 0 _ rfl; exact rK_ a0.o) hb) <| sB_) | (refine gR_ (k_ 43 Tryz.func9) (bw.calls _ _ _ _ _ _ (cR_ (vb G0.o HB.o)) H0.o A7.o) fun c2 B2 ho_ hb => ?_; obtain ⟨b0, a0, HB⟩ := n_ (lR_ ho_) <| n_ (fK_ a0) <| sB_; obtain ⟨C1, D1, E1⟩ := uV b0.o; subst E1) | (refine gq_ 8 (some 44) Tryz.func8 #[.string j0, .slice C1 q0.length D1] (fc.calls j0 _ _ q0 y0 _ ?side1 ?side2 A8.o) ?_; (case side1 => exact cR_ (uU b0.o).2.2); (case side2 => exact (uU b0.o).2.1); rintro e f2 ⟨rfl, hb⟩; refine ⟨_, rfl, ?_⟩; obtain ⟨b0, a0, HB⟩ := n_ (fR_ b0) <| n_ (fK_ a0) <| sB_; have R0 : f2.cell? ⟨d0, 0, none⟩ = some (.string e0) := (ak a0.o 0).trans rfl; have S0 : f2.cell? ⟨d0, 1, none⟩ = some (.string f0) := (ak a0.o 1).trans rfl; have T0 := ag a0.o 0; have U0 := ag a0.o 1) | (refine gc_ (k_ 49 Tryz.func10) (cu.calls _ _ _ _ _ _ A9.o (HLD.o.below HLD.o.pos (hS_ k0.o))) fun g2 hb => ?_; obtain ⟨b0, a0, HB⟩ := n_ (fR_ b0) <| n_ (fK_ a0) <| sB_; have V0 : g2.cell? ⟨d0, 0, none⟩ = some (.string e0) := (ak a0.o 0).trans rfl; have W0 : g2.cell? ⟨d0, 1, none⟩ = some (.string f0) := (ak a0.o 1).trans rfl; have X0 := ag a0.o 0; have Y0 := ag a0.o 1) | (refine gc_ (k_ 56 Tryz.func11) (cZ.calls _ _ _ _ _ _ n2.o) fun i2 hb => ?_; obtain ⟨b0, a0, HB⟩ := n_ (fR_ b0) <| n_ (fK_ a0) <| sB_; have Z0 : i2.cell? ⟨d0, 0, none⟩ = some (.string e0) := (ak a0.o 0).trans rfl; have b1 : i2.cell? ⟨d0, 1, none⟩ = some (.string f0) := (ak a0.o 1).trans rfl; have c1 := ag a0.o 0; have d1 := ag a0.o 1) | (refine gc_ (k_ 64 Tryz.func10) (cu.calls _ _ _ _ _ _ p2.o (HLD.o.below HLD.o.pos (hS_ k0.o))) fun j2 hb => ?_; obtain ⟨b0, a0, HB⟩ := n_ (fR_ b0) <| n_ (fK_ a0) <| sB_; have e1 : j2.cell? ⟨d0, 0, none⟩ = some (.string e0) := (ak a0.o 0).trans rfl; have f1 : j2.cell? ⟨d0, 1, none⟩ = some (.string f0) := (ak a0.o 1).trans rfl; have g1 := ag a0.o 0; have i1 := ag a0.o 1) | (refine gc_ (k_ 73 Tryz.func12) (aE.calls _ _ _ _ _ _ _ q2.o) fun l2 hb => ?_; obtain ⟨b0, a0, HB⟩ := n_ (fR_ b0) <| n_ (fK_ a0) <| sB_; have j1 : l2.cell? ⟨d0, 0, none⟩ = some (.string e0) := (ak a0.o 0).trans rfl; have l1 : l2.cell? ⟨d0, 1, none⟩ = some (.string f0) := (ak a0.o 1).trans rfl; have m1 := ag a0.o 0; have n1 := ag a0.o 1) | (refine gc_ (k_ 81 Tryz.func12) (aE.calls _ _ _ _ _ _ _ r2.o) fun m2 hb => ?_; obtain ⟨b0, a0, HB⟩ := n_ (fR_ b0) <| n_ (fK_ a0) <| sB_; have p1 : m2.cell? ⟨d0, 0, none⟩ = some (.string e0) := (ak a0.o 0).trans rfl; have q1 : m2.cell? ⟨d0, 1, none⟩ = some (.string f0) := (ak a0.o 1).trans rfl; have r1 := ag a0.o 0; have t1 := ag a0.o 1) | (go_at_call 13; refine mb_ (bW.calls _ _ _ _ _ _ t2.o) fun C2 hb => ?_; obtain ⟨b0, a0, HB⟩ := n_ (fR_ b0) <| n_ (fK_ a0) <| sB_))
       go_ret
       exact ⟨f1_, hS_ k0.o⟩
      ·replace M0 := Ea M0
       subst M0
       replace H := iF_ H
       exact absurd H (by simp)
   ·replace J0 := Ea J0
    subst J0
    replace H := iF_ H
    exact absurd H (by simp)
  ·replace I0 := Ea I0
   subst I0
   replace H := iF_ H
   exact absurd H (by simp)
/-- THE ONE PURE STATEMENT of ci: yours. -/
def ci.Pure : Prop := ∀ (l0 : List Int), l0.length ≤ maxLen → l0.length * 1 ≤ 140737488351232 → (∀ x ∈ l0, (Lit.int .u8 x).wf = true) → ∃ k, ci.f k l0 = some true
theorem ci.walk (P : ci.Pure) (a0 : Option Addr) (len0 cap0 : Nat) (z0 : List Int) (w : World) (w0 : (a0 = none ∧ len0 = 0 ∧ cap0 = 0 ∧ z0 = []) ∨ ∃ x, a0 = some x ∧ len0 ≤ cap0 ∧ cap0 ≤ maxLen ∧ z0.length = cap0 ∧ (∀ i, i < z0.length → w.cell? (x.add i) = some (.int .u8 (z0.getD i 0))) ∧ ∀ n ∈ z0, (Lit.int .u8 n).wf = true) (y0 : len0 * 1 ≤ 140737488351232) (hLD : Laid w) :
  Calls Tryz.prog 3 #[.slice a0 len0 cap0] w fun e w' => e = .returned (.bool true) ∧ Below w.heap.size w w' := by
 have HLD := c_ hLD
 clear hLD
 obtain ⟨l0, rfl, hr0, hm0, hw0, hc0⟩ := fC.ofRowC w0
 obtain ⟨k, h⟩ := P l0 hm0 y0 hw0
 refine (ci.calls k _ _ l0 true w (wb (d := (0 : Int)) (h1 := fun _ => rfl) hr0) hc0 h HLD.o).mono ?_
 rintro e w' ⟨rfl, hd⟩
 exact ⟨rfl, hd⟩
end Go.Proofs.YtmiackbomcjboaaGreatDoor.P
