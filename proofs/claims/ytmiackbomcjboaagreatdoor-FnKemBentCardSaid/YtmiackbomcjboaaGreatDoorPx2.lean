-- printed texts of this session, regrouped
import Derived.Test.YtmiackbomcjboaaGreatDoorMW9
namespace Go.Proofs.YtmiackbomcjboaaGreatDoor.P
open Go.RowKit YtmiackbomcjboaaGreatDoorW.PrintWords YtmiackbomcjboaaGreatDoorW.PrintLast YtmiackbomcjboaaGreatDoorW.PrintMore
open Kd
attribute [local go_sem] d9 eg eV eU dK dL d8 eh
set_option linter.unusedVariables false
set_option linter.unusedSimpArgs false
set_option maxHeartbeats 8000000
set_option maxRecDepth 100000
mutual
def aI.j0 : Nat → ByteArray → Bool → ByteArray → ByteArray → Int → Option (ByteArray × ByteArray × Int)
 | 0, _, _, _, _, _ => none
 | k + 1, x1, x19, x176000, x176001, x176002 => if x19 = true then (some (x176000, x176001, x176002)) else ((bm.f k x176000).bind fun t178 => ((ft.f).bind fun t181 => (if x176001.size + x1.size ≤ 9223372036854775807 then (aI.l0 k x1 t178 t181 (x176001 ++ x1) 0 x176000 x176001 x176002) else (none))))
def aI.l0 : Nat → ByteArray → List Int → List Int → ByteArray → Int → ByteArray → ByteArray → Int → Option (ByteArray × ByteArray × Int)
 | 0, _, _, _, _, _, _, _, _ => none
 | k + 1, x1, x5, x6, x7, x8, x176000, x176001, x176002 => if (wrap64 (x8 + 64)) ≤ (x7.size : Int) then (if 0 ≤ x8 then (if x8 ≤ (wrap64 (x8 + 64)) then ((ae.f k x5 x6 (x7.extract (x8 : Int).toNat ((wrap64 (x8 + 64)) : Int).toNat)).bind fun t184 => (aI.l0 k x1 t184 x6 x7 (wrap64 (x8 + 64)) x176000 x176001 x176002)) else (none)) else (none)) else ((bu.f k x5).bind fun t187 => (if 0 ≤ x8 then (if x8 ≤ (x7.size : Int) then (some (t187, x7.extract (x8 : Int).toNat x7.size, wrap64 (x176002 + (x1.size : Int)))) else (none)) else (none)))
end
def aI.f (k : Nat) (a0_0 : ByteArray) (a0_1 : ByteArray) (a0_2 : Int) (a1 : ByteArray) : Option (ByteArray × ByteArray × Int) := (da.f a0_0 a0_1 a0_2).bind fun t177 => (if t177 = true then (aI.j0 k a1 (decide ((wrap64 (a0_2 + (a1.size : Int))) > 1000000000)) a0_0 a0_1 a0_2) else (aI.j0 k a1 true a0_0 a0_1 a0_2))
theorem aI.mono_l : ∀ k, (∀ y0 y1 y2 y3 y4, LeO (aI.j0 k y0 y1 y2 y3 y4) (aI.j0 (k + 1) y0 y1 y2 y3 y4)) ∧ (∀ y0 y1 y2 y3 y4 y5 y6 y7, LeO (aI.l0 k y0 y1 y2 y3 y4 y5 y6 y7) (aI.l0 (k + 1) y0 y1 y2 y3 y4 y5 y6 y7))
 | 0 => ⟨fun _ _ _ _ _ r h => by simp [aI.j0] at h, fun _ _ _ _ _ _ _ _ r h => by simp [aI.l0] at h⟩
 | k + 1 => by
  obtain ⟨ih0, ih1⟩ := aI.mono_l k
  refine ⟨?_, ?_⟩ <;> (intros; (first | unfold aI.j0 | unfold aI.l0); exact o5_ ih0 ih1 bu.mono ae.mono bm.mono)
theorem aI.mono : ∀ a0 a1 a2 a3 k, LeO (aI.f k a0 a1 a2 a3) (aI.f (k + 1) a0 a1 a2 a3) := by
 intro a0 a1 a2 a3 k
 obtain ⟨ih0, ih1⟩ := aI.mono_l k
 unfold aI.f
 exact o5_ ih0 ih1 bu.mono ae.mono bm.mono
def aI.T10 : Bool × List (List Nat × List Nat) := (true, [([], []), ([0], [0]), ([], []), ([], []), ([2, 3], [2, 3]), ([], []), ([5], [5]), ([], []), ([7], [7]), ([6, 8], [6, 8]), ([1, 4, 9], [1, 4, 9]), ([10, 1, 0, 1, 2, 3, 4, 5, 6, 7, 8, 9, 10], [10])])
def aI.B10 : List Nat := [0, 1, 0, 0, 12, 0, 32, 0, 128, 480, 1023, 2047]
theorem aI.tab10 : eH .any (fJ Tryz.f44 10) = aI.T10 := by kernel_rfl
theorem aI.bits10 : dw aI.T10.2 aI.B10 = true := by kernel_rfl
theorem aI.calls (k : Nat) (p0 : ByteArray) (n0 : ByteArray) (q0 : Int) (a1 : ByteArray) (r1 : ByteArray) (r2 : ByteArray) (r3 : Int) (w : World) (h : aI.f k p0 n0 q0 a1 = some (r1, r2, r3)) :
  Calls Tryz.prog 44 #[.agg #[.string p0, .string n0, .int .i64 q0], .string a1] w fun e w' => e = .returned (.agg #[.string r1, .string r2, .int .i64 r3]) ∧ Below w.heap.size w w' := by
 have hu68 := Tryz.underlying68
 have HB := c_ (Da w.heap.size w)
 delta aI.f at h
 have H := h
 clear h
 have N1 := c_ H
 clear H
 go_enter Tryz.func44, Tryz.ntmps44
 go_upto_region 1 with (first | ((try (refine bh (by rfl) ?_; dsimp only)); refine bx_ 2 #[.string p0, .string n0, .int .i64 q0] 68 fun e0 w4 hb HB a0 v0 => ?_) | ((try (refine bh (by rfl) ?_; dsimp only)); refine bq_ 4 #[.string (⟨#[]⟩ : ByteArray), .string (⟨#[]⟩ : ByteArray), .int .i64 0] 68 fun f0 w5 hg hb HB d0 x0 => ?_; obtain ⟨a0, b0, k0⟩ := n_ (fK_ a0) <| b_ (by rw [hg]; exact Nat.ne_of_lt (eO (g := e0) (o := .cells #[.string p0, .string n0, .int .i64 q0] 68 (0, 0)) (rK_ a0.o)) : e0 ≠ f0) <| c_ (by rw [hg]; exact Nat.ne_of_gt (eO (g := e0) (o := .cells #[.string p0, .string n0, .int .i64 q0] 68 (0, 0)) (rK_ a0.o)) : f0 ≠ e0); clear hg))
 (try simp only [Act.put, List.setIfInBounds_toArray, List.set_cons_zero, List.set_cons_succ])
 go_cut [19] (fun N2 wc => ∃ (kq : Nat) (B0 : Bool), N2 = .bool B0 ∧ aa (aI.j0 kq a1 B0 p0 n0 q0 = some (r1, r2, r3)) ∧ aa (kq ≤ k) ∧ aa (wc.heap[e0]? = some (.cells #[.string p0, .string n0, .int .i64 q0] 68 (0, 0))) ∧ aa (wc.heap[f0]? = some (.cells #[.string (⟨#[]⟩ : ByteArray), .string (⟨#[]⟩ : ByteArray), .int .i64 0] 68 (0, 0))) ∧ aa (Below w.heap.size w wc))
 case first =>
  have H := N1.o
  clear N1
  obtain ⟨O1, A6, H⟩ := bN_ H
  by_cases c7 : O1 = true
  ·subst c7
   replace H := iT_ H
   have H' := c_ H
   clear H
   have hnb8 := b0.o
   have hnc8 := k0.o
   have P1 : w5.cell? ⟨e0, 0, none⟩ = some (.string p0) := (ak a0.o 0).trans rfl
   have Q1 : w5.cell? ⟨e0, 1, none⟩ = some (.string n0) := (ak a0.o 1).trans rfl
   have R1 : w5.cell? ⟨e0, 2, none⟩ = some (.int .i64 q0) := (ak a0.o 2).trans rfl
   have S1 := ag a0.o 0
   have T1 := ag a0.o 1
   have U1 := ag a0.o 2
   go_wp2_with (first | (refine gc_ (k_ 10 Tryz.func79) (da.calls _ _ _ _ _ A6.o) fun V1 hb => ?_; obtain ⟨a0, d0, HB⟩ := n_ (fK_ a0) <| n_ (fK_ d0) <| sB_; have M0 : V1.cell? ⟨e0, 0, none⟩ = some (.string p0) := (ak a0.o 0).trans rfl; have N0 : V1.cell? ⟨e0, 1, none⟩ = some (.string n0) := (ak a0.o 1).trans rfl; have O0 : V1.cell? ⟨e0, 2, none⟩ = some (.int .i64 q0) := (ak a0.o 2).trans rfl; have P0 := ag a0.o 0; have Q0 := ag a0.o 1; have R0 := ag a0.o 2))
   go_meet
   case rel => exact ⟨_, (decide ((wrap64 (q0 + (a1.size : Int))) > 1000000000)), f0_, H', ⟨by first | omega | exact Ca _⟩, ⟨by refine kK_ ?_; exact a0.o⟩, ⟨by refine kK_ ?_; exact d0.o⟩, ⟨(u2_ v0.o x0.o)⟩⟩
  ·replace c7 := Ea c7
   subst c7
   replace H := iF_ H
   have H' := c_ H
   clear H
   have hnb12 := b0.o
   have hnc12 := k0.o
   have S0 : w5.cell? ⟨e0, 0, none⟩ = some (.string p0) := (ak a0.o 0).trans rfl
   have T0 : w5.cell? ⟨e0, 1, none⟩ = some (.string n0) := (ak a0.o 1).trans rfl
   have U0 : w5.cell? ⟨e0, 2, none⟩ = some (.int .i64 q0) := (ak a0.o 2).trans rfl
   have V0 := ag a0.o 0
   have W0 := ag a0.o 1
   have X0 := ag a0.o 2
   go_wp2_with (first | (refine gc_ (k_ 10 Tryz.func79) (da.calls _ _ _ _ _ A6.o) fun f3 hb => ?_; obtain ⟨a0, d0, HB⟩ := n_ (fK_ a0) <| n_ (fK_ d0) <| sB_))
   go_meet
   case rel => exact ⟨_, (true), f0_, H', ⟨by first | omega | exact Ca _⟩, ⟨by refine kK_ ?_; exact a0.o⟩, ⟨by refine kK_ ?_; exact d0.o⟩, ⟨(u2_ v0.o x0.o)⟩⟩
 clear N1
 obtain ⟨kq, B0, rfl, HA, n2, a0, d0, HB⟩ := hcut
 rcases kq with _ | p2
 ·exact absurd HA.o (by simp [aI.j0])
 have H := HA.o
 clear HA
 simp only [aI.j0] at H
 by_cases Y0 : B0 = true
 ·subst Y0
  replace H := iT_ H
  simp only [Option.some.injEq, Prod.mk.injEq] at H
  obtain ⟨rfl, rfl, rfl⟩ := H
  have hnb16 := b0.o
  have hnc16 := k0.o
  have Z0 : wc.cell? ⟨e0, 0, none⟩ = some (.string p0) := (ak a0.o 0).trans rfl
  have b1 : wc.cell? ⟨e0, 1, none⟩ = some (.string n0) := (ak a0.o 1).trans rfl
  have c1 : wc.cell? ⟨e0, 2, none⟩ = some (.int .i64 q0) := (ak a0.o 2).trans rfl
  have d1 := ag a0.o 0
  have e1 := ag a0.o 1
  have f1 := ag a0.o 2
  have g1 : wc.cell? ⟨f0, 0, none⟩ = some (.string (⟨#[]⟩ : ByteArray)) := (ak d0.o 0).trans rfl
  have i1 : wc.cell? ⟨f0, 1, none⟩ = some (.string (⟨#[]⟩ : ByteArray)) := (ak d0.o 1).trans rfl
  have j1 : wc.cell? ⟨f0, 2, none⟩ = some (.int .i64 0) := (ak d0.o 2).trans rfl
  have l1 := ag d0.o 0
  have m1 := ag d0.o 1
  have n1 := ag d0.o 2
  go_wp2
  refine bodyPost_ret (results_cell_row rfl _ _ f0 68 #[.string p0, .string n0, .int .i64 q0] (0, 0) _ rfl (by refine kK_ ?_; refine ca (cs := #[.string p0, .string n0, .int .i64 0]) ?_ 2 _ rfl; refine kK_ ?_; refine ca (cs := #[.string p0, .string (⟨#[]⟩ : ByteArray), .int .i64 0]) ?_ 1 _ rfl; refine kK_ ?_; refine ca (cs := #[.string (⟨#[]⟩ : ByteArray), .string (⟨#[]⟩ : ByteArray), .int .i64 0]) ?_ 0 _ rfl; exact rK_ d0.o) Tryz.underlying68 rfl (by kernel_rfl)) rfl ?_
  exact ⟨f1_, (u2_ v0.o x0.o)⟩
 ·replace Y0 := Ea Y0
  subst Y0
  replace H := iF_ H
  obtain ⟨X1, O2, H⟩ := bN_ H
  obtain ⟨G0, P2, H⟩ := bN_ H
  obtain ⟨Y1, H⟩ := iN_ H
  have q2 := Aa Y1
  have t2 := ya Y1
  try have v2 : (9223372036854775807 < n0.size + a1.size) = False := eq_false (Nat.not_lt.2 Y1)
  obtain ⟨bf_, hbf_⟩ : ∃ y_ : ByteArray, y_ = n0 ++ a1 := ⟨_, rfl⟩
  rw [← hbf_] at H
  have HBF_ := c_ hbf_
  clear hbf_
  have H' := c_ H
  clear H
  have hnb22 := b0.o
  have hnc22 := k0.o
  have p1 : wc.cell? ⟨e0, 0, none⟩ = some (.string p0) := (ak a0.o 0).trans rfl
  have q1 : wc.cell? ⟨e0, 1, none⟩ = some (.string n0) := (ak a0.o 1).trans rfl
  have t1 : wc.cell? ⟨e0, 2, none⟩ = some (.int .i64 q0) := (ak a0.o 2).trans rfl
  have y1 := ag a0.o 0
  have z1 := ag a0.o 1
  have A1 := ag a0.o 2
  go_wp2_with (first | (refine gR_ (k_ 23 Tryz.func80) (bm.calls _ _ _ _ O2.o) fun Q2 g3 ho_ hb => ?_; obtain ⟨C0, a0, d0, HB⟩ := n_ (lR_ ho_) <| n_ (fK_ a0) <| n_ (fK_ d0) <| sB_) | (refine gR_ (k_ 24 Tryz.func81) (ft.calls _ _ P2.o) fun H0 Z1 ho_ hb => ?_; obtain ⟨C0, I0, a0, d0, HB⟩ := n_ (cJ C0) <| n_ (lR_ (cN ho_ C0)) <| n_ (fK_ a0) <| n_ (fK_ d0) <| sB_; have B1 : Z1.cell? ⟨e0, 0, none⟩ = some (.string p0) := (ak a0.o 0).trans rfl; have C1 : Z1.cell? ⟨e0, 1, none⟩ = some (.string n0) := (ak a0.o 1).trans rfl; have D1 : Z1.cell? ⟨e0, 2, none⟩ = some (.int .i64 q0) := (ak a0.o 2).trans rfl; have E1 := ag a0.o 0; have F1 := ag a0.o 1; have G1 := ag a0.o 2))
  rw [← HBF_.o]
  go_loopg [5, 8] p2 (fun kq v5 v8 w' => ∃ (D0 : List Int) (y0 : Int), v8 = .int .i64 y0 ∧ aa (aI.l0 kq a1 D0 G0 bf_ y0 p0 n0 q0 = some (r1, r2, r3)) ∧ aa (kq ≤ p2) ∧ aa (Kd.R (Kd.int .u32) 78 w' w.heap.size (fun k_ => some k_ ≠ (H0 : Value).ownBlock) v5 D0) ∧ aa (Kd.R (Kd.int .u32) 78 w' w.heap.size (fun k_ => some k_ ≠ (v5 : Value).ownBlock) H0 G0) ∧ aa (w'.heap[e0]? = some (.cells #[.string p0, .string n0, .int .i64 q0] 68 (0, 0))) ∧ aa (w'.heap[f0]? = some (.cells #[.string (⟨#[]⟩ : ByteArray), .string (⟨#[]⟩ : ByteArray), .int .i64 0] 68 (0, 0))) ∧ aa (Below w.heap.size w w'))
  case atStart => exact ⟨(X1), (0), f0_, H', ⟨Ca _⟩, ⟨by refine kR_ ?_; exact uW C0.o (fun _ hk => hk.2)⟩, ⟨by refine kR_ ?_; exact uW I0.o (fun _ hk => hk.2)⟩, ⟨by refine kK_ ?_; exact a0.o⟩, ⟨by refine kK_ ?_; exact d0.o⟩, ⟨(u2_ v0.o x0.o)⟩⟩
  clear H'
  obtain ⟨D0, y0, rfl, HA, y2, r0, t0, a0, d0, HB⟩ := hrel
  rcases gk with _ | k2
  ·exact absurd HA.o (by simp [aI.l0])
  have H := HA.o
  clear HA
  simp only [aI.l0] at H
  by_cases F0 : (wrap64 (y0 + 64)) ≤ (bf_.size : Int)
  ·rw [Fa F0] at H
   have J0 := ya F0
   clear F0
   obtain ⟨b2, H⟩ := iN_ H
   have z2 := Aa b2
   have A2 := ya b2
   clear b2
   obtain ⟨B2, H⟩ := iN_ H
   have C2 := Aa B2
   have D2 := ya B2
   have E2 := Aa (oD_ : (wrap64 (y0 + 64)) ≤ (bf_.size : Int))
   obtain ⟨c2, R2, H⟩ := bN_ H
   have H' := c_ H
   clear H
   obtain ⟨T2, U2, f2⟩ := uV r0.o
   subst f2
   obtain ⟨V2, X2, g2⟩ := uV t0.o
   subst g2
   go_wp2_with (first | (refine gR_ (k_ 41 Tryz.func82) (ae.calls _ _ _ _ _ _ _ _ _ _ (cR_ (uU r0.o).2.2) ((uU r0.o).2.1) (cR_ (uU t0.o).2.2) ((uU t0.o).2.1) R2.o) fun Y2 i3 ho_ hb => ?_; obtain ⟨r0, t0, K0, a0, d0, HB⟩ := n_ (cJ r0) <| n_ (cJ t0) <| n_ (lR_ (cN (cN ho_ r0) t0)) <| n_ (fK_ a0) <| n_ (fK_ d0) <| sB_))
   go_roundg k2
   case measure => have := n2.o; have := y2.o; omega
   case rel => exact ⟨(c2), (wrap64 (y0 + 64)), f0_, H', ⟨by have := n2.o; have := y2.o; omega⟩, ⟨by refine kR_ ?_; exact uW K0.o (fun _ hk => hk.2)⟩, ⟨by refine kR_ ?_; exact uW t0.o (fun _ hk => hk.2)⟩, ⟨by refine kK_ ?_; exact a0.o⟩, ⟨by refine kK_ ?_; exact d0.o⟩, ⟨(u2_ v0.o x0.o)⟩⟩
  rw [Ga F0] at H
  have J0 := za F0
  clear F0
  obtain ⟨E0, Z2, H⟩ := bN_ H
  obtain ⟨i2, H⟩ := iN_ H
  have F2 := Aa i2
  have G2 := ya i2
  clear i2
  obtain ⟨H2, H⟩ := iN_ H
  have I2 := Aa H2
  have J2 := ya H2
  simp only [Option.some.injEq, Prod.mk.injEq] at H
  obtain ⟨rfl, rfl, rfl⟩ := H
  try go_wp2
  obtain ⟨r0, t0, a0, d0, HB⟩ := b_ (vh r0.o) <| b_ (vh t0.o) <| b_ (iG a0.o) <| b_ (iG d0.o) <| c_ (bE HB.o)
  obtain ⟨j2, l2, L0⟩ := uV r0.o
  (first | subst L0 | (injection L0 with f1_ f2_ f3_; have f4_ := f1_.symm; have f5_ := f3_.symm; clear f1_ f2_ f3_; subst f4_; subst f5_))
  refine eI (n := 12) (S := fun w' => w'.cell? ⟨e0, 0, none⟩ = some (.string p0) ∧ w'.cell? ⟨e0, 1, none⟩ = some (.string n0) ∧ w'.cell? ⟨e0, 2, none⟩ = some (.int .i64 q0)) (ds := []) (bb_ 12 0) (by kernel_rfl) rfl rfl ⟨(ak a0.o 0).trans rfl, (ak a0.o 1).trans rfl, (ak a0.o 2).trans rfl⟩ (fun hHeld => ?_); refine cW aI.tab10 aI.bits10 (fun HT_ HW_ => ?_)
  generalize wr.drew = l3 at r0 t0 a0 d0 HB hHeld ⊢
  refine pT_ 0 44 12 1 ?_
  refine pT_ 2 46 12 5 ?_
  refine pT_ 3 47 12 13 ?_
  refine pT_ 4 48 12 29 ?_
  refine pT_ 5 49 12 61 ?_
  refine pT_ 7 51 12 189 ?_
  refine pT_ 8 52 12 445 ?_
  refine tS_ 6 50 (bb_ 12 509) (bF HT_.o HW_.o (by kernel_rfl)) hHeld ?_
  refine pT_ 9 53 12 1021 ?_
  refine gh (i := 1) (N := some 45) (bb_ 12 1023) rfl rfl (cO HT_.o (by kernel_rfl)) (by decide) (fun K hK => ?_)
  refine fX Tryz.func83 (by kernel_rfl) rfl #[.slice j2 D0.length l2] (by rfl) rfl rfl aM_ ?_
  with_reducible refine (bu.calls k2 _ _ D0 E0 _ ?side1 ?side2 Z2.o).mono ?_
  (case side1 => exact cR_ (uU r0.o).2.2)
  (case side2 => exact (uU r0.o).2.1)
  rintro e m2 ⟨rfl, hb⟩
  refine ⟨_, rfl, ?_⟩
  obtain ⟨r0, t0, a0, d0, HB⟩ := n_ (fR_ r0) <| n_ (fR_ t0) <| n_ (fK_ a0) <| n_ (fK_ d0) <| sB_
  refine hK _ _ ⟨(ak a0.o 0).trans rfl, (ak a0.o 1).trans rfl, (ak a0.o 2).trans rfl⟩ (fun hHeld => ?_)
  clear hK K
  refine er (a' := ?_) ?_ ?_
  rotate_left
  ·show Act.put _ (some 45) _ = _
   simp only [Act.put, List.setIfInBounds_toArray, List.set_cons_zero, List.set_cons_succ, bB, cG]
   rfl
  refine pT_ 10 54 12 2047 ?_
  refine gh (i := 11) (N := none) (bb_ 12 4095) rfl rfl (cO HT_.o (by kernel_rfl)) (by decide) (fun K hK => ?_)
  have b3 : m2.cell? ⟨f0, 0, none⟩ = some (.string (⟨#[]⟩ : ByteArray)) := (ak d0.o 0).trans rfl
  have K2 := ag d0.o 0
  have H1 := b0.o
  have I1 := k0.o
  have c3 : m2.cell? ⟨f0, 1, none⟩ = some (.string (⟨#[]⟩ : ByteArray)) := (ak d0.o 1).trans rfl
  have L2 := ag d0.o 1
  have J1 := b0.o
  have K1 := k0.o
  have e3 : m2.cell? ⟨f0, 2, none⟩ = some (.int .i64 0) := (ak d0.o 2).trans rfl
  have M2 := ag d0.o 2
  have L1 := b0.o
  have M1 := k0.o
  refine js (w1 := ?_) (by rfl) rfl ?_ ?_
  rotate_left
  ·go_simp
   rfl
  refine hK _ _ ⟨((fN (p := ⟨f0, _, none⟩) b0.o _).trans (((fN (p := ⟨f0, _, none⟩) b0.o _).trans (((fN (p := ⟨f0, _, none⟩) b0.o _).trans (hHeld.1)))))), ((fN (p := ⟨f0, _, none⟩) b0.o _).trans (((fN (p := ⟨f0, _, none⟩) b0.o _).trans (((fN (p := ⟨f0, _, none⟩) b0.o _).trans (hHeld.2.1)))))), ((fN (p := ⟨f0, _, none⟩) b0.o _).trans (((fN (p := ⟨f0, _, none⟩) b0.o _).trans (((fN (p := ⟨f0, _, none⟩) b0.o _).trans (hHeld.2.2))))))⟩ (fun hHeld => ?_)
  clear hK K
  refine fK (dN HT_.o (by kernel_rfl)) ?_
  try go_wp2
  refine bodyPost_ret (results_cell_row rfl _ _ f0 68 #[.string E0, .string (bf_.extract (y0 : Int).toNat bf_.size), .int .i64 (wrap64 (q0 + (a1.size : Int)))] (0, 0) _ rfl (by refine kK_ ?_; refine ca (cs := #[.string E0, .string (bf_.extract (y0 : Int).toNat bf_.size), .int .i64 0]) ?_ 2 _ rfl; refine kK_ ?_; refine ca (cs := #[.string E0, .string (⟨#[]⟩ : ByteArray), .int .i64 0]) ?_ 1 _ rfl; refine kK_ ?_; refine ca (cs := #[.string (⟨#[]⟩ : ByteArray), .string (⟨#[]⟩ : ByteArray), .int .i64 0]) ?_ 0 _ rfl; exact rK_ d0.o) Tryz.underlying68 rfl (by kernel_rfl)) rfl ?_
  exact ⟨f1_, (u2_ v0.o x0.o)⟩
def fq.f  : Option (List Int) := some (([1779033703, 3144134277, 1013904242, 2773480762, 1359893119, 2600822924, 528734635, 1541459225] : List Int))
theorem fq.calls  (r : List Int) (w : World) (h : fq.f  = some r) :
  Calls Tryz.prog 84 #[] w fun e w' => ∃ e0 : Value, e = .returned (e0) ∧ Kd.R (Kd.int .u32) 78 w' w.heap.size (fun _ => True) e0 r ∧ Below w.heap.size w w' := by
 have HB := c_ (Da w.heap.size w)
 delta fq.f at h
 have H := h
 clear h
 obtain ⟨f0, a0⟩ : ∃ y_ : List Int, y_ = (([1779033703, 3144134277, 1013904242, 2773480762, 1359893119, 2600822924, 528734635, 1541459225] : List Int)) := ⟨_, rfl⟩
 first | replace H := yb_ a0 H | rw [← a0] at H
 have b0 := c_ a0
 clear a0
 obtain rfl := Ba H
 go_enter Tryz.func84, Tryz.ntmps84
 go_wp2_with (first | (refine lj_ 1 .u32 78 b0 fun j0 w1 d0 HB => ?_))
 go_ret
 exact ⟨_, f1_, rR_ d0.o, hB_⟩
def cU.f (k : Nat)  : Option (ByteArray × ByteArray × Int) := (fq.f).bind fun t192 => ((bu.f k t192).bind fun t195 => (some (t195, (⟨#[]⟩ : ByteArray), 0)))
theorem cU.mono : ∀ k, LeO (cU.f k ) (cU.f (k + 1) ) := by
 intro  k
 unfold cU.f
 exact o1_ bu.mono
theorem cU.calls (k : Nat)  (r1 : ByteArray) (r2 : ByteArray) (r3 : Int) (w : World) (h : cU.f k  = some (r1, r2, r3)) :
  Calls Tryz.prog 45 #[] w fun e w' => e = .returned (.agg #[.string r1, .string r2, .int .i64 r3]) ∧ Below w.heap.size w w' := by
 have hu68 := Tryz.underlying68
 have HB := c_ (Da w.heap.size w)
 delta cU.f at h
 have H := h
 clear h
 obtain ⟨t0, A1, H⟩ := bN_ H
 obtain ⟨e0, A2, H⟩ := bN_ H
 simp only [Option.some.injEq, Prod.mk.injEq] at H
 obtain ⟨rfl, rfl, rfl⟩ := H
 go_enter Tryz.func45, Tryz.ntmps45
 go_wp2_with (first | (refine bx_ 0 #[.string (⟨#[]⟩ : ByteArray), .string (⟨#[]⟩ : ByteArray), .int .i64 0] 68 fun d0 w3 hb HB a0 f0 => ?_) | (refine gR_ (k_ 1 Tryz.func84) (fq.calls _ _ A1.o) fun v0 w4 ho_ hb => ?_; obtain ⟨b0, a0, HB⟩ := n_ (lR_ ho_) <| n_ (fK_ a0) <| sB_; obtain ⟨y0, B0, x0⟩ := uV b0.o; subst x0) | (refine gc_ (k_ 2 Tryz.func83) (bu.calls _ _ _ _ _ _ (cR_ (uU b0.o).2.2) ((uU b0.o).2.1) A2.o) fun w6 hb => ?_; obtain ⟨b0, a0, HB⟩ := n_ (fR_ b0) <| n_ (fK_ a0) <| sB_; have j0 : w6.cell? ⟨d0, 0, none⟩ = some (.string (⟨#[]⟩ : ByteArray)) := (ak a0.o 0).trans rfl; have k0 : w6.cell? ⟨d0, 1, none⟩ = some (.string (⟨#[]⟩ : ByteArray)) := (ak a0.o 1).trans rfl; have n0 : w6.cell? ⟨d0, 2, none⟩ = some (.int .i64 0) := (ak a0.o 2).trans rfl; have p0 := ag a0.o 0; have q0 := ag a0.o 1; have r0 := ag a0.o 2))
 refine bodyPost_ret (results_cell_row rfl _ _ d0 68 #[.string e0, .string (⟨#[]⟩ : ByteArray), .int .i64 0] (0, 0) _ rfl (by refine kK_ ?_; refine ca (cs := #[.string e0, .string (⟨#[]⟩ : ByteArray), .int .i64 0]) ?_ 2 _ rfl; refine kK_ ?_; refine ca (cs := #[.string e0, .string (⟨#[]⟩ : ByteArray), .int .i64 0]) ?_ 1 _ rfl; refine kK_ ?_; refine ca (cs := #[.string (⟨#[]⟩ : ByteArray), .string (⟨#[]⟩ : ByteArray), .int .i64 0]) ?_ 0 _ rfl; exact rK_ a0.o) Tryz.underlying68 rfl (by kernel_rfl)) rfl ?_
 exact ⟨f1_, hS_ f0.o⟩
def ck.f (s0_0 : List Int) (s0_1 : Int) (s0_2 : Int) : Option (Int × Int × Int) := if s0_1 < (s0_0.length : Int) then (if 0 ≤ s0_1 then (some (Go.bits .and .i64 (wrap64 ((Go.bits .and .i64 (Go.bits .xor .i64 ((wrap64 ((wrap64 (s0_2 * 6364136223846793005)) + 1442695040888963407)) / 8589934592) ((wrap64 ((wrap64 (s0_2 * 6364136223846793005)) + 1442695040888963407)) / 35184372088832)) 255) + (wrap64 (rd s0_0 s0_1)))) 255, wrap64 (s0_1 + 1), wrap64 ((wrap64 (s0_2 * 6364136223846793005)) + 1442695040888963407))) else (none)) else (some (Go.bits .and .i64 (Go.bits .xor .i64 ((wrap64 ((wrap64 (s0_2 * 6364136223846793005)) + 1442695040888963407)) / 8589934592) ((wrap64 ((wrap64 (s0_2 * 6364136223846793005)) + 1442695040888963407)) / 35184372088832)) 255, s0_1, wrap64 ((wrap64 (s0_2 * 6364136223846793005)) + 1442695040888963407)))
theorem ck.calls (g : Nat) (d0 : List Int) (b0 : Int) (e0 : Int) (r1 : Int) (r2 : Int) (r3 : Int) (w0 w : World) (hI : bx w0 w g d0 b0 e0) (hB : Below w0.heap.size w0 w) (h : ck.f d0 b0 e0 = some (r1, r2, r3)) :
  Calls Tryz.prog 25 #[.pointer (some ⟨g, 0, none⟩)] w fun e w' => e = .returned (.int .i64 r1) ∧ bx w0 w' g d0 r2 r3 ∧ Below w0.heap.size w0 w' ∧ cD w w' g none := by
 have HI0 := c_ hI
 have HK := c_ (cD.refl w g none)
 have HL := c_ hB.size
 clear hI
 have HW0 := c_ hB.size
 have HB := c_ hB
 clear hB
 delta ck.f at h
 have H := h
 clear h
 by_cases c2 : b0 < (d0.length : Int)
 ·rw [Fa c2] at H
  have p0 := ya c2
  clear c2
  obtain ⟨G0, H⟩ := iD_ H
  simp only [Option.some.injEq, Prod.mk.injEq] at H
  obtain ⟨rfl, rfl, rfl⟩ := H
  obtain ⟨ASz4_0, cSz4_0, HGz4, hgz4, HSz4_0⟩ := HI0.o
  have q0 := nB HGz4
  have r0 := nw HGz4
  have t0 := nA HGz4
  have v0 := ag HGz4 1
  have x0 := ag HGz4 2
  clear HGz4 hgz4
  have f0 : 0 ≤ (b0 : Int) := oD_
  have j0 : b0 < (d0.length : Int) := oD_
  obtain ⟨k0, y0, a0⟩ := uX HSz4_0 b0 f0 j0
  cases y0
  have hn203_0 : k0.block ≠ g := Nat.ne_of_lt (Nat.lt_of_lt_of_le (by have := World.block_lt_of_cell? _ _ a0; first | rwa [kG] at this | exact this) (bx.ge HI0.o))
  replace a0 := ie HB.o a0
  replace a0 := (fN (p := ⟨g, 2, none⟩) (by first | (rw [kG]; exact hn203_0) | (show (Addr.add _ _).block ≠ _; rw [kG]; exact hn203_0) | exact hn203_0) (.int .i64 (wrap64 ((wrap64 (e0 * 6364136223846793005)) + 1442695040888963407)))).trans a0
  (try have n0 := fun (n_ : Nat) => (show (((w.drewN n_).setCell ⟨g, 2, none⟩ (.int .i64 (wrap64 ((wrap64 (e0 * 6364136223846793005)) + 1442695040888963407))))).cell? _ = some _ from a0))
  clear hn203_0
  replace f0 := Aa f0
  replace j0 := Aa j0
  go_enter Tryz.func25, Tryz.ntmps25
  go_wp2
  repeat (go_quiet (fail); try go_wp2)
  go_ret
  exact ⟨f1_, (u3_), (u4_ (bx.ge HI0.o)), (u5_)⟩
 rw [Ga c2] at H
 have p0 := za c2
 clear c2
 simp only [Option.some.injEq, Prod.mk.injEq] at H
 obtain ⟨rfl, rfl, rfl⟩ := H
 obtain ⟨ASz5_0, cSz5_0, HGz5, hgz5, HSz5_0⟩ := HI0.o
 have B0 := nB HGz5
 have C0 := nw HGz5
 have D0 := nA HGz5
 have E0 := ag HGz5 1
 have F0 := ag HGz5 2
 clear HGz5 hgz5
 go_enter Tryz.func25, Tryz.ntmps25
 go_wp2
 repeat (go_quiet (fail); try go_wp2)
 go_ret
 exact ⟨f1_, (u3_), (u4_ (bx.ge HI0.o)), (u5_)⟩
mutual
def bk.j0 : Nat → Int → List Int → Int → Int → Option (ByteArray × Int × Int)
 | 0, _, _, _, _ => none
 | k + 1, x1, x1000, x1001, x1002 => bk.l0 k x1 (([] : List Int)) 0 x1000 x1001 x1002
def bk.l0 : Nat → Int → List Int → Int → List Int → Int → Int → Option (ByteArray × Int × Int)
 | 0, _, _, _, _, _, _ => none
 | k + 1, x1, x5, x6, x1000, x1001, x1002 => if x6 < x1 then ((ck.f x1000 x1001 x1002).bind fun bt207 => (if x5.length < 140737488355328 then (bk.l0 k x1 (x5 ++ [(bt207.1) % 256]) (wrap64 (x6 + 1)) x1000 bt207.2.1 bt207.2.2) else (none))) else (some (strOfNums x5, x1001, x1002))
end
def bk.f (k : Nat) (s0_0 : List Int) (s0_1 : Int) (s0_2 : Int) (a1 : Int) : Option (ByteArray × Int × Int) := if a1 > 5000 then (bk.j0 k 5000 s0_0 s0_1 s0_2) else (bk.j0 k a1 s0_0 s0_1 s0_2)
theorem bk.mono_l : ∀ k, (∀ y0 y1 y2 y3, LeO (bk.j0 k y0 y1 y2 y3) (bk.j0 (k + 1) y0 y1 y2 y3)) ∧ (∀ y0 y1 y2 y3 y4 y5, LeO (bk.l0 k y0 y1 y2 y3 y4 y5) (bk.l0 (k + 1) y0 y1 y2 y3 y4 y5))
 | 0 => ⟨fun _ _ _ _ r h => by simp [bk.j0] at h, fun _ _ _ _ _ _ r h => by simp [bk.l0] at h⟩
 | k + 1 => by
  obtain ⟨ih0, ih1⟩ := bk.mono_l k
  refine ⟨?_, ?_⟩ <;> (intros; (first | unfold bk.j0 | unfold bk.l0); exact o2_ ih0 ih1)
theorem bk.mono : ∀ a0 a1 a2 a3 k, LeO (bk.f k a0 a1 a2 a3) (bk.f (k + 1) a0 a1 a2 a3) := by
 intro a0 a1 a2 a3 k
 obtain ⟨ih0, ih1⟩ := bk.mono_l k
 unfold bk.f
 exact o2_ ih0 ih1
theorem bk.calls (k : Nat) (g : Nat) (d0 : List Int) (n0 : Int) (p0 : Int) (a1 : Int) (r1 : ByteArray) (r2 : Int) (r3 : Int) (w0 w : World) (hI : bx w0 w g d0 n0 p0) (hB : Below w0.heap.size w0 w) (h : bk.f k d0 n0 p0 a1 = some (r1, r2, r3)) :
  Calls Tryz.prog 16 #[.pointer (some ⟨g, 0, none⟩), .int .i64 a1] w fun e w' => e = .returned (.string r1) ∧ bx w0 w' g d0 r2 r3 ∧ Below w0.heap.size w0 w' ∧ cD w w' g none := by
 have HI0 := c_ hI
 have HK := c_ (cD.refl w g none)
 have HL := c_ hB.size
 clear hI
 have HW0 := c_ hB.size
 have HB := c_ hB
 clear hB
 delta bk.f at h
 have H := h
 clear h
 have E0 := c_ H
 clear H
 go_enter Tryz.func16, Tryz.ntmps16
 go_upto_if 8 with (fail)
 go_cut [1] (fun v1 wc => ∃ (kq : Nat) (q0 : Int), v1 = .int .i64 q0 ∧ aa (bk.j0 kq q0 d0 n0 p0 = some (r1, r2, r3)) ∧ aa (kq ≤ k) ∧ aa (bx w0 wc g d0 n0 p0) ∧ aa (cD w wc g none) ∧ aa (Below w0.heap.size w0 wc))
 case first =>
  have H := E0.o
  clear E0
  by_cases c4 : a1 > 5000
  ·rw [Fa c4] at H
   have r0 := ya c4
   clear c4
   (first | rw [r0] | (simp only [bB, cG]; rw [r0]) | skip)
   have H' := c_ H
   clear H
   go_wp2
   go_meet
   case rel => exact ⟨_, (5000), f0_, H', ⟨by first | omega | exact Ca _⟩, ⟨(u3_)⟩, ⟨(u5_)⟩, ⟨(u4_ (bx.ge HI0.o))⟩⟩
  rw [Ga c4] at H
  have r0 := za c4
  clear c4
  (first | rw [r0] | (simp only [bB, cG]; rw [r0]) | skip)
  have H' := c_ H
  clear H
  go_wp2
  go_meet
  case rel => exact ⟨_, (a1), f0_, H', ⟨by first | omega | exact Ca _⟩, ⟨(u3_)⟩, ⟨(u5_)⟩, ⟨(u4_ (bx.ge HI0.o))⟩⟩
 clear E0
 obtain ⟨kq, q0, rfl, HA, L0, HI0, HK, HB⟩ := hcut
 rcases kq with _ | M0
 ·exact absurd HA.o (by simp [bk.j0])
 have H := HA.o
 clear HA
 simp only [bk.j0] at H
 obtain ⟨F0, e0⟩ : ∃ y_ : List Int, y_ = (([] : List Int)) := ⟨_, rfl⟩
 first | replace H := yb_ e0 H | rw [← e0] at H
 have y0 := c_ e0
 clear e0
 have H' := c_ H
 clear H
 go_wp2_with (first | (refine li_ 9 .u8 5 y0 fun P0 w5 ho_ hb => ?_; obtain ⟨B0, HI0, HK, HB⟩ := b_ (uY ho_ (nF (w := w) (g := g) (row := none) ((u5_)))) <| b_ (bx.below ((u3_)) hb) <| b_ (cD.trans ((u5_)) (cD.of_below hb g none) (.inl rfl)) <| c_ (du ((u4_ (bx.ge HI0.o))) hb)))
 go_loopg [5, 6] M0 (fun kq v5 v6 w' => ∃ (t0 : List Int) (v0 : Int) (a0 : Int) (b0 : Int), v6 = .int .i64 v0 ∧ aa (bk.l0 kq q0 t0 v0 d0 a0 b0 = some (r1, r2, r3)) ∧ aa (kq ≤ M0) ∧ aa (Kd.R (Kd.int .u8) 5 w' w.heap.size (fun _ => True) v5 t0) ∧ aa (bx w0 w' g d0 a0 b0) ∧ aa (cD w w' g none) ∧ aa (Below w0.heap.size w0 w'))
 case atStart => exact ⟨(F0), (0), (n0), (p0), f0_, H', ⟨Ca _⟩, ⟨rR_ B0.o⟩, ⟨(u3_)⟩, ⟨(u5_)⟩, ⟨(u4_ (bx.ge HI0.o))⟩⟩
 clear H'
 obtain ⟨t0, v0, a0, b0, rfl, HA, N0, k0, HI0, HK, HB⟩ := hrel
 rcases gk with _ | k2
 ·exact absurd HA.o (by simp [bk.l0])
 have H := HA.o
 clear HA
 simp only [bk.l0] at H
 by_cases c7 : v0 < q0
 ·rw [Fa c7] at H
  have G0 := ya c7
  clear c7
  obtain ⟨⟨x0, H0, I0⟩, A8, H⟩ := bN_ H
  obtain ⟨c9, H⟩ := iN_ H
  have J0 := c_ c9
  clear c9
  obtain ⟨K0, f0⟩ : ∃ y_ : List Int, y_ = (t0 ++ [(x0) % 256]) := ⟨_, rfl⟩
  first | replace H := yb_ f0 H | rw [← f0] at H
  have C0 := c_ f0
  clear f0
  have H' := c_ H
  clear H
  go_wp2_with (first | (refine gr_ (k_ 17 Tryz.func25) (ck.calls g _ _ _ _ _ _ w0 _ u3_ (u4_ (bx.ge HI0.o)) A8.o) ?_; rintro e R0 ⟨rfl, hi, hb, hk⟩; refine ⟨_, rfl, ?_⟩; obtain ⟨k0, HK, HB, HI0⟩ := b_ (uW (xe (bx.apart (show bx w0 _ g d0 a0 b0 from (u3_)) (rR_ k0.o) (by decide)) hk (fun _ h => h.2)) (fun _ h => h.1)) <| b_ (cD.trans ((u5_)) hk (.inl rfl)) <| b_ (hb) <| c_ (hi); (try clear hi)) | ((refine cr (b := .append) (xs := #[.tmp 15, .tmp 19]) rfl ?_); at_builtin; refine vK (Kd.int .u8) w.heap.size rfl (.tmp 15) (.tmp 19) 22 5 (.int .u8 0) 1 rfl Tryz.underlying22 jj rfl (by decide) (by omega) u5 t0 ((x0) % 256) [.int .u8 ((x0) % 256)] (fun _ => True) (fun _ => False) rfl rfl ?aP (fun _ hk => hk.elim) ?aF ?aO (Da _ _) ?aS ?aL ?_; (case aP => exact rfl); (case aF => exact (fun _ _ => trivial)); (case aO => exact (rR_ k0.o)); (case aS => exact (nF (w := w) (g := g) (row := none) ((u5_)))); (case aL => have := J0.o; omega); intro Q0 S0 ho hb hg hat; rw [← C0.o] at ho; obtain ⟨HI0, HB, HK, D0⟩ := b_ (bx.grown ((u3_)) hg (bx.own_ne HI0.o k0.o (by decide))) <| b_ (nX ((u4_ (bx.ge HI0.o))) HL.o hb) <| b_ (cD.trans ((u5_)) (cD.of_grown hg g) (xk k0.o)) <| c_ (ho); clear ho hb hg hat))
  go_roundg k2
  case measure => have := L0.o; have := N0.o; omega
  case rel => exact ⟨(K0), (wrap64 (v0 + 1)), (H0), (I0), f0_, H', ⟨by have := L0.o; have := N0.o; omega⟩, ⟨rR_ D0.o⟩, ⟨(u3_)⟩, ⟨(u5_)⟩, ⟨(u4_ (bx.ge HI0.o))⟩⟩
 rw [Ga c7] at H
 have G0 := za c7
 clear c7
 simp only [Option.some.injEq, Prod.mk.injEq] at H
 obtain ⟨rfl, rfl, rfl⟩ := H
 have O0 := d4 (P := Tryz.prog) Tryz.underlying22 Tryz.underlying5 Tryz.underlying9 (vl k0.o)
 go_wp2
 go_ret
 exact ⟨f1_, (u3_), (u4_ (bx.ge HI0.o)), (u5_)⟩
def dj.f (s0_0 : List Int) (s0_1 : Int) (s0_2 : Int) (a1 : Int) : Option (Int × Int × Int) := if a1 ≤ 0 then (some (0, s0_1, s0_2)) else (if a1 ≤ 256 then ((ck.f s0_0 s0_1 s0_2).bind fun bt213 => (if a1 = 0 then (none) else (some (Int.tmod bt213.1 a1, bt213.2.1, bt213.2.2)))) else ((ck.f s0_0 s0_1 s0_2).bind fun bt216 => ((ck.f s0_0 bt216.2.1 bt216.2.2).bind fun bt219 => ((ck.f s0_0 bt219.2.1 bt219.2.2).bind fun bt222 => ((ck.f s0_0 bt222.2.1 bt222.2.2).bind fun bt225 => (if a1 = 0 then (none) else (some (Int.tmod (wrap64 ((wrap64 ((wrap64 ((wrap64 (bt216.1 * 16777216)) + (wrap64 (bt219.1 * 65536)))) + (wrap64 (bt222.1 * 256)))) + bt225.1)) a1, bt225.2.1, bt225.2.2))))))))
theorem dj.calls (g : Nat) (a0 : List Int) (b0 : Int) (d0 : Int) (a1 : Int) (r1 : Int) (r2 : Int) (r3 : Int) (w0 w : World) (hI : bx w0 w g a0 b0 d0) (hB : Below w0.heap.size w0 w) (h : dj.f a0 b0 d0 a1 = some (r1, r2, r3)) :
  Calls Tryz.prog 17 #[.pointer (some ⟨g, 0, none⟩), .int .i64 a1] w fun e w' => e = .returned (.int .i64 r1) ∧ bx w0 w' g a0 r2 r3 ∧ Below w0.heap.size w0 w' ∧ cD w w' g none := by
 have HI0 := c_ hI
 have HK := c_ (cD.refl w g none)
 have HL := c_ hB.size
 clear hI
 have HW0 := c_ hB.size
 have HB := c_ hB
 clear hB
 delta dj.f at h
 have H := h
 clear h
 by_cases c3 : a1 ≤ 0
 ·rw [Fa c3] at H
  have f0 := ya c3
  clear c3
  simp only [Option.some.injEq, Prod.mk.injEq] at H
  obtain ⟨rfl, rfl, rfl⟩ := H
  go_enter Tryz.func17, Tryz.ntmps17
  go_wp2
  go_ret
  exact ⟨f1_, (u3_), (u4_ (bx.ge HI0.o)), (u5_)⟩
 rw [Ga c3] at H
 have f0 := za c3
 clear c3
 by_cases c4 : a1 ≤ 256
 ·rw [Fa c4] at H
  have j0 := ya c4
  clear c4
  obtain ⟨⟨p0, q0, r0⟩, A5, H⟩ := bN_ H
  by_cases c6 : a1 = 0
  ·rw [Fa c6] at H
   exact absurd H (by simp)
  rw [Ga c6] at H
  have t0 : (a1 == 0) = false := beq_eq_false_iff_ne.mpr c6
  have v0 : (a1 != 0) = true := bne_iff_ne.mpr c6
  simp only [Option.some.injEq, Prod.mk.injEq] at H
  obtain ⟨rfl, rfl, rfl⟩ := H
  go_enter Tryz.func17, Tryz.ntmps17
  go_wp2_with (first | (refine gr_ (k_ 14 Tryz.func25) (ck.calls g _ _ _ _ _ _ w0 _ u3_ (u4_ (bx.ge HI0.o)) A5.o) ?_; rintro e w7 ⟨rfl, hi, hb, hk⟩; refine ⟨_, rfl, ?_⟩; obtain ⟨HK, HB, HI0⟩ := b_ (cD.trans ((u5_)) hk (.inl rfl)) <| b_ (hb) <| c_ (hi); (try clear hi)))
  go_ret
  exact ⟨f1_, (u3_), (u4_ (bx.ge HI0.o)), (u5_)⟩
 rw [Ga c4] at H
 have j0 := za c4
 clear c4
 obtain ⟨⟨x0, y0, B0⟩, A8, H⟩ := bN_ H
 obtain ⟨⟨C0, D0, E0⟩, A9, H⟩ := bN_ H
 obtain ⟨⟨F0, G0, H0⟩, I0, H⟩ := bN_ H
 obtain ⟨⟨J0, K0, L0⟩, M0, H⟩ := bN_ H
 by_cases e0 : a1 = 0
 ·rw [Fa e0] at H
  exact absurd H (by simp)
 rw [Ga e0] at H
 have k0 : (a1 == 0) = false := beq_eq_false_iff_ne.mpr e0
 have n0 : (a1 != 0) = true := bne_iff_ne.mpr e0
 simp only [Option.some.injEq, Prod.mk.injEq] at H
 obtain ⟨rfl, rfl, rfl⟩ := H
 go_enter Tryz.func17, Tryz.ntmps17
 go_wp2_with (first | (refine gr_ (k_ 18 Tryz.func25) (ck.calls g _ _ _ _ _ _ w0 _ u3_ (u4_ (bx.ge HI0.o)) A8.o) ?_; rintro e N0 ⟨rfl, hi, hb, hk⟩; refine ⟨_, rfl, ?_⟩; obtain ⟨HK, HB, HI0⟩ := b_ (cD.trans ((u5_)) hk (.inl rfl)) <| b_ (hb) <| c_ (hi); (try clear hi)) | (refine gr_ (k_ 20 Tryz.func25) (ck.calls g _ _ _ _ _ _ w0 _ u3_ (u4_ (bx.ge HI0.o)) A9.o) ?_; rintro e O0 ⟨rfl, hi, hb, hk⟩; refine ⟨_, rfl, ?_⟩; obtain ⟨HK, HB, HI0⟩ := b_ (cD.trans ((u5_)) hk (.inl rfl)) <| b_ (hb) <| c_ (hi); (try clear hi)) | (refine gr_ (k_ 22 Tryz.func25) (ck.calls g _ _ _ _ _ _ w0 _ u3_ (u4_ (bx.ge HI0.o)) I0.o) ?_; rintro e P0 ⟨rfl, hi, hb, hk⟩; refine ⟨_, rfl, ?_⟩; obtain ⟨HK, HB, HI0⟩ := b_ (cD.trans ((u5_)) hk (.inl rfl)) <| b_ (hb) <| c_ (hi); (try clear hi)) | (refine gr_ (k_ 24 Tryz.func25) (ck.calls g _ _ _ _ _ _ w0 _ u3_ (u4_ (bx.ge HI0.o)) M0.o) ?_; rintro e Q0 ⟨rfl, hi, hb, hk⟩; refine ⟨_, rfl, ?_⟩; obtain ⟨HK, HB, HI0⟩ := b_ (cD.trans ((u5_)) hk (.inl rfl)) <| b_ (hb) <| c_ (hi); (try clear hi)))
 go_ret
 exact ⟨f1_, (u3_), (u4_ (bx.ge HI0.o)), (u5_)⟩
def cS.f (a0 : Int) : Option (ByteArray) := if (Int.tmod a0 256) < 0 then (some (strOfNums (([(wrap64 ((Int.tmod a0 256) + 256)) % 256] : List Int)))) else (some (strOfNums (([(Int.tmod a0 256) % 256] : List Int))))
theorem cS.calls (a0 : Int) (r : ByteArray) (w : World) (h : cS.f a0 = some r) :
  Calls Tryz.prog 51 #[.int .i64 a0] w fun e w' => e = .returned (.string r) ∧ Below w.heap.size w w' := by
 have HB := c_ (Da w.heap.size w)
 delta cS.f at h
 have H := h
 clear h
 by_cases c2 : (Int.tmod a0 256) < 0
 ·rw [Fa c2] at H
  have n0 := ya c2
  clear c2
  obtain ⟨p0, b0⟩ : ∃ y_ : List Int, y_ = (([(wrap64 ((Int.tmod a0 256) + 256)) % 256] : List Int)) := ⟨_, rfl⟩
  first | replace H := yb_ b0 H | rw [← b0] at H
  have e0 := c_ b0
  clear b0
  obtain rfl := Ba H
  go_enter Tryz.func51, Tryz.ntmps51
  go_wp2_with (first | (refine lj_ 11 .u8 5 e0 fun q0 w3 f0 HB => ?_; have r0 := d4 (P := Tryz.prog) Tryz.underlying22 Tryz.underlying5 Tryz.underlying9 (vl f0.o)))
  go_ret
  exact ⟨f1_, hB_⟩
 rw [Ga c2] at H
 have n0 := za c2
 clear c2
 obtain ⟨t0, d0⟩ : ∃ y_ : List Int, y_ = (([(Int.tmod a0 256) % 256] : List Int)) := ⟨_, rfl⟩
 first | replace H := yb_ d0 H | rw [← d0] at H
 have j0 := c_ d0
 clear d0
 obtain rfl := Ba H
 go_enter Tryz.func51, Tryz.ntmps51
 go_wp2_with (first | (refine lj_ 11 .u8 5 j0 fun v0 w6 k0 HB => ?_; have x0 := d4 (P := Tryz.prog) Tryz.underlying22 Tryz.underlying5 Tryz.underlying9 (vl k0.o)))
 go_ret
 exact ⟨f1_, hB_⟩
mutual
def aN.l0 : Nat → ByteArray → List Int → Int → Option (List Int)
 | 0, _, _, _ => none
 | k + 1, x0, x3, x4 => if (wrap64 (x4 + 8)) ≤ (x0.size : Int) then (aN.l1 k x0 x3 x4 0 7) else (some x3)
def aN.l1 : Nat → ByteArray → List Int → Int → Int → Int → Option (List Int)
 | 0, _, _, _, _, _ => none
 | k + 1, x0, x3, x4, x5, x6 => if x6 ≥ 0 then (if 0 ≤ (wrap64 (x4 + x6)) then (if (wrap64 (x4 + x6)) < (x0.size : Int) then (aN.l1 k x0 x3 x4 (IntKind.u64.wrap ((IntKind.u64.wrap (x5 * 256)) + (IntKind.u64.wrap (bt x0 (wrap64 (x4 + x6)))))) (wrap64 (x6 - 1))) else (none)) else (none)) else (if x3.length < 17592186044416 then (aN.l0 k x0 (x3 ++ [x5]) (wrap64 (x4 + 8))) else (none))
end
def aN.f (k : Nat) (a0 : ByteArray) : Option (List Int) := aN.l0 k a0 (([] : List Int)) 0
theorem aN.mono_l : ∀ k, (∀ y0 y1 y2, LeO (aN.l0 k y0 y1 y2) (aN.l0 (k + 1) y0 y1 y2)) ∧ (∀ y0 y1 y2 y3 y4, LeO (aN.l1 k y0 y1 y2 y3 y4) (aN.l1 (k + 1) y0 y1 y2 y3 y4))
 | 0 => ⟨fun _ _ _ r h => by simp [aN.l0] at h, fun _ _ _ _ _ r h => by simp [aN.l1] at h⟩
 | k + 1 => by
  obtain ⟨ih0, ih1⟩ := aN.mono_l k
  refine ⟨?_, ?_⟩ <;> (intros; (first | unfold aN.l0 | unfold aN.l1); exact o2_ ih0 ih1)
theorem aN.mono : ∀ a0 k, LeO (aN.f k a0) (aN.f (k + 1) a0) := by
 intro a0 k
 obtain ⟨ih0, ih1⟩ := aN.mono_l k
 unfold aN.f
 exact o2_ ih0 ih1
theorem aN.calls (k : Nat) (a0 : ByteArray) (r : List Int) (w : World) (h : aN.f k a0 = some r) :
  Calls Tryz.prog 116 #[.string a0] w fun e w' => ∃ H0 : Value, e = .returned (H0) ∧ Kd.R (Kd.int .u64) 111 w' w.heap.size (fun _ => True) H0 r ∧ Below w.heap.size w w' := by
 have HB := c_ (Da w.heap.size w)
 delta aN.f at h
 have H := h
 clear h
 obtain ⟨D0, e0⟩ : ∃ y_ : List Int, y_ = (([] : List Int)) := ⟨_, rfl⟩
 first | replace H := yb_ e0 H | rw [← e0] at H
 have q0 := c_ e0
 clear e0
 have H' := c_ H
 clear H
 go_enter Tryz.func116, Tryz.ntmps116
 go_wp2_with (first | (refine lj_ 7 .u64 111 q0 fun K0 w2 r0 HB => ?_))
 go_loopg [3, 4] k (fun kq v3 v4 w' => ∃ (j0 : List Int) (b0 : Int), v4 = .int .i64 b0 ∧ aa (aN.l0 kq a0 j0 b0 = some r) ∧ aa (kq ≤ k) ∧ aa (Kd.R (Kd.int .u64) 111 w' w.heap.size (fun _ => True) v3 j0) ∧ aa (Below w.heap.size w w'))
 case atStart => exact ⟨(D0), (0), f0_, H', ⟨Ca _⟩, ⟨rR_ r0.o⟩, ⟨hB_⟩⟩
 clear H'
 obtain ⟨j0, b0, rfl, HA, B0, k0, HB⟩ := hrel
 rcases gk with _ | k1
 ·exact absurd HA.o (by simp [aN.l0])
 have H := HA.o
 clear HA
 simp only [aN.l0] at H
 by_cases c4 : (wrap64 (b0 + 8)) ≤ (a0.size : Int)
 rotate_left
 ·rw [Ga c4] at H
  have E0 := za c4
  clear c4
  obtain rfl := Ba H
  go_wp2
  go_ret
  exact ⟨_, f1_, rR_ k0.o, hB_⟩
 rw [Fa c4] at H
 have E0 := ya c4
 clear c4
 have H' := c_ H
 clear H
 go_wp2
 go_loopg [5, 6] k1 (fun kq v5 v6 w' => ∃ (n0 : Int) (d0 : Int), v5 = .int .u64 n0 ∧ v6 = .int .i64 d0 ∧ aa (aN.l1 kq a0 j0 b0 n0 d0 = some r) ∧ aa (kq ≤ k1) ∧ aa (Kd.R (Kd.int .u64) 111 w' w.heap.size (fun _ => True) u3 j0) ∧ aa (Below w.heap.size w w'))
 case atStart => exact ⟨(0), (7), f0_, f0_, H', ⟨Ca _⟩, ⟨rR_ k0.o⟩, ⟨hB_⟩⟩
 clear H'
 obtain ⟨n0, d0, rfl, rfl, HA, C0, k0, HB⟩ := hrel
 rcases gk with _ | k2
 ·exact absurd HA.o (by simp [aN.l1])
 have H := HA.o
 clear HA
 simp only [aN.l1] at H
 by_cases c5 : d0 ≥ 0
 ·rw [Fa c5] at H
  have F0 := ya c5
  clear c5
  obtain ⟨t0, p0⟩ : ∃ j_ : Int, (wrap64 (b0 + d0)) = j_ := ⟨_, rfl⟩
  first | rw [p0] at H | simp only [p0] at H
  have I0 : (IntKind.i64.wrap (b0 + d0)) = t0 := (bB _).trans p0
  obtain ⟨L0, H⟩ := iD_ H
  obtain ⟨M0, H⟩ := iD_ H
  have H' := c_ H
  clear H
  have p9 := Aa (oD_ : 0 ≤ ((t0) : Int))
  have q9 := Aa (oD_ : (t0) < (a0.size : Int))
  have O0 := cY a0 (t0)
  go_wp2
  go_roundg k2
  case measure => have := B0.o; have := C0.o; omega
  case rel => exact ⟨(IntKind.u64.wrap ((IntKind.u64.wrap (n0 * 256)) + (IntKind.u64.wrap (bt a0 (t0))))), (wrap64 (d0 - 1)), (by first | rfl | (simp; done) | (simp only [← p0] <;> (first | rfl | simp)) | (simp [*]; done)), f0_, H', ⟨by have := B0.o; have := C0.o; omega⟩, ⟨rR_ k0.o⟩, ⟨hB_⟩⟩
 rw [Ga c5] at H
 have F0 := za c5
 clear c5
 obtain ⟨J0, H⟩ := iN_ H
 have v0 := c_ J0
 clear J0
 obtain ⟨G0, f0⟩ : ∃ y_ : List Int, y_ = (j0 ++ [n0]) := ⟨_, rfl⟩
 first | replace H := yb_ f0 H | rw [← f0] at H
 have x0 := c_ f0
 clear f0
 have H' := c_ H
 clear H
 go_wp2_with (first | (refine ga_ 28 30 ?_; at_builtin; refine ap_ k0 x0 v0 Tryz.underlying109 jH fun N0 P0 y0 HB hg hat => ?_))
 go_roundg k2
 case measure => have := B0.o; have := C0.o; omega
 case rel => exact ⟨(G0), (wrap64 (b0 + 8)), f0_, H', ⟨by have := B0.o; have := C0.o; omega⟩, ⟨rR_ y0.o⟩, ⟨hB_⟩⟩
def bM.l0 : Nat → List Int → Int → Int → Int → Option (List Int)
 | 0, _, _, _, _ => none
 | k + 1, x1, x2, x3, x4 => if x4 < 24 then (if 0 ≤ (wrap64 (x2 + (wrap64 (5 * x3)))) then (if (wrap64 (x2 + (wrap64 (5 * x3)))) < (x1.length : Int) then (bM.l0 k (x1.set ((wrap64 (x2 + (wrap64 (5 * x3)))) : Int).toNat (Int.tmod (wrap64 (Int.tdiv (wrap64 ((wrap64 (x4 + 1)) * (wrap64 (x4 + 2)))) 2)) 64)) x3 (Int.tmod (wrap64 ((wrap64 (2 * x2)) + (wrap64 (3 * x3)))) 5) (wrap64 (x4 + 1))) else (none)) else (none)) else (some x1)
def bM.f (k : Nat)  : Option (List Int) := if 25 ≤ 35184372088832 then (bM.l0 k (List.replicate 25 0) 1 0 0) else (none)
theorem bM.mono_l : ∀ k, (∀ y0 y1 y2 y3, LeO (bM.l0 k y0 y1 y2 y3) (bM.l0 (k + 1) y0 y1 y2 y3))
 | 0 => fun _ _ _ _ r h => by simp [bM.l0] at h
 | k + 1 => by
  have ih0 := bM.mono_l k
  intros; unfold bM.l0; exact o1_ ih0
theorem bM.mono : ∀ k, LeO (bM.f k ) (bM.f (k + 1) ) := by
 intro  k
 have ih0 := bM.mono_l k
 unfold bM.f
 exact o1_ ih0
theorem bM.calls (k : Nat)  (r : List Int) (w : World) (h : bM.f k  = some r) :
  Calls Tryz.prog 123 #[] w fun e w' => ∃ D0 : Value, e = .returned (D0) ∧ Kd.R (Kd.int .i64) 3 w' w.heap.size (fun _ => True) D0 r ∧ Below w.heap.size w w' := by
 have HB := c_ (Da w.heap.size w)
 delta bM.f at h
 have H := h
 clear h
 obtain ⟨c1, H⟩ := iN_ H
 have J0 := Aa c1
 have K0 := ya c1
 clear c1
 obtain ⟨x0, d0⟩ : ∃ y_ : List Int, y_ = (List.replicate 25 0) := ⟨_, rfl⟩
 first | replace H := yb_ d0 H | rw [← d0] at H
 have n0 := c_ d0
 clear d0
 have H' := c_ H
 clear H
 go_enter Tryz.func123, Tryz.ntmps123
 go_wp2_with (first | ((refine cQ (N := 6) rfl ?_); refine vs (Kd.int .i64) _ 3 rfl (N := 6) rfl 33 _ _ rfl 25 rfl rfl Tryz.underlying33 (.int .i64 0) 8 di rfl (by decide) (by omega) 0 (ok := fun _ => True) (okp := fun _ => True) rfl (fun _ hk => hk) trivial (by omega) (by omega) (Da _ _) (Ca _) ?_; intro y0 w2 r0 hb hg_ hnew_; clear hg_ hnew_; (first | rw [← n0.o] at r0 | (simp only [Int.reduceToNat] at r0; rw [← n0.o] at r0)); obtain ⟨t0, HB⟩ := b_ (uY r0 (av (hB_))) <| sB_; clear hb r0))
 go_loopg [2, 3, 4] k (fun kq v2 v3 v4 w' => ∃ (k0 : List Int) (f0 : Int) (b0 : Int) (a0 : Int), v2 = .int .i64 f0 ∧ v3 = .int .i64 b0 ∧ v4 = .int .i64 a0 ∧ aa (bM.l0 kq k0 f0 b0 a0 = some r) ∧ aa (kq ≤ k) ∧ aa (Kd.R (Kd.int .i64) 3 w' w.heap.size (fun _ => True) y0 k0) ∧ aa (Below w.heap.size w w'))
 case atStart => exact ⟨(x0), (1), (0), (0), f0_, f0_, f0_, H', ⟨Ca _⟩, ⟨rR_ t0.o⟩, ⟨hB_⟩⟩
 clear H'
 obtain ⟨k0, f0, b0, a0, rfl, rfl, rfl, HA, E0, j0, HB⟩ := hrel
 rcases gk with _ | k1
 ·exact absurd HA.o (by simp [bM.l0])
 have H := HA.o
 clear HA
 simp only [bM.l0] at H
 by_cases c4 : a0 < 24
 rotate_left
 ·rw [Ga c4] at H
  have B0 := za c4
  clear c4
  obtain rfl := Ba H
  go_wp2
  go_ret
  exact ⟨_, f1_, rR_ j0.o, hB_⟩
 rw [Fa c4] at H
 have B0 := ya c4
 clear c4
 obtain ⟨q0, p0⟩ : ∃ j_ : Int, (wrap64 (f0 + (wrap64 (5 * b0)))) = j_ := ⟨_, rfl⟩
 first | rw [p0] at H | simp only [p0] at H
 have F0 : (IntKind.i64.wrap (f0 + (wrap64 (5 * b0)))) = q0 := (bB _).trans p0
 obtain ⟨L0, H⟩ := iD_ H
 obtain ⟨M0, H⟩ := iD_ H
 obtain ⟨C0, e0⟩ : ∃ y_ : List Int, y_ = (k0.set ((q0) : Int).toNat (Int.tmod (wrap64 (Int.tdiv (wrap64 ((wrap64 (a0 + 1)) * (wrap64 (a0 + 2)))) 2)) 64)) := ⟨_, rfl⟩
 first | replace H := yb_ e0 H | rw [← e0] at H
 have v0 := c_ e0
 clear e0
 have H' := c_ H
 clear H
 have p8 : 0 ≤ ((q0) : Int) := oD_
 have q8 : ((q0) : Int) < ((k0.length : Int) : Int) := oD_
 obtain ⟨go8, O0, G0, H0, gl8, cl8, HG8⟩ := vm j0.o (by omega)
 (first | cases G0 | (injection G0 with ea_ en_ ec_; (first | subst ea_ | (injection ea_ with ea_; subst ea_)); subst ec_; clear en_))
 have N0 := c_ H0
 have GG8 := c_ HG8
 clear H0 gl8 HG8
 obtain ⟨I0, hf8_0⟩ := uZ 0 j0.o ((q0) : Int) p8 q8
 replace p8 := Aa p8
 replace q8 := Aa q8
 have HP9 := vj j0.o ((q0) : Int) (Int.tmod (wrap64 (Int.tdiv (wrap64 ((wrap64 (a0 + 1)) * (wrap64 (a0 + 2)))) 2)) 64)
 go_wp2_with (first | ((refine cz (t := 3) (p := 23) rfl ?_); refine st_ 3 23 HP9 v0 N0 fun P0 hw hp_ hg HBn => ?_; obtain ⟨j0, HB⟩ := b_ (hp_) <| c_ HBn.o; clear hg hw hp_))
 go_roundg k1
 case measure => have := E0.o; omega
 case rel => exact ⟨(C0), (b0), (Int.tmod (wrap64 ((wrap64 (2 * f0)) + (wrap64 (3 * b0)))) 5), (wrap64 (a0 + 1)), f0_, f0_, f0_, H', ⟨by have := E0.o; omega⟩, ⟨rR_ j0.o⟩, ⟨hB_⟩⟩
mutual
def aX.l0 : Nat → List Int → Int → Int → Option (List Int)
 | 0, _, _, _ => none
 | k + 1, x1, x2, x3 => if x3 < 24 then (aX.l1 k x1 x2 x3 0 1 0) else (some x1)
def aX.l1 : Nat → List Int → Int → Int → Int → Int → Int → Option (List Int)
 | 0, _, _, _, _, _, _ => none
 | k + 1, x1, x2, x3, x4, x5, x6 => if x6 < 7 then (if (Int.tmod x2 2) = 1 then (if (wrap64 (x2 * 2)) ≥ 256 then (aX.l1 k x1 (Go.bits .xor .i64 (wrap64 ((wrap64 (x2 * 2)) - 256)) 113) x3 (IntKind.u64.wrap (x4 + x5)) (IntKind.u64.wrap ((IntKind.u64.wrap (x5 * x5)) * 2)) (wrap64 (x6 + 1))) else (aX.l1 k x1 (wrap64 (x2 * 2)) x3 (IntKind.u64.wrap (x4 + x5)) (IntKind.u64.wrap ((IntKind.u64.wrap (x5 * x5)) * 2)) (wrap64 (x6 + 1)))) else (if (wrap64 (x2 * 2)) ≥ 256 then (aX.l1 k x1 (Go.bits .xor .i64 (wrap64 ((wrap64 (x2 * 2)) - 256)) 113) x3 x4 (IntKind.u64.wrap ((IntKind.u64.wrap (x5 * x5)) * 2)) (wrap64 (x6 + 1))) else (aX.l1 k x1 (wrap64 (x2 * 2)) x3 x4 (IntKind.u64.wrap ((IntKind.u64.wrap (x5 * x5)) * 2)) (wrap64 (x6 + 1))))) else (if x1.length < 17592186044416 then (aX.l0 k (x1 ++ [x4]) x2 (wrap64 (x3 + 1))) else (none))
end
def aX.f (k : Nat)  : Option (List Int) := aX.l0 k (([] : List Int)) 1 0
theorem aX.mono_l : ∀ k, (∀ y0 y1 y2, LeO (aX.l0 k y0 y1 y2) (aX.l0 (k + 1) y0 y1 y2)) ∧ (∀ y0 y1 y2 y3 y4 y5, LeO (aX.l1 k y0 y1 y2 y3 y4 y5) (aX.l1 (k + 1) y0 y1 y2 y3 y4 y5))
 | 0 => ⟨fun _ _ _ r h => by simp [aX.l0] at h, fun _ _ _ _ _ _ r h => by simp [aX.l1] at h⟩
 | k + 1 => by
  obtain ⟨ih0, ih1⟩ := aX.mono_l k
  refine ⟨?_, ?_⟩ <;> (intros; (first | unfold aX.l0 | unfold aX.l1); exact o2_ ih0 ih1)
theorem aX.mono : ∀ k, LeO (aX.f k ) (aX.f (k + 1) ) := by
 intro  k
 obtain ⟨ih0, ih1⟩ := aX.mono_l k
 unfold aX.f
 exact o2_ ih0 ih1
theorem aX.calls (k : Nat)  (r : List Int) (w : World) (h : aX.f k  = some r) :
  Calls Tryz.prog 124 #[] w fun e w' => ∃ L0 : Value, e = .returned (L0) ∧ Kd.R (Kd.int .u64) 111 w' w.heap.size (fun _ => True) L0 r ∧ Below w.heap.size w w' := by
 have HB := c_ (Da w.heap.size w)
 delta aX.f at h
 have H := h
 clear h
 obtain ⟨C0, j0⟩ : ∃ y_ : List Int, y_ = (([] : List Int)) := ⟨_, rfl⟩
 first | replace H := yb_ j0 H | rw [← j0] at H
 have v0 := c_ j0
 clear j0
 have H' := c_ H
 clear H
 go_enter Tryz.func124, Tryz.ntmps124
 go_wp2_with (first | (refine lj_ 7 .u64 111 v0 fun M0 w1 x0 HB => ?_))
 go_loopg [1, 2, 3] k (fun kq v1 v2 v3 w' => ∃ (n0 : List Int) (t0 : Int) (p0 : Int), v2 = .int .i64 t0 ∧ v3 = .int .i64 p0 ∧ aa (aX.l0 kq n0 t0 p0 = some r) ∧ aa (kq ≤ k) ∧ aa (Kd.R (Kd.int .u64) 111 w' w.heap.size (fun _ => True) v1 n0) ∧ aa (Below w.heap.size w w'))
 case atStart => exact ⟨(C0), (1), (0), f0_, f0_, H', ⟨Ca _⟩, ⟨rR_ x0.o⟩, ⟨hB_⟩⟩
 clear H'
 obtain ⟨n0, t0, p0, rfl, rfl, HA, q0, d0, HB⟩ := hrel
 rcases gk with _ | k1
 ·exact absurd HA.o (by simp [aX.l0])
 have H := HA.o
 clear HA
 simp only [aX.l0] at H
 by_cases c3 : p0 < 24
 rotate_left
 ·rw [Ga c3] at H
  have D0 := za c3
  clear c3
  obtain rfl := Ba H
  go_wp2
  go_ret
  exact ⟨_, f1_, rR_ d0.o, hB_⟩
 rw [Fa c3] at H
 have D0 := ya c3
 clear c3
 have H' := c_ H
 clear H
 go_wp2
 go_loopg [2, 4, 5, 6] k1 (fun kq v2 v4 v5 v6 w' => ∃ (a0 : Int) (e0 : Int) (b0 : Int) (f0 : Int), v2 = .int .i64 a0 ∧ v4 = .int .u64 e0 ∧ v5 = .int .u64 b0 ∧ v6 = .int .i64 f0 ∧ aa (aX.l1 kq n0 a0 p0 e0 b0 f0 = some r) ∧ aa (kq ≤ k1) ∧ aa (Kd.R (Kd.int .u64) 111 w' w.heap.size (fun _ => True) u1 n0) ∧ aa (Below w.heap.size w w'))
 case atStart => exact ⟨(t0), (0), (1), (0), f0_, f0_, f0_, f0_, H', ⟨Ca _⟩, ⟨rR_ d0.o⟩, ⟨hB_⟩⟩
 clear H'
 obtain ⟨a0, e0, b0, f0, rfl, rfl, rfl, rfl, HA, r0, d0, HB⟩ := hrel
 rcases gk with _ | k2
 ·exact absurd HA.o (by simp [aX.l1])
 have H := HA.o
 clear HA
 simp only [aX.l1] at H
 by_cases c4 : f0 < 7
 rotate_left
 ·rw [Ga c4] at H
  have E0 := za c4
  clear c4
  obtain ⟨c8, H⟩ := iN_ H
  have F0 := c_ c8
  clear c8
  obtain ⟨G0, k0⟩ : ∃ y_ : List Int, y_ = (n0 ++ [e0]) := ⟨_, rfl⟩
  first | replace H := yb_ k0 H | rw [← k0] at H
  have y0 := c_ k0
  clear k0
  have H' := c_ H
  clear H
  go_wp2_with (first | (refine ga_ 33 35 ?_; at_builtin; refine ap_ d0 y0 F0 Tryz.underlying109 jH fun N0 w9 B0 HB hg hat => ?_))
  go_roundg k2
  case measure => have := q0.o; have := r0.o; omega
  case rel => exact ⟨(G0), (a0), (wrap64 (p0 + 1)), f0_, f0_, H', ⟨by have := q0.o; have := r0.o; omega⟩, ⟨rR_ B0.o⟩, ⟨hB_⟩⟩
 rw [Fa c4] at H
 have E0 := ya c4
 clear c4
 by_cases c5 : (Int.tmod a0 2) = 1
 ·rw [Fa c5] at H
  have H0 : ((Int.tmod a0 2) == 1) = true := beq_iff_eq.mpr c5
  have I0 : ((Int.tmod a0 2) != 1) = false := bne_eq_false_iff_eq.mpr c5
  clear c5
  by_cases c6 : (wrap64 (a0 * 2)) ≥ 256
  ·rw [Fa c6] at H
   have J0 := ya c6
   clear c6
   have H' := c_ H
   clear H
   go_wp2
   go_roundg k2
   case measure => have := q0.o; have := r0.o; omega
   case rel => exact ⟨(Go.bits .xor .i64 (wrap64 ((wrap64 (a0 * 2)) - 256)) 113), (IntKind.u64.wrap (e0 + b0)), (IntKind.u64.wrap ((IntKind.u64.wrap (b0 * b0)) * 2)), (wrap64 (f0 + 1)), f0_, f0_, f0_, f0_, H', ⟨by have := q0.o; have := r0.o; omega⟩, ⟨rR_ d0.o⟩, ⟨hB_⟩⟩
  rw [Ga c6] at H
  have J0 := za c6
  clear c6
  have H' := c_ H
  clear H
  go_wp2
  go_roundg k2
  case measure => have := q0.o; have := r0.o; omega
  case rel => exact ⟨(wrap64 (a0 * 2)), (IntKind.u64.wrap (e0 + b0)), (IntKind.u64.wrap ((IntKind.u64.wrap (b0 * b0)) * 2)), (wrap64 (f0 + 1)), f0_, f0_, f0_, f0_, H', ⟨by have := q0.o; have := r0.o; omega⟩, ⟨rR_ d0.o⟩, ⟨hB_⟩⟩
 rw [Ga c5] at H
 have H0 : ((Int.tmod a0 2) == 1) = false := beq_eq_false_iff_ne.mpr c5
 have I0 : ((Int.tmod a0 2) != 1) = true := bne_iff_ne.mpr c5
 by_cases c7 : (wrap64 (a0 * 2)) ≥ 256
 ·rw [Fa c7] at H
  have K0 := ya c7
  clear c7
  have H' := c_ H
  clear H
  go_wp2
  go_roundg k2
  case measure => have := q0.o; have := r0.o; omega
  case rel => exact ⟨(Go.bits .xor .i64 (wrap64 ((wrap64 (a0 * 2)) - 256)) 113), (e0), (IntKind.u64.wrap ((IntKind.u64.wrap (b0 * b0)) * 2)), (wrap64 (f0 + 1)), f0_, f0_, f0_, f0_, H', ⟨by have := q0.o; have := r0.o; omega⟩, ⟨rR_ d0.o⟩, ⟨hB_⟩⟩
 rw [Ga c7] at H
 have K0 := za c7
 clear c7
 have H' := c_ H
 clear H
 go_wp2
 go_roundg k2
 case measure => have := q0.o; have := r0.o; omega
 case rel => exact ⟨(wrap64 (a0 * 2)), (e0), (IntKind.u64.wrap ((IntKind.u64.wrap (b0 * b0)) * 2)), (wrap64 (f0 + 1)), f0_, f0_, f0_, f0_, H', ⟨by have := q0.o; have := r0.o; omega⟩, ⟨rR_ d0.o⟩, ⟨hB_⟩⟩
def bC.l0 : Nat → Int → Int → Int → Int → Option (Int)
 | 0, _, _, _, _ => none
 | k + 1, x0, x1, x5, x6 => if x6 < x1 then (bC.l0 k x0 x1 (IntKind.u64.wrap (x5 * 2)) (wrap64 (x6 + 1))) else (if x1 = 0 then (some x0) else (if x5 = 0 then (none) else (if (IntKind.u64.wrap ((IntKind.u64.wrap (Int.tdiv (9223372036854775808 : Int) x5)) * 2)) = 0 then (none) else (some (IntKind.u64.wrap ((IntKind.u64.wrap (x0 * x5)) + (IntKind.u64.wrap (Int.tdiv x0 (IntKind.u64.wrap ((IntKind.u64.wrap (Int.tdiv (9223372036854775808 : Int) x5)) * 2))))))))))
def bC.f (k : Nat) (a0 : Int) (a1 : Int) : Option (Int) := bC.l0 k a0 a1 1 0
theorem bC.mono_l : ∀ k, (∀ y0 y1 y2 y3, LeO (bC.l0 k y0 y1 y2 y3) (bC.l0 (k + 1) y0 y1 y2 y3))
 | 0 => fun _ _ _ _ r h => by simp [bC.l0] at h
 | k + 1 => by
  have ih0 := bC.mono_l k
  intros; unfold bC.l0; exact o1_ ih0
theorem bC.mono : ∀ a0 a1 k, LeO (bC.f k a0 a1) (bC.f (k + 1) a0 a1) := by
 intro a0 a1 k
 have ih0 := bC.mono_l k
 unfold bC.f
 exact o1_ ih0
theorem bC.calls (k : Nat) (a0 : Int) (a1 : Int) (r : Int) (w : World) (h : bC.f k a0 a1 = some r) :
  Calls Tryz.prog 130 #[.int .u64 a0, .int .i64 a1] w fun e w' => e = .returned (.int .u64 r) ∧ cx w w' := by
 delta bC.f at h
 have H := h
 clear h
 have H' := c_ H
 clear H
 go_enter Tryz.func130, Tryz.ntmps130
 go_wp2
 go_loopg [5, 6] k (fun kq v5 v6 w' => ∃ (b0 : Int) (d0 : Int), v5 = .int .u64 b0 ∧ v6 = .int .i64 d0 ∧ aa (bC.l0 kq a0 a1 b0 d0 = some r) ∧ aa (kq ≤ k) ∧ cx w w')
 case atStart => exact ⟨(1), (0), f0_, f0_, H', ⟨Ca _⟩, d0_⟩
 clear H'
 obtain ⟨b0, d0, rfl, rfl, HA, k0, ⟨m1, rfl⟩⟩ := hrel
 rcases gk with _ | k1
 ·exact absurd HA.o (by simp [bC.l0])
 have H := HA.o
 clear HA
 simp only [bC.l0] at H
 by_cases c3 : d0 < a1
 ·rw [Fa c3] at H
  have e0 := ya c3
  clear c3
  have H' := c_ H
  clear H
  go_wp2
  go_roundg k1
  case measure => have := k0.o; omega
  case rel => exact ⟨(IntKind.u64.wrap (b0 * 2)), (wrap64 (d0 + 1)), f0_, f0_, H', ⟨by have := k0.o; omega⟩, d0_⟩
 rw [Ga c3] at H
 have e0 := za c3
 clear c3
 by_cases c4 : a1 = 0
 ·rw [Fa c4] at H
  have f0 : (a1 == 0) = true := beq_iff_eq.mpr c4
  have j0 : (a1 != 0) = false := bne_eq_false_iff_eq.mpr c4
  clear c4
  obtain rfl := Ba H
  go_wp2
  go_ret
  exact ⟨f0_, d0_⟩
 rw [Ga c4] at H
 have f0 : (a1 == 0) = false := beq_eq_false_iff_ne.mpr c4
 have j0 : (a1 != 0) = true := bne_iff_ne.mpr c4
 by_cases c5 : b0 = 0
 ·rw [Fa c5] at H
  exact absurd H (by simp)
 rw [Ga c5] at H
 have n0 : (b0 == 0) = false := beq_eq_false_iff_ne.mpr c5
 have p0 : (b0 != 0) = true := bne_iff_ne.mpr c5
 by_cases c6 : (IntKind.u64.wrap ((IntKind.u64.wrap (Int.tdiv (9223372036854775808 : Int) b0)) * 2)) = 0
 ·rw [Fa c6] at H
  exact absurd H (by simp)
 rw [Ga c6] at H
 have q0 : ((IntKind.u64.wrap ((IntKind.u64.wrap (Int.tdiv (9223372036854775808 : Int) b0)) * 2)) == 0) = false := beq_eq_false_iff_ne.mpr c6
 have r0 : ((IntKind.u64.wrap ((IntKind.u64.wrap (Int.tdiv (9223372036854775808 : Int) b0)) * 2)) != 0) = true := bne_iff_ne.mpr c6
 obtain rfl := Ba H
 go_wp2
 go_ret
 exact ⟨f0_, d0_⟩
end Go.Proofs.YtmiackbomcjboaaGreatDoor.P
