-- printed texts of this session, regrouped
import Derived.Test.YtielligodgabiaaGreatDoorMWC
import Derived.Test.YtielligodgabiaaGreatDoorMWB
import Derived.Test.YtielligodgabiaaGreatDoorMWA
import Derived.Test.YtielligodgabiaaGreatDoorMW7
import Derived.Test.YtielligodgabiaaGreatDoorMW8
import Derived.Test.YtielligodgabiaaGreatDoorMW6
import Derived.Test.YtielligodgabiaaGreatDoorHB6
import Derived.Test.YtielligodgabiaaGreatDoorPx0
import Derived.Test.YtielligodgabiaaGreatDoorPx1
import Derived.Test.YtielligodgabiaaGreatDoorPx2
import Derived.Test.YtielligodgabiaaGreatDoorPx3
import Derived.Test.YtielligodgabiaaGreatDoorPx4
import Derived.Test.YtielligodgabiaaGreatDoorPx8
namespace Go.Proofs.YtielligodgabiaaGreatDoor.P
open Go.RowKit YtielligodgabiaaGreatDoorW.PrintWords YtielligodgabiaaGreatDoorW.PrintLast YtielligodgabiaaGreatDoorW.PrintMore
attribute [local go_sem] dJ dC ej eh dh di dB dK   -- for this text's walks alone
set_option linter.unusedVariables false
set_option linter.unusedSimpArgs false
set_option maxHeartbeats 8000000
set_option maxRecDepth 100000

/-! ### ak: function 46 -/
mutual
def ak.l0 : Nat → List Int → ByteArray → Int → ByteArray → Int → Option (List Int)
 | 0, _, _, _, _, _ => none
 | k + 1, x7, x9, x10, x328000, x328001 => if x10 < 4000 then (ak.j1 k x7 x9 x10 (decide ((x7.length : Int) < 256)) x328000 x328001) else (ak.j1 k x7 x9 x10 false x328000 x328001)
def ak.j1 : Nat → List Int → ByteArray → Int → Bool → ByteArray → Int → Option (List Int)
 | 0, _, _, _, _, _, _ => none
 | k + 1, x7, x9, x10, x31, x328000, x328001 => if x31 = true then (if (wrap64 ((Int.tmod x10 56) * 3)) = 0 then ((aw.f k x328000 x328001 168).bind fun bt328 => (ak.j2 k x7 bt328.2.2 x10 (wrap64 ((Int.tmod x10 56) * 3)) bt328.1 bt328.2.1)) else (ak.j2 k x7 x9 x10 (wrap64 ((Int.tmod x10 56) * 3)) x328000 x328001)) else (ak.l1 k x7)
def ak.j2 : Nat → List Int → ByteArray → Int → Int → ByteArray → Int → Option (List Int)
 | 0, _, _, _, _, _, _ => none
 | k + 1, x7, x9, x10, x11, x328000, x328001 => if 0 ≤ x11 then (if x11 < (x9.size : Int) then (if 0 ≤ (wrap64 (x11 + 1)) then (if (wrap64 (x11 + 1)) < (x9.size : Int) then (if 0 ≤ (wrap64 (x11 + 2)) then (if (wrap64 (x11 + 2)) < (x9.size : Int) then (if (wrap64 ((wrap64 (bt x9 x11)) + (wrap64 (256 * (Int.tmod (wrap64 (bt x9 (wrap64 (x11 + 1)))) 16))))) < 3329 then (if x7.length < 17592186044416 then ((some (x7 ++ [wrap64 ((wrap64 (bt x9 x11)) + (wrap64 (256 * (Int.tmod (wrap64 (bt x9 (wrap64 (x11 + 1)))) 16))))] : List Int)).bind fun y332 => (if (wrap64 ((wrap64 (Int.tdiv (wrap64 (bt x9 (wrap64 (x11 + 1)))) 16)) + (wrap64 (16 * (wrap64 (bt x9 (wrap64 (x11 + 2)))))))) < 3329 then (if (y332.length : Int) < 256 then (if y332.length < 17592186044416 then (ak.l0 k (y332 ++ [wrap64 ((wrap64 (Int.tdiv (wrap64 (bt x9 (wrap64 (x11 + 1)))) 16)) + (wrap64 (16 * (wrap64 (bt x9 (wrap64 (x11 + 2)))))))]) x9 (wrap64 (x10 + 1)) x328000 x328001) else (none)) else (ak.l0 k y332 x9 (wrap64 (x10 + 1)) x328000 x328001)) else (ak.l0 k y332 x9 (wrap64 (x10 + 1)) x328000 x328001))) else (none)) else (if (wrap64 ((wrap64 (Int.tdiv (wrap64 (bt x9 (wrap64 (x11 + 1)))) 16)) + (wrap64 (16 * (wrap64 (bt x9 (wrap64 (x11 + 2)))))))) < 3329 then (if (x7.length : Int) < 256 then (if x7.length < 17592186044416 then (ak.l0 k (x7 ++ [wrap64 ((wrap64 (Int.tdiv (wrap64 (bt x9 (wrap64 (x11 + 1)))) 16)) + (wrap64 (16 * (wrap64 (bt x9 (wrap64 (x11 + 2)))))))]) x9 (wrap64 (x10 + 1)) x328000 x328001) else (none)) else (ak.l0 k x7 x9 (wrap64 (x10 + 1)) x328000 x328001)) else (ak.l0 k x7 x9 (wrap64 (x10 + 1)) x328000 x328001))) else (none)) else (none)) else (none)) else (none)) else (none)) else (none)
def ak.l1 : Nat → List Int → Option (List Int)
 | 0, _ => none
 | k + 1, x7 => if (x7.length : Int) < 256 then (if x7.length < 17592186044416 then (ak.l1 k (x7 ++ [0])) else (none)) else (some x7)
end
def ak.f (k : Nat) (a0 : ByteArray) (a1 : Int) (a2 : Int) : Option (List Int) := (ct.f a1).bind fun t323 => (if a0.size + t323.size ≤ 9223372036854775807 then ((ct.f a2).bind fun t324 => (if (a0 ++ t323).size + t324.size ≤ 9223372036854775807 then ((bQ.f k ((a0 ++ t323) ++ t324)).bind fun bt325 => (ak.l0 k (([] : List Int)) (⟨#[]⟩ : ByteArray) 0 bt325.1 bt325.2)) else (none))) else (none))
theorem ak.mono_l : ∀ k, (∀ y0 y1 y2 y3 y4, LeO (ak.l0 k y0 y1 y2 y3 y4) (ak.l0 (k + 1) y0 y1 y2 y3 y4)) ∧ (∀ y0 y1 y2 y3 y4 y5, LeO (ak.j1 k y0 y1 y2 y3 y4 y5) (ak.j1 (k + 1) y0 y1 y2 y3 y4 y5)) ∧ (∀ y0 y1 y2 y3 y4 y5, LeO (ak.j2 k y0 y1 y2 y3 y4 y5) (ak.j2 (k + 1) y0 y1 y2 y3 y4 y5)) ∧ (∀ y0, LeO (ak.l1 k y0) (ak.l1 (k + 1) y0))
 | 0 => ⟨fun _ _ _ _ _ r h => by simp [ak.l0] at h, fun _ _ _ _ _ _ r h => by simp [ak.j1] at h, fun _ _ _ _ _ _ r h => by simp [ak.j2] at h, fun _ r h => by simp [ak.l1] at h⟩
 | k + 1 => by
  obtain ⟨ih0, ih1, ih2, ih3⟩ := ak.mono_l k
  refine ⟨?_, ?_, ?_, ?_⟩ <;> (intros; (first | unfold ak.l0 | unfold ak.j1 | unfold ak.j2 | unfold ak.l1); exact o6_ ih0 ih1 ih2 ih3 bQ.mono aw.mono)
theorem ak.mono : ∀ a0 a1 a2 k, LeO (ak.f k a0 a1 a2) (ak.f (k + 1) a0 a1 a2) := by
 intro a0 a1 a2 k
 obtain ⟨ih0, ih1, ih2, ih3⟩ := ak.mono_l k
 unfold ak.f
 exact o6_ ih0 ih1 ih2 ih3 bQ.mono aw.mono
theorem ak.calls (k : Nat) (a0 : ByteArray) (a1 : Int) (a2 : Int) (r : List Int) (w : World) (h : ak.f k a0 a1 a2 = some r) :
  Calls Tryz.prog 46 #[.string a0, .int .i64 a1, .int .i64 a2] w fun e w' => ∃ F3 : Value, e = .returned (F3) ∧ Kd.R (Kd.int .i64) 3 w' w.heap.size (fun _ => True) F3 r ∧ Below w.heap.size w w' := by
 have hu80 := Tryz.underlying80
 have HB := aa.mk (xa w.heap.size w)
 delta ak.f at h
 have H := h
 clear h
 obtain ⟨n3, W0⟩ : ∃ y_ : List Int, y_ = (([] : List Int)) := ⟨_, rfl⟩
 first | replace H := yb_ W0 H | rw [← W0] at H
 have O0 := aa.mk W0
 clear W0
 obtain ⟨P0, A4, H⟩ := bN_ H
 obtain ⟨c5, H⟩ := iN_ H
 have c4 := va c5
 have e4 := ta c5
 try have f4 : (9223372036854775807 < a0.size + P0.size) = False := eq_false (Nat.not_lt.2 c5)
 obtain ⟨S0, A6, H⟩ := bN_ H
 obtain ⟨c7, H⟩ := iN_ H
 have g4 := va c7
 have i4 := ta c7
 try have p3 : (9223372036854775807 < (a0 ++ P0).size + S0.size) = False := eq_false (Nat.not_lt.2 c7)
 try (have q3 : (9223372036854775807 < (a0 ++ P0).size + S0.size) = False := p3; simp only [ByteArray.size_append] at q3)
 obtain ⟨⟨C1, c2⟩, A8, H⟩ := bN_ H
 have H' := aa.mk H
 clear H
 go_enter Tryz.func46, Tryz.ntmps46
 go_wp2_with (first | ((with_reducible refine aI (N := 16) rfl ?_); (try (refine bj (by rfl) ?_; dsimp only)); refine Kd.R_lit (Kd.int .i64) _ 3 ?hg (N := 16) ?hd (xs := ([] : List Int)) (inner := []) (ok := fun _ => True) (okp := fun _ => True) ?hr ?hp (fun _ hk => hk) trivial (xa _ _) (wa _) (by simp) ?_; (case hd => rfl); (case hg => rfl); (case hr => first | (go_simp; done) | (go_simp; rfl)); (case hp => exact (br.none _ _)); intro D2 w9 H0 hb hg_ hnew_; clear hg_ hnew_; (first | rw [← O0.out] at H0 | (simp only [Int.reduceToNat] at H0; rw [← O0.out] at H0)); have n_ := b_ (Kd.R_lower H0 (ab (hB_))) <| c_ (ac (hB_) hb); clear HB; obtain ⟨u0, HB⟩ := n_; clear hb H0) | (go_at_call 51; (with_reducible refine (ct.calls a1 P0 _ A4.out).mono ?_); rintro e G3 ⟨rfl, hb⟩; have n_ := b_ (Kd.R_below (rR_ u0.out) hb) <| c_ (ac (hB_) hb); clear u0 HB; obtain ⟨u0, HB⟩ := n_; (try clear hb)) | (go_at_call 51; (with_reducible refine (ct.calls a2 S0 _ A6.out).mono ?_); rintro e H3 ⟨rfl, hb⟩; have n_ := b_ (Kd.R_below (rR_ u0.out) hb) <| c_ (ac (hB_) hb); clear u0 HB; obtain ⟨u0, HB⟩ := n_; (try clear hb)) | (go_at_call 79; (with_reducible refine (bQ.calls k ((a0 ++ P0) ++ S0) C1 c2 _ A8.out).mono ?_); rintro e I3 ⟨rfl, hb⟩; have n_ := b_ (Kd.R_below (rR_ u0.out) hb) <| c_ (ac (hB_) hb); clear u0 HB; obtain ⟨u0, HB⟩ := n_; (try clear hb)) | ((with_reducible refine aI (N := 8) rfl ?_); (try (refine bj (by rfl) ?_; dsimp only)); refine cn ?hg (N := 8) ?hd (cs := #[.string (⟨#[]⟩ : ByteArray), .int .i64 0]) (t := 80) ?hr ?_; (case hd => rfl); (case hg => rfl); (case hr => first | (go_simp; done) | (go_simp; rfl)); intro q0 hg f2 hbox hb; have n_ := b_ (Kd.R_below (rR_ u0.out) hb) <| b_ (ac (hB_) hb) <| b_ (hbox) <| b_ (by rw [hg]; exact (ab (hB_)) : w.heap.size ≤ q0) <| c_ (by rw [hg]; exact (ab (hB_)) : w.heap.size ≤ q0); clear u0 HB; obtain ⟨u0, HB, b0, g2, p0⟩ := n_; clear hb hbox hg; have X0 : f2.cell? ⟨q0, 0, none⟩ = some (.string (⟨#[]⟩ : ByteArray)) := (au b0.out 0).trans rfl; have Y0 : f2.cell? ⟨q0, 1, none⟩ = some (.int .i64 0) := (au b0.out 1).trans rfl; have Z0 := aj b0.out 0; have b1 := aj b0.out 1))
 repeat (go_quiet (first | ((with_reducible refine aI (N := 16) rfl ?_); (try (refine bj (by rfl) ?_; dsimp only)); refine Kd.R_lit (Kd.int .i64) _ 3 ?hg (N := 16) ?hd (xs := ([] : List Int)) (inner := []) (ok := fun _ => True) (okp := fun _ => True) ?hr ?hp (fun _ hk => hk) trivial (xa _ _) (wa _) (by simp) ?_; (case hd => rfl); (case hg => rfl); (case hr => first | (go_simp; done) | (go_simp; rfl)); (case hp => exact (br.none _ _)); intro D2 w9 H0 hb hg_ hnew_; clear hg_ hnew_; (first | rw [← O0.out] at H0 | (simp only [Int.reduceToNat] at H0; rw [← O0.out] at H0)); have n_ := b_ (Kd.R_lower H0 (ab (hB_))) <| c_ (ac (hB_) hb); clear HB; obtain ⟨u0, HB⟩ := n_; clear hb H0) | (go_at_call 51; (with_reducible refine (ct.calls a1 P0 _ A4.out).mono ?_); rintro e G3 ⟨rfl, hb⟩; have n_ := b_ (Kd.R_below (rR_ u0.out) hb) <| c_ (ac (hB_) hb); clear u0 HB; obtain ⟨u0, HB⟩ := n_; (try clear hb)) | (go_at_call 51; (with_reducible refine (ct.calls a2 S0 _ A6.out).mono ?_); rintro e H3 ⟨rfl, hb⟩; have n_ := b_ (Kd.R_below (rR_ u0.out) hb) <| c_ (ac (hB_) hb); clear u0 HB; obtain ⟨u0, HB⟩ := n_; (try clear hb)) | (go_at_call 79; (with_reducible refine (bQ.calls k ((a0 ++ P0) ++ S0) C1 c2 _ A8.out).mono ?_); rintro e I3 ⟨rfl, hb⟩; have n_ := b_ (Kd.R_below (rR_ u0.out) hb) <| c_ (ac (hB_) hb); clear u0 HB; obtain ⟨u0, HB⟩ := n_; (try clear hb)) | ((with_reducible refine aI (N := 8) rfl ?_); (try (refine bj (by rfl) ?_; dsimp only)); refine cn ?hg (N := 8) ?hd (cs := #[.string (⟨#[]⟩ : ByteArray), .int .i64 0]) (t := 80) ?hr ?_; (case hd => rfl); (case hg => rfl); (case hr => first | (go_simp; done) | (go_simp; rfl)); intro q0 hg f2 hbox hb; have n_ := b_ (Kd.R_below (rR_ u0.out) hb) <| b_ (ac (hB_) hb) <| b_ (hbox) <| b_ (by rw [hg]; exact (ab (hB_)) : w.heap.size ≤ q0) <| c_ (by rw [hg]; exact (ab (hB_)) : w.heap.size ≤ q0); clear u0 HB; obtain ⟨u0, HB, b0, g2, p0⟩ := n_; clear hb hbox hg; have X0 : f2.cell? ⟨q0, 0, none⟩ = some (.string (⟨#[]⟩ : ByteArray)) := (au b0.out 0).trans rfl; have Y0 : f2.cell? ⟨q0, 1, none⟩ = some (.int .i64 0) := (au b0.out 1).trans rfl; have Z0 := aj b0.out 0; have b1 := aj b0.out 1)); try go_wp2_with (first | ((with_reducible refine aI (N := 16) rfl ?_); (try (refine bj (by rfl) ?_; dsimp only)); refine Kd.R_lit (Kd.int .i64) _ 3 ?hg (N := 16) ?hd (xs := ([] : List Int)) (inner := []) (ok := fun _ => True) (okp := fun _ => True) ?hr ?hp (fun _ hk => hk) trivial (xa _ _) (wa _) (by simp) ?_; (case hd => rfl); (case hg => rfl); (case hr => first | (go_simp; done) | (go_simp; rfl)); (case hp => exact (br.none _ _)); intro D2 w9 H0 hb hg_ hnew_; clear hg_ hnew_; (first | rw [← O0.out] at H0 | (simp only [Int.reduceToNat] at H0; rw [← O0.out] at H0)); have n_ := b_ (Kd.R_lower H0 (ab (hB_))) <| c_ (ac (hB_) hb); clear HB; obtain ⟨u0, HB⟩ := n_; clear hb H0) | (go_at_call 51; (with_reducible refine (ct.calls a1 P0 _ A4.out).mono ?_); rintro e G3 ⟨rfl, hb⟩; have n_ := b_ (Kd.R_below (rR_ u0.out) hb) <| c_ (ac (hB_) hb); clear u0 HB; obtain ⟨u0, HB⟩ := n_; (try clear hb)) | (go_at_call 51; (with_reducible refine (ct.calls a2 S0 _ A6.out).mono ?_); rintro e H3 ⟨rfl, hb⟩; have n_ := b_ (Kd.R_below (rR_ u0.out) hb) <| c_ (ac (hB_) hb); clear u0 HB; obtain ⟨u0, HB⟩ := n_; (try clear hb)) | (go_at_call 79; (with_reducible refine (bQ.calls k ((a0 ++ P0) ++ S0) C1 c2 _ A8.out).mono ?_); rintro e I3 ⟨rfl, hb⟩; have n_ := b_ (Kd.R_below (rR_ u0.out) hb) <| c_ (ac (hB_) hb); clear u0 HB; obtain ⟨u0, HB⟩ := n_; (try clear hb)) | ((with_reducible refine aI (N := 8) rfl ?_); (try (refine bj (by rfl) ?_; dsimp only)); refine cn ?hg (N := 8) ?hd (cs := #[.string (⟨#[]⟩ : ByteArray), .int .i64 0]) (t := 80) ?hr ?_; (case hd => rfl); (case hg => rfl); (case hr => first | (go_simp; done) | (go_simp; rfl)); intro q0 hg f2 hbox hb; have n_ := b_ (Kd.R_below (rR_ u0.out) hb) <| b_ (ac (hB_) hb) <| b_ (hbox) <| b_ (by rw [hg]; exact (ab (hB_)) : w.heap.size ≤ q0) <| c_ (by rw [hg]; exact (ab (hB_)) : w.heap.size ≤ q0); clear u0 HB; obtain ⟨u0, HB, b0, g2, p0⟩ := n_; clear hb hbox hg; have X0 : f2.cell? ⟨q0, 0, none⟩ = some (.string (⟨#[]⟩ : ByteArray)) := (au b0.out 0).trans rfl; have Y0 : f2.cell? ⟨q0, 1, none⟩ = some (.int .i64 0) := (au b0.out 1).trans rfl; have Z0 := aj b0.out 0; have b1 := aj b0.out 1)))
 go_loopg [7, 9, 10] k (fun kq v7 v9 l4 w' => ∃ (B0 : List Int) (D1 : ByteArray) (C0 : Int) (f0 : ByteArray) (e0 : Int), v9 = .string D1 ∧ l4 = .int .i64 C0 ∧ aa (ak.l0 kq B0 D1 C0 f0 e0 = some r) ∧ aa (kq ≤ k) ∧ aa (Kd.R (Kd.int .i64) 3 w' w.heap.size (fun _ => True) v7 B0) ∧ aa (w'.heap[q0]? = some (.cells #[.string f0, .int .i64 e0] 80 (0, 0))) ∧ aa (Below w.heap.size w w'))
 case atStart => exact ⟨(n3), ((⟨#[]⟩ : ByteArray)), (0), (C1), (c2), f0_, f0_, H', ⟨wa _⟩, ⟨by refine kR_ ?_; exact Kd.R_mono (Kd.R_far (Kd.R_far (Kd.R_types u0.out b0.out (by decide)) (fun _ hk => hk.2) _) (fun _ hk => hk.2) _) (fun _ hk => trivial)⟩, ⟨by refine kK_ ?_; refine bV (cs := #[.string C1, .int .i64 0]) ?_ 1 _ rfl; refine kK_ ?_; refine bV (cs := #[.string (⟨#[]⟩ : ByteArray), .int .i64 0]) ?_ 0 _ rfl; refine kK_ ?_; exact b0.out⟩, ⟨hS_ p0.out⟩⟩
 clear H'
 obtain ⟨B0, D1, C0, f0, e0, rfl, rfl, HA, R0, r0, b0, HB⟩ := hrel
 rcases gk with _ | k1
 ·exact absurd HA.out (by simp [ak.l0])
 have H := HA.out
 clear HA
 simp only [ak.l0] at H
 have l2 := aa.mk H
 clear H
 go_upto_region 5 with (fail)
 repeat (go_quiet (fail); go_upto_region 5 with (fail))
 go_cut [31] (fun n4 wc => ∃ (kq : Nat) (Q0 : Bool), n4 = .bool Q0 ∧ aa (ak.j1 kq B0 D1 C0 Q0 f0 e0 = some r) ∧ aa (kq ≤ k1) ∧ aa (Kd.R (Kd.int .i64) 3 wc w.heap.size (fun _ => True) u7 B0) ∧ aa (wc.heap[q0]? = some (.cells #[.string f0, .int .i64 e0] 80 (0, 0))) ∧ aa (Below w.heap.size w wc))
 case first =>
  have H := l2.out
  clear l2
  by_cases u2 : C0 < 4000
  ·rw [za u2] at H
   have T0 := ta u2
   clear u2
   (first | rw [T0] | (simp only [bB, cJ]; rw [T0]) | skip)
   have H' := aa.mk H
   clear H
   obtain ⟨q4, t4, r3⟩ := Kd.R_slice r0.out
   subst r3
   go_wp2
   repeat (go_quiet (fail); try go_wp2)
   go_meet
   case rel => exact ⟨_, (decide ((B0.length : Int) < 256)), f0_, H', ⟨by have := R0.out; first | omega | exact wa _⟩, ⟨rR_ r0.out⟩, ⟨by refine kK_ ?_; exact b0.out⟩, ⟨hS_ p0.out⟩⟩
  rw [Aa u2] at H
  have T0 := ua u2
  clear u2
  (first | rw [T0] | (simp only [bB, cJ]; rw [T0]) | skip)
  have H' := aa.mk H
  clear H
  go_wp2
  repeat (go_quiet (fail); try go_wp2)
  go_meet
  case rel => exact ⟨_, (false), f0_, H', ⟨by have := R0.out; first | omega | exact wa _⟩, ⟨rR_ r0.out⟩, ⟨by refine kK_ ?_; exact b0.out⟩, ⟨hS_ p0.out⟩⟩
 clear l2
 obtain ⟨kq, Q0, rfl, HA, I0, r0, b0, HB⟩ := hcut
 rcases kq with _ | z1
 ·exact absurd HA.out (by simp [ak.j1])
 have H := HA.out
 clear HA
 simp only [ak.j1] at H
 by_cases f3 : Q0 = true
 ·subst f3
  replace H := iT_ H
  have m2 := aa.mk H
  clear H
  go_upto_if 38 with (fail)
  repeat (go_quiet (fail); go_upto_if 38 with (fail))
  go_cut [9] (fun v9 wc => ∃ (kq : Nat) (d0 : ByteArray) (j0 : ByteArray) (k0 : Int), v9 = .string d0 ∧ aa (ak.j2 kq B0 d0 C0 (wrap64 ((Int.tmod C0 56) * 3)) j0 k0 = some r) ∧ aa (kq ≤ z1) ∧ aa (Kd.R (Kd.int .i64) 3 wc w.heap.size (fun _ => True) u7 B0) ∧ aa (wc.heap[q0]? = some (.cells #[.string j0, .int .i64 k0] 80 (0, 0))) ∧ aa (Below w.heap.size w wc))
  case first =>
   have H := m2.out
   clear m2
   by_cases n2 : (wrap64 ((Int.tmod C0 56) * 3)) = 0
   ·rw [za n2] at H
    have U0 : ((wrap64 ((Int.tmod C0 56) * 3)) == 0) = true := beq_iff_eq.mpr n2
    have E2 : ((wrap64 ((Int.tmod C0 56) * 3)) != 0) = false := bne_eq_false_iff_eq.mpr n2
    clear n2
    (first | rw [U0] | (simp only [bB, cJ]; rw [U0]) | skip)
    obtain ⟨⟨A1, E1, e2⟩, t3, H⟩ := bN_ H
    have H' := aa.mk H
    clear H
    have g3 : wc.cell? ⟨q0, 0, none⟩ = some (.string f0) := (au b0.out 0).trans rfl
    have i3 : wc.cell? ⟨q0, 1, none⟩ = some (.int .i64 e0) := (au b0.out 1).trans rfl
    have l3 := aj b0.out 0
    have m3 := aj b0.out 1
    go_wp2_with (first | (go_at_call 80; (with_reducible refine (aw.calls z1 f0 e0 168 A1 E1 e2 _ t3.out).mono ?_); rintro e J3 ⟨rfl, hb⟩; have n_ := b_ (Kd.R_below (rR_ r0.out) hb) <| b_ (bG (g := q0) (o := .cells #[.string f0, .int .i64 e0] 80 (0, 0)) (rK_ b0.out) hb) <| c_ (ac (hS_ p0.out) hb); clear r0 b0 HB; obtain ⟨r0, b0, HB⟩ := n_; (try clear hb)) | ((with_reducible refine aI (N := 12) rfl ?_); (try (refine bj (by rfl) ?_; dsimp only)); refine cn ?hg (N := 12) ?hd (cs := #[.string (⟨#[]⟩ : ByteArray), .int .i64 0]) (t := 80) ?hr ?_; (case hd => rfl); (case hg => rfl); (case hr => first | (go_simp; done) | (go_simp; rfl)); intro D0 hg c1 hbox hb; have n_ := b_ (Kd.R_below (rR_ r0.out) hb) <| b_ (bG (g := q0) (o := .cells #[.string f0, .int .i64 e0] 80 (0, 0)) (rK_ b0.out) hb) <| b_ (ac (hS_ p0.out) hb) <| b_ (hbox) <| b_ (by rw [hg]; exact (ab (hS_ p0.out)) : w.heap.size ≤ D0) <| b_ (by rw [hg]; exact (ab (hS_ p0.out)) : w.heap.size ≤ D0) <| b_ (by rw [hg]; exact Nat.ne_of_lt (ev (g := q0) (o := .cells #[.string f0, .int .i64 e0] 80 (0, 0)) (rK_ b0.out)) : q0 ≠ D0) <| c_ (by rw [hg]; exact Nat.ne_of_gt (ev (g := q0) (o := .cells #[.string f0, .int .i64 e0] 80 (0, 0)) (rK_ b0.out)) : D0 ≠ q0); clear r0 b0 HB; obtain ⟨r0, b0, HB, F0, i2, F1, E0, G0⟩ := n_; clear hb hbox hg; have hnb26 := G0.out; have hnc26 := E0.out; have d1 : c1.cell? ⟨D0, 0, none⟩ = some (.string (⟨#[]⟩ : ByteArray)) := (au F0.out 0).trans rfl; have e1 : c1.cell? ⟨D0, 1, none⟩ = some (.int .i64 0) := (au F0.out 1).trans rfl; have f1 := aj F0.out 0; have g1 := aj F0.out 1; have i1 : c1.cell? ⟨q0, 0, none⟩ = some (.string f0) := (au b0.out 0).trans rfl; have m1 : c1.cell? ⟨q0, 1, none⟩ = some (.int .i64 e0) := (au b0.out 1).trans rfl; have n1 := aj b0.out 0; have p1 := aj b0.out 1))
    repeat (go_quiet (first | (go_at_call 80; (with_reducible refine (aw.calls z1 f0 e0 168 A1 E1 e2 _ t3.out).mono ?_); rintro e J3 ⟨rfl, hb⟩; have n_ := b_ (Kd.R_below (rR_ r0.out) hb) <| b_ (bG (g := q0) (o := .cells #[.string f0, .int .i64 e0] 80 (0, 0)) (rK_ b0.out) hb) <| c_ (ac (hS_ p0.out) hb); clear r0 b0 HB; obtain ⟨r0, b0, HB⟩ := n_; (try clear hb)) | ((with_reducible refine aI (N := 12) rfl ?_); (try (refine bj (by rfl) ?_; dsimp only)); refine cn ?hg (N := 12) ?hd (cs := #[.string (⟨#[]⟩ : ByteArray), .int .i64 0]) (t := 80) ?hr ?_; (case hd => rfl); (case hg => rfl); (case hr => first | (go_simp; done) | (go_simp; rfl)); intro D0 hg c1 hbox hb; have n_ := b_ (Kd.R_below (rR_ r0.out) hb) <| b_ (bG (g := q0) (o := .cells #[.string f0, .int .i64 e0] 80 (0, 0)) (rK_ b0.out) hb) <| b_ (ac (hS_ p0.out) hb) <| b_ (hbox) <| b_ (by rw [hg]; exact (ab (hS_ p0.out)) : w.heap.size ≤ D0) <| b_ (by rw [hg]; exact (ab (hS_ p0.out)) : w.heap.size ≤ D0) <| b_ (by rw [hg]; exact Nat.ne_of_lt (ev (g := q0) (o := .cells #[.string f0, .int .i64 e0] 80 (0, 0)) (rK_ b0.out)) : q0 ≠ D0) <| c_ (by rw [hg]; exact Nat.ne_of_gt (ev (g := q0) (o := .cells #[.string f0, .int .i64 e0] 80 (0, 0)) (rK_ b0.out)) : D0 ≠ q0); clear r0 b0 HB; obtain ⟨r0, b0, HB, F0, i2, F1, E0, G0⟩ := n_; clear hb hbox hg; have hnb26 := G0.out; have hnc26 := E0.out; have d1 : c1.cell? ⟨D0, 0, none⟩ = some (.string (⟨#[]⟩ : ByteArray)) := (au F0.out 0).trans rfl; have e1 : c1.cell? ⟨D0, 1, none⟩ = some (.int .i64 0) := (au F0.out 1).trans rfl; have f1 := aj F0.out 0; have g1 := aj F0.out 1; have i1 : c1.cell? ⟨q0, 0, none⟩ = some (.string f0) := (au b0.out 0).trans rfl; have m1 : c1.cell? ⟨q0, 1, none⟩ = some (.int .i64 e0) := (au b0.out 1).trans rfl; have n1 := aj b0.out 0; have p1 := aj b0.out 1)); try go_wp2_with (first | (go_at_call 80; (with_reducible refine (aw.calls z1 f0 e0 168 A1 E1 e2 _ t3.out).mono ?_); rintro e J3 ⟨rfl, hb⟩; have n_ := b_ (Kd.R_below (rR_ r0.out) hb) <| b_ (bG (g := q0) (o := .cells #[.string f0, .int .i64 e0] 80 (0, 0)) (rK_ b0.out) hb) <| c_ (ac (hS_ p0.out) hb); clear r0 b0 HB; obtain ⟨r0, b0, HB⟩ := n_; (try clear hb)) | ((with_reducible refine aI (N := 12) rfl ?_); (try (refine bj (by rfl) ?_; dsimp only)); refine cn ?hg (N := 12) ?hd (cs := #[.string (⟨#[]⟩ : ByteArray), .int .i64 0]) (t := 80) ?hr ?_; (case hd => rfl); (case hg => rfl); (case hr => first | (go_simp; done) | (go_simp; rfl)); intro D0 hg c1 hbox hb; have n_ := b_ (Kd.R_below (rR_ r0.out) hb) <| b_ (bG (g := q0) (o := .cells #[.string f0, .int .i64 e0] 80 (0, 0)) (rK_ b0.out) hb) <| b_ (ac (hS_ p0.out) hb) <| b_ (hbox) <| b_ (by rw [hg]; exact (ab (hS_ p0.out)) : w.heap.size ≤ D0) <| b_ (by rw [hg]; exact (ab (hS_ p0.out)) : w.heap.size ≤ D0) <| b_ (by rw [hg]; exact Nat.ne_of_lt (ev (g := q0) (o := .cells #[.string f0, .int .i64 e0] 80 (0, 0)) (rK_ b0.out)) : q0 ≠ D0) <| c_ (by rw [hg]; exact Nat.ne_of_gt (ev (g := q0) (o := .cells #[.string f0, .int .i64 e0] 80 (0, 0)) (rK_ b0.out)) : D0 ≠ q0); clear r0 b0 HB; obtain ⟨r0, b0, HB, F0, i2, F1, E0, G0⟩ := n_; clear hb hbox hg; have hnb26 := G0.out; have hnc26 := E0.out; have d1 : c1.cell? ⟨D0, 0, none⟩ = some (.string (⟨#[]⟩ : ByteArray)) := (au F0.out 0).trans rfl; have e1 : c1.cell? ⟨D0, 1, none⟩ = some (.int .i64 0) := (au F0.out 1).trans rfl; have f1 := aj F0.out 0; have g1 := aj F0.out 1; have i1 : c1.cell? ⟨q0, 0, none⟩ = some (.string f0) := (au b0.out 0).trans rfl; have m1 : c1.cell? ⟨q0, 1, none⟩ = some (.int .i64 e0) := (au b0.out 1).trans rfl; have n1 := aj b0.out 0; have p1 := aj b0.out 1)))
    go_meet
    case rel => exact ⟨_, (e2), (A1), (E1), f0_, H', ⟨by have := R0.out; have := I0.out; first | omega | exact wa _⟩, ⟨by refine kR_ ?_; exact Kd.R_mono (Kd.R_far (Kd.R_far (Kd.R_far (Kd.R_far (Kd.R_types (Kd.R_types r0.out F0.out (by decide)) b0.out (by decide)) (fun _ hk => hk.1.2) (.string A1)) (fun _ hk => hk.1.2) (.int .i64 E1)) (fun _ hk => hk.2) _) (fun _ hk => hk.2) _) (fun _ hk => trivial)⟩, ⟨by refine kK_ ?_; refine bV (cs := #[.string A1, .int .i64 e0]) ?_ 1 _ rfl; refine kK_ ?_; refine bV (cs := #[.string f0, .int .i64 e0]) ?_ 0 _ rfl; refine kK_ ?_; refine dL ?_ E0.out _; refine kK_ ?_; refine dL ?_ E0.out _; refine kK_ ?_; exact b0.out⟩, ⟨(u0_ p0.out F1.out)⟩⟩
   rw [Aa n2] at H
   have U0 : ((wrap64 ((Int.tmod C0 56) * 3)) == 0) = false := beq_eq_false_iff_ne.mpr n2
   have E2 : ((wrap64 ((Int.tmod C0 56) * 3)) != 0) = true := bne_iff_ne.mpr n2
   (first | rw [U0] | (simp only [bB, cJ]; rw [U0]) | skip)
   have H' := aa.mk H
   clear H
   go_wp2
   repeat (go_quiet (fail); try go_wp2)
   go_meet
   case rel => exact ⟨_, (D1), (f0), (e0), f0_, H', ⟨by have := R0.out; have := I0.out; first | omega | exact wa _⟩, ⟨rR_ r0.out⟩, ⟨by refine kK_ ?_; exact b0.out⟩, ⟨hS_ p0.out⟩⟩
  clear m2
  obtain ⟨kq, d0, j0, k0, rfl, HA, M0, r0, b0, HB⟩ := hcut
  rcases kq with _ | B1
  ·exact absurd HA.out (by simp [ak.j2])
  have H := HA.out
  clear HA
  simp only [ak.j2] at H
  obtain ⟨v0, G1⟩ : ∃ j_ : Int, (wrap64 ((Int.tmod C0 56) * 3)) = j_ := ⟨_, rfl⟩
  first | rw [G1] at H | simp only [G1] at H
  have u3 : (IntKind.i64.wrap ((Int.tmod C0 56) * 3)) = v0 := (bB _).trans G1
  obtain ⟨K3, H⟩ := iD_ H
  obtain ⟨L3, H⟩ := iD_ H
  obtain ⟨t0, H1⟩ : ∃ j_ : Int, (wrap64 ((v0) + 1)) = j_ := ⟨_, rfl⟩
  first | rw [H1] at H | simp only [H1] at H
  have v3 : (IntKind.i64.wrap ((v0) + 1)) = t0 := (bB _).trans H1
  obtain ⟨M3, H⟩ := iD_ H
  obtain ⟨N3, H⟩ := iD_ H
  obtain ⟨y0, I1⟩ : ∃ j_ : Int, (wrap64 ((v0) + 2)) = j_ := ⟨_, rfl⟩
  first | rw [I1] at H | simp only [I1] at H
  have w3 : (IntKind.i64.wrap ((v0) + 2)) = y0 := (bB _).trans I1
  obtain ⟨O3, H⟩ := iD_ H
  obtain ⟨P3, H⟩ := iD_ H
  by_cases v2 : (wrap64 ((wrap64 (bt d0 (v0))) + (wrap64 (256 * (Int.tmod (wrap64 (bt d0 (t0))) 16))))) < 3329
  ·rw [za v2] at H
   have F2 := ta v2
   clear v2
   obtain ⟨Q3, H⟩ := iN_ H
   have J0 := aa.mk Q3
   clear Q3
   obtain ⟨N0, q1⟩ : ∃ y_ : List Int, y_ = (B0 ++ [wrap64 ((wrap64 (bt d0 (v0))) + (wrap64 (256 * (Int.tmod (wrap64 (bt d0 (t0))) 16))))]) := ⟨_, rfl⟩
   first | replace H := yb_ q1 H | rw [← q1] at H
   have K0 := aa.mk q1
   clear q1
   by_cases y2 : (wrap64 ((wrap64 (Int.tdiv (wrap64 (bt d0 (t0))) 16)) + (wrap64 (16 * (wrap64 (bt d0 (y0))))))) < 3329
   rotate_left
   ·rw [Aa y2] at H
    have G2 := ua y2
    clear y2
    have H' := aa.mk H
    clear H
    have H2 := va (oD_ : 0 ≤ ((v0) : Int))
    have I2 := va (oD_ : (v0) < (d0.size : Int))
    have J1 := cB d0 (v0)
    have J2 := va (oD_ : 0 ≤ ((t0) : Int))
    have K2 := va (oD_ : (t0) < (d0.size : Int))
    have K1 := cB d0 (t0)
    have L2 := va (oD_ : 0 ≤ ((t0) : Int))
    have M2 := va (oD_ : (t0) < (d0.size : Int))
    have L1 := cB d0 (t0)
    have N2 := va (oD_ : 0 ≤ ((y0) : Int))
    have O2 := va (oD_ : (y0) < (d0.size : Int))
    have M1 := cB d0 (y0)
    go_wp2_with (first | ((with_reducible refine aV (b := .append) (xs := #[.tmp 73, .tmp 75]) rfl ?_); (try (refine bj (by rfl) ?_; dsimp only)); at_builtin; refine Kd.R_append (Kd.int .i64) (w0 := w) w.heap.size rfl (.tmp 73) (.tmp 75) 38 3 (.int .i64 0) 8 rfl Tryz.underlying38 cS rfl (by decide) (by omega) u7 B0 (wrap64 ((wrap64 (bt d0 (v0))) + (wrap64 (256 * (Int.tmod (wrap64 (bt d0 (t0))) 16))))) [.int .i64 (wrap64 ((wrap64 (bt d0 (v0))) + (wrap64 (256 * (Int.tmod (wrap64 (bt d0 (t0))) 16)))))] (fun _ => True) (fun _ => False) rfl rfl ?aP (fun _ hk => hk.elim) ?aF ?aO ?aB ?aS ?aL ?_; (case aP => exact rfl); (case aB => exact (hS_ p0.out)); (case aF => exact (fun _ _ => trivial)); (case aO => exact (rR_ r0.out)); (case aS => exact (ab (hS_ p0.out))); (case aL => have := J0.out; omega); intro V0 R3 ho hb hg hat; rw [← K0.out] at ho; have n_ := b_ (cr (g := q0) (o := .cells #[.string j0, .int .i64 k0] 80 (0, 0)) (rK_ b0.out) hg (Kd.R_ne r0.out b0.out (by decide))) <| b_ (hb) <| c_ (ho); clear r0 b0 HB; obtain ⟨b0, HB, x0⟩ := n_; clear ho hb hg hat))
    repeat (go_quiet (first | ((with_reducible refine aV (b := .append) (xs := #[.tmp 73, .tmp 75]) rfl ?_); (try (refine bj (by rfl) ?_; dsimp only)); at_builtin; refine Kd.R_append (Kd.int .i64) (w0 := w) w.heap.size rfl (.tmp 73) (.tmp 75) 38 3 (.int .i64 0) 8 rfl Tryz.underlying38 cS rfl (by decide) (by omega) u7 B0 (wrap64 ((wrap64 (bt d0 (v0))) + (wrap64 (256 * (Int.tmod (wrap64 (bt d0 (t0))) 16))))) [.int .i64 (wrap64 ((wrap64 (bt d0 (v0))) + (wrap64 (256 * (Int.tmod (wrap64 (bt d0 (t0))) 16)))))] (fun _ => True) (fun _ => False) rfl rfl ?aP (fun _ hk => hk.elim) ?aF ?aO ?aB ?aS ?aL ?_; (case aP => exact rfl); (case aB => exact (hS_ p0.out)); (case aF => exact (fun _ _ => trivial)); (case aO => exact (rR_ r0.out)); (case aS => exact (ab (hS_ p0.out))); (case aL => have := J0.out; omega); intro V0 R3 ho hb hg hat; rw [← K0.out] at ho; have n_ := b_ (cr (g := q0) (o := .cells #[.string j0, .int .i64 k0] 80 (0, 0)) (rK_ b0.out) hg (Kd.R_ne r0.out b0.out (by decide))) <| b_ (hb) <| c_ (ho); clear r0 b0 HB; obtain ⟨b0, HB, x0⟩ := n_; clear ho hb hg hat)); try go_wp2_with (first | ((with_reducible refine aV (b := .append) (xs := #[.tmp 73, .tmp 75]) rfl ?_); (try (refine bj (by rfl) ?_; dsimp only)); at_builtin; refine Kd.R_append (Kd.int .i64) (w0 := w) w.heap.size rfl (.tmp 73) (.tmp 75) 38 3 (.int .i64 0) 8 rfl Tryz.underlying38 cS rfl (by decide) (by omega) u7 B0 (wrap64 ((wrap64 (bt d0 (v0))) + (wrap64 (256 * (Int.tmod (wrap64 (bt d0 (t0))) 16))))) [.int .i64 (wrap64 ((wrap64 (bt d0 (v0))) + (wrap64 (256 * (Int.tmod (wrap64 (bt d0 (t0))) 16)))))] (fun _ => True) (fun _ => False) rfl rfl ?aP (fun _ hk => hk.elim) ?aF ?aO ?aB ?aS ?aL ?_; (case aP => exact rfl); (case aB => exact (hS_ p0.out)); (case aF => exact (fun _ _ => trivial)); (case aO => exact (rR_ r0.out)); (case aS => exact (ab (hS_ p0.out))); (case aL => have := J0.out; omega); intro V0 R3 ho hb hg hat; rw [← K0.out] at ho; have n_ := b_ (cr (g := q0) (o := .cells #[.string j0, .int .i64 k0] 80 (0, 0)) (rK_ b0.out) hg (Kd.R_ne r0.out b0.out (by decide))) <| b_ (hb) <| c_ (ho); clear r0 b0 HB; obtain ⟨b0, HB, x0⟩ := n_; clear ho hb hg hat)))
    go_roundg B1
    case measure => have := R0.out; have := I0.out; have := M0.out; omega
    case rel => exact ⟨(N0), (d0), (wrap64 (C0 + 1)), (j0), (k0), f0_, f0_, H', ⟨by have := R0.out; have := I0.out; have := M0.out; omega⟩, ⟨rR_ x0.out⟩, ⟨by refine kK_ ?_; exact b0.out⟩, ⟨hS_ p0.out⟩⟩
   rw [za y2] at H
   have G2 := ta y2
   clear y2
   by_cases z2 : (N0.length : Int) < 256
   ·rw [za z2] at H
    have P2 := ta z2
    have Q2 : decide (N0.length < 256) = true := ta (by omega)
    clear z2
    obtain ⟨S3, H⟩ := iN_ H
    have N1 := aa.mk S3
    clear S3
    obtain ⟨y3, r1⟩ : ∃ y_ : List Int, y_ = (N0 ++ [wrap64 ((wrap64 (Int.tdiv (wrap64 (bt d0 (t0))) 16)) + (wrap64 (16 * (wrap64 (bt d0 (y0))))))]) := ⟨_, rfl⟩
    first | replace H := yb_ r1 H | rw [← r1] at H
    have O1 := aa.mk r1
    clear r1
    have H' := aa.mk H
    clear H
    have H2 := va (oD_ : 0 ≤ ((v0) : Int))
    have I2 := va (oD_ : (v0) < (d0.size : Int))
    have J1 := cB d0 (v0)
    have J2 := va (oD_ : 0 ≤ ((t0) : Int))
    have K2 := va (oD_ : (t0) < (d0.size : Int))
    have K1 := cB d0 (t0)
    have L2 := va (oD_ : 0 ≤ ((t0) : Int))
    have M2 := va (oD_ : (t0) < (d0.size : Int))
    have L1 := cB d0 (t0)
    have N2 := va (oD_ : 0 ≤ ((y0) : Int))
    have O2 := va (oD_ : (y0) < (d0.size : Int))
    have M1 := cB d0 (y0)
    go_wp2_with (first | ((with_reducible refine aV (b := .append) (xs := #[.tmp 73, .tmp 75]) rfl ?_); (try (refine bj (by rfl) ?_; dsimp only)); at_builtin; refine Kd.R_append (Kd.int .i64) (w0 := w) w.heap.size rfl (.tmp 73) (.tmp 75) 38 3 (.int .i64 0) 8 rfl Tryz.underlying38 cS rfl (by decide) (by omega) u7 B0 (wrap64 ((wrap64 (bt d0 (v0))) + (wrap64 (256 * (Int.tmod (wrap64 (bt d0 (t0))) 16))))) [.int .i64 (wrap64 ((wrap64 (bt d0 (v0))) + (wrap64 (256 * (Int.tmod (wrap64 (bt d0 (t0))) 16)))))] (fun _ => True) (fun _ => False) rfl rfl ?aP (fun _ hk => hk.elim) ?aF ?aO ?aB ?aS ?aL ?_; (case aP => exact rfl); (case aB => exact (hS_ p0.out)); (case aF => exact (fun _ _ => trivial)); (case aO => exact (rR_ r0.out)); (case aS => exact (ab (hS_ p0.out))); (case aL => have := J0.out; omega); intro V0 T3 ho hb hg hat; rw [← K0.out] at ho; have n_ := b_ (cr (g := q0) (o := .cells #[.string j0, .int .i64 k0] 80 (0, 0)) (rK_ b0.out) hg (Kd.R_ne r0.out b0.out (by decide))) <| b_ (hb) <| c_ (ho); clear r0 b0 HB; obtain ⟨b0, HB, x0⟩ := n_; clear ho hb hg hat; obtain ⟨P1, Q1, R1⟩ := Kd.R_slice x0.out; subst R1) | ((with_reducible refine aV (b := .append) (xs := #[.tmp 84, .tmp 86]) rfl ?_); (try (refine bj (by rfl) ?_; dsimp only)); at_builtin; refine Kd.R_append (Kd.int .i64) (w0 := w) w.heap.size rfl (.tmp 84) (.tmp 86) 38 3 (.int .i64 0) 8 rfl Tryz.underlying38 cS rfl (by decide) (by omega) (.slice P1 N0.length Q1) N0 (wrap64 ((wrap64 (Int.tdiv (wrap64 (bt d0 (t0))) 16)) + (wrap64 (16 * (wrap64 (bt d0 (y0))))))) [.int .i64 (wrap64 ((wrap64 (Int.tdiv (wrap64 (bt d0 (t0))) 16)) + (wrap64 (16 * (wrap64 (bt d0 (y0)))))))] (fun _ => True) (fun _ => False) rfl rfl ?aP (fun _ hk => hk.elim) ?aF ?aO ?aB ?aS ?aL ?_; (case aP => exact rfl); (case aB => exact (hS_ p0.out)); (case aF => exact (fun _ _ => trivial)); (case aO => exact (rR_ x0.out)); (case aS => exact (ab (hS_ p0.out))); (case aL => have := N1.out; omega); intro R2 U3 ho hb hg hat; rw [← O1.out] at ho; have n_ := b_ (cr (g := q0) (o := .cells #[.string j0, .int .i64 k0] 80 (0, 0)) (rK_ b0.out) hg (Kd.R_ne x0.out b0.out (by decide))) <| b_ (hb) <| c_ (ho); clear x0 b0 HB; obtain ⟨b0, HB, S1⟩ := n_; clear ho hb hg hat))
    repeat (go_quiet (first | ((with_reducible refine aV (b := .append) (xs := #[.tmp 73, .tmp 75]) rfl ?_); (try (refine bj (by rfl) ?_; dsimp only)); at_builtin; refine Kd.R_append (Kd.int .i64) (w0 := w) w.heap.size rfl (.tmp 73) (.tmp 75) 38 3 (.int .i64 0) 8 rfl Tryz.underlying38 cS rfl (by decide) (by omega) u7 B0 (wrap64 ((wrap64 (bt d0 (v0))) + (wrap64 (256 * (Int.tmod (wrap64 (bt d0 (t0))) 16))))) [.int .i64 (wrap64 ((wrap64 (bt d0 (v0))) + (wrap64 (256 * (Int.tmod (wrap64 (bt d0 (t0))) 16)))))] (fun _ => True) (fun _ => False) rfl rfl ?aP (fun _ hk => hk.elim) ?aF ?aO ?aB ?aS ?aL ?_; (case aP => exact rfl); (case aB => exact (hS_ p0.out)); (case aF => exact (fun _ _ => trivial)); (case aO => exact (rR_ r0.out)); (case aS => exact (ab (hS_ p0.out))); (case aL => have := J0.out; omega); intro V0 T3 ho hb hg hat; rw [← K0.out] at ho; have n_ := b_ (cr (g := q0) (o := .cells #[.string j0, .int .i64 k0] 80 (0, 0)) (rK_ b0.out) hg (Kd.R_ne r0.out b0.out (by decide))) <| b_ (hb) <| c_ (ho); clear r0 b0 HB; obtain ⟨b0, HB, x0⟩ := n_; clear ho hb hg hat; obtain ⟨P1, Q1, R1⟩ := Kd.R_slice x0.out; subst R1) | ((with_reducible refine aV (b := .append) (xs := #[.tmp 84, .tmp 86]) rfl ?_); (try (refine bj (by rfl) ?_; dsimp only)); at_builtin; refine Kd.R_append (Kd.int .i64) (w0 := w) w.heap.size rfl (.tmp 84) (.tmp 86) 38 3 (.int .i64 0) 8 rfl Tryz.underlying38 cS rfl (by decide) (by omega) (.slice P1 N0.length Q1) N0 (wrap64 ((wrap64 (Int.tdiv (wrap64 (bt d0 (t0))) 16)) + (wrap64 (16 * (wrap64 (bt d0 (y0))))))) [.int .i64 (wrap64 ((wrap64 (Int.tdiv (wrap64 (bt d0 (t0))) 16)) + (wrap64 (16 * (wrap64 (bt d0 (y0)))))))] (fun _ => True) (fun _ => False) rfl rfl ?aP (fun _ hk => hk.elim) ?aF ?aO ?aB ?aS ?aL ?_; (case aP => exact rfl); (case aB => exact (hS_ p0.out)); (case aF => exact (fun _ _ => trivial)); (case aO => exact (rR_ x0.out)); (case aS => exact (ab (hS_ p0.out))); (case aL => have := N1.out; omega); intro R2 U3 ho hb hg hat; rw [← O1.out] at ho; have n_ := b_ (cr (g := q0) (o := .cells #[.string j0, .int .i64 k0] 80 (0, 0)) (rK_ b0.out) hg (Kd.R_ne x0.out b0.out (by decide))) <| b_ (hb) <| c_ (ho); clear x0 b0 HB; obtain ⟨b0, HB, S1⟩ := n_; clear ho hb hg hat)); try go_wp2_with (first | ((with_reducible refine aV (b := .append) (xs := #[.tmp 73, .tmp 75]) rfl ?_); (try (refine bj (by rfl) ?_; dsimp only)); at_builtin; refine Kd.R_append (Kd.int .i64) (w0 := w) w.heap.size rfl (.tmp 73) (.tmp 75) 38 3 (.int .i64 0) 8 rfl Tryz.underlying38 cS rfl (by decide) (by omega) u7 B0 (wrap64 ((wrap64 (bt d0 (v0))) + (wrap64 (256 * (Int.tmod (wrap64 (bt d0 (t0))) 16))))) [.int .i64 (wrap64 ((wrap64 (bt d0 (v0))) + (wrap64 (256 * (Int.tmod (wrap64 (bt d0 (t0))) 16)))))] (fun _ => True) (fun _ => False) rfl rfl ?aP (fun _ hk => hk.elim) ?aF ?aO ?aB ?aS ?aL ?_; (case aP => exact rfl); (case aB => exact (hS_ p0.out)); (case aF => exact (fun _ _ => trivial)); (case aO => exact (rR_ r0.out)); (case aS => exact (ab (hS_ p0.out))); (case aL => have := J0.out; omega); intro V0 T3 ho hb hg hat; rw [← K0.out] at ho; have n_ := b_ (cr (g := q0) (o := .cells #[.string j0, .int .i64 k0] 80 (0, 0)) (rK_ b0.out) hg (Kd.R_ne r0.out b0.out (by decide))) <| b_ (hb) <| c_ (ho); clear r0 b0 HB; obtain ⟨b0, HB, x0⟩ := n_; clear ho hb hg hat; obtain ⟨P1, Q1, R1⟩ := Kd.R_slice x0.out; subst R1) | ((with_reducible refine aV (b := .append) (xs := #[.tmp 84, .tmp 86]) rfl ?_); (try (refine bj (by rfl) ?_; dsimp only)); at_builtin; refine Kd.R_append (Kd.int .i64) (w0 := w) w.heap.size rfl (.tmp 84) (.tmp 86) 38 3 (.int .i64 0) 8 rfl Tryz.underlying38 cS rfl (by decide) (by omega) (.slice P1 N0.length Q1) N0 (wrap64 ((wrap64 (Int.tdiv (wrap64 (bt d0 (t0))) 16)) + (wrap64 (16 * (wrap64 (bt d0 (y0))))))) [.int .i64 (wrap64 ((wrap64 (Int.tdiv (wrap64 (bt d0 (t0))) 16)) + (wrap64 (16 * (wrap64 (bt d0 (y0)))))))] (fun _ => True) (fun _ => False) rfl rfl ?aP (fun _ hk => hk.elim) ?aF ?aO ?aB ?aS ?aL ?_; (case aP => exact rfl); (case aB => exact (hS_ p0.out)); (case aF => exact (fun _ _ => trivial)); (case aO => exact (rR_ x0.out)); (case aS => exact (ab (hS_ p0.out))); (case aL => have := N1.out; omega); intro R2 U3 ho hb hg hat; rw [← O1.out] at ho; have n_ := b_ (cr (g := q0) (o := .cells #[.string j0, .int .i64 k0] 80 (0, 0)) (rK_ b0.out) hg (Kd.R_ne x0.out b0.out (by decide))) <| b_ (hb) <| c_ (ho); clear x0 b0 HB; obtain ⟨b0, HB, S1⟩ := n_; clear ho hb hg hat)))
    go_roundg B1
    case measure => have := R0.out; have := I0.out; have := M0.out; omega
    case rel => exact ⟨(y3), (d0), (wrap64 (C0 + 1)), (j0), (k0), f0_, f0_, H', ⟨by have := R0.out; have := I0.out; have := M0.out; omega⟩, ⟨rR_ S1.out⟩, ⟨by refine kK_ ?_; exact b0.out⟩, ⟨hS_ p0.out⟩⟩
   rw [Aa z2] at H
   have P2 := ua z2
   have Q2 : decide (N0.length < 256) = false := ua (by omega)
   clear z2
   have H' := aa.mk H
   clear H
   have H2 := va (oD_ : 0 ≤ ((v0) : Int))
   have I2 := va (oD_ : (v0) < (d0.size : Int))
   have J1 := cB d0 (v0)
   have J2 := va (oD_ : 0 ≤ ((t0) : Int))
   have K2 := va (oD_ : (t0) < (d0.size : Int))
   have K1 := cB d0 (t0)
   have L2 := va (oD_ : 0 ≤ ((t0) : Int))
   have M2 := va (oD_ : (t0) < (d0.size : Int))
   have L1 := cB d0 (t0)
   have N2 := va (oD_ : 0 ≤ ((y0) : Int))
   have O2 := va (oD_ : (y0) < (d0.size : Int))
   have M1 := cB d0 (y0)
   go_wp2_with (first | ((with_reducible refine aV (b := .append) (xs := #[.tmp 73, .tmp 75]) rfl ?_); (try (refine bj (by rfl) ?_; dsimp only)); at_builtin; refine Kd.R_append (Kd.int .i64) (w0 := w) w.heap.size rfl (.tmp 73) (.tmp 75) 38 3 (.int .i64 0) 8 rfl Tryz.underlying38 cS rfl (by decide) (by omega) u7 B0 (wrap64 ((wrap64 (bt d0 (v0))) + (wrap64 (256 * (Int.tmod (wrap64 (bt d0 (t0))) 16))))) [.int .i64 (wrap64 ((wrap64 (bt d0 (v0))) + (wrap64 (256 * (Int.tmod (wrap64 (bt d0 (t0))) 16)))))] (fun _ => True) (fun _ => False) rfl rfl ?aP (fun _ hk => hk.elim) ?aF ?aO ?aB ?aS ?aL ?_; (case aP => exact rfl); (case aB => exact (hS_ p0.out)); (case aF => exact (fun _ _ => trivial)); (case aO => exact (rR_ r0.out)); (case aS => exact (ab (hS_ p0.out))); (case aL => have := J0.out; omega); intro V0 V3 ho hb hg hat; rw [← K0.out] at ho; have n_ := b_ (cr (g := q0) (o := .cells #[.string j0, .int .i64 k0] 80 (0, 0)) (rK_ b0.out) hg (Kd.R_ne r0.out b0.out (by decide))) <| b_ (hb) <| c_ (ho); clear r0 b0 HB; obtain ⟨b0, HB, x0⟩ := n_; clear ho hb hg hat; obtain ⟨T2, U2, T1⟩ := Kd.R_slice x0.out; subst T1))
   repeat (go_quiet (first | ((with_reducible refine aV (b := .append) (xs := #[.tmp 73, .tmp 75]) rfl ?_); (try (refine bj (by rfl) ?_; dsimp only)); at_builtin; refine Kd.R_append (Kd.int .i64) (w0 := w) w.heap.size rfl (.tmp 73) (.tmp 75) 38 3 (.int .i64 0) 8 rfl Tryz.underlying38 cS rfl (by decide) (by omega) u7 B0 (wrap64 ((wrap64 (bt d0 (v0))) + (wrap64 (256 * (Int.tmod (wrap64 (bt d0 (t0))) 16))))) [.int .i64 (wrap64 ((wrap64 (bt d0 (v0))) + (wrap64 (256 * (Int.tmod (wrap64 (bt d0 (t0))) 16)))))] (fun _ => True) (fun _ => False) rfl rfl ?aP (fun _ hk => hk.elim) ?aF ?aO ?aB ?aS ?aL ?_; (case aP => exact rfl); (case aB => exact (hS_ p0.out)); (case aF => exact (fun _ _ => trivial)); (case aO => exact (rR_ r0.out)); (case aS => exact (ab (hS_ p0.out))); (case aL => have := J0.out; omega); intro V0 V3 ho hb hg hat; rw [← K0.out] at ho; have n_ := b_ (cr (g := q0) (o := .cells #[.string j0, .int .i64 k0] 80 (0, 0)) (rK_ b0.out) hg (Kd.R_ne r0.out b0.out (by decide))) <| b_ (hb) <| c_ (ho); clear r0 b0 HB; obtain ⟨b0, HB, x0⟩ := n_; clear ho hb hg hat; obtain ⟨T2, U2, T1⟩ := Kd.R_slice x0.out; subst T1)); try go_wp2_with (first | ((with_reducible refine aV (b := .append) (xs := #[.tmp 73, .tmp 75]) rfl ?_); (try (refine bj (by rfl) ?_; dsimp only)); at_builtin; refine Kd.R_append (Kd.int .i64) (w0 := w) w.heap.size rfl (.tmp 73) (.tmp 75) 38 3 (.int .i64 0) 8 rfl Tryz.underlying38 cS rfl (by decide) (by omega) u7 B0 (wrap64 ((wrap64 (bt d0 (v0))) + (wrap64 (256 * (Int.tmod (wrap64 (bt d0 (t0))) 16))))) [.int .i64 (wrap64 ((wrap64 (bt d0 (v0))) + (wrap64 (256 * (Int.tmod (wrap64 (bt d0 (t0))) 16)))))] (fun _ => True) (fun _ => False) rfl rfl ?aP (fun _ hk => hk.elim) ?aF ?aO ?aB ?aS ?aL ?_; (case aP => exact rfl); (case aB => exact (hS_ p0.out)); (case aF => exact (fun _ _ => trivial)); (case aO => exact (rR_ r0.out)); (case aS => exact (ab (hS_ p0.out))); (case aL => have := J0.out; omega); intro V0 V3 ho hb hg hat; rw [← K0.out] at ho; have n_ := b_ (cr (g := q0) (o := .cells #[.string j0, .int .i64 k0] 80 (0, 0)) (rK_ b0.out) hg (Kd.R_ne r0.out b0.out (by decide))) <| b_ (hb) <| c_ (ho); clear r0 b0 HB; obtain ⟨b0, HB, x0⟩ := n_; clear ho hb hg hat; obtain ⟨T2, U2, T1⟩ := Kd.R_slice x0.out; subst T1)))
   go_roundg B1
   case measure => have := R0.out; have := I0.out; have := M0.out; omega
   case rel => exact ⟨(N0), (d0), (wrap64 (C0 + 1)), (j0), (k0), f0_, f0_, H', ⟨by have := R0.out; have := I0.out; have := M0.out; omega⟩, ⟨rR_ x0.out⟩, ⟨by refine kK_ ?_; exact b0.out⟩, ⟨hS_ p0.out⟩⟩
  rw [Aa v2] at H
  have F2 := ua v2
  clear v2
  by_cases A2 : (wrap64 ((wrap64 (Int.tdiv (wrap64 (bt d0 (t0))) 16)) + (wrap64 (16 * (wrap64 (bt d0 (y0))))))) < 3329
  rotate_left
  ·rw [Aa A2] at H
   have V2 := ua A2
   clear A2
   have H' := aa.mk H
   clear H
   have H2 := va (oD_ : 0 ≤ ((v0) : Int))
   have I2 := va (oD_ : (v0) < (d0.size : Int))
   have J1 := cB d0 (v0)
   have J2 := va (oD_ : 0 ≤ ((t0) : Int))
   have K2 := va (oD_ : (t0) < (d0.size : Int))
   have K1 := cB d0 (t0)
   have L2 := va (oD_ : 0 ≤ ((t0) : Int))
   have M2 := va (oD_ : (t0) < (d0.size : Int))
   have L1 := cB d0 (t0)
   have N2 := va (oD_ : 0 ≤ ((y0) : Int))
   have O2 := va (oD_ : (y0) < (d0.size : Int))
   have M1 := cB d0 (y0)
   go_wp2
   repeat (go_quiet (fail); try go_wp2)
   go_roundg B1
   case measure => have := R0.out; have := I0.out; have := M0.out; omega
   case rel => exact ⟨(B0), (d0), (wrap64 (C0 + 1)), (j0), (k0), f0_, f0_, H', ⟨by have := R0.out; have := I0.out; have := M0.out; omega⟩, ⟨rR_ r0.out⟩, ⟨by refine kK_ ?_; exact b0.out⟩, ⟨hS_ p0.out⟩⟩
  rw [za A2] at H
  have V2 := ta A2
  clear A2
  by_cases B2 : (B0.length : Int) < 256
  ·rw [za B2] at H
   have X2 := ta B2
   have Y2 : decide (B0.length < 256) = true := ta (by omega)
   clear B2
   obtain ⟨W3, H⟩ := iN_ H
   have U1 := aa.mk W3
   clear W3
   obtain ⟨z3, t1⟩ : ∃ y_ : List Int, y_ = (B0 ++ [wrap64 ((wrap64 (Int.tdiv (wrap64 (bt d0 (t0))) 16)) + (wrap64 (16 * (wrap64 (bt d0 (y0))))))]) := ⟨_, rfl⟩
   first | replace H := yb_ t1 H | rw [← t1] at H
   have V1 := aa.mk t1
   clear t1
   have H' := aa.mk H
   clear H
   have H2 := va (oD_ : 0 ≤ ((v0) : Int))
   have I2 := va (oD_ : (v0) < (d0.size : Int))
   have J1 := cB d0 (v0)
   have J2 := va (oD_ : 0 ≤ ((t0) : Int))
   have K2 := va (oD_ : (t0) < (d0.size : Int))
   have K1 := cB d0 (t0)
   have L2 := va (oD_ : 0 ≤ ((t0) : Int))
   have M2 := va (oD_ : (t0) < (d0.size : Int))
   have L1 := cB d0 (t0)
   have N2 := va (oD_ : 0 ≤ ((y0) : Int))
   have O2 := va (oD_ : (y0) < (d0.size : Int))
   have M1 := cB d0 (y0)
   obtain ⟨p2, q2, A3⟩ := Kd.R_slice r0.out
   subst A3
   go_wp2_with (first | ((with_reducible refine aV (b := .append) (xs := #[.tmp 84, .tmp 86]) rfl ?_); (try (refine bj (by rfl) ?_; dsimp only)); at_builtin; refine Kd.R_append (Kd.int .i64) (w0 := w) w.heap.size rfl (.tmp 84) (.tmp 86) 38 3 (.int .i64 0) 8 rfl Tryz.underlying38 cS rfl (by decide) (by omega) (.slice p2 B0.length q2) B0 (wrap64 ((wrap64 (Int.tdiv (wrap64 (bt d0 (t0))) 16)) + (wrap64 (16 * (wrap64 (bt d0 (y0))))))) [.int .i64 (wrap64 ((wrap64 (Int.tdiv (wrap64 (bt d0 (t0))) 16)) + (wrap64 (16 * (wrap64 (bt d0 (y0)))))))] (fun _ => True) (fun _ => False) rfl rfl ?aP (fun _ hk => hk.elim) ?aF ?aO ?aB ?aS ?aL ?_; (case aP => exact rfl); (case aB => exact (hS_ p0.out)); (case aF => exact (fun _ _ => trivial)); (case aO => exact (rR_ r0.out)); (case aS => exact (ab (hS_ p0.out))); (case aL => have := U1.out; omega); intro Z2 X3 ho hb hg hat; rw [← V1.out] at ho; have n_ := b_ (cr (g := q0) (o := .cells #[.string j0, .int .i64 k0] 80 (0, 0)) (rK_ b0.out) hg (Kd.R_ne r0.out b0.out (by decide))) <| b_ (hb) <| c_ (ho); clear r0 b0 HB; obtain ⟨b0, HB, X1⟩ := n_; clear ho hb hg hat))
   repeat (go_quiet (first | ((with_reducible refine aV (b := .append) (xs := #[.tmp 84, .tmp 86]) rfl ?_); (try (refine bj (by rfl) ?_; dsimp only)); at_builtin; refine Kd.R_append (Kd.int .i64) (w0 := w) w.heap.size rfl (.tmp 84) (.tmp 86) 38 3 (.int .i64 0) 8 rfl Tryz.underlying38 cS rfl (by decide) (by omega) (.slice p2 B0.length q2) B0 (wrap64 ((wrap64 (Int.tdiv (wrap64 (bt d0 (t0))) 16)) + (wrap64 (16 * (wrap64 (bt d0 (y0))))))) [.int .i64 (wrap64 ((wrap64 (Int.tdiv (wrap64 (bt d0 (t0))) 16)) + (wrap64 (16 * (wrap64 (bt d0 (y0)))))))] (fun _ => True) (fun _ => False) rfl rfl ?aP (fun _ hk => hk.elim) ?aF ?aO ?aB ?aS ?aL ?_; (case aP => exact rfl); (case aB => exact (hS_ p0.out)); (case aF => exact (fun _ _ => trivial)); (case aO => exact (rR_ r0.out)); (case aS => exact (ab (hS_ p0.out))); (case aL => have := U1.out; omega); intro Z2 X3 ho hb hg hat; rw [← V1.out] at ho; have n_ := b_ (cr (g := q0) (o := .cells #[.string j0, .int .i64 k0] 80 (0, 0)) (rK_ b0.out) hg (Kd.R_ne r0.out b0.out (by decide))) <| b_ (hb) <| c_ (ho); clear r0 b0 HB; obtain ⟨b0, HB, X1⟩ := n_; clear ho hb hg hat)); try go_wp2_with (first | ((with_reducible refine aV (b := .append) (xs := #[.tmp 84, .tmp 86]) rfl ?_); (try (refine bj (by rfl) ?_; dsimp only)); at_builtin; refine Kd.R_append (Kd.int .i64) (w0 := w) w.heap.size rfl (.tmp 84) (.tmp 86) 38 3 (.int .i64 0) 8 rfl Tryz.underlying38 cS rfl (by decide) (by omega) (.slice p2 B0.length q2) B0 (wrap64 ((wrap64 (Int.tdiv (wrap64 (bt d0 (t0))) 16)) + (wrap64 (16 * (wrap64 (bt d0 (y0))))))) [.int .i64 (wrap64 ((wrap64 (Int.tdiv (wrap64 (bt d0 (t0))) 16)) + (wrap64 (16 * (wrap64 (bt d0 (y0)))))))] (fun _ => True) (fun _ => False) rfl rfl ?aP (fun _ hk => hk.elim) ?aF ?aO ?aB ?aS ?aL ?_; (case aP => exact rfl); (case aB => exact (hS_ p0.out)); (case aF => exact (fun _ _ => trivial)); (case aO => exact (rR_ r0.out)); (case aS => exact (ab (hS_ p0.out))); (case aL => have := U1.out; omega); intro Z2 X3 ho hb hg hat; rw [← V1.out] at ho; have n_ := b_ (cr (g := q0) (o := .cells #[.string j0, .int .i64 k0] 80 (0, 0)) (rK_ b0.out) hg (Kd.R_ne r0.out b0.out (by decide))) <| b_ (hb) <| c_ (ho); clear r0 b0 HB; obtain ⟨b0, HB, X1⟩ := n_; clear ho hb hg hat)))
   go_roundg B1
   case measure => have := R0.out; have := I0.out; have := M0.out; omega
   case rel => exact ⟨(z3), (d0), (wrap64 (C0 + 1)), (j0), (k0), f0_, f0_, H', ⟨by have := R0.out; have := I0.out; have := M0.out; omega⟩, ⟨rR_ X1.out⟩, ⟨by refine kK_ ?_; exact b0.out⟩, ⟨hS_ p0.out⟩⟩
  rw [Aa B2] at H
  have X2 := ua B2
  have Y2 : decide (B0.length < 256) = false := ua (by omega)
  clear B2
  have H' := aa.mk H
  clear H
  have H2 := va (oD_ : 0 ≤ ((v0) : Int))
  have I2 := va (oD_ : (v0) < (d0.size : Int))
  have J1 := cB d0 (v0)
  have J2 := va (oD_ : 0 ≤ ((t0) : Int))
  have K2 := va (oD_ : (t0) < (d0.size : Int))
  have K1 := cB d0 (t0)
  have L2 := va (oD_ : 0 ≤ ((t0) : Int))
  have M2 := va (oD_ : (t0) < (d0.size : Int))
  have L1 := cB d0 (t0)
  have N2 := va (oD_ : 0 ≤ ((y0) : Int))
  have O2 := va (oD_ : (y0) < (d0.size : Int))
  have M1 := cB d0 (y0)
  obtain ⟨u4, v4, B3⟩ := Kd.R_slice r0.out
  subst B3
  go_wp2
  repeat (go_quiet (fail); try go_wp2)
  go_roundg B1
  case measure => have := R0.out; have := I0.out; have := M0.out; omega
  case rel => exact ⟨(B0), (d0), (wrap64 (C0 + 1)), (j0), (k0), f0_, f0_, H', ⟨by have := R0.out; have := I0.out; have := M0.out; omega⟩, ⟨rR_ r0.out⟩, ⟨by refine kK_ ?_; exact b0.out⟩, ⟨hS_ p0.out⟩⟩
 ·replace f3 := ya f3
  subst f3
  replace H := iF_ H
  have H' := aa.mk H
  clear H
  go_wp2
  repeat (go_quiet (fail); try go_wp2)
  go_loopg [7] z1 (fun kq v7 w' => ∃ (L0 : List Int), aa (ak.l1 kq L0 = some r) ∧ aa (kq ≤ z1) ∧ aa (Kd.R (Kd.int .i64) 3 w' w.heap.size (fun _ => True) v7 L0) ∧ aa (w'.heap[q0]? = some (.cells #[.string f0, .int .i64 e0] 80 (0, 0))) ∧ aa (Below w.heap.size w w'))
  case atStart => exact ⟨(B0), H', ⟨wa _⟩, ⟨rR_ r0.out⟩, ⟨by refine kK_ ?_; exact b0.out⟩, ⟨hS_ p0.out⟩⟩
  clear H'
  obtain ⟨L0, HA, Y3, r0, b0, HB⟩ := hrel
  rcases gk with _ | k3
  ·exact absurd HA.out (by simp [ak.l1])
  have H := HA.out
  clear HA
  simp only [ak.l1] at H
  by_cases C2 : (L0.length : Int) < 256
  ·rw [za C2] at H
   have b3 := ta C2
   have c3 : decide (L0.length < 256) = true := ta (by omega)
   clear C2
   obtain ⟨Z3, H⟩ := iN_ H
   have Y1 := aa.mk Z3
   clear Z3
   obtain ⟨C3, y1⟩ : ∃ y_ : List Int, y_ = (L0 ++ [0]) := ⟨_, rfl⟩
   first | replace H := yb_ y1 H | rw [← y1] at H
   have Z1 := aa.mk y1
   clear y1
   have H' := aa.mk H
   clear H
   obtain ⟨r2, t2, D3⟩ := Kd.R_slice r0.out
   subst D3
   go_wp2_with (first | ((with_reducible refine aV (b := .append) (xs := #[.tmp 91, .tmp 92]) rfl ?_); (try (refine bj (by rfl) ?_; dsimp only)); at_builtin; refine Kd.R_append (Kd.int .i64) (w0 := w) w.heap.size rfl (.tmp 91) (.tmp 92) 38 3 (.int .i64 0) 8 rfl Tryz.underlying38 cS rfl (by decide) (by omega) (.slice r2 L0.length t2) L0 0 [.int .i64 0] (fun _ => True) (fun _ => False) rfl rfl ?aP (fun _ hk => hk.elim) ?aF ?aO ?aB ?aS ?aL ?_; (case aP => exact rfl); (case aB => exact (hS_ p0.out)); (case aF => exact (fun _ _ => trivial)); (case aO => exact (rR_ r0.out)); (case aS => exact (ab (hS_ p0.out))); (case aL => have := Y1.out; omega); intro e3 b4 ho hb hg hat; rw [← Z1.out] at ho; have n_ := b_ (cr (g := q0) (o := .cells #[.string f0, .int .i64 e0] 80 (0, 0)) (rK_ b0.out) hg (Kd.R_ne r0.out b0.out (by decide))) <| b_ (hb) <| c_ (ho); clear r0 b0 HB; obtain ⟨b0, HB, b2⟩ := n_; clear ho hb hg hat))
   repeat (go_quiet (first | ((with_reducible refine aV (b := .append) (xs := #[.tmp 91, .tmp 92]) rfl ?_); (try (refine bj (by rfl) ?_; dsimp only)); at_builtin; refine Kd.R_append (Kd.int .i64) (w0 := w) w.heap.size rfl (.tmp 91) (.tmp 92) 38 3 (.int .i64 0) 8 rfl Tryz.underlying38 cS rfl (by decide) (by omega) (.slice r2 L0.length t2) L0 0 [.int .i64 0] (fun _ => True) (fun _ => False) rfl rfl ?aP (fun _ hk => hk.elim) ?aF ?aO ?aB ?aS ?aL ?_; (case aP => exact rfl); (case aB => exact (hS_ p0.out)); (case aF => exact (fun _ _ => trivial)); (case aO => exact (rR_ r0.out)); (case aS => exact (ab (hS_ p0.out))); (case aL => have := Y1.out; omega); intro e3 b4 ho hb hg hat; rw [← Z1.out] at ho; have n_ := b_ (cr (g := q0) (o := .cells #[.string f0, .int .i64 e0] 80 (0, 0)) (rK_ b0.out) hg (Kd.R_ne r0.out b0.out (by decide))) <| b_ (hb) <| c_ (ho); clear r0 b0 HB; obtain ⟨b0, HB, b2⟩ := n_; clear ho hb hg hat)); try go_wp2_with (first | ((with_reducible refine aV (b := .append) (xs := #[.tmp 91, .tmp 92]) rfl ?_); (try (refine bj (by rfl) ?_; dsimp only)); at_builtin; refine Kd.R_append (Kd.int .i64) (w0 := w) w.heap.size rfl (.tmp 91) (.tmp 92) 38 3 (.int .i64 0) 8 rfl Tryz.underlying38 cS rfl (by decide) (by omega) (.slice r2 L0.length t2) L0 0 [.int .i64 0] (fun _ => True) (fun _ => False) rfl rfl ?aP (fun _ hk => hk.elim) ?aF ?aO ?aB ?aS ?aL ?_; (case aP => exact rfl); (case aB => exact (hS_ p0.out)); (case aF => exact (fun _ _ => trivial)); (case aO => exact (rR_ r0.out)); (case aS => exact (ab (hS_ p0.out))); (case aL => have := Y1.out; omega); intro e3 b4 ho hb hg hat; rw [← Z1.out] at ho; have n_ := b_ (cr (g := q0) (o := .cells #[.string f0, .int .i64 e0] 80 (0, 0)) (rK_ b0.out) hg (Kd.R_ne r0.out b0.out (by decide))) <| b_ (hb) <| c_ (ho); clear r0 b0 HB; obtain ⟨b0, HB, b2⟩ := n_; clear ho hb hg hat)))
   go_roundg k3
   case measure => have := R0.out; have := I0.out; have := Y3.out; omega
   case rel => exact ⟨(C3), H', ⟨by have := R0.out; have := I0.out; have := Y3.out; omega⟩, ⟨rR_ b2.out⟩, ⟨by refine kK_ ?_; exact b0.out⟩, ⟨hS_ p0.out⟩⟩
  rw [Aa C2] at H
  have b3 := ua C2
  have c3 : decide (L0.length < 256) = false := ua (by omega)
  clear C2
  obtain rfl := sI H
  obtain ⟨w4, y4, E3⟩ := Kd.R_slice r0.out
  subst E3
  go_wp2
  repeat (go_quiet (fail); try go_wp2)
  go_ret
  exact ⟨_, f1_, rR_ r0.out, hS_ p0.out⟩

/-! ### aC: function 15 -/
mutual
def aC.l0 : Nat → ByteArray → List (List Int) → Int → Option ((List (List Int)))
 | 0, _, _, _ => none
 | k + 1, x0, x3, x4 => if x4 < 2 then (aC.l1 k x0 x3 x4 0) else (some x3)
def aC.l1 : Nat → ByteArray → List (List Int) → Int → Int → Option ((List (List Int)))
 | 0, _, _, _, _ => none
 | k + 1, x0, x3, x4, x5 => if x5 < 2 then ((ak.f k x0 x5 x4).bind fun t347 => (if x3.length < 5864062014805 then (aC.l1 k x0 (x3 ++ [t347]) x4 (wrap64 (x5 + 1))) else (none))) else (aC.l0 k x0 x3 (wrap64 (x4 + 1)))
end
def aC.f (k : Nat) (a0 : ByteArray) : Option ((List (List Int))) := aC.l0 k a0 (([] : List (List Int))) 0
theorem aC.mono_l : ∀ k, (∀ y0 y1 y2, LeO (aC.l0 k y0 y1 y2) (aC.l0 (k + 1) y0 y1 y2)) ∧ (∀ y0 y1 y2 y3, LeO (aC.l1 k y0 y1 y2 y3) (aC.l1 (k + 1) y0 y1 y2 y3))
 | 0 => ⟨fun _ _ _ r h => by simp [aC.l0] at h, fun _ _ _ _ r h => by simp [aC.l1] at h⟩
 | k + 1 => by
  obtain ⟨ih0, ih1⟩ := aC.mono_l k
  refine ⟨?_, ?_⟩ <;> (intros; (first | unfold aC.l0 | unfold aC.l1); exact o3_ ih0 ih1 ak.mono)
theorem aC.mono : ∀ a0 k, LeO (aC.f k a0) (aC.f (k + 1) a0) := by
 intro a0 k
 obtain ⟨ih0, ih1⟩ := aC.mono_l k
 unfold aC.f
 exact o3_ ih0 ih1 ak.mono
theorem aC.calls (k : Nat) (a0 : ByteArray) (r : List (List Int)) (w : World) (h : aC.f k a0 = some r) :
  Calls Tryz.prog 15 #[.string a0] w fun e w' => ∃ L0 : Value, e = .returned (L0) ∧ Kd.S (Kd.slice 3 (Kd.int .i64)) 38 w' w.heap.size (fun _ => True) L0 r ∧ Below w.heap.size w w' := by
 have HB := aa.mk (xa w.heap.size w)
 delta aC.f at h
 have H := h
 clear h
 obtain ⟨F0, f0⟩ : ∃ y_ : List (List Int), y_ = (([] : List (List Int))) := ⟨_, rfl⟩
 first | replace H := yb_ f0 H | rw [← f0] at H
 have t0 := aa.mk f0
 clear f0
 have H' := aa.mk H
 clear H
 go_enter Tryz.func15, Tryz.ntmps15
 go_wp2_with (first | ((with_reducible refine aI (N := 6) rfl ?_); refine Kd.S_lit (Kd.slice 3 (Kd.int .i64)) _ 38 ?hg (N := 6) ?hd (xs := ([] : List (List Int))) (inner := []) (ok := fun _ => True) (okp := fun _ => True) ?hr ?hp (fun _ hk => hk) trivial (xa _ _) (wa _) (by simp) ?_; (case hd => rfl); (case hg => rfl); (case hr => first | (go_simp; done) | (go_simp; rfl)); (case hp => exact (br.none _ _)); intro N0 w2 u0 hb hg_ hnew_; clear hg_ hnew_; (first | rw [← t0.out] at u0 | (simp only [Int.reduceToNat] at u0; rw [← t0.out] at u0)); have n_ := b_ (Kd.S_lower u0 (ab (hB_))) <| c_ (ac (hB_) hb); clear HB; obtain ⟨v0, HB⟩ := n_; clear hb u0))
 go_loopg [3, 4] k (fun kq v3 v4 w' => ∃ (r0 : List (List Int)) (d0 : Int), v4 = .int .i64 d0 ∧ aa (aC.l0 kq a0 r0 d0 = some r) ∧ aa (kq ≤ k) ∧ aa (Kd.S (Kd.slice 3 (Kd.int .i64)) 38 w' w.heap.size (fun _ => True) v3 r0) ∧ aa (Below w.heap.size w w'))
 case atStart => exact ⟨(F0), (0), f0_, H', ⟨wa _⟩, ⟨rS_ v0.out⟩, ⟨hB_⟩⟩
 clear H'
 obtain ⟨r0, d0, rfl, HA, D0, b0, HB⟩ := hrel
 rcases gk with _ | k1
 ·exact absurd HA.out (by simp [aC.l0])
 have H := HA.out
 clear HA
 simp only [aC.l0] at H
 by_cases c4 : d0 < 2
 rotate_left
 ·rw [Aa c4] at H
  have G0 := ua c4
  clear c4
  obtain rfl := sI H
  go_wp2
  go_ret
  exact ⟨_, f1_, by refine kS_ ?_; exact b0.out, hB_⟩
 rw [za c4] at H
 have G0 := ta c4
 clear c4
 have H' := aa.mk H
 clear H
 go_wp2
 go_loopg [3, 5] k1 (fun kq v3 v5 w' => ∃ (p0 : List (List Int)) (e0 : Int), v5 = .int .i64 e0 ∧ aa (aC.l1 kq a0 p0 d0 e0 = some r) ∧ aa (kq ≤ k1) ∧ aa (Kd.S (Kd.slice 3 (Kd.int .i64)) 38 w' w.heap.size (fun _ => True) v3 p0) ∧ aa (Below w.heap.size w w'))
 case atStart => exact ⟨(r0), (0), f0_, H', ⟨wa _⟩, ⟨rS_ b0.out⟩, ⟨hB_⟩⟩
 clear H'
 obtain ⟨p0, e0, rfl, HA, E0, b0, HB⟩ := hrel
 rcases gk with _ | k2
 ·exact absurd HA.out (by simp [aC.l1])
 have H := HA.out
 clear HA
 simp only [aC.l1] at H
 by_cases c5 : e0 < 2
 ·rw [za c5] at H
  have H0 := ta c5
  clear c5
  obtain ⟨q0, A6, H⟩ := bN_ H
  obtain ⟨c7, H⟩ := iN_ H
  have I0 := aa.mk c7
  clear c7
  obtain ⟨J0, j0⟩ : ∃ y_ : List (List Int), y_ = (p0 ++ [q0]) := ⟨_, rfl⟩
  first | replace H := yb_ j0 H | rw [← j0] at H
  have x0 := aa.mk j0
  clear j0
  have H' := aa.mk H
  clear H
  go_wp2_with (first | ((with_reducible refine ae (f := 46) rfl ?_); refine aq (some 19) rfl rfl Tryz.func46 (by kernel_rfl) rfl #[.string a0, .int .i64 e0, .int .i64 d0] rfl aM_ ?_; (with_reducible refine (ak.calls k2 a0 e0 d0 q0 _ A6.out).mono ?_); rintro e w8 ⟨O0, rfl, M0, hb⟩; refine ⟨_, rfl, ?_⟩; have n_ := b_ (Kd.S_elder' (rS_ b0.out) (Kd.R_base M0) hb) <| b_ (Kd.R_lower M0 (ab (hB_))) <| c_ (ac (hB_) hb); clear b0 HB; obtain ⟨b0, k0, HB⟩ := n_; obtain ⟨y0, B0, K0⟩ := Kd.R_slice k0.out; subst K0) | ((with_reducible refine aV (b := .append) (xs := #[.tmp 15, .tmp 20]) rfl ?_); at_builtin; refine Kd.S_append (Kd.slice 3 (Kd.int .i64)) (w0 := w) w.heap.size rfl (.tmp 15) (.tmp 20) 34 38 (.slice none 0 0) 24 rfl Tryz.underlying34 gK rfl (by decide) (by omega) u3 p0 q0 [.slice y0 q0.length B0] (fun _ => True) (fun k_ => some k_ = (.slice y0 q0.length B0 : Value).ownBlock) rfl rfl ?aP (fun k_ hk_ => ((Kd.R_mono (ok' := fun k_ => ((fun _ => True)) k_ ∧ some k_ ≠ (u3 : Value).ownBlock) (Kd.R_apart' (k0.out) (Kd.S_typed b0.out) (by decide)) (fun k_ hk => ⟨trivial, hk.2⟩))).1 k_ hk_.symm) ?aF ?aO ?aB ?aS ?aL ?_; (case aP => exact Kd.M_row (Kd.R_mono (Kd.R_tight rfl (Kd.R_mono (ok' := fun k_ => ((fun _ => True)) k_ ∧ some k_ ≠ (u3 : Value).ownBlock) (Kd.R_apart' (k0.out) (Kd.S_typed b0.out) (by decide)) (fun k_ hk => ⟨trivial, hk.2⟩))) (fun _ h_ => h_))); (case aB => exact (hB_)); (case aF => exact (fun _ _ => trivial)); (case aO => exact (by refine kS_ ?_; exact Kd.S_mono b0.out (fun k_ hk => ⟨trivial, fun e_ => hk.2 e_⟩))); (case aS => exact (ab (hB_))); (case aL => have := I0.out; omega); intro P0 w9 ho hb hg hat; rw [← x0.out] at ho; have n_ := b_ (hb) <| c_ (ho); clear b0 k0 HB; obtain ⟨HB, C0⟩ := n_; clear ho hb hg hat))
  go_roundg k2
  case measure => have := D0.out; have := E0.out; omega
  case rel => exact ⟨(J0), (wrap64 (e0 + 1)), f0_, H', ⟨by have := D0.out; have := E0.out; omega⟩, ⟨rS_ C0.out⟩, ⟨hB_⟩⟩
 rw [Aa c5] at H
 have H0 := ua c5
 clear c5
 have H' := aa.mk H
 clear H
 go_wp2
 go_roundg k2
 case measure => have := D0.out; have := E0.out; omega
 case rel => exact ⟨(p0), (wrap64 (d0 + 1)), f0_, H', ⟨by have := D0.out; have := E0.out; omega⟩, ⟨rS_ b0.out⟩, ⟨hB_⟩⟩

/-! ### cH: function 50 -/
def cH.f (k : Nat) (a0 : ByteArray) (a1 : Int) : Option (ByteArray × Bool) := (aW.f a1 0 4000).bind fun t371 => (if t371 = true then ((bQ.f k a0).bind fun bt372 => ((aw.f k bt372.1 bt372.2 a1).bind fun bt374 => (some (bt374.2.2, true)))) else (some ((⟨#[]⟩ : ByteArray), false)))
theorem cH.mono : ∀ a0 a1 k, LeO (cH.f k a0 a1) (cH.f (k + 1) a0 a1) := by
 intro a0 a1 k
 unfold cH.f
 exact o2_ bQ.mono aw.mono
theorem cH.calls (k : Nat) (a0 : ByteArray) (a1 : Int) (r1 : ByteArray) (r2 : Bool) (w : World) (h : cH.f k a0 a1 = some (r1, r2)) :
  Calls Tryz.prog 50 #[.string a0, .int .i64 a1] w fun e w' => e = .returned (.tuple #[.string r1, .bool r2]) ∧ Below w.heap.size w w' := by
 have hu80 := Tryz.underlying80
 have HB := aa.mk (xa w.heap.size w)
 delta cH.f at h
 have H := h
 clear h
 obtain ⟨t0, A3, H⟩ := bN_ H
 by_cases c4 : t0 = true
 ·subst c4
  replace H := iT_ H
  obtain ⟨⟨e0, f0⟩, A5, H⟩ := bN_ H
  obtain ⟨⟨u0, v0, x0⟩, A6, H⟩ := bN_ H
  simp only [Option.some.injEq, Prod.mk.injEq] at H
  obtain ⟨rfl, rfl⟩ := H
  go_enter Tryz.func50, Tryz.ntmps50
  go_wp2_with (first | ((with_reducible refine ae (f := 75) rfl ?_); refine aq (some 9) rfl rfl Tryz.func75 (by kernel_rfl) rfl #[.int .i64 a1, .int .i64 0, .int .i64 4000] rfl aM_ ?_; (with_reducible refine (aW.calls a1 0 4000 true _ A3.out).mono ?_); rintro e w' ⟨rfl, ⟨nd, rfl⟩⟩; refine ⟨_, rfl, ?_⟩) | ((with_reducible refine ae (f := 79) rfl ?_); refine aq (some 13) rfl rfl Tryz.func79 (by kernel_rfl) rfl #[.string a0] rfl aM_ ?_; (with_reducible refine (bQ.calls k a0 e0 f0 _ A5.out).mono ?_); rintro e w7 ⟨rfl, hb⟩; refine ⟨_, rfl, ?_⟩; replace HB := aa.mk (ac (hB_) hb); (try clear hb)) | ((with_reducible refine ae (f := 80) rfl ?_); refine aq (some 15) rfl rfl Tryz.func80 (by kernel_rfl) rfl #[.agg #[.string e0, .int .i64 f0], .int .i64 a1] rfl aM_ ?_; (with_reducible refine (aw.calls k e0 f0 a1 u0 v0 x0 _ A6.out).mono ?_); rintro e w8 ⟨rfl, hb⟩; refine ⟨_, rfl, ?_⟩; replace HB := aa.mk (ac (hB_) hb); (try clear hb)) | ((with_reducible refine aI (N := 6) rfl ?_); refine cn ?hg (N := 6) ?hd (cs := #[.string (⟨#[]⟩ : ByteArray), .int .i64 0]) (t := 80) ?hr ?_; (case hd => rfl); (case hg => rfl); (case hr => first | (go_simp; done) | (go_simp; rfl)); intro b0 hg w9 hbox hb; have n_ := b_ (ac (hB_) hb) <| b_ (hbox) <| b_ (by rw [hg]; exact (ab (hB_)) : w.heap.size ≤ b0) <| c_ (by rw [hg]; exact (ab (hB_)) : w.heap.size ≤ b0); clear HB; obtain ⟨HB, d0, y0, j0⟩ := n_; clear hb hbox hg; have k0 : w9.cell? ⟨b0, 0, none⟩ = some (.string (⟨#[]⟩ : ByteArray)) := (au d0.out 0).trans rfl; have p0 : w9.cell? ⟨b0, 1, none⟩ = some (.int .i64 0) := (au d0.out 1).trans rfl; have q0 := aj d0.out 0; have r0 := aj d0.out 1))
  go_ret2
  exact ⟨f1_, hS_ j0.out⟩
 ·replace c4 := ya c4
  subst c4
  replace H := iF_ H
  simp only [Option.some.injEq, Prod.mk.injEq] at H
  obtain ⟨rfl, rfl⟩ := H
  go_enter Tryz.func50, Tryz.ntmps50
  go_wp2_with (first | ((with_reducible refine ae (f := 75) rfl ?_); refine aq (some 9) rfl rfl Tryz.func75 (by kernel_rfl) rfl #[.int .i64 a1, .int .i64 0, .int .i64 4000] rfl aM_ ?_; (with_reducible refine (aW.calls a1 0 4000 false _ A3.out).mono ?_); rintro e w' ⟨rfl, ⟨nd, rfl⟩⟩; refine ⟨_, rfl, ?_⟩))
  go_ret2
  exact ⟨f1_, hB_⟩

/-! ### bx: function 17 -/
def bx.l0 : Nat → List Int → ByteArray → Int → Option (List Int)
 | 0, _, _, _ => none
 | k + 1, x5, x6, x8 => if x8 < 256 then (if 0 ≤ (wrap64 (Int.tdiv x8 2)) then (if (wrap64 (Int.tdiv x8 2)) < (x6.size : Int) then (if (Int.tmod x8 2) = 1 then (if x5.length < 17592186044416 then (bx.l0 k (x5 ++ [Int.tmod (wrap64 ((wrap64 ((wrap64 ((wrap64 ((Int.tmod (wrap64 (Int.tdiv (wrap64 (bt x6 (wrap64 (Int.tdiv x8 2)))) 16)) 2) + (Int.tmod (wrap64 (Int.tdiv (wrap64 (Int.tdiv (wrap64 (bt x6 (wrap64 (Int.tdiv x8 2)))) 16)) 2)) 2))) - (Int.tmod (wrap64 (Int.tdiv (wrap64 (Int.tdiv (wrap64 (bt x6 (wrap64 (Int.tdiv x8 2)))) 16)) 4)) 2))) - (Int.tmod (wrap64 (Int.tdiv (wrap64 (Int.tdiv (wrap64 (bt x6 (wrap64 (Int.tdiv x8 2)))) 16)) 8)) 2))) + 3329)) 3329]) x6 (wrap64 (x8 + 1))) else (none)) else (if x5.length < 17592186044416 then (bx.l0 k (x5 ++ [Int.tmod (wrap64 ((wrap64 ((wrap64 ((wrap64 ((Int.tmod (wrap64 (bt x6 (wrap64 (Int.tdiv x8 2)))) 2) + (Int.tmod (wrap64 (Int.tdiv (wrap64 (bt x6 (wrap64 (Int.tdiv x8 2)))) 2)) 2))) - (Int.tmod (wrap64 (Int.tdiv (wrap64 (bt x6 (wrap64 (Int.tdiv x8 2)))) 4)) 2))) - (Int.tmod (wrap64 (Int.tdiv (wrap64 (bt x6 (wrap64 (Int.tdiv x8 2)))) 8)) 2))) + 3329)) 3329]) x6 (wrap64 (x8 + 1))) else (none))) else (none)) else (none)) else (some x5)
def bx.f (k : Nat) (a0 : ByteArray) (a1 : Int) : Option (List Int) := (ct.f a1).bind fun t381 => (if a0.size + t381.size ≤ 9223372036854775807 then ((cH.f k (a0 ++ t381) 128).bind fun bt382 => (bx.l0 k (([] : List Int)) bt382.1 0)) else (none))
theorem bx.mono_l : ∀ k, (∀ y0 y1 y2, LeO (bx.l0 k y0 y1 y2) (bx.l0 (k + 1) y0 y1 y2))
 | 0 => fun _ _ _ r h => by simp [bx.l0] at h
 | k + 1 => by
  have ih0 := bx.mono_l k
  intros; unfold bx.l0; exact o2_ ih0 cH.mono
theorem bx.mono : ∀ a0 a1 k, LeO (bx.f k a0 a1) (bx.f (k + 1) a0 a1) := by
 intro a0 a1 k
 have ih0 := bx.mono_l k
 unfold bx.f
 exact o2_ ih0 cH.mono
theorem bx.calls (k : Nat) (a0 : ByteArray) (a1 : Int) (r : List Int) (w : World) (h : bx.f k a0 a1 = some r) :
  Calls Tryz.prog 17 #[.string a0, .int .i64 a1] w fun e w' => ∃ S0 : Value, e = .returned (S0) ∧ Kd.R (Kd.int .i64) 3 w' w.heap.size (fun _ => True) S0 r ∧ Below w.heap.size w w' := by
 have HB := aa.mk (xa w.heap.size w)
 delta bx.f at h
 have H := h
 clear h
 obtain ⟨M0, k0⟩ : ∃ y_ : List Int, y_ = (([] : List Int)) := ⟨_, rfl⟩
 first | replace H := yb_ k0 H | rw [← k0] at H
 have v0 := aa.mk k0
 clear k0
 obtain ⟨u0, A3, H⟩ := bN_ H
 obtain ⟨c4, H⟩ := iN_ H
 have X0 := va c4
 have Y0 := ta c4
 try have Z0 : (9223372036854775807 < a0.size + u0.size) = False := eq_false (Nat.not_lt.2 c4)
 obtain ⟨⟨d0, N0⟩, A5, H⟩ := bN_ H
 have H' := aa.mk H
 clear H
 go_enter Tryz.func17, Tryz.ntmps17
 go_wp2_with (first | ((with_reducible refine aI (N := 10) rfl ?_); refine Kd.R_lit (Kd.int .i64) _ 3 ?hg (N := 10) ?hd (xs := ([] : List Int)) (inner := []) (ok := fun _ => True) (okp := fun _ => True) ?hr ?hp (fun _ hk => hk) trivial (xa _ _) (wa _) (by simp) ?_; (case hd => rfl); (case hg => rfl); (case hr => first | (go_simp; done) | (go_simp; rfl)); (case hp => exact (br.none _ _)); intro b1 w6 B0 hb hg_ hnew_; clear hg_ hnew_; (first | rw [← v0.out] at B0 | (simp only [Int.reduceToNat] at B0; rw [← v0.out] at B0)); have n_ := b_ (Kd.R_lower B0 (ab (hB_))) <| c_ (ac (hB_) hb); clear HB; obtain ⟨f0, HB⟩ := n_; clear hb B0) | ((with_reducible refine ae (f := 51) rfl ?_); refine aq (some 14) rfl rfl Tryz.func51 (by kernel_rfl) rfl #[.int .i64 a1] rfl aM_ ?_; (with_reducible refine (ct.calls a1 u0 _ A3.out).mono ?_); rintro e w8 ⟨rfl, hb⟩; refine ⟨_, rfl, ?_⟩; have n_ := b_ (Kd.R_below (rR_ f0.out) hb) <| c_ (ac (hB_) hb); clear f0 HB; obtain ⟨f0, HB⟩ := n_; (try clear hb)) | ((with_reducible refine ae (f := 50) rfl ?_); refine aq (some 16) rfl rfl Tryz.func50 (by kernel_rfl) rfl #[.string (a0 ++ u0), .int .i64 128] rfl aM_ ?_; (with_reducible refine (cH.calls k (a0 ++ u0) 128 d0 N0 _ A5.out).mono ?_); rintro e w9 ⟨rfl, hb⟩; refine ⟨_, rfl, ?_⟩; have n_ := b_ (Kd.R_below (rR_ f0.out) hb) <| c_ (ac (hB_) hb); clear f0 HB; obtain ⟨f0, HB⟩ := n_; (try clear hb)))
 go_loopg [5, 8] k (fun kq v5 v8 w' => ∃ (j0 : List Int) (e0 : Int), v8 = .int .i64 e0 ∧ aa (bx.l0 kq j0 d0 e0 = some r) ∧ aa (kq ≤ k) ∧ aa (Kd.R (Kd.int .i64) 3 w' w.heap.size (fun _ => True) v5 j0) ∧ aa (Below w.heap.size w w'))
 case atStart => exact ⟨(M0), (0), f0_, H', ⟨wa _⟩, ⟨rR_ f0.out⟩, ⟨hB_⟩⟩
 clear H'
 obtain ⟨j0, e0, rfl, HA, L0, r0, HB⟩ := hrel
 rcases gk with _ | k1
 ·exact absurd HA.out (by simp [bx.l0])
 have H := HA.out
 clear HA
 simp only [bx.l0] at H
 by_cases y0 : e0 < 256
 rotate_left
 ·rw [Aa y0] at H
  have C0 := ua y0
  clear y0
  obtain rfl := sI H
  go_wp2
  go_ret
  exact ⟨_, f1_, rR_ r0.out, hB_⟩
 rw [za y0] at H
 have C0 := ta y0
 clear y0
 obtain ⟨b0, t0⟩ : ∃ j_ : Int, (wrap64 (Int.tdiv e0 2)) = j_ := ⟨_, rfl⟩
 first | rw [t0] at H | simp only [t0] at H
 have O0 : (IntKind.i64.wrap (Int.tdiv e0 2)) = b0 := (bB _).trans t0
 obtain ⟨T0, H⟩ := iD_ H
 obtain ⟨U0, H⟩ := iD_ H
 by_cases x0 : (Int.tmod e0 2) = 1
 ·rw [za x0] at H
  have D0 : ((Int.tmod e0 2) == 1) = true := beq_iff_eq.mpr x0
  have E0 : ((Int.tmod e0 2) != 1) = false := bne_eq_false_iff_eq.mpr x0
  clear x0
  obtain ⟨V0, H⟩ := iN_ H
  have F0 := aa.mk V0
  clear V0
  obtain ⟨P0, p0⟩ : ∃ y_ : List Int, y_ = (j0 ++ [Int.tmod (wrap64 ((wrap64 ((wrap64 ((wrap64 ((Int.tmod (wrap64 (Int.tdiv (wrap64 (bt d0 (b0))) 16)) 2) + (Int.tmod (wrap64 (Int.tdiv (wrap64 (Int.tdiv (wrap64 (bt d0 (b0))) 16)) 2)) 2))) - (Int.tmod (wrap64 (Int.tdiv (wrap64 (Int.tdiv (wrap64 (bt d0 (b0))) 16)) 4)) 2))) - (Int.tmod (wrap64 (Int.tdiv (wrap64 (Int.tdiv (wrap64 (bt d0 (b0))) 16)) 8)) 2))) + 3329)) 3329]) := ⟨_, rfl⟩
  first | replace H := yb_ p0 H | rw [← p0] at H
  have G0 := aa.mk p0
  clear p0
  have H' := aa.mk H
  clear H
  have c1 := va (oD_ : 0 ≤ ((b0) : Int))
  have d1 := va (oD_ : (b0) < (d0.size : Int))
  have Q0 := cB d0 (b0)
  go_wp2_with (first | ((with_reducible refine aV (b := .append) (xs := #[.tmp 33, .tmp 50]) rfl ?_); at_builtin; refine Kd.R_append (Kd.int .i64) (w0 := w) w.heap.size rfl (.tmp 33) (.tmp 50) 38 3 (.int .i64 0) 8 rfl Tryz.underlying38 cS rfl (by decide) (by omega) u5 j0 (Int.tmod (wrap64 ((wrap64 ((wrap64 ((wrap64 ((Int.tmod (wrap64 (Int.tdiv (wrap64 (bt d0 (b0))) 16)) 2) + (Int.tmod (wrap64 (Int.tdiv (wrap64 (Int.tdiv (wrap64 (bt d0 (b0))) 16)) 2)) 2))) - (Int.tmod (wrap64 (Int.tdiv (wrap64 (Int.tdiv (wrap64 (bt d0 (b0))) 16)) 4)) 2))) - (Int.tmod (wrap64 (Int.tdiv (wrap64 (Int.tdiv (wrap64 (bt d0 (b0))) 16)) 8)) 2))) + 3329)) 3329) [.int .i64 (Int.tmod (wrap64 ((wrap64 ((wrap64 ((wrap64 ((Int.tmod (wrap64 (Int.tdiv (wrap64 (bt d0 (b0))) 16)) 2) + (Int.tmod (wrap64 (Int.tdiv (wrap64 (Int.tdiv (wrap64 (bt d0 (b0))) 16)) 2)) 2))) - (Int.tmod (wrap64 (Int.tdiv (wrap64 (Int.tdiv (wrap64 (bt d0 (b0))) 16)) 4)) 2))) - (Int.tmod (wrap64 (Int.tdiv (wrap64 (Int.tdiv (wrap64 (bt d0 (b0))) 16)) 8)) 2))) + 3329)) 3329)] (fun _ => True) (fun _ => False) rfl rfl ?aP (fun _ hk => hk.elim) ?aF ?aO ?aB ?aS ?aL ?_; (case aP => exact rfl); (case aB => exact (hB_)); (case aF => exact (fun _ _ => trivial)); (case aO => exact (rR_ r0.out)); (case aS => exact (ab (hB_))); (case aL => have := F0.out; omega); intro e1 g1 ho hb hg hat; rw [← G0.out] at ho; have n_ := b_ (hb) <| c_ (ho); clear r0 HB; obtain ⟨HB, H0⟩ := n_; clear ho hb hg hat))
  go_roundg k1
  case measure => have := L0.out; omega
  case rel => exact ⟨(P0), (wrap64 (e0 + 1)), f0_, H', ⟨by have := L0.out; omega⟩, ⟨rR_ H0.out⟩, ⟨hB_⟩⟩
 rw [Aa x0] at H
 have D0 : ((Int.tmod e0 2) == 1) = false := beq_eq_false_iff_ne.mpr x0
 have E0 : ((Int.tmod e0 2) != 1) = true := bne_iff_ne.mpr x0
 obtain ⟨W0, H⟩ := iN_ H
 have I0 := aa.mk W0
 clear W0
 obtain ⟨R0, q0⟩ : ∃ y_ : List Int, y_ = (j0 ++ [Int.tmod (wrap64 ((wrap64 ((wrap64 ((wrap64 ((Int.tmod (wrap64 (bt d0 (b0))) 2) + (Int.tmod (wrap64 (Int.tdiv (wrap64 (bt d0 (b0))) 2)) 2))) - (Int.tmod (wrap64 (Int.tdiv (wrap64 (bt d0 (b0))) 4)) 2))) - (Int.tmod (wrap64 (Int.tdiv (wrap64 (bt d0 (b0))) 8)) 2))) + 3329)) 3329]) := ⟨_, rfl⟩
 first | replace H := yb_ q0 H | rw [← q0] at H
 have J0 := aa.mk q0
 clear q0
 have H' := aa.mk H
 clear H
 have c1 := va (oD_ : 0 ≤ ((b0) : Int))
 have d1 := va (oD_ : (b0) < (d0.size : Int))
 have Q0 := cB d0 (b0)
 go_wp2_with (first | ((with_reducible refine aV (b := .append) (xs := #[.tmp 33, .tmp 50]) rfl ?_); at_builtin; refine Kd.R_append (Kd.int .i64) (w0 := w) w.heap.size rfl (.tmp 33) (.tmp 50) 38 3 (.int .i64 0) 8 rfl Tryz.underlying38 cS rfl (by decide) (by omega) u5 j0 (Int.tmod (wrap64 ((wrap64 ((wrap64 ((wrap64 ((Int.tmod (wrap64 (bt d0 (b0))) 2) + (Int.tmod (wrap64 (Int.tdiv (wrap64 (bt d0 (b0))) 2)) 2))) - (Int.tmod (wrap64 (Int.tdiv (wrap64 (bt d0 (b0))) 4)) 2))) - (Int.tmod (wrap64 (Int.tdiv (wrap64 (bt d0 (b0))) 8)) 2))) + 3329)) 3329) [.int .i64 (Int.tmod (wrap64 ((wrap64 ((wrap64 ((wrap64 ((Int.tmod (wrap64 (bt d0 (b0))) 2) + (Int.tmod (wrap64 (Int.tdiv (wrap64 (bt d0 (b0))) 2)) 2))) - (Int.tmod (wrap64 (Int.tdiv (wrap64 (bt d0 (b0))) 4)) 2))) - (Int.tmod (wrap64 (Int.tdiv (wrap64 (bt d0 (b0))) 8)) 2))) + 3329)) 3329)] (fun _ => True) (fun _ => False) rfl rfl ?aP (fun _ hk => hk.elim) ?aF ?aO ?aB ?aS ?aL ?_; (case aP => exact rfl); (case aB => exact (hB_)); (case aF => exact (fun _ _ => trivial)); (case aO => exact (rR_ r0.out)); (case aS => exact (ab (hB_))); (case aL => have := I0.out; omega); intro f1 i1 ho hb hg hat; rw [← J0.out] at ho; have n_ := b_ (hb) <| c_ (ho); clear r0 HB; obtain ⟨HB, K0⟩ := n_; clear ho hb hg hat))
 go_roundg k1
 case measure => have := L0.out; omega
 case rel => exact ⟨(R0), (wrap64 (e0 + 1)), f0_, H', ⟨by have := L0.out; omega⟩, ⟨rR_ K0.out⟩, ⟨hB_⟩⟩

/-! ### al: function 7 -/
mutual
def al.j0 : Nat → ByteArray → ByteArray → ByteArray → Bool → Option (ByteArray × Bool)
 | 0, _, _, _, _ => none
 | k + 1, x0, x1, x2, x31 => if x31 = true then (some ((⟨#[]⟩ : ByteArray), false)) else ((bg.f k x0).bind fun bt493 => (if 768 ≤ (x0.size : Int) then ((aC.f k (x0.extract 768 x0.size)).bind fun t497 => (al.l0 k x1 x2 bt493.1 t497 (([] : List (List Int))) 0)) else (none)))
def al.l0 : Nat → ByteArray → ByteArray → List (List Int) → List (List Int) → List (List Int) → Int → Option (ByteArray × Bool)
 | 0, _, _, _, _, _, _ => none
 | k + 1, x1, x2, x8, x10, x11, x12 => if x12 < 2 then ((bx.f k x2 x12).bind fun t503 => ((bf.f k t503).bind fun t506 => (if x11.length < 5864062014805 then (al.l0 k x1 x2 x8 x10 (x11 ++ [t506]) (wrap64 (x12 + 1))) else (none)))) else (al.l1 k x1 x2 x8 x10 x11 (⟨#[]⟩ : ByteArray) 0)
def al.l1 : Nat → ByteArray → ByteArray → List (List Int) → List (List Int) → List (List Int) → ByteArray → Int → Option (ByteArray × Bool)
 | 0, _, _, _, _, _, _, _ => none
 | k + 1, x1, x2, x8, x10, x11, x13, x14 => if x14 < 2 then (al.l2 k x1 x2 x8 x10 x11 x13 x14 (([] : List (List Int))) 0) else ((bc.f k x8 x11).bind fun t532 => ((am.f k t532).bind fun t535 => ((bx.f k x2 4).bind fun t538 => ((aE.f k t535 t538).bind fun t541 => ((aY.f k x1).bind fun t544 => ((aE.f k t541 t544).bind fun t547 => ((aU.f k t547 4).bind fun t550 => (if x13.size + t550.size ≤ 9223372036854775807 then (some (x13 ++ t550, true)) else (none)))))))))
def al.l2 : Nat → ByteArray → ByteArray → List (List Int) → List (List Int) → List (List Int) → ByteArray → Int → List (List Int) → Int → Option (ByteArray × Bool)
 | 0, _, _, _, _, _, _, _, _, _ => none
 | k + 1, x1, x2, x8, x10, x11, x13, x14, x15, x16 => if x16 < 2 then (if 0 ≤ (wrap64 ((wrap64 (x16 * 2)) + x14)) then (if (wrap64 ((wrap64 (x16 * 2)) + x14)) < (x10.length : Int) then (if x15.length < 5864062014805 then (al.l2 k x1 x2 x8 x10 x11 x13 x14 (x15 ++ [dg x10 (wrap64 ((wrap64 (x16 * 2)) + x14))]) (wrap64 (x16 + 1))) else (none)) else (none)) else (none)) else ((bc.f k x15 x11).bind fun t519 => ((am.f k t519).bind fun t522 => ((bx.f k x2 (wrap64 (2 + x14))).bind fun t525 => ((aE.f k t522 t525).bind fun t528 => ((aU.f k t528 10).bind fun t531 => (if x13.size + t531.size ≤ 9223372036854775807 then (al.l1 k x1 x2 x8 x10 x11 (x13 ++ t531) (wrap64 (x14 + 1))) else (none)))))))
end
def al.f (k : Nat) (a0 : ByteArray) (a1 : ByteArray) (a2 : ByteArray) : Option (ByteArray × Bool) := (ch.f k a0).bind fun t492 => (if t492 = true then (if (a1.size : Int) = 32 then (al.j0 k a0 a1 a2 ((a2.size : Int) != 32)) else (al.j0 k a0 a1 a2 true)) else (al.j0 k a0 a1 a2 true))
theorem al.mono_l : ∀ k, (∀ y0 y1 y2 y3, LeO (al.j0 k y0 y1 y2 y3) (al.j0 (k + 1) y0 y1 y2 y3)) ∧ (∀ y0 y1 y2 y3 y4 y5, LeO (al.l0 k y0 y1 y2 y3 y4 y5) (al.l0 (k + 1) y0 y1 y2 y3 y4 y5)) ∧ (∀ y0 y1 y2 y3 y4 y5 y6, LeO (al.l1 k y0 y1 y2 y3 y4 y5 y6) (al.l1 (k + 1) y0 y1 y2 y3 y4 y5 y6)) ∧ (∀ y0 y1 y2 y3 y4 y5 y6 y7 y8, LeO (al.l2 k y0 y1 y2 y3 y4 y5 y6 y7 y8) (al.l2 (k + 1) y0 y1 y2 y3 y4 y5 y6 y7 y8))
 | 0 => ⟨fun _ _ _ _ r h => by simp [al.j0] at h, fun _ _ _ _ _ _ r h => by simp [al.l0] at h, fun _ _ _ _ _ _ _ r h => by simp [al.l1] at h, fun _ _ _ _ _ _ _ _ _ r h => by simp [al.l2] at h⟩
 | k + 1 => by
  obtain ⟨ih0, ih1, ih2, ih3⟩ := al.mono_l k
  refine ⟨?_, ?_, ?_, ?_⟩ <;> (intros; (first | unfold al.j0 | unfold al.l0 | unfold al.l1 | unfold al.l2); exact qn ih0 ih1 ih2 ih3 am.mono bf.mono aE.mono ch.mono bx.mono aY.mono aC.mono bg.mono aU.mono bc.mono)
theorem al.mono : ∀ a0 a1 a2 k, LeO (al.f k a0 a1 a2) (al.f (k + 1) a0 a1 a2) := by
 intro a0 a1 a2 k
 obtain ⟨ih0, ih1, ih2, ih3⟩ := al.mono_l k
 unfold al.f
 exact qn ih0 ih1 ih2 ih3 am.mono bf.mono aE.mono ch.mono bx.mono aY.mono aC.mono bg.mono aU.mono bc.mono
theorem al.calls (k : Nat) (a0 : ByteArray) (a1 : ByteArray) (a2 : ByteArray) (r1 : ByteArray) (r2 : Bool) (w : World) (h : al.f k a0 a1 a2 = some (r1, r2)) :
  Calls Tryz.prog 7 #[.string a0, .string a1, .string a2] w fun e w' => e = .returned (.tuple #[.string r1, .bool r2]) ∧ Below w.heap.size w w' := by
 have HB := aa.mk (xa w.heap.size w)
 delta al.f at h
 have H := h
 clear h
 have z2 := aa.mk H
 clear H
 go_enter Tryz.func7, Tryz.ntmps7
 go_upto_region 1 with (fail)
 go_cut [31] (fun e4 wc => ∃ (kq : Nat) (b1 : Bool), e4 = .bool b1 ∧ aa (al.j0 kq a0 a1 a2 b1 = some (r1, r2)) ∧ aa (kq ≤ k) ∧ aa (Below w.heap.size w wc))
 case first =>
  have H := z2.out
  clear z2
  obtain ⟨A2, A5, H⟩ := bN_ H
  by_cases c6 : A2 = true
  ·subst c6
   replace H := iT_ H
   by_cases c7 : (a1.size : Int) = 32
   ·rw [za c7] at H
    have n1 : ((a1.size : Int) == 32) = true := beq_iff_eq.mpr c7
    have B2 : ((a1.size : Int) != 32) = false := bne_eq_false_iff_eq.mpr c7
    clear c7
    (first | rw [n1] | (simp only [bB, cJ]; rw [n1]) | skip)
    have H' := aa.mk H
    clear H
    go_wp2_with (first | ((with_reducible refine ae (f := 13) rfl ?_); refine aq (some 20) rfl rfl Tryz.func13 (by kernel_rfl) rfl #[.string a0] rfl aM_ ?_; (with_reducible refine (ch.calls k a0 true _ A5.out).mono ?_); rintro e w8 ⟨rfl, hb⟩; refine ⟨_, rfl, ?_⟩; replace HB := aa.mk (ac (hB_) hb); (try clear hb)))
    go_meet
    case rel => exact ⟨_, (((a2.size : Int) != 32)), f0_, H', ⟨by first | omega | exact wa _⟩, ⟨hB_⟩⟩
   rw [Aa c7] at H
   have n1 : ((a1.size : Int) == 32) = false := beq_eq_false_iff_ne.mpr c7
   have B2 : ((a1.size : Int) != 32) = true := bne_iff_ne.mpr c7
   (first | rw [n1] | (simp only [bB, cJ]; rw [n1]) | skip)
   have H' := aa.mk H
   clear H
   go_wp2_with (first | ((with_reducible refine ae (f := 13) rfl ?_); refine aq (some 20) rfl rfl Tryz.func13 (by kernel_rfl) rfl #[.string a0] rfl aM_ ?_; (with_reducible refine (ch.calls k a0 true _ A5.out).mono ?_); rintro e w9 ⟨rfl, hb⟩; refine ⟨_, rfl, ?_⟩; replace HB := aa.mk (ac (hB_) hb); (try clear hb)))
   go_meet
   case rel => exact ⟨_, (true), f0_, H', ⟨by first | omega | exact wa _⟩, ⟨hB_⟩⟩
  ·replace c6 := ya c6
   subst c6
   replace H := iF_ H
   have H' := aa.mk H
   clear H
   go_wp2_with (first | ((with_reducible refine ae (f := 13) rfl ?_); refine aq (some 20) rfl rfl Tryz.func13 (by kernel_rfl) rfl #[.string a0] rfl aM_ ?_; (with_reducible refine (ch.calls k a0 false _ A5.out).mono ?_); rintro e b5 ⟨rfl, hb⟩; refine ⟨_, rfl, ?_⟩; replace HB := aa.mk (ac (hB_) hb); (try clear hb)))
   go_meet
   case rel => exact ⟨_, (true), f0_, H', ⟨by first | omega | exact wa _⟩, ⟨hB_⟩⟩
 clear z2
 obtain ⟨kq, b1, rfl, HA, Q1, HB⟩ := hcut
 rcases kq with _ | n2
 ·exact absurd HA.out (by simp [al.j0])
 have H := HA.out
 clear HA
 simp only [al.j0] at H
 by_cases p2 : b1 = true
 ·subst p2
  replace H := iT_ H
  simp only [Option.some.injEq, Prod.mk.injEq] at H
  obtain ⟨rfl, rfl⟩ := H
  go_wp2
  go_ret2
  exact ⟨f1_, hB_⟩
 ·replace p2 := ya p2
  subst p2
  replace H := iF_ H
  obtain ⟨⟨R0, C2⟩, f4, H⟩ := bN_ H
  obtain ⟨D2, H⟩ := iN_ H
  have Q3 := va D2
  have R3 := ta D2
  clear D2
  obtain ⟨C0, g4, H⟩ := bN_ H
  obtain ⟨E2, c1⟩ : ∃ y_ : List (List Int), y_ = (([] : List (List Int))) := ⟨_, rfl⟩
  first | replace H := yb_ c1 H | rw [← c1] at H
  have z1 := aa.mk c1
  clear c1
  have H' := aa.mk H
  clear H
  go_wp2_with (first | ((with_reducible refine ae (f := 14) rfl ?_); refine aq (some 34) rfl rfl Tryz.func14 (by kernel_rfl) rfl #[.string a0] rfl aM_ ?_; (with_reducible refine (bg.calls n2 a0 R0 C2 _ f4.out).mono ?_); rintro e c5 ⟨r0, rfl, f0, hb⟩; refine ⟨_, rfl, ?_⟩; have n_ := b_ (Kd.N_lower (Kd.N_mono (ok' := fun k_ => True) (Kd.S_N (Kd.S_bound f0)) (fun k_ hk_ => trivial)) (ab (hB_))) <| c_ (ac (hB_) hb); clear HB; obtain ⟨H0, HB⟩ := n_; (try clear f0)) | ((with_reducible refine ae (f := 15) rfl ?_); refine aq (some 39) rfl rfl Tryz.func15 (by kernel_rfl) rfl #[.string (a0.extract 768 a0.size)] rfl aM_ ?_; (with_reducible refine (aC.calls n2 (a0.extract 768 a0.size) C0 _ g4.out).mono ?_); rintro e i4 ⟨y0, rfl, f0, hb⟩; refine ⟨_, rfl, ?_⟩; have n_ := b_ (Kd.N_elder' (rN_ H0.out) (Kd.S_base f0) hb) <| b_ (Kd.N_lower (Kd.N_mono (ok' := fun k_ => some k_ ≠ (r0 : Value).ownBlock) (Kd.S_N (Kd.S_bound f0)) (fun k_ hk_ => (Kd.fresh' (Kd.N_lt (rN_ H0.out)) k_ hk_.2.1))) (ab (hB_))) <| c_ (ac (hB_) hb); clear H0 HB; obtain ⟨H0, U0, HB⟩ := n_; (try clear f0)) | ((with_reducible refine aI (N := 40) rfl ?_); (try (refine bj (by rfl) ?_; dsimp only)); refine Kd.N_lit (Kd.slice 3 (Kd.int .i64)) _ 38 ?hg (N' := 40) ?hd (xs := ([] : List (List Int))) (inner := []) (ok := (fun k_ => some k_ ≠ (r0 : Value).ownBlock ∧ some k_ ≠ (y0 : Value).ownBlock)) (okp := (fun k_ => some k_ ≠ (r0 : Value).ownBlock ∧ some k_ ≠ (y0 : Value).ownBlock)) ?hr ?hp (fun _ hk => hk) ((show ∀ k_, i4.heap.size ≤ k_ → (fun k_ => some k_ ≠ (r0 : Value).ownBlock ∧ some k_ ≠ (y0 : Value).ownBlock) k_ from fun k_ hk => ⟨Kd.fresh' (Kd.N_lt (rN_ H0.out)) k_ hk, Kd.fresh' (Kd.N_lt (rN_ U0.out)) k_ hk⟩) _ (wa _)) (xa _ _) (wa _) (by simp) ?_; (case hd => rfl); (case hg => rfl); (case hr => first | (go_simp; done) | (go_simp; rfl)); (case hp => exact (br.none _ _)); intro l4 e5 W0 hb hg_ hnew_; clear hg_ hnew_; (first | rw [← z1.out] at W0 | (simp only [Int.reduceToNat] at W0; rw [← z1.out] at W0)); have n_ := b_ (Kd.N_elder' (rN_ H0.out) (Kd.N_base W0) hb) <| b_ (Kd.N_elder' (rN_ U0.out) (Kd.N_base W0) hb) <| b_ (Kd.N_lower W0 (ab (hB_))) <| c_ (ac (hB_) hb); clear H0 U0 HB; obtain ⟨H0, U0, V1, HB⟩ := n_; clear hb W0))
  go_loopg [11, 12] n2 (fun kq F2 n4 w' => ∃ (B0 : List (List Int)) (K0 : Int), n4 = .int .i64 K0 ∧ aa (al.l0 kq a1 a2 R0 C0 B0 K0 = some (r1, r2)) ∧ aa (kq ≤ n2) ∧ aa (Kd.N (Kd.slice 3 (Kd.int .i64)) 38 w' w.heap.size (fun k_ => some k_ ≠ (y0 : Value).ownBlock ∧ some k_ ≠ (F2 : Value).ownBlock) r0 R0) ∧ aa (Kd.N (Kd.slice 3 (Kd.int .i64)) 38 w' w.heap.size (fun k_ => some k_ ≠ (r0 : Value).ownBlock ∧ some k_ ≠ (F2 : Value).ownBlock) y0 C0) ∧ aa (Kd.N (Kd.slice 3 (Kd.int .i64)) 38 w' w.heap.size (fun k_ => some k_ ≠ (r0 : Value).ownBlock ∧ some k_ ≠ (y0 : Value).ownBlock) F2 B0) ∧ aa (Below w.heap.size w w'))
  case atStart => exact ⟨(E2), (0), f0_, H', ⟨wa _⟩, ⟨by refine kN_ ?_; exact Kd.N_mono H0.out (fun _ hk => ⟨hk.1.2, hk.2⟩)⟩, ⟨rN_ U0.out⟩, ⟨rN_ V1.out⟩, ⟨hB_⟩⟩
  clear H'
  obtain ⟨B0, K0, rfl, HA, R1, e0, b0, d0, HB⟩ := hrel
  rcases gk with _ | k2
  ·exact absurd HA.out (by simp [al.l0])
  have H := HA.out
  clear HA
  simp only [al.l0] at H
  by_cases S1 : K0 < 2
  ·rw [za S1] at H
   have X1 := ta S1
   clear S1
   obtain ⟨S0, q4, H⟩ := bN_ H
   obtain ⟨m1, t4, H⟩ := bN_ H
   obtain ⟨S3, H⟩ := iN_ H
   have Y1 := aa.mk S3
   clear S3
   obtain ⟨G2, d1⟩ : ∃ y_ : List (List Int), y_ = (B0 ++ [m1]) := ⟨_, rfl⟩
   first | replace H := yb_ d1 H | rw [← d1] at H
   have Z1 := aa.mk d1
   clear d1
   have H' := aa.mk H
   clear H
   go_wp2_with (first | ((with_reducible refine ae (f := 17) rfl ?_); refine aq (some 48) rfl rfl Tryz.func17 (by kernel_rfl) rfl #[.string a2, .int .i64 K0] rfl aM_ ?_; (with_reducible refine (bx.calls k2 a2 K0 S0 _ q4.out).mono ?_); rintro e f5 ⟨u4, rfl, f0, hb⟩; refine ⟨_, rfl, ?_⟩; have n_ := b_ (Kd.N_elder' (rN_ e0.out) (Kd.R_base f0) hb) <| b_ (Kd.N_elder' (rN_ b0.out) (Kd.R_base f0) hb) <| b_ (Kd.N_elder' (rN_ d0.out) (Kd.R_base f0) hb) <| b_ (Kd.R_lower f0 (ab (hB_))) <| c_ (ac (hB_) hb); clear e0 b0 d0 HB; obtain ⟨e0, b0, d0, D0, HB⟩ := n_; obtain ⟨X0, Y0, H2⟩ := Kd.R_slice D0.out; subst H2) | ((with_reducible refine ae (f := 16) rfl ?_); refine aq (some 49) rfl rfl Tryz.func16 (by kernel_rfl) rfl #[.slice X0 S0.length Y0] rfl aM_ ?_; (with_reducible refine (bf.calls k2 _ _ S0 m1 _ ?side1 ?side2 t4.out).mono ?_); (case side1 => exact cR_ (Kd.R_reads' D0.out).2.2); (case side2 => exact (Kd.R_reads' D0.out).2.1); rintro e i5 ⟨v4, rfl, f0, hb⟩; refine ⟨_, rfl, ?_⟩; have n_ := b_ (Kd.N_elder' (rN_ e0.out) (Kd.R_base f0) hb) <| b_ (Kd.N_elder' (rN_ b0.out) (Kd.R_base f0) hb) <| b_ (Kd.N_elder' (rN_ d0.out) (Kd.R_base f0) hb) <| b_ (Kd.R_elder' (rR_ D0.out) (Kd.R_base f0) hb) <| b_ (Kd.R_lower (Kd.R_new' f0 (Kd.R_lt (rR_ D0.out))) (ab (hB_))) <| c_ (ac (hB_) hb); clear e0 b0 d0 D0 HB; obtain ⟨e0, b0, d0, D0, e1, HB⟩ := n_; obtain ⟨B1, C1, I2⟩ := Kd.R_slice e1.out; subst I2) | ((with_reducible refine aV (b := .append) (xs := #[.tmp 45, .tmp 50]) rfl ?_); (try (refine bj (by rfl) ?_; dsimp only)); at_builtin; refine Kd.N_append (Kd.slice 3 (Kd.int .i64)) (w0 := w) w.heap.size rfl (.tmp 45) (.tmp 50) 34 38 (.slice none 0 0) 24 rfl Tryz.underlying34 gK rfl (by decide) (by omega) u11 B0 m1 [.slice B1 m1.length C1] (fun k_ => some k_ ≠ (r0 : Value).ownBlock ∧ some k_ ≠ (y0 : Value).ownBlock ∧ some k_ ≠ (.slice X0 S0.length Y0 : Value).ownBlock) (fun k_ => ((fun k_ => some k_ ≠ (r0 : Value).ownBlock ∧ some k_ ≠ (y0 : Value).ownBlock ∧ some k_ ≠ (.slice X0 S0.length Y0 : Value).ownBlock)) k_ ∧ some k_ ≠ (u11 : Value).ownBlock) rfl rfl ?aP (fun _ hk => hk) ?aF ?aO ?aB ?aS ?aL ?_; (case aP => exact (Kd.FK_slice_mk (Kd.R_reads' (Kd.R_mono (ok' := (fun k_ => ((fun k_ => some k_ ≠ (r0 : Value).ownBlock ∧ some k_ ≠ (y0 : Value).ownBlock ∧ some k_ ≠ (.slice X0 S0.length Y0 : Value).ownBlock)) k_ ∧ some k_ ≠ (u11 : Value).ownBlock)) (Kd.R_apart' (Kd.R_apart' (Kd.R_apart' (e1.out) (Kd.N_typed e0.out) (by decide)) (Kd.N_typed b0.out) (by decide)) (Kd.N_typed d0.out) (by decide)) (fun k_ hk => ⟨⟨hk.1.1.2, ⟨hk.1.2, hk.1.1.1.2⟩⟩, hk.2⟩))).2.1 (Kd.R_F (Kd.R_mono (ok' := (fun k_ => ((fun k_ => some k_ ≠ (r0 : Value).ownBlock ∧ some k_ ≠ (y0 : Value).ownBlock ∧ some k_ ≠ (.slice X0 S0.length Y0 : Value).ownBlock)) k_ ∧ some k_ ≠ (u11 : Value).ownBlock)) (Kd.R_apart' (Kd.R_apart' (Kd.R_apart' (e1.out) (Kd.N_typed e0.out) (by decide)) (Kd.N_typed b0.out) (by decide)) (Kd.N_typed d0.out) (by decide)) (fun k_ hk => ⟨⟨hk.1.1.2, ⟨hk.1.2, hk.1.1.1.2⟩⟩, hk.2⟩))))); (case aB => exact (hB_)); (case aF => exact (fun k_ hk => ⟨Kd.fresh' (Kd.N_lt (rN_ e0.out)) k_ hk, Kd.fresh' (Kd.N_lt (rN_ b0.out)) k_ hk, Kd.fresh' (Kd.R_lt (rR_ D0.out)) k_ hk⟩)); (case aO => exact (by refine kN_ ?_; exact Kd.N_mono d0.out (fun _ hk => ⟨hk.1.1.1, ⟨hk.1.1.2, hk.1.2⟩⟩))); (case aS => exact (ab (hB_))); (case aL => have := Y1.out; omega); intro w4 p5 ho hb hg hat; rw [← Z1.out] at ho; have n_ := b_ (Kd.N_afterv (ok := (fun k_ => some k_ ≠ (y0 : Value).ownBlock ∧ some k_ ≠ (.slice X0 S0.length Y0 : Value).ownBlock ∧ some k_ ≠ (.slice B1 m1.length C1 : Value).ownBlock)) (by refine kN_ ?_; exact Kd.N_mono e0.out (fun _ hk => ⟨⟨hk.1.1.1, ⟨hk.1.2, hk.2⟩⟩, hk.1.1.2⟩)) hg hat) <| b_ (Kd.N_afterv (ok := (fun k_ => some k_ ≠ (r0 : Value).ownBlock ∧ some k_ ≠ (.slice X0 S0.length Y0 : Value).ownBlock ∧ some k_ ≠ (.slice B1 m1.length C1 : Value).ownBlock)) (by refine kN_ ?_; exact Kd.N_mono b0.out (fun _ hk => ⟨⟨hk.1.1.1, ⟨hk.1.2, hk.2⟩⟩, hk.1.1.2⟩)) hg hat) <| b_ (Kd.R_over' (rR_ D0.out) (Kd.N_typed (rN_ d0.out)) (by decide) hg) <| b_ (hb) <| c_ (ho); clear d0 e1 e0 b0 D0 HB; obtain ⟨e0, b0, D0, HB, b2⟩ := n_; clear ho hb hg hat))
   go_roundg k2
   case measure => have := Q1.out; have := R1.out; omega
   case rel => exact ⟨(G2), (wrap64 (K0 + 1)), f0_, H', ⟨by have := Q1.out; have := R1.out; omega⟩, ⟨by refine kN_ ?_; exact Kd.N_mono e0.out (fun _ hk => ⟨hk.1.1, hk.2⟩)⟩, ⟨by refine kN_ ?_; exact Kd.N_mono b0.out (fun _ hk => ⟨hk.1.1, hk.2⟩)⟩, ⟨by refine kN_ ?_; exact Kd.N_mono b2.out (fun _ hk => ⟨hk.1, hk.2.1⟩)⟩, ⟨hB_⟩⟩
  rw [Aa S1] at H
  have X1 := ua S1
  clear S1
  have H' := aa.mk H
  clear H
  go_wp2
  go_loopg [13, 14] k2 (fun kq y4 z4 w' => ∃ (L0 : ByteArray) (E0 : Int), y4 = .string L0 ∧ z4 = .int .i64 E0 ∧ aa (al.l1 kq a1 a2 R0 C0 B0 L0 E0 = some (r1, r2)) ∧ aa (kq ≤ k2) ∧ aa (Kd.N (Kd.slice 3 (Kd.int .i64)) 38 w' w.heap.size (fun k_ => some k_ ≠ (y0 : Value).ownBlock ∧ some k_ ≠ (u11 : Value).ownBlock) r0 R0) ∧ aa (Kd.N (Kd.slice 3 (Kd.int .i64)) 38 w' w.heap.size (fun k_ => some k_ ≠ (r0 : Value).ownBlock ∧ some k_ ≠ (u11 : Value).ownBlock) y0 C0) ∧ aa (Kd.N (Kd.slice 3 (Kd.int .i64)) 38 w' w.heap.size (fun k_ => some k_ ≠ (r0 : Value).ownBlock ∧ some k_ ≠ (y0 : Value).ownBlock) u11 B0) ∧ aa (Below w.heap.size w w'))
  case atStart => exact ⟨((⟨#[]⟩ : ByteArray)), (0), f0_, f0_, H', ⟨wa _⟩, ⟨rN_ e0.out⟩, ⟨rN_ b0.out⟩, ⟨rN_ d0.out⟩, ⟨hB_⟩⟩
  clear H'
  obtain ⟨L0, E0, rfl, rfl, HA, q2, e0, b0, d0, HB⟩ := hrel
  rcases gk with _ | k3
  ·exact absurd HA.out (by simp [al.l1])
  have H := HA.out
  clear HA
  simp only [al.l1] at H
  by_cases T1 : E0 < 2
  rotate_left
  ·rw [Aa T1] at H
   have c2 := ua T1
   clear T1
   obtain ⟨D1, A4, H⟩ := bN_ H
   obtain ⟨E1, B4, H⟩ := bN_ H
   obtain ⟨F1, C4, H⟩ := bN_ H
   obtain ⟨G1, D4, H⟩ := bN_ H
   obtain ⟨H1, E4, H⟩ := bN_ H
   obtain ⟨I1, F4, H⟩ := bN_ H
   obtain ⟨e2, G4, H⟩ := bN_ H
   obtain ⟨J2, H⟩ := iN_ H
   have T3 := va J2
   have U3 := ta J2
   try have V3 : (9223372036854775807 < L0.size + e2.size) = False := eq_false (Nat.not_lt.2 J2)
   simp only [Option.some.injEq, Prod.mk.injEq] at H
   obtain ⟨rfl, rfl⟩ := H
   obtain ⟨K2, L2, M2⟩ := Kd.N_slice e0.out
   subst M2
   obtain ⟨N2, O2, P2⟩ := Kd.N_slice d0.out
   subst P2
   go_wp2_with (first | ((with_reducible refine ae (f := 20) rfl ?_); refine aq (some 86) rfl rfl Tryz.func20 (by kernel_rfl) rfl #[.slice K2 R0.length L2, .slice N2 B0.length O2] rfl aM_ ?_; (with_reducible refine (bc.calls k3 _ _ R0 _ _ B0 D1 _ ?side1 ?side2 ?side3 ?side4 A4.out).mono ?_); (case side1 => exact cR_ (Kd.N_reads' e0.out).2.2); (case side2 => exact (Kd.N_reads' e0.out).2.1); (case side3 => exact cR_ (Kd.N_reads' d0.out).2.2); (case side4 => exact (Kd.N_reads' d0.out).2.1); rintro e q5 ⟨H4, rfl, f0, hb⟩; refine ⟨_, rfl, ?_⟩; have n_ := b_ (Kd.N_elder' (rN_ e0.out) (Kd.R_base f0) hb) <| b_ (Kd.N_elder' (rN_ b0.out) (Kd.R_base f0) hb) <| b_ (Kd.N_elder' (rN_ d0.out) (Kd.R_base f0) hb) <| b_ (Kd.R_lower f0 (ab (hB_))) <| c_ (ac (hB_) hb); clear e0 b0 d0 HB; obtain ⟨e0, b0, d0, k0, HB⟩ := n_; obtain ⟨Q2, R2, T2⟩ := Kd.R_slice k0.out; subst T2) | ((with_reducible refine ae (f := 19) rfl ?_); refine aq (some 87) rfl rfl Tryz.func19 (by kernel_rfl) rfl #[.slice Q2 D1.length R2] rfl aM_ ?_; (with_reducible refine (am.calls k3 _ _ D1 E1 _ ?side1 ?side2 B4.out).mono ?_); (case side1 => exact cR_ (Kd.R_reads' k0.out).2.2); (case side2 => exact (Kd.R_reads' k0.out).2.1); rintro e s5 ⟨I4, rfl, f0, hb⟩; refine ⟨_, rfl, ?_⟩; have n_ := b_ (Kd.N_elder' (rN_ e0.out) (Kd.R_base f0) hb) <| b_ (Kd.N_elder' (rN_ b0.out) (Kd.R_base f0) hb) <| b_ (Kd.N_elder' (rN_ d0.out) (Kd.R_base f0) hb) <| b_ (Kd.R_elder' (rR_ k0.out) (Kd.R_base f0) hb) <| b_ (Kd.R_lower (Kd.R_new' f0 (Kd.R_lt (rR_ k0.out))) (ab (hB_))) <| c_ (ac (hB_) hb); clear e0 b0 d0 k0 HB; obtain ⟨e0, b0, d0, k0, p0, HB⟩ := n_; (try clear f0)) | ((with_reducible refine ae (f := 17) rfl ?_); refine aq (some 89) rfl rfl Tryz.func17 (by kernel_rfl) rfl #[.string a2, .int .i64 4] rfl aM_ ?_; (with_reducible refine (bx.calls k3 a2 4 F1 _ C4.out).mono ?_); rintro e t5 ⟨J4, rfl, f0, hb⟩; refine ⟨_, rfl, ?_⟩; have n_ := b_ (Kd.N_elder' (rN_ e0.out) (Kd.R_base f0) hb) <| b_ (Kd.N_elder' (rN_ b0.out) (Kd.R_base f0) hb) <| b_ (Kd.N_elder' (rN_ d0.out) (Kd.R_base f0) hb) <| b_ (Kd.R_elder' (rR_ k0.out) (Kd.R_base f0) hb) <| b_ (Kd.R_elder' (rR_ p0.out) (Kd.R_base f0) hb) <| b_ (Kd.R_lower (Kd.R_new' (Kd.R_new' f0 (Kd.R_lt (rR_ k0.out))) (Kd.R_lt (rR_ p0.out))) (ab (hB_))) <| c_ (ac (hB_) hb); clear e0 b0 d0 k0 p0 HB; obtain ⟨e0, b0, d0, k0, p0, t0, HB⟩ := n_; obtain ⟨U2, V2, X2⟩ := Kd.R_slice p0.out; subst X2; obtain ⟨Y2, Z2, b3⟩ := Kd.R_slice t0.out; subst b3) | ((with_reducible refine ae (f := 18) rfl ?_); refine aq (some 90) rfl rfl Tryz.func18 (by kernel_rfl) rfl #[.slice U2 E1.length V2, .slice Y2 F1.length Z2] rfl aM_ ?_; (with_reducible refine (aE.calls k3 _ _ E1 _ _ F1 G1 _ ?side1 ?side2 ?side3 ?side4 D4.out).mono ?_); (case side1 => exact cR_ (Kd.R_reads' p0.out).2.2); (case side2 => exact (Kd.R_reads' p0.out).2.1); (case side3 => exact cR_ (Kd.R_reads' t0.out).2.2); (case side4 => exact (Kd.R_reads' t0.out).2.1); rintro e u5 ⟨K4, rfl, f0, hb⟩; refine ⟨_, rfl, ?_⟩; have n_ := b_ (Kd.N_elder' (rN_ e0.out) (Kd.R_base f0) hb) <| b_ (Kd.N_elder' (rN_ b0.out) (Kd.R_base f0) hb) <| b_ (Kd.N_elder' (rN_ d0.out) (Kd.R_base f0) hb) <| b_ (Kd.R_elder' (rR_ k0.out) (Kd.R_base f0) hb) <| b_ (Kd.R_elder' (rR_ p0.out) (Kd.R_base f0) hb) <| b_ (Kd.R_elder' (rR_ t0.out) (Kd.R_base f0) hb) <| b_ (Kd.R_lower (Kd.R_new' (Kd.R_new' (Kd.R_new' f0 (Kd.R_lt (rR_ k0.out))) (Kd.R_lt (rR_ p0.out))) (Kd.R_lt (rR_ t0.out))) (ab (hB_))) <| c_ (ac (hB_) hb); clear e0 b0 d0 k0 p0 t0 HB; obtain ⟨e0, b0, d0, k0, p0, t0, v0, HB⟩ := n_; (try clear f0)) | ((with_reducible refine ae (f := 22) rfl ?_); refine aq (some 93) rfl rfl Tryz.func22 (by kernel_rfl) rfl #[.string a1] rfl aM_ ?_; (with_reducible refine (aY.calls k3 a1 H1 _ E4.out).mono ?_); rintro e v5 ⟨L4, rfl, f0, hb⟩; refine ⟨_, rfl, ?_⟩; have n_ := b_ (Kd.N_elder' (rN_ e0.out) (Kd.R_base f0) hb) <| b_ (Kd.N_elder' (rN_ b0.out) (Kd.R_base f0) hb) <| b_ (Kd.N_elder' (rN_ d0.out) (Kd.R_base f0) hb) <| b_ (Kd.R_elder' (rR_ k0.out) (Kd.R_base f0) hb) <| b_ (Kd.R_elder' (rR_ p0.out) (Kd.R_base f0) hb) <| b_ (Kd.R_elder' (rR_ t0.out) (Kd.R_base f0) hb) <| b_ (Kd.R_elder' (rR_ v0.out) (Kd.R_base f0) hb) <| b_ (Kd.R_lower (Kd.R_new' (Kd.R_new' (Kd.R_new' (Kd.R_new' f0 (Kd.R_lt (rR_ k0.out))) (Kd.R_lt (rR_ p0.out))) (Kd.R_lt (rR_ t0.out))) (Kd.R_lt (rR_ v0.out))) (ab (hB_))) <| c_ (ac (hB_) hb); clear e0 b0 d0 k0 p0 t0 v0 HB; obtain ⟨e0, b0, d0, k0, p0, t0, v0, F0, HB⟩ := n_; obtain ⟨c3, e3, f3⟩ := Kd.R_slice v0.out; subst f3; obtain ⟨g3, i3, l3⟩ := Kd.R_slice F0.out; subst l3) | ((with_reducible refine ae (f := 18) rfl ?_); refine aq (some 94) rfl rfl Tryz.func18 (by kernel_rfl) rfl #[.slice c3 G1.length e3, .slice g3 H1.length i3] rfl aM_ ?_; (with_reducible refine (aE.calls k3 _ _ G1 _ _ H1 I1 _ ?side1 ?side2 ?side3 ?side4 F4.out).mono ?_); (case side1 => exact cR_ (Kd.R_reads' v0.out).2.2); (case side2 => exact (Kd.R_reads' v0.out).2.1); (case side3 => exact cR_ (Kd.R_reads' F0.out).2.2); (case side4 => exact (Kd.R_reads' F0.out).2.1); rintro e w5 ⟨M4, rfl, f0, hb⟩; refine ⟨_, rfl, ?_⟩; have n_ := b_ (Kd.N_elder' (rN_ e0.out) (Kd.R_base f0) hb) <| b_ (Kd.N_elder' (rN_ b0.out) (Kd.R_base f0) hb) <| b_ (Kd.N_elder' (rN_ d0.out) (Kd.R_base f0) hb) <| b_ (Kd.R_elder' (rR_ k0.out) (Kd.R_base f0) hb) <| b_ (Kd.R_elder' (rR_ p0.out) (Kd.R_base f0) hb) <| b_ (Kd.R_elder' (rR_ t0.out) (Kd.R_base f0) hb) <| b_ (Kd.R_elder' (rR_ v0.out) (Kd.R_base f0) hb) <| b_ (Kd.R_elder' (rR_ F0.out) (Kd.R_base f0) hb) <| b_ (Kd.R_lower (Kd.R_new' (Kd.R_new' (Kd.R_new' (Kd.R_new' (Kd.R_new' f0 (Kd.R_lt (rR_ k0.out))) (Kd.R_lt (rR_ p0.out))) (Kd.R_lt (rR_ t0.out))) (Kd.R_lt (rR_ v0.out))) (Kd.R_lt (rR_ F0.out))) (ab (hB_))) <| c_ (ac (hB_) hb); clear e0 b0 d0 k0 p0 t0 v0 F0 HB; obtain ⟨e0, b0, d0, k0, p0, t0, v0, F0, P0, HB⟩ := n_; obtain ⟨m3, n3, p3⟩ := Kd.R_slice P0.out; subst p3) | ((with_reducible refine ae (f := 21) rfl ?_); refine aq (some 97) rfl rfl Tryz.func21 (by kernel_rfl) rfl #[.slice m3 I1.length n3, .int .i64 4] rfl aM_ ?_; (with_reducible refine (aU.calls k3 _ _ I1 4 e2 _ ?side1 ?side2 G4.out).mono ?_); (case side1 => exact cR_ (Kd.R_reads' P0.out).2.2); (case side2 => exact (Kd.R_reads' P0.out).2.1); rintro e y5 ⟨rfl, hb⟩; refine ⟨_, rfl, ?_⟩; have n_ := b_ (Kd.N_below (rN_ e0.out) hb) <| b_ (Kd.N_below (rN_ b0.out) hb) <| b_ (Kd.N_below (rN_ d0.out) hb) <| b_ (Kd.R_below (rR_ k0.out) hb) <| b_ (Kd.R_below (rR_ p0.out) hb) <| b_ (Kd.R_below (rR_ t0.out) hb) <| b_ (Kd.R_below (rR_ v0.out) hb) <| b_ (Kd.R_below (rR_ F0.out) hb) <| b_ (Kd.R_below (rR_ P0.out) hb) <| c_ (ac (hB_) hb); clear e0 b0 d0 k0 p0 t0 v0 F0 P0 HB; obtain ⟨e0, b0, d0, k0, p0, t0, v0, F0, P0, HB⟩ := n_; (try clear hb)))
   go_ret2
   exact ⟨f1_, hB_⟩
  rw [za T1] at H
  have c2 := ta T1
  clear T1
  obtain ⟨q3, f1⟩ : ∃ y_ : List (List Int), y_ = (([] : List (List Int))) := ⟨_, rfl⟩
  first | replace H := yb_ f1 H | rw [← f1] at H
  have A1 := aa.mk f1
  clear f1
  have H' := aa.mk H
  clear H
  go_wp2_with (first | ((with_reducible refine aI (N := 56) rfl ?_); (try (refine bj (by rfl) ?_; dsimp only)); refine Kd.N_lit (Kd.slice 3 (Kd.int .i64)) _ 38 ?hg (N' := 56) ?hd (xs := ([] : List (List Int))) (inner := []) (ok := (fun k_ => some k_ ≠ (r0 : Value).ownBlock ∧ some k_ ≠ (y0 : Value).ownBlock ∧ some k_ ≠ (u11 : Value).ownBlock)) (okp := (fun k_ => some k_ ≠ (r0 : Value).ownBlock ∧ some k_ ≠ (y0 : Value).ownBlock ∧ some k_ ≠ (u11 : Value).ownBlock)) ?hr ?hp (fun _ hk => hk) ((show ∀ k_, wr.heap.size ≤ k_ → (fun k_ => some k_ ≠ (r0 : Value).ownBlock ∧ some k_ ≠ (y0 : Value).ownBlock ∧ some k_ ≠ (u11 : Value).ownBlock) k_ from fun k_ hk => ⟨Kd.fresh' (Kd.N_lt (rN_ e0.out)) k_ hk, Kd.fresh' (Kd.N_lt (rN_ b0.out)) k_ hk, Kd.fresh' (Kd.N_lt (rN_ d0.out)) k_ hk⟩) _ (wa _)) (xa _ _) (wa _) (by simp) ?_; (case hd => rfl); (case hg => rfl); (case hr => first | (go_simp; done) | (go_simp; rfl)); (case hp => exact (br.none _ _)); intro N4 z5 V0 hb hg_ hnew_; clear hg_ hnew_; (first | rw [← A1.out] at V0 | (simp only [Int.reduceToNat] at V0; rw [← A1.out] at V0)); have n_ := b_ (Kd.N_elder' (rN_ e0.out) (Kd.N_base V0) hb) <| b_ (Kd.N_elder' (rN_ b0.out) (Kd.N_base V0) hb) <| b_ (Kd.N_elder' (rN_ d0.out) (Kd.N_base V0) hb) <| b_ (Kd.N_lower V0 (ab (hB_))) <| c_ (ac (hB_) hb); clear e0 b0 d0 HB; obtain ⟨e0, b0, d0, f2, HB⟩ := n_; clear hb V0))
  go_loopg [15, 16] k3 (fun kq t2 O4 w' => ∃ (M0 : List (List Int)) (N0 : Int), O4 = .int .i64 N0 ∧ aa (al.l2 kq a1 a2 R0 C0 B0 L0 E0 M0 N0 = some (r1, r2)) ∧ aa (kq ≤ k3) ∧ aa (Kd.N (Kd.slice 3 (Kd.int .i64)) 38 w' w.heap.size (fun k_ => some k_ ≠ (y0 : Value).ownBlock ∧ some k_ ≠ (u11 : Value).ownBlock ∧ some k_ ≠ (t2 : Value).ownBlock) r0 R0) ∧ aa (Kd.N (Kd.slice 3 (Kd.int .i64)) 38 w' w.heap.size (fun k_ => some k_ ≠ (r0 : Value).ownBlock ∧ some k_ ≠ (u11 : Value).ownBlock ∧ some k_ ≠ (t2 : Value).ownBlock) y0 C0) ∧ aa (Kd.N (Kd.slice 3 (Kd.int .i64)) 38 w' w.heap.size (fun k_ => some k_ ≠ (r0 : Value).ownBlock ∧ some k_ ≠ (y0 : Value).ownBlock ∧ some k_ ≠ (t2 : Value).ownBlock) u11 B0) ∧ aa (Kd.N (Kd.slice 3 (Kd.int .i64)) 38 w' w.heap.size (fun k_ => some k_ ≠ (r0 : Value).ownBlock ∧ some k_ ≠ (y0 : Value).ownBlock ∧ some k_ ≠ (u11 : Value).ownBlock) t2 M0) ∧ aa (Below w.heap.size w w'))
  case atStart => exact ⟨(q3), (0), f0_, H', ⟨wa _⟩, ⟨by refine kN_ ?_; exact Kd.N_mono e0.out (fun _ hk => ⟨hk.1.1, ⟨hk.1.2, hk.2⟩⟩)⟩, ⟨by refine kN_ ?_; exact Kd.N_mono b0.out (fun _ hk => ⟨hk.1.1, ⟨hk.1.2, hk.2⟩⟩)⟩, ⟨by refine kN_ ?_; exact Kd.N_mono d0.out (fun _ hk => ⟨hk.1.1, ⟨hk.1.2, hk.2⟩⟩)⟩, ⟨rN_ f2.out⟩, ⟨hB_⟩⟩
  clear H'
  obtain ⟨M0, N0, rfl, HA, u2, e0, b0, d0, q0, HB⟩ := hrel
  rcases gk with _ | k4
  ·exact absurd HA.out (by simp [al.l2])
  have H := HA.out
  clear HA
  simp only [al.l2] at H
  by_cases U1 : N0 < 2
  ·rw [za U1] at H
   have g2 := ta U1
   clear U1
   obtain ⟨T0, p1⟩ : ∃ j_ : Int, (wrap64 ((wrap64 (N0 * 2)) + E0)) = j_ := ⟨_, rfl⟩
   first | rw [p1] at H | simp only [p1] at H
   have r3 : (IntKind.i64.wrap ((wrap64 (N0 * 2)) + E0)) = T0 := (bB _).trans p1
   obtain ⟨W3, H⟩ := iD_ H
   obtain ⟨X3, H⟩ := iD_ H
   obtain ⟨Y3, H⟩ := iN_ H
   have i2 := aa.mk Y3
   clear Y3
   obtain ⟨t3, g1⟩ : ∃ y_ : List (List Int), y_ = (M0 ++ [dg C0 (T0)]) := ⟨_, rfl⟩
   first | replace H := yb_ g1 H | rw [← g1] at H
   have j2 := aa.mk g1
   clear g1
   have H' := aa.mk H
   clear H
   obtain ⟨P4, Z0, u3⟩ := Kd.N_slice b0.out
   subst u3
   have q1 : 0 ≤ ((T0) : Int) := oD_
   have t1 : (T0) < (C0.length : Int) := oD_
   obtain ⟨O0, J1, K1, v3, y1, i1, j1⟩ := k9 (Kd.N_reads' b0.out).2.2 (T0) q1 t1
   cases v3
   obtain ⟨ce515, hce515, hMe515, hcc515⟩ := Kd.N_get b0.out [] (T0) q1 (by first | exact t1 | exact oD_ | (have e_ := (Kd.N_reads' b0.out).1; omega))
   obtain ⟨ua515_0, uc515_0, rfl, ul515_0, ge515_0⟩ := Kd.FK_slice_open hMe515
   have J0 := hcc515 0 _ rfl
   rw [Nat.add_zero, show ((Kd.slice 3 (Kd.int .i64))).sz = 1 from rfl, Nat.mul_one] at J0
   replace J0 := sI (J0.symm.trans y1)
   injection J0 with hva_ hvn_ hvc_
   rw [hva_] at ge515_0
   rw [hvc_] at ul515_0
   have I0 := aa.mk (show Kd.V (Kd.int .i64) 3 _ w.heap.size _ _ (dg C0 (T0)) from Kd.V_mk ul515_0 ge515_0)
   clear hva_ hvn_ hvc_ ge515_0 ul515_0
   clear hcc515 hce515
   have v2 := aa.mk j1
   have y2 := aa.mk i1
   clear j1 i1
   replace q1 := va q1
   replace t1 := va t1
   go_wp2_with (first | ((with_reducible refine aV (b := .append) (xs := #[.tmp 61, .tmp 69]) rfl ?_); (try (refine bj (by rfl) ?_; dsimp only)); at_builtin; refine Kd.N_append (Kd.slice 3 (Kd.int .i64)) (w0 := w) w.heap.size rfl (.tmp 61) (.tmp 69) 34 38 (.slice none 0 0) 24 rfl Tryz.underlying34 gK rfl (by decide) (by omega) u15 M0 (dg C0 (T0)) [.slice J1 (dg C0 (T0)).length K1] (fun k_ => some k_ ≠ (r0 : Value).ownBlock ∧ some k_ ≠ (.slice (some O0) C0.length Z0 : Value).ownBlock ∧ some k_ ≠ (u11 : Value).ownBlock) (fun k_ => ((fun k_ => some k_ ≠ (r0 : Value).ownBlock ∧ some k_ ≠ (.slice (some O0) C0.length Z0 : Value).ownBlock ∧ some k_ ≠ (u11 : Value).ownBlock)) k_ ∧ some k_ ≠ (u15 : Value).ownBlock) rfl rfl ?aP (fun _ hk => hk) ?aF ?aO ?aB ?aS ?aL ?_; (case aP => exact (Kd.FK_slice_mk (Kd.V_reads' (Kd.V_mono (ok' := (fun k_ => ((fun k_ => some k_ ≠ (r0 : Value).ownBlock ∧ some k_ ≠ (.slice (some O0) C0.length Z0 : Value).ownBlock ∧ some k_ ≠ (u11 : Value).ownBlock)) k_ ∧ some k_ ≠ (u15 : Value).ownBlock)) (I0.out) (fun k_ hk => ⟨⟨hk.1.1, ⟨hk.2, hk.1.2.1⟩⟩, hk.1.2.2⟩))).2.1 (Kd.V_F (Kd.V_mono (ok' := (fun k_ => ((fun k_ => some k_ ≠ (r0 : Value).ownBlock ∧ some k_ ≠ (.slice (some O0) C0.length Z0 : Value).ownBlock ∧ some k_ ≠ (u11 : Value).ownBlock)) k_ ∧ some k_ ≠ (u15 : Value).ownBlock)) (I0.out) (fun k_ hk => ⟨⟨hk.1.1, ⟨hk.2, hk.1.2.1⟩⟩, hk.1.2.2⟩))))); (case aB => exact (hB_)); (case aF => exact (fun k_ hk => ⟨Kd.fresh' (Kd.N_lt (rN_ e0.out)) k_ hk, Kd.fresh' (Kd.N_lt (rN_ b0.out)) k_ hk, Kd.fresh' (Kd.N_lt (rN_ d0.out)) k_ hk⟩)); (case aO => exact (rN_ q0.out)); (case aS => exact (ab (hB_))); (case aL => have := i2.out; omega); intro Q4 B5 ho hb hg hat; rw [← j2.out] at ho; have n_ := b_ (Kd.N_afterv (ok := (fun k_ => some k_ ≠ (.slice (some O0) C0.length Z0 : Value).ownBlock ∧ some k_ ≠ (u11 : Value).ownBlock)) (by refine kN_ ?_; exact Kd.N_mono e0.out (fun _ hk => ⟨⟨hk.1, hk.2.1⟩, hk.2.2⟩)) hg hat) <| b_ (Kd.N_afterv (ok := (fun k_ => some k_ ≠ (r0 : Value).ownBlock ∧ some k_ ≠ (u11 : Value).ownBlock)) (by refine kN_ ?_; exact Kd.N_mono b0.out (fun _ hk => ⟨⟨hk.1, hk.2.1⟩, hk.2.2⟩)) hg hat) <| b_ (Kd.N_afterv (ok := (fun k_ => some k_ ≠ (r0 : Value).ownBlock ∧ some k_ ≠ (.slice (some O0) C0.length Z0 : Value).ownBlock)) (by refine kN_ ?_; exact Kd.N_mono d0.out (fun _ hk => ⟨⟨hk.1, hk.2.1⟩, hk.2.2⟩)) hg hat) <| b_ (Kd.V_afterv (ok := (fun k_ => some k_ ≠ (r0 : Value).ownBlock ∧ some k_ ≠ (.slice (some O0) C0.length Z0 : Value).ownBlock ∧ some k_ ≠ (u11 : Value).ownBlock)) (by refine kV_ ?_; exact Kd.V_mono I0.out (fun _ hk => ⟨⟨hk.1.1, ⟨hk.2, hk.1.2.1⟩⟩, hk.1.2.2⟩)) hg hat) <| b_ (hb) <| c_ (ho); clear q0 e0 b0 d0 I0 HB; obtain ⟨e0, b0, d0, I0, HB, m2⟩ := n_; clear ho hb hg hat))
   go_roundg k4
   case measure => have := Q1.out; have := R1.out; have := q2.out; have := u2.out; omega
   case rel => exact ⟨(t3), (wrap64 (N0 + 1)), f0_, H', ⟨by have := Q1.out; have := R1.out; have := q2.out; have := u2.out; omega⟩, ⟨by refine kN_ ?_; exact Kd.N_mono e0.out (fun _ hk => ⟨hk.1.1, ⟨hk.1.2, hk.2⟩⟩)⟩, ⟨by refine kN_ ?_; exact Kd.N_mono b0.out (fun _ hk => ⟨hk.1.1, ⟨hk.1.2, hk.2⟩⟩)⟩, ⟨by refine kN_ ?_; exact Kd.N_mono d0.out (fun _ hk => ⟨hk.1.1, ⟨hk.1.2, hk.2⟩⟩)⟩, ⟨rN_ m2.out⟩, ⟨hB_⟩⟩
  rw [Aa U1] at H
  have g2 := ua U1
  clear U1
  obtain ⟨L1, R4, H⟩ := bN_ H
  obtain ⟨M1, S4, H⟩ := bN_ H
  obtain ⟨N1, T4, H⟩ := bN_ H
  obtain ⟨O1, U4, H⟩ := bN_ H
  obtain ⟨P1, V4, H⟩ := bN_ H
  obtain ⟨w3, H⟩ := iN_ H
  have Z3 := va w3
  have b4 := ta w3
  try have c4 : (9223372036854775807 < L0.size + P1.size) = False := eq_false (Nat.not_lt.2 w3)
  have H' := aa.mk H
  clear H
  obtain ⟨y3, z3, A3⟩ := Kd.N_slice q0.out
  subst A3
  obtain ⟨B3, C3, D3⟩ := Kd.N_slice d0.out
  subst D3
  go_wp2_with (first | ((with_reducible refine ae (f := 20) rfl ?_); refine aq (some 73) rfl rfl Tryz.func20 (by kernel_rfl) rfl #[.slice y3 M0.length z3, .slice B3 B0.length C3] rfl aM_ ?_; (with_reducible refine (bc.calls k4 _ _ M0 _ _ B0 L1 _ ?side1 ?side2 ?side3 ?side4 R4.out).mono ?_); (case side1 => exact cR_ (Kd.N_reads' q0.out).2.2); (case side2 => exact (Kd.N_reads' q0.out).2.1); (case side3 => exact cR_ (Kd.N_reads' d0.out).2.2); (case side4 => exact (Kd.N_reads' d0.out).2.1); rintro e C5 ⟨W4, rfl, f0, hb⟩; refine ⟨_, rfl, ?_⟩; have n_ := b_ (Kd.N_elder' (rN_ e0.out) (Kd.R_base f0) hb) <| b_ (Kd.N_elder' (rN_ b0.out) (Kd.R_base f0) hb) <| b_ (Kd.N_elder' (rN_ d0.out) (Kd.R_base f0) hb) <| b_ (Kd.N_elder' (rN_ q0.out) (Kd.R_base f0) hb) <| b_ (Kd.R_lower f0 (ab (hB_))) <| c_ (ac (hB_) hb); clear e0 b0 d0 q0 HB; obtain ⟨e0, b0, d0, q0, u0, HB⟩ := n_; obtain ⟨E3, F3, G3⟩ := Kd.R_slice u0.out; subst G3) | ((with_reducible refine ae (f := 19) rfl ?_); refine aq (some 74) rfl rfl Tryz.func19 (by kernel_rfl) rfl #[.slice E3 L1.length F3] rfl aM_ ?_; (with_reducible refine (am.calls k4 _ _ L1 M1 _ ?side1 ?side2 S4.out).mono ?_); (case side1 => exact cR_ (Kd.R_reads' u0.out).2.2); (case side2 => exact (Kd.R_reads' u0.out).2.1); rintro e D5 ⟨X4, rfl, f0, hb⟩; refine ⟨_, rfl, ?_⟩; have n_ := b_ (Kd.N_elder' (rN_ e0.out) (Kd.R_base f0) hb) <| b_ (Kd.N_elder' (rN_ b0.out) (Kd.R_base f0) hb) <| b_ (Kd.N_elder' (rN_ d0.out) (Kd.R_base f0) hb) <| b_ (Kd.N_elder' (rN_ q0.out) (Kd.R_base f0) hb) <| b_ (Kd.R_elder' (rR_ u0.out) (Kd.R_base f0) hb) <| b_ (Kd.R_lower (Kd.R_new' f0 (Kd.R_lt (rR_ u0.out))) (ab (hB_))) <| c_ (ac (hB_) hb); clear e0 b0 d0 q0 u0 HB; obtain ⟨e0, b0, d0, q0, u0, x0, HB⟩ := n_; (try clear f0)) | ((with_reducible refine ae (f := 17) rfl ?_); refine aq (some 78) rfl rfl Tryz.func17 (by kernel_rfl) rfl #[.string a2, .int .i64 (wrap64 (2 + E0))] rfl aM_ ?_; (with_reducible refine (bx.calls k4 a2 (wrap64 (2 + E0)) N1 _ T4.out).mono ?_); rintro e E5 ⟨Y4, rfl, f0, hb⟩; refine ⟨_, rfl, ?_⟩; have n_ := b_ (Kd.N_elder' (rN_ e0.out) (Kd.R_base f0) hb) <| b_ (Kd.N_elder' (rN_ b0.out) (Kd.R_base f0) hb) <| b_ (Kd.N_elder' (rN_ d0.out) (Kd.R_base f0) hb) <| b_ (Kd.N_elder' (rN_ q0.out) (Kd.R_base f0) hb) <| b_ (Kd.R_elder' (rR_ u0.out) (Kd.R_base f0) hb) <| b_ (Kd.R_elder' (rR_ x0.out) (Kd.R_base f0) hb) <| b_ (Kd.R_lower (Kd.R_new' (Kd.R_new' f0 (Kd.R_lt (rR_ u0.out))) (Kd.R_lt (rR_ x0.out))) (ab (hB_))) <| c_ (ac (hB_) hb); clear e0 b0 d0 q0 u0 x0 HB; obtain ⟨e0, b0, d0, q0, u0, x0, G0, HB⟩ := n_; obtain ⟨H3, I3, J3⟩ := Kd.R_slice x0.out; subst J3; obtain ⟨K3, L3, M3⟩ := Kd.R_slice G0.out; subst M3) | ((with_reducible refine ae (f := 18) rfl ?_); refine aq (some 79) rfl rfl Tryz.func18 (by kernel_rfl) rfl #[.slice H3 M1.length I3, .slice K3 N1.length L3] rfl aM_ ?_; (with_reducible refine (aE.calls k4 _ _ M1 _ _ N1 O1 _ ?side1 ?side2 ?side3 ?side4 U4.out).mono ?_); (case side1 => exact cR_ (Kd.R_reads' x0.out).2.2); (case side2 => exact (Kd.R_reads' x0.out).2.1); (case side3 => exact cR_ (Kd.R_reads' G0.out).2.2); (case side4 => exact (Kd.R_reads' G0.out).2.1); rintro e F5 ⟨Z4, rfl, f0, hb⟩; refine ⟨_, rfl, ?_⟩; have n_ := b_ (Kd.N_elder' (rN_ e0.out) (Kd.R_base f0) hb) <| b_ (Kd.N_elder' (rN_ b0.out) (Kd.R_base f0) hb) <| b_ (Kd.N_elder' (rN_ d0.out) (Kd.R_base f0) hb) <| b_ (Kd.N_elder' (rN_ q0.out) (Kd.R_base f0) hb) <| b_ (Kd.R_elder' (rR_ u0.out) (Kd.R_base f0) hb) <| b_ (Kd.R_elder' (rR_ x0.out) (Kd.R_base f0) hb) <| b_ (Kd.R_elder' (rR_ G0.out) (Kd.R_base f0) hb) <| b_ (Kd.R_lower (Kd.R_new' (Kd.R_new' (Kd.R_new' f0 (Kd.R_lt (rR_ u0.out))) (Kd.R_lt (rR_ x0.out))) (Kd.R_lt (rR_ G0.out))) (ab (hB_))) <| c_ (ac (hB_) hb); clear e0 b0 d0 q0 u0 x0 G0 HB; obtain ⟨e0, b0, d0, q0, u0, x0, G0, Q0, HB⟩ := n_; obtain ⟨N3, O3, P3⟩ := Kd.R_slice Q0.out; subst P3) | ((with_reducible refine ae (f := 21) rfl ?_); refine aq (some 82) rfl rfl Tryz.func21 (by kernel_rfl) rfl #[.slice N3 O1.length O3, .int .i64 10] rfl aM_ ?_; (with_reducible refine (aU.calls k4 _ _ O1 10 P1 _ ?side1 ?side2 V4.out).mono ?_); (case side1 => exact cR_ (Kd.R_reads' Q0.out).2.2); (case side2 => exact (Kd.R_reads' Q0.out).2.1); rintro e G5 ⟨rfl, hb⟩; refine ⟨_, rfl, ?_⟩; have n_ := b_ (Kd.N_below (rN_ e0.out) hb) <| b_ (Kd.N_below (rN_ b0.out) hb) <| b_ (Kd.N_below (rN_ d0.out) hb) <| b_ (Kd.N_below (rN_ q0.out) hb) <| b_ (Kd.R_below (rR_ u0.out) hb) <| b_ (Kd.R_below (rR_ x0.out) hb) <| b_ (Kd.R_below (rR_ G0.out) hb) <| b_ (Kd.R_below (rR_ Q0.out) hb) <| c_ (ac (hB_) hb); clear e0 b0 d0 q0 u0 x0 G0 Q0 HB; obtain ⟨e0, b0, d0, q0, u0, x0, G0, Q0, HB⟩ := n_; (try clear hb)))
  go_roundg k4
  case measure => have := Q1.out; have := R1.out; have := q2.out; have := u2.out; omega
  case rel => exact ⟨(L0 ++ P1), (wrap64 (E0 + 1)), f0_, f0_, H', ⟨by have := Q1.out; have := R1.out; have := q2.out; have := u2.out; omega⟩, ⟨by refine kN_ ?_; exact Kd.N_mono e0.out (fun _ hk => ⟨hk.1.1.1.1.1, hk.1.1.1.1.2.1⟩)⟩, ⟨by refine kN_ ?_; exact Kd.N_mono b0.out (fun _ hk => ⟨hk.1.1.1.1.1, hk.1.1.1.1.2.1⟩)⟩, ⟨by refine kN_ ?_; exact Kd.N_mono d0.out (fun _ hk => ⟨hk.1.1.1.1.1, hk.1.1.1.1.2.1⟩)⟩, ⟨hB_⟩⟩

end Go.Proofs.YtielligodgabiaaGreatDoor.P
