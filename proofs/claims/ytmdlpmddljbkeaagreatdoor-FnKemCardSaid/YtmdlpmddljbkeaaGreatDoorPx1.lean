-- printed texts of this session, regrouped
import Derived.Test.YtmdlpmddljbkeaaGreatDoorMWF
import Derived.Test.YtmdlpmddljbkeaaGreatDoorMW8
namespace Go.Proofs.YtmdlpmddljbkeaaGreatDoor.P
open Go.RowKit YtmdlpmddljbkeaaGreatDoorW.PrintWords YtmdlpmddljbkeaaGreatDoorW.PrintLast YtmdlpmddljbkeaaGreatDoorW.PrintMore
open Kd
attribute [local go_sem] d3 dW eG eI dD dC dZ dY
set_option linter.unusedVariables false
set_option linter.unusedSimpArgs false
set_option maxHeartbeats 8000000
set_option maxRecDepth 100000
def fW.f (l0 : List Int) : Option (Bool) := some (decide ((l0.length : Int) > 1048576))
theorem fW.calls (A0 : Option Addr) (c0 : Nat) (l0 : List Int) (r : Bool) (w : World) (hr0 : Kd.C (Kd.int .u8) w A0 l0.length l0) (hc0 : l0.length ≤ c0) (h : fW.f l0 = some r) :
  Calls Tryz.prog 4 #[.slice A0 l0.length c0] w fun e w' => e = .returned (.bool r) ∧ cr w w' := by
 have a0 := c_ hr0
 have b0 := c_ hc0
 clear hr0 hc0
 delta fW.f at h
 have H := h
 clear h
 obtain rfl := Ba H
 go_enter Tryz.func4, Tryz.ntmps4
 go_wp2
 go_ret
 exact ⟨f0_, d0_⟩
/-- A state of type 62 at block g of W; what its slices lead to came in by w0. -/
def bE (w0 W : World) (g : Nat) (f0 : List Int) (f1 : Int) (f2 : Int) : Prop := ∃ A0 c0, W.heap[g]? = some (.cells #[.slice A0 f0.length c0, .int .i64 f1, .int .i64 f2] 62 (0, 0)) ∧ w0.heap.size ≤ g ∧ Kd.C (Kd.int .u8) w0 A0 f0.length f0
theorem bE.grown {w0 W : World} {g : Nat} {f0 : List Int} {f1 : Int} {f2 : Int} {W1 : World} {row : Option Nat} (h : bE w0 W g f0 f1 f2) (hw : W.grownBy W1 row) (hne : some g ≠ row) : bE w0 W1 g f0 f1 f2 := by
 obtain ⟨A0, c0, hb, hg, hr0⟩ := h
 exact ⟨A0, c0, fx hb hw hne, hg, hr0⟩
theorem bE.own_neN {w0 W : World} {g : Nat} {f0 : List Int} {f1 : Int} {f2 : Int} {α : Type} {d : Kd α} {e : Nat} {base : Nat} {ok : Nat → Prop} {v : Value} {xs : List α} (h : bE w0 W g f0 f1 f2) (ho : Kd.N d e W base ok v xs) (ht : e ≠ 62) : some g ≠ v.ownBlock := by
 obtain ⟨A0, c0, hb, hg, hr0⟩ := h
 exact xm ho hb ht
theorem bE.fresh {w0 W : World} {g : Nat} {f0 : List Int} {f1 : Int} {f2 : Int} (h : bE w0 W g f0 f1 f2) : ∀ k, W.heap.size ≤ k → k ≠ g := by
 obtain ⟨A0, c0, hb, hg, hr0⟩ := h
 exact Kd.freshB hb
theorem bE.kept {w0 W : World} {g : Nat} {f0 : List Int} {f1 : Int} {f2 : Int} {W1 : World} {S : Nat → Prop} (h : bE w0 W g f0 f1 f2) (hk : g7 W W1 S) (hne : ¬ S g) : bE w0 W1 g f0 f1 f2 := by
 obtain ⟨A0, c0, hb, hg, hr0⟩ := h
 exact ⟨A0, c0, se hb hk hne, hg, hr0⟩
theorem bE.below {w0 W : World} {g : Nat} {f0 : List Int} {f1 : Int} {f2 : Int} {W1 : World} (h : bE w0 W g f0 f1 f2) (hw : Below W.heap.size W W1) : bE w0 W1 g f0 f1 f2 := h.grown (mF hw none) (by simp)
theorem bE.alloc {w0 W : World} {g : Nat} {f0 : List Int} {f1 : Int} {f2 : Int} (h : bE w0 W g f0 f1 f2) (o : Obj) : bE w0 (W.alloc o) g f0 f1 f2 := h.below (co (Da _ _) o)
theorem bE.drewN {w0 W : World} {g : Nat} {f0 : List Int} {f1 : Int} {f2 : Int} (h : bE w0 W g f0 f1 f2) (m : Nat) : bE w0 (W.drewN m) g f0 f1 f2 := h
theorem bE.drew {w0 W : World} {g : Nat} {f0 : List Int} {f1 : Int} {f2 : Int} (h : bE w0 W g f0 f1 f2) : bE w0 W.drew g f0 f1 f2 := h
theorem bE.at_ {w0 W : World} {g : Nat} {f0 : List Int} {f1 : Int} {f2 : Int} {w' : World} {m : Nat} (hq : W.drewN m = w') (h : bE w0 W g f0 f1 f2) : bE w0 w' g f0 f1 f2 := by subst hq; exact bE.drewN h m
theorem bE.apart {w0 W : World} {g : Nat} {f0 : List Int} {f1 : Int} {f2 : Int} {α : Type} {d : Kd α} {e : Nat} {base : Nat} {ok : Nat → Prop} {v : Value} {xs : List α} (h : bE w0 W g f0 f1 f2) (ho : d.R e W base ok v xs) (ht : ∀ q, q ∈ e :: d.E → q ≠ 62) : d.R e W base (fun k => ok k ∧ k ≠ g) v xs := by
 obtain ⟨A0, c0, hb, hg, hr0⟩ := h
 exact vr ho hb ht
theorem bE.own_ne {w0 W : World} {g : Nat} {f0 : List Int} {f1 : Int} {f2 : Int} {α : Type} {d : Kd α} {e : Nat} {base : Nat} {ok : Nat → Prop} {v : Value} {xs : List α} (h : bE w0 W g f0 f1 f2) (ho : d.R e W base ok v xs) (ht : e ≠ 62) : some g ≠ v.ownBlock := by
 obtain ⟨A0, c0, hb, hg, hr0⟩ := h
 exact wq ho hb ht
theorem bE.apartQ {w0 W : World} {g : Nat} {f0 : List Int} {f1 : Int} {f2 : Int} {α : Type} {d : Kd α} {e : Nat} {base : Nat} {ok : Nat → Prop} {v : Value} {xs : List α} (h : bE w0 W g f0 f1 f2) (ho : d.Q e W base ok v xs) (ht : ∀ q, q ∈ e :: d.E → q ≠ 62) : d.Q e W base (fun k => ok k ∧ k ≠ g) v xs := by
 obtain ⟨A0, c0, hb, hg, hr0⟩ := h
 exact wG ho hb ht
theorem bE.own_neQ {w0 W : World} {g : Nat} {f0 : List Int} {f1 : Int} {f2 : Int} {α : Type} {d : Kd α} {e : Nat} {base : Nat} {ok : Nat → Prop} {v : Value} {xs : List α} (h : bE w0 W g f0 f1 f2) (ho : d.Q e W base ok v xs) (ht : e ≠ 62) : some g ≠ v.ownBlock := by
 obtain ⟨A0, c0, hb, hg, hr0⟩ := h
 exact xl ho hb ht
theorem bE.apartS {w0 W : World} {g : Nat} {f0 : List Int} {f1 : Int} {f2 : Int} {α : Type} {d : Kd α} {e : Nat} {base : Nat} {ok : Nat → Prop} {v : Value} {xs : List α} (h : bE w0 W g f0 f1 f2) (ho : d.S e W base ok v xs) (ht : ∀ q, q ∈ e :: d.E → q ≠ 62) : d.S e W base (fun k => ok k ∧ k ≠ g) v xs := by
 obtain ⟨A0, c0, hb, hg, hr0⟩ := h
 exact wJ ho hb ht
theorem bE.own_neS {w0 W : World} {g : Nat} {f0 : List Int} {f1 : Int} {f2 : Int} {α : Type} {d : Kd α} {e : Nat} {base : Nat} {ok : Nat → Prop} {v : Value} {xs : List α} (h : bE w0 W g f0 f1 f2) (ho : d.S e W base ok v xs) (ht : e ≠ 62) : some g ≠ v.ownBlock := by
 obtain ⟨A0, c0, hb, hg, hr0⟩ := h
 exact xk ho hb ht
theorem bE.lt {w0 W : World} {g : Nat} {f0 : List Int} {f1 : Int} {f2 : Int} (h : bE w0 W g f0 f1 f2) : g < W.heap.size := by
 obtain ⟨A0, c0, hb, hg, hr0⟩ := h
 exact eq hb
theorem bE.ge {w0 W : World} {g : Nat} {f0 : List Int} {f1 : Int} {f2 : Int} (h : bE w0 W g f0 f1 f2) : w0.heap.size ≤ g := by
 obtain ⟨A0, c0, hb, hg, hr0⟩ := h
 exact hg
theorem bE.ne_blk {w0 W : World} {g : Nat} {f0 : List Int} {f1 : Int} {f2 : Int} {a : Nat} {cs : Array Value} {t : TypeId} {fr : Nat × Nat} (h : bE w0 W g f0 f1 f2) (hb2 : W.heap[a]? = some (.cells cs t fr)) (ht : t ≠ 62) : g ≠ a := by
 obtain ⟨A0, c0, hb, hg, hr0⟩ := h
 rintro rfl
 rw [hb] at hb2
 injection hb2 with hb2
 injection hb2 with _ ht2
 exact ht ht2.symm
theorem bE.far {w0 W : World} {g : Nat} {f0 : List Int} {f1 : Int} {f2 : Int} {p : Addr} (h : bE w0 W g f0 f1 f2) (hne : g ≠ p.block) (u : Value) : bE w0 (W.setCell p u) g f0 f1 f2 := by
 obtain ⟨A0, c0, hb, hg, hr0⟩ := h
 exact ⟨A0, c0, dr hb hne u, hg, hr0⟩
theorem nf {W : World} {g : Nat} {A0 : Option Addr} {c0 : Nat} {f0 : List Int} {f1 : Int} {f2 : Int} (h : W.heap[g]? = some (.cells #[.slice A0 f0.length c0, .int .i64 f1, .int .i64 f2] 62 (0, 0))) : W.cell? ⟨g, 0, none⟩ = some (.slice A0 f0.length c0) := (ah h 0).trans rfl
theorem nc {W : World} {g : Nat} {A0 : Option Addr} {c0 : Nat} {f0 : List Int} {f1 : Int} {f2 : Int} (h : W.heap[g]? = some (.cells #[.slice A0 f0.length c0, .int .i64 f1, .int .i64 f2] 62 (0, 0))) : W.cell? ⟨g, 1, none⟩ = some (.int .i64 f1) := (ah h 1).trans rfl
theorem bE.set_1 {w0 W : World} {g : Nat} {f0 : List Int} {f1 : Int} {f2 : Int} (h : bE w0 W g f0 f1 f2) (x : Int) : bE w0 (W.setCell ⟨g, 1, none⟩ (.int .i64 x)) g f0 x f2 := by
 obtain ⟨A0, c0, hb, hg, hr0⟩ := h
 exact ⟨A0, c0, by simpa using nM hb 1 (.int .i64 x), hg, hr0⟩
theorem nm {W : World} {g : Nat} {A0 : Option Addr} {c0 : Nat} {f0 : List Int} {f1 : Int} {f2 : Int} (h : W.heap[g]? = some (.cells #[.slice A0 f0.length c0, .int .i64 f1, .int .i64 f2] 62 (0, 0))) : W.cell? ⟨g, 2, none⟩ = some (.int .i64 f2) := (ah h 2).trans rfl
theorem bE.set_2 {w0 W : World} {g : Nat} {f0 : List Int} {f1 : Int} {f2 : Int} (h : bE w0 W g f0 f1 f2) (x : Int) : bE w0 (W.setCell ⟨g, 2, none⟩ (.int .i64 x)) g f0 f1 x := by
 obtain ⟨A0, c0, hb, hg, hr0⟩ := h
 exact ⟨A0, c0, by simpa using nM hb 2 (.int .i64 x), hg, hr0⟩
theorem bE.new (w0 W : World) (A0 : Option Addr) (c0 : Nat) (f0 : List Int) (f1 : Int) (f2 : Int) (hB : Below w0.heap.size w0 W) (hr0 : Kd.C (Kd.int .u8) w0 A0 f0.length f0) : bE w0 (W.alloc (.cells #[.slice A0 f0.length c0, .int .i64 f1, .int .i64 f2] 62)) W.heap.size f0 f1 f2 := ⟨A0, c0, by simpa using heap_alloc_new W _, hB.size, hr0⟩
def b5.l0 : Nat → List Int → Int → Int → Option (List Int × Int × Int)
 | 0, _, _, _ => none
 | k + 1, x0, x3, x4 => if x4 < (x0.length : Int) then (if x4 < 4000 then (if 0 ≤ x4 then (b5.l0 k x0 (Go.bits .and .i64 (wrap64 ((wrap64 ((wrap64 (x3 * 131)) + (wrap64 (rd x0 x4)))) + 7)) 1073741823) (wrap64 (x4 + 1))) else (none)) else (some (x0, 0, x3))) else (some (x0, 0, x3))
def b5.f (k : Nat) (l0 : List Int) : Option (List Int × Int × Int) := b5.l0 k l0 (wrap64 (27401 + (l0.length : Int))) 0
theorem b5.mono_l : ∀ k, (∀ y0 y1 y2, LeO (b5.l0 k y0 y1 y2) (b5.l0 (k + 1) y0 y1 y2))
 | 0 => fun _ _ _ r h => by simp [b5.l0] at h
 | k + 1 => by
  have ih0 := b5.mono_l k
  intros; unfold b5.l0; exact o1_ ih0
theorem b5.mono : ∀ a0 k, LeO (b5.f k a0) (b5.f (k + 1) a0) := by
 intro a0 k
 have ih0 := b5.mono_l k
 unfold b5.f
 exact o1_ ih0
theorem b5.calls (k : Nat) (A0 : Option Addr) (c0 : Nat) (l0 : List Int) (r1 : List Int) (r2 : Int) (r3 : Int) (w0 w : World) (hB : Below w0.heap.size w0 w) (hr0 : Kd.C (Kd.int .u8) w0 A0 l0.length l0) (hc0 : l0.length ≤ c0) (h : b5.f k l0 = some (r1, r2, r3)) :
  Calls Tryz.prog 14 #[.slice A0 l0.length c0] w fun e w' => ∃ g_ : Nat, e = .returned (.pointer (some ⟨g_, 0, none⟩)) ∧ bE w0 w' g_ r1 r2 r3 ∧ Below w0.heap.size w0 w' ∧ Below w.heap.size w w' := by
 have hu62 := Tryz.underlying62
 have v0 := c_ hr0
 have F0 := c_ hc0
 clear hr0 hc0
 have HBW := c_ (Da w.heap.size w)
 have HW0 := c_ hB.size
 have HB := c_ hB
 clear hB
 delta b5.f at h
 have H := h
 clear h
 have H' := c_ H
 clear H
 go_enter Tryz.func14, Tryz.ntmps14
 go_wp2
 go_loopg [3, 4] k (fun kq v3 v4 w' => ∃ (b0 : Int) (a0 : Int), v3 = .int .i64 b0 ∧ v4 = .int .i64 a0 ∧ aa (b5.l0 kq l0 b0 a0 = some (r1, r2, r3)) ∧ aa (kq ≤ k) ∧ aa (Below w.heap.size w w') ∧ aa (Below w0.heap.size w0 w'))
 case atStart => exact ⟨(wrap64 (27401 + (l0.length : Int))), (0), f0_, f0_, H', ⟨Ca _⟩, ⟨(u0_)⟩, ⟨hB_⟩⟩
 clear H'
 obtain ⟨b0, a0, rfl, rfl, HA, C0, HBW, HB⟩ := hrel
 rcases gk with _ | k1
 ·exact absurd HA.o (by simp [b5.l0])
 have H := HA.o
 clear HA
 simp only [b5.l0] at H
 by_cases c2 : a0 < (l0.length : Int)
 rotate_left
 ·rw [Ga c2] at H
  have x0 := za c2
  clear c2
  simp only [Option.some.injEq, Prod.mk.injEq] at H
  obtain ⟨rfl, rfl, rfl⟩ := H
  go_wp2_with (first | (refine bx_ 31 #[.slice A0 l0.length c0, .int .i64 0, .int .i64 b0] 62 fun n0 w6 hb HB p0 e0 => ?_; have HBW := c_ (dF HBW.o hb)))
  go_ret
  exact ⟨_, rfl, (show bE w0 _ n0 l0 0 b0 from ⟨_, _, by refine kK_ ?_; exact p0.o, e0.o, v0.o⟩), hS_ e0.o, (u1_ e0.o)⟩
 rw [Fa c2] at H
 have x0 := ya c2
 clear c2
 by_cases c3 : a0 < 4000
 ·rw [Fa c3] at H
  have y0 := ya c3
  clear c3
  obtain ⟨E0, H⟩ := iD_ H
  have H' := c_ H
  clear H
  have j0 : 0 ≤ (a0 : Int) := oD_
  have k0 : a0 < (l0.length : Int) := oD_
  obtain ⟨D0, B0, d0⟩ := uZ v0.o a0 j0 k0
  cases B0
  replace d0 := g8 HB.o d0
  replace j0 := Aa j0
  replace k0 := Aa k0
  go_wp2
  go_roundg k1
  case measure => have := C0.o; omega
  case rel => exact ⟨(Go.bits .and .i64 (wrap64 ((wrap64 ((wrap64 (b0 * 131)) + (wrap64 (rd l0 a0)))) + 7)) 1073741823), (wrap64 (a0 + 1)), f0_, f0_, H', ⟨by have := C0.o; omega⟩, ⟨(u0_)⟩, ⟨hB_⟩⟩
 rw [Ga c3] at H
 have y0 := za c3
 clear c3
 simp only [Option.some.injEq, Prod.mk.injEq] at H
 obtain ⟨rfl, rfl, rfl⟩ := H
 go_wp2_with (first | (refine bx_ 31 #[.slice A0 l0.length c0, .int .i64 0, .int .i64 b0] 62 fun q0 w5 hb HB r0 f0 => ?_; have HBW := c_ (dF HBW.o hb)))
 go_ret
 exact ⟨_, rfl, (show bE w0 _ q0 l0 0 b0 from ⟨_, _, by refine kK_ ?_; exact r0.o, f0.o, v0.o⟩), hS_ f0.o, (u1_ f0.o)⟩
def aX.f (a0 : Int) (a1 : Int) (a2 : Int) : Option (Bool) := if a0 ≥ a1 then (some (decide (a0 ≤ a2))) else (some false)
theorem aX.calls (a0 : Int) (a1 : Int) (a2 : Int) (r : Bool) (w : World) (h : aX.f a0 a1 a2 = some r) :
  Calls Tryz.prog 97 #[.int .i64 a0, .int .i64 a1, .int .i64 a2] w fun e w' => e = .returned (.bool r) ∧ cr w w' := by
 delta aX.f at h
 have H := h
 clear h
 by_cases c4 : a0 ≥ a1
 ·rw [Fa c4] at H
  have b0 := ya c4
  clear c4
  obtain rfl := Ba H
  go_enter Tryz.func97, Tryz.ntmps97
  go_wp2
  go_ret
  exact ⟨f0_, d0_⟩
 rw [Ga c4] at H
 have b0 := za c4
 clear c4
 obtain rfl := Ba H
 go_enter Tryz.func97, Tryz.ntmps97
 go_wp2
 go_ret
 exact ⟨f0_, d0_⟩
def cT.f (a0_0 : ByteArray) (a0_1 : ByteArray) (a0_2 : Int) : Option (Bool) := if (a0_0.size : Int) = 32 then (if (a0_1.size : Int) < 64 then ((aX.f a0_2 0 1000000000).bind fun t105 => (if t105 = true then (some ((Int.tmod a0_2 64) == (a0_1.size : Int))) else (some false))) else (some false)) else (some false)
theorem cT.calls (d0 : ByteArray) (e0 : ByteArray) (j0 : Int) (r : Bool) (w : World) (h : cT.f d0 e0 j0 = some r) :
  Calls Tryz.prog 76 #[.agg #[.string d0, .string e0, .int .i64 j0]] w fun e w' => e = .returned (.bool r) ∧ Below w.heap.size w w' := by
 have hu65 := Tryz.underlying65
 have HB := c_ (Da w.heap.size w)
 delta cT.f at h
 have H := h
 clear h
 by_cases c2 : (d0.size : Int) = 32
 rotate_left
 ·rw [Ga c2] at H
  have F0 : ((d0.size : Int) == 32) = false := beq_eq_false_iff_ne.mpr c2
  have G0 : ((d0.size : Int) != 32) = true := bne_iff_ne.mpr c2
  obtain rfl := Ba H
  go_enter Tryz.func76, Tryz.ntmps76
  go_wp2_with (first | ((try (refine bi (by rfl) ?_; dsimp only)); refine bx_ 1 #[.string d0, .string e0, .int .i64 j0] 65 fun b0 H0 hb HB a0 f0 => ?_; have k0 : H0.cell? ⟨b0, 0, none⟩ = some (.string d0) := (ah a0.o 0).trans rfl; have n0 : H0.cell? ⟨b0, 1, none⟩ = some (.string e0) := (ah a0.o 1).trans rfl; have p0 : H0.cell? ⟨b0, 2, none⟩ = some (.int .i64 j0) := (ah a0.o 2).trans rfl; have q0 := ae a0.o 0; have r0 := ae a0.o 1; have v0 := ae a0.o 2))
  go_ret
  exact ⟨f1_, hS_ f0.o⟩
 rw [Fa c2] at H
 have F0 : ((d0.size : Int) == 32) = true := beq_iff_eq.mpr c2
 have G0 : ((d0.size : Int) != 32) = false := bne_eq_false_iff_eq.mpr c2
 clear c2
 by_cases c3 : (e0.size : Int) < 64
 rotate_left
 ·rw [Ga c3] at H
  have I0 := za c3
  have J0 : decide (e0.size < 64) = false := za (by omega)
  clear c3
  obtain rfl := Ba H
  go_enter Tryz.func76, Tryz.ntmps76
  go_wp2_with (first | ((try (refine bi (by rfl) ?_; dsimp only)); refine bx_ 1 #[.string d0, .string e0, .int .i64 j0] 65 fun b0 K0 hb HB a0 f0 => ?_; have x0 : K0.cell? ⟨b0, 0, none⟩ = some (.string d0) := (ah a0.o 0).trans rfl; have y0 : K0.cell? ⟨b0, 1, none⟩ = some (.string e0) := (ah a0.o 1).trans rfl; have B0 : K0.cell? ⟨b0, 2, none⟩ = some (.int .i64 j0) := (ah a0.o 2).trans rfl; have C0 := ae a0.o 0; have D0 := ae a0.o 1; have E0 := ae a0.o 2))
  go_ret
  exact ⟨f1_, hS_ f0.o⟩
 rw [Fa c3] at H
 have I0 := ya c3
 have J0 : decide (e0.size < 64) = true := ya (by omega)
 clear c3
 obtain ⟨L0, A4, H⟩ := bN_ H
 by_cases c5 : L0 = true
 ·subst c5
  replace H := iT_ H
  obtain rfl := Ba H
  go_enter Tryz.func76, Tryz.ntmps76
  go_wp2_with (first | ((try (refine bi (by rfl) ?_; dsimp only)); refine bx_ 1 #[.string d0, .string e0, .int .i64 j0] 65 fun b0 w6 hb HB a0 f0 => ?_; have M0 : w6.cell? ⟨b0, 0, none⟩ = some (.string d0) := (ah a0.o 0).trans rfl; have N0 : w6.cell? ⟨b0, 1, none⟩ = some (.string e0) := (ah a0.o 1).trans rfl; have O0 : w6.cell? ⟨b0, 2, none⟩ = some (.int .i64 j0) := (ah a0.o 2).trans rfl; have P0 := ae a0.o 0; have Q0 := ae a0.o 1; have R0 := ae a0.o 2) | (go_at_call 97; refine mp_ (aX.calls _ _ _ _ _ A4.o) fun nd => ?_))
  go_ret
  exact ⟨f1_, hS_ f0.o⟩
 ·replace c5 := Ea c5
  subst c5
  replace H := iF_ H
  obtain rfl := Ba H
  go_enter Tryz.func76, Tryz.ntmps76
  go_wp2_with (first | ((try (refine bi (by rfl) ?_; dsimp only)); refine bx_ 1 #[.string d0, .string e0, .int .i64 j0] 65 fun b0 w8 hb HB a0 f0 => ?_; have S0 : w8.cell? ⟨b0, 0, none⟩ = some (.string d0) := (ah a0.o 0).trans rfl; have T0 : w8.cell? ⟨b0, 1, none⟩ = some (.string e0) := (ah a0.o 1).trans rfl; have U0 : w8.cell? ⟨b0, 2, none⟩ = some (.int .i64 j0) := (ah a0.o 2).trans rfl; have V0 := ae a0.o 0; have W0 := ae a0.o 1; have X0 := ae a0.o 2) | (go_at_call 97; refine mp_ (aX.calls _ _ _ _ _ A4.o) fun nd => ?_))
  go_ret
  exact ⟨f1_, hS_ f0.o⟩
def eA.f (a0 : ByteArray) (a1 : Int) : Option (Int) := if 0 ≤ a1 then (if a1 < (a0.size : Int) then (if 0 ≤ (wrap64 (a1 + 1)) then (if (wrap64 (a1 + 1)) < (a0.size : Int) then (if 0 ≤ (wrap64 (a1 + 2)) then (if (wrap64 (a1 + 2)) < (a0.size : Int) then (if 0 ≤ (wrap64 (a1 + 3)) then (if (wrap64 (a1 + 3)) < (a0.size : Int) then (some ((((((((((bt a0 a1) % 4294967296) * 16777216) % 4294967296) + ((((bt a0 (wrap64 (a1 + 1))) % 4294967296) * 65536) % 4294967296)) % 4294967296) + ((((bt a0 (wrap64 (a1 + 2))) % 4294967296) * 256) % 4294967296)) % 4294967296) + ((bt a0 (wrap64 (a1 + 3))) % 4294967296)) % 4294967296)) else (none)) else (none)) else (none)) else (none)) else (none)) else (none)) else (none)) else (none)
theorem eA.calls (a0 : ByteArray) (a1 : Int) (r : Int) (w : World) (h : eA.f a0 a1 = some r) :
  Calls Tryz.prog 102 #[.string a0, .int .i64 a1] w fun e w' => e = .returned (.int .u32 r) ∧ cr w w' := by
 delta eA.f at h
 have H := h
 clear h
 obtain ⟨B0, H⟩ := iD_ H
 obtain ⟨C0, H⟩ := iD_ H
 obtain ⟨k0, e0⟩ : ∃ j_ : Int, (wrap64 (a1 + 1)) = j_ := ⟨_, rfl⟩
 first | rw [e0] at H | simp only [e0] at H
 have q0 : (IntKind.i64.wrap (a1 + 1)) = k0 := (bq _).trans e0
 obtain ⟨D0, H⟩ := iD_ H
 obtain ⟨E0, H⟩ := iD_ H
 obtain ⟨f0, b0⟩ : ∃ j_ : Int, (wrap64 (a1 + 2)) = j_ := ⟨_, rfl⟩
 first | rw [b0] at H | simp only [b0] at H
 have n0 : (IntKind.i64.wrap (a1 + 2)) = f0 := (bq _).trans b0
 obtain ⟨r0, H⟩ := iD_ H
 obtain ⟨v0, H⟩ := iD_ H
 obtain ⟨j0, d0⟩ : ∃ j_ : Int, (wrap64 (a1 + 3)) = j_ := ⟨_, rfl⟩
 first | rw [d0] at H | simp only [d0] at H
 have p0 : (IntKind.i64.wrap (a1 + 3)) = j0 := (bq _).trans d0
 obtain ⟨x0, H⟩ := iD_ H
 obtain ⟨y0, H⟩ := iD_ H
 obtain rfl := Ba H
 have p5 := Aa (oD_ : 0 ≤ (a1 : Int))
 have q5 := Aa (oD_ : a1 < (a0.size : Int))
 have H0 := cQ a0 a1
 have p9 := Aa (oD_ : 0 ≤ ((k0) : Int))
 have q9 := Aa (oD_ : (k0) < (a0.size : Int))
 have I0 := cQ a0 (k0)
 have J0 := Aa (oD_ : 0 ≤ ((f0) : Int))
 have K0 := Aa (oD_ : (f0) < (a0.size : Int))
 have F0 := cQ a0 (f0)
 have L0 := Aa (oD_ : 0 ≤ ((j0) : Int))
 have M0 := Aa (oD_ : (j0) < (a0.size : Int))
 have G0 := cQ a0 (j0)
 go_enter Tryz.func102, Tryz.ntmps102
 go_wp2
 repeat (go_quiet (fail); try go_wp2)
 go_ret
 exact ⟨by first | rfl | (simp; done) | (simp only [← e0, ← b0, ← d0] <;> (first | rfl | simp)) | (simp [*]; done), d0_⟩
def bd.l0 : Nat → ByteArray → List Int → Int → Option (List Int)
 | 0, _, _, _ => none
 | k + 1, x0, x3, x4 => if (wrap64 (x4 + 4)) ≤ (x0.size : Int) then ((eA.f x0 x4).bind fun t109 => (if x3.length < 35184372088832 then (bd.l0 k x0 (x3 ++ [t109]) (wrap64 (x4 + 4))) else (none))) else (some x3)
def bd.f (k : Nat) (a0 : ByteArray) : Option (List Int) := bd.l0 k a0 (([] : List Int)) 0
theorem bd.mono_l : ∀ k, (∀ y0 y1 y2, LeO (bd.l0 k y0 y1 y2) (bd.l0 (k + 1) y0 y1 y2))
 | 0 => fun _ _ _ r h => by simp [bd.l0] at h
 | k + 1 => by
  have ih0 := bd.mono_l k
  intros; unfold bd.l0; exact o1_ ih0
theorem bd.mono : ∀ a0 k, LeO (bd.f k a0) (bd.f (k + 1) a0) := by
 intro a0 k
 have ih0 := bd.mono_l k
 unfold bd.f
 exact o1_ ih0
theorem bd.calls (k : Nat) (a0 : ByteArray) (r : List Int) (w : World) (h : bd.f k a0 = some r) :
  Calls Tryz.prog 77 #[.string a0] w fun e w' => ∃ C0 : Value, e = .returned (C0) ∧ Kd.R (Kd.int .u32) 69 w' w.heap.size (fun _ => True) C0 r ∧ Below w.heap.size w w' := by
 have HB := c_ (Da w.heap.size w)
 delta bd.f at h
 have H := h
 clear h
 obtain ⟨r0, b0⟩ : ∃ y_ : List Int, y_ = (([] : List Int)) := ⟨_, rfl⟩
 first | replace H := yb_ b0 H | rw [← b0] at H
 have j0 := c_ b0
 clear b0
 have H' := c_ H
 clear H
 go_enter Tryz.func77, Tryz.ntmps77
 go_wp2_with (first | (refine lj_ 5 .u32 69 j0 fun E0 w2 k0 HB => ?_))
 go_loopg [3, 4] k (fun kq v3 v4 w' => ∃ (f0 : List Int) (e0 : Int), v4 = .int .i64 e0 ∧ aa (bd.l0 kq a0 f0 e0 = some r) ∧ aa (kq ≤ k) ∧ aa (Kd.R (Kd.int .u32) 69 w' w.heap.size (fun _ => True) v3 f0) ∧ aa (Below w.heap.size w w'))
 case atStart => exact ⟨(r0), (0), f0_, H', ⟨Ca _⟩, ⟨rR_ k0.o⟩, ⟨hB_⟩⟩
 clear H'
 obtain ⟨f0, e0, rfl, HA, D0, n0, HB⟩ := hrel
 rcases gk with _ | k1
 ·exact absurd HA.o (by simp [bd.l0])
 have H := HA.o
 clear HA
 simp only [bd.l0] at H
 by_cases c4 : (wrap64 (e0 + 4)) ≤ (a0.size : Int)
 ·rw [Fa c4] at H
  have v0 := ya c4
  clear c4
  obtain ⟨x0, A5, H⟩ := bN_ H
  obtain ⟨c6, H⟩ := iN_ H
  have y0 := c_ c6
  clear c6
  obtain ⟨B0, d0⟩ : ∃ y_ : List Int, y_ = (f0 ++ [x0]) := ⟨_, rfl⟩
  first | replace H := yb_ d0 H | rw [← d0] at H
  have p0 := c_ d0
  clear d0
  have H' := c_ H
  clear H
  go_wp2_with (first | (refine gp_ (k_ 16 Tryz.func102) (eA.calls _ _ _ _ A5.o) fun nd => ?_) | (refine ga_ 13 17 ?_; at_builtin; refine ap_ n0 p0 y0 Tryz.underlying86 nZ fun F0 w7 q0 HB hg hat => ?_))
  go_roundg k1
  case measure => have := D0.o; omega
  case rel => exact ⟨(B0), (wrap64 (e0 + 4)), f0_, H', ⟨by have := D0.o; omega⟩, ⟨rR_ q0.o⟩, ⟨hB_⟩⟩
 rw [Ga c4] at H
 have v0 := za c4
 clear c4
 obtain rfl := Ba H
 go_wp2
 go_ret
 exact ⟨_, f1_, rR_ n0.o, hB_⟩
def fc.f  : Option (List Int) := some (([1116352408, 1899447441, 3049323471, 3921009573, 961987163, 1508970993, 2453635748, 2870763221, 3624381080, 310598401, 607225278, 1426881987, 1925078388, 2162078206, 2614888103, 3248222580, 3835390401, 4022224774, 264347078, 604807628, 770255983, 1249150122, 1555081692, 1996064986, 2554220882, 2821834349, 2952996808, 3210313671, 3336571891, 3584528711, 113926993, 338241895, 666307205, 773529912, 1294757372, 1396182291, 1695183700, 1986661051, 2177026350, 2456956037, 2730485921, 2820302411, 3259730800, 3345764771, 3516065817, 3600352804, 4094571909, 275423344, 430227734, 506948616, 659060556, 883997877, 958139571, 1322822218, 1537002063, 1747873779, 1955562222, 2024104815, 2227730452, 2361852424, 2428436474, 2756734187, 3204031479, 3329325298] : List Int))
theorem fc.calls  (r : List Int) (w : World) (h : fc.f  = some r) :
  Calls Tryz.prog 78 #[] w fun e w' => ∃ e0 : Value, e = .returned (e0) ∧ Kd.R (Kd.int .u32) 69 w' w.heap.size (fun _ => True) e0 r ∧ Below w.heap.size w w' := by
 have HB := c_ (Da w.heap.size w)
 delta fc.f at h
 have H := h
 clear h
 obtain ⟨f0, a0⟩ : ∃ y_ : List Int, y_ = (([1116352408, 1899447441, 3049323471, 3921009573, 961987163, 1508970993, 2453635748, 2870763221, 3624381080, 310598401, 607225278, 1426881987, 1925078388, 2162078206, 2614888103, 3248222580, 3835390401, 4022224774, 264347078, 604807628, 770255983, 1249150122, 1555081692, 1996064986, 2554220882, 2821834349, 2952996808, 3210313671, 3336571891, 3584528711, 113926993, 338241895, 666307205, 773529912, 1294757372, 1396182291, 1695183700, 1986661051, 2177026350, 2456956037, 2730485921, 2820302411, 3259730800, 3345764771, 3516065817, 3600352804, 4094571909, 275423344, 430227734, 506948616, 659060556, 883997877, 958139571, 1322822218, 1537002063, 1747873779, 1955562222, 2024104815, 2227730452, 2361852424, 2428436474, 2756734187, 3204031479, 3329325298] : List Int)) := ⟨_, rfl⟩
 first | replace H := yb_ a0 H | rw [← a0] at H
 have b0 := c_ a0
 clear a0
 obtain rfl := Ba H
 go_enter Tryz.func78, Tryz.ntmps78
 go_wp2_with (first | (refine lj_ 1 .u32 69 b0 fun j0 w1 d0 HB => ?_))
 go_ret
 exact ⟨_, f1_, rR_ d0.o, hB_⟩
def cN.f (a0 : Int) (a1 : Int) (a2 : Int) : Option (Int) := if a1 = 0 then (none) else (some ((((Int.tdiv a0 a1) % 4294967296) + (((Int.tmod a0 a1) * a2) % 4294967296)) % 4294967296))
theorem cN.calls (a0 : Int) (a1 : Int) (a2 : Int) (r : Int) (w : World) (h : cN.f a0 a1 a2 = some r) :
  Calls Tryz.prog 110 #[.int .u32 a0, .int .u32 a1, .int .u32 a2] w fun e w' => e = .returned (.int .u32 r) ∧ cr w w' := by
 delta cN.f at h
 have H := h
 clear h
 by_cases c4 : a1 = 0
 ·rw [Fa c4] at H
  exact absurd H (by simp)
 rw [Ga c4] at H
 have b0 : (a1 == 0) = false := beq_eq_false_iff_ne.mpr c4
 have d0 : (a1 != 0) = true := bne_iff_ne.mpr c4
 obtain rfl := Ba H
 go_enter Tryz.func110, Tryz.ntmps110
 go_wp2
 repeat (go_quiet (fail); try go_wp2)
 go_ret
 exact ⟨f0_, d0_⟩
def cX.f (a0 : Int) (a1 : Int) (a2 : Int) (a3 : Int) (a4 : Bool) : Option (Int) := if a1 = 0 then (none) else ((cN.f a0 a1 ((((Int.tdiv (2147483648 : Int) a1) % 4294967296) * 2) % 4294967296)).bind fun t116 => (if a2 = 0 then (none) else ((cN.f a0 a2 ((((Int.tdiv (2147483648 : Int) a2) % 4294967296) * 2) % 4294967296)).bind fun t117 => (if a3 = 0 then (none) else (if a4 = true then (some (Go.bits .xor .u32 (Go.bits .xor .u32 t116 t117) ((Int.tdiv a0 a3) % 4294967296))) else ((cN.f a0 a3 ((((Int.tdiv (2147483648 : Int) a3) % 4294967296) * 2) % 4294967296)).bind fun t118 => (some (Go.bits .xor .u32 (Go.bits .xor .u32 t116 t117) t118))))))))
theorem cX.calls (a0 : Int) (a1 : Int) (a2 : Int) (a3 : Int) (a4 : Bool) (r : Int) (w : World) (h : cX.f a0 a1 a2 a3 a4 = some r) :
  Calls Tryz.prog 103 #[.int .u32 a0, .int .u32 a1, .int .u32 a2, .int .u32 a3, .bool a4] w fun e w' => e = .returned (.int .u32 r) ∧ cr w w' := by
 delta cX.f at h
 have H := h
 clear h
 by_cases c6 : a1 = 0
 ·rw [Fa c6] at H
  exact absurd H (by simp)
 rw [Ga c6] at H
 have j0 : (a1 == 0) = false := beq_eq_false_iff_ne.mpr c6
 have k0 : (a1 != 0) = true := bne_iff_ne.mpr c6
 obtain ⟨n0, A7, H⟩ := bN_ H
 by_cases c8 : a2 = 0
 ·rw [Fa c8] at H
  exact absurd H (by simp)
 rw [Ga c8] at H
 have p0 : (a2 == 0) = false := beq_eq_false_iff_ne.mpr c8
 have q0 : (a2 != 0) = true := bne_iff_ne.mpr c8
 obtain ⟨r0, A9, H⟩ := bN_ H
 by_cases b0 : a3 = 0
 ·rw [Fa b0] at H
  exact absurd H (by simp)
 rw [Ga b0] at H
 have e0 : (a3 == 0) = false := beq_eq_false_iff_ne.mpr b0
 have f0 : (a3 != 0) = true := bne_iff_ne.mpr b0
 by_cases d0 : a4 = true
 ·subst d0
  replace H := iT_ H
  obtain rfl := Ba H
  go_enter Tryz.func103, Tryz.ntmps103
  go_wp2_with (first | (refine gp_ (k_ 19 Tryz.func110) (cN.calls _ _ _ _ _ A7.o) fun nd => ?_) | (refine gp_ (k_ 25 Tryz.func110) (cN.calls _ _ _ _ _ A9.o) fun nd => ?_))
  go_ret
  exact ⟨f0_, d0_⟩
 ·replace d0 := Ea d0
  subst d0
  replace H := iF_ H
  obtain ⟨v0, x0, H⟩ := bN_ H
  obtain rfl := Ba H
  go_enter Tryz.func103, Tryz.ntmps103
  go_wp2_with (first | (refine gp_ (k_ 19 Tryz.func110) (cN.calls _ _ _ _ _ A7.o) fun nd => ?_) | (refine gp_ (k_ 25 Tryz.func110) (cN.calls _ _ _ _ _ A9.o) fun nd => ?_) | (refine gp_ (k_ 36 Tryz.func110) (cN.calls _ _ _ _ _ x0.o) fun nd => ?_))
  go_ret
  exact ⟨f0_, d0_⟩
mutual
def ac.l0 : Nat → List Int → List Int → List Int → Int → Option (List Int)
 | 0, _, _, _, _ => none
 | k + 1, x0, x1, x7, x8 => if x8 < 64 then (if 0 ≤ (wrap64 (x8 - 2)) then (if (wrap64 (x8 - 2)) < (x7.length : Int) then ((cX.f (rd x7 (wrap64 (x8 - 2))) 131072 524288 1024 true).bind fun t123 => (if 0 ≤ (wrap64 (x8 - 7)) then (if (wrap64 (x8 - 7)) < (x7.length : Int) then (if 0 ≤ (wrap64 (x8 - 15)) then (if (wrap64 (x8 - 15)) < (x7.length : Int) then ((cX.f (rd x7 (wrap64 (x8 - 15))) 128 262144 8 true).bind fun t126 => (if 0 ≤ (wrap64 (x8 - 16)) then (if (wrap64 (x8 - 16)) < (x7.length : Int) then (if x7.length < 35184372088832 then (ac.l0 k x0 x1 (x7 ++ [(((((t123 + (rd x7 (wrap64 (x8 - 7)))) % 4294967296) + t126) % 4294967296) + (rd x7 (wrap64 (x8 - 16)))) % 4294967296]) (wrap64 (x8 + 1))) else (none)) else (none)) else (none))) else (none)) else (none)) else (none)) else (none))) else (none)) else (none)) else ((some (([] : List Int) : List Int)).bind fun y131 => (if y131.length + x0.length < 35184372088832 then (ac.l1 k x0 x1 x7 (y131 ++ x0) 0) else (none)))
def ac.l1 : Nat → List Int → List Int → List Int → List Int → Int → Option (List Int)
 | 0, _, _, _, _, _ => none
 | k + 1, x0, x1, x7, x9, x10 => if x10 < 64 then (if 4 < (x9.length : Int) then (if 5 < (x9.length : Int) then (if 6 < (x9.length : Int) then (if 7 < (x9.length : Int) then ((cX.f (rd x9 4) 64 2048 33554432 false).bind fun t141 => (if 0 ≤ x10 then (if x10 < (x1.length : Int) then (if x10 < (x7.length : Int) then (if 0 < (x9.length : Int) then (if 1 < (x9.length : Int) then (if 2 < (x9.length : Int) then ((cX.f (rd x9 0) 4 8192 4194304 false).bind fun t151 => (ac.l2 k x0 x1 x7 x9 x10 (((((((((rd x9 7) + t141) % 4294967296) + (Go.bits .xor .u32 (Go.bits .and .u32 (rd x9 4) (rd x9 5)) (Go.bits .and .u32 ((4294967295 - (rd x9 4)) % 4294967296) (rd x9 6)))) % 4294967296) + (rd x1 x10)) % 4294967296) + (rd x7 x10)) % 4294967296) ((t151 + (Go.bits .xor .u32 (Go.bits .xor .u32 (Go.bits .and .u32 (rd x9 0) (rd x9 1)) (Go.bits .and .u32 (rd x9 0) (rd x9 2))) (Go.bits .and .u32 (rd x9 1) (rd x9 2)))) % 4294967296) 7)) else (none)) else (none)) else (none)) else (none)) else (none)) else (none))) else (none)) else (none)) else (none)) else (none)) else (ac.l3 k x0 x9 (([] : List Int)) 0)
def ac.l2 : Nat → List Int → List Int → List Int → List Int → Int → Int → Int → Int → Option (List Int)
 | 0, _, _, _, _, _, _, _, _ => none
 | k + 1, x0, x1, x7, x9, x10, x13, x15, x16 => if x16 > 0 then (if 0 ≤ (wrap64 (x16 - 1)) then (if (wrap64 (x16 - 1)) < (x9.length : Int) then (if 0 ≤ x16 then (if x16 < (x9.length : Int) then (ac.l2 k x0 x1 x7 (x9.set (x16 : Int).toNat (rd x9 (wrap64 (x16 - 1)))) x10 x13 x15 (wrap64 (x16 - 1))) else (none)) else (none)) else (none)) else (none)) else (if 4 < (x9.length : Int) then (if 0 < (x9.length : Int) then (ac.l1 k x0 x1 x7 ((x9.set (4 : Int).toNat (((rd x9 4) + x13) % 4294967296)).set (0 : Int).toNat ((x13 + x15) % 4294967296)) (wrap64 (x10 + 1))) else (none)) else (none))
def ac.l3 : Nat → List Int → List Int → List Int → Int → Option (List Int)
 | 0, _, _, _, _ => none
 | k + 1, x0, x9, x17, x18 => if x18 < 8 then (if 0 ≤ x18 then (if x18 < (x0.length : Int) then (if x18 < (x9.length : Int) then (if x17.length < 35184372088832 then (ac.l3 k x0 x9 (x17 ++ [((rd x0 x18) + (rd x9 x18)) % 4294967296]) (wrap64 (x18 + 1))) else (none)) else (none)) else (none)) else (none)) else (some x17)
end
def ac.f (k : Nat) (l0 : List Int) (l1 : List Int) (a2 : ByteArray) : Option (List Int) := (bd.f k a2).bind fun t119 => (ac.l0 k l0 l1 t119 16)
theorem ac.mono_l : ∀ k, (∀ y0 y1 y2 y3, LeO (ac.l0 k y0 y1 y2 y3) (ac.l0 (k + 1) y0 y1 y2 y3)) ∧ (∀ y0 y1 y2 y3 y4, LeO (ac.l1 k y0 y1 y2 y3 y4) (ac.l1 (k + 1) y0 y1 y2 y3 y4)) ∧ (∀ y0 y1 y2 y3 y4 y5 y6 y7, LeO (ac.l2 k y0 y1 y2 y3 y4 y5 y6 y7) (ac.l2 (k + 1) y0 y1 y2 y3 y4 y5 y6 y7)) ∧ (∀ y0 y1 y2 y3, LeO (ac.l3 k y0 y1 y2 y3) (ac.l3 (k + 1) y0 y1 y2 y3))
 | 0 => ⟨fun _ _ _ _ r h => by simp [ac.l0] at h, fun _ _ _ _ _ r h => by simp [ac.l1] at h, fun _ _ _ _ _ _ _ _ r h => by simp [ac.l2] at h, fun _ _ _ _ r h => by simp [ac.l3] at h⟩
 | k + 1 => by
  obtain ⟨ih0, ih1, ih2, ih3⟩ := ac.mono_l k
  refine ⟨?_, ?_, ?_, ?_⟩ <;> (intros; (first | unfold ac.l0 | unfold ac.l1 | unfold ac.l2 | unfold ac.l3); exact o5_ ih0 ih1 ih2 ih3 bd.mono)
theorem ac.mono : ∀ a0 a1 a2 k, LeO (ac.f k a0 a1 a2) (ac.f (k + 1) a0 a1 a2) := by
 intro a0 a1 a2 k
 obtain ⟨ih0, ih1, ih2, ih3⟩ := ac.mono_l k
 unfold ac.f
 exact o5_ ih0 ih1 ih2 ih3 bd.mono
def ac.T5 : Bool × List (List Nat × List Nat) := (true, [([], []), ([], []), ([], []), ([2], [2]), ([1, 3], [1, 3]), ([4], [4]), ([5], [5]), ([], []), ([], []), ([8], [8]), ([7, 9], [7, 9]), ([10], [10]), ([6, 11], [6, 11]), ([], []), ([], []), ([14], [14]), ([13, 15], [13, 15]), ([16], [16]), ([17, 6], [17]), ([12, 18], [12, 18]), ([], []), ([], []), ([21], [21]), ([20, 22], [20, 22]), ([23], [23]), ([19, 24], [19, 24]), ([25], [25]), ([0, 26, 18], [0, 26]), ([27, 27, 0, 1, 2, 3, 4, 5, 6, 7, 8, 9, 10, 11, 12, 13, 14, 15, 16, 17, 18, 19, 20, 21, 22, 23, 24, 25, 26, 27], [0, 1, 7, 13, 20, 27])])
def ac.B5 : List Nat := [0, 0, 0, 4, 14, 30, 62, 0, 0, 256, 896, 1920, 4094, 0, 0, 16384, 57344, 122880, 254078, 524286, 0, 0, 2097152, 7340032, 15728640, 33554430, 67108862, 134217727, 268435455]
theorem ac.tab5 : eu .any (fu Tryz.f79 5) = ac.T5 := by kernel_rfl
theorem ac.bits5 : dd ac.T5.2 ac.B5 = true := by kernel_rfl
def ac.T11 : Bool × List (List Nat × List Nat) := (true, [([], []), ([], []), ([1], [1]), ([2], [2]), ([0, 3], [0, 3]), ([], []), ([5], [5]), ([], []), ([7], [7]), ([8], [8]), ([6, 9], [6, 9]), ([4, 10], [4, 10]), ([11, 0, 1, 2, 3, 4, 5, 6, 7, 8, 9, 10, 11], [11])])
def ac.B11 : List Nat := [0, 0, 2, 6, 15, 0, 32, 0, 128, 384, 992, 2047, 4095]
theorem ac.tab11 : eu .any (fu Tryz.f79 11) = ac.T11 := by kernel_rfl
theorem ac.bits11 : dd ac.T11.2 ac.B11 = true := by kernel_rfl
def ac.T12 : Bool × List (List Nat × List Nat) := (true, [([], []), ([0], [0]), ([1], [1]), ([], []), ([3], [3]), ([2, 4], [2, 4]), ([], []), ([5, 6], [5, 6]), ([], []), ([], []), ([8, 9], [8, 9]), ([10], [10]), ([7, 11], [7, 11]), ([], []), ([], []), ([13, 14], [13, 14]), ([15], [15]), ([12, 16], [12, 16]), ([17, 4, 0, 1, 2, 3, 4, 5, 6, 7, 8, 9, 10, 11, 12, 13, 14, 15, 16, 17], [17])])
def ac.B12 : List Nat := [0, 1, 3, 0, 8, 31, 0, 127, 0, 0, 768, 1792, 4095, 0, 0, 24576, 57344, 131071, 262143]
theorem ac.tab12 : eu .any (fu Tryz.f79 12) = ac.T12 := by kernel_rfl
theorem ac.bits12 : dd ac.T12.2 ac.B12 = true := by kernel_rfl
def ac.T13 : Bool × List (List Nat × List Nat) := (true, [([], []), ([0], [0]), ([1], [1]), ([], []), ([3], [3]), ([4], [4]), ([2, 5], [2, 5]), ([], []), ([7], [7]), ([8], [8]), ([], []), ([10], [10]), ([11], [11]), ([9, 12], [9, 12]), ([6, 13], [6, 13]), ([], []), ([15], [15]), ([16], [16]), ([], []), ([18], [18]), ([19], [19]), ([17, 20], [17, 20]), ([14, 21], [14, 21]), ([22, 0, 1, 2, 3, 4, 5, 6, 7, 8, 9, 10, 11, 12, 13, 14, 15, 16, 17, 18, 19, 20, 21, 22], [22])])
def ac.B13 : List Nat := [0, 1, 3, 0, 8, 24, 63, 0, 128, 384, 0, 1024, 3072, 8064, 16383, 0, 32768, 98304, 0, 262144, 786432, 2064384, 4194303, 8388607]
theorem ac.tab13 : eu .any (fu Tryz.f79 13) = ac.T13 := by kernel_rfl
theorem ac.bits13 : dd ac.T13.2 ac.B13 = true := by kernel_rfl
def ac.T25 : Bool × List (List Nat × List Nat) := (true, [([], []), ([], []), ([], []), ([1, 2], [1, 2]), ([3], [3]), ([], []), ([], []), ([5, 6], [5, 6]), ([7], [7]), ([4, 8], [4, 8]), ([9], [9]), ([0, 10], [0, 10]), ([11, 11, 0, 1, 2, 3, 4, 5, 6, 7, 8, 9, 10, 11], [0, 11])])
def ac.B25 : List Nat := [0, 0, 0, 6, 14, 0, 0, 96, 224, 510, 1022, 2047, 4095]
theorem ac.tab25 : eu .any (fu Tryz.f79 25) = ac.T25 := by kernel_rfl
theorem ac.bits25 : dd ac.T25.2 ac.B25 = true := by kernel_rfl
theorem ac.calls (k : Nat) (A0 : Option Addr) (c0 : Nat) (l0 : List Int) (A1 : Option Addr) (c1 : Nat) (l1 : List Int) (a2 : ByteArray) (r : List Int) (w : World) (hr0 : Kd.C (Kd.int .u32) w A0 l0.length l0) (hc0 : l0.length ≤ c0) (hr1 : Kd.C (Kd.int .u32) w A1 l1.length l1) (hc1 : l1.length ≤ c1) (h : ac.f k l0 l1 a2 = some r) :
  Calls Tryz.prog 79 #[.slice A0 l0.length c0, .slice A1 l1.length c1, .string a2] w fun e w' => ∃ I5 : Value, e = .returned (I5) ∧ Kd.R (Kd.int .u32) 69 w' w.heap.size (fun _ => True) I5 r ∧ Below w.heap.size w w' := by
 have J5 := c_ hr0
 have C7 := c_ hc0
 clear hr0 hc0
 have S6 := c_ hr1
 have D7 := c_ hc1
 clear hr1 hc1
 have HB := c_ (Da w.heap.size w)
 delta ac.f at h
 have H := h
 clear h
 obtain ⟨w4, A4, H⟩ := bN_ H
 have H' := c_ H
 clear H
 go_enter Tryz.func79, Tryz.ntmps79
 go_wp2_with (first | (refine gR_ (k_ 20 Tryz.func77) (bd.calls _ _ _ _ A4.o) fun T6 w5 ho_ hb => ?_; obtain ⟨b3, HB⟩ := n_ (lR_ ho_) <| sB_))
 go_loopg [7, 8] k (fun kq v7 v8 w' => ∃ (f0 : List Int) (G0 : Int), v8 = .int .i64 G0 ∧ aa (ac.l0 kq l0 l1 f0 G0 = some r) ∧ aa (kq ≤ k) ∧ aa (Kd.R (Kd.int .u32) 69 w' w.heap.size (fun _ => True) v7 f0) ∧ aa (Below w.heap.size w w'))
 case atStart => exact ⟨(w4), (16), f0_, H', ⟨Ca _⟩, ⟨rR_ b3.o⟩, ⟨hB_⟩⟩
 clear H'
 obtain ⟨f0, G0, rfl, HA, L1, e0, HB⟩ := hrel
 rcases gk with _ | k1
 ·exact absurd HA.o (by simp [ac.l0])
 have H := HA.o
 clear HA
 simp only [ac.l0] at H
 by_cases c6 : G0 < 64
 ·rw [Fa c6] at H
  have y4 := ya c6
  clear c6
  obtain ⟨M1, E1⟩ : ∃ j_ : Int, (wrap64 (G0 - 2)) = j_ := ⟨_, rfl⟩
  first | rw [E1] at H | simp only [E1] at H
  have K5 : (IntKind.i64.wrap (G0 - 2)) = M1 := (bq _).trans E1
  obtain ⟨U6, H⟩ := iD_ H
  obtain ⟨V6, H⟩ := iD_ H
  obtain ⟨F1, v4, H⟩ := bN_ H
  obtain ⟨L0, X0⟩ : ∃ j_ : Int, (wrap64 (G0 - 7)) = j_ := ⟨_, rfl⟩
  first | rw [X0] at H | simp only [X0] at H
  (try rw [X0] at v4)
  have z4 : (IntKind.i64.wrap (G0 - 7)) = L0 := (bq _).trans X0
  obtain ⟨L5, H⟩ := iD_ H
  obtain ⟨M5, H⟩ := iD_ H
  obtain ⟨Q0, R0⟩ : ∃ j_ : Int, (wrap64 (G0 - 15)) = j_ := ⟨_, rfl⟩
  first | rw [R0] at H | simp only [R0] at H
  (try rw [R0] at v4)
  have B4 : (IntKind.i64.wrap (G0 - 15)) = Q0 := (bq _).trans R0
  obtain ⟨N5, H⟩ := iD_ H
  obtain ⟨O5, H⟩ := iD_ H
  obtain ⟨G1, P5, H⟩ := bN_ H
  obtain ⟨M0, S0⟩ : ∃ j_ : Int, (wrap64 (G0 - 16)) = j_ := ⟨_, rfl⟩
  first | rw [S0] at H | simp only [S0] at H
  (try rw [S0] at v4)
  (try rw [S0] at P5)
  have C4 : (IntKind.i64.wrap (G0 - 16)) = M0 := (bq _).trans S0
  obtain ⟨Q5, H⟩ := iD_ H
  obtain ⟨R5, H⟩ := iD_ H
  obtain ⟨S5, H⟩ := iN_ H
  have c3 := c_ S5
  clear S5
  obtain ⟨D4, Y0⟩ : ∃ y_ : List Int, y_ = (f0 ++ [(((((F1 + (rd f0 (L0))) % 4294967296) + G1) % 4294967296) + (rd f0 (M0))) % 4294967296]) := ⟨_, rfl⟩
  first | replace H := yb_ Y0 H | rw [← Y0] at H
  have e3 := c_ Y0
  clear Y0
  have H' := c_ H
  clear H
  try go_wp2
  obtain ⟨e0, HB⟩ := b_ (vl e0.o) <| c_ (bx HB.o)
  obtain ⟨W6, E4, f3⟩ := uY e0.o
  (first | subst f3 | (injection f3 with f1_ f2_ f3_; have f4_ := f1_.symm; have f5_ := f3_.symm; clear f1_ f2_ f3_; subst f4_; subst f5_))
  have P1 : 0 ≤ ((M1) : Int) := oD_
  have Q1 : (M1) < (f0.length : Int) := oD_
  obtain ⟨H0, F4, Z0⟩ := uZ (uX e0.o).2.2 (M1) P1 Q1
  cases F4
  replace P1 := Aa P1
  replace Q1 := Aa Q1
  have R1 : 0 ≤ ((L0) : Int) := oD_
  have S1 : (L0) < (f0.length : Int) := oD_
  obtain ⟨g3, G4, b1⟩ := uZ (uX e0.o).2.2 (L0) R1 S1
  obtain rfl : H0 = g3 := (by injection G4)
  replace R1 := Aa R1
  replace S1 := Aa S1
  have T1 : 0 ≤ ((Q0) : Int) := oD_
  have U1 : (Q0) < (f0.length : Int) := oD_
  obtain ⟨i3, H4, e1⟩ := uZ (uX e0.o).2.2 (Q0) T1 U1
  obtain rfl : H0 = i3 := (by injection H4)
  replace T1 := Aa T1
  replace U1 := Aa U1
  have V1 : 0 ≤ ((M0) : Int) := oD_
  have X1 : (M0) < (f0.length : Int) := oD_
  obtain ⟨m3, I4, f1⟩ := uZ (uX e0.o).2.2 (M0) V1 X1
  obtain rfl : H0 = m3 := (by injection I4)
  replace V1 := Aa V1
  replace X1 := Aa X1
  refine ej (n := 29) (S := fun w' => w'.cell? (H0.add ((M1)).toNat) = some (.int .u32 (rd f0 (M1))) ∧ w'.cell? (H0.add ((L0)).toNat) = some (.int .u32 (rd f0 (L0))) ∧ w'.cell? (H0.add ((Q0)).toNat) = some (.int .u32 (rd f0 (Q0))) ∧ w'.cell? (H0.add ((M0)).toNat) = some (.int .u32 (rd f0 (M0)))) (ds := [26, 27]) (bb_ 29 0) (by kernel_rfl) rfl rfl ⟨Z0, b1, e1, f1⟩ (fun hHeld => ?_); refine cK ac.tab5 ac.bits5 (fun HT_ HW_ => ?_)
  generalize wr.drew = E7 at e0 HB Z0 b1 e1 f1 hHeld ⊢
  refine pT_ 0 25 29 1 ?_
  refine pT_ 1 26 29 3 ?_
  refine pT_ 2 27 29 7 ?_
  refine pT_ 3 28 29 15 ?_
  refine pT_ 4 29 29 31 ?_
  refine pT_ 7 32 29 159 ?_
  refine pT_ 8 33 29 415 ?_
  refine pT_ 9 34 29 927 ?_
  refine pT_ 10 35 29 1951 ?_
  refine pT_ 13 38 29 10143 ?_
  refine pT_ 14 39 29 26527 ?_
  refine pT_ 15 40 29 59295 ?_
  refine pT_ 16 41 29 124831 ?_
  refine pT_ 20 45 29 1173407 ?_
  refine pT_ 21 46 29 3270559 ?_
  refine pT_ 22 47 29 7464863 ?_
  refine pT_ 23 48 29 15853471 ?_
  refine tS_ 5 30 (bb_ 29 15853503) (bA HT_.o HW_.o (by kernel_rfl)) hHeld ?_
  refine tS_ 11 36 (bb_ 29 15855551) (bA HT_.o HW_.o (by kernel_rfl)) hHeld ?_
  refine tS_ 17 42 (bb_ 29 15986623) (bA HT_.o HW_.o (by kernel_rfl)) hHeld ?_
  refine tS_ 24 49 (bb_ 29 32763839) (bA HT_.o HW_.o (by kernel_rfl)) hHeld ?_
  refine fB (i := 6) (N := some 31) (bb_ 29 32763903) rfl rfl (cz HT_.o (by kernel_rfl)) (by decide) (fun K hK => ?_)
  refine fj Tryz.func103 (by kernel_rfl) rfl #[.int .u32 (rd f0 (M1)), .int .u32 131072, .int .u32 524288, .int .u32 1024, .bool true] (by rfl) rfl rfl (by (try simp only [List.map_toArray, List.map_cons, List.map_nil]); first | done | (simp only [E1]; rfl) | rfl | (simp only [List.length_drop, List.length_take]; rfl)) ?_
  with_reducible refine (cX.calls (rd f0 (M1)) 131072 524288 1024 true F1 _ v4.o).mono ?_
  rintro e w' ⟨rfl, ⟨nd, rfl⟩⟩
  refine ⟨_, rfl, ?_⟩
  refine hK _ _ ⟨hHeld.1, hHeld.2.1, hHeld.2.2.1, hHeld.2.2.2⟩ (fun hHeld => ?_)
  clear hK K
  refine dH (a' := ?_) ?_ ?_
  rotate_left
  ·show Act.put _ (some 31) _ = _
   simp only [Act.put, List.setIfInBounds_toArray, List.set_cons_zero, List.set_cons_succ, bq, ct]
   rfl
  refine pT_ 12 37 29 32767999 ?_
  refine fB (i := 18) (N := some 43) (bb_ 29 33030143) rfl rfl (cz HT_.o (by kernel_rfl)) (by decide) (fun K hK => ?_)
  refine fj Tryz.func103 (by kernel_rfl) rfl #[.int .u32 (rd f0 (Q0)), .int .u32 128, .int .u32 262144, .int .u32 8, .bool true] (by rfl) rfl rfl (by (try simp only [List.map_toArray, List.map_cons, List.map_nil]); first | done | (simp only [R0]; rfl) | rfl | (simp only [List.length_drop, List.length_take]; rfl)) ?_
  with_reducible refine (cX.calls (rd f0 (Q0)) 128 262144 8 true G1 _ P5.o).mono ?_
  rintro e w' ⟨rfl, ⟨nd, rfl⟩⟩
  refine ⟨_, rfl, ?_⟩
  refine hK _ _ ⟨hHeld.1, hHeld.2.1, hHeld.2.2.1, hHeld.2.2.2⟩ (fun hHeld => ?_)
  clear hK K
  refine dH (a' := ?_) ?_ ?_
  rotate_left
  ·show Act.put _ (some 43) _ = _
   simp only [Act.put, List.setIfInBounds_toArray, List.set_cons_zero, List.set_cons_succ, bq, ct]
   rfl
  refine pT_ 19 44 29 33554431 ?_
  refine pT_ 25 50 29 67108863 ?_
  refine gR (i := 26) (N := some 51) (bb_ 29 134217727) rfl rfl (cz HT_.o (by kernel_rfl)) (by decide) (fun K hK => ?_)
  refine nR (w1 := ?_) (v := ?_) (by rfl) rfl ?_ ?_
  rotate_left 2
  ·go_simp
   constructor
   ·rfl
   ·rfl
  refine hK _ _ ?_
  clear hK K
  refine dH (a' := ?_) ?_ ?_
  rotate_left
  ·show Act.put _ (some 51) _ = _
   simp only [Act.put, List.setIfInBounds_toArray, List.set_cons_zero, List.set_cons_succ, bq, ct]
   rfl
  refine gR (i := 27) (N := some 52) (bb_ 29 268435455) rfl rfl (cz HT_.o (by kernel_rfl)) (by decide) (fun K hK => ?_)
  refine vy (Kd.int .u32) (w0 := w) w.heap.size (by rfl) (.tmp 25) (.tmp 51) 86 69 (.int .u32 0) 4 rfl Tryz.underlying86 nZ rfl (by decide) (by omega) (.slice (some H0) f0.length E4) f0 ((((((F1 + (rd f0 (L0))) % 4294967296) + G1) % 4294967296) + (rd f0 (M0))) % 4294967296) [.int .u32 ((((((F1 + (rd f0 (L0))) % 4294967296) + G1) % 4294967296) + (rd f0 (M0))) % 4294967296)] (fun _ => True) (fun _ => False) rfl rfl ?aP (fun _ hk => hk.elim) ?aF ?aO ?aB ?aS ?aL ?_
  (case aP => exact rfl)
  (case aB => exact (hB_))
  (case aF => exact (fun _ _ => trivial))
  (case aO => exact (rR_ e0.o))
  (case aS => exact (au (hB_)))
  (case aL => have := c3.o; omega)
  intro X6 F7 ho hb hg hat
  rw [← e3.o] at ho
  obtain ⟨HB, n3⟩ := b_ (hb) <| c_ (ho)
  clear ho hb hg hat
  refine hK _ _ ?_
  clear hK K
  refine dH (a' := ?_) ?_ ?_
  rotate_left
  ·show Act.put _ (some 52) _ = _
   simp only [Act.put, List.setIfInBounds_toArray, List.set_cons_zero, List.set_cons_succ, bq, ct]
   rfl
  refine pT_ 28 7 29 536870911 ?_
  refine fq (dA HT_.o (by kernel_rfl)) ?_
  try go_wp2
  go_roundg k1
  case measure => have := L1.o; omega
  case rel => exact ⟨(D4), (wrap64 (G0 + 1)), f0_, H', ⟨by have := L1.o; omega⟩, ⟨rR_ n3.o⟩, ⟨hB_⟩⟩
 rw [Ga c6] at H
 have y4 := za c6
 clear c6
 obtain ⟨p3, g1⟩ : ∃ y_ : List Int, y_ = (([] : List Int)) := ⟨_, rfl⟩
 first | replace H := yb_ g1 H | rw [← g1] at H
 have q3 := c_ g1
 clear g1
 obtain ⟨T5, H⟩ := iN_ H
 have r3 := c_ T5
 clear T5
 obtain ⟨J4, i1⟩ : ∃ y_ : List Int, y_ = (p3 ++ l0) := ⟨_, rfl⟩
 first | replace H := yb_ i1 H | rw [← i1] at H
 have t3 := c_ i1
 clear i1
 have H' := c_ H
 clear H
 go_wp2_with (first | (refine li_ 53 .u32 69 q3 fun K4 G7 ho_ hb => ?_; obtain ⟨e0, v3, HB⟩ := n_ (di e0) <| n_ (lR_ (dm ho_ e0)) <| sB_) | ((refine cH (b := .append) (xs := #[.tmp 53, .tmp 54]) rfl ?_); at_builtin; refine vv (Kd.int .u32) (w0 := w) w.heap.size rfl (.tmp 53) (.tmp 54) 86 69 (.int .u32 0) 4 rfl Tryz.underlying86 nZ rfl (by decide) (by omega) K4 p3 l0 _ _ _ (fun k_ => some k_ ≠ (u7 : Value).ownBlock) (fun _ => False) rfl rfl ?aO ?aR (fun _ _ h => h) (fun _ h => h.elim) ?aF ?aB ?aS ?aL ?_; (case aR => exact cR_ (vf J5.o HB.o)); (case aB => exact (hB_)); (case aF => exact (fun k_ hk => Kd.fresh' (vE (rR_ e0.o)) k_ hk)); (case aO => exact (by refine kR_ ?_; exact va v3.o (fun _ hk => hk.2))); (case aS => exact (au (hB_))); (case aL => have := r3.o; omega); intro H1 H7 ho hb hg hat; rw [← t3.o] at ho; obtain ⟨e0, HB, w3⟩ := b_ (vx (ok := (fun _ => True)) (rR_ e0.o) hg hat) <| b_ (hb) <| c_ (ho); clear ho hb hg hat))
 go_loopg [10] k1 (fun kq Y6 w' => ∃ (a0 : List Int) (j0 : Int), Y6 = .int .i64 j0 ∧ aa (ac.l1 kq l0 l1 f0 a0 j0 = some r) ∧ aa (kq ≤ k1) ∧ aa (Kd.R (Kd.int .u32) 69 w' w.heap.size (fun k_ => some k_ ≠ (H1 : Value).ownBlock) u7 f0) ∧ aa (Kd.R (Kd.int .u32) 69 w' w.heap.size (fun k_ => some k_ ≠ (u7 : Value).ownBlock) H1 a0) ∧ aa (Below w.heap.size w w'))
 case atStart => exact ⟨(J4), (0), f0_, H', ⟨Ca _⟩, ⟨by refine kR_ ?_; exact va e0.o (fun _ hk => hk.2)⟩, ⟨rR_ w3.o⟩, ⟨hB_⟩⟩
 clear H'
 obtain ⟨a0, j0, rfl, HA, V2, e0, b0, HB⟩ := hrel
 rcases gk with _ | k2
 ·exact absurd HA.o (by simp [ac.l1])
 have H := HA.o
 clear HA
 simp only [ac.l1] at H
 by_cases X2 : j0 < 64
 rotate_left
 ·rw [Ga X2] at H
  have y3 := za X2
  clear X2
  obtain ⟨L4, j1⟩ : ∃ y_ : List Int, y_ = (([] : List Int)) := ⟨_, rfl⟩
  first | replace H := yb_ j1 H | rw [← j1] at H
  have z3 := c_ j1
  clear j1
  have H' := c_ H
  clear H
  go_wp2_with (first | (refine li_ 146 .u32 69 z3 fun Z6 I7 ho_ hb => ?_; obtain ⟨e0, b0, A3, HB⟩ := n_ (di e0) <| n_ (di b0) <| n_ (lR_ (dm (dm ho_ e0) b0)) <| sB_))
  go_loopg [17, 18] k2 (fun kq U5 c7 w' => ∃ (T0 : List Int) (k0 : Int), c7 = .int .i64 k0 ∧ aa (ac.l3 kq l0 a0 T0 k0 = some r) ∧ aa (kq ≤ k2) ∧ aa (Kd.R (Kd.int .u32) 69 w' w.heap.size (fun k_ => some k_ ≠ (U5 : Value).ownBlock) H1 a0) ∧ aa (Kd.R (Kd.int .u32) 69 w' w.heap.size (fun k_ => some k_ ≠ (H1 : Value).ownBlock) U5 T0) ∧ aa (Below w.heap.size w w'))
  case atStart => exact ⟨(L4), (0), f0_, H', ⟨Ca _⟩, ⟨by refine kR_ ?_; exact va b0.o (fun _ hk => hk.2)⟩, ⟨by refine kR_ ?_; exact va A3.o (fun _ hk => hk.2)⟩, ⟨hB_⟩⟩
  clear H'
  obtain ⟨T0, k0, rfl, HA, Y1, b0, U0, HB⟩ := hrel
  rcases gk with _ | k3
  ·exact absurd HA.o (by simp [ac.l3])
  have H := HA.o
  clear HA
  simp only [ac.l3] at H
  by_cases Y2 : k0 < 8
  rotate_left
  ·rw [Ga Y2] at H
   have B3 := za Y2
   clear Y2
   obtain rfl := Ba H
   go_wp2
   go_ret
   exact ⟨_, f1_, by refine kR_ ?_; exact va U0.o (fun _ hk => trivial), hB_⟩
  rw [Fa Y2] at H
  have B3 := ya Y2
  clear Y2
  obtain ⟨V5, H⟩ := iD_ H
  obtain ⟨W5, H⟩ := iD_ H
  obtain ⟨X5, H⟩ := iD_ H
  obtain ⟨Y5, H⟩ := iN_ H
  have C3 := c_ Y5
  clear Y5
  obtain ⟨M4, m1⟩ : ∃ y_ : List Int, y_ = (T0 ++ [((rd l0 k0) + (rd a0 k0)) % 4294967296]) := ⟨_, rfl⟩
  first | replace H := yb_ m1 H | rw [← m1] at H
  have D3 := c_ m1
  clear m1
  have H' := c_ H
  clear H
  try go_wp2
  obtain ⟨b0, U0, HB⟩ := b_ (vl b0.o) <| b_ (vl U0.o) <| c_ (bx HB.o)
  have Z1 : 0 ≤ (k0 : Int) := oD_
  have b2 : k0 < (l0.length : Int) := oD_
  obtain ⟨E3, N4, I0⟩ := uZ J5.o k0 Z1 b2
  have I1 := I0
  cases N4
  replace I0 := hc_ I0
  replace Z1 := Aa Z1
  replace b2 := Aa b2
  obtain ⟨e7, O4, F3⟩ := uY b0.o
  (first | subst F3 | (injection F3 with f1_ f2_ f3_; have f4_ := f1_.symm; have f5_ := f3_.symm; clear f1_ f2_ f3_; subst f4_; subst f5_))
  have c2 : 0 ≤ (k0 : Int) := oD_
  have f2 : k0 < (a0.length : Int) := oD_
  obtain ⟨N1, P4, n1⟩ := uZ (uX b0.o).2.2 k0 c2 f2
  cases P4
  replace c2 := Aa c2
  replace f2 := Aa f2
  refine ej (n := 13) (S := fun w' => w'.cell? (E3.add (k0).toNat) = some (.int .u32 (rd l0 k0)) ∧ w'.cell? (N1.add (k0).toNat) = some (.int .u32 (rd a0 k0))) (ds := [10, 11]) (bb_ 13 0) (by kernel_rfl) rfl rfl ⟨(hc_ I1), n1⟩ (fun hHeld => ?_); refine cK ac.tab25 ac.bits25 (fun HT_ HW_ => ?_)
  generalize wr.drew = J7 at b0 U0 HB I0 n1 hHeld ⊢
  refine pT_ 0 151 13 1 ?_
  refine pT_ 1 152 13 3 ?_
  refine pT_ 2 153 13 7 ?_
  refine pT_ 3 154 13 15 ?_
  refine pT_ 5 156 13 47 ?_
  refine pT_ 6 157 13 111 ?_
  refine pT_ 7 158 13 239 ?_
  refine tS_ 4 155 (bb_ 13 255) (bA HT_.o HW_.o (by kernel_rfl)) hHeld ?_
  refine tS_ 8 159 (bb_ 13 511) (bA HT_.o HW_.o (by kernel_rfl)) hHeld ?_
  refine pT_ 9 160 13 1023 ?_
  refine gR (i := 10) (N := some 161) (bb_ 13 2047) rfl rfl (cz HT_.o (by kernel_rfl)) (by decide) (fun K hK => ?_)
  refine nR (w1 := ?_) (v := ?_) (by rfl) rfl ?_ ?_
  rotate_left 2
  ·go_simp
   constructor
   ·rfl
   ·rfl
  refine hK _ _ ?_
  clear hK K
  refine dH (a' := ?_) ?_ ?_
  rotate_left
  ·show Act.put _ (some 161) _ = _
   simp only [Act.put, List.setIfInBounds_toArray, List.set_cons_zero, List.set_cons_succ, bq, ct]
   rfl
  refine gR (i := 11) (N := some 162) (bb_ 13 4095) rfl rfl (cz HT_.o (by kernel_rfl)) (by decide) (fun K hK => ?_)
  refine vy (Kd.int .u32) (w0 := w) w.heap.size (by rfl) (.tmp 151) (.tmp 161) 86 69 (.int .u32 0) 4 rfl Tryz.underlying86 nZ rfl (by decide) (by omega) u17 T0 (((rd l0 k0) + (rd a0 k0)) % 4294967296) [.int .u32 (((rd l0 k0) + (rd a0 k0)) % 4294967296)] (fun k_ => some k_ ≠ (.slice (some N1) a0.length O4 : Value).ownBlock) (fun _ => False) rfl rfl ?aP (fun _ hk => hk.elim) ?aF ?aO ?aB ?aS ?aL ?_
  (case aP => exact rfl)
  (case aB => exact (hB_))
  (case aF => exact (fun k_ hk => Kd.fresh' (vE (rR_ b0.o)) k_ hk))
  (case aO => exact (rR_ U0.o))
  (case aS => exact (au (hB_)))
  (case aL => have := C3.o; omega)
  intro i7 K7 ho hb hg hat
  rw [← D3.o] at ho
  obtain ⟨b0, HB, G3⟩ := b_ (vx (ok := (fun _ => True)) (by refine kR_ ?_; exact va b0.o (fun _ hk => ⟨trivial, hk⟩)) hg hat) <| b_ (hb) <| c_ (ho)
  clear ho hb hg hat
  refine hK _ _ ?_
  clear hK K
  refine dH (a' := ?_) ?_ ?_
  rotate_left
  ·show Act.put _ (some 162) _ = _
   simp only [Act.put, List.setIfInBounds_toArray, List.set_cons_zero, List.set_cons_succ, bq, ct]
   rfl
  refine pT_ 12 17 13 8191 ?_
  refine fq (dA HT_.o (by kernel_rfl)) ?_
  try go_wp2
  go_roundg k3
  case measure => have := L1.o; have := V2.o; have := Y1.o; omega
  case rel => exact ⟨(M4), (wrap64 (k0 + 1)), f0_, H', ⟨by have := L1.o; have := V2.o; have := Y1.o; omega⟩, ⟨by refine kR_ ?_; exact va b0.o (fun _ hk => hk.2)⟩, ⟨rR_ G3.o⟩, ⟨hB_⟩⟩
 rw [Fa X2] at H
 have y3 := ya X2
 clear X2
 obtain ⟨Z5, H⟩ := iN_ H
 have b6 := ya Z5
 have e6 : decide (4 < a0.length) = true := ya (by omega)
 clear Z5
 obtain ⟨f6, H⟩ := iN_ H
 have g6 := ya f6
 have i6 : decide (5 < a0.length) = true := ya (by omega)
 clear f6
 obtain ⟨n6, H⟩ := iN_ H
 have q6 := ya n6
 have v6 : decide (6 < a0.length) = true := ya (by omega)
 clear n6
 obtain ⟨w6, H⟩ := iN_ H
 have y6 := ya w6
 have z6 : decide (7 < a0.length) = true := ya (by omega)
 clear w6
 obtain ⟨B1, k7, H⟩ := bN_ H
 obtain ⟨A6, H⟩ := iD_ H
 obtain ⟨B6, H⟩ := iD_ H
 obtain ⟨C6, H⟩ := iD_ H
 obtain ⟨D6, H⟩ := iN_ H
 have E6 := ya D6
 have F6 : decide (0 < a0.length) = true := ya (by omega)
 clear D6
 obtain ⟨G6, H⟩ := iN_ H
 have H6 := ya G6
 have I6 : decide (1 < a0.length) = true := ya (by omega)
 clear G6
 obtain ⟨J6, H⟩ := iN_ H
 have K6 := ya J6
 have L6 : decide (2 < a0.length) = true := ya (by omega)
 clear J6
 obtain ⟨g2, l7, H⟩ := bN_ H
 have H' := c_ H
 clear H
 obtain ⟨n7, K0, Q4⟩ := uY b0.o
 subst Q4
 have i2 : 0 ≤ (4 : Int) := (by omega)
 have j2 : 4 < (a0.length : Int) := oD_
 obtain ⟨d0, R4, N0⟩ := uZ (uX b0.o).2.2 4 i2 j2
 cases R4
 (try simp only [show (4 : Int).toNat = 4 from rfl, Nat.reduceMul, Nat.reduceEqDiff, Go.Addr.add, ↓reduceIte] at N0)
 have qi137 : (4 < a0.length) = True := Aa (by omega)
 (try rw [show ((4 : Int)).toNat = 4 from rfl] at N0)
 replace i2 := Aa i2
 replace j2 := Aa j2
 try go_wp2
 obtain ⟨e0, b0, HB⟩ := b_ (vl e0.o) <| b_ (vl b0.o) <| c_ (bx HB.o)
 have m2 : 0 ≤ (5 : Int) := (by omega)
 have n2 : 5 < (a0.length : Int) := oD_
 obtain ⟨H3, S4, r0⟩ := uZ (uX b0.o).2.2 5 m2 n2
 obtain rfl : d0 = H3 := (by injection S4)
 (try simp only [show (5 : Int).toNat = 5 from rfl, Nat.reduceMul, Nat.reduceEqDiff, Go.Addr.add, ↓reduceIte] at r0)
 have qi138 : (5 < a0.length) = True := Aa (by omega)
 (try rw [show ((5 : Int)).toNat = 5 from rfl] at r0)
 replace m2 := Aa m2
 replace n2 := Aa n2
 have p2 : 0 ≤ (6 : Int) := (by omega)
 have q2 : 6 < (a0.length : Int) := oD_
 obtain ⟨I3, T4, v0⟩ := uZ (uX b0.o).2.2 6 p2 q2
 obtain rfl : d0 = I3 := (by injection T4)
 (try simp only [show (6 : Int).toNat = 6 from rfl, Nat.reduceMul, Nat.reduceEqDiff, Go.Addr.add, ↓reduceIte] at v0)
 have qi139 : (6 < a0.length) = True := Aa (by omega)
 (try rw [show ((6 : Int)).toNat = 6 from rfl] at v0)
 replace p2 := Aa p2
 replace q2 := Aa q2
 refine ej (n := 13) (S := fun w' => w'.cell? ⟨d0.block, d0.off + 5, none⟩ = some (.int .u32 (rd a0 5)) ∧ w'.cell? ⟨d0.block, d0.off + 6, none⟩ = some (.int .u32 (rd a0 6))) (ds := []) (bb_ 13 0) (by kernel_rfl) rfl rfl ⟨r0, v0⟩ (fun hHeld => ?_); refine cK ac.tab11 ac.bits11 (fun HT_ HW_ => ?_)
 generalize wr.drew = w7 at e0 b0 HB r0 v0 hHeld ⊢
 refine pT_ 0 63 13 1 ?_
 refine pT_ 1 64 13 3 ?_
 refine pT_ 2 65 13 7 ?_
 refine pT_ 5 68 13 39 ?_
 refine pT_ 6 69 13 103 ?_
 refine pT_ 7 70 13 231 ?_
 refine pT_ 8 71 13 487 ?_
 refine tS_ 3 66 (bb_ 13 495) (bA HT_.o HW_.o (by kernel_rfl)) hHeld ?_
 refine pT_ 4 67 13 511 ?_
 refine tS_ 9 72 (bb_ 13 1023) (bA HT_.o HW_.o (by kernel_rfl)) hHeld ?_
 refine pT_ 10 73 13 2047 ?_
 refine pT_ 11 74 13 4095 ?_
 refine pT_ 12 12 13 8191 ?_
 refine fq (dA HT_.o (by kernel_rfl)) ?_
 try go_wp2
 obtain ⟨e0, b0, HB⟩ := b_ (vl e0.o) <| b_ (vl b0.o) <| c_ (bx HB.o)
 have r2 : 0 ≤ (7 : Int) := (by omega)
 have t2 : 7 < (a0.length : Int) := oD_
 obtain ⟨J3, U4, x0⟩ := uZ (uX b0.o).2.2 7 r2 t2
 obtain rfl : d0 = J3 := (by injection U4)
 (try simp only [show (7 : Int).toNat = 7 from rfl, Nat.reduceMul, Nat.reduceEqDiff, Go.Addr.add, ↓reduceIte] at x0)
 have qi140 : (7 < a0.length) = True := Aa (by omega)
 (try rw [show ((7 : Int)).toNat = 7 from rfl] at x0)
 replace r2 := Aa r2
 replace t2 := Aa t2
 have v2 : 0 ≤ (j0 : Int) := oD_
 have y2 : j0 < (l1.length : Int) := oD_
 obtain ⟨K3, V4, J0⟩ := uZ S6.o j0 v2 y2
 have p1 := J0
 cases V4
 replace J0 := hc_ J0
 replace v2 := Aa v2
 replace y2 := Aa y2
 obtain ⟨y7, J1, L3⟩ := uY e0.o
 (first | subst L3 | (injection L3 with f1_ f2_ f3_; have f4_ := f1_.symm; have f5_ := f3_.symm; clear f1_ f2_ f3_; subst f4_; subst f5_))
 have z2 : 0 ≤ (j0 : Int) := oD_
 have A2 : j0 < (f0.length : Int) := oD_
 obtain ⟨V0, W4, q1⟩ := uZ (uX e0.o).2.2 j0 z2 A2
 cases W4
 replace z2 := Aa z2
 replace A2 := Aa A2
 refine ej (n := 19) (S := fun w' => w'.cell? ⟨d0.block, d0.off + 7, none⟩ = some (.int .u32 (rd a0 7)) ∧ w'.cell? (K3.add (j0).toNat) = some (.int .u32 (rd l1 j0)) ∧ w'.cell? (V0.add (j0).toNat) = some (.int .u32 (rd f0 j0))) (ds := []) (bb_ 19 0) (by kernel_rfl) rfl rfl ⟨x0, (hc_ p1), q1⟩ (fun hHeld => ?_); refine cK ac.tab12 ac.bits12 (fun HT_ HW_ => ?_)
 generalize w7.drew = B2 at e0 b0 HB x0 J0 q1 hHeld ⊢
 refine pT_ 0 75 19 1 ?_
 refine pT_ 1 76 19 3 ?_
 refine pT_ 3 78 19 11 ?_
 refine pT_ 6 81 19 75 ?_
 refine pT_ 8 83 19 331 ?_
 refine pT_ 9 84 19 843 ?_
 refine pT_ 10 85 19 1867 ?_
 refine pT_ 13 88 19 10059 ?_
 refine pT_ 14 89 19 26443 ?_
 refine pT_ 15 90 19 59211 ?_
 refine tS_ 2 77 (bb_ 19 59215) (bA HT_.o HW_.o (by kernel_rfl)) hHeld ?_
 refine tS_ 11 86 (bb_ 19 61263) (bA HT_.o HW_.o (by kernel_rfl)) hHeld ?_
 refine tS_ 16 91 (bb_ 19 126799) (bA HT_.o HW_.o (by kernel_rfl)) hHeld ?_
 refine fB (i := 4) (N := some 79) (bb_ 19 126815) rfl rfl (cz HT_.o (by kernel_rfl)) (by decide) (fun K hK => ?_)
 refine fj Tryz.func103 (by kernel_rfl) rfl #[.int .u32 (rd a0 4), .int .u32 64, .int .u32 2048, .int .u32 33554432, .bool false] (by rfl) rfl rfl aM_ ?_
 with_reducible refine (cX.calls (rd a0 4) 64 2048 33554432 false B1 _ k7.o).mono ?_
 rintro e w' ⟨rfl, ⟨nd, rfl⟩⟩
 refine ⟨_, rfl, ?_⟩
 refine hK _ _ ⟨hHeld.1, (hc_ p1), hHeld.2.2⟩ (fun hHeld => ?_)
 clear hK K
 refine dH (a' := ?_) ?_ ?_
 rotate_left
 ·show Act.put _ (some 79) _ = _
  simp only [Act.put, List.setIfInBounds_toArray, List.set_cons_zero, List.set_cons_succ, bq, ct]
  rfl
 refine pT_ 5 80 19 126847 ?_
 refine pT_ 7 82 19 126975 ?_
 refine pT_ 12 87 19 131071 ?_
 refine pT_ 17 92 19 262143 ?_
 refine pT_ 18 13 19 524287 ?_
 refine fq (dA HT_.o (by kernel_rfl)) ?_
 try go_wp2
 (try (rw [dh B2]; generalize hq_ : World.drewN B2 _ = B2; obtain ⟨e0, b0, HB⟩ := b_ (show Kd.R (Kd.int .u32) 69 B2 w.heap.size (fun k_ => some k_ ≠ (.slice (some d0) a0.length K0 : Value).ownBlock) (.slice (some V0) f0.length J1) f0 from by rw [← hq_]; exact (rR_ e0.o)) <| b_ (show Kd.R (Kd.int .u32) 69 B2 w.heap.size (fun k_ => some k_ ≠ (.slice (some V0) f0.length J1 : Value).ownBlock) (.slice (some d0) a0.length K0) a0 from by rw [← hq_]; exact (rR_ b0.o)) <| c_ (show Below w.heap.size w B2 from by rw [← hq_]; exact (hB_))))
 obtain ⟨e0, b0, HB⟩ := b_ (vl e0.o) <| b_ (vl b0.o) <| c_ (bx HB.o)
 have C2 : 0 ≤ (0 : Int) := (by omega)
 have D2 : 0 < (a0.length : Int) := oD_
 obtain ⟨M3, X4, y0⟩ := uZ (uX b0.o).2.2 0 C2 D2
 obtain rfl : d0 = M3 := (by injection X4)
 have qi144 : (0 < a0.length) = True := Aa (by omega)
 (try rw [show ((0 : Int)).toNat = 0 from rfl] at y0)
 (try rw [Addr.add_zero'] at y0)
 replace C2 := Aa C2
 replace D2 := Aa D2
 have E2 : 0 ≤ (1 : Int) := (by omega)
 have F2 : 1 < (a0.length : Int) := oD_
 obtain ⟨N3, Y4, B0⟩ := uZ (uX b0.o).2.2 1 E2 F2
 obtain rfl : d0 = N3 := (by injection Y4)
 (try simp only [show (1 : Int).toNat = 1 from rfl, Nat.reduceMul, Nat.reduceEqDiff, Go.Addr.add, ↓reduceIte] at B0)
 have qi145 : (1 < a0.length) = True := Aa (by omega)
 (try rw [show ((1 : Int)).toNat = 1 from rfl] at B0)
 replace E2 := Aa E2
 replace F2 := Aa F2
 have G2 : 0 ≤ (0 : Int) := (by omega)
 have H2 : 0 < (a0.length : Int) := oD_
 obtain ⟨O3, Z4, C0⟩ := uZ (uX b0.o).2.2 0 G2 H2
 obtain rfl : d0 = O3 := (by injection Z4)
 have qi146 : (0 < a0.length) = True := Aa (by omega)
 (try rw [show ((0 : Int)).toNat = 0 from rfl] at C0)
 (try rw [Addr.add_zero'] at C0)
 replace G2 := Aa G2
 replace H2 := Aa H2
 have I2 : 0 ≤ (2 : Int) := (by omega)
 have J2 : 2 < (a0.length : Int) := oD_
 obtain ⟨P3, c5, D0⟩ := uZ (uX b0.o).2.2 2 I2 J2
 obtain rfl : d0 = P3 := (by injection c5)
 (try simp only [show (2 : Int).toNat = 2 from rfl, Nat.reduceMul, Nat.reduceEqDiff, Go.Addr.add, ↓reduceIte] at D0)
 have qi147 : (2 < a0.length) = True := Aa (by omega)
 (try rw [show ((2 : Int)).toNat = 2 from rfl] at D0)
 replace I2 := Aa I2
 replace J2 := Aa J2
 have K2 : 0 ≤ (1 : Int) := (by omega)
 have L2 : 1 < (a0.length : Int) := oD_
 obtain ⟨Q3, e5, E0⟩ := uZ (uX b0.o).2.2 1 K2 L2
 obtain rfl : d0 = Q3 := (by injection e5)
 (try simp only [show (1 : Int).toNat = 1 from rfl, Nat.reduceMul, Nat.reduceEqDiff, Go.Addr.add, ↓reduceIte] at E0)
 have qi148 : (1 < a0.length) = True := Aa (by omega)
 (try rw [show ((1 : Int)).toNat = 1 from rfl] at E0)
 replace K2 := Aa K2
 replace L2 := Aa L2
 have M2 : 0 ≤ (2 : Int) := (by omega)
 have N2 : 2 < (a0.length : Int) := oD_
 obtain ⟨R3, f5, F0⟩ := uZ (uX b0.o).2.2 2 M2 N2
 obtain rfl : d0 = R3 := (by injection f5)
 (try simp only [show (2 : Int).toNat = 2 from rfl, Nat.reduceMul, Nat.reduceEqDiff, Go.Addr.add, ↓reduceIte] at F0)
 have qi149 : (2 < a0.length) = True := Aa (by omega)
 (try rw [show ((2 : Int)).toNat = 2 from rfl] at F0)
 replace M2 := Aa M2
 replace N2 := Aa N2
 refine ej (n := 24) (S := fun w' => w'.cell? d0 = some (.int .u32 (rd a0 0)) ∧ w'.cell? ⟨d0.block, d0.off + 1, none⟩ = some (.int .u32 (rd a0 1)) ∧ w'.cell? d0 = some (.int .u32 (rd a0 0)) ∧ w'.cell? ⟨d0.block, d0.off + 2, none⟩ = some (.int .u32 (rd a0 2)) ∧ w'.cell? ⟨d0.block, d0.off + 1, none⟩ = some (.int .u32 (rd a0 1)) ∧ w'.cell? ⟨d0.block, d0.off + 2, none⟩ = some (.int .u32 (rd a0 2))) (ds := []) (bb_ 24 0) (by kernel_rfl) rfl rfl ⟨y0, B0, C0, D0, E0, F0⟩ (fun hHeld => ?_); refine cK ac.tab13 ac.bits13 (fun HT_ HW_ => ?_)
 generalize B2.drew = L7 at e0 b0 HB y0 B0 C0 D0 E0 F0 hHeld ⊢
 refine pT_ 0 93 24 1 ?_
 refine pT_ 1 94 24 3 ?_
 refine pT_ 3 96 24 11 ?_
 refine pT_ 4 97 24 27 ?_
 refine pT_ 7 100 24 155 ?_
 refine pT_ 8 101 24 411 ?_
 refine pT_ 10 103 24 1435 ?_
 refine pT_ 11 104 24 3483 ?_
 refine pT_ 15 108 24 36251 ?_
 refine pT_ 16 109 24 101787 ?_
 refine pT_ 18 111 24 363931 ?_
 refine pT_ 19 112 24 888219 ?_
 refine tS_ 2 95 (bb_ 24 888223) (bA HT_.o HW_.o (by kernel_rfl)) hHeld ?_
 refine tS_ 5 98 (bb_ 24 888255) (bA HT_.o HW_.o (by kernel_rfl)) hHeld ?_
 refine pT_ 6 99 24 888319 ?_
 refine tS_ 9 102 (bb_ 24 888831) (bA HT_.o HW_.o (by kernel_rfl)) hHeld ?_
 refine tS_ 12 105 (bb_ 24 892927) (bA HT_.o HW_.o (by kernel_rfl)) hHeld ?_
 refine pT_ 13 106 24 901119 ?_
 refine pT_ 14 107 24 917503 ?_
 refine tS_ 17 110 (bb_ 24 1048575) (bA HT_.o HW_.o (by kernel_rfl)) hHeld ?_
 refine tS_ 20 113 (bb_ 24 2097151) (bA HT_.o HW_.o (by kernel_rfl)) hHeld ?_
 refine pT_ 21 114 24 4194303 ?_
 refine pT_ 22 115 24 8388607 ?_
 refine pT_ 23 14 24 16777215 ?_
 refine fq (dA HT_.o (by kernel_rfl)) ?_
 have O2 : 0 ≤ (0 : Int) := (by omega)
 have P2 : 0 < (a0.length : Int) := oD_
 obtain ⟨S3, i5, O0⟩ := uZ (uX b0.o).2.2 0 O2 P2
 obtain rfl : d0 = S3 := (by injection i5)
 have qi150 : (0 < a0.length) = True := Aa (by omega)
 (try rw [show ((0 : Int)).toNat = 0 from rfl] at O0)
 (try rw [Addr.add_zero'] at O0)
 replace O2 := Aa O2
 replace P2 := Aa P2
 try go_wp2_with (first | (refine gp_ (k_ 119 Tryz.func103) (cX.calls _ _ _ _ _ _ _ l7.o) fun nd => ?_))
 go_loopg [16] k2 (fun kq z7 w' => ∃ (n0 : List Int) (q0 : Int), z7 = .int .i64 q0 ∧ aa (ac.l2 kq l0 l1 f0 n0 j0 (((((((((rd a0 7) + B1) % 4294967296) + (Go.bits .xor .u32 (Go.bits .and .u32 (rd a0 4) (rd a0 5)) (Go.bits .and .u32 ((4294967295 - (rd a0 4)) % 4294967296) (rd a0 6)))) % 4294967296) + (rd l1 j0)) % 4294967296) + (rd f0 j0)) % 4294967296) ((g2 + (Go.bits .xor .u32 (Go.bits .xor .u32 (Go.bits .and .u32 (rd a0 0) (rd a0 1)) (Go.bits .and .u32 (rd a0 0) (rd a0 2))) (Go.bits .and .u32 (rd a0 1) (rd a0 2)))) % 4294967296) q0 = some r) ∧ aa (kq ≤ k2) ∧ aa (Kd.R (Kd.int .u32) 69 w' w.heap.size (fun k_ => some k_ ≠ ((.slice (some d0) a0.length K0) : Value).ownBlock) (.slice (some V0) f0.length J1) f0) ∧ aa (Kd.R (Kd.int .u32) 69 w' w.heap.size (fun k_ => some k_ ≠ ((.slice (some V0) f0.length J1) : Value).ownBlock) (.slice (some d0) a0.length K0) n0) ∧ aa (Below w.heap.size w w'))
 case atStart => exact ⟨(a0), (7), f0_, H', ⟨Ca _⟩, ⟨rR_ e0.o⟩, ⟨rR_ b0.o⟩, ⟨hB_⟩⟩
 clear H'
 obtain ⟨n0, q0, rfl, HA, Y1, e0, b0, HB⟩ := hrel
 have p0 := (uX b0.o).1
 rw [p0] at b0
 (try simp only [p0])
 (try simp only [p0] at e0)
 rcases gk with _ | k3
 ·exact absurd HA.o (by simp [ac.l2])
 have H := HA.o
 clear HA
 simp only [ac.l2] at H
 by_cases Z2 : q0 > 0
 ·rw [Fa Z2] at H
  have T3 := ya Z2
  clear Z2
  obtain ⟨W0, r1⟩ : ∃ j_ : Int, (wrap64 (q0 - 1)) = j_ := ⟨_, rfl⟩
  first | rw [r1] at H | simp only [r1] at H
  have n5 : (IntKind.i64.wrap (q0 - 1)) = W0 := (bq _).trans r1
  obtain ⟨M6, H⟩ := iD_ H
  obtain ⟨N6, H⟩ := iN_ H
  have U3 := ya N6
  (try simp only [p0] at U3)
  clear N6
  obtain ⟨O6, H⟩ := iD_ H
  obtain ⟨P6, H⟩ := iN_ H
  have V3 := ya P6
  (try simp only [p0] at V3)
  clear P6
  obtain ⟨p5, t1⟩ : ∃ y_ : List Int, y_ = (n0.set (q0 : Int).toNat (rd n0 (W0))) := ⟨_, rfl⟩
  first | replace H := yb_ t1 H | rw [← t1] at H
  have W3 := c_ t1
  clear t1
  have H' := c_ H
  clear H
  have Q2 : 0 ≤ ((W0) : Int) := oD_
  have R2 : (W0) < (n0.length : Int) := oD_
  obtain ⟨X3, q5, K1⟩ := uZ (uX b0.o).2.2 (W0) Q2 R2
  obtain rfl : d0 = X3 := (by injection q5)
  replace Q2 := Aa Q2
  replace R2 := Aa R2
  have v5 : 0 ≤ (q0 : Int) := oD_
  have y5 : (q0 : Int) < ((n0.length : Int) : Int) := oD_
  obtain ⟨go53, A7, Y3, Z3, gl53, cl53, HG53⟩ := vq b0.o (by omega)
  (first | cases Y3 | (injection Y3 with ea_ en_ ec_; (first | subst ea_ | (injection ea_ with ea_; subst ea_)); subst ec_; clear en_))
  have z5 := c_ Z3
  have GG53 := c_ HG53
  clear Z3 gl53 HG53
  (first | simp only [cj] at N0 | skip)
  (first | simp only [cj] at r0 | skip)
  (first | simp only [cj] at v0 | skip)
  (first | simp only [cj] at x0 | skip)
  (first | simp only [cj] at y0 | skip)
  (first | simp only [cj] at B0 | skip)
  (first | simp only [cj] at C0 | skip)
  (first | simp only [cj] at D0 | skip)
  (first | simp only [cj] at E0 | skip)
  (first | simp only [cj] at F0 | skip)
  (first | simp only [cj] at O0 | skip)
  (first | simp only [cj] at K1 | skip)
  obtain ⟨A5, hf53_0⟩ := vc 0 b0.o (q0 : Int) v5 y5
  replace v5 := Aa v5
  replace y5 := Aa y5
  have HP54 := vm b0.o (q0 : Int) (rd n0 (W0))
  go_wp2_with (first | ((refine cx (t := 69) (p := 133) rfl ?_); refine st_ 69 133 HP54 W3 z5 fun M7 hw hp_ hg HBn => ?_; obtain ⟨e0, b0, HB⟩ := b_ (vx (v := (.slice (some ⟨go53, 0, none⟩) n0.length K0)) (v1 := (.slice (some ⟨go53, 0, none⟩) n0.length K0)) (ok := (fun _ => True)) (by refine kR_ ?_; exact va e0.o (fun _ hk => ⟨trivial, hk⟩)) hg (.inl rfl)) <| b_ (hp_) <| c_ HBn.o; clear hg hw hp_))
  (try simp only [← p0])
  go_roundg k3
  case measure => have := L1.o; have := V2.o; have := Y1.o; omega
  case rel => exact ⟨(p5), (W0), (by first | rfl | (simp; done) | (simp only [← r1] <;> (first | rfl | simp)) | (simp [*]; done)), H', ⟨by have := L1.o; have := V2.o; have := Y1.o; omega⟩, ⟨by (try simp only [p0]); refine kR_ ?_; exact va e0.o (fun _ hk => hk.2)⟩, ⟨by (try simp only [p0]); refine kR_ ?_; exact b0.o⟩, ⟨hB_⟩⟩
 rw [Ga Z2] at H
 have T3 := za Z2
 clear Z2
 obtain ⟨Q6, H⟩ := iN_ H
 have b4 := ya Q6
 have c4 : decide (4 < n0.length) = true := ya (by omega)
 (try simp only [p0] at b4)
 (try simp only [p0] at c4)
 clear Q6
 obtain ⟨B5, y1⟩ : ∃ y_ : List Int, y_ = (n0.set (4 : Int).toNat (((rd n0 4) + (((((((((rd a0 7) + B1) % 4294967296) + (Go.bits .xor .u32 (Go.bits .and .u32 (rd a0 4) (rd a0 5)) (Go.bits .and .u32 ((4294967295 - (rd a0 4)) % 4294967296) (rd a0 6)))) % 4294967296) + (rd l1 j0)) % 4294967296) + (rd f0 j0)) % 4294967296)) % 4294967296)) := ⟨_, rfl⟩
 first | replace H := yb_ y1 H | rw [← y1] at H
 have e4 := c_ y1
 clear y1
 obtain ⟨R6, H⟩ := iN_ H
 have f4 := ya R6
 have g4 : decide (0 < n0.length) = true := ya (by omega)
 (try simp only [p0] at f4)
 (try simp only [p0] at g4)
 clear R6
 obtain ⟨C5, z1⟩ : ∃ y_ : List Int, y_ = (B5.set (0 : Int).toNat (((((((((((rd a0 7) + B1) % 4294967296) + (Go.bits .xor .u32 (Go.bits .and .u32 (rd a0 4) (rd a0 5)) (Go.bits .and .u32 ((4294967295 - (rd a0 4)) % 4294967296) (rd a0 6)))) % 4294967296) + (rd l1 j0)) % 4294967296) + (rd f0 j0)) % 4294967296) + ((g2 + (Go.bits .xor .u32 (Go.bits .xor .u32 (Go.bits .and .u32 (rd a0 0) (rd a0 1)) (Go.bits .and .u32 (rd a0 0) (rd a0 2))) (Go.bits .and .u32 (rd a0 1) (rd a0 2)))) % 4294967296)) % 4294967296)) := ⟨_, rfl⟩
 first | replace H := yb_ z1 H | rw [← z1] at H
 have i4 := c_ z1
 clear z1
 have H' := c_ H
 clear H
 have T2 : 0 ≤ (4 : Int) := (by omega)
 have U2 : 4 < (n0.length : Int) := oD_
 obtain ⟨l4, D5, P0⟩ := uZ (uX b0.o).2.2 4 T2 U2
 obtain rfl : d0 = l4 := (by injection D5)
 (try simp only [show (4 : Int).toNat = 4 from rfl, Nat.reduceMul, Nat.reduceEqDiff, Go.Addr.add, ↓reduceIte] at P0)
 have qi154 : (4 < n0.length) = True := Aa (by omega)
 (try rw [show ((4 : Int)).toNat = 4 from rfl] at P0)
 replace T2 := Aa T2
 replace U2 := Aa U2
 have E5 : 0 ≤ (4 : Int) := (by omega)
 have F5 : (4 : Int) < ((n0.length : Int) : Int) := oD_
 have qi57 : (4 < n0.length) = True := Aa (by omega)
 obtain ⟨go57, B7, n4, q4, gl57, cl57, HG57⟩ := vq b0.o (by omega)
 (first | cases n4 | (injection n4 with ea_ en_ ec_; (first | subst ea_ | (injection ea_ with ea_; subst ea_)); subst ec_; clear en_))
 have t4 := c_ q4
 have GG57 := c_ HG57
 clear q4 gl57 HG57
 (first | simp only [cj] at P0 | skip)
 obtain ⟨C1, hf57_0⟩ := vc 0 b0.o (4 : Int) E5 F5
 (try rw [show ((4 : Int)).toNat = 4 from rfl] at C1)
 (try simp only [Nat.reduceMul, Nat.zero_mul, Nat.zero_add, Nat.reduceAdd] at C1)
 (try rw [show ((4 : Int)).toNat = 4 from rfl] at hf57_0)
 (try simp only [Nat.reduceMul, Nat.zero_mul, Nat.zero_add, Nat.reduceAdd] at hf57_0)
 replace E5 := Aa E5
 replace F5 := Aa F5
 have HP60 := vm b0.o (4 : Int) (((rd n0 4) + (((((((((rd a0 7) + B1) % 4294967296) + (Go.bits .xor .u32 (Go.bits .and .u32 (rd a0 4) (rd a0 5)) (Go.bits .and .u32 ((4294967295 - (rd a0 4)) % 4294967296) (rd a0 6)))) % 4294967296) + (rd l1 j0)) % 4294967296) + (rd f0 j0)) % 4294967296)) % 4294967296)
 go_wp2_with (first | ((refine cx (t := 69) (p := 140) rfl ?_); refine st_ 69 140 HP60 e4 t4 fun N7 hw hp_ hg HBn => ?_; obtain ⟨e0, b0, HB⟩ := b_ (vx (v := (.slice (some ⟨go57, 0, none⟩) n0.length K0)) (v1 := (.slice (some ⟨go57, 0, none⟩) n0.length K0)) (ok := (fun _ => True)) (by refine kR_ ?_; exact va e0.o (fun _ hk => ⟨trivial, hk⟩)) hg (.inl rfl)) <| b_ (hp_) <| c_ HBn.o; clear hg hw hp_; have G5 : 0 ≤ (0 : Int) := (by omega); have H5 : (0 : Int) < ((n0.length : Int) : Int) := oD_; have qi59 : (0 < n0.length) = True := Aa (by omega); obtain ⟨D1, hf59_0⟩ := vc 0 b0.o (0 : Int) G5 H5; (try rw [show ((0 : Int)).toNat = 0 from rfl] at D1); (try simp only [Nat.reduceMul, Nat.zero_mul, Nat.zero_add, Nat.reduceAdd] at D1); (try rw [show ((0 : Int)).toNat = 0 from rfl] at hf59_0); (try simp only [Nat.reduceMul, Nat.zero_mul, Nat.zero_add, Nat.reduceAdd] at hf59_0); replace G5 := Aa G5; replace H5 := Aa H5; obtain ⟨O1, hz62_⟩ := vc 0 b0.o (0 : Int) (by omega) oD_; (try simp only [Int.reduceToNat, Int.toNat_zero, Int.toNat_ofNat, Nat.reduceMul, Nat.zero_mul, Nat.zero_add] at O1 hz62_); (try rw [show ((0 : Int)).toNat = 0 from rfl] at O1); (try rw [show ((0 : Int)).toNat = 0 from rfl] at hz62_); have HP62 := vm b0.o (0 : Int) (((((((((((rd a0 7) + B1) % 4294967296) + (Go.bits .xor .u32 (Go.bits .and .u32 (rd a0 4) (rd a0 5)) (Go.bits .and .u32 ((4294967295 - (rd a0 4)) % 4294967296) (rd a0 6)))) % 4294967296) + (rd l1 j0)) % 4294967296) + (rd f0 j0)) % 4294967296) + ((g2 + (Go.bits .xor .u32 (Go.bits .xor .u32 (Go.bits .and .u32 (rd a0 0) (rd a0 1)) (Go.bits .and .u32 (rd a0 0) (rd a0 2))) (Go.bits .and .u32 (rd a0 1) (rd a0 2)))) % 4294967296)) % 4294967296)) | ((refine cx (t := 69) (p := 145) rfl ?_); refine st_ 69 145 HP62 i4 t4 fun O7 hw hp_ hg HBn => ?_; obtain ⟨e0, b0, HB⟩ := b_ (vx (v := (.slice (some ⟨go57, 0, none⟩) n0.length K0)) (v1 := (.slice (some ⟨go57, 0, none⟩) n0.length K0)) (ok := (fun _ => True)) (rR_ e0.o) hg (.inl rfl)) <| b_ (hp_) <| c_ HBn.o; clear hg hw hp_))
 (try simp only [← p0])
 go_roundg k3
 case measure => have := L1.o; have := V2.o; have := Y1.o; omega
 case rel => exact ⟨(C5), (wrap64 (j0 + 1)), f0_, H', ⟨by have := L1.o; have := V2.o; have := Y1.o; omega⟩, ⟨by (try simp only [p0]); refine kR_ ?_; exact va e0.o (fun _ hk => hk.2)⟩, ⟨by (try simp only [p0]); refine kR_ ?_; exact b0.o⟩, ⟨hB_⟩⟩
def bk.l0 : Nat → List Int → List Int → Int → Option (ByteArray)
 | 0, _, _, _ => none
 | k + 1, x0, x3, x4 => if x4 < (x0.length : Int) then (if 0 ≤ x4 then ((some (([((Int.tdiv (rd x0 x4) 16777216) % 4294967296) % 256, ((Int.tdiv (rd x0 x4) 65536) % 4294967296) % 256, ((Int.tdiv (rd x0 x4) 256) % 4294967296) % 256, (Int.tmod (rd x0 x4) 256) % 256] : List Int) : List Int)).bind fun y169 => (if x3.length + y169.length < 140737488355328 then (bk.l0 k x0 (x3 ++ y169) (wrap64 (x4 + 1))) else (none))) else (none)) else (some (strOfNums x3))
def bk.f (k : Nat) (l0 : List Int) : Option (ByteArray) := bk.l0 k l0 (([] : List Int)) 0
theorem bk.mono_l : ∀ k, (∀ y0 y1 y2, LeO (bk.l0 k y0 y1 y2) (bk.l0 (k + 1) y0 y1 y2))
 | 0 => fun _ _ _ r h => by simp [bk.l0] at h
 | k + 1 => by
  have ih0 := bk.mono_l k
  intros; unfold bk.l0; exact o1_ ih0
theorem bk.mono : ∀ a0 k, LeO (bk.f k a0) (bk.f (k + 1) a0) := by
 intro a0 k
 have ih0 := bk.mono_l k
 unfold bk.f
 exact o1_ ih0
theorem bk.calls (k : Nat) (A0 : Option Addr) (c0 : Nat) (l0 : List Int) (r : ByteArray) (w : World) (hr0 : Kd.C (Kd.int .u32) w A0 l0.length l0) (hc0 : l0.length ≤ c0) (h : bk.f k l0 = some r) :
  Calls Tryz.prog 80 #[.slice A0 l0.length c0] w fun e w' => e = .returned (.string r) ∧ Below w.heap.size w w' := by
 have O0 := c_ hr0
 have T0 := c_ hc0
 clear hr0 hc0
 have HB := c_ (Da w.heap.size w)
 delta bk.f at h
 have H := h
 clear h
 obtain ⟨D0, d0⟩ : ∃ y_ : List Int, y_ = (([] : List Int)) := ⟨_, rfl⟩
 first | replace H := yb_ d0 H | rw [← d0] at H
 have v0 := c_ d0
 clear d0
 have H' := c_ H
 clear H
 go_enter Tryz.func80, Tryz.ntmps80
 go_wp2_with (first | (refine lj_ 6 .u8 5 v0 fun P0 w2 x0 HB => ?_))
 go_loopg [3, 4] k (fun kq v3 v4 w' => ∃ (k0 : List Int) (a0 : Int), v4 = .int .i64 a0 ∧ aa (bk.l0 kq l0 k0 a0 = some r) ∧ aa (kq ≤ k) ∧ aa (Kd.R (Kd.int .u8) 5 w' w.heap.size (fun _ => True) v3 k0) ∧ aa (Below w.heap.size w w'))
 case atStart => exact ⟨(D0), (0), f0_, H', ⟨Ca _⟩, ⟨rR_ x0.o⟩, ⟨hB_⟩⟩
 clear H'
 obtain ⟨k0, a0, rfl, HA, L0, n0, HB⟩ := hrel
 rcases gk with _ | k1
 ·exact absurd HA.o (by simp [bk.l0])
 have H := HA.o
 clear HA
 simp only [bk.l0] at H
 by_cases c4 : a0 < (l0.length : Int)
 rotate_left
 ·rw [Ga c4] at H
  have E0 := za c4
  clear c4
  obtain rfl := Ba H
  have M0 := dS (P := Tryz.prog) Tryz.underlying22 Tryz.underlying5 Tryz.underlying9 (vn n0.o)
  go_wp2
  go_ret
  exact ⟨f1_, hB_⟩
 rw [Fa c4] at H
 have E0 := ya c4
 clear c4
 obtain ⟨Q0, H⟩ := iD_ H
 obtain ⟨p0, e0⟩ : ∃ y_ : List Int, y_ = (([((Int.tdiv (rd l0 a0) 16777216) % 4294967296) % 256, ((Int.tdiv (rd l0 a0) 65536) % 4294967296) % 256, ((Int.tdiv (rd l0 a0) 256) % 4294967296) % 256, (Int.tmod (rd l0 a0) 256) % 256] : List Int)) := ⟨_, rfl⟩
 first | replace H := yb_ e0 H | rw [← e0] at H
 have y0 := c_ e0
 clear e0
 obtain ⟨c6, H⟩ := iN_ H
 have F0 := c_ c6
 clear c6
 obtain ⟨G0, f0⟩ : ∃ y_ : List Int, y_ = (k0 ++ p0) := ⟨_, rfl⟩
 first | replace H := yb_ f0 H | rw [← f0] at H
 have B0 := c_ f0
 clear f0
 have H' := c_ H
 clear H
 have q0 : 0 ≤ (a0 : Int) := oD_
 have r0 : a0 < (l0.length : Int) := oD_
 obtain ⟨N0, H0, j0⟩ := uZ O0.o a0 q0 r0
 cases H0
 replace j0 := hc_ j0
 replace q0 := Aa q0
 replace r0 := Aa r0
 go_wp2_with (first | (refine li_ 32 .u8 5 y0 fun R0 w7 ho_ hb => ?_; obtain ⟨n0, b0, HB⟩ := n_ (di n0) <| n_ (lR_ (dm ho_ n0)) <| sB_; obtain ⟨I0, J0, K0⟩ := uY b0.o; subst K0) | ((refine cH (b := .append) (xs := #[.tmp 17, .tmp 32]) rfl ?_); at_builtin; refine vv (Kd.int .u8) (w0 := w) w.heap.size rfl (.tmp 17) (.tmp 32) 22 5 (.int .u8 0) 1 rfl Tryz.underlying22 jq rfl (by decide) (by omega) u3 k0 p0 _ _ _ (fun k_ => some k_ ≠ (.slice I0 p0.length J0 : Value).ownBlock) (fun _ => False) rfl rfl ?aO ?aR (fun _ _ h => h) (fun _ h => h.elim) ?aF ?aB ?aS ?aL ?_; (case aR => exact cR_ (uX b0.o).2.2); (case aB => exact (hB_)); (case aF => exact (fun k_ hk => Kd.fresh' (vE (rR_ b0.o)) k_ hk)); (case aO => exact (by refine kR_ ?_; exact va n0.o (fun _ hk => hk.2))); (case aS => exact (au (hB_))); (case aL => have := F0.o; omega); intro S0 w9 ho hb hg hat; rw [← B0.o] at ho; obtain ⟨b0, HB, C0⟩ := b_ (vx (ok := (fun _ => True)) (rR_ b0.o) hg hat) <| b_ (hb) <| c_ (ho); clear ho hb hg hat))
 go_roundg k1
 case measure => have := L0.o; omega
 case rel => exact ⟨(G0), (wrap64 (a0 + 1)), f0_, H', ⟨by have := L0.o; omega⟩, ⟨by refine kR_ ?_; exact va C0.o (fun _ hk => trivial)⟩, ⟨hB_⟩⟩
-- GIVEN: function 41 (dq)
end Go.Proofs.YtmdlpmddljbkeaaGreatDoor.P
