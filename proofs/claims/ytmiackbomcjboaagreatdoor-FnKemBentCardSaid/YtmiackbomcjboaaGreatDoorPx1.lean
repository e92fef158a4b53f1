-- printed texts of this session, regrouped
import Derived.Test.YtmiackbomcjboaaGreatDoorMWF
import Derived.Test.YtmiackbomcjboaaGreatDoorMW8
namespace Go.Proofs.YtmiackbomcjboaaGreatDoor.P
open Go.RowKit YtmiackbomcjboaaGreatDoorW.PrintWords YtmiackbomcjboaaGreatDoorW.PrintLast YtmiackbomcjboaaGreatDoorW.PrintMore
open Kd
attribute [local go_sem] d9 eg eV eU dK dL d8 eh
set_option linter.unusedVariables false
set_option linter.unusedSimpArgs false
set_option maxHeartbeats 8000000
set_option maxRecDepth 100000
def ga.f (l0 : List Int) : Option (Bool) := some (decide ((l0.length : Int) > 1048576))
theorem ga.calls (A0 : Option Addr) (c0 : Nat) (l0 : List Int) (r : Bool) (w : World) (hr0 : Kd.C (Kd.int .u8) w A0 l0.length l0) (hc0 : l0.length ≤ c0) (h : ga.f l0 = some r) :
  Calls Tryz.prog 4 #[.slice A0 l0.length c0] w fun e w' => e = .returned (.bool r) ∧ cx w w' := by
 have a0 := c_ hr0
 have b0 := c_ hc0
 clear hr0 hc0
 delta ga.f at h
 have H := h
 clear h
 obtain rfl := Ba H
 go_enter Tryz.func4, Tryz.ntmps4
 go_wp2
 go_ret
 exact ⟨f0_, d0_⟩
/-- A state of type 65 at block g of W; what its slices lead to came in by w0. -/
def bx (w0 W : World) (g : Nat) (f0 : List Int) (f1 : Int) (f2 : Int) : Prop := ∃ A0 c0, W.heap[g]? = some (.cells #[.slice A0 f0.length c0, .int .i64 f1, .int .i64 f2] 65 (0, 0)) ∧ w0.heap.size ≤ g ∧ Kd.C (Kd.int .u8) w0 A0 f0.length f0
theorem bx.grown {w0 W : World} {g : Nat} {f0 : List Int} {f1 : Int} {f2 : Int} {W1 : World} {row : Option Nat} (h : bx w0 W g f0 f1 f2) (hw : W.grownBy W1 row) (hne : some g ≠ row) : bx w0 W1 g f0 f1 f2 := by
 obtain ⟨A0, c0, hb, hg, hr0⟩ := h
 exact ⟨A0, c0, fF hb hw hne, hg, hr0⟩
theorem bx.own_neN {w0 W : World} {g : Nat} {f0 : List Int} {f1 : Int} {f2 : Int} {α : Type} {d : Kd α} {e : Nat} {base : Nat} {ok : Nat → Prop} {v : Value} {xs : List α} (h : bx w0 W g f0 f1 f2) (ho : Kd.N d e W base ok v xs) (ht : e ≠ 65) : some g ≠ v.ownBlock := by
 obtain ⟨A0, c0, hb, hg, hr0⟩ := h
 exact xW ho hb ht
theorem bx.fresh {w0 W : World} {g : Nat} {f0 : List Int} {f1 : Int} {f2 : Int} (h : bx w0 W g f0 f1 f2) : ∀ k, W.heap.size ≤ k → k ≠ g := by
 obtain ⟨A0, c0, hb, hg, hr0⟩ := h
 exact Kd.freshB hb
theorem bx.kept {w0 W : World} {g : Nat} {f0 : List Int} {f1 : Int} {f2 : Int} {W1 : World} {S : Nat → Prop} (h : bx w0 W g f0 f1 f2) (hk : ii W W1 S) (hne : ¬ S g) : bx w0 W1 g f0 f1 f2 := by
 obtain ⟨A0, c0, hb, hg, hr0⟩ := h
 exact ⟨A0, c0, r8 hb hk hne, hg, hr0⟩
theorem bx.below {w0 W : World} {g : Nat} {f0 : List Int} {f1 : Int} {f2 : Int} {W1 : World} (h : bx w0 W g f0 f1 f2) (hw : Below W.heap.size W W1) : bx w0 W1 g f0 f1 f2 := h.grown (mm hw none) (by simp)
theorem bx.alloc {w0 W : World} {g : Nat} {f0 : List Int} {f1 : Int} {f2 : Int} (h : bx w0 W g f0 f1 f2) (o : Obj) : bx w0 (W.alloc o) g f0 f1 f2 := h.below (co (Da _ _) o)
theorem bx.drewN {w0 W : World} {g : Nat} {f0 : List Int} {f1 : Int} {f2 : Int} (h : bx w0 W g f0 f1 f2) (m : Nat) : bx w0 (W.drewN m) g f0 f1 f2 := h
theorem bx.drew {w0 W : World} {g : Nat} {f0 : List Int} {f1 : Int} {f2 : Int} (h : bx w0 W g f0 f1 f2) : bx w0 W.drew g f0 f1 f2 := h
theorem bx.at_ {w0 W : World} {g : Nat} {f0 : List Int} {f1 : Int} {f2 : Int} {w' : World} {m : Nat} (hq : W.drewN m = w') (h : bx w0 W g f0 f1 f2) : bx w0 w' g f0 f1 f2 := by subst hq; exact bx.drewN h m
theorem bx.apart {w0 W : World} {g : Nat} {f0 : List Int} {f1 : Int} {f2 : Int} {α : Type} {d : Kd α} {e : Nat} {base : Nat} {ok : Nat → Prop} {v : Value} {xs : List α} (h : bx w0 W g f0 f1 f2) (ho : d.R e W base ok v xs) (ht : ∀ q, q ∈ e :: d.E → q ≠ 65) : d.R e W base (fun k => ok k ∧ k ≠ g) v xs := by
 obtain ⟨A0, c0, hb, hg, hr0⟩ := h
 exact vn ho hb ht
theorem bx.own_ne {w0 W : World} {g : Nat} {f0 : List Int} {f1 : Int} {f2 : Int} {α : Type} {d : Kd α} {e : Nat} {base : Nat} {ok : Nat → Prop} {v : Value} {xs : List α} (h : bx w0 W g f0 f1 f2) (ho : d.R e W base ok v xs) (ht : e ≠ 65) : some g ≠ v.ownBlock := by
 obtain ⟨A0, c0, hb, hg, hr0⟩ := h
 exact wU ho hb ht
theorem bx.apartQ {w0 W : World} {g : Nat} {f0 : List Int} {f1 : Int} {f2 : Int} {α : Type} {d : Kd α} {e : Nat} {base : Nat} {ok : Nat → Prop} {v : Value} {xs : List α} (h : bx w0 W g f0 f1 f2) (ho : d.Q e W base ok v xs) (ht : ∀ q, q ∈ e :: d.E → q ≠ 65) : d.Q e W base (fun k => ok k ∧ k ≠ g) v xs := by
 obtain ⟨A0, c0, hb, hg, hr0⟩ := h
 exact xj ho hb ht
theorem bx.own_neQ {w0 W : World} {g : Nat} {f0 : List Int} {f1 : Int} {f2 : Int} {α : Type} {d : Kd α} {e : Nat} {base : Nat} {ok : Nat → Prop} {v : Value} {xs : List α} (h : bx w0 W g f0 f1 f2) (ho : d.Q e W base ok v xs) (ht : e ≠ 65) : some g ≠ v.ownBlock := by
 obtain ⟨A0, c0, hb, hg, hr0⟩ := h
 exact xV ho hb ht
theorem bx.apartS {w0 W : World} {g : Nat} {f0 : List Int} {f1 : Int} {f2 : Int} {α : Type} {d : Kd α} {e : Nat} {base : Nat} {ok : Nat → Prop} {v : Value} {xs : List α} (h : bx w0 W g f0 f1 f2) (ho : d.S e W base ok v xs) (ht : ∀ q, q ∈ e :: d.E → q ≠ 65) : d.S e W base (fun k => ok k ∧ k ≠ g) v xs := by
 obtain ⟨A0, c0, hb, hg, hr0⟩ := h
 exact xl ho hb ht
theorem bx.own_neS {w0 W : World} {g : Nat} {f0 : List Int} {f1 : Int} {f2 : Int} {α : Type} {d : Kd α} {e : Nat} {base : Nat} {ok : Nat → Prop} {v : Value} {xs : List α} (h : bx w0 W g f0 f1 f2) (ho : d.S e W base ok v xs) (ht : e ≠ 65) : some g ≠ v.ownBlock := by
 obtain ⟨A0, c0, hb, hg, hr0⟩ := h
 exact xU ho hb ht
theorem bx.lt {w0 W : World} {g : Nat} {f0 : List Int} {f1 : Int} {f2 : Int} (h : bx w0 W g f0 f1 f2) : g < W.heap.size := by
 obtain ⟨A0, c0, hb, hg, hr0⟩ := h
 exact eO hb
theorem bx.ge {w0 W : World} {g : Nat} {f0 : List Int} {f1 : Int} {f2 : Int} (h : bx w0 W g f0 f1 f2) : w0.heap.size ≤ g := by
 obtain ⟨A0, c0, hb, hg, hr0⟩ := h
 exact hg
theorem bx.ne_blk {w0 W : World} {g : Nat} {f0 : List Int} {f1 : Int} {f2 : Int} {a : Nat} {cs : Array Value} {t : TypeId} {fr : Nat × Nat} (h : bx w0 W g f0 f1 f2) (hb2 : W.heap[a]? = some (.cells cs t fr)) (ht : t ≠ 65) : g ≠ a := by
 obtain ⟨A0, c0, hb, hg, hr0⟩ := h
 rintro rfl
 rw [hb] at hb2
 injection hb2 with hb2
 injection hb2 with _ ht2
 exact ht ht2.symm
theorem bx.far {w0 W : World} {g : Nat} {f0 : List Int} {f1 : Int} {f2 : Int} {p : Addr} (h : bx w0 W g f0 f1 f2) (hne : g ≠ p.block) (u : Value) : bx w0 (W.setCell p u) g f0 f1 f2 := by
 obtain ⟨A0, c0, hb, hg, hr0⟩ := h
 exact ⟨A0, c0, en hb hne u, hg, hr0⟩
theorem nB {W : World} {g : Nat} {A0 : Option Addr} {c0 : Nat} {f0 : List Int} {f1 : Int} {f2 : Int} (h : W.heap[g]? = some (.cells #[.slice A0 f0.length c0, .int .i64 f1, .int .i64 f2] 65 (0, 0))) : W.cell? ⟨g, 0, none⟩ = some (.slice A0 f0.length c0) := (ak h 0).trans rfl
theorem nw {W : World} {g : Nat} {A0 : Option Addr} {c0 : Nat} {f0 : List Int} {f1 : Int} {f2 : Int} (h : W.heap[g]? = some (.cells #[.slice A0 f0.length c0, .int .i64 f1, .int .i64 f2] 65 (0, 0))) : W.cell? ⟨g, 1, none⟩ = some (.int .i64 f1) := (ak h 1).trans rfl
theorem bx.set_1 {w0 W : World} {g : Nat} {f0 : List Int} {f1 : Int} {f2 : Int} (h : bx w0 W g f0 f1 f2) (x : Int) : bx w0 (W.setCell ⟨g, 1, none⟩ (.int .i64 x)) g f0 x f2 := by
 obtain ⟨A0, c0, hb, hg, hr0⟩ := h
 exact ⟨A0, c0, by simpa using ob hb 1 (.int .i64 x), hg, hr0⟩
theorem nA {W : World} {g : Nat} {A0 : Option Addr} {c0 : Nat} {f0 : List Int} {f1 : Int} {f2 : Int} (h : W.heap[g]? = some (.cells #[.slice A0 f0.length c0, .int .i64 f1, .int .i64 f2] 65 (0, 0))) : W.cell? ⟨g, 2, none⟩ = some (.int .i64 f2) := (ak h 2).trans rfl
theorem bx.set_2 {w0 W : World} {g : Nat} {f0 : List Int} {f1 : Int} {f2 : Int} (h : bx w0 W g f0 f1 f2) (x : Int) : bx w0 (W.setCell ⟨g, 2, none⟩ (.int .i64 x)) g f0 f1 x := by
 obtain ⟨A0, c0, hb, hg, hr0⟩ := h
 exact ⟨A0, c0, by simpa using ob hb 2 (.int .i64 x), hg, hr0⟩
theorem bx.new (w0 W : World) (A0 : Option Addr) (c0 : Nat) (f0 : List Int) (f1 : Int) (f2 : Int) (hB : Below w0.heap.size w0 W) (hr0 : Kd.C (Kd.int .u8) w0 A0 f0.length f0) : bx w0 (W.alloc (.cells #[.slice A0 f0.length c0, .int .i64 f1, .int .i64 f2] 65)) W.heap.size f0 f1 f2 := ⟨A0, c0, by simpa using heap_alloc_new W _, hB.size, hr0⟩
def bQ.l0 : Nat → List Int → Int → Int → Option (List Int × Int × Int)
 | 0, _, _, _ => none
 | k + 1, x0, x3, x4 => if x4 < (x0.length : Int) then (if x4 < 4000 then (if 0 ≤ x4 then (bQ.l0 k x0 (Go.bits .and .i64 (wrap64 ((wrap64 ((wrap64 (x3 * 131)) + (wrap64 (rd x0 x4)))) + 7)) 1073741823) (wrap64 (x4 + 1))) else (none)) else (some (x0, 0, x3))) else (some (x0, 0, x3))
def bQ.f (k : Nat) (l0 : List Int) : Option (List Int × Int × Int) := bQ.l0 k l0 (wrap64 (27401 + (l0.length : Int))) 0
theorem bQ.mono_l : ∀ k, (∀ y0 y1 y2, LeO (bQ.l0 k y0 y1 y2) (bQ.l0 (k + 1) y0 y1 y2))
 | 0 => fun _ _ _ r h => by simp [bQ.l0] at h
 | k + 1 => by
  have ih0 := bQ.mono_l k
  intros; unfold bQ.l0; exact o1_ ih0
theorem bQ.mono : ∀ a0 k, LeO (bQ.f k a0) (bQ.f (k + 1) a0) := by
 intro a0 k
 have ih0 := bQ.mono_l k
 unfold bQ.f
 exact o1_ ih0
theorem bQ.calls (k : Nat) (A0 : Option Addr) (c0 : Nat) (l0 : List Int) (r1 : List Int) (r2 : Int) (r3 : Int) (w0 w : World) (hB : Below w0.heap.size w0 w) (hr0 : Kd.C (Kd.int .u8) w0 A0 l0.length l0) (hc0 : l0.length ≤ c0) (h : bQ.f k l0 = some (r1, r2, r3)) :
  Calls Tryz.prog 14 #[.slice A0 l0.length c0] w fun e w' => ∃ g_ : Nat, e = .returned (.pointer (some ⟨g_, 0, none⟩)) ∧ bx w0 w' g_ r1 r2 r3 ∧ Below w0.heap.size w0 w' ∧ Below w.heap.size w w' := by
 have hu65 := Tryz.underlying65
 have t0 := c_ hr0
 have E0 := c_ hc0
 clear hr0 hc0
 have HBW := c_ (Da w.heap.size w)
 have HW0 := c_ hB.size
 have HB := c_ hB
 clear hB
 delta bQ.f at h
 have H := h
 clear h
 have H' := c_ H
 clear H
 go_enter Tryz.func14, Tryz.ntmps14
 go_wp2
 go_loopg [3, 4] k (fun kq v3 v4 w' => ∃ (b0 : Int) (a0 : Int), v3 = .int .i64 b0 ∧ v4 = .int .i64 a0 ∧ aa (bQ.l0 kq l0 b0 a0 = some (r1, r2, r3)) ∧ aa (kq ≤ k) ∧ aa (Below w.heap.size w w') ∧ aa (Below w0.heap.size w0 w'))
 case atStart => exact ⟨(wrap64 (27401 + (l0.length : Int))), (0), f0_, f0_, H', ⟨Ca _⟩, ⟨(u0_)⟩, ⟨hB_⟩⟩
 clear H'
 obtain ⟨b0, a0, rfl, rfl, HA, B0, HBW, HB⟩ := hrel
 rcases gk with _ | k1
 ·exact absurd HA.o (by simp [bQ.l0])
 have H := HA.o
 clear HA
 simp only [bQ.l0] at H
 by_cases c2 : a0 < (l0.length : Int)
 rotate_left
 ·rw [Ga c2] at H
  have v0 := za c2
  clear c2
  simp only [Option.some.injEq, Prod.mk.injEq] at H
  obtain ⟨rfl, rfl, rfl⟩ := H
  go_wp2_with (first | (refine bx_ 31 #[.slice A0 l0.length c0, .int .i64 0, .int .i64 b0] 65 fun n0 w6 hb HB p0 e0 => ?_; have HBW := c_ (du HBW.o hb)))
  go_ret
  exact ⟨_, rfl, (show bx w0 _ n0 l0 0 b0 from ⟨_, _, by refine kK_ ?_; exact p0.o, e0.o, t0.o⟩), hS_ e0.o, (u1_ e0.o)⟩
 rw [Fa c2] at H
 have v0 := ya c2
 clear c2
 by_cases c3 : a0 < 4000
 ·rw [Fa c3] at H
  have x0 := ya c3
  clear c3
  obtain ⟨D0, H⟩ := iD_ H
  have H' := c_ H
  clear H
  have j0 : 0 ≤ (a0 : Int) := oD_
  have k0 : a0 < (l0.length : Int) := oD_
  obtain ⟨C0, y0, d0⟩ := uX t0.o a0 j0 k0
  cases y0
  replace d0 := ie HB.o d0
  replace j0 := Aa j0
  replace k0 := Aa k0
  go_wp2
  go_roundg k1
  case measure => have := B0.o; omega
  case rel => exact ⟨(Go.bits .and .i64 (wrap64 ((wrap64 ((wrap64 (b0 * 131)) + (wrap64 (rd l0 a0)))) + 7)) 1073741823), (wrap64 (a0 + 1)), f0_, f0_, H', ⟨by have := B0.o; omega⟩, ⟨(u0_)⟩, ⟨hB_⟩⟩
 rw [Ga c3] at H
 have x0 := za c3
 clear c3
 simp only [Option.some.injEq, Prod.mk.injEq] at H
 obtain ⟨rfl, rfl, rfl⟩ := H
 go_wp2_with (first | (refine bx_ 31 #[.slice A0 l0.length c0, .int .i64 0, .int .i64 b0] 65 fun q0 w5 hb HB r0 f0 => ?_; have HBW := c_ (du HBW.o hb)))
 go_ret
 exact ⟨_, rfl, (show bx w0 _ q0 l0 0 b0 from ⟨_, _, by refine kK_ ?_; exact r0.o, f0.o, t0.o⟩), hS_ f0.o, (u1_ f0.o)⟩
def aZ.f (a0 : Int) (a1 : Int) (a2 : Int) : Option (Bool) := if a0 ≥ a1 then (some (decide (a0 ≤ a2))) else (some false)
theorem aZ.calls (a0 : Int) (a1 : Int) (a2 : Int) (r : Bool) (w : World) (h : aZ.f a0 a1 a2 = some r) :
  Calls Tryz.prog 87 #[.int .i64 a0, .int .i64 a1, .int .i64 a2] w fun e w' => e = .returned (.bool r) ∧ cx w w' := by
 delta aZ.f at h
 have H := h
 clear h
 by_cases c4 : a0 ≥ a1
 ·rw [Fa c4] at H
  have b0 := ya c4
  clear c4
  obtain rfl := Ba H
  go_enter Tryz.func87, Tryz.ntmps87
  go_wp2
  go_ret
  exact ⟨f0_, d0_⟩
 rw [Ga c4] at H
 have b0 := za c4
 clear c4
 obtain rfl := Ba H
 go_enter Tryz.func87, Tryz.ntmps87
 go_wp2
 go_ret
 exact ⟨f0_, d0_⟩
def da.f (a0_0 : ByteArray) (a0_1 : ByteArray) (a0_2 : Int) : Option (Bool) := if (a0_0.size : Int) = 32 then (if (a0_1.size : Int) < 64 then ((aZ.f a0_2 0 1000000000).bind fun t105 => (if t105 = true then (some ((Int.tmod a0_2 64) == (a0_1.size : Int))) else (some false))) else (some false)) else (some false)
theorem da.calls (d0 : ByteArray) (e0 : ByteArray) (j0 : Int) (r : Bool) (w : World) (h : da.f d0 e0 j0 = some r) :
  Calls Tryz.prog 79 #[.agg #[.string d0, .string e0, .int .i64 j0]] w fun e w' => e = .returned (.bool r) ∧ Below w.heap.size w w' := by
 have hu68 := Tryz.underlying68
 have HB := c_ (Da w.heap.size w)
 delta da.f at h
 have H := h
 clear h
 by_cases c2 : (d0.size : Int) = 32
 rotate_left
 ·rw [Ga c2] at H
  have E0 : ((d0.size : Int) == 32) = false := beq_eq_false_iff_ne.mpr c2
  have F0 : ((d0.size : Int) != 32) = true := bne_iff_ne.mpr c2
  obtain rfl := Ba H
  go_enter Tryz.func79, Tryz.ntmps79
  go_wp2_with (first | ((try (refine bh (by rfl) ?_; dsimp only)); refine bx_ 1 #[.string d0, .string e0, .int .i64 j0] 68 fun b0 G0 hb HB a0 f0 => ?_; have k0 : G0.cell? ⟨b0, 0, none⟩ = some (.string d0) := (ak a0.o 0).trans rfl; have n0 : G0.cell? ⟨b0, 1, none⟩ = some (.string e0) := (ak a0.o 1).trans rfl; have p0 : G0.cell? ⟨b0, 2, none⟩ = some (.int .i64 j0) := (ak a0.o 2).trans rfl; have q0 := ag a0.o 0; have r0 := ag a0.o 1; have t0 := ag a0.o 2))
  go_ret
  exact ⟨f1_, hS_ f0.o⟩
 rw [Fa c2] at H
 have E0 : ((d0.size : Int) == 32) = true := beq_iff_eq.mpr c2
 have F0 : ((d0.size : Int) != 32) = false := bne_eq_false_iff_eq.mpr c2
 clear c2
 by_cases c3 : (e0.size : Int) < 64
 rotate_left
 ·rw [Ga c3] at H
  have H0 := za c3
  have I0 : decide (e0.size < 64) = false := za (by omega)
  clear c3
  obtain rfl := Ba H
  go_enter Tryz.func79, Tryz.ntmps79
  go_wp2_with (first | ((try (refine bh (by rfl) ?_; dsimp only)); refine bx_ 1 #[.string d0, .string e0, .int .i64 j0] 68 fun b0 J0 hb HB a0 f0 => ?_; have v0 : J0.cell? ⟨b0, 0, none⟩ = some (.string d0) := (ak a0.o 0).trans rfl; have x0 : J0.cell? ⟨b0, 1, none⟩ = some (.string e0) := (ak a0.o 1).trans rfl; have y0 : J0.cell? ⟨b0, 2, none⟩ = some (.int .i64 j0) := (ak a0.o 2).trans rfl; have B0 := ag a0.o 0; have C0 := ag a0.o 1; have D0 := ag a0.o 2))
  go_ret
  exact ⟨f1_, hS_ f0.o⟩
 rw [Fa c3] at H
 have H0 := ya c3
 have I0 : decide (e0.size < 64) = true := ya (by omega)
 clear c3
 obtain ⟨K0, A4, H⟩ := bN_ H
 by_cases c5 : K0 = true
 ·subst c5
  replace H := iT_ H
  obtain rfl := Ba H
  go_enter Tryz.func79, Tryz.ntmps79
  go_wp2_with (first | ((try (refine bh (by rfl) ?_; dsimp only)); refine bx_ 1 #[.string d0, .string e0, .int .i64 j0] 68 fun b0 w6 hb HB a0 f0 => ?_; have L0 : w6.cell? ⟨b0, 0, none⟩ = some (.string d0) := (ak a0.o 0).trans rfl; have M0 : w6.cell? ⟨b0, 1, none⟩ = some (.string e0) := (ak a0.o 1).trans rfl; have N0 : w6.cell? ⟨b0, 2, none⟩ = some (.int .i64 j0) := (ak a0.o 2).trans rfl; have O0 := ag a0.o 0; have P0 := ag a0.o 1; have Q0 := ag a0.o 2) | (go_at_call 87; refine mp_ (aZ.calls _ _ _ _ _ A4.o) fun nd => ?_))
  go_ret
  exact ⟨f1_, hS_ f0.o⟩
 ·replace c5 := Ea c5
  subst c5
  replace H := iF_ H
  obtain rfl := Ba H
  go_enter Tryz.func79, Tryz.ntmps79
  go_wp2_with (first | ((try (refine bh (by rfl) ?_; dsimp only)); refine bx_ 1 #[.string d0, .string e0, .int .i64 j0] 68 fun b0 w8 hb HB a0 f0 => ?_; have R0 : w8.cell? ⟨b0, 0, none⟩ = some (.string d0) := (ak a0.o 0).trans rfl; have S0 : w8.cell? ⟨b0, 1, none⟩ = some (.string e0) := (ak a0.o 1).trans rfl; have T0 : w8.cell? ⟨b0, 2, none⟩ = some (.int .i64 j0) := (ak a0.o 2).trans rfl; have U0 := ag a0.o 0; have V0 := ag a0.o 1; have W0 := ag a0.o 2) | (go_at_call 87; refine mp_ (aZ.calls _ _ _ _ _ A4.o) fun nd => ?_))
  go_ret
  exact ⟨f1_, hS_ f0.o⟩
def eL.f (a0 : ByteArray) (a1 : Int) : Option (Int) := if 0 ≤ a1 then (if a1 < (a0.size : Int) then (if 0 ≤ (wrap64 (a1 + 1)) then (if (wrap64 (a1 + 1)) < (a0.size : Int) then (if 0 ≤ (wrap64 (a1 + 2)) then (if (wrap64 (a1 + 2)) < (a0.size : Int) then (if 0 ≤ (wrap64 (a1 + 3)) then (if (wrap64 (a1 + 3)) < (a0.size : Int) then (some ((((((((((bt a0 a1) % 4294967296) * 16777216) % 4294967296) + ((((bt a0 (wrap64 (a1 + 1))) % 4294967296) * 65536) % 4294967296)) % 4294967296) + ((((bt a0 (wrap64 (a1 + 2))) % 4294967296) * 256) % 4294967296)) % 4294967296) + ((bt a0 (wrap64 (a1 + 3))) % 4294967296)) % 4294967296)) else (none)) else (none)) else (none)) else (none)) else (none)) else (none)) else (none)) else (none)
theorem eL.calls (a0 : ByteArray) (a1 : Int) (r : Int) (w : World) (h : eL.f a0 a1 = some r) :
  Calls Tryz.prog 104 #[.string a0, .int .i64 a1] w fun e w' => e = .returned (.int .u32 r) ∧ cx w w' := by
 delta eL.f at h
 have H := h
 clear h
 obtain ⟨y0, H⟩ := iD_ H
 obtain ⟨B0, H⟩ := iD_ H
 obtain ⟨k0, e0⟩ : ∃ j_ : Int, (wrap64 (a1 + 1)) = j_ := ⟨_, rfl⟩
 first | rw [e0] at H | simp only [e0] at H
 have q0 : (IntKind.i64.wrap (a1 + 1)) = k0 := (bB _).trans e0
 obtain ⟨C0, H⟩ := iD_ H
 obtain ⟨D0, H⟩ := iD_ H
 obtain ⟨f0, b0⟩ : ∃ j_ : Int, (wrap64 (a1 + 2)) = j_ := ⟨_, rfl⟩
 first | rw [b0] at H | simp only [b0] at H
 have n0 : (IntKind.i64.wrap (a1 + 2)) = f0 := (bB _).trans b0
 obtain ⟨r0, H⟩ := iD_ H
 obtain ⟨t0, H⟩ := iD_ H
 obtain ⟨j0, d0⟩ : ∃ j_ : Int, (wrap64 (a1 + 3)) = j_ := ⟨_, rfl⟩
 first | rw [d0] at H | simp only [d0] at H
 have p0 : (IntKind.i64.wrap (a1 + 3)) = j0 := (bB _).trans d0
 obtain ⟨v0, H⟩ := iD_ H
 obtain ⟨x0, H⟩ := iD_ H
 obtain rfl := Ba H
 have p5 := Aa (oD_ : 0 ≤ (a1 : Int))
 have q5 := Aa (oD_ : a1 < (a0.size : Int))
 have G0 := cY a0 a1
 have p9 := Aa (oD_ : 0 ≤ ((k0) : Int))
 have q9 := Aa (oD_ : (k0) < (a0.size : Int))
 have H0 := cY a0 (k0)
 have I0 := Aa (oD_ : 0 ≤ ((f0) : Int))
 have J0 := Aa (oD_ : (f0) < (a0.size : Int))
 have E0 := cY a0 (f0)
 have K0 := Aa (oD_ : 0 ≤ ((j0) : Int))
 have L0 := Aa (oD_ : (j0) < (a0.size : Int))
 have F0 := cY a0 (j0)
 go_enter Tryz.func104, Tryz.ntmps104
 go_wp2
 repeat (go_quiet (fail); try go_wp2)
 go_ret
 exact ⟨by first | rfl | (simp; done) | (simp only [← e0, ← b0, ← d0] <;> (first | rfl | simp)) | (simp [*]; done), d0_⟩
def bm.l0 : Nat → ByteArray → List Int → Int → Option (List Int)
 | 0, _, _, _ => none
 | k + 1, x0, x3, x4 => if (wrap64 (x4 + 4)) ≤ (x0.size : Int) then ((eL.f x0 x4).bind fun t109 => (if x3.length < 35184372088832 then (bm.l0 k x0 (x3 ++ [t109]) (wrap64 (x4 + 4))) else (none))) else (some x3)
def bm.f (k : Nat) (a0 : ByteArray) : Option (List Int) := bm.l0 k a0 (([] : List Int)) 0
theorem bm.mono_l : ∀ k, (∀ y0 y1 y2, LeO (bm.l0 k y0 y1 y2) (bm.l0 (k + 1) y0 y1 y2))
 | 0 => fun _ _ _ r h => by simp [bm.l0] at h
 | k + 1 => by
  have ih0 := bm.mono_l k
  intros; unfold bm.l0; exact o1_ ih0
theorem bm.mono : ∀ a0 k, LeO (bm.f k a0) (bm.f (k + 1) a0) := by
 intro a0 k
 have ih0 := bm.mono_l k
 unfold bm.f
 exact o1_ ih0
theorem bm.calls (k : Nat) (a0 : ByteArray) (r : List Int) (w : World) (h : bm.f k a0 = some r) :
  Calls Tryz.prog 80 #[.string a0] w fun e w' => ∃ B0 : Value, e = .returned (B0) ∧ Kd.R (Kd.int .u32) 78 w' w.heap.size (fun _ => True) B0 r ∧ Below w.heap.size w w' := by
 have HB := c_ (Da w.heap.size w)
 delta bm.f at h
 have H := h
 clear h
 obtain ⟨r0, b0⟩ : ∃ y_ : List Int, y_ = (([] : List Int)) := ⟨_, rfl⟩
 first | replace H := yb_ b0 H | rw [← b0] at H
 have j0 := c_ b0
 clear b0
 have H' := c_ H
 clear H
 go_enter Tryz.func80, Tryz.ntmps80
 go_wp2_with (first | (refine lj_ 5 .u32 78 j0 fun D0 w2 k0 HB => ?_))
 go_loopg [3, 4] k (fun kq v3 v4 w' => ∃ (f0 : List Int) (e0 : Int), v4 = .int .i64 e0 ∧ aa (bm.l0 kq a0 f0 e0 = some r) ∧ aa (kq ≤ k) ∧ aa (Kd.R (Kd.int .u32) 78 w' w.heap.size (fun _ => True) v3 f0) ∧ aa (Below w.heap.size w w'))
 case atStart => exact ⟨(r0), (0), f0_, H', ⟨Ca _⟩, ⟨rR_ k0.o⟩, ⟨hB_⟩⟩
 clear H'
 obtain ⟨f0, e0, rfl, HA, C0, n0, HB⟩ := hrel
 rcases gk with _ | k1
 ·exact absurd HA.o (by simp [bm.l0])
 have H := HA.o
 clear HA
 simp only [bm.l0] at H
 by_cases c4 : (wrap64 (e0 + 4)) ≤ (a0.size : Int)
 ·rw [Fa c4] at H
  have t0 := ya c4
  clear c4
  obtain ⟨v0, A5, H⟩ := bN_ H
  obtain ⟨c6, H⟩ := iN_ H
  have x0 := c_ c6
  clear c6
  obtain ⟨y0, d0⟩ : ∃ y_ : List Int, y_ = (f0 ++ [v0]) := ⟨_, rfl⟩
  first | replace H := yb_ d0 H | rw [← d0] at H
  have p0 := c_ d0
  clear d0
  have H' := c_ H
  clear H
  go_wp2_with (first | (refine gp_ (k_ 16 Tryz.func104) (eL.calls _ _ _ _ A5.o) fun nd => ?_) | (refine ga_ 13 17 ?_; at_builtin; refine ap_ n0 p0 x0 Tryz.underlying89 ol fun E0 w7 q0 HB hg hat => ?_))
  go_roundg k1
  case measure => have := C0.o; omega
  case rel => exact ⟨(y0), (wrap64 (e0 + 4)), f0_, H', ⟨by have := C0.o; omega⟩, ⟨rR_ q0.o⟩, ⟨hB_⟩⟩
 rw [Ga c4] at H
 have t0 := za c4
 clear c4
 obtain rfl := Ba H
 go_wp2
 go_ret
 exact ⟨_, f1_, rR_ n0.o, hB_⟩
def ft.f  : Option (List Int) := some (([1116352408, 1899447441, 3049323471, 3921009573, 961987163, 1508970993, 2453635748, 2870763221, 3624381080, 310598401, 607225278, 1426881987, 1925078388, 2162078206, 2614888103, 3248222580, 3835390401, 4022224774, 264347078, 604807628, 770255983, 1249150122, 1555081692, 1996064986, 2554220882, 2821834349, 2952996808, 3210313671, 3336571891, 3584528711, 113926993, 338241895, 666307205, 773529912, 1294757372, 1396182291, 1695183700, 1986661051, 2177026350, 2456956037, 2730485921, 2820302411, 3259730800, 3345764771, 3516065817, 3600352804, 4094571909, 275423344, 430227734, 506948616, 659060556, 883997877, 958139571, 1322822218, 1537002063, 1747873779, 1955562222, 2024104815, 2227730452, 2361852424, 2428436474, 2756734187, 3204031479, 3329325298] : List Int))
theorem ft.calls  (r : List Int) (w : World) (h : ft.f  = some r) :
  Calls Tryz.prog 81 #[] w fun e w' => ∃ e0 : Value, e = .returned (e0) ∧ Kd.R (Kd.int .u32) 78 w' w.heap.size (fun _ => True) e0 r ∧ Below w.heap.size w w' := by
 have HB := c_ (Da w.heap.size w)
 delta ft.f at h
 have H := h
 clear h
 obtain ⟨f0, a0⟩ : ∃ y_ : List Int, y_ = (([1116352408, 1899447441, 3049323471, 3921009573, 961987163, 1508970993, 2453635748, 2870763221, 3624381080, 310598401, 607225278, 1426881987, 1925078388, 2162078206, 2614888103, 3248222580, 3835390401, 4022224774, 264347078, 604807628, 770255983, 1249150122, 1555081692, 1996064986, 2554220882, 2821834349, 2952996808, 3210313671, 3336571891, 3584528711, 113926993, 338241895, 666307205, 773529912, 1294757372, 1396182291, 1695183700, 1986661051, 2177026350, 2456956037, 2730485921, 2820302411, 3259730800, 3345764771, 3516065817, 3600352804, 4094571909, 275423344, 430227734, 506948616, 659060556, 883997877, 958139571, 1322822218, 1537002063, 1747873779, 1955562222, 2024104815, 2227730452, 2361852424, 2428436474, 2756734187, 3204031479, 3329325298] : List Int)) := ⟨_, rfl⟩
 first | replace H := yb_ a0 H | rw [← a0] at H
 have b0 := c_ a0
 clear a0
 obtain rfl := Ba H
 go_enter Tryz.func81, Tryz.ntmps81
 go_wp2_with (first | (refine lj_ 1 .u32 78 b0 fun j0 w1 d0 HB => ?_))
 go_ret
 exact ⟨_, f1_, rR_ d0.o, hB_⟩
def cV.f (a0 : Int) (a1 : Int) (a2 : Int) : Option (Int) := if a1 = 0 then (none) else (some ((((Int.tdiv a0 a1) % 4294967296) + (((Int.tmod a0 a1) * a2) % 4294967296)) % 4294967296))
theorem cV.calls (a0 : Int) (a1 : Int) (a2 : Int) (r : Int) (w : World) (h : cV.f a0 a1 a2 = some r) :
  Calls Tryz.prog 115 #[.int .u32 a0, .int .u32 a1, .int .u32 a2] w fun e w' => e = .returned (.int .u32 r) ∧ cx w w' := by
 delta cV.f at h
 have H := h
 clear h
 by_cases c4 : a1 = 0
 ·rw [Fa c4] at H
  exact absurd H (by simp)
 rw [Ga c4] at H
 have b0 : (a1 == 0) = false := beq_eq_false_iff_ne.mpr c4
 have d0 : (a1 != 0) = true := bne_iff_ne.mpr c4
 obtain rfl := Ba H
 go_enter Tryz.func115, Tryz.ntmps115
 go_wp2
 repeat (go_quiet (fail); try go_wp2)
 go_ret
 exact ⟨f0_, d0_⟩
def de.f (a0 : Int) (a1 : Int) (a2 : Int) (a3 : Int) (a4 : Bool) : Option (Int) := if a1 = 0 then (none) else ((cV.f a0 a1 ((((Int.tdiv (2147483648 : Int) a1) % 4294967296) * 2) % 4294967296)).bind fun t116 => (if a2 = 0 then (none) else ((cV.f a0 a2 ((((Int.tdiv (2147483648 : Int) a2) % 4294967296) * 2) % 4294967296)).bind fun t117 => (if a3 = 0 then (none) else (if a4 = true then (some (Go.bits .xor .u32 (Go.bits .xor .u32 t116 t117) ((Int.tdiv a0 a3) % 4294967296))) else ((cV.f a0 a3 ((((Int.tdiv (2147483648 : Int) a3) % 4294967296) * 2) % 4294967296)).bind fun t118 => (some (Go.bits .xor .u32 (Go.bits .xor .u32 t116 t117) t118))))))))
theorem de.calls (a0 : Int) (a1 : Int) (a2 : Int) (a3 : Int) (a4 : Bool) (r : Int) (w : World) (h : de.f a0 a1 a2 a3 a4 = some r) :
  Calls Tryz.prog 105 #[.int .u32 a0, .int .u32 a1, .int .u32 a2, .int .u32 a3, .bool a4] w fun e w' => e = .returned (.int .u32 r) ∧ cx w w' := by
 delta de.f at h
 have H := h
 clear h
 by_cases c6 : a1 = 0
 ·rw [Fa c6] at H
  exact absurd H (by simp)
 rw [Ga c6] at H
 have j0 : (a1 == 0) = false := beq_eq_false_iff_ne.mpr c6
 have k0 : (a1 != 0) = true := bne_iff_ne.mpr c6
 obtain ⟨n0, A7, H⟩ := bN_ H
 by_cases c8 : a2 = 0
 ·rw [Fa c8] at H
  exact absurd H (by simp)
 rw [Ga c8] at H
 have p0 : (a2 == 0) = false := beq_eq_false_iff_ne.mpr c8
 have q0 : (a2 != 0) = true := bne_iff_ne.mpr c8
 obtain ⟨r0, A9, H⟩ := bN_ H
 by_cases b0 : a3 = 0
 ·rw [Fa b0] at H
  exact absurd H (by simp)
 rw [Ga b0] at H
 have e0 : (a3 == 0) = false := beq_eq_false_iff_ne.mpr b0
 have f0 : (a3 != 0) = true := bne_iff_ne.mpr b0
 by_cases d0 : a4 = true
 ·subst d0
  replace H := iT_ H
  obtain rfl := Ba H
  go_enter Tryz.func105, Tryz.ntmps105
  go_wp2_with (first | (refine gp_ (k_ 19 Tryz.func115) (cV.calls _ _ _ _ _ A7.o) fun nd => ?_) | (refine gp_ (k_ 25 Tryz.func115) (cV.calls _ _ _ _ _ A9.o) fun nd => ?_))
  go_ret
  exact ⟨f0_, d0_⟩
 ·replace d0 := Ea d0
  subst d0
  replace H := iF_ H
  obtain ⟨t0, v0, H⟩ := bN_ H
  obtain rfl := Ba H
  go_enter Tryz.func105, Tryz.ntmps105
  go_wp2_with (first | (refine gp_ (k_ 19 Tryz.func115) (cV.calls _ _ _ _ _ A7.o) fun nd => ?_) | (refine gp_ (k_ 25 Tryz.func115) (cV.calls _ _ _ _ _ A9.o) fun nd => ?_) | (refine gp_ (k_ 36 Tryz.func115) (cV.calls _ _ _ _ _ v0.o) fun nd => ?_))
  go_ret
  exact ⟨f0_, d0_⟩
mutual
def ae.l0 : Nat → List Int → List Int → List Int → Int → Option (List Int)
 | 0, _, _, _, _ => none
 | k + 1, x0, x1, x7, x8 => if x8 < 64 then (if 0 ≤ (wrap64 (x8 - 2)) then (if (wrap64 (x8 - 2)) < (x7.length : Int) then ((de.f (rd x7 (wrap64 (x8 - 2))) 131072 524288 1024 true).bind fun t123 => (if 0 ≤ (wrap64 (x8 - 7)) then (if (wrap64 (x8 - 7)) < (x7.length : Int) then (if 0 ≤ (wrap64 (x8 - 15)) then (if (wrap64 (x8 - 15)) < (x7.length : Int) then ((de.f (rd x7 (wrap64 (x8 - 15))) 128 262144 8 true).bind fun t126 => (if 0 ≤ (wrap64 (x8 - 16)) then (if (wrap64 (x8 - 16)) < (x7.length : Int) then (if x7.length < 35184372088832 then (ae.l0 k x0 x1 (x7 ++ [(((((t123 + (rd x7 (wrap64 (x8 - 7)))) % 4294967296) + t126) % 4294967296) + (rd x7 (wrap64 (x8 - 16)))) % 4294967296]) (wrap64 (x8 + 1))) else (none)) else (none)) else (none))) else (none)) else (none)) else (none)) else (none))) else (none)) else (none)) else ((some (([] : List Int) : List Int)).bind fun y131 => (if y131.length + x0.length < 35184372088832 then (ae.l1 k x0 x1 x7 (y131 ++ x0) 0) else (none)))
def ae.l1 : Nat → List Int → List Int → List Int → List Int → Int → Option (List Int)
 | 0, _, _, _, _, _ => none
 | k + 1, x0, x1, x7, x9, x10 => if x10 < 64 then (if 4 < (x9.length : Int) then (if 5 < (x9.length : Int) then (if 6 < (x9.length : Int) then (if 7 < (x9.length : Int) then ((de.f (rd x9 4) 64 2048 33554432 false).bind fun t141 => (if 0 ≤ x10 then (if x10 < (x1.length : Int) then (if x10 < (x7.length : Int) then (if 0 < (x9.length : Int) then (if 1 < (x9.length : Int) then (if 2 < (x9.length : Int) then ((de.f (rd x9 0) 4 8192 4194304 false).bind fun t151 => (ae.l2 k x0 x1 x7 x9 x10 (((((((((rd x9 7) + t141) % 4294967296) + (Go.bits .xor .u32 (Go.bits .and .u32 (rd x9 4) (rd x9 5)) (Go.bits .and .u32 ((4294967295 - (rd x9 4)) % 4294967296) (rd x9 6)))) % 4294967296) + (rd x1 x10)) % 4294967296) + (rd x7 x10)) % 4294967296) ((t151 + (Go.bits .xor .u32 (Go.bits .xor .u32 (Go.bits .and .u32 (rd x9 0) (rd x9 1)) (Go.bits .and .u32 (rd x9 0) (rd x9 2))) (Go.bits .and .u32 (rd x9 1) (rd x9 2)))) % 4294967296) 7)) else (none)) else (none)) else (none)) else (none)) else (none)) else (none))) else (none)) else (none)) else (none)) else (none)) else (ae.l3 k x0 x9 (([] : List Int)) 0)
def ae.l2 : Nat → List Int → List Int → List Int → List Int → Int → Int → Int → Int → Option (List Int)
 | 0, _, _, _, _, _, _, _, _ => none
 | k + 1, x0, x1, x7, x9, x10, x13, x15, x16 => if x16 > 0 then (if 0 ≤ (wrap64 (x16 - 1)) then (if (wrap64 (x16 - 1)) < (x9.length : Int) then (if 0 ≤ x16 then (if x16 < (x9.length : Int) then (ae.l2 k x0 x1 x7 (x9.set (x16 : Int).toNat (rd x9 (wrap64 (x16 - 1)))) x10 x13 x15 (wrap64 (x16 - 1))) else (none)) else (none)) else (none)) else (none)) else (if 4 < (x9.length : Int) then (if 0 < (x9.length : Int) then (ae.l1 k x0 x1 x7 ((x9.set (4 : Int).toNat (((rd x9 4) + x13) % 4294967296)).set (0 : Int).toNat ((x13 + x15) % 4294967296)) (wrap64 (x10 + 1))) else (none)) else (none))
def ae.l3 : Nat → List Int → List Int → List Int → Int → Option (List Int)
 | 0, _, _, _, _ => none
 | k + 1, x0, x9, x17, x18 => if x18 < 8 then (if 0 ≤ x18 then (if x18 < (x0.length : Int) then (if x18 < (x9.length : Int) then (if x17.length < 35184372088832 then (ae.l3 k x0 x9 (x17 ++ [((rd x0 x18) + (rd x9 x18)) % 4294967296]) (wrap64 (x18 + 1))) else (none)) else (none)) else (none)) else (none)) else (some x17)
end
def ae.f (k : Nat) (l0 : List Int) (l1 : List Int) (a2 : ByteArray) : Option (List Int) := (bm.f k a2).bind fun t119 => (ae.l0 k l0 l1 t119 16)
theorem ae.mono_l : ∀ k, (∀ y0 y1 y2 y3, LeO (ae.l0 k y0 y1 y2 y3) (ae.l0 (k + 1) y0 y1 y2 y3)) ∧ (∀ y0 y1 y2 y3 y4, LeO (ae.l1 k y0 y1 y2 y3 y4) (ae.l1 (k + 1) y0 y1 y2 y3 y4)) ∧ (∀ y0 y1 y2 y3 y4 y5 y6 y7, LeO (ae.l2 k y0 y1 y2 y3 y4 y5 y6 y7) (ae.l2 (k + 1) y0 y1 y2 y3 y4 y5 y6 y7)) ∧ (∀ y0 y1 y2 y3, LeO (ae.l3 k y0 y1 y2 y3) (ae.l3 (k + 1) y0 y1 y2 y3))
 | 0 => ⟨fun _ _ _ _ r h => by simp [ae.l0] at h, fun _ _ _ _ _ r h => by simp [ae.l1] at h, fun _ _ _ _ _ _ _ _ r h => by simp [ae.l2] at h, fun _ _ _ _ r h => by simp [ae.l3] at h⟩
 | k + 1 => by
  obtain ⟨ih0, ih1, ih2, ih3⟩ := ae.mono_l k
  refine ⟨?_, ?_, ?_, ?_⟩ <;> (intros; (first | unfold ae.l0 | unfold ae.l1 | unfold ae.l2 | unfold ae.l3); exact o5_ ih0 ih1 ih2 ih3 bm.mono)
theorem ae.mono : ∀ a0 a1 a2 k, LeO (ae.f k a0 a1 a2) (ae.f (k + 1) a0 a1 a2) := by
 intro a0 a1 a2 k
 obtain ⟨ih0, ih1, ih2, ih3⟩ := ae.mono_l k
 unfold ae.f
 exact o5_ ih0 ih1 ih2 ih3 bm.mono
def ae.T5 : Bool × List (List Nat × List Nat) := (true, [([], []), ([], []), ([], []), ([2], [2]), ([1, 3], [1, 3]), ([4], [4]), ([5], [5]), ([], []), ([], []), ([8], [8]), ([7, 9], [7, 9]), ([10], [10]), ([6, 11], [6, 11]), ([], []), ([], []), ([14], [14]), ([13, 15], [13, 15]), ([16], [16]), ([17, 6], [17]), ([12, 18], [12, 18]), ([], []), ([], []), ([21], [21]), ([20, 22], [20, 22]), ([23], [23]), ([19, 24], [19, 24]), ([25], [25]), ([0, 26, 18], [0, 26]), ([27, 27, 0, 1, 2, 3, 4, 5, 6, 7, 8, 9, 10, 11, 12, 13, 14, 15, 16, 17, 18, 19, 20, 21, 22, 23, 24, 25, 26, 27], [0, 1, 7, 13, 20, 27])])
def ae.B5 : List Nat := [0, 0, 0, 4, 14, 30, 62, 0, 0, 256, 896, 1920, 4094, 0, 0, 16384, 57344, 122880, 254078, 524286, 0, 0, 2097152, 7340032, 15728640, 33554430, 67108862, 134217727, 268435455]
theorem ae.tab5 : eH .any (fJ Tryz.f82 5) = ae.T5 := by kernel_rfl
theorem ae.bits5 : dw ae.T5.2 ae.B5 = true := by kernel_rfl
def ae.T11 : Bool × List (List Nat × List Nat) := (true, [([], []), ([], []), ([1], [1]), ([2], [2]), ([0, 3], [0, 3]), ([], []), ([5], [5]), ([], []), ([7], [7]), ([8], [8]), ([6, 9], [6, 9]), ([4, 10], [4, 10]), ([11, 0, 1, 2, 3, 4, 5, 6, 7, 8, 9, 10, 11], [11])])
def ae.B11 : List Nat := [0, 0, 2, 6, 15, 0, 32, 0, 128, 384, 992, 2047, 4095]
theorem ae.tab11 : eH .any (fJ Tryz.f82 11) = ae.T11 := by kernel_rfl
theorem ae.bits11 : dw ae.T11.2 ae.B11 = true := by kernel_rfl
def ae.T12 : Bool × List (List Nat × List Nat) := (true, [([], []), ([0], [0]), ([1], [1]), ([], []), ([3], [3]), ([2, 4], [2, 4]), ([], []), ([5, 6], [5, 6]), ([], []), ([], []), ([8, 9], [8, 9]), ([10], [10]), ([7, 11], [7, 11]), ([], []), ([], []), ([13, 14], [13, 14]), ([15], [15]), ([12, 16], [12, 16]), ([17, 4, 0, 1, 2, 3, 4, 5, 6, 7, 8, 9, 10, 11, 12, 13, 14, 15, 16, 17], [17])])
def ae.B12 : List Nat := [0, 1, 3, 0, 8, 31, 0, 127, 0, 0, 768, 1792, 4095, 0, 0, 24576, 57344, 131071, 262143]
theorem ae.tab12 : eH .any (fJ Tryz.f82 12) = ae.T12 := by kernel_rfl
theorem ae.bits12 : dw ae.T12.2 ae.B12 = true := by kernel_rfl
def ae.T13 : Bool × List (List Nat × List Nat) := (true, [([], []), ([0], [0]), ([1], [1]), ([], []), ([3], [3]), ([4], [4]), ([2, 5], [2, 5]), ([], []), ([7], [7]), ([8], [8]), ([], []), ([10], [10]), ([11], [11]), ([9, 12], [9, 12]), ([6, 13], [6, 13]), ([], []), ([15], [15]), ([16], [16]), ([], []), ([18], [18]), ([19], [19]), ([17, 20], [17, 20]), ([14, 21], [14, 21]), ([22, 0, 1, 2, 3, 4, 5, 6, 7, 8, 9, 10, 11, 12, 13, 14, 15, 16, 17, 18, 19, 20, 21, 22], [22])])
def ae.B13 : List Nat := [0, 1, 3, 0, 8, 24, 63, 0, 128, 384, 0, 1024, 3072, 8064, 16383, 0, 32768, 98304, 0, 262144, 786432, 2064384, 4194303, 8388607]
theorem ae.tab13 : eH .any (fJ Tryz.f82 13) = ae.T13 := by kernel_rfl
theorem ae.bits13 : dw ae.T13.2 ae.B13 = true := by kernel_rfl
def ae.T25 : Bool × List (List Nat × List Nat) := (true, [([], []), ([], []), ([], []), ([1, 2], [1, 2]), ([3], [3]), ([], []), ([], []), ([5, 6], [5, 6]), ([7], [7]), ([4, 8], [4, 8]), ([9], [9]), ([0, 10], [0, 10]), ([11, 11, 0, 1, 2, 3, 4, 5, 6, 7, 8, 9, 10, 11], [0, 11])])
def ae.B25 : List Nat := [0, 0, 0, 6, 14, 0, 0, 96, 224, 510, 1022, 2047, 4095]
theorem ae.tab25 : eH .any (fJ Tryz.f82 25) = ae.T25 := by kernel_rfl
theorem ae.bits25 : dw ae.T25.2 ae.B25 = true := by kernel_rfl
theorem ae.calls (k : Nat) (A0 : Option Addr) (c0 : Nat) (l0 : List Int) (A1 : Option Addr) (c1 : Nat) (l1 : List Int) (a2 : ByteArray) (r : List Int) (w : World) (hr0 : Kd.C (Kd.int .u32) w A0 l0.length l0) (hc0 : l0.length ≤ c0) (hr1 : Kd.C (Kd.int .u32) w A1 l1.length l1) (hc1 : l1.length ≤ c1) (h : ae.f k l0 l1 a2 = some r) :
  Calls Tryz.prog 82 #[.slice A0 l0.length c0, .slice A1 l1.length c1, .string a2] w fun e w' => ∃ E5 : Value, e = .returned (E5) ∧ Kd.R (Kd.int .u32) 78 w' w.heap.size (fun _ => True) E5 r ∧ Below w.heap.size w w' := by
 have F5 := c_ hr0
 have w7 := c_ hc0
 clear hr0 hc0
 have N6 := c_ hr1
 have y7 := c_ hc1
 clear hr1 hc1
 have HB := c_ (Da w.heap.size w)
 delta ae.f at h
 have H := h
 clear h
 obtain ⟨t4, A4, H⟩ := bN_ H
 have H' := c_ H
 clear H
 go_enter Tryz.func82, Tryz.ntmps82
 go_wp2_with (first | (refine gR_ (k_ 20 Tryz.func80) (bm.calls _ _ _ _ A4.o) fun O6 w5 ho_ hb => ?_; obtain ⟨Y2, HB⟩ := n_ (lR_ ho_) <| sB_))
 go_loopg [7, 8] k (fun kq v7 v8 w' => ∃ (f0 : List Int) (F0 : Int), v8 = .int .i64 F0 ∧ aa (ae.l0 kq l0 l1 f0 F0 = some r) ∧ aa (kq ≤ k) ∧ aa (Kd.R (Kd.int .u32) 78 w' w.heap.size (fun _ => True) v7 f0) ∧ aa (Below w.heap.size w w'))
 case atStart => exact ⟨(t4), (16), f0_, H', ⟨Ca _⟩, ⟨rR_ Y2.o⟩, ⟨hB_⟩⟩
 clear H'
 obtain ⟨f0, F0, rfl, HA, J1, e0, HB⟩ := hrel
 rcases gk with _ | k1
 ·exact absurd HA.o (by simp [ae.l0])
 have H := HA.o
 clear HA
 simp only [ae.l0] at H
 by_cases c6 : F0 < 64
 ·rw [Fa c6] at H
  have v4 := ya c6
  clear c6
  obtain ⟨K1, C1⟩ : ∃ j_ : Int, (wrap64 (F0 - 2)) = j_ := ⟨_, rfl⟩
  first | rw [C1] at H | simp only [C1] at H
  have G5 : (IntKind.i64.wrap (F0 - 2)) = K1 := (bB _).trans C1
  obtain ⟨P6, H⟩ := iD_ H
  obtain ⟨Q6, H⟩ := iD_ H
  obtain ⟨D1, q4, H⟩ := bN_ H
  obtain ⟨K0, W0⟩ : ∃ j_ : Int, (wrap64 (F0 - 7)) = j_ := ⟨_, rfl⟩
  first | rw [W0] at H | simp only [W0] at H
  (try rw [W0] at q4)
  have w4 : (IntKind.i64.wrap (F0 - 7)) = K0 := (bB _).trans W0
  obtain ⟨H5, H⟩ := iD_ H
  obtain ⟨I5, H⟩ := iD_ H
  obtain ⟨P0, Q0⟩ : ∃ j_ : Int, (wrap64 (F0 - 15)) = j_ := ⟨_, rfl⟩
  first | rw [Q0] at H | simp only [Q0] at H
  (try rw [Q0] at q4)
  have y4 : (IntKind.i64.wrap (F0 - 15)) = P0 := (bB _).trans Q0
  obtain ⟨J5, H⟩ := iD_ H
  obtain ⟨K5, H⟩ := iD_ H
  obtain ⟨E1, L5, H⟩ := bN_ H
  obtain ⟨L0, R0⟩ : ∃ j_ : Int, (wrap64 (F0 - 16)) = j_ := ⟨_, rfl⟩
  first | rw [R0] at H | simp only [R0] at H
  (try rw [R0] at q4)
  (try rw [R0] at L5)
  have z4 : (IntKind.i64.wrap (F0 - 16)) = L0 := (bB _).trans R0
  obtain ⟨M5, H⟩ := iD_ H
  obtain ⟨N5, H⟩ := iD_ H
  obtain ⟨O5, H⟩ := iN_ H
  have Z2 := c_ O5
  clear O5
  obtain ⟨B4, X0⟩ : ∃ y_ : List Int, y_ = (f0 ++ [(((((D1 + (rd f0 (K0))) % 4294967296) + E1) % 4294967296) + (rd f0 (L0))) % 4294967296]) := ⟨_, rfl⟩
  first | replace H := yb_ X0 H | rw [← X0] at H
  have b3 := c_ X0
  clear X0
  have H' := c_ H
  clear H
  try go_wp2
  obtain ⟨e0, HB⟩ := b_ (vh e0.o) <| c_ (bE HB.o)
  obtain ⟨R6, C4, c3⟩ := uV e0.o
  (first | subst c3 | (injection c3 with f1_ f2_ f3_; have f4_ := f1_.symm; have f5_ := f3_.symm; clear f1_ f2_ f3_; subst f4_; subst f5_))
  have N1 : 0 ≤ ((K1) : Int) := oD_
  have O1 : (K1) < (f0.length : Int) := oD_
  obtain ⟨G0, D4, Y0⟩ := uX (uU e0.o).2.2 (K1) N1 O1
  cases D4
  replace N1 := Aa N1
  replace O1 := Aa O1
  have P1 : 0 ≤ ((K0) : Int) := oD_
  have Q1 : (K0) < (f0.length : Int) := oD_
  obtain ⟨e3, E4, Z0⟩ := uX (uU e0.o).2.2 (K0) P1 Q1
  obtain rfl : G0 = e3 := (by injection E4)
  replace P1 := Aa P1
  replace Q1 := Aa Q1
  have R1 : 0 ≤ ((P0) : Int) := oD_
  have S1 : (P0) < (f0.length : Int) := oD_
  obtain ⟨f3, F4, b1⟩ := uX (uU e0.o).2.2 (P0) R1 S1
  obtain rfl : G0 = f3 := (by injection F4)
  replace R1 := Aa R1
  replace S1 := Aa S1
  have T1 : 0 ≤ ((L0) : Int) := oD_
  have U1 : (L0) < (f0.length : Int) := oD_
  obtain ⟨g3, G4, d1⟩ := uX (uU e0.o).2.2 (L0) T1 U1
  obtain rfl : G0 = g3 := (by injection G4)
  replace T1 := Aa T1
  replace U1 := Aa U1
  refine eI (n := 29) (S := fun w' => w'.cell? (G0.add ((K1)).toNat) = some (.int .u32 (rd f0 (K1))) ∧ w'.cell? (G0.add ((K0)).toNat) = some (.int .u32 (rd f0 (K0))) ∧ w'.cell? (G0.add ((P0)).toNat) = some (.int .u32 (rd f0 (P0))) ∧ w'.cell? (G0.add ((L0)).toNat) = some (.int .u32 (rd f0 (L0)))) (ds := [26, 27]) (bb_ 29 0) (by kernel_rfl) rfl rfl ⟨Y0, Z0, b1, d1⟩ (fun hHeld => ?_); refine cW ae.tab5 ae.bits5 (fun HT_ HW_ => ?_)
  generalize wr.drew = z7 at e0 HB Y0 Z0 b1 d1 hHeld ⊢
  refine pT_ 0 25 29 1 ?_
  refine pT_ 1 26 29 3 ?_
  refine pT_ 2 27 29 7 ?_
  refine pT_ 3 28 29 15 ?_
  refine pT_ 4 29 29 31 ?_
  refine pT_ 7 32 29 159 ?_
  refine pT_ 8 33 29 415 ?_
  refine pT_ 9 34 29 927 ?_
  refine pT_ 10 35 29 1951 ?_
  refine pT_ 13 38 29 10143 ?_
  refine pT_ 14 39 29 26527 ?_
  refine pT_ 15 40 29 59295 ?_
  refine pT_ 16 41 29 124831 ?_
  refine pT_ 20 45 29 1173407 ?_
  refine pT_ 21 46 29 3270559 ?_
  refine pT_ 22 47 29 7464863 ?_
  refine pT_ 23 48 29 15853471 ?_
  refine tS_ 5 30 (bb_ 29 15853503) (bF HT_.o HW_.o (by kernel_rfl)) hHeld ?_
  refine tS_ 11 36 (bb_ 29 15855551) (bF HT_.o HW_.o (by kernel_rfl)) hHeld ?_
  refine tS_ 17 42 (bb_ 29 15986623) (bF HT_.o HW_.o (by kernel_rfl)) hHeld ?_
  refine tS_ 24 49 (bb_ 29 32763839) (bF HT_.o HW_.o (by kernel_rfl)) hHeld ?_
  refine gh (i := 6) (N := some 31) (bb_ 29 32763903) rfl rfl (cO HT_.o (by kernel_rfl)) (by decide) (fun K hK => ?_)
  refine fX Tryz.func105 (by kernel_rfl) rfl #[.int .u32 (rd f0 (K1)), .int .u32 131072, .int .u32 524288, .int .u32 1024, .bool true] (by rfl) rfl rfl (by (try simp only [List.map_toArray, List.map_cons, List.map_nil]); first | done | (simp only [C1]; rfl) | rfl | (simp only [List.length_drop, List.length_take]; rfl)) ?_
  with_reducible refine (de.calls (rd f0 (K1)) 131072 524288 1024 true D1 _ q4.o).mono ?_
  rintro e w' ⟨rfl, ⟨nd, rfl⟩⟩
  refine ⟨_, rfl, ?_⟩
  refine hK _ _ ⟨hHeld.1, hHeld.2.1, hHeld.2.2.1, hHeld.2.2.2⟩ (fun hHeld => ?_)
  clear hK K
  refine er (a' := ?_) ?_ ?_
  rotate_left
  ·show Act.put _ (some 31) _ = _
   simp only [Act.put, List.setIfInBounds_toArray, List.set_cons_zero, List.set_cons_succ, bB, cG]
   rfl
  refine pT_ 12 37 29 32767999 ?_
  refine gh (i := 18) (N := some 43) (bb_ 29 33030143) rfl rfl (cO HT_.o (by kernel_rfl)) (by decide) (fun K hK => ?_)
  refine fX Tryz.func105 (by kernel_rfl) rfl #[.int .u32 (rd f0 (P0)), .int .u32 128, .int .u32 262144, .int .u32 8, .bool true] (by rfl) rfl rfl (by (try simp only [List.map_toArray, List.map_cons, List.map_nil]); first | done | (simp only [Q0]; rfl) | rfl | (simp only [List.length_drop, List.length_take]; rfl)) ?_
  with_reducible refine (de.calls (rd f0 (P0)) 128 262144 8 true E1 _ L5.o).mono ?_
  rintro e w' ⟨rfl, ⟨nd, rfl⟩⟩
  refine ⟨_, rfl, ?_⟩
  refine hK _ _ ⟨hHeld.1, hHeld.2.1, hHeld.2.2.1, hHeld.2.2.2⟩ (fun hHeld => ?_)
  clear hK K
  refine er (a' := ?_) ?_ ?_
  rotate_left
  ·show Act.put _ (some 43) _ = _
   simp only [Act.put, List.setIfInBounds_toArray, List.set_cons_zero, List.set_cons_succ, bB, cG]
   rfl
  refine pT_ 19 44 29 33554431 ?_
  refine pT_ 25 50 29 67108863 ?_
  refine hZ (i := 26) (N := some 51) (bb_ 29 134217727) rfl rfl (cO HT_.o (by kernel_rfl)) (by decide) (fun K hK => ?_)
  refine nR (w1 := ?_) (v := ?_) (by rfl) rfl ?_ ?_
  rotate_left 2
  ·go_simp
   constructor
   ·rfl
   ·rfl
  refine hK _ _ ?_
  clear hK K
  refine er (a' := ?_) ?_ ?_
  rotate_left
  ·show Act.put _ (some 51) _ = _
   simp only [Act.put, List.setIfInBounds_toArray, List.set_cons_zero, List.set_cons_succ, bB, cG]
   rfl
  refine hZ (i := 27) (N := some 52) (bb_ 29 268435455) rfl rfl (cO HT_.o (by kernel_rfl)) (by decide) (fun K hK => ?_)
  refine vz (Kd.int .u32) (w0 := w) w.heap.size (by rfl) (.tmp 25) (.tmp 51) 89 78 (.int .u32 0) 4 rfl Tryz.underlying89 ol rfl (by decide) (by omega) (.slice (some G0) f0.length C4) f0 ((((((D1 + (rd f0 (K0))) % 4294967296) + E1) % 4294967296) + (rd f0 (L0))) % 4294967296) [.int .u32 ((((((D1 + (rd f0 (K0))) % 4294967296) + E1) % 4294967296) + (rd f0 (L0))) % 4294967296)] (fun _ => True) (fun _ => False) rfl rfl ?aP (fun _ hk => hk.elim) ?aF ?aO ?aB ?aS ?aL ?_
  (case aP => exact rfl)
  (case aB => exact (hB_))
  (case aF => exact (fun _ _ => trivial))
  (case aO => exact (rR_ e0.o))
  (case aS => exact (av (hB_)))
  (case aL => have := Z2.o; omega)
  intro S6 A7 ho hb hg hat
  rw [← b3.o] at ho
  obtain ⟨HB, i3⟩ := b_ (hb) <| c_ (ho)
  clear ho hb hg hat
  refine hK _ _ ?_
  clear hK K
  refine er (a' := ?_) ?_ ?_
  rotate_left
  ·show Act.put _ (some 52) _ = _
   simp only [Act.put, List.setIfInBounds_toArray, List.set_cons_zero, List.set_cons_succ, bB, cG]
   rfl
  refine pT_ 28 7 29 536870911 ?_
  refine fK (dN HT_.o (by kernel_rfl)) ?_
  try go_wp2
  go_roundg k1
  case measure => have := J1.o; omega
  case rel => exact ⟨(B4), (wrap64 (F0 + 1)), f0_, H', ⟨by have := J1.o; omega⟩, ⟨rR_ i3.o⟩, ⟨hB_⟩⟩
 rw [Ga c6] at H
 have v4 := za c6
 clear c6
 obtain ⟨m3, e1⟩ : ∃ y_ : List Int, y_ = (([] : List Int)) := ⟨_, rfl⟩
 first | replace H := yb_ e1 H | rw [← e1] at H
 have n3 := c_ e1
 clear e1
 obtain ⟨P5, H⟩ := iN_ H
 have p3 := c_ P5
 clear P5
 obtain ⟨H4, f1⟩ : ∃ y_ : List Int, y_ = (m3 ++ l0) := ⟨_, rfl⟩
 first | replace H := yb_ f1 H | rw [← f1] at H
 have q3 := c_ f1
 clear f1
 have H' := c_ H
 clear H
 go_wp2_with (first | (refine li_ 53 .u32 78 n3 fun I4 B7 ho_ hb => ?_; obtain ⟨e0, r3, HB⟩ := n_ (cJ e0) <| n_ (lR_ (cN ho_ e0)) <| sB_) | ((refine cr (b := .append) (xs := #[.tmp 53, .tmp 54]) rfl ?_); at_builtin; refine vt (Kd.int .u32) (w0 := w) w.heap.size rfl (.tmp 53) (.tmp 54) 89 78 (.int .u32 0) 4 rfl Tryz.underlying89 ol rfl (by decide) (by omega) I4 m3 l0 _ _ _ (fun k_ => some k_ ≠ (u7 : Value).ownBlock) (fun _ => False) rfl rfl ?aO ?aR (fun _ _ h => h) (fun _ h => h.elim) ?aF ?aB ?aS ?aL ?_; (case aR => exact cR_ (vb F5.o HB.o)); (case aB => exact (hB_)); (case aF => exact (fun k_ hk => Kd.fresh' (vF (rR_ e0.o)) k_ hk)); (case aO => exact (by refine kR_ ?_; exact uW r3.o (fun _ hk => hk.2))); (case aS => exact (av (hB_))); (case aL => have := p3.o; omega); intro F1 C7 ho hb hg hat; rw [← q3.o] at ho; obtain ⟨e0, HB, t3⟩ := b_ (vw (ok := (fun _ => True)) (rR_ e0.o) hg hat) <| b_ (hb) <| c_ (ho); clear ho hb hg hat))
 go_loopg [10] k1 (fun kq T6 w' => ∃ (a0 : List Int) (j0 : Int), T6 = .int .i64 j0 ∧ aa (ae.l1 kq l0 l1 f0 a0 j0 = some r) ∧ aa (kq ≤ k1) ∧ aa (Kd.R (Kd.int .u32) 78 w' w.heap.size (fun k_ => some k_ ≠ (F1 : Value).ownBlock) u7 f0) ∧ aa (Kd.R (Kd.int .u32) 78 w' w.heap.size (fun k_ => some k_ ≠ (u7 : Value).ownBlock) F1 a0) ∧ aa (Below w.heap.size w w'))
 case atStart => exact ⟨(H4), (0), f0_, H', ⟨Ca _⟩, ⟨by refine kR_ ?_; exact uW e0.o (fun _ hk => hk.2)⟩, ⟨rR_ t3.o⟩, ⟨hB_⟩⟩
 clear H'
 obtain ⟨a0, j0, rfl, HA, T2, e0, b0, HB⟩ := hrel
 rcases gk with _ | k2
 ·exact absurd HA.o (by simp [ae.l1])
 have H := HA.o
 clear HA
 simp only [ae.l1] at H
 by_cases U2 : j0 < 64
 rotate_left
 ·rw [Ga U2] at H
  have v3 := za U2
  clear U2
  obtain ⟨J4, g1⟩ : ∃ y_ : List Int, y_ = (([] : List Int)) := ⟨_, rfl⟩
  first | replace H := yb_ g1 H | rw [← g1] at H
  have w3 := c_ g1
  clear g1
  have H' := c_ H
  clear H
  go_wp2_with (first | (refine li_ 146 .u32 78 w3 fun U6 D7 ho_ hb => ?_; obtain ⟨e0, b0, y3, HB⟩ := n_ (cJ e0) <| n_ (cJ b0) <| n_ (lR_ (cN (cN ho_ e0) b0)) <| sB_))
  go_loopg [17, 18] k2 (fun kq Q5 V6 w' => ∃ (S0 : List Int) (k0 : Int), V6 = .int .i64 k0 ∧ aa (ae.l3 kq l0 a0 S0 k0 = some r) ∧ aa (kq ≤ k2) ∧ aa (Kd.R (Kd.int .u32) 78 w' w.heap.size (fun k_ => some k_ ≠ (Q5 : Value).ownBlock) F1 a0) ∧ aa (Kd.R (Kd.int .u32) 78 w' w.heap.size (fun k_ => some k_ ≠ (F1 : Value).ownBlock) Q5 S0) ∧ aa (Below w.heap.size w w'))
  case atStart => exact ⟨(J4), (0), f0_, H', ⟨Ca _⟩, ⟨by refine kR_ ?_; exact uW b0.o (fun _ hk => hk.2)⟩, ⟨by refine kR_ ?_; exact uW y3.o (fun _ hk => hk.2)⟩, ⟨hB_⟩⟩
  clear H'
  obtain ⟨S0, k0, rfl, HA, V1, b0, T0, HB⟩ := hrel
  rcases gk with _ | k3
  ·exact absurd HA.o (by simp [ae.l3])
  have H := HA.o
  clear HA
  simp only [ae.l3] at H
  by_cases V2 : k0 < 8
  rotate_left
  ·rw [Ga V2] at H
   have z3 := za V2
   clear V2
   obtain rfl := Ba H
   go_wp2
   go_ret
   exact ⟨_, f1_, by refine kR_ ?_; exact uW T0.o (fun _ hk => trivial), hB_⟩
  rw [Fa V2] at H
  have z3 := ya V2
  clear V2
  obtain ⟨R5, H⟩ := iD_ H
  obtain ⟨S5, H⟩ := iD_ H
  obtain ⟨T5, H⟩ := iD_ H
  obtain ⟨U5, H⟩ := iN_ H
  have A3 := c_ U5
  clear U5
  obtain ⟨K4, i1⟩ : ∃ y_ : List Int, y_ = (S0 ++ [((rd l0 k0) + (rd a0 k0)) % 4294967296]) := ⟨_, rfl⟩
  first | replace H := yb_ i1 H | rw [← i1] at H
  have B3 := c_ i1
  clear i1
  have H' := c_ H
  clear H
  try go_wp2
  obtain ⟨b0, T0, HB⟩ := b_ (vh b0.o) <| b_ (vh T0.o) <| c_ (bE HB.o)
  have X1 : 0 ≤ (k0 : Int) := oD_
  have Y1 : k0 < (l0.length : Int) := oD_
  obtain ⟨C3, L4, H0⟩ := uX F5.o k0 X1 Y1
  have G1 := H0
  cases L4
  replace H0 := hc_ H0
  replace X1 := Aa X1
  replace Y1 := Aa Y1
  obtain ⟨W6, M4, D3⟩ := uV b0.o
  (first | subst D3 | (injection D3 with f1_ f2_ f3_; have f4_ := f1_.symm; have f5_ := f3_.symm; clear f1_ f2_ f3_; subst f4_; subst f5_))
  have Z1 : 0 ≤ (k0 : Int) := oD_
  have b2 : k0 < (a0.length : Int) := oD_
  obtain ⟨L1, N4, j1⟩ := uX (uU b0.o).2.2 k0 Z1 b2
  cases N4
  replace Z1 := Aa Z1
  replace b2 := Aa b2
  refine eI (n := 13) (S := fun w' => w'.cell? (C3.add (k0).toNat) = some (.int .u32 (rd l0 k0)) ∧ w'.cell? (L1.add (k0).toNat) = some (.int .u32 (rd a0 k0))) (ds := [10, 11]) (bb_ 13 0) (by kernel_rfl) rfl rfl ⟨(hc_ G1), j1⟩ (fun hHeld => ?_); refine cW ae.tab25 ae.bits25 (fun HT_ HW_ => ?_)
  generalize wr.drew = E7 at b0 T0 HB H0 j1 hHeld ⊢
  refine pT_ 0 151 13 1 ?_
  refine pT_ 1 152 13 3 ?_
  refine pT_ 2 153 13 7 ?_
  refine pT_ 3 154 13 15 ?_
  refine pT_ 5 156 13 47 ?_
  refine pT_ 6 157 13 111 ?_
  refine pT_ 7 158 13 239 ?_
  refine tS_ 4 155 (bb_ 13 255) (bF HT_.o HW_.o (by kernel_rfl)) hHeld ?_
  refine tS_ 8 159 (bb_ 13 511) (bF HT_.o HW_.o (by kernel_rfl)) hHeld ?_
  refine pT_ 9 160 13 1023 ?_
  refine hZ (i := 10) (N := some 161) (bb_ 13 2047) rfl rfl (cO HT_.o (by kernel_rfl)) (by decide) (fun K hK => ?_)
  refine nR (w1 := ?_) (v := ?_) (by rfl) rfl ?_ ?_
  rotate_left 2
  ·go_simp
   constructor
   ·rfl
   ·rfl
  refine hK _ _ ?_
  clear hK K
  refine er (a' := ?_) ?_ ?_
  rotate_left
  ·show Act.put _ (some 161) _ = _
   simp only [Act.put, List.setIfInBounds_toArray, List.set_cons_zero, List.set_cons_succ, bB, cG]
   rfl
  refine hZ (i := 11) (N := some 162) (bb_ 13 4095) rfl rfl (cO HT_.o (by kernel_rfl)) (by decide) (fun K hK => ?_)
  refine vz (Kd.int .u32) (w0 := w) w.heap.size (by rfl) (.tmp 151) (.tmp 161) 89 78 (.int .u32 0) 4 rfl Tryz.underlying89 ol rfl (by decide) (by omega) u17 S0 (((rd l0 k0) + (rd a0 k0)) % 4294967296) [.int .u32 (((rd l0 k0) + (rd a0 k0)) % 4294967296)] (fun k_ => some k_ ≠ (.slice (some L1) a0.length M4 : Value).ownBlock) (fun _ => False) rfl rfl ?aP (fun _ hk => hk.elim) ?aF ?aO ?aB ?aS ?aL ?_
  (case aP => exact rfl)
  (case aB => exact (hB_))
  (case aF => exact (fun k_ hk => Kd.fresh' (vF (rR_ b0.o)) k_ hk))
  (case aO => exact (rR_ T0.o))
  (case aS => exact (av (hB_)))
  (case aL => have := A3.o; omega)
  intro X6 F7 ho hb hg hat
  rw [← B3.o] at ho
  obtain ⟨b0, HB, E3⟩ := b_ (vw (ok := (fun _ => True)) (by refine kR_ ?_; exact uW b0.o (fun _ hk => ⟨trivial, hk⟩)) hg hat) <| b_ (hb) <| c_ (ho)
  clear ho hb hg hat
  refine hK _ _ ?_
  clear hK K
  refine er (a' := ?_) ?_ ?_
  rotate_left
  ·show Act.put _ (some 162) _ = _
   simp only [Act.put, List.setIfInBounds_toArray, List.set_cons_zero, List.set_cons_succ, bB, cG]
   rfl
  refine pT_ 12 17 13 8191 ?_
  refine fK (dN HT_.o (by kernel_rfl)) ?_
  try go_wp2
  go_roundg k3
  case measure => have := J1.o; have := T2.o; have := V1.o; omega
  case rel => exact ⟨(K4), (wrap64 (k0 + 1)), f0_, H', ⟨by have := J1.o; have := T2.o; have := V1.o; omega⟩, ⟨by refine kR_ ?_; exact uW b0.o (fun _ hk => hk.2)⟩, ⟨rR_ E3.o⟩, ⟨hB_⟩⟩
 rw [Fa U2] at H
 have v3 := ya U2
 clear U2
 obtain ⟨V5, H⟩ := iN_ H
 have W5 := ya V5
 have X5 : decide (4 < a0.length) = true := ya (by omega)
 clear V5
 obtain ⟨Y5, H⟩ := iN_ H
 have Z5 := ya Y5
 have b6 : decide (5 < a0.length) = true := ya (by omega)
 clear Y5
 obtain ⟨e6, H⟩ := iN_ H
 have f6 := ya e6
 have g6 : decide (6 < a0.length) = true := ya (by omega)
 clear e6
 obtain ⟨i6, H⟩ := iN_ H
 have k6 := ya i6
 have n6 : decide (7 < a0.length) = true := ya (by omega)
 clear i6
 obtain ⟨y1, Y6, H⟩ := bN_ H
 obtain ⟨q6, H⟩ := iD_ H
 obtain ⟨v6, H⟩ := iD_ H
 obtain ⟨w6, H⟩ := iD_ H
 obtain ⟨y6, H⟩ := iN_ H
 have z6 := ya y6
 have A6 : decide (0 < a0.length) = true := ya (by omega)
 clear y6
 obtain ⟨B6, H⟩ := iN_ H
 have C6 := ya B6
 have D6 : decide (1 < a0.length) = true := ya (by omega)
 clear B6
 obtain ⟨E6, H⟩ := iN_ H
 have F6 := ya E6
 have G6 : decide (2 < a0.length) = true := ya (by omega)
 clear E6
 obtain ⟨c2, Z6, H⟩ := bN_ H
 have H' := c_ H
 clear H
 obtain ⟨c7, J0, O4⟩ := uV b0.o
 subst O4
 have f2 : 0 ≤ (4 : Int) := (by omega)
 have g2 : 4 < (a0.length : Int) := oD_
 obtain ⟨d0, P4, M0⟩ := uX (uU b0.o).2.2 4 f2 g2
 cases P4
 (try simp only [show (4 : Int).toNat = 4 from rfl, Nat.reduceMul, Nat.reduceEqDiff, Go.Addr.add, ↓reduceIte] at M0)
 have qi137 : (4 < a0.length) = True := Aa (by omega)
 (try rw [show ((4 : Int)).toNat = 4 from rfl] at M0)
 replace f2 := Aa f2
 replace g2 := Aa g2
 try go_wp2
 obtain ⟨e0, b0, HB⟩ := b_ (vh e0.o) <| b_ (vh b0.o) <| c_ (bE HB.o)
 have i2 : 0 ≤ (5 : Int) := (by omega)
 have j2 : 5 < (a0.length : Int) := oD_
 obtain ⟨F3, Q4, r0⟩ := uX (uU b0.o).2.2 5 i2 j2
 obtain rfl : d0 = F3 := (by injection Q4)
 (try simp only [show (5 : Int).toNat = 5 from rfl, Nat.reduceMul, Nat.reduceEqDiff, Go.Addr.add, ↓reduceIte] at r0)
 have qi138 : (5 < a0.length) = True := Aa (by omega)
 (try rw [show ((5 : Int)).toNat = 5 from rfl] at r0)
 replace i2 := Aa i2
 replace j2 := Aa j2
 have m2 : 0 ≤ (6 : Int) := (by omega)
 have n2 : 6 < (a0.length : Int) := oD_
 obtain ⟨G3, R4, t0⟩ := uX (uU b0.o).2.2 6 m2 n2
 obtain rfl : d0 = G3 := (by injection R4)
 (try simp only [show (6 : Int).toNat = 6 from rfl, Nat.reduceMul, Nat.reduceEqDiff, Go.Addr.add, ↓reduceIte] at t0)
 have qi139 : (6 < a0.length) = True := Aa (by omega)
 (try rw [show ((6 : Int)).toNat = 6 from rfl] at t0)
 replace m2 := Aa m2
 replace n2 := Aa n2
 refine eI (n := 13) (S := fun w' => w'.cell? ⟨d0.block, d0.off + 5, none⟩ = some (.int .u32 (rd a0 5)) ∧ w'.cell? ⟨d0.block, d0.off + 6, none⟩ = some (.int .u32 (rd a0 6))) (ds := []) (bb_ 13 0) (by kernel_rfl) rfl rfl ⟨r0, t0⟩ (fun hHeld => ?_); refine cW ae.tab11 ae.bits11 (fun HT_ HW_ => ?_)
 generalize wr.drew = e7 at e0 b0 HB r0 t0 hHeld ⊢
 refine pT_ 0 63 13 1 ?_
 refine pT_ 1 64 13 3 ?_
 refine pT_ 2 65 13 7 ?_
 refine pT_ 5 68 13 39 ?_
 refine pT_ 6 69 13 103 ?_
 refine pT_ 7 70 13 231 ?_
 refine pT_ 8 71 13 487 ?_
 refine tS_ 3 66 (bb_ 13 495) (bF HT_.o HW_.o (by kernel_rfl)) hHeld ?_
 refine pT_ 4 67 13 511 ?_
 refine tS_ 9 72 (bb_ 13 1023) (bF HT_.o HW_.o (by kernel_rfl)) hHeld ?_
 refine pT_ 10 73 13 2047 ?_
 refine pT_ 11 74 13 4095 ?_
 refine pT_ 12 12 13 8191 ?_
 refine fK (dN HT_.o (by kernel_rfl)) ?_
 try go_wp2
 obtain ⟨e0, b0, HB⟩ := b_ (vh e0.o) <| b_ (vh b0.o) <| c_ (bE HB.o)
 have p2 : 0 ≤ (7 : Int) := (by omega)
 have q2 : 7 < (a0.length : Int) := oD_
 obtain ⟨H3, S4, v0⟩ := uX (uU b0.o).2.2 7 p2 q2
 obtain rfl : d0 = H3 := (by injection S4)
 (try simp only [show (7 : Int).toNat = 7 from rfl, Nat.reduceMul, Nat.reduceEqDiff, Go.Addr.add, ↓reduceIte] at v0)
 have qi140 : (7 < a0.length) = True := Aa (by omega)
 (try rw [show ((7 : Int)).toNat = 7 from rfl] at v0)
 replace p2 := Aa p2
 replace q2 := Aa q2
 have r2 : 0 ≤ (j0 : Int) := oD_
 have t2 : j0 < (l1.length : Int) := oD_
 obtain ⟨I3, T4, I0⟩ := uX N6.o j0 r2 t2
 have m1 := I0
 cases T4
 replace I0 := hc_ I0
 replace r2 := Aa r2
 replace t2 := Aa t2
 obtain ⟨i7, H1, J3⟩ := uV e0.o
 (first | subst J3 | (injection J3 with f1_ f2_ f3_; have f4_ := f1_.symm; have f5_ := f3_.symm; clear f1_ f2_ f3_; subst f4_; subst f5_))
 have v2 : 0 ≤ (j0 : Int) := oD_
 have y2 : j0 < (f0.length : Int) := oD_
 obtain ⟨U0, U4, n1⟩ := uX (uU e0.o).2.2 j0 v2 y2
 cases U4
 replace v2 := Aa v2
 replace y2 := Aa y2
 refine eI (n := 19) (S := fun w' => w'.cell? ⟨d0.block, d0.off + 7, none⟩ = some (.int .u32 (rd a0 7)) ∧ w'.cell? (I3.add (j0).toNat) = some (.int .u32 (rd l1 j0)) ∧ w'.cell? (U0.add (j0).toNat) = some (.int .u32 (rd f0 j0))) (ds := []) (bb_ 19 0) (by kernel_rfl) rfl rfl ⟨v0, (hc_ m1), n1⟩ (fun hHeld => ?_); refine cW ae.tab12 ae.bits12 (fun HT_ HW_ => ?_)
 generalize e7.drew = z2 at e0 b0 HB v0 I0 n1 hHeld ⊢
 refine pT_ 0 75 19 1 ?_
 refine pT_ 1 76 19 3 ?_
 refine pT_ 3 78 19 11 ?_
 refine pT_ 6 81 19 75 ?_
 refine pT_ 8 83 19 331 ?_
 refine pT_ 9 84 19 843 ?_
 refine pT_ 10 85 19 1867 ?_
 refine pT_ 13 88 19 10059 ?_
 refine pT_ 14 89 19 26443 ?_
 refine pT_ 15 90 19 59211 ?_
 refine tS_ 2 77 (bb_ 19 59215) (bF HT_.o HW_.o (by kernel_rfl)) hHeld ?_
 refine tS_ 11 86 (bb_ 19 61263) (bF HT_.o HW_.o (by kernel_rfl)) hHeld ?_
 refine tS_ 16 91 (bb_ 19 126799) (bF HT_.o HW_.o (by kernel_rfl)) hHeld ?_
 refine gh (i := 4) (N := some 79) (bb_ 19 126815) rfl rfl (cO HT_.o (by kernel_rfl)) (by decide) (fun K hK => ?_)
 refine fX Tryz.func105 (by kernel_rfl) rfl #[.int .u32 (rd a0 4), .int .u32 64, .int .u32 2048, .int .u32 33554432, .bool false] (by rfl) rfl rfl aM_ ?_
 with_reducible refine (de.calls (rd a0 4) 64 2048 33554432 false y1 _ Y6.o).mono ?_
 rintro e w' ⟨rfl, ⟨nd, rfl⟩⟩
 refine ⟨_, rfl, ?_⟩
 refine hK _ _ ⟨hHeld.1, (hc_ m1), hHeld.2.2⟩ (fun hHeld => ?_)
 clear hK K
 refine er (a' := ?_) ?_ ?_
 rotate_left
 ·show Act.put _ (some 79) _ = _
  simp only [Act.put, List.setIfInBounds_toArray, List.set_cons_zero, List.set_cons_succ, bB, cG]
  rfl
 refine pT_ 5 80 19 126847 ?_
 refine pT_ 7 82 19 126975 ?_
 refine pT_ 12 87 19 131071 ?_
 refine pT_ 17 92 19 262143 ?_
 refine pT_ 18 13 19 524287 ?_
 refine fK (dN HT_.o (by kernel_rfl)) ?_
 try go_wp2
 (try (rw [dt z2]; generalize hq_ : World.drewN z2 _ = z2; obtain ⟨e0, b0, HB⟩ := b_ (show Kd.R (Kd.int .u32) 78 z2 w.heap.size (fun k_ => some k_ ≠ (.slice (some d0) a0.length J0 : Value).ownBlock) (.slice (some U0) f0.length H1) f0 from by rw [← hq_]; exact (rR_ e0.o)) <| b_ (show Kd.R (Kd.int .u32) 78 z2 w.heap.size (fun k_ => some k_ ≠ (.slice (some U0) f0.length H1 : Value).ownBlock) (.slice (some d0) a0.length J0) a0 from by rw [← hq_]; exact (rR_ b0.o)) <| c_ (show Below w.heap.size w z2 from by rw [← hq_]; exact (hB_))))
 obtain ⟨e0, b0, HB⟩ := b_ (vh e0.o) <| b_ (vh b0.o) <| c_ (bE HB.o)
 have A2 : 0 ≤ (0 : Int) := (by omega)
 have B2 : 0 < (a0.length : Int) := oD_
 obtain ⟨K3, V4, x0⟩ := uX (uU b0.o).2.2 0 A2 B2
 obtain rfl : d0 = K3 := (by injection V4)
 have qi144 : (0 < a0.length) = True := Aa (by omega)
 (try rw [show ((0 : Int)).toNat = 0 from rfl] at x0)
 (try rw [Addr.add_zero'] at x0)
 replace A2 := Aa A2
 replace B2 := Aa B2
 have C2 : 0 ≤ (1 : Int) := (by omega)
 have D2 : 1 < (a0.length : Int) := oD_
 obtain ⟨L3, W4, y0⟩ := uX (uU b0.o).2.2 1 C2 D2
 obtain rfl : d0 = L3 := (by injection W4)
 (try simp only [show (1 : Int).toNat = 1 from rfl, Nat.reduceMul, Nat.reduceEqDiff, Go.Addr.add, ↓reduceIte] at y0)
 have qi145 : (1 < a0.length) = True := Aa (by omega)
 (try rw [show ((1 : Int)).toNat = 1 from rfl] at y0)
 replace C2 := Aa C2
 replace D2 := Aa D2
 have E2 : 0 ≤ (0 : Int) := (by omega)
 have F2 : 0 < (a0.length : Int) := oD_
 obtain ⟨M3, X4, B0⟩ := uX (uU b0.o).2.2 0 E2 F2
 obtain rfl : d0 = M3 := (by injection X4)
 have qi146 : (0 < a0.length) = True := Aa (by omega)
 (try rw [show ((0 : Int)).toNat = 0 from rfl] at B0)
 (try rw [Addr.add_zero'] at B0)
 replace E2 := Aa E2
 replace F2 := Aa F2
 have G2 : 0 ≤ (2 : Int) := (by omega)
 have H2 : 2 < (a0.length : Int) := oD_
 obtain ⟨N3, Y4, C0⟩ := uX (uU b0.o).2.2 2 G2 H2
 obtain rfl : d0 = N3 := (by injection Y4)
 (try simp only [show (2 : Int).toNat = 2 from rfl, Nat.reduceMul, Nat.reduceEqDiff, Go.Addr.add, ↓reduceIte] at C0)
 have qi147 : (2 < a0.length) = True := Aa (by omega)
 (try rw [show ((2 : Int)).toNat = 2 from rfl] at C0)
 replace G2 := Aa G2
 replace H2 := Aa H2
 have I2 : 0 ≤ (1 : Int) := (by omega)
 have J2 : 1 < (a0.length : Int) := oD_
 obtain ⟨O3, Z4, D0⟩ := uX (uU b0.o).2.2 1 I2 J2
 obtain rfl : d0 = O3 := (by injection Z4)
 (try simp only [show (1 : Int).toNat = 1 from rfl, Nat.reduceMul, Nat.reduceEqDiff, Go.Addr.add, ↓reduceIte] at D0)
 have qi148 : (1 < a0.length) = True := Aa (by omega)
 (try rw [show ((1 : Int)).toNat = 1 from rfl] at D0)
 replace I2 := Aa I2
 replace J2 := Aa J2
 have K2 : 0 ≤ (2 : Int) := (by omega)
 have L2 : 2 < (a0.length : Int) := oD_
 obtain ⟨P3, b5, E0⟩ := uX (uU b0.o).2.2 2 K2 L2
 obtain rfl : d0 = P3 := (by injection b5)
 (try simp only [show (2 : Int).toNat = 2 from rfl, Nat.reduceMul, Nat.reduceEqDiff, Go.Addr.add, ↓reduceIte] at E0)
 have qi149 : (2 < a0.length) = True := Aa (by omega)
 (try rw [show ((2 : Int)).toNat = 2 from rfl] at E0)
 replace K2 := Aa K2
 replace L2 := Aa L2
 refine eI (n := 24) (S := fun w' => w'.cell? d0 = some (.int .u32 (rd a0 0)) ∧ w'.cell? ⟨d0.block, d0.off + 1, none⟩ = some (.int .u32 (rd a0 1)) ∧ w'.cell? d0 = some (.int .u32 (rd a0 0)) ∧ w'.cell? ⟨d0.block, d0.off + 2, none⟩ = some (.int .u32 (rd a0 2)) ∧ w'.cell? ⟨d0.block, d0.off + 1, none⟩ = some (.int .u32 (rd a0 1)) ∧ w'.cell? ⟨d0.block, d0.off + 2, none⟩ = some (.int .u32 (rd a0 2))) (ds := []) (bb_ 24 0) (by kernel_rfl) rfl rfl ⟨x0, y0, B0, C0, D0, E0⟩ (fun hHeld => ?_); refine cW ae.tab13 ae.bits13 (fun HT_ HW_ => ?_)
 generalize z2.drew = G7 at e0 b0 HB x0 y0 B0 C0 D0 E0 hHeld ⊢
 refine pT_ 0 93 24 1 ?_
 refine pT_ 1 94 24 3 ?_
 refine pT_ 3 96 24 11 ?_
 refine pT_ 4 97 24 27 ?_
 refine pT_ 7 100 24 155 ?_
 refine pT_ 8 101 24 411 ?_
 refine pT_ 10 103 24 1435 ?_
 refine pT_ 11 104 24 3483 ?_
 refine pT_ 15 108 24 36251 ?_
 refine pT_ 16 109 24 101787 ?_
 refine pT_ 18 111 24 363931 ?_
 refine pT_ 19 112 24 888219 ?_
 refine tS_ 2 95 (bb_ 24 888223) (bF HT_.o HW_.o (by kernel_rfl)) hHeld ?_
 refine tS_ 5 98 (bb_ 24 888255) (bF HT_.o HW_.o (by kernel_rfl)) hHeld ?_
 refine pT_ 6 99 24 888319 ?_
 refine tS_ 9 102 (bb_ 24 888831) (bF HT_.o HW_.o (by kernel_rfl)) hHeld ?_
 refine tS_ 12 105 (bb_ 24 892927) (bF HT_.o HW_.o (by kernel_rfl)) hHeld ?_
 refine pT_ 13 106 24 901119 ?_
 refine pT_ 14 107 24 917503 ?_
 refine tS_ 17 110 (bb_ 24 1048575) (bF HT_.o HW_.o (by kernel_rfl)) hHeld ?_
 refine tS_ 20 113 (bb_ 24 2097151) (bF HT_.o HW_.o (by kernel_rfl)) hHeld ?_
 refine pT_ 21 114 24 4194303 ?_
 refine pT_ 22 115 24 8388607 ?_
 refine pT_ 23 14 24 16777215 ?_
 refine fK (dN HT_.o (by kernel_rfl)) ?_
 have M2 : 0 ≤ (0 : Int) := (by omega)
 have N2 : 0 < (a0.length : Int) := oD_
 obtain ⟨Q3, c5, N0⟩ := uX (uU b0.o).2.2 0 M2 N2
 obtain rfl : d0 = Q3 := (by injection c5)
 have qi150 : (0 < a0.length) = True := Aa (by omega)
 (try rw [show ((0 : Int)).toNat = 0 from rfl] at N0)
 (try rw [Addr.add_zero'] at N0)
 replace M2 := Aa M2
 replace N2 := Aa N2
 try go_wp2_with (first | (refine gp_ (k_ 119 Tryz.func105) (de.calls _ _ _ _ _ _ _ Z6.o) fun nd => ?_))
 go_loopg [16] k2 (fun kq k7 w' => ∃ (n0 : List Int) (q0 : Int), k7 = .int .i64 q0 ∧ aa (ae.l2 kq l0 l1 f0 n0 j0 (((((((((rd a0 7) + y1) % 4294967296) + (Go.bits .xor .u32 (Go.bits .and .u32 (rd a0 4) (rd a0 5)) (Go.bits .and .u32 ((4294967295 - (rd a0 4)) % 4294967296) (rd a0 6)))) % 4294967296) + (rd l1 j0)) % 4294967296) + (rd f0 j0)) % 4294967296) ((c2 + (Go.bits .xor .u32 (Go.bits .xor .u32 (Go.bits .and .u32 (rd a0 0) (rd a0 1)) (Go.bits .and .u32 (rd a0 0) (rd a0 2))) (Go.bits .and .u32 (rd a0 1) (rd a0 2)))) % 4294967296) q0 = some r) ∧ aa (kq ≤ k2) ∧ aa (Kd.R (Kd.int .u32) 78 w' w.heap.size (fun k_ => some k_ ≠ ((.slice (some d0) a0.length J0) : Value).ownBlock) (.slice (some U0) f0.length H1) f0) ∧ aa (Kd.R (Kd.int .u32) 78 w' w.heap.size (fun k_ => some k_ ≠ ((.slice (some U0) f0.length H1) : Value).ownBlock) (.slice (some d0) a0.length J0) n0) ∧ aa (Below w.heap.size w w'))
 case atStart => exact ⟨(a0), (7), f0_, H', ⟨Ca _⟩, ⟨rR_ e0.o⟩, ⟨rR_ b0.o⟩, ⟨hB_⟩⟩
 clear H'
 obtain ⟨n0, q0, rfl, HA, V1, e0, b0, HB⟩ := hrel
 have p0 := (uU b0.o).1
 rw [p0] at b0
 (try simp only [p0])
 (try simp only [p0] at e0)
 rcases gk with _ | k3
 ·exact absurd HA.o (by simp [ae.l2])
 have H := HA.o
 clear HA
 simp only [ae.l2] at H
 by_cases X2 : q0 > 0
 ·rw [Fa X2] at H
  have R3 := ya X2
  clear X2
  obtain ⟨V0, p1⟩ : ∃ j_ : Int, (wrap64 (q0 - 1)) = j_ := ⟨_, rfl⟩
  first | rw [p1] at H | simp only [p1] at H
  have e5 : (IntKind.i64.wrap (q0 - 1)) = V0 := (bB _).trans p1
  obtain ⟨H6, H⟩ := iD_ H
  obtain ⟨I6, H⟩ := iN_ H
  have S3 := ya I6
  (try simp only [p0] at S3)
  clear I6
  obtain ⟨J6, H⟩ := iD_ H
  obtain ⟨K6, H⟩ := iN_ H
  have T3 := ya K6
  (try simp only [p0] at T3)
  clear K6
  obtain ⟨f5, q1⟩ : ∃ y_ : List Int, y_ = (n0.set (q0 : Int).toNat (rd n0 (V0))) := ⟨_, rfl⟩
  first | replace H := yb_ q1 H | rw [← q1] at H
  have U3 := c_ q1
  clear q1
  have H' := c_ H
  clear H
  have O2 : 0 ≤ ((V0) : Int) := oD_
  have P2 : (V0) < (n0.length : Int) := oD_
  obtain ⟨V3, i5, I1⟩ := uX (uU b0.o).2.2 (V0) O2 P2
  obtain rfl : d0 = V3 := (by injection i5)
  replace O2 := Aa O2
  replace P2 := Aa P2
  have n5 : 0 ≤ (q0 : Int) := oD_
  have p5 : (q0 : Int) < ((n0.length : Int) : Int) := oD_
  obtain ⟨go53, l7, W3, X3, gl53, cl53, HG53⟩ := vm b0.o (by omega)
  (first | cases W3 | (injection W3 with ea_ en_ ec_; (first | subst ea_ | (injection ea_ with ea_; subst ea_)); subst ec_; clear en_))
  have q5 := c_ X3
  have GG53 := c_ HG53
  clear X3 gl53 HG53
  (first | simp only [ch] at M0 | skip)
  (first | simp only [ch] at r0 | skip)
  (first | simp only [ch] at t0 | skip)
  (first | simp only [ch] at v0 | skip)
  (first | simp only [ch] at x0 | skip)
  (first | simp only [ch] at y0 | skip)
  (first | simp only [ch] at B0 | skip)
  (first | simp only [ch] at C0 | skip)
  (first | simp only [ch] at D0 | skip)
  (first | simp only [ch] at E0 | skip)
  (first | simp only [ch] at N0 | skip)
  (first | simp only [ch] at I1 | skip)
  obtain ⟨s5, hf53_0⟩ := uZ 0 b0.o (q0 : Int) n5 p5
  replace n5 := Aa n5
  replace p5 := Aa p5
  have HP54 := vj b0.o (q0 : Int) (rd n0 (V0))
  go_wp2_with (first | ((refine cz (t := 78) (p := 133) rfl ?_); refine st_ 78 133 HP54 U3 q5 fun H7 hw hp_ hg HBn => ?_; obtain ⟨e0, b0, HB⟩ := b_ (vw (v := (.slice (some ⟨go53, 0, none⟩) n0.length J0)) (v1 := (.slice (some ⟨go53, 0, none⟩) n0.length J0)) (ok := (fun _ => True)) (by refine kR_ ?_; exact uW e0.o (fun _ hk => ⟨trivial, hk⟩)) hg (.inl rfl)) <| b_ (hp_) <| c_ HBn.o; clear hg hw hp_))
  (try simp only [← p0])
  go_roundg k3
  case measure => have := J1.o; have := T2.o; have := V1.o; omega
  case rel => exact ⟨(f5), (V0), (by first | rfl | (simp; done) | (simp only [← p1] <;> (first | rfl | simp)) | (simp [*]; done)), H', ⟨by have := J1.o; have := T2.o; have := V1.o; omega⟩, ⟨by (try simp only [p0]); refine kR_ ?_; exact uW e0.o (fun _ hk => hk.2)⟩, ⟨by (try simp only [p0]); refine kR_ ?_; exact b0.o⟩, ⟨hB_⟩⟩
 rw [Ga X2] at H
 have R3 := za X2
 clear X2
 obtain ⟨L6, H⟩ := iN_ H
 have Y3 := ya L6
 have Z3 : decide (4 < n0.length) = true := ya (by omega)
 (try simp only [p0] at Y3)
 (try simp only [p0] at Z3)
 clear L6
 obtain ⟨v5, r1⟩ : ∃ y_ : List Int, y_ = (n0.set (4 : Int).toNat (((rd n0 4) + (((((((((rd a0 7) + y1) % 4294967296) + (Go.bits .xor .u32 (Go.bits .and .u32 (rd a0 4) (rd a0 5)) (Go.bits .and .u32 ((4294967295 - (rd a0 4)) % 4294967296) (rd a0 6)))) % 4294967296) + (rd l1 j0)) % 4294967296) + (rd f0 j0)) % 4294967296)) % 4294967296)) := ⟨_, rfl⟩
 first | replace H := yb_ r1 H | rw [← r1] at H
 have b4 := c_ r1
 clear r1
 obtain ⟨M6, H⟩ := iN_ H
 have c4 := ya M6
 have e4 : decide (0 < n0.length) = true := ya (by omega)
 (try simp only [p0] at c4)
 (try simp only [p0] at e4)
 clear M6
 obtain ⟨y5, t1⟩ : ∃ y_ : List Int, y_ = (v5.set (0 : Int).toNat (((((((((((rd a0 7) + y1) % 4294967296) + (Go.bits .xor .u32 (Go.bits .and .u32 (rd a0 4) (rd a0 5)) (Go.bits .and .u32 ((4294967295 - (rd a0 4)) % 4294967296) (rd a0 6)))) % 4294967296) + (rd l1 j0)) % 4294967296) + (rd f0 j0)) % 4294967296) + ((c2 + (Go.bits .xor .u32 (Go.bits .xor .u32 (Go.bits .and .u32 (rd a0 0) (rd a0 1)) (Go.bits .and .u32 (rd a0 0) (rd a0 2))) (Go.bits .and .u32 (rd a0 1) (rd a0 2)))) % 4294967296)) % 4294967296)) := ⟨_, rfl⟩
 first | replace H := yb_ t1 H | rw [← t1] at H
 have f4 := c_ t1
 clear t1
 have H' := c_ H
 clear H
 have Q2 : 0 ≤ (4 : Int) := (by omega)
 have R2 : 4 < (n0.length : Int) := oD_
 obtain ⟨g4, z5, O0⟩ := uX (uU b0.o).2.2 4 Q2 R2
 obtain rfl : d0 = g4 := (by injection z5)
 (try simp only [show (4 : Int).toNat = 4 from rfl, Nat.reduceMul, Nat.reduceEqDiff, Go.Addr.add, ↓reduceIte] at O0)
 have qi154 : (4 < n0.length) = True := Aa (by omega)
 (try rw [show ((4 : Int)).toNat = 4 from rfl] at O0)
 replace Q2 := Aa Q2
 replace R2 := Aa R2
 have A5 : 0 ≤ (4 : Int) := (by omega)
 have B5 : (4 : Int) < ((n0.length : Int) : Int) := oD_
 have qi57 : (4 < n0.length) = True := Aa (by omega)
 obtain ⟨go57, n7, i4, l4, gl57, cl57, HG57⟩ := vm b0.o (by omega)
 (first | cases i4 | (injection i4 with ea_ en_ ec_; (first | subst ea_ | (injection ea_ with ea_; subst ea_)); subst ec_; clear en_))
 have n4 := c_ l4
 have GG57 := c_ HG57
 clear l4 gl57 HG57
 (first | simp only [ch] at O0 | skip)
 obtain ⟨z1, hf57_0⟩ := uZ 0 b0.o (4 : Int) A5 B5
 (try rw [show ((4 : Int)).toNat = 4 from rfl] at z1)
 (try simp only [Nat.reduceMul, Nat.zero_mul, Nat.zero_add, Nat.reduceAdd] at z1)
 (try rw [show ((4 : Int)).toNat = 4 from rfl] at hf57_0)
 (try simp only [Nat.reduceMul, Nat.zero_mul, Nat.zero_add, Nat.reduceAdd] at hf57_0)
 replace A5 := Aa A5
 replace B5 := Aa B5
 have HP60 := vj b0.o (4 : Int) (((rd n0 4) + (((((((((rd a0 7) + y1) % 4294967296) + (Go.bits .xor .u32 (Go.bits .and .u32 (rd a0 4) (rd a0 5)) (Go.bits .and .u32 ((4294967295 - (rd a0 4)) % 4294967296) (rd a0 6)))) % 4294967296) + (rd l1 j0)) % 4294967296) + (rd f0 j0)) % 4294967296)) % 4294967296)
 go_wp2_with (first | ((refine cz (t := 78) (p := 140) rfl ?_); refine st_ 78 140 HP60 b4 n4 fun I7 hw hp_ hg HBn => ?_; obtain ⟨e0, b0, HB⟩ := b_ (vw (v := (.slice (some ⟨go57, 0, none⟩) n0.length J0)) (v1 := (.slice (some ⟨go57, 0, none⟩) n0.length J0)) (ok := (fun _ => True)) (by refine kR_ ?_; exact uW e0.o (fun _ hk => ⟨trivial, hk⟩)) hg (.inl rfl)) <| b_ (hp_) <| c_ HBn.o; clear hg hw hp_; have C5 : 0 ≤ (0 : Int) := (by omega); have D5 : (0 : Int) < ((n0.length : Int) : Int) := oD_; have qi59 : (0 < n0.length) = True := Aa (by omega); obtain ⟨B1, hf59_0⟩ := uZ 0 b0.o (0 : Int) C5 D5; (try rw [show ((0 : Int)).toNat = 0 from rfl] at B1); (try simp only [Nat.reduceMul, Nat.zero_mul, Nat.zero_add, Nat.reduceAdd] at B1); (try rw [show ((0 : Int)).toNat = 0 from rfl] at hf59_0); (try simp only [Nat.reduceMul, Nat.zero_mul, Nat.zero_add, Nat.reduceAdd] at hf59_0); replace C5 := Aa C5; replace D5 := Aa D5; obtain ⟨M1, hz62_⟩ := uZ 0 b0.o (0 : Int) (by omega) oD_; (try simp only [Int.reduceToNat, Int.toNat_zero, Int.toNat_ofNat, Nat.reduceMul, Nat.zero_mul, Nat.zero_add] at M1 hz62_); (try rw [show ((0 : Int)).toNat = 0 from rfl] at M1); (try rw [show ((0 : Int)).toNat = 0 from rfl] at hz62_); have HP62 := vj b0.o (0 : Int) (((((((((((rd a0 7) + y1) % 4294967296) + (Go.bits .xor .u32 (Go.bits .and .u32 (rd a0 4) (rd a0 5)) (Go.bits .and .u32 ((4294967295 - (rd a0 4)) % 4294967296) (rd a0 6)))) % 4294967296) + (rd l1 j0)) % 4294967296) + (rd f0 j0)) % 4294967296) + ((c2 + (Go.bits .xor .u32 (Go.bits .xor .u32 (Go.bits .and .u32 (rd a0 0) (rd a0 1)) (Go.bits .and .u32 (rd a0 0) (rd a0 2))) (Go.bits .and .u32 (rd a0 1) (rd a0 2)))) % 4294967296)) % 4294967296)) | ((refine cz (t := 78) (p := 145) rfl ?_); refine st_ 78 145 HP62 f4 n4 fun J7 hw hp_ hg HBn => ?_; obtain ⟨e0, b0, HB⟩ := b_ (vw (v := (.slice (some ⟨go57, 0, none⟩) n0.length J0)) (v1 := (.slice (some ⟨go57, 0, none⟩) n0.length J0)) (ok := (fun _ => True)) (rR_ e0.o) hg (.inl rfl)) <| b_ (hp_) <| c_ HBn.o; clear hg hw hp_))
 (try simp only [← p0])
 go_roundg k3
 case measure => have := J1.o; have := T2.o; have := V1.o; omega
 case rel => exact ⟨(y5), (wrap64 (j0 + 1)), f0_, H', ⟨by have := J1.o; have := T2.o; have := V1.o; omega⟩, ⟨by (try simp only [p0]); refine kR_ ?_; exact uW e0.o (fun _ hk => hk.2)⟩, ⟨by (try simp only [p0]); refine kR_ ?_; exact b0.o⟩, ⟨hB_⟩⟩
def bu.l0 : Nat → List Int → List Int → Int → Option (ByteArray)
 | 0, _, _, _ => none
 | k + 1, x0, x3, x4 => if x4 < (x0.length : Int) then (if 0 ≤ x4 then ((some (([((Int.tdiv (rd x0 x4) 16777216) % 4294967296) % 256, ((Int.tdiv (rd x0 x4) 65536) % 4294967296) % 256, ((Int.tdiv (rd x0 x4) 256) % 4294967296) % 256, (Int.tmod (rd x0 x4) 256) % 256] : List Int) : List Int)).bind fun y169 => (if x3.length + y169.length < 140737488355328 then (bu.l0 k x0 (x3 ++ y169) (wrap64 (x4 + 1))) else (none))) else (none)) else (some (strOfNums x3))
def bu.f (k : Nat) (l0 : List Int) : Option (ByteArray) := bu.l0 k l0 (([] : List Int)) 0
theorem bu.mono_l : ∀ k, (∀ y0 y1 y2, LeO (bu.l0 k y0 y1 y2) (bu.l0 (k + 1) y0 y1 y2))
 | 0 => fun _ _ _ r h => by simp [bu.l0] at h
 | k + 1 => by
  have ih0 := bu.mono_l k
  intros; unfold bu.l0; exact o1_ ih0
theorem bu.mono : ∀ a0 k, LeO (bu.f k a0) (bu.f (k + 1) a0) := by
 intro a0 k
 have ih0 := bu.mono_l k
 unfold bu.f
 exact o1_ ih0
theorem bu.calls (k : Nat) (A0 : Option Addr) (c0 : Nat) (l0 : List Int) (r : ByteArray) (w : World) (hr0 : Kd.C (Kd.int .u32) w A0 l0.length l0) (hc0 : l0.length ≤ c0) (h : bu.f k l0 = some r) :
  Calls Tryz.prog 83 #[.slice A0 l0.length c0] w fun e w' => e = .returned (.string r) ∧ Below w.heap.size w w' := by
 have N0 := c_ hr0
 have S0 := c_ hc0
 clear hr0 hc0
 have HB := c_ (Da w.heap.size w)
 delta bu.f at h
 have H := h
 clear h
 obtain ⟨C0, d0⟩ : ∃ y_ : List Int, y_ = (([] : List Int)) := ⟨_, rfl⟩
 first | replace H := yb_ d0 H | rw [← d0] at H
 have t0 := c_ d0
 clear d0
 have H' := c_ H
 clear H
 go_enter Tryz.func83, Tryz.ntmps83
 go_wp2_with (first | (refine lj_ 6 .u8 5 t0 fun O0 w2 v0 HB => ?_))
 go_loopg [3, 4] k (fun kq v3 v4 w' => ∃ (k0 : List Int) (a0 : Int), v4 = .int .i64 a0 ∧ aa (bu.l0 kq l0 k0 a0 = some r) ∧ aa (kq ≤ k) ∧ aa (Kd.R (Kd.int .u8) 5 w' w.heap.size (fun _ => True) v3 k0) ∧ aa (Below w.heap.size w w'))
 case atStart => exact ⟨(C0), (0), f0_, H', ⟨Ca _⟩, ⟨rR_ v0.o⟩, ⟨hB_⟩⟩
 clear H'
 obtain ⟨k0, a0, rfl, HA, K0, n0, HB⟩ := hrel
 rcases gk with _ | k1
 ·exact absurd HA.o (by simp [bu.l0])
 have H := HA.o
 clear HA
 simp only [bu.l0] at H
 by_cases c4 : a0 < (l0.length : Int)
 rotate_left
 ·rw [Ga c4] at H
  have D0 := za c4
  clear c4
  obtain rfl := Ba H
  have L0 := d4 (P := Tryz.prog) Tryz.underlying22 Tryz.underlying5 Tryz.underlying9 (vl n0.o)
  go_wp2
  go_ret
  exact ⟨f1_, hB_⟩
 rw [Fa c4] at H
 have D0 := ya c4
 clear c4
 obtain ⟨P0, H⟩ := iD_ H
 obtain ⟨p0, e0⟩ : ∃ y_ : List Int, y_ = (([((Int.tdiv (rd l0 a0) 16777216) % 4294967296) % 256, ((Int.tdiv (rd l0 a0) 65536) % 4294967296) % 256, ((Int.tdiv (rd l0 a0) 256) % 4294967296) % 256, (Int.tmod (rd l0 a0) 256) % 256] : List Int)) := ⟨_, rfl⟩
 first | replace H := yb_ e0 H | rw [← e0] at H
 have x0 := c_ e0
 clear e0
 obtain ⟨c6, H⟩ := iN_ H
 have E0 := c_ c6
 clear c6
 obtain ⟨F0, f0⟩ : ∃ y_ : List Int, y_ = (k0 ++ p0) := ⟨_, rfl⟩
 first | replace H := yb_ f0 H | rw [← f0] at H
 have y0 := c_ f0
 clear f0
 have H' := c_ H
 clear H
 have q0 : 0 ≤ (a0 : Int) := oD_
 have r0 : a0 < (l0.length : Int) := oD_
 obtain ⟨M0, G0, j0⟩ := uX N0.o a0 q0 r0
 cases G0
 replace j0 := hc_ j0
 replace q0 := Aa q0
 replace r0 := Aa r0
 go_wp2_with (first | (refine li_ 32 .u8 5 x0 fun Q0 w7 ho_ hb => ?_; obtain ⟨n0, b0, HB⟩ := n_ (cJ n0) <| n_ (lR_ (cN ho_ n0)) <| sB_; obtain ⟨H0, I0, J0⟩ := uV b0.o; subst J0) | ((refine cr (b := .append) (xs := #[.tmp 17, .tmp 32]) rfl ?_); at_builtin; refine vt (Kd.int .u8) (w0 := w) w.heap.size rfl (.tmp 17) (.tmp 32) 22 5 (.int .u8 0) 1 rfl Tryz.underlying22 jj rfl (by decide) (by omega) u3 k0 p0 _ _ _ (fun k_ => some k_ ≠ (.slice H0 p0.length I0 : Value).ownBlock) (fun _ => False) rfl rfl ?aO ?aR (fun _ _ h => h) (fun _ h => h.elim) ?aF ?aB ?aS ?aL ?_; (case aR => exact cR_ (uU b0.o).2.2); (case aB => exact (hB_)); (case aF => exact (fun k_ hk => Kd.fresh' (vF (rR_ b0.o)) k_ hk)); (case aO => exact (by refine kR_ ?_; exact uW n0.o (fun _ hk => hk.2))); (case aS => exact (av (hB_))); (case aL => have := E0.o; omega); intro R0 w9 ho hb hg hat; rw [← y0.o] at ho; obtain ⟨b0, HB, B0⟩ := b_ (vw (ok := (fun _ => True)) (rR_ b0.o) hg hat) <| b_ (hb) <| c_ (ho); clear ho hb hg hat))
 go_roundg k1
 case measure => have := K0.o; omega
 case rel => exact ⟨(F0), (wrap64 (a0 + 1)), f0_, H', ⟨by have := K0.o; omega⟩, ⟨by refine kR_ ?_; exact uW B0.o (fun _ hk => trivial)⟩, ⟨hB_⟩⟩
-- GIVEN: function 43 (dz)
end Go.Proofs.YtmiackbomcjboaaGreatDoor.P
