-- printed texts of this session, regrouped
import Derived.Test.YtnckhligcdieaaaMWA
import Derived.Test.YtnckhligcdieaaaMW7
import Derived.Test.YtnckhligcdieaaaMW8
import Derived.Test.YtnckhligcdieaaaMW6
import Derived.Test.YtnckhligcdieaaaHA5
import Derived.Test.YtnckhligcdieaaaPx0
import Derived.Test.YtnckhligcdieaaaPx1
import Derived.Test.YtnckhligcdieaaaPx2
import Derived.Test.YtnckhligcdieaaaPx5
namespace Go.Proofs.Ytnckhligcdieaaa.P
open Go.RowKit Go.Proofs.YtnckhligcdieaaaW.PrintWords Go.Proofs.YtnckhligcdieaaaW.PrintLast Go.Proofs.YtnckhligcdieaaaW.PrintMore
attribute [local go_sem] max2_int min2_int max_two min_two max_three min_three max_four min_four   -- for this text's walks alone
set_option linter.unusedVariables false
set_option linter.unusedSimpArgs false
set_option maxHeartbeats 8000000
set_option maxRecDepth 100000

/-! ### spec_DigestOf: function 138 -/
def spec_DigestOf.f (k : Nat) (a0 : ByteArray) : Option (ByteArray) := (spec_HasherNew.f k).bind fun bt242 => ((spec_HashMore.f k bt242.1 bt242.2.1 bt242.2.2 a0).bind fun bt245 => ((spec_HashEnd.f k bt245.1 bt245.2.1 bt245.2.2).bind fun t248 => (some t248)))
theorem spec_DigestOf.mono : ∀ a0 k, LeO (spec_DigestOf.f k a0) (spec_DigestOf.f (k + 1) a0) := by
 intro a0 k
 unfold spec_DigestOf.f
 exact o3_ spec_HashEnd.mono spec_HashMore.mono spec_HasherNew.mono
theorem spec_DigestOf.calls (k : Nat) (a0 : ByteArray) (r : ByteArray) (w : World) (h : spec_DigestOf.f k a0 = some r) :
  Calls Try.prog 138 #[.string a0] w fun e w' => e = .returned (.string r) ∧ Below w.heap.size w w' := by
 have HB := Aside0.mk (Below.refl w.heap.size w)
 delta spec_DigestOf.f at h
 have H := h
 clear h
 obtain ⟨⟨t242, t243, t244⟩, A2, H⟩ := bN_ H
 obtain ⟨⟨t245, t246, t247⟩, A3, H⟩ := bN_ H
 obtain ⟨t248, A4, H⟩ := bN_ H
 obtain rfl := Option.some.inj H
 go_enter Try.func138, Try.ntmps138
 go_wp2_with (first | ((with_reducible refine gate_callee (f := 141) rfl ?_); refine goesL_ (some 3) rfl rfl Try.func141 (by kernel_rfl) rfl #[] rfl aM_ ?_; (with_reducible refine (spec_HasherNew.calls k  t242 t243 t244 _ A2.out).mono ?_); rintro e w5 ⟨rfl, hb⟩; refine ⟨_, rfl, ?_⟩; replace HB := Aside0.mk (below_step (hB_) hb); (try clear hb)) | ((with_reducible refine gate_callee (f := 140) rfl ?_); refine goesL_ (some 5) rfl rfl Try.func140 (by kernel_rfl) rfl #[.agg #[.string t242, .string t243, .int .i64 t244], .string a0] rfl aM_ ?_; (with_reducible refine (spec_HashMore.calls k t242 t243 t244 a0 t245 t246 t247 _ A3.out).mono ?_); rintro e w6 ⟨rfl, hb⟩; refine ⟨_, rfl, ?_⟩; replace HB := Aside0.mk (below_step (hB_) hb); (try clear hb)) | ((with_reducible refine gate_callee (f := 139) rfl ?_); refine goesL_ (some 6) rfl rfl Try.func139 (by kernel_rfl) rfl #[.agg #[.string t245, .string t246, .int .i64 t247]] rfl aM_ ?_; (with_reducible refine (spec_HashEnd.calls k t245 t246 t247 t248 _ A4.out).mono ?_); rintro e w7 ⟨rfl, hb⟩; refine ⟨_, rfl, ?_⟩; replace HB := Aside0.mk (below_step (hB_) hb); (try clear hb)))
 go_ret
 exact ⟨by first | rfl | (simp [errW_none, errW_some] <;> rfl) | (simp [*, errW_none, errW_some] <;> rfl), hB_⟩

/-! ### spec_Chop: function 136 -/
def spec_Chop.f (k : Nat) (a0 : ByteArray) : Option (ByteArray) := (spec_DigestOf.f k a0).bind fun t249 => (if 0 ≤ 4 then (if 4 ≤ (t249.size : Int) then (some (t249.extract 0 4)) else (none)) else (none))
theorem spec_Chop.mono : ∀ a0 k, LeO (spec_Chop.f k a0) (spec_Chop.f (k + 1) a0) := by
 intro a0 k
 unfold spec_Chop.f
 exact o1_ spec_DigestOf.mono
theorem spec_Chop.calls (k : Nat) (a0 : ByteArray) (r : ByteArray) (w : World) (h : spec_Chop.f k a0 = some r) :
  Calls Try.prog 136 #[.string a0] w fun e w' => e = .returned (.string r) ∧ Below w.heap.size w w' := by
 have HB := Aside0.mk (Below.refl w.heap.size w)
 delta spec_Chop.f at h
 have H := h
 clear h
 obtain ⟨t249, A2, H⟩ := bN_ H
 obtain ⟨c3, H⟩ := iN_ H
 have c3b0 := eq_true c3
 have c3b1 := decide_eq_true c3
 clear c3
 obtain ⟨c4, H⟩ := iN_ H
 have c4b0 := eq_true c4
 have c4b1 := decide_eq_true c4
 clear c4
 obtain rfl := Option.some.inj H
 go_enter Try.func136, Try.ntmps136
 go_wp2_with (first | ((with_reducible refine gate_callee (f := 138) rfl ?_); refine goesL_ (some 4) rfl rfl Try.func138 (by kernel_rfl) rfl #[.string a0] rfl aM_ ?_; (with_reducible refine (spec_DigestOf.calls k a0 t249 _ A2.out).mono ?_); rintro e w5 ⟨rfl, hb⟩; refine ⟨_, rfl, ?_⟩; replace HB := Aside0.mk (below_step (hB_) hb); (try clear hb)))
 go_ret
 exact ⟨by first | rfl | (simp [errW_none, errW_some] <;> rfl) | (simp [*, errW_none, errW_some] <;> rfl), hB_⟩

/-! ### spec_Node: function 137 -/
def spec_Node.f (k : Nat) (a0 : Int) (a1 : Int) (a2 : ByteArray) (a3 : ByteArray) : Option (ByteArray) := (spec_l06Byte.f a0).bind fun t250 => ((spec_l06Byte.f a1).bind fun t251 => (if t250.size + t251.size ≤ 9223372036854775807 then (if (t250 ++ t251).size + a2.size ≤ 9223372036854775807 then (if ((t250 ++ t251) ++ a2).size + a3.size ≤ 9223372036854775807 then (if (((t250 ++ t251) ++ a2) ++ a3).size + 1 ≤ 9223372036854775807 then ((spec_Chop.f k ((((t250 ++ t251) ++ a2) ++ a3) ++ (⟨#[110]⟩ : ByteArray))).bind fun t252 => (some t252)) else (none)) else (none)) else (none)) else (none)))
theorem spec_Node.mono : ∀ a0 a1 a2 a3 k, LeO (spec_Node.f k a0 a1 a2 a3) (spec_Node.f (k + 1) a0 a1 a2 a3) := by
 intro a0 a1 a2 a3 k
 unfold spec_Node.f
 exact o1_ spec_Chop.mono
theorem spec_Node.calls (k : Nat) (a0 : Int) (a1 : Int) (a2 : ByteArray) (a3 : ByteArray) (r : ByteArray) (w : World) (h : spec_Node.f k a0 a1 a2 a3 = some r) :
  Calls Try.prog 137 #[.int .i64 a0, .int .i64 a1, .string a2, .string a3] w fun e w' => e = .returned (.string r) ∧ Below w.heap.size w w' := by
 have HB := Aside0.mk (Below.refl w.heap.size w)
 delta spec_Node.f at h
 have H := h
 clear h
 obtain ⟨t250, A5, H⟩ := bN_ H
 obtain ⟨t251, A6, H⟩ := bN_ H
 obtain ⟨c7, H⟩ := iN_ H
 have c7b0 := eq_true c7
 have c7b1 := decide_eq_true c7
 try have c7b2 : (9223372036854775807 < t250.size + t251.size) = False := eq_false (Nat.not_lt.2 c7)
 obtain ⟨c8, H⟩ := iN_ H
 have c8b0 := eq_true c8
 have c8b1 := decide_eq_true c8
 try have c8b2 : (9223372036854775807 < (t250 ++ t251).size + a2.size) = False := eq_false (Nat.not_lt.2 c8)
 try (have c8b9 : (9223372036854775807 < (t250 ++ t251).size + a2.size) = False := c8b2; simp only [ByteArray.size_append] at c8b9)
 obtain ⟨c9, H⟩ := iN_ H
 have c9b0 := eq_true c9
 have c9b1 := decide_eq_true c9
 try have c9b2 : (9223372036854775807 < ((t250 ++ t251) ++ a2).size + a3.size) = False := eq_false (Nat.not_lt.2 c9)
 try (have c9b9 : (9223372036854775807 < ((t250 ++ t251) ++ a2).size + a3.size) = False := c9b2; simp only [ByteArray.size_append] at c9b9)
 obtain ⟨c10, H⟩ := iN_ H
 have c10b0 := eq_true c10
 have c10b1 := decide_eq_true c10
 try have c10b2 : (9223372036854775807 < (((t250 ++ t251) ++ a2) ++ a3).size + 1) = False := eq_false (Nat.not_lt.2 c10)
 try (have c10b9 : (9223372036854775807 < (((t250 ++ t251) ++ a2) ++ a3).size + 1) = False := c10b2; simp only [ByteArray.size_append] at c10b9)
 obtain ⟨t252, A11, H⟩ := bN_ H
 obtain rfl := Option.some.inj H
 go_enter Try.func137, Try.ntmps137
 go_wp2_with (first | ((with_reducible refine gate_callee (f := 30) rfl ?_); refine goesL_ (some 10) rfl rfl Try.func30 (by kernel_rfl) rfl #[.int .i64 a0] rfl aM_ ?_; (with_reducible refine (spec_l06Byte.calls a0 t250 _ A5.out).mono ?_); rintro e w12 ⟨rfl, hb⟩; refine ⟨_, rfl, ?_⟩; replace HB := Aside0.mk (below_step (hB_) hb); (try clear hb)) | ((with_reducible refine gate_callee (f := 30) rfl ?_); refine goesL_ (some 12) rfl rfl Try.func30 (by kernel_rfl) rfl #[.int .i64 a1] rfl aM_ ?_; (with_reducible refine (spec_l06Byte.calls a1 t251 _ A6.out).mono ?_); rintro e w13 ⟨rfl, hb⟩; refine ⟨_, rfl, ?_⟩; replace HB := Aside0.mk (below_step (hB_) hb); (try clear hb)) | ((with_reducible refine gate_callee (f := 136) rfl ?_); refine goesL_ (some 19) rfl rfl Try.func136 (by kernel_rfl) rfl #[.string ((((t250 ++ t251) ++ a2) ++ a3) ++ (⟨#[110]⟩ : ByteArray))] rfl aM_ ?_; (with_reducible refine (spec_Chop.calls k ((((t250 ++ t251) ++ a2) ++ a3) ++ (⟨#[110]⟩ : ByteArray)) t252 _ A11.out).mono ?_); rintro e w14 ⟨rfl, hb⟩; refine ⟨_, rfl, ?_⟩; replace HB := Aside0.mk (below_step (hB_) hb); (try clear hb)))
 go_ret
 exact ⟨by first | rfl | (simp [errW_none, errW_some] <;> rfl) | (simp [*, errW_none, errW_some] <;> rfl), hB_⟩

/-! ### spec_LevelUp: function 132 -/
def spec_LevelUp.l0 : Nat → Int → List ByteArray → List ByteArray → Int → Option (List ByteArray)
 | 0, _, _, _, _ => none
 | k + 1, x0, x1, x5, x6 => if (wrap64 ((wrap64 (2 * x6)) + 1)) < (x1.length : Int) then (if 0 ≤ (wrap64 (2 * x6)) then (if (wrap64 (2 * x6)) < (x1.length : Int) then (if 0 ≤ (wrap64 ((wrap64 (2 * x6)) + 1)) then ((spec_Node.f k x0 x6 (rdOf ByteArray.empty x1 (wrap64 (2 * x6))) (rdOf ByteArray.empty x1 (wrap64 ((wrap64 (2 * x6)) + 1)))).bind fun t258 => (if x5.length < 8796093022208 then (spec_LevelUp.l0 k x0 x1 (x5 ++ [t258]) (wrap64 (x6 + 1))) else (none))) else (none)) else (none)) else (none)) else (some x5)
def spec_LevelUp.f (k : Nat) (a0 : Int) (l1 : List ByteArray) : Option (List ByteArray) := spec_LevelUp.l0 k a0 l1 (([] : List ByteArray)) 0
theorem spec_LevelUp.mono_l : ∀ k, (∀ y0 y1 y2 y3, LeO (spec_LevelUp.l0 k y0 y1 y2 y3) (spec_LevelUp.l0 (k + 1) y0 y1 y2 y3))
 | 0 => fun _ _ _ _ r h => by simp [spec_LevelUp.l0] at h
 | k + 1 => by
  have ih0 := spec_LevelUp.mono_l k
  intros; unfold spec_LevelUp.l0; exact o2_ ih0 spec_Node.mono
theorem spec_LevelUp.mono : ∀ a0 a1 k, LeO (spec_LevelUp.f k a0 a1) (spec_LevelUp.f (k + 1) a0 a1) := by
 intro a0 a1 k
 have ih0 := spec_LevelUp.mono_l k
 unfold spec_LevelUp.f
 exact o2_ ih0 spec_Node.mono
def spec_LevelUp.T5 : Bool × List (List Nat × List Nat) := (true, [([], []), ([], []), ([], []), ([], []), ([], []), ([4], [4]), ([3, 5], [3, 5]), ([6], [6]), ([], []), ([], []), ([9], [9]), ([10], [10]), ([8, 11], [8, 11]), ([12], [12]), ([1, 2, 7, 13], [1, 2, 7, 13]), ([14], [14]), ([0, 15, 14], [0, 15]), ([16, 16, 0, 1, 2, 3, 4, 5, 6, 7, 8, 9, 10, 11, 12, 13, 14, 15, 16], [0, 16])])
def spec_LevelUp.B5 : List Nat := [0, 0, 0, 0, 0, 16, 56, 120, 0, 0, 512, 1536, 3840, 7936, 16382, 32766, 65535, 131071]
theorem spec_LevelUp.tab5 : rtab .any (opsOf Try.f132 5) = spec_LevelUp.T5 := by kernel_rfl
theorem spec_LevelUp.bits5 : waitsOk spec_LevelUp.T5.2 spec_LevelUp.B5 = true := by kernel_rfl
theorem spec_LevelUp.calls (k : Nat) (a0 : Int) (A1 : Option Addr) (c1 : Nat) (l1 : List ByteArray) (r : List ByteArray) (w : World) (hr1 : Kd.C Kd.string w A1 l1.length l1) (hc1 : l1.length ≤ c1) (h : spec_LevelUp.f k a0 l1 = some r) :
  Calls Try.prog 132 #[.int .i64 a0, .slice A1 l1.length c1] w fun e w' => ∃ v0_ : Value, e = .returned (v0_) ∧ Kd.R Kd.string 9 w' w.heap.size (fun _ => True) v0_ r ∧ Below w.heap.size w w' := by
 have HR1 := Aside0.mk hr1
 have HC1 := Aside0.mk hc1
 clear hr1 hc1
 have HB := Aside0.mk (Below.refl w.heap.size w)
 delta spec_LevelUp.f at h
 have H := h
 clear h
 obtain ⟨y253, hy253⟩ : ∃ y_ : List ByteArray, y_ = (([] : List ByteArray)) := ⟨_, rfl⟩
 first | replace H := yb_ hy253 H | rw [← hy253] at H
 have Ny253 := Aside0.mk hy253
 clear hy253
 have H' := Aside0.mk H
 clear H
 go_enter Try.func132, Try.ntmps132
 go_wp2_with (first | ((with_reducible refine gate_dst (N := 7) rfl ?_); refine Kd.R_lit Kd.string _ 9 ?hg (N := 7) ?hd (xs := ([] : List ByteArray)) (inner := []) (ok := fun _ => True) (okp := fun _ => True) ?hr ?hp (fun _ hk => hk) trivial (Below.refl _ _) (Nat.le_refl _) (by simp) ?_; (case hd => rfl); (case hg => rfl); (case hr => first | (go_simp; done) | (go_simp; rfl)); (case hp => exact (Reps.none _ _)); intro v254 w3 ho4 hb hg_ hnew_; clear hg_ hnew_; (first | rw [← Ny253.out] at ho4 | (simp only [Int.reduceToNat] at ho4; rw [← Ny253.out] at ho4)); have n_ := b_ (Kd.R_lower ho4 (below_size (hB_))) <| c_ (below_step (hB_) hb); clear HB; obtain ⟨HO255, HB⟩ := n_; clear hb ho4))
 go_loopg [5, 6] k (fun kq v5 v6 w' => ∃ (x5_1 : List ByteArray) (x6_1 : Int), v6 = .int .i64 x6_1 ∧ Aside0 (spec_LevelUp.l0 kq a0 l1 x5_1 x6_1 = some r) ∧ Aside0 (kq ≤ k) ∧ Aside0 (Kd.R Kd.string 9 w' w.heap.size (fun _ => True) v5 x5_1) ∧ Aside0 (Below w.heap.size w w'))
 case atStart => exact ⟨(y253), (0), (by first | rfl | (simp; done) | (simp [*]; done)), H', ⟨Nat.le_refl _⟩, ⟨rR_ HO255.out⟩, ⟨hB_⟩⟩
 case round =>
  clear H'
  obtain ⟨x5_1, x6_1, rfl, HA, HK1, HO_5, HB⟩ := hrel
  cases gk with
  | zero => exact absurd HA.out (by simp [spec_LevelUp.l0])
  | succ k1 =>
   have H := HA.out
   clear HA
   simp only [spec_LevelUp.l0] at H
   by_cases c5 : (wrap64 ((wrap64 (2 * x6_1)) + 1)) < (l1.length : Int)
   rotate_left
   ·rw [if_neg c5] at H
    have c5b0 := decide_eq_false c5
    clear c5
    obtain rfl := Option.some.inj H
    go_wp2
    go_ret
    exact ⟨_, by first | rfl | (simp [errW_none, errW_some] <;> rfl) | (simp [*, errW_none, errW_some] <;> rfl), rR_ HO_5.out, hB_⟩
   rw [if_pos c5] at H
   have c5b0 := decide_eq_true c5
   clear c5
   obtain ⟨ji6, hji6⟩ : ∃ j_ : Int, (wrap64 (2 * x6_1)) = j_ := ⟨_, rfl⟩
   first | rw [hji6] at H | simp only [hji6] at H
   (try rw [hji6] at c5b0)
   have hji6w : (IntKind.i64.wrap (2 * x6_1)) = ji6 := (i64_w _).trans hji6
   (try rw [hji6] at c5b0)
   obtain ⟨c7b0, H⟩ := iD_ H
   obtain ⟨c8b0, H⟩ := iD_ H
   obtain ⟨ji9, hji9⟩ : ∃ j_ : Int, (wrap64 ((ji6) + 1)) = j_ := ⟨_, rfl⟩
   first | rw [hji9] at H | simp only [hji9] at H
   have hji9w : (IntKind.i64.wrap ((ji6) + 1)) = ji9 := (i64_w _).trans hji9
   (try rw [hji9] at c5b0)
   obtain ⟨c10b0, H⟩ := iD_ H
   obtain ⟨t258, A11, H⟩ := bN_ H
   obtain ⟨c12, H⟩ := iN_ H
   have LMc12 := Aside0.mk c12
   clear c12
   obtain ⟨y259, hy259⟩ : ∃ y_ : List ByteArray, y_ = (x5_1 ++ [t258]) := ⟨_, rfl⟩
   first | replace H := yb_ hy259 H | rw [← hy259] at H
   have Ny259 := Aside0.mk hy259
   clear hy259
   have H' := Aside0.mk H
   clear H
   try go_wp2
   have n_ := b_ (Kd.R_drew HO_5.out) <| c_ (below_drew1 HB.out)
   clear HO_5 HB
   obtain ⟨HO_5, HB⟩ := n_
   have p256 : 0 ≤ ((ji6) : Int) := of_decide_eq_true (by first | (with_reducible assumption) | assumption)
   have q256 : (ji6) < (l1.length : Int) := of_decide_eq_true (by first | (with_reducible assumption) | assumption)
   obtain ⟨ad256, e256, hx256_0⟩ := Kd.at_string HR1.out (ji6) p256 q256
   have hw256_0 := hx256_0
   cases e256
   replace hx256_0 := (HB.out.cell (World.block_lt_of_cell? w _ hx256_0)).trans hx256_0
   replace p256 := eq_true p256
   replace q256 := eq_true q256
   have p257 : 0 ≤ ((ji9) : Int) := of_decide_eq_true (by first | (with_reducible assumption) | assumption)
   have q257 : (ji9) < (l1.length : Int) := of_decide_eq_true (by first | (with_reducible assumption) | assumption)
   obtain ⟨ad257, e257, hx257_0⟩ := Kd.at_string HR1.out (ji9) p257 q257
   have hw257_0 := hx257_0
   obtain rfl : ad256 = ad257 := (by injection e257)
   replace hx257_0 := (HB.out.cell (World.block_lt_of_cell? w _ hx257_0)).trans hx257_0
   replace p257 := eq_true p257
   replace q257 := eq_true q257
   refine start_ (n := 18) (S := fun w' => w'.cell? (ad256.add ((ji6)).toNat) = some (.string (rdOf ByteArray.empty l1 (ji6))) ∧ w'.cell? (ad256.add ((ji9)).toNat) = some (.string (rdOf ByteArray.empty l1 (ji9)))) (ds := []) (bb_ 18 0) (by kernel_rfl) rfl rfl ⟨((HB.out.cell (World.block_lt_of_cell? w _ hw256_0)).trans hw256_0), ((HB.out.cell (World.block_lt_of_cell? w _ hw257_0)).trans hw257_0)⟩ (fun hHeld => ?_); refine with_tabW spec_LevelUp.tab5 spec_LevelUp.bits5 (fun HT_ HW_ => ?_)
   generalize wr.drew = w13 at HO_5 HB hx256_0 hx257_0 hHeld ⊢
   refine pS_ 0 16 (bb_ 18 1) HT_.out ?_
   refine pS_ 1 17 (bb_ 18 3) HT_.out ?_
   refine pS_ 2 18 (bb_ 18 7) HT_.out ?_
   refine pS_ 3 19 (bb_ 18 15) HT_.out ?_
   refine pS_ 4 20 (bb_ 18 31) HT_.out ?_
   refine pS_ 5 21 (bb_ 18 63) HT_.out ?_
   refine pS_ 6 22 (bb_ 18 127) HT_.out ?_
   refine pS_ 8 24 (bb_ 18 383) HT_.out ?_
   refine pS_ 9 25 (bb_ 18 895) HT_.out ?_
   refine pS_ 10 26 (bb_ 18 1919) HT_.out ?_
   refine pS_ 11 27 (bb_ 18 3967) HT_.out ?_
   refine pS_ 12 28 (bb_ 18 8063) HT_.out ?_
   refine tS_ 7 23 (bb_ 18 8191) (take_ofW HT_.out HW_.out (by kernel_rfl)) hHeld ?_
   refine tS_ 13 29 (bb_ 18 16383) (take_ofW HT_.out HW_.out (by kernel_rfl)) hHeld ?_
   refine one_ (i := 14) (N := some 30) (bb_ 18 32767) rfl rfl (one_of HT_.out (by kernel_rfl)) (by decide) (fun K hK => ?_)
   refine goes_ Try.func137 (by kernel_rfl) rfl #[.int .i64 a0, .int .i64 x6_1, .string (rdOf ByteArray.empty l1 (ji6)), .string (rdOf ByteArray.empty l1 (ji9))] (by rfl) rfl rfl (by (try simp only [List.map_toArray, List.map_cons, List.map_nil]); first | done | (simp only [hji6, hji9]; rfl) | rfl | (simp only [List.length_drop, List.length_take]; rfl)) ?_
   with_reducible refine (spec_Node.calls k1 a0 x6_1 (rdOf ByteArray.empty l1 (ji6)) (rdOf ByteArray.empty l1 (ji9)) t258 _ A11.out).mono ?_
   rintro e w14 ⟨rfl, hb⟩
   refine ⟨_, rfl, ?_⟩
   have n_ := b_ (Kd.R_below (rR_ HO_5.out) hb) <| c_ (below_step (hB_) hb)
   clear HO_5 HB
   obtain ⟨HO_5, HB⟩ := n_
   refine hK.out _ _ ⟨((HB.out.cell (World.block_lt_of_cell? w _ hw256_0)).trans hw256_0), ((HB.out.cell (World.block_lt_of_cell? w _ hw257_0)).trans hw257_0)⟩ (fun hHeld => ?_)
   clear hK K
   refine norm_ (a' := ?_) ?_ ?_
   rotate_left
   ·show Act.put _ (some 30) _ = _
    simp only [Act.put, List.setIfInBounds_toArray, List.set_cons_zero, List.set_cons_succ, i64_w, i32_w]
    rfl
   refine one_ (i := 15) (N := some 31) (bb_ 18 65535) rfl rfl (one_of HT_.out (by kernel_rfl)) (by decide) (fun K hK => ?_)
   refine value_ (w1 := ?_) (v := ?_) (by rfl) rfl ?_ ?_
   rotate_left 2
   ·go_simp
    constructor
    ·rfl
    ·rfl
   refine hK.out _ _ ⟨(World.cell?_alloc_lt _ _ _ (World.block_lt_of_cell? _ _ (((HB.out.cell (World.block_lt_of_cell? w _ hw256_0)).trans hw256_0)))).trans (((HB.out.cell (World.block_lt_of_cell? w _ hw256_0)).trans hw256_0)), (World.cell?_alloc_lt _ _ _ (World.block_lt_of_cell? _ _ (((HB.out.cell (World.block_lt_of_cell? w _ hw257_0)).trans hw257_0)))).trans (((HB.out.cell (World.block_lt_of_cell? w _ hw257_0)).trans hw257_0))⟩ (fun hHeld => ?_)
   clear hK K
   refine norm_ (a' := ?_) ?_ ?_
   rotate_left
   ·show Act.put _ (some 31) _ = _
    simp only [Act.put, List.setIfInBounds_toArray, List.set_cons_zero, List.set_cons_succ, i64_w, i32_w]
    rfl
   refine one_ (i := 16) (N := some 32) (bb_ 18 131071) rfl rfl (one_of HT_.out (by kernel_rfl)) (by decide) (fun K hK => ?_)
   refine Kd.R_append_step Kd.string (w0 := w) w.heap.size (by rfl) (.tmp 16) (.tmp 31) 35 9 (.string ⟨#[]⟩) 16 rfl Try.underlying35 info9 rfl (by decide) (by omega) u5 x5_1 t258 [.string t258] (fun _ => True) (fun _ => False) rfl rfl ?aP (fun _ hk => hk.elim) ?aF ?aO ?aB ?aS ?aL ?_
   (case aP => exact rfl)
   (case aB => exact (hB_))
   (case aF => exact (fun _ _ => trivial))
   (case aO => exact (rR_ HO_5.out))
   (case aS => exact (below_size (hB_)))
   (case aL => have := LMc12.out; omega)
   intro v260 w15 ho hb hg hat
   rw [← Ny259.out] at ho
   have n_ := b_ (hb) <| c_ (ho)
   clear HB HO_5
   obtain ⟨HB, HO261⟩ := n_
   clear ho hb hg hat
   refine hK.out _ _ ⟨((HB.out.cell (World.block_lt_of_cell? w _ hw256_0)).trans hw256_0), ((HB.out.cell (World.block_lt_of_cell? w _ hw257_0)).trans hw257_0)⟩ (fun hHeld => ?_)
   clear hK K
   refine norm_ (a' := ?_) ?_ ?_
   rotate_left
   ·show Act.put _ (some 32) _ = _
    simp only [Act.put, List.setIfInBounds_toArray, List.set_cons_zero, List.set_cons_succ, i64_w, i32_w]
    rfl
   refine pS_ 17 5 (bb_ 18 262143) HT_.out ?_
   refine done_ (done_of HT_.out (by kernel_rfl)) ?_
   try go_wp2
   go_roundg k1
   case measure => have := HK1.out; omega
   case rel => exact ⟨(y259), (wrap64 (x6_1 + 1)), (by first | rfl | (simp; done) | (simp [*]; done)), H', ⟨by have := HK1.out; omega⟩, ⟨rR_ HO261.out⟩, ⟨hB_⟩⟩

/-! ### spec_RootOf: function 124 -/
def spec_RootOf.l0 : Nat → List ByteArray → Int → Option (ByteArray)
 | 0, _, _ => none
 | k + 1, x0, x3 => if x3 ≤ 2 then ((spec_LevelUp.f k x3 x0).bind fun t262 => (spec_RootOf.l0 k t262 (wrap64 (x3 + 1)))) else (if 0 < (x0.length : Int) then (some (rdOf ByteArray.empty x0 0)) else (none))
def spec_RootOf.f (k : Nat) (l0 : List ByteArray) : Option (ByteArray) := if (l0.length : Int) = 4 then (spec_RootOf.l0 k l0 1) else (some (⟨#[]⟩ : ByteArray))
theorem spec_RootOf.mono_l : ∀ k, (∀ y0 y1, LeO (spec_RootOf.l0 k y0 y1) (spec_RootOf.l0 (k + 1) y0 y1))
 | 0 => fun _ _ r h => by simp [spec_RootOf.l0] at h
 | k + 1 => by
  have ih0 := spec_RootOf.mono_l k
  intros; unfold spec_RootOf.l0; exact o2_ ih0 spec_LevelUp.mono
theorem spec_RootOf.mono : ∀ a0 k, LeO (spec_RootOf.f k a0) (spec_RootOf.f (k + 1) a0) := by
 intro a0 k
 have ih0 := spec_RootOf.mono_l k
 unfold spec_RootOf.f
 exact o2_ ih0 spec_LevelUp.mono
theorem spec_RootOf.calls (k : Nat) (P0_ : Nat → Prop) (A0 : Option Addr) (c0 : Nat) (l0 : List ByteArray) (r : ByteArray) (w : World) (hs0 : Kd.V Kd.string 9 w w.heap.size (fun k_ => P0_ k_) (.slice A0 l0.length c0) l0) (h : spec_RootOf.f k l0 = some r) :
  Calls Try.prog 124 #[.slice A0 l0.length c0] w fun e w' => e = .returned (.string r) ∧ Below w.heap.size w w' := by
 have HO0 := Aside0.mk (show Kd.V Kd.string 9 w w.heap.size (fun k_ => (P0_ k_ ∨ w.heap.size ≤ k_)) (.slice A0 l0.length c0) l0 from Kd.V_mono hs0 (fun k_ hk => .inl hk))
 have HB := Aside0.mk (Below.refl w.heap.size w)
 delta spec_RootOf.f at h
 have H := h
 clear h
 by_cases c2 : (l0.length : Int) = 4
 rotate_left
 ·rw [if_neg c2] at H
  have c2b0 : ((l0.length : Int) == 4) = false := beq_eq_false_iff_ne.mpr c2
  have c2b1 : ((l0.length : Int) != 4) = true := bne_iff_ne.mpr c2
  obtain rfl := Option.some.inj H
  go_enter Try.func124, Try.ntmps124
  go_wp2
  go_ret
  exact ⟨by first | rfl | (simp [errW_none, errW_some] <;> rfl) | (simp [*, errW_none, errW_some] <;> rfl), hB_⟩
 rw [if_pos c2] at H
 have c2b0 : ((l0.length : Int) == 4) = true := beq_iff_eq.mpr c2
 have c2b1 : ((l0.length : Int) != 4) = false := bne_eq_false_iff_eq.mpr c2
 clear c2
 have H' := Aside0.mk H
 clear H
 go_enter Try.func124, Try.ntmps124
 go_wp2
 go_loopg [0, 3] k (fun kq v0 v3 w' => ∃ (x0_1 : List ByteArray) (x3_1 : Int), v3 = .int .i64 x3_1 ∧ Aside0 (spec_RootOf.l0 kq x0_1 x3_1 = some r) ∧ Aside0 (kq ≤ k) ∧ Aside0 (Kd.V Kd.string 9 w' w.heap.size (fun k_ => (P0_ k_ ∨ w.heap.size ≤ k_)) v0 x0_1) ∧ Aside0 (Below w.heap.size w w'))
 case atStart => exact ⟨(l0), (1), (by first | rfl | (simp; done) | (simp [*]; done)), H', ⟨Nat.le_refl _⟩, ⟨rV_ HO0.out⟩, ⟨hB_⟩⟩
 case round =>
  clear H'
  obtain ⟨x0_1, x3_1, rfl, HA, HK1, HO_0, HB⟩ := hrel
  cases gk with
  | zero => exact absurd HA.out (by simp [spec_RootOf.l0])
  | succ k1 =>
   have H := HA.out
   clear HA
   simp only [spec_RootOf.l0] at H
   by_cases c3 : x3_1 ≤ 2
   ·rw [if_pos c3] at H
    have c3b0 := decide_eq_true c3
    clear c3
    obtain ⟨t262, A4, H⟩ := bN_ H
    have H' := Aside0.mk H
    clear H
    obtain ⟨Ao5, co5, eo5⟩ := Kd.V_slice HO_0.out
    subst eo5
    go_wp2_with (first | ((with_reducible refine gate_callee (f := 132) rfl ?_); refine goesL_ (some 13) rfl rfl Try.func132 (by kernel_rfl) rfl #[.int .i64 x3_1, .slice Ao5 x0_1.length co5] rfl aM_ ?_; (with_reducible refine (spec_LevelUp.calls k1 x3_1 _ _ x0_1 t262 _ ?side1 ?side2 A4.out).mono ?_); (case side1 => exact cR_ (Kd.V_reads' HO_0.out).2.2); (case side2 => exact (Kd.V_reads' HO_0.out).2.1); rintro e w6 ⟨v263, rfl, ho0, hb⟩; refine ⟨_, rfl, ?_⟩; have n_ := b_ (Kd.V_elder' (rV_ HO_0.out) (Kd.R_base ho0) hb) <| b_ (Kd.R_lower (Kd.R_newM (M := fun k_ => (w.heap.size ≤ k_)) ho0 (below_size (hB_)) (fun k_ h_ => h_)) (below_size (hB_))) <| c_ (below_step (hB_) hb); clear HO_0 HB; obtain ⟨HO_0, HO264, HB⟩ := n_; (try clear ho0)))
    go_roundg k1
    case measure => have := HK1.out; omega
    case rel => exact ⟨(t262), (wrap64 (x3_1 + 1)), (by first | rfl | (simp; done) | (simp [*]; done)), H', ⟨by have := HK1.out; omega⟩, ⟨Kd.V_mono (Kd.R_V (by refine kR_ ?_; exact Kd.R_mono HO264.out (fun _ hk => hk.1))) (fun k_ hk => by first | exact ⟨(.inr (hk.1)), hk.2⟩ | exact (.inr (hk)))⟩, ⟨hB_⟩⟩
   rw [if_neg c3] at H
   have c3b0 := decide_eq_false c3
   clear c3
   obtain ⟨c7, H⟩ := iN_ H
   have c7b0 := decide_eq_true c7
   have c7b1 : decide (0 < x0_1.length) = true := decide_eq_true (by omega)
   clear c7
   obtain rfl := Option.some.inj H
   obtain ⟨Ao8, co8, eo8⟩ := Kd.V_slice HO_0.out
   subst eo8
   have p265 : 0 ≤ (0 : Int) := (by omega)
   have q265 : 0 < (x0_1.length : Int) := of_decide_eq_true (by first | (with_reducible assumption) | assumption)
   obtain ⟨ad265, e265, hx265_0⟩ := Kd.at_string (Kd.V_reads' HO_0.out).2.2 0 p265 q265
   cases e265
   have qi265 : (0 < x0_1.length) = True := eq_true (by omega)
   (try rw [show ((0 : Int)).toNat = 0 from rfl] at hx265_0)
   (try rw [Addr.add_zero'] at hx265_0)
   replace p265 := eq_true p265
   replace q265 := eq_true q265
   go_wp2
   go_ret
   exact ⟨by first | rfl | (simp [errW_none, errW_some] <;> rfl) | (simp [*, errW_none, errW_some] <;> rfl), hB_⟩

/-! ### spec_OnceKey: function 127 -/
def spec_OnceKey.l0 : Nat → ByteArray → Int → List ByteArray → Int → Option (List ByteArray)
 | 0, _, _, _, _ => none
 | k + 1, x0, x1, x5, x6 => if x6 < 10 then ((spec_l06Byte.f x1).bind fun t269 => (if x0.size + t269.size ≤ 9223372036854775807 then ((spec_l06Byte.f x6).bind fun t270 => (if (x0 ++ t269).size + t270.size ≤ 9223372036854775807 then (if ((x0 ++ t269) ++ t270).size + 1 ≤ 9223372036854775807 then ((spec_Chop.f k (((x0 ++ t269) ++ t270) ++ (⟨#[111]⟩ : ByteArray))).bind fun t271 => (if x5.length < 8796093022208 then (spec_OnceKey.l0 k x0 x1 (x5 ++ [t271]) (wrap64 (x6 + 1))) else (none))) else (none)) else (none))) else (none))) else (some x5)
def spec_OnceKey.f (k : Nat) (a0 : ByteArray) (a1 : Int) : Option (List ByteArray) := spec_OnceKey.l0 k a0 a1 (([] : List ByteArray)) 0
theorem spec_OnceKey.mono_l : ∀ k, (∀ y0 y1 y2 y3, LeO (spec_OnceKey.l0 k y0 y1 y2 y3) (spec_OnceKey.l0 (k + 1) y0 y1 y2 y3))
 | 0 => fun _ _ _ _ r h => by simp [spec_OnceKey.l0] at h
 | k + 1 => by
  have ih0 := spec_OnceKey.mono_l k
  intros; unfold spec_OnceKey.l0; exact o2_ ih0 spec_Chop.mono
theorem spec_OnceKey.mono : ∀ a0 a1 k, LeO (spec_OnceKey.f k a0 a1) (spec_OnceKey.f (k + 1) a0 a1) := by
 intro a0 a1 k
 have ih0 := spec_OnceKey.mono_l k
 unfold spec_OnceKey.f
 exact o2_ ih0 spec_Chop.mono
theorem spec_OnceKey.calls (k : Nat) (a0 : ByteArray) (a1 : Int) (r : List ByteArray) (w : World) (h : spec_OnceKey.f k a0 a1 = some r) :
  Calls Try.prog 127 #[.string a0, .int .i64 a1] w fun e w' => ∃ v0_ : Value, e = .returned (v0_) ∧ Kd.R Kd.string 9 w' w.heap.size (fun _ => True) v0_ r ∧ Below w.heap.size w w' := by
 have HB := Aside0.mk (Below.refl w.heap.size w)
 delta spec_OnceKey.f at h
 have H := h
 clear h
 obtain ⟨y266, hy266⟩ : ∃ y_ : List ByteArray, y_ = (([] : List ByteArray)) := ⟨_, rfl⟩
 first | replace H := yb_ hy266 H | rw [← hy266] at H
 have Ny266 := Aside0.mk hy266
 clear hy266
 have H' := Aside0.mk H
 clear H
 go_enter Try.func127, Try.ntmps127
 go_wp2_with (first | ((with_reducible refine gate_dst (N := 7) rfl ?_); refine Kd.R_lit Kd.string _ 9 ?hg (N := 7) ?hd (xs := ([] : List ByteArray)) (inner := []) (ok := fun _ => True) (okp := fun _ => True) ?hr ?hp (fun _ hk => hk) trivial (Below.refl _ _) (Nat.le_refl _) (by simp) ?_; (case hd => rfl); (case hg => rfl); (case hr => first | (go_simp; done) | (go_simp; rfl)); (case hp => exact (Reps.none _ _)); intro v267 w3 ho4 hb hg_ hnew_; clear hg_ hnew_; (first | rw [← Ny266.out] at ho4 | (simp only [Int.reduceToNat] at ho4; rw [← Ny266.out] at ho4)); have n_ := b_ (Kd.R_lower ho4 (below_size (hB_))) <| c_ (below_step (hB_) hb); clear HB; obtain ⟨HO268, HB⟩ := n_; clear hb ho4))
 go_loopg [5, 6] k (fun kq v5 v6 w' => ∃ (x5_1 : List ByteArray) (x6_1 : Int), v6 = .int .i64 x6_1 ∧ Aside0 (spec_OnceKey.l0 kq a0 a1 x5_1 x6_1 = some r) ∧ Aside0 (kq ≤ k) ∧ Aside0 (Kd.R Kd.string 9 w' w.heap.size (fun _ => True) v5 x5_1) ∧ Aside0 (Below w.heap.size w w'))
 case atStart => exact ⟨(y266), (0), (by first | rfl | (simp; done) | (simp [*]; done)), H', ⟨Nat.le_refl _⟩, ⟨rR_ HO268.out⟩, ⟨hB_⟩⟩
 case round =>
  clear H'
  obtain ⟨x5_1, x6_1, rfl, HA, HK1, HO_5, HB⟩ := hrel
  cases gk with
  | zero => exact absurd HA.out (by simp [spec_OnceKey.l0])
  | succ k1 =>
   have H := HA.out
   clear HA
   simp only [spec_OnceKey.l0] at H
   by_cases c5 : x6_1 < 10
   rotate_left
   ·rw [if_neg c5] at H
    have c5b0 := decide_eq_false c5
    clear c5
    obtain rfl := Option.some.inj H
    go_wp2
    go_ret
    exact ⟨_, by first | rfl | (simp [errW_none, errW_some] <;> rfl) | (simp [*, errW_none, errW_some] <;> rfl), rR_ HO_5.out, hB_⟩
   rw [if_pos c5] at H
   have c5b0 := decide_eq_true c5
   clear c5
   obtain ⟨t269, A6, H⟩ := bN_ H
   obtain ⟨c7, H⟩ := iN_ H
   have c7b0 := eq_true c7
   have c7b1 := decide_eq_true c7
   try have c7b2 : (9223372036854775807 < a0.size + t269.size) = False := eq_false (Nat.not_lt.2 c7)
   obtain ⟨t270, A8, H⟩ := bN_ H
   obtain ⟨c9, H⟩ := iN_ H
   have c9b0 := eq_true c9
   have c9b1 := decide_eq_true c9
   try have c9b2 : (9223372036854775807 < (a0 ++ t269).size + t270.size) = False := eq_false (Nat.not_lt.2 c9)
   try (have c9b9 : (9223372036854775807 < (a0 ++ t269).size + t270.size) = False := c9b2; simp only [ByteArray.size_append] at c9b9)
   obtain ⟨c10, H⟩ := iN_ H
   have c10b0 := eq_true c10
   have c10b1 := decide_eq_true c10
   try have c10b2 : (9223372036854775807 < ((a0 ++ t269) ++ t270).size + 1) = False := eq_false (Nat.not_lt.2 c10)
   try (have c10b9 : (9223372036854775807 < ((a0 ++ t269) ++ t270).size + 1) = False := c10b2; simp only [ByteArray.size_append] at c10b9)
   obtain ⟨t271, A11, H⟩ := bN_ H
   obtain ⟨c12, H⟩ := iN_ H
   have LMc12 := Aside0.mk c12
   clear c12
   obtain ⟨y272, hy272⟩ : ∃ y_ : List ByteArray, y_ = (x5_1 ++ [t271]) := ⟨_, rfl⟩
   first | replace H := yb_ hy272 H | rw [← hy272] at H
   have Ny272 := Aside0.mk hy272
   clear hy272
   have H' := Aside0.mk H
   clear H
   go_wp2_with (first | ((with_reducible refine gate_callee (f := 30) rfl ?_); refine goesL_ (some 15) rfl rfl Try.func30 (by kernel_rfl) rfl #[.int .i64 a1] rfl aM_ ?_; (with_reducible refine (spec_l06Byte.calls a1 t269 _ A6.out).mono ?_); rintro e w13 ⟨rfl, hb⟩; refine ⟨_, rfl, ?_⟩; have n_ := b_ (Kd.R_below (rR_ HO_5.out) hb) <| c_ (below_step (hB_) hb); clear HO_5 HB; obtain ⟨HO_5, HB⟩ := n_; (try clear hb)) | ((with_reducible refine gate_callee (f := 30) rfl ?_); refine goesL_ (some 18) rfl rfl Try.func30 (by kernel_rfl) rfl #[.int .i64 x6_1] rfl aM_ ?_; (with_reducible refine (spec_l06Byte.calls x6_1 t270 _ A8.out).mono ?_); rintro e w14 ⟨rfl, hb⟩; refine ⟨_, rfl, ?_⟩; have n_ := b_ (Kd.R_below (rR_ HO_5.out) hb) <| c_ (below_step (hB_) hb); clear HO_5 HB; obtain ⟨HO_5, HB⟩ := n_; (try clear hb)) | ((with_reducible refine gate_callee (f := 136) rfl ?_); refine goesL_ (some 21) rfl rfl Try.func136 (by kernel_rfl) rfl #[.string (((a0 ++ t269) ++ t270) ++ (⟨#[111]⟩ : ByteArray))] rfl aM_ ?_; (with_reducible refine (spec_Chop.calls k1 (((a0 ++ t269) ++ t270) ++ (⟨#[111]⟩ : ByteArray)) t271 _ A11.out).mono ?_); rintro e w15 ⟨rfl, hb⟩; refine ⟨_, rfl, ?_⟩; have n_ := b_ (Kd.R_below (rR_ HO_5.out) hb) <| c_ (below_step (hB_) hb); clear HO_5 HB; obtain ⟨HO_5, HB⟩ := n_; (try clear hb)) | ((with_reducible refine gate_builtin (b := .append) (xs := #[.tmp 12, .tmp 22]) rfl ?_); at_builtin; refine Kd.R_append Kd.string (w0 := w) w.heap.size rfl (.tmp 12) (.tmp 22) 35 9 (.string ⟨#[]⟩) 16 rfl Try.underlying35 info9 rfl (by decide) (by omega) u5 x5_1 t271 [.string t271] (fun _ => True) (fun _ => False) rfl rfl ?aP (fun _ hk => hk.elim) ?aF ?aO ?aB ?aS ?aL ?_; (case aP => exact rfl); (case aB => exact (hB_)); (case aF => exact (fun _ _ => trivial)); (case aO => exact (rR_ HO_5.out)); (case aS => exact (below_size (hB_))); (case aL => have := LMc12.out; omega); intro v273 w16 ho hb hg hat; rw [← Ny272.out] at ho; have n_ := b_ (hb) <| c_ (ho); clear HO_5 HB; obtain ⟨HB, HO274⟩ := n_; clear ho hb hg hat))
   go_roundg k1
   case measure => have := HK1.out; omega
   case rel => exact ⟨(y272), (wrap64 (x6_1 + 1)), (by first | rfl | (simp; done) | (simp [*]; done)), H', ⟨by have := HK1.out; omega⟩, ⟨rR_ HO274.out⟩, ⟨hB_⟩⟩

/-! ### spec_ChainOf: function 135 -/
mutual
def spec_ChainOf.l0 : Nat → ByteArray → Int → Int → Int → Int → Int → Option (ByteArray)
 | 0, _, _, _, _, _, _ => none
 | k + 1, x0, x1, x2, x3, x4, x11 => if x11 < x4 then (spec_ChainOf.j1 k x0 x1 x2 x3 x4 x11 (decide (x11 < 15))) else (spec_ChainOf.j1 k x0 x1 x2 x3 x4 x11 false)
def spec_ChainOf.j1 : Nat → ByteArray → Int → Int → Int → Int → Int → Bool → Option (ByteArray)
 | 0, _, _, _, _, _, _, _ => none
 | k + 1, x0, x1, x2, x3, x4, x11, x18 => if x18 = true then ((spec_l06Byte.f x1).bind fun t275 => ((spec_l06Byte.f x2).bind fun t276 => (if t275.size + t276.size ≤ 9223372036854775807 then ((spec_l06Byte.f (wrap64 ((Int.tmod x3 256) + x11))).bind fun t277 => (if (t275 ++ t276).size + t277.size ≤ 9223372036854775807 then (if ((t275 ++ t276) ++ t277).size + x0.size ≤ 9223372036854775807 then ((spec_Chop.f k (((t275 ++ t276) ++ t277) ++ x0)).bind fun t278 => (spec_ChainOf.l0 k t278 x1 x2 x3 x4 (wrap64 (x11 + 1)))) else (none)) else (none))) else (none)))) else (some x0)
end
def spec_ChainOf.f (k : Nat) (a0 : ByteArray) (a1 : Int) (a2 : Int) (a3 : Int) (a4 : Int) : Option (ByteArray) := spec_ChainOf.l0 k a0 a1 a2 a3 a4 0
theorem spec_ChainOf.mono_l : ∀ k, (∀ y0 y1 y2 y3 y4 y5, LeO (spec_ChainOf.l0 k y0 y1 y2 y3 y4 y5) (spec_ChainOf.l0 (k + 1) y0 y1 y2 y3 y4 y5)) ∧ (∀ y0 y1 y2 y3 y4 y5 y6, LeO (spec_ChainOf.j1 k y0 y1 y2 y3 y4 y5 y6) (spec_ChainOf.j1 (k + 1) y0 y1 y2 y3 y4 y5 y6))
 | 0 => ⟨fun _ _ _ _ _ _ r h => by simp [spec_ChainOf.l0] at h, fun _ _ _ _ _ _ _ r h => by simp [spec_ChainOf.j1] at h⟩
 | k + 1 => by
  obtain ⟨ih0, ih1⟩ := spec_ChainOf.mono_l k
  refine ⟨?_, ?_⟩ <;> (intros; (first | unfold spec_ChainOf.l0 | unfold spec_ChainOf.j1); exact o3_ ih0 ih1 spec_Chop.mono)
theorem spec_ChainOf.mono : ∀ a0 a1 a2 a3 a4 k, LeO (spec_ChainOf.f k a0 a1 a2 a3 a4) (spec_ChainOf.f (k + 1) a0 a1 a2 a3 a4) := by
 intro a0 a1 a2 a3 a4 k
 obtain ⟨ih0, ih1⟩ := spec_ChainOf.mono_l k
 unfold spec_ChainOf.f
 exact o3_ ih0 ih1 spec_Chop.mono
theorem spec_ChainOf.calls (k : Nat) (a0 : ByteArray) (a1 : Int) (a2 : Int) (a3 : Int) (a4 : Int) (r : ByteArray) (w : World) (h : spec_ChainOf.f k a0 a1 a2 a3 a4 = some r) :
  Calls Try.prog 135 #[.string a0, .int .i64 a1, .int .i64 a2, .int .i64 a3, .int .i64 a4] w fun e w' => e = .returned (.string r) ∧ Below w.heap.size w w' := by
 have HB := Aside0.mk (Below.refl w.heap.size w)
 delta spec_ChainOf.f at h
 have H := h
 clear h
 have H' := Aside0.mk H
 clear H
 go_enter Try.func135, Try.ntmps135
 go_wp2
 go_loopg [0, 11] k (fun kq v0 v11 w' => ∃ (x0_1 : ByteArray) (x11_1 : Int), v0 = .string x0_1 ∧ v11 = .int .i64 x11_1 ∧ Aside0 (spec_ChainOf.l0 kq x0_1 a1 a2 a3 a4 x11_1 = some r) ∧ Aside0 (kq ≤ k) ∧ Aside0 (Below w.heap.size w w'))
 case atStart => exact ⟨(a0), (0), (by first | rfl | (simp; done) | (simp [*]; done)), (by first | rfl | (simp; done) | (simp [*]; done)), H', ⟨Nat.le_refl _⟩, ⟨hB_⟩⟩
 case round =>
  clear H'
  obtain ⟨x0_1, x11_1, rfl, rfl, HA, HK1, HB⟩ := hrel
  cases gk with
  | zero => exact absurd HA.out (by simp [spec_ChainOf.l0])
  | succ k1 =>
   have H := HA.out
   clear HA
   simp only [spec_ChainOf.l0] at H
   have HC6 := Aside0.mk H
   clear H
   go_upto_region 2 with (fail)
   go_cut [18] (fun v18 wc => ∃ (kq : Nat) (x18_5 : Bool), v18 = .bool x18_5 ∧ Aside0 (spec_ChainOf.j1 kq x0_1 a1 a2 a3 a4 x11_1 x18_5 = some r) ∧ Aside0 (kq ≤ k1) ∧ Aside0 (Below w.heap.size w wc))
   case first =>
    have H := HC6.out
    clear HC6
    by_cases c7 : x11_1 < a4
    ·rw [if_pos c7] at H
     have c7b0 := decide_eq_true c7
     clear c7
     (first | rw [c7b0] | (simp only [i64_w, i32_w]; rw [c7b0]) | skip)
     have H' := Aside0.mk H
     clear H
     go_wp2
     go_meet
     case rel => exact ⟨_, (decide (x11_1 < 15)), (by first | rfl | (simp; done) | (simp [*]; done)), H', ⟨by have := HK1.out; first | omega | exact Nat.le_refl _⟩, ⟨hB_⟩⟩
    rw [if_neg c7] at H
    have c7b0 := decide_eq_false c7
    clear c7
    (first | rw [c7b0] | (simp only [i64_w, i32_w]; rw [c7b0]) | skip)
    have H' := Aside0.mk H
    clear H
    go_wp2
    go_meet
    case rel => exact ⟨_, (false), (by first | rfl | (simp; done) | (simp [*]; done)), H', ⟨by have := HK1.out; first | omega | exact Nat.le_refl _⟩, ⟨hB_⟩⟩
   case rest =>
    clear HC6
    obtain ⟨kq, x18_5, rfl, HA, HJ5, HB⟩ := hcut
    cases kq with
    | zero => exact absurd HA.out (by simp [spec_ChainOf.j1])
    | succ kj5 =>
     have H := HA.out
     clear HA
     simp only [spec_ChainOf.j1] at H
     by_cases c8 : x18_5 = true
     ·subst c8
      replace H := iT_ H
      obtain ⟨t275, A9, H⟩ := bN_ H
      obtain ⟨t276, A10, H⟩ := bN_ H
      obtain ⟨c11, H⟩ := iN_ H
      have c11b0 := eq_true c11
      have c11b1 := decide_eq_true c11
      try have c11b2 : (9223372036854775807 < t275.size + t276.size) = False := eq_false (Nat.not_lt.2 c11)
      obtain ⟨t277, A12, H⟩ := bN_ H
      obtain ⟨c13, H⟩ := iN_ H
      have c13b0 := eq_true c13
      have c13b1 := decide_eq_true c13
      try have c13b2 : (9223372036854775807 < (t275 ++ t276).size + t277.size) = False := eq_false (Nat.not_lt.2 c13)
      try (have c13b9 : (9223372036854775807 < (t275 ++ t276).size + t277.size) = False := c13b2; simp only [ByteArray.size_append] at c13b9)
      obtain ⟨c14, H⟩ := iN_ H
      have c14b0 := eq_true c14
      have c14b1 := decide_eq_true c14
      try have c14b2 : (9223372036854775807 < ((t275 ++ t276) ++ t277).size + x0_1.size) = False := eq_false (Nat.not_lt.2 c14)
      try (have c14b9 : (9223372036854775807 < ((t275 ++ t276) ++ t277).size + x0_1.size) = False := c14b2; simp only [ByteArray.size_append] at c14b9)
      obtain ⟨t278, A15, H⟩ := bN_ H
      have H' := Aside0.mk H
      clear H
      go_wp2_with (first | ((with_reducible refine gate_callee (f := 30) rfl ?_); refine goesL_ (some 22) rfl rfl Try.func30 (by kernel_rfl) rfl #[.int .i64 a1] rfl aM_ ?_; (with_reducible refine (spec_l06Byte.calls a1 t275 _ A9.out).mono ?_); rintro e w16 ⟨rfl, hb⟩; refine ⟨_, rfl, ?_⟩; replace HB := Aside0.mk (below_step (hB_) hb); (try clear hb)) | ((with_reducible refine gate_callee (f := 30) rfl ?_); refine goesL_ (some 24) rfl rfl Try.func30 (by kernel_rfl) rfl #[.int .i64 a2] rfl aM_ ?_; (with_reducible refine (spec_l06Byte.calls a2 t276 _ A10.out).mono ?_); rintro e w17 ⟨rfl, hb⟩; refine ⟨_, rfl, ?_⟩; replace HB := Aside0.mk (below_step (hB_) hb); (try clear hb)) | ((with_reducible refine gate_callee (f := 30) rfl ?_); refine goesL_ (some 30) rfl rfl Try.func30 (by kernel_rfl) rfl #[.int .i64 (wrap64 ((Int.tmod a3 256) + x11_1))] rfl aM_ ?_; (with_reducible refine (spec_l06Byte.calls (wrap64 ((Int.tmod a3 256) + x11_1)) t277 _ A12.out).mono ?_); rintro e w18 ⟨rfl, hb⟩; refine ⟨_, rfl, ?_⟩; replace HB := Aside0.mk (below_step (hB_) hb); (try clear hb)) | ((with_reducible refine gate_callee (f := 136) rfl ?_); refine goesL_ (some 34) rfl rfl Try.func136 (by kernel_rfl) rfl #[.string (((t275 ++ t276) ++ t277) ++ x0_1)] rfl aM_ ?_; (with_reducible refine (spec_Chop.calls kj5 (((t275 ++ t276) ++ t277) ++ x0_1) t278 _ A15.out).mono ?_); rintro e w19 ⟨rfl, hb⟩; refine ⟨_, rfl, ?_⟩; replace HB := Aside0.mk (below_step (hB_) hb); (try clear hb)))
      go_roundg kj5
      case measure => have := HK1.out; have := HJ5.out; omega
      case rel => exact ⟨(t278), (wrap64 (x11_1 + 1)), (by first | rfl | (simp; done) | (simp [*]; done)), (by first | rfl | (simp; done) | (simp [*]; done)), H', ⟨by have := HK1.out; have := HJ5.out; omega⟩, ⟨hB_⟩⟩
     ·replace c8 := Bool.eq_false_iff.mpr c8
      subst c8
      replace H := iF_ H
      obtain rfl := Option.some.inj H
      go_wp2
      go_ret
      exact ⟨by first | rfl | (simp [errW_none, errW_some] <;> rfl) | (simp [*, errW_none, errW_some] <;> rfl), hB_⟩

/-! ### spec_OncePublic: function 133 -/
def spec_OncePublic.l0 : Nat → List ByteArray → Int → ByteArray → Int → Option (ByteArray)
 | 0, _, _, _, _ => none
 | k + 1, x0, x1, x5, x6 => if x6 < 10 then (if 0 ≤ x6 then (if x6 < (x0.length : Int) then ((spec_ChainOf.f k (rdOf ByteArray.empty x0 x6) x1 x6 0 15).bind fun t280 => (if x5.size + t280.size ≤ 9223372036854775807 then (spec_OncePublic.l0 k x0 x1 (x5 ++ t280) (wrap64 (x6 + 1))) else (none))) else (none)) else (none)) else ((spec_Chop.f k x5).bind fun t281 => (some t281))
def spec_OncePublic.f (k : Nat) (l0 : List ByteArray) (a1 : Int) : Option (ByteArray) := if (l0.length : Int) = 10 then (spec_OncePublic.l0 k l0 a1 (⟨#[]⟩ : ByteArray) 0) else (some (⟨#[]⟩ : ByteArray))
theorem spec_OncePublic.mono_l : ∀ k, (∀ y0 y1 y2 y3, LeO (spec_OncePublic.l0 k y0 y1 y2 y3) (spec_OncePublic.l0 (k + 1) y0 y1 y2 y3))
 | 0 => fun _ _ _ _ r h => by simp [spec_OncePublic.l0] at h
 | k + 1 => by
  have ih0 := spec_OncePublic.mono_l k
  intros; unfold spec_OncePublic.l0; exact o3_ ih0 spec_ChainOf.mono spec_Chop.mono
theorem spec_OncePublic.mono : ∀ a0 a1 k, LeO (spec_OncePublic.f k a0 a1) (spec_OncePublic.f (k + 1) a0 a1) := by
 intro a0 a1 k
 have ih0 := spec_OncePublic.mono_l k
 unfold spec_OncePublic.f
 exact o3_ ih0 spec_ChainOf.mono spec_Chop.mono
theorem spec_OncePublic.calls (k : Nat) (A0 : Option Addr) (c0 : Nat) (l0 : List ByteArray) (a1 : Int) (r : ByteArray) (w : World) (hr0 : Kd.C Kd.string w A0 l0.length l0) (hc0 : l0.length ≤ c0) (h : spec_OncePublic.f k l0 a1 = some r) :
  Calls Try.prog 133 #[.slice A0 l0.length c0, .int .i64 a1] w fun e w' => e = .returned (.string r) ∧ Below w.heap.size w w' := by
 have HR0 := Aside0.mk hr0
 have HC0 := Aside0.mk hc0
 clear hr0 hc0
 have HB := Aside0.mk (Below.refl w.heap.size w)
 delta spec_OncePublic.f at h
 have H := h
 clear h
 by_cases c3 : (l0.length : Int) = 10
 rotate_left
 ·rw [if_neg c3] at H
  have c3b0 : ((l0.length : Int) == 10) = false := beq_eq_false_iff_ne.mpr c3
  have c3b1 : ((l0.length : Int) != 10) = true := bne_iff_ne.mpr c3
  obtain rfl := Option.some.inj H
  go_enter Try.func133, Try.ntmps133
  go_wp2
  go_ret
  exact ⟨by first | rfl | (simp [errW_none, errW_some] <;> rfl) | (simp [*, errW_none, errW_some] <;> rfl), hB_⟩
 rw [if_pos c3] at H
 have c3b0 : ((l0.length : Int) == 10) = true := beq_iff_eq.mpr c3
 have c3b1 : ((l0.length : Int) != 10) = false := bne_eq_false_iff_eq.mpr c3
 clear c3
 have H' := Aside0.mk H
 clear H
 go_enter Try.func133, Try.ntmps133
 go_wp2
 go_loopg [5, 6] k (fun kq v5 v6 w' => ∃ (x5_1 : ByteArray) (x6_1 : Int), v5 = .string x5_1 ∧ v6 = .int .i64 x6_1 ∧ Aside0 (spec_OncePublic.l0 kq l0 a1 x5_1 x6_1 = some r) ∧ Aside0 (kq ≤ k) ∧ Aside0 (Below w.heap.size w w'))
 case atStart => exact ⟨((⟨#[]⟩ : ByteArray)), (0), (by first | rfl | (simp; done) | (simp [*]; done)), (by first | rfl | (simp; done) | (simp [*]; done)), H', ⟨Nat.le_refl _⟩, ⟨hB_⟩⟩
 case round =>
  clear H'
  obtain ⟨x5_1, x6_1, rfl, rfl, HA, HK1, HB⟩ := hrel
  cases gk with
  | zero => exact absurd HA.out (by simp [spec_OncePublic.l0])
  | succ k1 =>
   have H := HA.out
   clear HA
   simp only [spec_OncePublic.l0] at H
   by_cases c4 : x6_1 < 10
   ·rw [if_pos c4] at H
    have c4b0 := decide_eq_true c4
    clear c4
    obtain ⟨c5b0, H⟩ := iD_ H
    obtain ⟨c6b0, H⟩ := iD_ H
    obtain ⟨t280, A7, H⟩ := bN_ H
    obtain ⟨c8, H⟩ := iN_ H
    have c8b0 := eq_true c8
    have c8b1 := decide_eq_true c8
    try have c8b2 : (9223372036854775807 < x5_1.size + t280.size) = False := eq_false (Nat.not_lt.2 c8)
    have H' := Aside0.mk H
    clear H
    have p279 : 0 ≤ (x6_1 : Int) := of_decide_eq_true (by first | (with_reducible assumption) | assumption)
    have q279 : x6_1 < (l0.length : Int) := of_decide_eq_true (by first | (with_reducible assumption) | assumption)
    obtain ⟨ad279, e279, hx279_0⟩ := Kd.at_string HR0.out x6_1 p279 q279
    cases e279
    replace hx279_0 := (HB.out.cell (World.block_lt_of_cell? w _ hx279_0)).trans hx279_0
    replace p279 := eq_true p279
    replace q279 := eq_true q279
    go_wp2_with (first | ((with_reducible refine gate_callee (f := 135) rfl ?_); refine goesL_ (some 21) rfl rfl Try.func135 (by kernel_rfl) rfl #[.string (rdOf ByteArray.empty l0 x6_1), .int .i64 a1, .int .i64 x6_1, .int .i64 0, .int .i64 15] rfl aM_ ?_; (with_reducible refine (spec_ChainOf.calls k1 (rdOf ByteArray.empty l0 x6_1) a1 x6_1 0 15 t280 _ A7.out).mono ?_); rintro e w9 ⟨rfl, hb⟩; refine ⟨_, rfl, ?_⟩; replace HB := Aside0.mk (below_step (hB_) hb); (try clear hb)))
    go_roundg k1
    case measure => have := HK1.out; omega
    case rel => exact ⟨(x5_1 ++ t280), (wrap64 (x6_1 + 1)), (by first | rfl | (simp; done) | (simp [*]; done)), (by first | rfl | (simp; done) | (simp [*]; done)), H', ⟨by have := HK1.out; omega⟩, ⟨hB_⟩⟩
   rw [if_neg c4] at H
   have c4b0 := decide_eq_false c4
   clear c4
   obtain ⟨t281, A10, H⟩ := bN_ H
   obtain rfl := Option.some.inj H
   go_wp2_with (first | ((with_reducible refine gate_callee (f := 136) rfl ?_); refine goesL_ (some 24) rfl rfl Try.func136 (by kernel_rfl) rfl #[.string x5_1] rfl aM_ ?_; (with_reducible refine (spec_Chop.calls k1 x5_1 t281 _ A10.out).mono ?_); rintro e w11 ⟨rfl, hb⟩; refine ⟨_, rfl, ?_⟩; replace HB := Aside0.mk (below_step (hB_) hb); (try clear hb)))
   go_ret
   exact ⟨by first | rfl | (simp [errW_none, errW_some] <;> rfl) | (simp [*, errW_none, errW_some] <;> rfl), hB_⟩

/-! ### spec_l16Leaves: function 125 -/
def spec_l16Leaves.l0 : Nat → ByteArray → List ByteArray → Int → Option (List ByteArray)
 | 0, _, _, _ => none
 | k + 1, x0, x3, x4 => if x4 < 4 then ((spec_OnceKey.f k x0 x4).bind fun t285 => ((spec_OncePublic.f k t285 x4).bind fun t288 => (if x3.length < 8796093022208 then (spec_l16Leaves.l0 k x0 (x3 ++ [t288]) (wrap64 (x4 + 1))) else (none)))) else (some x3)
def spec_l16Leaves.f (k : Nat) (a0 : ByteArray) : Option (List ByteArray) := spec_l16Leaves.l0 k a0 (([] : List ByteArray)) 0
theorem spec_l16Leaves.mono_l : ∀ k, (∀ y0 y1 y2, LeO (spec_l16Leaves.l0 k y0 y1 y2) (spec_l16Leaves.l0 (k + 1) y0 y1 y2))
 | 0 => fun _ _ _ r h => by simp [spec_l16Leaves.l0] at h
 | k + 1 => by
  have ih0 := spec_l16Leaves.mono_l k
  intros; unfold spec_l16Leaves.l0; exact o3_ ih0 spec_OnceKey.mono spec_OncePublic.mono
theorem spec_l16Leaves.mono : ∀ a0 k, LeO (spec_l16Leaves.f k a0) (spec_l16Leaves.f (k + 1) a0) := by
 intro a0 k
 have ih0 := spec_l16Leaves.mono_l k
 unfold spec_l16Leaves.f
 exact o3_ ih0 spec_OnceKey.mono spec_OncePublic.mono
theorem spec_l16Leaves.calls (k : Nat) (a0 : ByteArray) (r : List ByteArray) (w : World) (h : spec_l16Leaves.f k a0 = some r) :
  Calls Try.prog 125 #[.string a0] w fun e w' => ∃ v0_ : Value, e = .returned (v0_) ∧ Kd.R Kd.string 9 w' w.heap.size (fun _ => True) v0_ r ∧ Below w.heap.size w w' := by
 have HB := Aside0.mk (Below.refl w.heap.size w)
 delta spec_l16Leaves.f at h
 have H := h
 clear h
 obtain ⟨y282, hy282⟩ : ∃ y_ : List ByteArray, y_ = (([] : List ByteArray)) := ⟨_, rfl⟩
 first | replace H := yb_ hy282 H | rw [← hy282] at H
 have Ny282 := Aside0.mk hy282
 clear hy282
 have H' := Aside0.mk H
 clear H
 go_enter Try.func125, Try.ntmps125
 go_wp2_with (first | ((with_reducible refine gate_dst (N := 5) rfl ?_); refine Kd.R_lit Kd.string _ 9 ?hg (N := 5) ?hd (xs := ([] : List ByteArray)) (inner := []) (ok := fun _ => True) (okp := fun _ => True) ?hr ?hp (fun _ hk => hk) trivial (Below.refl _ _) (Nat.le_refl _) (by simp) ?_; (case hd => rfl); (case hg => rfl); (case hr => first | (go_simp; done) | (go_simp; rfl)); (case hp => exact (Reps.none _ _)); intro v283 w2 ho3 hb hg_ hnew_; clear hg_ hnew_; (first | rw [← Ny282.out] at ho3 | (simp only [Int.reduceToNat] at ho3; rw [← Ny282.out] at ho3)); have n_ := b_ (Kd.R_lower ho3 (below_size (hB_))) <| c_ (below_step (hB_) hb); clear HB; obtain ⟨HO284, HB⟩ := n_; clear hb ho3))
 go_loopg [3, 4] k (fun kq v3 v4 w' => ∃ (x3_1 : List ByteArray) (x4_1 : Int), v4 = .int .i64 x4_1 ∧ Aside0 (spec_l16Leaves.l0 kq a0 x3_1 x4_1 = some r) ∧ Aside0 (kq ≤ k) ∧ Aside0 (Kd.R Kd.string 9 w' w.heap.size (fun _ => True) v3 x3_1) ∧ Aside0 (Below w.heap.size w w'))
 case atStart => exact ⟨(y282), (0), (by first | rfl | (simp; done) | (simp [*]; done)), H', ⟨Nat.le_refl _⟩, ⟨rR_ HO284.out⟩, ⟨hB_⟩⟩
 case round =>
  clear H'
  obtain ⟨x3_1, x4_1, rfl, HA, HK1, HO_3, HB⟩ := hrel
  cases gk with
  | zero => exact absurd HA.out (by simp [spec_l16Leaves.l0])
  | succ k1 =>
   have H := HA.out
   clear HA
   simp only [spec_l16Leaves.l0] at H
   by_cases c4 : x4_1 < 4
   ·rw [if_pos c4] at H
    have c4b0 := decide_eq_true c4
    clear c4
    obtain ⟨t285, A5, H⟩ := bN_ H
    obtain ⟨t288, A6, H⟩ := bN_ H
    obtain ⟨c7, H⟩ := iN_ H
    have LMc7 := Aside0.mk c7
    clear c7
    obtain ⟨y289, hy289⟩ : ∃ y_ : List ByteArray, y_ = (x3_1 ++ [t288]) := ⟨_, rfl⟩
    first | replace H := yb_ hy289 H | rw [← hy289] at H
    have Ny289 := Aside0.mk hy289
    clear hy289
    have H' := Aside0.mk H
    clear H
    go_wp2_with (first | ((with_reducible refine gate_callee (f := 127) rfl ?_); refine goesL_ (some 13) rfl rfl Try.func127 (by kernel_rfl) rfl #[.string a0, .int .i64 x4_1] rfl aM_ ?_; (with_reducible refine (spec_OnceKey.calls k1 a0 x4_1 t285 _ A5.out).mono ?_); rintro e w8 ⟨v286, rfl, ho0, hb⟩; refine ⟨_, rfl, ?_⟩; have n_ := b_ (Kd.R_elder' (rR_ HO_3.out) (Kd.R_base ho0) hb) <| b_ (Kd.R_lower (Kd.R_new' ho0 (Kd.R_lt (rR_ HO_3.out))) (below_size (hB_))) <| c_ (below_step (hB_) hb); clear HO_3 HB; obtain ⟨HO_3, HO287, HB⟩ := n_; obtain ⟨Ao9, co9, eo9⟩ := Kd.R_slice HO287.out; subst eo9) | ((with_reducible refine gate_callee (f := 133) rfl ?_); refine goesL_ (some 15) rfl rfl Try.func133 (by kernel_rfl) rfl #[.slice Ao9 t285.length co9, .int .i64 x4_1] rfl aM_ ?_; (with_reducible refine (spec_OncePublic.calls k1 _ _ t285 x4_1 t288 _ ?side1 ?side2 A6.out).mono ?_); (case side1 => exact cR_ (Kd.R_reads' HO287.out).2.2); (case side2 => exact (Kd.R_reads' HO287.out).2.1); rintro e w10 ⟨rfl, hb⟩; refine ⟨_, rfl, ?_⟩; have n_ := b_ (Kd.R_below (rR_ HO_3.out) hb) <| b_ (Kd.R_below (rR_ HO287.out) hb) <| c_ (below_step (hB_) hb); clear HO_3 HO287 HB; obtain ⟨HO_3, HO287, HB⟩ := n_; (try clear hb)) | ((with_reducible refine gate_builtin (b := .append) (xs := #[.tmp 10, .tmp 16]) rfl ?_); at_builtin; refine Kd.R_append Kd.string (w0 := w) w.heap.size rfl (.tmp 10) (.tmp 16) 35 9 (.string ⟨#[]⟩) 16 rfl Try.underlying35 info9 rfl (by decide) (by omega) u3 x3_1 t288 [.string t288] (fun k_ => some k_ ≠ (.slice Ao9 t285.length co9 : Value).ownBlock) (fun _ => False) rfl rfl ?aP (fun _ hk => hk.elim) ?aF ?aO ?aB ?aS ?aL ?_; (case aP => exact rfl); (case aB => exact (hB_)); (case aF => exact (fun k_ hk => Kd.fresh' (Kd.R_lt (rR_ HO287.out)) k_ hk)); (case aO => exact (by refine kR_ ?_; exact Kd.R_mono HO_3.out (fun _ hk => hk.2))); (case aS => exact (below_size (hB_))); (case aL => have := LMc7.out; omega); intro v290 w11 ho hb hg hat; rw [← Ny289.out] at ho; have n_ := b_ (Kd.R_after (ok := (fun _ => True)) (rR_ HO287.out) hg hat) <| b_ (hb) <| c_ (ho); clear HO_3 HO287 HB; obtain ⟨HO287, HB, HO291⟩ := n_; clear ho hb hg hat))
    go_roundg k1
    case measure => have := HK1.out; omega
    case rel => exact ⟨(y289), (wrap64 (x4_1 + 1)), (by first | rfl | (simp; done) | (simp [*]; done)), H', ⟨by have := HK1.out; omega⟩, ⟨by refine kR_ ?_; exact Kd.R_mono HO291.out (fun _ hk => trivial)⟩, ⟨hB_⟩⟩
   rw [if_neg c4] at H
   have c4b0 := decide_eq_false c4
   clear c4
   obtain rfl := Option.some.inj H
   go_wp2
   go_ret
   exact ⟨_, by first | rfl | (simp [errW_none, errW_some] <;> rfl) | (simp [*, errW_none, errW_some] <;> rfl), rR_ HO_3.out, hB_⟩

/-! ### spec_PublicOf: function 112 -/
def spec_PublicOf.f (k : Nat) (a0 : ByteArray) : Option (ByteArray) := (spec_l16Leaves.f k a0).bind fun t292 => ((spec_RootOf.f k t292).bind fun t295 => (some t295))
theorem spec_PublicOf.mono : ∀ a0 k, LeO (spec_PublicOf.f k a0) (spec_PublicOf.f (k + 1) a0) := by
 intro a0 k
 unfold spec_PublicOf.f
 exact o2_ spec_RootOf.mono spec_l16Leaves.mono
theorem spec_PublicOf.calls (k : Nat) (a0 : ByteArray) (r : ByteArray) (w : World) (h : spec_PublicOf.f k a0 = some r) :
  Calls Try.prog 112 #[.string a0] w fun e w' => e = .returned (.string r) ∧ Below w.heap.size w w' := by
 have HB := Aside0.mk (Below.refl w.heap.size w)
 delta spec_PublicOf.f at h
 have H := h
 clear h
 obtain ⟨t292, A2, H⟩ := bN_ H
 obtain ⟨t295, A3, H⟩ := bN_ H
 obtain rfl := Option.some.inj H
 go_enter Try.func112, Try.ntmps112
 go_wp2_with (first | ((with_reducible refine gate_callee (f := 125) rfl ?_); refine goesL_ (some 4) rfl rfl Try.func125 (by kernel_rfl) rfl #[.string a0] rfl aM_ ?_; (with_reducible refine (spec_l16Leaves.calls k a0 t292 _ A2.out).mono ?_); rintro e w4 ⟨v293, rfl, ho0, hb⟩; refine ⟨_, rfl, ?_⟩; have n_ := b_ (Kd.R_lower ho0 (below_size (hB_))) <| c_ (below_step (hB_) hb); clear HB; obtain ⟨HO294, HB⟩ := n_; obtain ⟨Ao5, co5, eo5⟩ := Kd.R_slice HO294.out; subst eo5) | ((with_reducible refine gate_callee (f := 124) rfl ?_); refine goesL_ (some 5) rfl rfl Try.func124 (by kernel_rfl) rfl #[.slice Ao5 t292.length co5] rfl aM_ ?_; (with_reducible refine (spec_RootOf.calls k (fun k_ => some k_ = (.slice Ao5 t292.length co5 : Value).ownBlock) _ _ t292 t295 _ ?side1 A3.out).mono ?_); (case side1 => exact Kd.R_V (Kd.R_tight rfl (HO294.out))); rintro e w6 ⟨rfl, hb⟩; refine ⟨_, rfl, ?_⟩; have n_ := b_ (Kd.R_below (rR_ HO294.out) hb) <| c_ (below_step (hB_) hb); clear HO294 HB; obtain ⟨HO294, HB⟩ := n_; (try clear hb)))
 go_ret
 exact ⟨by first | rfl | (simp [errW_none, errW_some] <;> rfl) | (simp [*, errW_none, errW_some] <;> rfl), hB_⟩

/-! ### spec_DigitsOf: function 134 -/
def spec_DigitsOf.l0 : Nat → ByteArray → List Int → Int → Int → Option (List Int)
 | 0, _, _, _, _ => none
 | k + 1, x3, x4, x5, x6 => if x6 < 4 then (if 0 ≤ x6 then (if x6 < (x3.size : Int) then ((some (([wrap64 (Int.tdiv (wrap64 (bt x3 x6)) 16), Int.tmod (wrap64 (bt x3 x6)) 16] : List Int) : List Int)).bind fun y300 => (if x4.length + y300.length < 17592186044416 then (spec_DigitsOf.l0 k x3 (x4 ++ y300) (wrap64 ((wrap64 ((wrap64 (x5 + 30)) - (wrap64 (Int.tdiv (wrap64 (bt x3 x6)) 16)))) - (Int.tmod (wrap64 (bt x3 x6)) 16))) (wrap64 (x6 + 1))) else (none))) else (none)) else (none)) else ((some (([wrap64 (Int.tdiv x5 16), Int.tmod x5 16] : List Int) : List Int)).bind fun y306 => (if x4.length + y306.length < 17592186044416 then (some (x4 ++ y306)) else (none)))
def spec_DigitsOf.f (k : Nat) (a0 : ByteArray) : Option (List Int) := (spec_Chop.f k a0).bind fun t296 => (spec_DigitsOf.l0 k t296 (([] : List Int)) 0 0)
theorem spec_DigitsOf.mono_l : ∀ k, (∀ y0 y1 y2 y3, LeO (spec_DigitsOf.l0 k y0 y1 y2 y3) (spec_DigitsOf.l0 (k + 1) y0 y1 y2 y3))
 | 0 => fun _ _ _ _ r h => by simp [spec_DigitsOf.l0] at h
 | k + 1 => by
  have ih0 := spec_DigitsOf.mono_l k
  intros; unfold spec_DigitsOf.l0; exact o2_ ih0 spec_Chop.mono
theorem spec_DigitsOf.mono : ∀ a0 k, LeO (spec_DigitsOf.f k a0) (spec_DigitsOf.f (k + 1) a0) := by
 intro a0 k
 have ih0 := spec_DigitsOf.mono_l k
 unfold spec_DigitsOf.f
 exact o2_ ih0 spec_Chop.mono
def spec_DigitsOf.T7 : Bool × List (List Nat × List Nat) := (true, [([], []), ([], []), ([], []), ([1, 2], [1, 2]), ([3], [3]), ([4], [4]), ([], []), ([], []), ([6, 7], [6, 7]), ([8], [8]), ([9], [9]), ([5, 10], [5, 10]), ([0, 11], [0, 11]), ([12, 12, 0, 1, 2, 3, 4, 5, 6, 7, 8, 9, 10, 11, 12], [0, 12])])
def spec_DigitsOf.B7 : List Nat := [0, 0, 0, 6, 14, 30, 0, 0, 192, 448, 960, 2046, 4095, 8191]
theorem spec_DigitsOf.tab7 : rtab .any (opsOf Try.f134 7) = spec_DigitsOf.T7 := by kernel_rfl
theorem spec_DigitsOf.bits7 : waitsOk spec_DigitsOf.T7.2 spec_DigitsOf.B7 = true := by kernel_rfl
def spec_DigitsOf.T8 : Bool × List (List Nat × List Nat) := (true, [([], []), ([0], [0]), ([], []), ([], []), ([2, 3], [2, 3]), ([4], [4]), ([5], [5]), ([1, 6], [1, 6]), ([], []), ([], []), ([8, 9], [8, 9]), ([10], [10]), ([11], [11]), ([7, 12], [7, 12]), ([13, 0, 1, 2, 3, 4, 5, 6, 7, 8, 9, 10, 11, 12, 13], [0, 13])])
def spec_DigitsOf.B8 : List Nat := [0, 1, 0, 0, 12, 28, 60, 127, 0, 0, 768, 1792, 3840, 8191, 16383]
theorem spec_DigitsOf.tab8 : rtab .any (opsOf Try.f134 8) = spec_DigitsOf.T8 := by kernel_rfl
theorem spec_DigitsOf.bits8 : waitsOk spec_DigitsOf.T8.2 spec_DigitsOf.B8 = true := by kernel_rfl
theorem spec_DigitsOf.calls (k : Nat) (a0 : ByteArray) (r : List Int) (w : World) (h : spec_DigitsOf.f k a0 = some r) :
  Calls Try.prog 134 #[.string a0] w fun e w' => ∃ v0_ : Value, e = .returned (v0_) ∧ Kd.R (Kd.int .i64) 3 w' w.heap.size (fun _ => True) v0_ r ∧ Below w.heap.size w w' := by
 have HB := Aside0.mk (Below.refl w.heap.size w)
 delta spec_DigitsOf.f at h
 have H := h
 clear h
 obtain ⟨t296, A2, H⟩ := bN_ H
 obtain ⟨y297, hy297⟩ : ∃ y_ : List Int, y_ = (([] : List Int)) := ⟨_, rfl⟩
 first | replace H := yb_ hy297 H | rw [← hy297] at H
 have Ny297 := Aside0.mk hy297
 clear hy297
 have H' := Aside0.mk H
 clear H
 go_enter Try.func134, Try.ntmps134
 go_wp2_with (first | ((with_reducible refine gate_callee (f := 136) rfl ?_); refine goesL_ (some 8) rfl rfl Try.func136 (by kernel_rfl) rfl #[.string a0] rfl aM_ ?_; (with_reducible refine (spec_Chop.calls k a0 t296 _ A2.out).mono ?_); rintro e w3 ⟨rfl, hb⟩; refine ⟨_, rfl, ?_⟩; replace HB := Aside0.mk (below_step (hB_) hb); (try clear hb)) | ((with_reducible refine gate_dst (N := 9) rfl ?_); refine Kd.R_lit (Kd.int .i64) _ 3 ?hg (N := 9) ?hd (xs := ([] : List Int)) (inner := []) (ok := fun _ => True) (okp := fun _ => True) ?hr ?hp (fun _ hk => hk) trivial (Below.refl _ _) (Nat.le_refl _) (by simp) ?_; (case hd => rfl); (case hg => rfl); (case hr => first | (go_simp; done) | (go_simp; rfl)); (case hp => exact (Reps.none _ _)); intro v298 w4 ho5 hb hg_ hnew_; clear hg_ hnew_; (first | rw [← Ny297.out] at ho5 | (simp only [Int.reduceToNat] at ho5; rw [← Ny297.out] at ho5)); have n_ := b_ (Kd.R_lower ho5 (below_size (hB_))) <| c_ (below_step (hB_) hb); clear HB; obtain ⟨HO299, HB⟩ := n_; clear hb ho5))
 go_loopg [4, 5, 6] k (fun kq v4 v5 v6 w' => ∃ (x4_1 : List Int) (x5_1 : Int) (x6_1 : Int), v5 = .int .i64 x5_1 ∧ v6 = .int .i64 x6_1 ∧ Aside0 (spec_DigitsOf.l0 kq t296 x4_1 x5_1 x6_1 = some r) ∧ Aside0 (kq ≤ k) ∧ Aside0 (Kd.R (Kd.int .i64) 3 w' w.heap.size (fun _ => True) v4 x4_1) ∧ Aside0 (Below w.heap.size w w'))
 case atStart => exact ⟨(y297), (0), (0), (by first | rfl | (simp; done) | (simp [*]; done)), (by first | rfl | (simp; done) | (simp [*]; done)), H', ⟨Nat.le_refl _⟩, ⟨rR_ HO299.out⟩, ⟨hB_⟩⟩
 case round =>
  clear H'
  obtain ⟨x4_1, x5_1, x6_1, rfl, rfl, HA, HK1, HO_4, HB⟩ := hrel
  cases gk with
  | zero => exact absurd HA.out (by simp [spec_DigitsOf.l0])
  | succ k1 =>
   have H := HA.out
   clear HA
   simp only [spec_DigitsOf.l0] at H
   by_cases c6 : x6_1 < 4
   rotate_left
   ·rw [if_neg c6] at H
    have c6b0 := decide_eq_false c6
    clear c6
    obtain ⟨y306, hy306⟩ : ∃ y_ : List Int, y_ = (([wrap64 (Int.tdiv x5_1 16), Int.tmod x5_1 16] : List Int)) := ⟨_, rfl⟩
    first | replace H := yb_ hy306 H | rw [← hy306] at H
    have Ny306 := Aside0.mk hy306
    clear hy306
    obtain ⟨c20, H⟩ := iN_ H
    have LMc20 := Aside0.mk c20
    clear c20
    obtain ⟨y309, hy309⟩ : ∃ y_ : List Int, y_ = (x4_1 ++ y306) := ⟨_, rfl⟩
    first | replace H := yb_ hy309 H | rw [← hy309] at H
    have Ny309 := Aside0.mk hy309
    clear hy309
    obtain rfl := Option.some.inj H
    go_wp2_with (first | ((with_reducible refine gate_dst (N := 46) rfl ?_); refine Kd.R_lit (Kd.int .i64) _ 3 ?hg (N := 46) ?hd (xs := ([wrap64 (Int.tdiv x5_1 16), Int.tmod x5_1 16] : List Int)) (inner := [.int .i64 (wrap64 (Int.tdiv x5_1 16)), .int .i64 (Int.tmod x5_1 16)]) (ok := fun _ => True) (okp := fun _ => True) ?hr ?hp (fun _ hk => hk) trivial (Below.refl _ _) (Nat.le_refl _) (by simp) ?_; (case hd => rfl); (case hg => rfl); (case hr => first | (go_simp; done) | (go_simp; rfl)); (case hp => exact (Reps.one (show Kd.M (Kd.int .i64) _ _ _ (wrap64 (Int.tdiv x5_1 16)) [.int .i64 (wrap64 (Int.tdiv x5_1 16))] from rfl) (Reps.one (show Kd.M (Kd.int .i64) _ _ _ (Int.tmod x5_1 16) [.int .i64 (Int.tmod x5_1 16)] from rfl) (Reps.none _ _)))); intro v307 w21 ho22 hb hg_ hnew_; clear hg_ hnew_; (first | rw [← Ny306.out] at ho22 | (simp only [Int.reduceToNat] at ho22; rw [← Ny306.out] at ho22)); have n_ := b_ (Kd.R_elder' (rR_ HO_4.out) (Kd.R_base ho22) hb) <| b_ (Kd.R_lower (Kd.R_new' ho22 (Kd.R_lt (rR_ HO_4.out))) (below_size (hB_))) <| c_ (below_step (hB_) hb); clear HO_4 HB; obtain ⟨HO_4, HO308, HB⟩ := n_; clear hb ho22; obtain ⟨Ao24, co24, eo24⟩ := Kd.R_slice HO308.out; subst eo24) | ((with_reducible refine gate_builtin (b := .append) (xs := #[.tmp 41, .tmp 46]) rfl ?_); at_builtin; refine Kd.R_append_rows (Kd.int .i64) (w0 := w) w.heap.size rfl (.tmp 41) (.tmp 46) 22 3 (.int .i64 0) 8 rfl Try.underlying22 info3 rfl (by decide) (by omega) u4 x4_1 y306 _ _ _ (fun k_ => some k_ ≠ (.slice Ao24 y306.length co24 : Value).ownBlock) (fun _ => False) rfl rfl ?aO ?aR (fun _ _ h => h) (fun _ h => h.elim) ?aF ?aB ?aS ?aL ?_; (case aR => exact cR_ (Kd.R_reads' HO308.out).2.2); (case aB => exact (hB_)); (case aF => exact (fun k_ hk => Kd.fresh' (Kd.R_lt (rR_ HO308.out)) k_ hk)); (case aO => exact (by refine kR_ ?_; exact Kd.R_mono HO_4.out (fun _ hk => hk.2))); (case aS => exact (below_size (hB_))); (case aL => have := LMc20.out; omega); intro v310 w23 ho hb hg hat; rw [← Ny309.out] at ho; have n_ := b_ (Kd.R_after (ok := (fun _ => True)) (rR_ HO308.out) hg hat) <| b_ (hb) <| c_ (ho); clear HO_4 HO308 HB; obtain ⟨HO308, HB, HO311⟩ := n_; clear ho hb hg hat))
    go_ret
    exact ⟨_, by first | rfl | (simp [errW_none, errW_some] <;> rfl) | (simp [*, errW_none, errW_some] <;> rfl), by refine kR_ ?_; exact Kd.R_mono HO311.out (fun _ hk => trivial), hB_⟩
   rw [if_pos c6] at H
   have c6b0 := decide_eq_true c6
   clear c6
   obtain ⟨c7b0, H⟩ := iD_ H
   obtain ⟨c8b0, H⟩ := iD_ H
   obtain ⟨y300, hy300⟩ : ∃ y_ : List Int, y_ = (([wrap64 (Int.tdiv (wrap64 (bt t296 x6_1)) 16), Int.tmod (wrap64 (bt t296 x6_1)) 16] : List Int)) := ⟨_, rfl⟩
   first | replace H := yb_ hy300 H | rw [← hy300] at H
   have Ny300 := Aside0.mk hy300
   clear hy300
   obtain ⟨c11, H⟩ := iN_ H
   have LMc11 := Aside0.mk c11
   clear c11
   obtain ⟨y303, hy303⟩ : ∃ y_ : List Int, y_ = (x4_1 ++ y300) := ⟨_, rfl⟩
   first | replace H := yb_ hy303 H | rw [← hy303] at H
   have Ny303 := Aside0.mk hy303
   clear hy303
   have H' := Aside0.mk H
   clear H
   try go_wp2
   have n_ := b_ (Kd.R_drew HO_4.out) <| c_ (below_drew1 HB.out)
   clear HO_4 HB
   obtain ⟨HO_4, HB⟩ := n_
   have p9 : 0 ≤ (x6_1 : Int) := of_decide_eq_true (by first | (with_reducible assumption) | assumption)
   have q9 : x6_1 < (t296.size : Int) := of_decide_eq_true (by first | (with_reducible assumption) | assumption)
   have hx9 := bt_at t296 x6_1
   replace p9 := eq_true p9
   replace q9 := eq_true q9
   have p10 : 0 ≤ (x6_1 : Int) := of_decide_eq_true (by first | (with_reducible assumption) | assumption)
   have q10 : x6_1 < (t296.size : Int) := of_decide_eq_true (by first | (with_reducible assumption) | assumption)
   have hx10 := bt_at t296 x6_1
   replace p10 := eq_true p10
   replace q10 := eq_true q10
   refine start_ (n := 14) (S := fun w' => True) (ds := []) (bb_ 14 0) (by kernel_rfl) rfl rfl trivial (fun hHeld => ?_); refine with_tabW spec_DigitsOf.tab7 spec_DigitsOf.bits7 (fun HT_ HW_ => ?_)
   generalize wr.drew = w14 at HO_4 HB hHeld ⊢
   refine pS_ 0 14 (bb_ 14 1) HT_.out ?_
   refine pS_ 1 15 (bb_ 14 3) HT_.out ?_
   refine pS_ 2 16 (bb_ 14 7) HT_.out ?_
   refine pS_ 6 20 (bb_ 14 71) HT_.out ?_
   refine pS_ 7 21 (bb_ 14 199) HT_.out ?_
   refine tS_ 3 17 (bb_ 14 207) (take_ofW HT_.out HW_.out (by kernel_rfl)) hHeld ?_
   refine pS_ 4 18 (bb_ 14 223) HT_.out ?_
   refine pS_ 5 19 (bb_ 14 255) HT_.out ?_
   refine tS_ 8 22 (bb_ 14 511) (take_ofW HT_.out HW_.out (by kernel_rfl)) hHeld ?_
   refine pS_ 9 23 (bb_ 14 1023) HT_.out ?_
   refine pS_ 10 24 (bb_ 14 2047) HT_.out ?_
   refine one_ (i := 11) (N := some 25) (bb_ 14 4095) rfl rfl (one_of HT_.out (by kernel_rfl)) (by decide) (fun K hK => ?_)
   refine Kd.R_lit_step (Kd.int .i64) _ 3 ?hg (N := 25) ?hd (xs := ([wrap64 (Int.tdiv (wrap64 (bt t296 x6_1)) 16), Int.tmod (wrap64 (bt t296 x6_1)) 16] : List Int)) (inner := [.int .i64 (wrap64 (Int.tdiv (wrap64 (bt t296 x6_1)) 16)), .int .i64 (Int.tmod (wrap64 (bt t296 x6_1)) 16)]) (ok := fun _ => True) (okp := fun _ => True) ?hr ?hp (fun _ hk => hk) trivial (Below.refl _ _) (Nat.le_refl _) (by simp) ?_; (case hd => rfl); (case hg => rfl); (case hr => first | (go_simp; done) | (go_simp; rfl)); (case hp => exact (Reps.one (show Kd.M (Kd.int .i64) _ _ _ (wrap64 (Int.tdiv (wrap64 (bt t296 x6_1)) 16)) [.int .i64 (wrap64 (Int.tdiv (wrap64 (bt t296 x6_1)) 16))] from rfl) (Reps.one (show Kd.M (Kd.int .i64) _ _ _ (Int.tmod (wrap64 (bt t296 x6_1)) 16) [.int .i64 (Int.tmod (wrap64 (bt t296 x6_1)) 16)] from rfl) (Reps.none _ _))))
   intro v301 w15 ho16 hb hg_ hnew_
   clear hg_ hnew_
   (first | rw [← Ny300.out] at ho16 | (simp only [Int.reduceToNat] at ho16; rw [← Ny300.out] at ho16))
   have n_ := b_ (Kd.R_elder' (rR_ HO_4.out) (Kd.R_base ho16) hb) <| b_ (Kd.R_lower (Kd.R_new' ho16 (Kd.R_lt (rR_ HO_4.out))) (below_size (hB_))) <| c_ (below_step (hB_) hb)
   clear HO_4 HB
   obtain ⟨HO_4, HO302, HB⟩ := n_
   clear hb ho16
   obtain ⟨Ao18, co18, eo18⟩ := Kd.R_slice HO302.out
   (first | subst eo18 | (injection eo18 with f1_ f2_ f3_; have f4_ := f1_.symm; have f5_ := f3_.symm; clear f1_ f2_ f3_; subst f4_; subst f5_))
   refine hK.out _ _ trivial (fun hHeld => ?_)
   clear hK K
   refine norm_ (a' := ?_) ?_ ?_
   rotate_left
   ·show Act.put _ (some 25) _ = _
    simp only [Act.put, List.setIfInBounds_toArray, List.set_cons_zero, List.set_cons_succ, i64_w, i32_w]
    rfl
   refine one_ (i := 12) (N := some 26) (bb_ 14 8191) rfl rfl (one_of HT_.out (by kernel_rfl)) (by decide) (fun K hK => ?_)
   refine Kd.R_append_rows_step (Kd.int .i64) (w0 := w) w.heap.size (by rfl) (.tmp 14) (.tmp 25) 22 3 (.int .i64 0) 8 rfl Try.underlying22 info3 rfl (by decide) (by omega) u4 x4_1 y300 _ _ _ (fun k_ => some k_ ≠ (.slice Ao18 y300.length co18 : Value).ownBlock) (fun _ => False) rfl rfl ?aO ?aR (fun _ _ h => h) (fun _ h => h.elim) ?aF ?aB ?aS ?aL ?_
   (case aR => exact cR_ (Kd.R_reads' HO302.out).2.2)
   (case aB => exact (hB_))
   (case aF => exact (fun k_ hk => Kd.fresh' (Kd.R_lt (rR_ HO302.out)) k_ hk))
   (case aO => exact (by refine kR_ ?_; exact Kd.R_mono HO_4.out (fun _ hk => hk.2)))
   (case aS => exact (below_size (hB_)))
   (case aL => have := LMc11.out; omega)
   intro v304 w17 ho hb hg hat
   rw [← Ny303.out] at ho
   have n_ := b_ (Kd.R_after (ok := (fun _ => True)) (rR_ HO302.out) hg hat) <| b_ (hb) <| c_ (ho)
   clear HO302 HB HO_4
   obtain ⟨HO302, HB, HO305⟩ := n_
   clear ho hb hg hat
   refine hK.out _ _ trivial (fun hHeld => ?_)
   clear hK K
   refine norm_ (a' := ?_) ?_ ?_
   rotate_left
   ·show Act.put _ (some 26) _ = _
    simp only [Act.put, List.setIfInBounds_toArray, List.set_cons_zero, List.set_cons_succ, i64_w, i32_w]
    rfl
   refine pS_ 13 4 (bb_ 14 16383) HT_.out ?_
   refine done_ (done_of HT_.out (by kernel_rfl)) ?_
   try go_wp2
   have n_ := b_ (Kd.R_drew HO302.out) <| b_ (Kd.R_drew HO305.out) <| c_ (below_drew1 HB.out)
   clear HO302 HO305 HB
   obtain ⟨HO302, HO305, HB⟩ := n_
   have p12 : 0 ≤ (x6_1 : Int) := of_decide_eq_true (by first | (with_reducible assumption) | assumption)
   have q12 : x6_1 < (t296.size : Int) := of_decide_eq_true (by first | (with_reducible assumption) | assumption)
   have hx12 := bt_at t296 x6_1
   replace p12 := eq_true p12
   replace q12 := eq_true q12
   have p13 : 0 ≤ (x6_1 : Int) := of_decide_eq_true (by first | (with_reducible assumption) | assumption)
   have q13 : x6_1 < (t296.size : Int) := of_decide_eq_true (by first | (with_reducible assumption) | assumption)
   have hx13 := bt_at t296 x6_1
   replace p13 := eq_true p13
   replace q13 := eq_true q13
   refine start_ (n := 15) (S := fun w' => True) (ds := []) (bb_ 15 0) (by kernel_rfl) rfl rfl trivial (fun hHeld => ?_); refine with_tabW spec_DigitsOf.tab8 spec_DigitsOf.bits8 (fun HT_ HW_ => ?_)
   generalize w17.drew = w19 at HO302 HO305 HB hHeld ⊢
   refine pS_ 0 27 (bb_ 15 1) HT_.out ?_
   refine pS_ 1 28 (bb_ 15 3) HT_.out ?_
   refine pS_ 2 29 (bb_ 15 7) HT_.out ?_
   refine pS_ 3 30 (bb_ 15 15) HT_.out ?_
   refine pS_ 8 35 (bb_ 15 271) HT_.out ?_
   refine pS_ 9 36 (bb_ 15 783) HT_.out ?_
   refine tS_ 4 31 (bb_ 15 799) (take_ofW HT_.out HW_.out (by kernel_rfl)) hHeld ?_
   refine pS_ 5 32 (bb_ 15 831) HT_.out ?_
   refine pS_ 6 33 (bb_ 15 895) HT_.out ?_
   refine pS_ 7 34 (bb_ 15 1023) HT_.out ?_
   refine tS_ 10 37 (bb_ 15 2047) (take_ofW HT_.out HW_.out (by kernel_rfl)) hHeld ?_
   refine pS_ 11 38 (bb_ 15 4095) HT_.out ?_
   refine pS_ 12 39 (bb_ 15 8191) HT_.out ?_
   refine pS_ 13 40 (bb_ 15 16383) HT_.out ?_
   refine pS_ 14 5 (bb_ 15 32767) HT_.out ?_
   refine done_ (done_of HT_.out (by kernel_rfl)) ?_
   try go_wp2
   go_roundg k1
   case measure => have := HK1.out; omega
   case rel => exact ⟨(y303), (wrap64 ((wrap64 ((wrap64 (x5_1 + 30)) - (wrap64 (Int.tdiv (wrap64 (bt t296 x6_1)) 16)))) - (Int.tmod (wrap64 (bt t296 x6_1)) 16))), (wrap64 (x6_1 + 1)), (by first | rfl | (simp; done) | (simp [*]; done)), (by first | rfl | (simp; done) | (simp [*]; done)), H', ⟨by have := HK1.out; omega⟩, ⟨by refine kR_ ?_; exact Kd.R_mono HO305.out (fun _ hk => trivial)⟩, ⟨hB_⟩⟩

/-! ### spec_OnceSign: function 126 -/
def spec_OnceSign.l0 : Nat → List ByteArray → Int → List ByteArray → List Int → Int → Option (List ByteArray)
 | 0, _, _, _, _, _ => none
 | k + 1, x0, x1, x7, x8, x9 => if x9 < 10 then (if 0 ≤ x9 then (if x9 < (x0.length : Int) then (if x9 < (x8.length : Int) then ((spec_ChainOf.f k (rdOf ByteArray.empty x0 x9) x1 x9 0 (rd x8 x9)).bind fun t320 => (if x7.length < 8796093022208 then (spec_OnceSign.l0 k x0 x1 (x7 ++ [t320]) x8 (wrap64 (x9 + 1))) else (none))) else (none)) else (none)) else (none)) else (some x7)
def spec_OnceSign.f (k : Nat) (l0 : List ByteArray) (a1 : Int) (a2 : ByteArray) : Option (List ByteArray) := (some (([] : List ByteArray) : List ByteArray)).bind fun y312 => (if (l0.length : Int) = 10 then ((spec_DigitsOf.f k a2).bind fun t315 => (spec_OnceSign.l0 k l0 a1 y312 t315 0)) else (some y312))
theorem spec_OnceSign.mono_l : ∀ k, (∀ y0 y1 y2 y3 y4, LeO (spec_OnceSign.l0 k y0 y1 y2 y3 y4) (spec_OnceSign.l0 (k + 1) y0 y1 y2 y3 y4))
 | 0 => fun _ _ _ _ _ r h => by simp [spec_OnceSign.l0] at h
 | k + 1 => by
  have ih0 := spec_OnceSign.mono_l k
  intros; unfold spec_OnceSign.l0; exact o3_ ih0 spec_ChainOf.mono spec_DigitsOf.mono
theorem spec_OnceSign.mono : ∀ a0 a1 a2 k, LeO (spec_OnceSign.f k a0 a1 a2) (spec_OnceSign.f (k + 1) a0 a1 a2) := by
 intro a0 a1 a2 k
 have ih0 := spec_OnceSign.mono_l k
 unfold spec_OnceSign.f
 exact o3_ ih0 spec_ChainOf.mono spec_DigitsOf.mono
def spec_OnceSign.T8 : Bool × List (List Nat × List Nat) := (true, [([], []), ([], []), ([], []), ([1, 2], [1, 2]), ([3], [3]), ([], []), ([], []), ([], []), ([], []), ([7, 8], [7, 8]), ([9], [9]), ([4, 5, 6, 10], [4, 5, 6, 10]), ([11], [11]), ([0, 12, 11], [0, 12]), ([13, 13, 0, 1, 2, 3, 4, 5, 6, 7, 8, 9, 10, 11, 12, 13], [0, 13])])
def spec_OnceSign.B8 : List Nat := [0, 0, 0, 6, 14, 0, 0, 0, 0, 384, 896, 2046, 4094, 8191, 16383]
theorem spec_OnceSign.tab8 : rtab .any (opsOf Try.f126 8) = spec_OnceSign.T8 := by kernel_rfl
theorem spec_OnceSign.bits8 : waitsOk spec_OnceSign.T8.2 spec_OnceSign.B8 = true := by kernel_rfl
theorem spec_OnceSign.calls (k : Nat) (A0 : Option Addr) (c0 : Nat) (l0 : List ByteArray) (a1 : Int) (a2 : ByteArray) (r : List ByteArray) (w : World) (hr0 : Kd.C Kd.string w A0 l0.length l0) (hc0 : l0.length ≤ c0) (h : spec_OnceSign.f k l0 a1 a2 = some r) :
  Calls Try.prog 126 #[.slice A0 l0.length c0, .int .i64 a1, .string a2] w fun e w' => ∃ v0_ : Value, e = .returned (v0_) ∧ Kd.R Kd.string 9 w' w.heap.size (fun _ => True) v0_ r ∧ Below w.heap.size w w' := by
 have HR0 := Aside0.mk hr0
 have HC0 := Aside0.mk hc0
 clear hr0 hc0
 have HB := Aside0.mk (Below.refl w.heap.size w)
 delta spec_OnceSign.f at h
 have H := h
 clear h
 obtain ⟨y312, hy312⟩ : ∃ y_ : List ByteArray, y_ = (([] : List ByteArray)) := ⟨_, rfl⟩
 first | replace H := yb_ hy312 H | rw [← hy312] at H
 have Ny312 := Aside0.mk hy312
 clear hy312
 by_cases c4 : (l0.length : Int) = 10
 rotate_left
 ·rw [if_neg c4] at H
  have c4b0 : ((l0.length : Int) == 10) = false := beq_eq_false_iff_ne.mpr c4
  have c4b1 : ((l0.length : Int) != 10) = true := bne_iff_ne.mpr c4
  obtain rfl := Option.some.inj H
  go_enter Try.func126, Try.ntmps126
  go_wp2_with (first | ((with_reducible refine gate_dst (N := 10) rfl ?_); refine Kd.R_lit Kd.string _ 9 ?hg (N := 10) ?hd (xs := ([] : List ByteArray)) (inner := []) (ok := fun _ => True) (okp := fun _ => True) ?hr ?hp (fun _ hk => hk) trivial (Below.refl _ _) (Nat.le_refl _) (by simp) ?_; (case hd => rfl); (case hg => rfl); (case hr => first | (go_simp; done) | (go_simp; rfl)); (case hp => exact (Reps.none _ _)); intro v313 w19 ho20 hb hg_ hnew_; clear hg_ hnew_; (first | rw [← Ny312.out] at ho20 | (simp only [Int.reduceToNat] at ho20; rw [← Ny312.out] at ho20)); have n_ := b_ (Kd.R_lower ho20 (below_size (hB_))) <| c_ (below_step (hB_) hb); clear HB; obtain ⟨HO314, HB⟩ := n_; clear hb ho20))
  go_ret
  exact ⟨_, by first | rfl | (simp [errW_none, errW_some] <;> rfl) | (simp [*, errW_none, errW_some] <;> rfl), rR_ HO314.out, hB_⟩
 rw [if_pos c4] at H
 have c4b0 : ((l0.length : Int) == 10) = true := beq_iff_eq.mpr c4
 have c4b1 : ((l0.length : Int) != 10) = false := bne_eq_false_iff_eq.mpr c4
 clear c4
 obtain ⟨t315, A5, H⟩ := bN_ H
 have H' := Aside0.mk H
 clear H
 go_enter Try.func126, Try.ntmps126
 go_wp2_with (first | ((with_reducible refine gate_dst (N := 10) rfl ?_); refine Kd.R_lit Kd.string _ 9 ?hg (N := 10) ?hd (xs := ([] : List ByteArray)) (inner := []) (ok := fun _ => True) (okp := fun _ => True) ?hr ?hp (fun _ hk => hk) trivial (Below.refl _ _) (Nat.le_refl _) (by simp) ?_; (case hd => rfl); (case hg => rfl); (case hr => first | (go_simp; done) | (go_simp; rfl)); (case hp => exact (Reps.none _ _)); intro v313 w6 ho7 hb hg_ hnew_; clear hg_ hnew_; (first | rw [← Ny312.out] at ho7 | (simp only [Int.reduceToNat] at ho7; rw [← Ny312.out] at ho7)); have n_ := b_ (Kd.R_lower ho7 (below_size (hB_))) <| c_ (below_step (hB_) hb); clear HB; obtain ⟨HO314, HB⟩ := n_; clear hb ho7) | ((with_reducible refine gate_callee (f := 134) rfl ?_); refine goesL_ (some 16) rfl rfl Try.func134 (by kernel_rfl) rfl #[.string a2] rfl aM_ ?_; (with_reducible refine (spec_DigitsOf.calls k a2 t315 _ A5.out).mono ?_); rintro e w8 ⟨v316, rfl, ho0, hb⟩; refine ⟨_, rfl, ?_⟩; have n_ := b_ (Kd.R_below (rR_ HO314.out) hb) <| b_ (Kd.R_lower ho0 (below_size (hB_))) <| c_ (below_step (hB_) hb); clear HO314 HB; obtain ⟨HO314, HO317, HB⟩ := n_; (try clear ho0)))
 go_loopg [7, 9] k (fun kq v7 v9 w' => ∃ (x7_1 : List ByteArray) (x9_1 : Int), v9 = .int .i64 x9_1 ∧ Aside0 (spec_OnceSign.l0 kq l0 a1 x7_1 t315 x9_1 = some r) ∧ Aside0 (kq ≤ k) ∧ Aside0 (Kd.R Kd.string 9 w' w.heap.size (fun _ => True) v7 x7_1) ∧ Aside0 (Kd.R (Kd.int .i64) 3 w' w.heap.size (fun _ => True) v316 t315) ∧ Aside0 (Below w.heap.size w w'))
 case atStart => exact ⟨(y312), (0), (by first | rfl | (simp; done) | (simp [*]; done)), H', ⟨Nat.le_refl _⟩, ⟨rR_ HO314.out⟩, ⟨rR_ HO317.out⟩, ⟨hB_⟩⟩
 case round =>
  clear H'
  obtain ⟨x7_1, x9_1, rfl, HA, HK1, HO_7, HO_8, HB⟩ := hrel
  cases gk with
  | zero => exact absurd HA.out (by simp [spec_OnceSign.l0])
  | succ k1 =>
   have H := HA.out
   clear HA
   simp only [spec_OnceSign.l0] at H
   by_cases c9 : x9_1 < 10
   rotate_left
   ·rw [if_neg c9] at H
    have c9b0 := decide_eq_false c9
    clear c9
    obtain rfl := Option.some.inj H
    go_wp2
    go_ret
    exact ⟨_, by first | rfl | (simp [errW_none, errW_some] <;> rfl) | (simp [*, errW_none, errW_some] <;> rfl), rR_ HO_7.out, hB_⟩
   rw [if_pos c9] at H
   have c9b0 := decide_eq_true c9
   clear c9
   obtain ⟨c10b0, H⟩ := iD_ H
   obtain ⟨c11b0, H⟩ := iD_ H
   obtain ⟨c12b0, H⟩ := iD_ H
   obtain ⟨t320, A13, H⟩ := bN_ H
   obtain ⟨c14, H⟩ := iN_ H
   have LMc14 := Aside0.mk c14
   clear c14
   obtain ⟨y321, hy321⟩ : ∃ y_ : List ByteArray, y_ = (x7_1 ++ [t320]) := ⟨_, rfl⟩
   first | replace H := yb_ hy321 H | rw [← hy321] at H
   have Ny321 := Aside0.mk hy321
   clear hy321
   have H' := Aside0.mk H
   clear H
   try go_wp2
   have n_ := b_ (Kd.R_drew HO_7.out) <| b_ (Kd.R_drew HO_8.out) <| c_ (below_drew1 HB.out)
   clear HO_7 HO_8 HB
   obtain ⟨HO_7, HO_8, HB⟩ := n_
   have p318 : 0 ≤ (x9_1 : Int) := of_decide_eq_true (by first | (with_reducible assumption) | assumption)
   have q318 : x9_1 < (l0.length : Int) := of_decide_eq_true (by first | (with_reducible assumption) | assumption)
   obtain ⟨ad318, e318, hx318_0⟩ := Kd.at_string HR0.out x9_1 p318 q318
   have hw318_0 := hx318_0
   cases e318
   replace hx318_0 := (HB.out.cell (World.block_lt_of_cell? w _ hx318_0)).trans hx318_0
   replace p318 := eq_true p318
   replace q318 := eq_true q318
   obtain ⟨Ao16, co16, eo16⟩ := Kd.R_slice HO_8.out
   (first | subst eo16 | (injection eo16 with f1_ f2_ f3_; have f4_ := f1_.symm; have f5_ := f3_.symm; clear f1_ f2_ f3_; subst f4_; subst f5_))
   have p319 : 0 ≤ (x9_1 : Int) := of_decide_eq_true (by first | (with_reducible assumption) | assumption)
   have q319 : x9_1 < (t315.length : Int) := of_decide_eq_true (by first | (with_reducible assumption) | assumption)
   obtain ⟨ad319, e319, hx319_0⟩ := Kd.at_int (Kd.R_reads' HO_8.out).2.2 x9_1 p319 q319
   cases e319
   replace p319 := eq_true p319
   replace q319 := eq_true q319
   refine start_ (n := 15) (S := fun w' => w'.cell? (ad318.add (x9_1).toNat) = some (.string (rdOf ByteArray.empty l0 x9_1)) ∧ w'.cell? (ad319.add (x9_1).toNat) = some (.int .i64 (rd t315 x9_1))) (ds := [12, 13]) (bb_ 15 0) (by kernel_rfl) rfl rfl ⟨((HB.out.cell (World.block_lt_of_cell? w _ hw318_0)).trans hw318_0), hx319_0⟩ (fun hHeld => ?_); refine with_tabW spec_OnceSign.tab8 spec_OnceSign.bits8 (fun HT_ HW_ => ?_)
   generalize wr.drew = w15 at HO_7 HO_8 HB hx318_0 hx319_0 hHeld ⊢
   refine pS_ 0 21 (bb_ 15 1) HT_.out ?_
   refine pS_ 1 22 (bb_ 15 3) HT_.out ?_
   refine pS_ 2 23 (bb_ 15 7) HT_.out ?_
   refine pS_ 3 24 (bb_ 15 15) HT_.out ?_
   refine pS_ 5 26 (bb_ 15 47) HT_.out ?_
   refine pS_ 6 27 (bb_ 15 111) HT_.out ?_
   refine pS_ 7 28 (bb_ 15 239) HT_.out ?_
   refine pS_ 8 29 (bb_ 15 495) HT_.out ?_
   refine pS_ 9 30 (bb_ 15 1007) HT_.out ?_
   refine tS_ 4 25 (bb_ 15 1023) (take_ofW HT_.out HW_.out (by kernel_rfl)) hHeld ?_
   refine tS_ 10 31 (bb_ 15 2047) (take_ofW HT_.out HW_.out (by kernel_rfl)) hHeld ?_
   refine one_ (i := 11) (N := some 32) (bb_ 15 4095) rfl rfl (one_of HT_.out (by kernel_rfl)) (by decide) (fun K hK => ?_)
   refine goes_ Try.func135 (by kernel_rfl) rfl #[.string (rdOf ByteArray.empty l0 x9_1), .int .i64 a1, .int .i64 x9_1, .int .i64 0, .int .i64 (rd t315 x9_1)] (by rfl) rfl rfl aM_ ?_
   with_reducible refine (spec_ChainOf.calls k1 (rdOf ByteArray.empty l0 x9_1) a1 x9_1 0 (rd t315 x9_1) t320 _ A13.out).mono ?_
   rintro e w17 ⟨rfl, hb⟩
   have HS1_ := (hb.cell (World.block_lt_of_cell? _ _ (hHeld.2))).trans (hHeld.2)
   refine ⟨_, rfl, ?_⟩
   have n_ := b_ (Kd.R_below (rR_ HO_7.out) hb) <| b_ (Kd.R_below (rR_ HO_8.out) hb) <| c_ (below_step (hB_) hb)
   clear HO_7 HO_8 HB
   obtain ⟨HO_7, HO_8, HB⟩ := n_
   refine hK.out _ _ ⟨((HB.out.cell (World.block_lt_of_cell? w _ hw318_0)).trans hw318_0), HS1_⟩ (fun hHeld => ?_)
   clear hK K
   refine norm_ (a' := ?_) ?_ ?_
   rotate_left
   ·show Act.put _ (some 32) _ = _
    simp only [Act.put, List.setIfInBounds_toArray, List.set_cons_zero, List.set_cons_succ, i64_w, i32_w]
    rfl
   refine last_ (i := 12) (N := some 33) (bb_ 15 8191) rfl rfl (one_of HT_.out (by kernel_rfl)) (by decide) (fun K hK => ?_)
   refine value_ (w1 := ?_) (v := ?_) (by rfl) rfl ?_ ?_
   rotate_left 2
   ·go_simp
    constructor
    ·rfl
    ·rfl
   refine hK.out _ _ ?_
   clear hK K
   refine norm_ (a' := ?_) ?_ ?_
   rotate_left
   ·show Act.put _ (some 33) _ = _
    simp only [Act.put, List.setIfInBounds_toArray, List.set_cons_zero, List.set_cons_succ, i64_w, i32_w]
    rfl
   refine last_ (i := 13) (N := some 34) (bb_ 15 16383) rfl rfl (one_of HT_.out (by kernel_rfl)) (by decide) (fun K hK => ?_)
   refine Kd.R_append_step Kd.string (w0 := w) w.heap.size (by rfl) (.tmp 21) (.tmp 33) 35 9 (.string ⟨#[]⟩) 16 rfl Try.underlying35 info9 rfl (by decide) (by omega) u7 x7_1 t320 [.string t320] (fun _ => True) (fun _ => False) rfl rfl ?aP (fun _ hk => hk.elim) ?aF ?aO ?aB ?aS ?aL ?_
   (case aP => exact rfl)
   (case aB => exact (hB_))
   (case aF => exact (fun _ _ => trivial))
   (case aO => exact (rR_ HO_7.out))
   (case aS => exact (below_size (hB_)))
   (case aL => have := LMc14.out; omega)
   intro v322 w18 ho hb hg hat
   rw [← Ny321.out] at ho
   have n_ := b_ (Kd.R_over' (rR_ HO_8.out) (Kd.R_typed (rR_ HO_7.out)) (by decide) hg) <| b_ (hb) <| c_ (ho)
   clear HO_8 HB HO_7
   obtain ⟨HO_8, HB, HO323⟩ := n_
   clear ho hb hg hat
   refine hK.out _ _ ?_
   clear hK K
   refine norm_ (a' := ?_) ?_ ?_
   rotate_left
   ·show Act.put _ (some 34) _ = _
    simp only [Act.put, List.setIfInBounds_toArray, List.set_cons_zero, List.set_cons_succ, i64_w, i32_w]
    rfl
   refine pS_ 14 7 (bb_ 15 32767) HT_.out ?_
   refine done_ (done_of HT_.out (by kernel_rfl)) ?_
   try go_wp2
   go_roundg k1
   case measure => have := HK1.out; omega
   case rel => exact ⟨(y321), (wrap64 (x9_1 + 1)), (by first | rfl | (simp; done) | (simp [*]; done)), H', ⟨by have := HK1.out; omega⟩, ⟨rR_ HO323.out⟩, ⟨rR_ HO_8.out⟩, ⟨hB_⟩⟩

/-! ### spec_PathOf: function 128 -/
mutual
def spec_PathOf.j0 : Nat → List ByteArray → Int → List ByteArray → Bool → Option (List ByteArray)
 | 0, _, _, _, _ => none
 | k + 1, x0, x1, x5, x16 => if x16 = true then (some x5) else (spec_PathOf.l0 k x0 x1 x5 1)
def spec_PathOf.l0 : Nat → List ByteArray → Int → List ByteArray → Int → Option (List ByteArray)
 | 0, _, _, _, _ => none
 | k + 1, x0, x1, x5, x6 => if x6 ≤ 2 then (if (Int.tmod x1 2) = 1 then (if 0 ≤ (wrap64 (x1 - 1)) then (if (wrap64 (x1 - 1)) < (x0.length : Int) then (if x5.length < 8796093022208 then ((spec_LevelUp.f k x6 x0).bind fun t332 => (spec_PathOf.l0 k t332 (wrap64 (Int.tdiv x1 2)) (x5 ++ [rdOf ByteArray.empty x0 (wrap64 (x1 - 1))]) (wrap64 (x6 + 1)))) else (none)) else (none)) else (none)) else (if 0 ≤ (wrap64 (x1 + 1)) then (if (wrap64 (x1 + 1)) < (x0.length : Int) then (if x5.length < 8796093022208 then ((spec_LevelUp.f k x6 x0).bind fun t339 => (spec_PathOf.l0 k t339 (wrap64 (Int.tdiv x1 2)) (x5 ++ [rdOf ByteArray.empty x0 (wrap64 (x1 + 1))]) (wrap64 (x6 + 1)))) else (none)) else (none)) else (none))) else (some x5)
end
def spec_PathOf.f (k : Nat) (l0 : List ByteArray) (a1 : Int) : Option (List ByteArray) := (some (([] : List ByteArray) : List ByteArray)).bind fun y324 => (if (l0.length : Int) = 4 then ((spec_l01In.f a1 0 3).bind fun t327 => (spec_PathOf.j0 k l0 a1 y324 (!t327))) else (spec_PathOf.j0 k l0 a1 y324 true))
theorem spec_PathOf.mono_l : ∀ k, (∀ y0 y1 y2 y3, LeO (spec_PathOf.j0 k y0 y1 y2 y3) (spec_PathOf.j0 (k + 1) y0 y1 y2 y3)) ∧ (∀ y0 y1 y2 y3, LeO (spec_PathOf.l0 k y0 y1 y2 y3) (spec_PathOf.l0 (k + 1) y0 y1 y2 y3))
 | 0 => ⟨fun _ _ _ _ r h => by simp [spec_PathOf.j0] at h, fun _ _ _ _ r h => by simp [spec_PathOf.l0] at h⟩
 | k + 1 => by
  obtain ⟨ih0, ih1⟩ := spec_PathOf.mono_l k
  refine ⟨?_, ?_⟩ <;> (intros; (first | unfold spec_PathOf.j0 | unfold spec_PathOf.l0); exact o3_ ih0 ih1 spec_LevelUp.mono)
theorem spec_PathOf.mono : ∀ a0 a1 k, LeO (spec_PathOf.f k a0 a1) (spec_PathOf.f (k + 1) a0 a1) := by
 intro a0 a1 k
 obtain ⟨ih0, ih1⟩ := spec_PathOf.mono_l k
 unfold spec_PathOf.f
 exact o3_ ih0 ih1 spec_LevelUp.mono
theorem spec_PathOf.calls (k : Nat) (P0_ : Nat → Prop) (A0 : Option Addr) (c0 : Nat) (l0 : List ByteArray) (a1 : Int) (r : List ByteArray) (w : World) (hs0 : Kd.V Kd.string 9 w w.heap.size (fun k_ => P0_ k_) (.slice A0 l0.length c0) l0) (h : spec_PathOf.f k l0 a1 = some r) :
  Calls Try.prog 128 #[.slice A0 l0.length c0, .int .i64 a1] w fun e w' => ∃ v0_ : Value, e = .returned (v0_) ∧ Kd.R Kd.string 9 w' w.heap.size (fun k_ => (w.heap.size ≤ k_)) v0_ r ∧ Below w.heap.size w w' := by
 have HO0 := Aside0.mk (show Kd.V Kd.string 9 w w.heap.size (fun k_ => (P0_ k_ ∨ w.heap.size ≤ k_)) (.slice A0 l0.length c0) l0 from Kd.V_mono hs0 (fun k_ hk => .inl hk))
 have HB := Aside0.mk (Below.refl w.heap.size w)
 delta spec_PathOf.f at h
 have H := h
 clear h
 obtain ⟨y324, hy324⟩ : ∃ y_ : List ByteArray, y_ = (([] : List ByteArray)) := ⟨_, rfl⟩
 first | replace H := yb_ hy324 H | rw [← hy324] at H
 have Ny324 := Aside0.mk hy324
 clear hy324
 have HC3 := Aside0.mk H
 clear H
 go_enter Try.func128, Try.ntmps128
 go_upto_region 2 with (first | ((with_reducible refine gate_dst (N := 8) rfl ?_); refine Kd.R_lit Kd.string _ 9 ?hg (N := 8) ?hd (xs := ([] : List ByteArray)) (inner := []) (ok := fun _ => True) (okp := fun _ => True) ?hr ?hp (fun _ hk => hk) trivial (Below.refl _ _) (Nat.le_refl _) (by simp) ?_; (case hd => rfl); (case hg => rfl); (case hr => first | (go_simp; done) | (go_simp; rfl)); (case hp => exact (Reps.none _ _)); intro v325 w4 ho5 hb hg_ hnew_; clear hg_ hnew_; (first | rw [← Ny324.out] at ho5 | (simp only [Int.reduceToNat] at ho5; rw [← Ny324.out] at ho5)); have n_ := b_ (Kd.V_elder' (rV_ HO0.out) (Kd.R_base ho5) hb) <| b_ (Kd.R_lower (Kd.R_newM (M := fun k_ => (w.heap.size ≤ k_)) ho5 (below_size (hB_)) (fun k_ h_ => h_)) (below_size (hB_))) <| c_ (below_step (hB_) hb); clear HO0 HB; obtain ⟨HO0, HO326, HB⟩ := n_; clear hb ho5))
 (try simp only [Act.put, List.setIfInBounds_toArray, List.set_cons_zero, List.set_cons_succ])
 go_cut [16] (fun v16 wc => ∃ (kq : Nat) (x16_2 : Bool), v16 = .bool x16_2 ∧ Aside0 (spec_PathOf.j0 kq l0 a1 y324 x16_2 = some r) ∧ Aside0 (kq ≤ k) ∧ Aside0 (Kd.V Kd.string 9 wc w.heap.size (fun k_ => (P0_ k_ ∨ w.heap.size ≤ k_) ∧ some k_ ≠ (v325 : Value).ownBlock) (.slice A0 l0.length c0) l0) ∧ Aside0 (Kd.R Kd.string 9 wc w.heap.size (fun k_ => (w.heap.size ≤ k_)) v325 y324) ∧ Aside0 (Below w.heap.size w wc))
 case first =>
  have H := HC3.out
  clear HC3
  by_cases c6 : (l0.length : Int) = 4
  ·rw [if_pos c6] at H
   have c6b0 : ((l0.length : Int) == 4) = true := beq_iff_eq.mpr c6
   have c6b1 : ((l0.length : Int) != 4) = false := bne_eq_false_iff_eq.mpr c6
   clear c6
   (first | rw [c6b0] | (simp only [i64_w, i32_w]; rw [c6b0]) | skip)
   obtain ⟨t327, A7, H⟩ := bN_ H
   have H' := Aside0.mk H
   clear H
   go_wp2_with (first | (go_at_call 70; (with_reducible refine (spec_l01In.calls a1 0 3 t327 _ A7.out).mono ?_); rintro e w' ⟨rfl, ⟨nd, rfl⟩⟩))
   go_meet
   case rel => exact ⟨_, (!t327), (by first | rfl | (simp; done) | (simp [*]; done)), H', ⟨by first | omega | exact Nat.le_refl _⟩, ⟨rV_ HO0.out⟩, ⟨by refine kR_ ?_; exact Kd.R_mono HO326.out (fun _ hk => hk.1)⟩, ⟨hB_⟩⟩
  rw [if_neg c6] at H
  have c6b0 : ((l0.length : Int) == 4) = false := beq_eq_false_iff_ne.mpr c6
  have c6b1 : ((l0.length : Int) != 4) = true := bne_iff_ne.mpr c6
  (first | rw [c6b0] | (simp only [i64_w, i32_w]; rw [c6b0]) | skip)
  have H' := Aside0.mk H
  clear H
  go_wp2
  go_meet
  case rel => exact ⟨_, (true), (by first | rfl | (simp; done) | (simp [*]; done)), H', ⟨by first | omega | exact Nat.le_refl _⟩, ⟨rV_ HO0.out⟩, ⟨by refine kR_ ?_; exact Kd.R_mono HO326.out (fun _ hk => hk.1)⟩, ⟨hB_⟩⟩
 case rest =>
  clear HC3
  obtain ⟨kq, x16_2, rfl, HA, HJ2, HO_0, HO_5, HB⟩ := hcut
  cases kq with
  | zero => exact absurd HA.out (by simp [spec_PathOf.j0])
  | succ kj2 =>
   have H := HA.out
   clear HA
   simp only [spec_PathOf.j0] at H
   by_cases c8 : x16_2 = true
   ·subst c8
    replace H := iT_ H
    obtain rfl := Option.some.inj H
    go_wp2
    go_ret
    exact ⟨_, by first | rfl | (simp [errW_none, errW_some] <;> rfl) | (simp [*, errW_none, errW_some] <;> rfl), rR_ HO_5.out, hB_⟩
   ·replace c8 := Bool.eq_false_iff.mpr c8
    subst c8
    replace H := iF_ H
    have H' := Aside0.mk H
    clear H
    go_wp2
    go_loopg [0, 1, 5, 6] kj2 (fun kq v0 v1 v5 v6 w' => ∃ (x0_2 : List ByteArray) (x1_2 : Int) (x5_2 : List ByteArray) (x6_2 : Int), v1 = .int .i64 x1_2 ∧ v6 = .int .i64 x6_2 ∧ Aside0 (spec_PathOf.l0 kq x0_2 x1_2 x5_2 x6_2 = some r) ∧ Aside0 (kq ≤ kj2) ∧ Aside0 (Kd.V Kd.string 9 w' w.heap.size (fun k_ => (P0_ k_ ∨ w.heap.size ≤ k_) ∧ some k_ ≠ (v5 : Value).ownBlock) v0 x0_2) ∧ Aside0 (Kd.R Kd.string 9 w' w.heap.size (fun k_ => (w.heap.size ≤ k_)) v5 x5_2) ∧ Aside0 (Below w.heap.size w w'))
    case atStart => exact ⟨(l0), (a1), (y324), (1), (by first | rfl | (simp; done) | (simp [*]; done)), (by first | rfl | (simp; done) | (simp [*]; done)), H', ⟨Nat.le_refl _⟩, ⟨rV_ HO_0.out⟩, ⟨rR_ HO_5.out⟩, ⟨hB_⟩⟩
    case round =>
     clear H'
     obtain ⟨x0_2, x1_2, x5_2, x6_2, rfl, rfl, HA, HK2, HO_0, HO_5, HB⟩ := hrel
     cases gk with
     | zero => exact absurd HA.out (by simp [spec_PathOf.l0])
     | succ k2 =>
      have H := HA.out
      clear HA
      simp only [spec_PathOf.l0] at H
      by_cases c9 : x6_2 ≤ 2
      rotate_left
      ·rw [if_neg c9] at H
       have c9b0 := decide_eq_false c9
       clear c9
       obtain rfl := Option.some.inj H
       go_wp2
       go_ret
       exact ⟨_, by first | rfl | (simp [errW_none, errW_some] <;> rfl) | (simp [*, errW_none, errW_some] <;> rfl), rR_ HO_5.out, hB_⟩
      rw [if_pos c9] at H
      have c9b0 := decide_eq_true c9
      clear c9
      by_cases c10 : (Int.tmod x1_2 2) = 1
      ·rw [if_pos c10] at H
       have c10b0 : ((Int.tmod x1_2 2) == 1) = true := beq_iff_eq.mpr c10
       have c10b1 : ((Int.tmod x1_2 2) != 1) = false := bne_eq_false_iff_eq.mpr c10
       clear c10
       obtain ⟨ji11, hji11⟩ : ∃ j_ : Int, (wrap64 (x1_2 - 1)) = j_ := ⟨_, rfl⟩
       first | rw [hji11] at H | simp only [hji11] at H
       have hji11w : (IntKind.i64.wrap (x1_2 - 1)) = ji11 := (i64_w _).trans hji11
       obtain ⟨c12b0, H⟩ := iD_ H
       obtain ⟨c13b0, H⟩ := iD_ H
       obtain ⟨c14, H⟩ := iN_ H
       have LMc14 := Aside0.mk c14
       clear c14
       obtain ⟨y329, hy329⟩ : ∃ y_ : List ByteArray, y_ = (x5_2 ++ [rdOf ByteArray.empty x0_2 (ji11)]) := ⟨_, rfl⟩
       first | replace H := yb_ hy329 H | rw [← hy329] at H
       have Ny329 := Aside0.mk hy329
       clear hy329
       obtain ⟨t332, A15, H⟩ := bN_ H
       have H' := Aside0.mk H
       clear H
       obtain ⟨Ao16, co16, eo16⟩ := Kd.V_slice HO_0.out
       subst eo16
       have p328 : 0 ≤ ((ji11) : Int) := of_decide_eq_true (by first | (with_reducible assumption) | assumption)
       have q328 : (ji11) < (x0_2.length : Int) := of_decide_eq_true (by first | (with_reducible assumption) | assumption)
       obtain ⟨ad328, e328, hx328_0⟩ := Kd.at_string (Kd.V_reads' HO_0.out).2.2 (ji11) p328 q328
       cases e328
       replace p328 := eq_true p328
       replace q328 := eq_true q328
       go_wp2_with (first | ((with_reducible refine gate_builtin (b := .append) (xs := #[.tmp 29, .tmp 34]) rfl ?_); at_builtin; refine Kd.R_append Kd.string (w0 := w) w.heap.size rfl (.tmp 29) (.tmp 34) 35 9 (.string ⟨#[]⟩) 16 rfl Try.underlying35 info9 rfl (by decide) (by omega) u5 x5_2 (rdOf ByteArray.empty x0_2 (ji11)) [.string (rdOf ByteArray.empty x0_2 (ji11))] (fun k_ => (w.heap.size ≤ k_)) (fun _ => False) rfl rfl ?aP (fun _ hk => hk.elim) ?aF ?aO ?aB ?aS ?aL ?_; (case aP => exact rfl); (case aB => exact (hB_)); (case aF => exact (fun k_ hk => (Nat.le_trans (below_size (hB_)) hk))); (case aO => exact (rR_ HO_5.out)); (case aS => exact (below_size (hB_))); (case aL => have := LMc14.out; omega); intro v330 w17 ho hb hg hat; rw [← Ny329.out] at ho; have n_ := b_ (Kd.V_afterv (ok := (fun k_ => (P0_ k_ ∨ w.heap.size ≤ k_))) (rV_ HO_0.out) hg hat) <| b_ (hb) <| c_ (ho); clear HO_5 HO_0 HB; obtain ⟨HO_0, HB, HO331⟩ := n_; clear ho hb hg hat) | ((with_reducible refine gate_callee (f := 132) rfl ?_); refine goesL_ (some 38) rfl rfl Try.func132 (by kernel_rfl) rfl #[.int .i64 x6_2, .slice (some ad328) x0_2.length co16] rfl aM_ ?_; (with_reducible refine (spec_LevelUp.calls k2 x6_2 _ _ x0_2 t332 _ ?side1 ?side2 A15.out).mono ?_); (case side1 => exact cR_ (Kd.V_reads' HO_0.out).2.2); (case side2 => exact (Kd.V_reads' HO_0.out).2.1); rintro e w18 ⟨v333, rfl, ho0, hb⟩; refine ⟨_, rfl, ?_⟩; have n_ := b_ (Kd.V_elder' (rV_ HO_0.out) (Kd.R_base ho0) hb) <| b_ (Kd.R_elder' (rR_ HO331.out) (Kd.R_base ho0) hb) <| b_ (Kd.R_lower (Kd.R_new' (Kd.R_newM (M := fun k_ => (w.heap.size ≤ k_)) ho0 (below_size (hB_)) (fun k_ h_ => h_)) (Kd.R_lt (rR_ HO331.out))) (below_size (hB_))) <| c_ (below_step (hB_) hb); clear HO_0 HO331 HB; obtain ⟨HO_0, HO331, HO334, HB⟩ := n_; (try clear ho0)))
       go_roundg k2
       case measure => have := HJ2.out; have := HK2.out; omega
       case rel => exact ⟨(t332), (wrap64 (Int.tdiv x1_2 2)), (y329), (wrap64 (x6_2 + 1)), (by first | rfl | (simp; done) | (simp [*]; done)), (by first | rfl | (simp; done) | (simp [*]; done)), H', ⟨by have := HJ2.out; have := HK2.out; omega⟩, ⟨by first | exact Kd.V_mono (Kd.R_V HO334.out) (fun k_ hk => ⟨.inr hk.1.1, hk.2⟩) | exact Kd.V_mono (Kd.R_V (Kd.R_drewN HO334.out _)) (fun k_ hk => ⟨.inr hk.1.1, hk.2⟩) | exact Kd.V_mono (Kd.R_V (Kd.R_drew HO334.out)) (fun k_ hk => ⟨.inr hk.1.1, hk.2⟩)⟩, ⟨by refine kR_ ?_; exact Kd.R_mono HO331.out (fun _ hk => hk.1)⟩, ⟨hB_⟩⟩
      rw [if_neg c10] at H
      have c10b0 : ((Int.tmod x1_2 2) == 1) = false := beq_eq_false_iff_ne.mpr c10
      have c10b1 : ((Int.tmod x1_2 2) != 1) = true := bne_iff_ne.mpr c10
      obtain ⟨ji19, hji19⟩ : ∃ j_ : Int, (wrap64 (x1_2 + 1)) = j_ := ⟨_, rfl⟩
      first | rw [hji19] at H | simp only [hji19] at H
      have hji19w : (IntKind.i64.wrap (x1_2 + 1)) = ji19 := (i64_w _).trans hji19
      obtain ⟨c20b0, H⟩ := iD_ H
      obtain ⟨c21b0, H⟩ := iD_ H
      obtain ⟨c22, H⟩ := iN_ H
      have LMc22 := Aside0.mk c22
      clear c22
      obtain ⟨y336, hy336⟩ : ∃ y_ : List ByteArray, y_ = (x5_2 ++ [rdOf ByteArray.empty x0_2 (ji19)]) := ⟨_, rfl⟩
      first | replace H := yb_ hy336 H | rw [← hy336] at H
      have Ny336 := Aside0.mk hy336
      clear hy336
      obtain ⟨t339, A23, H⟩ := bN_ H
      have H' := Aside0.mk H
      clear H
      obtain ⟨Ao24, co24, eo24⟩ := Kd.V_slice HO_0.out
      subst eo24
      have p335 : 0 ≤ ((ji19) : Int) := of_decide_eq_true (by first | (with_reducible assumption) | assumption)
      have q335 : (ji19) < (x0_2.length : Int) := of_decide_eq_true (by first | (with_reducible assumption) | assumption)
      obtain ⟨ad335, e335, hx335_0⟩ := Kd.at_string (Kd.V_reads' HO_0.out).2.2 (ji19) p335 q335
      cases e335
      replace p335 := eq_true p335
      replace q335 := eq_true q335
      go_wp2_with (first | ((with_reducible refine gate_builtin (b := .append) (xs := #[.tmp 29, .tmp 34]) rfl ?_); at_builtin; refine Kd.R_append Kd.string (w0 := w) w.heap.size rfl (.tmp 29) (.tmp 34) 35 9 (.string ⟨#[]⟩) 16 rfl Try.underlying35 info9 rfl (by decide) (by omega) u5 x5_2 (rdOf ByteArray.empty x0_2 (ji19)) [.string (rdOf ByteArray.empty x0_2 (ji19))] (fun k_ => (w.heap.size ≤ k_)) (fun _ => False) rfl rfl ?aP (fun _ hk => hk.elim) ?aF ?aO ?aB ?aS ?aL ?_; (case aP => exact rfl); (case aB => exact (hB_)); (case aF => exact (fun k_ hk => (Nat.le_trans (below_size (hB_)) hk))); (case aO => exact (rR_ HO_5.out)); (case aS => exact (below_size (hB_))); (case aL => have := LMc22.out; omega); intro v337 w25 ho hb hg hat; rw [← Ny336.out] at ho; have n_ := b_ (Kd.V_afterv (ok := (fun k_ => (P0_ k_ ∨ w.heap.size ≤ k_))) (rV_ HO_0.out) hg hat) <| b_ (hb) <| c_ (ho); clear HO_5 HO_0 HB; obtain ⟨HO_0, HB, HO338⟩ := n_; clear ho hb hg hat) | ((with_reducible refine gate_callee (f := 132) rfl ?_); refine goesL_ (some 38) rfl rfl Try.func132 (by kernel_rfl) rfl #[.int .i64 x6_2, .slice (some ad335) x0_2.length co24] rfl aM_ ?_; (with_reducible refine (spec_LevelUp.calls k2 x6_2 _ _ x0_2 t339 _ ?side1 ?side2 A23.out).mono ?_); (case side1 => exact cR_ (Kd.V_reads' HO_0.out).2.2); (case side2 => exact (Kd.V_reads' HO_0.out).2.1); rintro e w26 ⟨v340, rfl, ho0, hb⟩; refine ⟨_, rfl, ?_⟩; have n_ := b_ (Kd.V_elder' (rV_ HO_0.out) (Kd.R_base ho0) hb) <| b_ (Kd.R_elder' (rR_ HO338.out) (Kd.R_base ho0) hb) <| b_ (Kd.R_lower (Kd.R_new' (Kd.R_newM (M := fun k_ => (w.heap.size ≤ k_)) ho0 (below_size (hB_)) (fun k_ h_ => h_)) (Kd.R_lt (rR_ HO338.out))) (below_size (hB_))) <| c_ (below_step (hB_) hb); clear HO_0 HO338 HB; obtain ⟨HO_0, HO338, HO341, HB⟩ := n_; (try clear ho0)))
      go_roundg k2
      case measure => have := HJ2.out; have := HK2.out; omega
      case rel => exact ⟨(t339), (wrap64 (Int.tdiv x1_2 2)), (y336), (wrap64 (x6_2 + 1)), (by first | rfl | (simp; done) | (simp [*]; done)), (by first | rfl | (simp; done) | (simp [*]; done)), H', ⟨by have := HJ2.out; have := HK2.out; omega⟩, ⟨by first | exact Kd.V_mono (Kd.R_V HO341.out) (fun k_ hk => ⟨.inr hk.1.1, hk.2⟩) | exact Kd.V_mono (Kd.R_V (Kd.R_drewN HO341.out _)) (fun k_ hk => ⟨.inr hk.1.1, hk.2⟩) | exact Kd.V_mono (Kd.R_V (Kd.R_drew HO341.out)) (fun k_ hk => ⟨.inr hk.1.1, hk.2⟩)⟩, ⟨by refine kR_ ?_; exact Kd.R_mono HO338.out (fun _ hk => hk.1)⟩, ⟨hB_⟩⟩

/-! ### spec_SignAt: function 113 -/
def spec_SignAt.f (k : Nat) (a0 : ByteArray) (a1 : Int) (a2 : ByteArray) : Option (Int × List ByteArray × List ByteArray × Bool) := (spec_l01In.f a1 0 3).bind fun t343 => (if t343 = true then ((spec_OnceKey.f k a0 a1).bind fun t344 => ((spec_OnceSign.f k t344 a1 a2).bind fun t347 => ((spec_l16Leaves.f k a0).bind fun t350 => ((spec_PathOf.f k t350 a1).bind fun t353 => (some (a1, t347, t353, true)))))) else (some (0, ([] : List ByteArray), ([] : List ByteArray), false)))
theorem spec_SignAt.mono : ∀ a0 a1 a2 k, LeO (spec_SignAt.f k a0 a1 a2) (spec_SignAt.f (k + 1) a0 a1 a2) := by
 intro a0 a1 a2 k
 unfold spec_SignAt.f
 exact o4_ spec_OnceKey.mono spec_OnceSign.mono spec_PathOf.mono spec_l16Leaves.mono
theorem spec_SignAt.calls (k : Nat) (a0 : ByteArray) (a1 : Int) (a2 : ByteArray) (r1 : Int) (r2 : List ByteArray) (r3 : List ByteArray) (r4 : Bool) (w : World) (h : spec_SignAt.f k a0 a1 a2 = some (r1, r2, r3, r4)) :
  Calls Try.prog 113 #[.string a0, .int .i64 a1, .string a2] w fun e w' => ∃ v1_ v2_ : Value, e = .returned (.tuple #[.agg #[.int .i64 r1, v1_, v2_], .bool r4]) ∧ Kd.R Kd.string 9 w' w.heap.size (fun k_ => some k_ ≠ (v2_ : Value).ownBlock) v1_ r2 ∧ Kd.R Kd.string 9 w' w.heap.size (fun k_ => some k_ ≠ (v1_ : Value).ownBlock) v2_ r3 ∧ Below w.heap.size w w' := by
 have hu37 := Try.underlying37
 have HB := Aside0.mk (Below.refl w.heap.size w)
 delta spec_SignAt.f at h
 have H := h
 clear h
 obtain ⟨t343, A4, H⟩ := bN_ H
 by_cases c5 : t343 = true
 ·subst c5
  replace H := iT_ H
  obtain ⟨t344, A6, H⟩ := bN_ H
  obtain ⟨t347, A7, H⟩ := bN_ H
  obtain ⟨t350, A8, H⟩ := bN_ H
  obtain ⟨t353, A9, H⟩ := bN_ H
  simp only [Option.some.injEq, Prod.mk.injEq] at H
  obtain ⟨rfl, rfl, rfl, rfl⟩ := H
  go_enter Try.func113, Try.ntmps113
  go_wp2_with (first | ((with_reducible refine gate_dst (N := 6) rfl ?_); refine box_event ?hg (N := 6) ?hd (cs := #[.int .i64 0, .slice none 0 0, .slice none 0 0]) (t := 37) ?hr ?_; (case hd => rfl); (case hg => rfl); (case hr => first | (go_simp; done) | (go_simp; rfl)); intro gb342 hg w10 hbox hb; have n_ := b_ (below_step (hB_) hb) <| b_ (hbox) <| b_ (by rw [hg]; exact (below_size (hB_)) : w.heap.size ≤ gb342) <| c_ (by rw [hg]; exact (below_size (hB_)) : w.heap.size ≤ gb342); clear HB; obtain ⟨HB, BK342, GW342, GE342⟩ := n_; clear hb hbox hg) | ((with_reducible refine gate_callee (f := 70) rfl ?_); refine goesL_ (some 9) rfl rfl Try.func70 (by kernel_rfl) rfl #[.int .i64 a1, .int .i64 0, .int .i64 3] rfl aM_ ?_; (with_reducible refine (spec_l01In.calls a1 0 3 true _ A4.out).mono ?_); rintro e w' ⟨rfl, ⟨nd, rfl⟩⟩; refine ⟨_, rfl, ?_⟩; (try (rw [drewN_self w10]; generalize hq_ : World.drewN w10 _ = w10; have n_ := b_ (show w10.heap[gb342]? = some (.cells #[.int .i64 0, .slice none 0 0, .slice none 0 0] 37 (0, 0)) from by rw [← hq_]; exact (rK_ BK342.out)) <| c_ (show Below w.heap.size w w10 from by rw [← hq_]; exact (hS_ GE342.out)); clear BK342 HB hq_; obtain ⟨BK342, HB⟩ := n_))) | ((with_reducible refine gate_callee (f := 127) rfl ?_); refine goesL_ (some 15) rfl rfl Try.func127 (by kernel_rfl) rfl #[.string a0, .int .i64 a1] rfl aM_ ?_; (with_reducible refine (spec_OnceKey.calls k a0 a1 t344 _ A6.out).mono ?_); rintro e w11 ⟨v345, rfl, ho0, hb⟩; refine ⟨_, rfl, ?_⟩; have n_ := b_ (Kd.R_lower ho0 (below_size (hS_ GE342.out))) <| b_ (blk_below (g := gb342) (o := .cells #[.int .i64 0, .slice none 0 0, .slice none 0 0] 37 (0, 0)) (rK_ BK342.out) hb) <| c_ (below_step (hS_ GE342.out) hb); clear BK342 HB; obtain ⟨HO346, BK342, HB⟩ := n_; obtain ⟨Ao12, co12, eo12⟩ := Kd.R_slice HO346.out; subst eo12) | ((with_reducible refine gate_callee (f := 126) rfl ?_); refine goesL_ (some 18) rfl rfl Try.func126 (by kernel_rfl) rfl #[.slice Ao12 t344.length co12, .int .i64 a1, .string a2] rfl aM_ ?_; (with_reducible refine (spec_OnceSign.calls k _ _ t344 a1 a2 t347 _ ?side1 ?side2 A7.out).mono ?_); (case side1 => exact cR_ (Kd.R_reads' HO346.out).2.2); (case side2 => exact (Kd.R_reads' HO346.out).2.1); rintro e w13 ⟨v348, rfl, ho0, hb⟩; refine ⟨_, rfl, ?_⟩; have n_ := b_ (Kd.R_elder' (rR_ HO346.out) (Kd.R_base ho0) hb) <| b_ (Kd.R_lower (Kd.R_new' ho0 (Kd.R_lt (rR_ HO346.out))) (below_size (hS_ GE342.out))) <| b_ (blk_below (g := gb342) (o := .cells #[.int .i64 0, .slice none 0 0, .slice none 0 0] 37 (0, 0)) (rK_ BK342.out) hb) <| c_ (below_step (hS_ GE342.out) hb); clear HO346 BK342 HB; obtain ⟨HO346, HO349, BK342, HB⟩ := n_; (try clear ho0)) | ((with_reducible refine gate_callee (f := 125) rfl ?_); refine goesL_ (some 20) rfl rfl Try.func125 (by kernel_rfl) rfl #[.string a0] rfl aM_ ?_; (with_reducible refine (spec_l16Leaves.calls k a0 t350 _ A8.out).mono ?_); rintro e w14 ⟨v351, rfl, ho0, hb⟩; refine ⟨_, rfl, ?_⟩; have n_ := b_ (Kd.R_elder' (rR_ HO346.out) (Kd.R_base ho0) hb) <| b_ (Kd.R_elder' (rR_ HO349.out) (Kd.R_base ho0) hb) <| b_ (Kd.R_lower (Kd.R_new' (Kd.R_new' ho0 (Kd.R_lt (rR_ HO346.out))) (Kd.R_lt (rR_ HO349.out))) (below_size (hS_ GE342.out))) <| b_ (blk_below (g := gb342) (o := .cells #[.int .i64 0, .slice none 0 0, .slice none 0 0] 37 (0, 0)) (rK_ BK342.out) hb) <| c_ (below_step (hS_ GE342.out) hb); clear HO346 HO349 BK342 HB; obtain ⟨HO346, HO349, HO352, BK342, HB⟩ := n_; obtain ⟨Ao15, co15, eo15⟩ := Kd.R_slice HO352.out; subst eo15) | ((with_reducible refine gate_callee (f := 128) rfl ?_); refine goesL_ (some 22) rfl rfl Try.func128 (by kernel_rfl) rfl #[.slice Ao15 t350.length co15, .int .i64 a1] rfl aM_ ?_; (with_reducible refine (spec_PathOf.calls k (fun k_ => some k_ = (.slice Ao15 t350.length co15 : Value).ownBlock) _ _ t350 a1 t353 _ ?side1 A9.out).mono ?_); (case side1 => exact Kd.R_V (Kd.R_tight rfl (Kd.R_types (HO352.out) BK342.out (by decide)))); rintro e w16 ⟨v354, rfl, ho0, hb⟩; refine ⟨_, rfl, ?_⟩; have n_ := b_ (Kd.R_elder' (rR_ HO346.out) (Kd.R_base ho0) hb) <| b_ (Kd.R_elder' (rR_ HO349.out) (Kd.R_base ho0) hb) <| b_ (Kd.R_elder' (rR_ HO352.out) (Kd.R_base ho0) hb) <| b_ (Kd.R_lower (Kd.R_new' (Kd.R_new' (Kd.R_new' (Kd.R_mono (ok' := fun k_ => True) ho0 (fun _ hk_ => trivial)) (Kd.R_lt (rR_ HO346.out))) (Kd.R_lt (rR_ HO349.out))) (Kd.R_lt (rR_ HO352.out))) (below_size (hS_ GE342.out))) <| b_ (blk_below (g := gb342) (o := .cells #[.int .i64 0, .slice none 0 0, .slice none 0 0] 37 (0, 0)) (rK_ BK342.out) hb) <| c_ (below_step (hS_ GE342.out) hb); clear HO346 HO349 HO352 BK342 HB; obtain ⟨HO346, HO349, HO352, HO355, BK342, HB⟩ := n_; obtain ⟨Ao17, co17, eo17⟩ := Kd.R_slice HO355.out; subst eo17; obtain ⟨Ao18, co18, eo18⟩ := Kd.R_slice HO349.out; subst eo18; have hcz19_0 : w16.cell? ⟨gb342, 0, none⟩ = some (.int .i64 0) := (blk_cell BK342.out 0).trans rfl; have hcz19_1 : w16.cell? ⟨gb342, 1, none⟩ = some (.slice none 0 0) := (blk_cell BK342.out 1).trans rfl; have hcz19_2 : w16.cell? ⟨gb342, 2, none⟩ = some (.slice none 0 0) := (blk_cell BK342.out 2).trans rfl; have hfz19_0 := blk_frozen BK342.out 0; have hfz19_1 := blk_frozen BK342.out 1; have hfz19_2 := blk_frozen BK342.out 2))
  refine bodyPost_ret (results_ct rfl _ _ gb342 37 #[.int .i64 a1, .slice Ao18 t347.length co18, .slice Ao17 t353.length co17] (0, 0) _ rfl (by refine kK_ ?_; refine blk_put (cs := #[.int .i64 a1, .slice Ao18 t347.length co18, .slice none 0 0]) ?_ 2 _ rfl; refine kK_ ?_; refine blk_put (cs := #[.int .i64 a1, .slice none 0 0, .slice none 0 0]) ?_ 1 _ rfl; refine kK_ ?_; refine blk_put (cs := #[.int .i64 0, .slice none 0 0, .slice none 0 0]) ?_ 0 _ rfl; exact rK_ BK342.out) Try.underlying37 rfl (by kernel_rfl)) rfl ?_
  exact ⟨_, _, by first | rfl | (simp [errW_none, errW_some] <;> rfl) | (simp [*, errW_none, errW_some] <;> rfl), by refine kR_ ?_; exact Kd.R_mono (Kd.R_far (Kd.R_far (Kd.R_far (Kd.R_types HO349.out BK342.out (by decide)) (fun _ hk => hk.2) _) (fun _ hk => hk.2) _) (fun _ hk => hk.2) _) (fun _ hk => hk.1.2), by refine kR_ ?_; exact Kd.R_mono (Kd.R_far (Kd.R_far (Kd.R_far (Kd.R_types HO355.out BK342.out (by decide)) (fun _ hk => hk.2) _) (fun _ hk => hk.2) _) (fun _ hk => hk.2) _) (fun _ hk => hk.1.1.2), hS_ GE342.out⟩
 ·replace c5 := Bool.eq_false_iff.mpr c5
  subst c5
  replace H := iF_ H
  simp only [Option.some.injEq, Prod.mk.injEq] at H
  obtain ⟨rfl, rfl, rfl, rfl⟩ := H
  go_enter Try.func113, Try.ntmps113
  go_wp2_with (first | ((with_reducible refine gate_dst (N := 6) rfl ?_); refine box_event ?hg (N := 6) ?hd (cs := #[.int .i64 0, .slice none 0 0, .slice none 0 0]) (t := 37) ?hr ?_; (case hd => rfl); (case hg => rfl); (case hr => first | (go_simp; done) | (go_simp; rfl)); intro gb342 hg w20 hbox hb; have n_ := b_ (below_step (hB_) hb) <| b_ (hbox) <| b_ (by rw [hg]; exact (below_size (hB_)) : w.heap.size ≤ gb342) <| c_ (by rw [hg]; exact (below_size (hB_)) : w.heap.size ≤ gb342); clear HB; obtain ⟨HB, BK342, GW342, GE342⟩ := n_; clear hb hbox hg) | ((with_reducible refine gate_callee (f := 70) rfl ?_); refine goesL_ (some 9) rfl rfl Try.func70 (by kernel_rfl) rfl #[.int .i64 a1, .int .i64 0, .int .i64 3] rfl aM_ ?_; (with_reducible refine (spec_l01In.calls a1 0 3 false _ A4.out).mono ?_); rintro e w' ⟨rfl, ⟨nd, rfl⟩⟩; refine ⟨_, rfl, ?_⟩; (try (rw [drewN_self w20]; generalize hq_ : World.drewN w20 _ = w20; have n_ := b_ (show w20.heap[gb342]? = some (.cells #[.int .i64 0, .slice none 0 0, .slice none 0 0] 37 (0, 0)) from by rw [← hq_]; exact (rK_ BK342.out)) <| c_ (show Below w.heap.size w w20 from by rw [← hq_]; exact (hS_ GE342.out)); clear BK342 HB hq_; obtain ⟨BK342, HB⟩ := n_)); have hcz21_0 : w20.cell? ⟨gb342, 0, none⟩ = some (.int .i64 0) := (blk_cell BK342.out 0).trans rfl; have hcz21_1 : w20.cell? ⟨gb342, 1, none⟩ = some (.slice none 0 0) := (blk_cell BK342.out 1).trans rfl; have hcz21_2 : w20.cell? ⟨gb342, 2, none⟩ = some (.slice none 0 0) := (blk_cell BK342.out 2).trans rfl; have hfz21_0 := blk_frozen BK342.out 0; have hfz21_1 := blk_frozen BK342.out 1; have hfz21_2 := blk_frozen BK342.out 2))
  refine bodyPost_ret (results_ct rfl _ _ gb342 37 #[.int .i64 0, .slice none 0 0, .slice none 0 0] (0, 0) _ rfl (by refine kK_ ?_; refine blk_put (cs := #[.int .i64 0, .slice none 0 0, .slice none 0 0]) ?_ 2 _ rfl; refine kK_ ?_; refine blk_put (cs := #[.int .i64 0, .slice none 0 0, .slice none 0 0]) ?_ 1 _ rfl; refine kK_ ?_; refine blk_put (cs := #[.int .i64 0, .slice none 0 0, .slice none 0 0]) ?_ 0 _ rfl; exact rK_ BK342.out) Try.underlying37 rfl (by kernel_rfl)) rfl ?_
  exact ⟨_, _, by first | rfl | (simp [errW_none, errW_some] <;> rfl) | (simp [*, errW_none, errW_some] <;> rfl), by first | exact Kd.R_nil _ _ _ _ _ | exact Kd.N_nil _ _ _ _ _ | exact Kd.V_nil _ _ _ _ _ | exact Kd.Q_nil _ _ _ _ _ | exact Kd.S_nil _ _ _ _ _, by first | exact Kd.R_nil _ _ _ _ _ | exact Kd.N_nil _ _ _ _ _ | exact Kd.V_nil _ _ _ _ _ | exact Kd.Q_nil _ _ _ _ _ | exact Kd.S_nil _ _ _ _ _, hS_ GE342.out⟩

/-! ### spec_HyperSign: function 81 -/
def spec_HyperSign.f (k : Nat) (a0 : ByteArray) (a1 : Int) (a2 : ByteArray) : Option (Int × List ByteArray × List ByteArray × ByteArray × Int × List ByteArray × List ByteArray × Bool) := (spec_l01In.f a1 0 15).bind fun t357 => (if t357 = true then ((spec_l17Low.f a0 (wrap64 (Int.tdiv a1 4))).bind fun t358 => ((spec_PublicOf.f k t358).bind fun t359 => ((spec_SignAt.f k t358 (Int.tmod a1 4) a2).bind fun bt361 => (if a0.size + 1 ≤ 9223372036854775807 then ((spec_SignAt.f k (a0 ++ (⟨#[116]⟩ : ByteArray)) (wrap64 (Int.tdiv a1 4)) t359).bind fun bt369 => (some (bt369.1, bt369.2.1, bt369.2.2.1, t359, bt361.1, bt361.2.1, bt361.2.2.1, true))) else (none))))) else (some (0, ([] : List ByteArray), ([] : List ByteArray), (⟨#[]⟩ : ByteArray), 0, ([] : List ByteArray), ([] : List ByteArray), false)))
theorem spec_HyperSign.mono : ∀ a0 a1 a2 k, LeO (spec_HyperSign.f k a0 a1 a2) (spec_HyperSign.f (k + 1) a0 a1 a2) := by
 intro a0 a1 a2 k
 unfold spec_HyperSign.f
 exact o2_ spec_PublicOf.mono spec_SignAt.mono
theorem spec_HyperSign.calls (k : Nat) (a0 : ByteArray) (a1 : Int) (a2 : ByteArray) (r1 : Int) (r2 : List ByteArray) (r3 : List ByteArray) (r4 : ByteArray) (r5 : Int) (r6 : List ByteArray) (r7 : List ByteArray) (r8 : Bool) (w : World) (h : spec_HyperSign.f k a0 a1 a2 = some (r1, r2, r3, r4, r5, r6, r7, r8)) :
  Calls Try.prog 81 #[.string a0, .int .i64 a1, .string a2] w fun e w' => ∃ v1_ v2_ v5_ v6_ : Value, e = .returned (.tuple #[.agg #[.int .i64 r1, v1_, v2_, .string r4, .int .i64 r5, v5_, v6_], .bool r8]) ∧ Kd.R Kd.string 9 w' w.heap.size (fun k_ => some k_ ≠ (v2_ : Value).ownBlock ∧ some k_ ≠ (v5_ : Value).ownBlock ∧ some k_ ≠ (v6_ : Value).ownBlock) v1_ r2 ∧ Kd.R Kd.string 9 w' w.heap.size (fun k_ => some k_ ≠ (v1_ : Value).ownBlock ∧ some k_ ≠ (v5_ : Value).ownBlock ∧ some k_ ≠ (v6_ : Value).ownBlock) v2_ r3 ∧ Kd.R Kd.string 9 w' w.heap.size (fun k_ => some k_ ≠ (v1_ : Value).ownBlock ∧ some k_ ≠ (v2_ : Value).ownBlock ∧ some k_ ≠ (v6_ : Value).ownBlock) v5_ r6 ∧ Kd.R Kd.string 9 w' w.heap.size (fun k_ => some k_ ≠ (v1_ : Value).ownBlock ∧ some k_ ≠ (v2_ : Value).ownBlock ∧ some k_ ≠ (v5_ : Value).ownBlock) v6_ r7 ∧ Below w.heap.size w w' := by
 have hu39 := Try.underlying39
 have hu37 := Try.underlying37
 have HB := Aside0.mk (Below.refl w.heap.size w)
 delta spec_HyperSign.f at h
 have H := h
 clear h
 obtain ⟨t357, A4, H⟩ := bN_ H
 by_cases c5 : t357 = true
 ·subst c5
  replace H := iT_ H
  obtain ⟨t358, A6, H⟩ := bN_ H
  obtain ⟨t359, A7, H⟩ := bN_ H
  obtain ⟨⟨t361, t362, t365, t368⟩, A8, H⟩ := bN_ H
  obtain ⟨c9, H⟩ := iN_ H
  have c9b0 := eq_true c9
  have c9b1 := decide_eq_true c9
  try have c9b2 : (9223372036854775807 < a0.size + 1) = False := eq_false (Nat.not_lt.2 c9)
  obtain ⟨⟨t369, t370, t373, t376⟩, A10, H⟩ := bN_ H
  simp only [Option.some.injEq, Prod.mk.injEq] at H
  obtain ⟨rfl, rfl, rfl, rfl, rfl, rfl, rfl, rfl⟩ := H
  go_enter Try.func81, Try.ntmps81
  go_wp2_with (first | ((with_reducible refine gate_dst (N := 6) rfl ?_); refine box_event ?hg (N := 6) ?hd (cs := #[.int .i64 0, .slice none 0 0, .slice none 0 0, .string (⟨#[]⟩ : ByteArray), .int .i64 0, .slice none 0 0, .slice none 0 0]) (t := 39) ?hr ?_; (case hd => rfl); (case hg => rfl); (case hr => first | (go_simp; done) | (go_simp; rfl)); intro gb356 hg w11 hbox hb; have n_ := b_ (below_step (hB_) hb) <| b_ (hbox) <| b_ (by rw [hg]; exact (below_size (hB_)) : w.heap.size ≤ gb356) <| c_ (by rw [hg]; exact (below_size (hB_)) : w.heap.size ≤ gb356); clear HB; obtain ⟨HB, BK356, GW356, GE356⟩ := n_; clear hb hbox hg) | ((with_reducible refine gate_callee (f := 70) rfl ?_); refine goesL_ (some 11) rfl rfl Try.func70 (by kernel_rfl) rfl #[.int .i64 a1, .int .i64 0, .int .i64 15] rfl aM_ ?_; (with_reducible refine (spec_l01In.calls a1 0 15 true _ A4.out).mono ?_); rintro e w' ⟨rfl, ⟨nd, rfl⟩⟩; refine ⟨_, rfl, ?_⟩; (try (rw [drewN_self w11]; generalize hq_ : World.drewN w11 _ = w11; have n_ := b_ (show w11.heap[gb356]? = some (.cells #[.int .i64 0, .slice none 0 0, .slice none 0 0, .string (⟨#[]⟩ : ByteArray), .int .i64 0, .slice none 0 0, .slice none 0 0] 39 (0, 0)) from by rw [← hq_]; exact (rK_ BK356.out)) <| c_ (show Below w.heap.size w w11 from by rw [← hq_]; exact (hS_ GE356.out)); clear BK356 HB hq_; obtain ⟨BK356, HB⟩ := n_))) | ((with_reducible refine gate_callee (f := 111) rfl ?_); refine goesL_ (some 17) rfl rfl Try.func111 (by kernel_rfl) rfl #[.string a0, .int .i64 (wrap64 (Int.tdiv a1 4))] rfl aM_ ?_; (with_reducible refine (spec_l17Low.calls a0 (wrap64 (Int.tdiv a1 4)) t358 _ A6.out).mono ?_); rintro e w12 ⟨rfl, hb⟩; refine ⟨_, rfl, ?_⟩; have n_ := b_ (blk_below (g := gb356) (o := .cells #[.int .i64 0, .slice none 0 0, .slice none 0 0, .string (⟨#[]⟩ : ByteArray), .int .i64 0, .slice none 0 0, .slice none 0 0] 39 (0, 0)) (rK_ BK356.out) hb) <| c_ (below_step (hS_ GE356.out) hb); clear BK356 HB; obtain ⟨BK356, HB⟩ := n_; (try clear hb)) | ((with_reducible refine gate_callee (f := 112) rfl ?_); refine goesL_ (some 19) rfl rfl Try.func112 (by kernel_rfl) rfl #[.string t358] rfl aM_ ?_; (with_reducible refine (spec_PublicOf.calls k t358 t359 _ A7.out).mono ?_); rintro e w13 ⟨rfl, hb⟩; refine ⟨_, rfl, ?_⟩; have n_ := b_ (blk_below (g := gb356) (o := .cells #[.int .i64 0, .slice none 0 0, .slice none 0 0, .string (⟨#[]⟩ : ByteArray), .int .i64 0, .slice none 0 0, .slice none 0 0] 39 (0, 0)) (rK_ BK356.out) hb) <| c_ (below_step (hS_ GE356.out) hb); clear BK356 HB; obtain ⟨BK356, HB⟩ := n_; (try clear hb)) | ((with_reducible refine gate_dst (N := 9) rfl ?_); refine box_event ?hg (N := 9) ?hd (cs := #[.int .i64 0, .slice none 0 0, .slice none 0 0, .string (⟨#[]⟩ : ByteArray), .int .i64 0, .slice none 0 0, .slice none 0 0]) (t := 39) ?hr ?_; (case hd => rfl); (case hg => rfl); (case hr => first | (go_simp; done) | (go_simp; rfl)); intro gb360 hg w14 hbox hb; have n_ := b_ (blk_below (g := gb356) (o := .cells #[.int .i64 0, .slice none 0 0, .slice none 0 0, .string (⟨#[]⟩ : ByteArray), .int .i64 0, .slice none 0 0, .slice none 0 0] 39 (0, 0)) (rK_ BK356.out) hb) <| b_ (below_step (hS_ GE356.out) hb) <| b_ (hbox) <| b_ (by rw [hg]; exact (below_size (hS_ GE356.out)) : w.heap.size ≤ gb360) <| b_ (by rw [hg]; exact (below_size (hS_ GE356.out)) : w.heap.size ≤ gb360) <| b_ (by rw [hg]; exact Nat.ne_of_lt (blk_lt (g := gb356) (o := .cells #[.int .i64 0, .slice none 0 0, .slice none 0 0, .string (⟨#[]⟩ : ByteArray), .int .i64 0, .slice none 0 0, .slice none 0 0] 39 (0, 0)) (rK_ BK356.out)) : gb356 ≠ gb360) <| c_ (by rw [hg]; exact Nat.ne_of_gt (blk_lt (g := gb356) (o := .cells #[.int .i64 0, .slice none 0 0, .slice none 0 0, .string (⟨#[]⟩ : ByteArray), .int .i64 0, .slice none 0 0, .slice none 0 0] 39 (0, 0)) (rK_ BK356.out)) : gb360 ≠ gb356); clear BK356 HB; obtain ⟨BK356, HB, BK360, GW360, GE360, NB356_360, NB360_356⟩ := n_; clear hb hbox hg; have hnb15 := NB360_356.out; have hnc15 := NB356_360.out; have hcz16_0 : w14.cell? ⟨gb360, 0, none⟩ = some (.int .i64 0) := (blk_cell BK360.out 0).trans rfl; have hcz16_1 : w14.cell? ⟨gb360, 1, none⟩ = some (.slice none 0 0) := (blk_cell BK360.out 1).trans rfl; have hcz16_2 : w14.cell? ⟨gb360, 2, none⟩ = some (.slice none 0 0) := (blk_cell BK360.out 2).trans rfl; have hcz16_3 : w14.cell? ⟨gb360, 3, none⟩ = some (.string (⟨#[]⟩ : ByteArray)) := (blk_cell BK360.out 3).trans rfl; have hcz16_4 : w14.cell? ⟨gb360, 4, none⟩ = some (.int .i64 0) := (blk_cell BK360.out 4).trans rfl; have hcz16_5 : w14.cell? ⟨gb360, 5, none⟩ = some (.slice none 0 0) := (blk_cell BK360.out 5).trans rfl; have hcz16_6 : w14.cell? ⟨gb360, 6, none⟩ = some (.slice none 0 0) := (blk_cell BK360.out 6).trans rfl; have hfz16_0 := blk_frozen BK360.out 0; have hfz16_1 := blk_frozen BK360.out 1; have hfz16_2 := blk_frozen BK360.out 2; have hfz16_3 := blk_frozen BK360.out 3; have hfz16_4 := blk_frozen BK360.out 4; have hfz16_5 := blk_frozen BK360.out 5; have hfz16_6 := blk_frozen BK360.out 6) | ((with_reducible refine gate_callee (f := 113) rfl ?_); refine goesL_ (some 26) rfl rfl Try.func113 (by kernel_rfl) rfl #[.string t358, .int .i64 (Int.tmod a1 4), .string a2] rfl aM_ ?_; (with_reducible refine (spec_SignAt.calls k t358 (Int.tmod a1 4) a2 t361 t362 t365 t368 _ A8.out).mono ?_); rintro e w17 ⟨v363, v366, rfl, ho0, ho1, hb⟩; refine ⟨_, rfl, ?_⟩; have n_ := b_ (Kd.R_lower ho0 (below_size ((u4_ GE356.out GE360.out)))) <| b_ (Kd.R_lower ho1 (below_size ((u4_ GE356.out GE360.out)))) <| b_ (blk_below (g := gb356) (o := .cells #[.int .i64 0, .slice none 0 0, .slice none 0 0, .string (⟨#[]⟩ : ByteArray), .int .i64 0, .slice none 0 0, .slice none 0 0] 39 (0, 0)) (by refine kK_ ?_; refine blk_far ?_ NB356_360.out _; refine kK_ ?_; refine blk_far ?_ NB356_360.out _; refine kK_ ?_; refine blk_far ?_ NB356_360.out _; refine kK_ ?_; refine blk_far ?_ NB356_360.out _; refine kK_ ?_; refine blk_far ?_ NB356_360.out _; refine kK_ ?_; refine blk_far ?_ NB356_360.out _; refine kK_ ?_; refine blk_far ?_ NB356_360.out _; exact rK_ BK356.out) hb) <| b_ (blk_below (g := gb360) (o := .cells #[.int .i64 0, .slice none 0 0, .slice none 0 0, .string t359, .int .i64 0, .slice none 0 0, .slice none 0 0] 39 (0, 0)) (by refine kK_ ?_; refine blk_put (cs := #[.int .i64 0, .slice none 0 0, .slice none 0 0, .string t359, .int .i64 0, .slice none 0 0, .slice none 0 0]) ?_ 6 _ rfl; refine kK_ ?_; refine blk_put (cs := #[.int .i64 0, .slice none 0 0, .slice none 0 0, .string t359, .int .i64 0, .slice none 0 0, .slice none 0 0]) ?_ 5 _ rfl; refine kK_ ?_; refine blk_put (cs := #[.int .i64 0, .slice none 0 0, .slice none 0 0, .string t359, .int .i64 0, .slice none 0 0, .slice none 0 0]) ?_ 4 _ rfl; refine kK_ ?_; refine blk_put (cs := #[.int .i64 0, .slice none 0 0, .slice none 0 0, .string (⟨#[]⟩ : ByteArray), .int .i64 0, .slice none 0 0, .slice none 0 0]) ?_ 3 _ rfl; refine kK_ ?_; refine blk_put (cs := #[.int .i64 0, .slice none 0 0, .slice none 0 0, .string (⟨#[]⟩ : ByteArray), .int .i64 0, .slice none 0 0, .slice none 0 0]) ?_ 2 _ rfl; refine kK_ ?_; refine blk_put (cs := #[.int .i64 0, .slice none 0 0, .slice none 0 0, .string (⟨#[]⟩ : ByteArray), .int .i64 0, .slice none 0 0, .slice none 0 0]) ?_ 1 _ rfl; refine kK_ ?_; refine blk_put (cs := #[.int .i64 0, .slice none 0 0, .slice none 0 0, .string (⟨#[]⟩ : ByteArray), .int .i64 0, .slice none 0 0, .slice none 0 0]) ?_ 0 _ rfl; exact rK_ BK360.out) hb) <| c_ (below_step ((u4_ GE356.out GE360.out)) hb); clear BK356 BK360 HB; obtain ⟨HO364, HO367, BK356, BK360, HB⟩ := n_; have hcz18_0 : w17.cell? ⟨gb360, 0, none⟩ = some (.int .i64 0) := (blk_cell BK360.out 0).trans rfl; have hcz18_1 : w17.cell? ⟨gb360, 1, none⟩ = some (.slice none 0 0) := (blk_cell BK360.out 1).trans rfl; have hcz18_2 : w17.cell? ⟨gb360, 2, none⟩ = some (.slice none 0 0) := (blk_cell BK360.out 2).trans rfl; have hcz18_3 : w17.cell? ⟨gb360, 3, none⟩ = some (.string t359) := (blk_cell BK360.out 3).trans rfl; have hcz18_4 : w17.cell? ⟨gb360, 4, none⟩ = some (.int .i64 0) := (blk_cell BK360.out 4).trans rfl; have hcz18_5 : w17.cell? ⟨gb360, 5, none⟩ = some (.slice none 0 0) := (blk_cell BK360.out 5).trans rfl; have hcz18_6 : w17.cell? ⟨gb360, 6, none⟩ = some (.slice none 0 0) := (blk_cell BK360.out 6).trans rfl; have hfz18_0 := blk_frozen BK360.out 0; have hfz18_1 := blk_frozen BK360.out 1; have hfz18_2 := blk_frozen BK360.out 2; have hfz18_3 := blk_frozen BK360.out 3; have hfz18_4 := blk_frozen BK360.out 4; have hfz18_5 := blk_frozen BK360.out 5; have hfz18_6 := blk_frozen BK360.out 6; obtain ⟨Ao19, co19, eo19⟩ := Kd.R_slice HO364.out; subst eo19; obtain ⟨Ao20, co20, eo20⟩ := Kd.R_slice HO367.out; subst eo20) | ((with_reducible refine gate_callee (f := 113) rfl ?_); refine goesL_ (some 37) rfl rfl Try.func113 (by kernel_rfl) rfl #[.string (a0 ++ (⟨#[116]⟩ : ByteArray)), .int .i64 (wrap64 (Int.tdiv a1 4)), .string t359] rfl aM_ ?_; (with_reducible refine (spec_SignAt.calls k (a0 ++ (⟨#[116]⟩ : ByteArray)) (wrap64 (Int.tdiv a1 4)) t359 t369 t370 t373 t376 _ A10.out).mono ?_); rintro e w21 ⟨v371, v374, rfl, ho0, ho1, hb⟩; refine ⟨_, rfl, ?_⟩; have n_ := b_ (Kd.R_mono (Kd.R_told (Kd.R_told (Kd.R_old (by refine kR_ ?_; exact (Kd.R_mono (Kd.R_far (Kd.R_far (Kd.R_far (Kd.R_types HO364.out BK360.out (by decide)) (fun _ hk => hk.2) _) (fun _ hk => hk.2) _) (fun _ hk => hk.2) _) (fun _ h_ => h_.1))) hb) (Kd.R_base ho0)) (Kd.R_base ho1)) (fun _ h_ => h_.1)) <| b_ (Kd.R_mono (Kd.R_told (Kd.R_told (Kd.R_old (by refine kR_ ?_; exact (Kd.R_mono (Kd.R_far (Kd.R_far (Kd.R_far (Kd.R_types HO367.out BK360.out (by decide)) (fun _ hk => hk.2) _) (fun _ hk => hk.2) _) (fun _ hk => hk.2) _) (fun _ h_ => h_.1))) hb) (Kd.R_base ho0)) (Kd.R_base ho1)) (fun _ h_ => h_.1)) <| b_ (Kd.R_lower (Kd.R_new' (Kd.R_new' ho0 (Kd.R_lt (by refine kR_ ?_; exact (Kd.R_mono (Kd.R_far (Kd.R_far (Kd.R_far (Kd.R_types HO364.out BK360.out (by decide)) (fun _ hk => hk.2) _) (fun _ hk => hk.2) _) (fun _ hk => hk.2) _) (fun _ h_ => h_.1))))) (Kd.R_lt (by refine kR_ ?_; exact (Kd.R_mono (Kd.R_far (Kd.R_far (Kd.R_far (Kd.R_types HO367.out BK360.out (by decide)) (fun _ hk => hk.2) _) (fun _ hk => hk.2) _) (fun _ hk => hk.2) _) (fun _ h_ => h_.1))))) (below_size ((u4_ GE356.out GE360.out)))) <| b_ (Kd.R_lower (Kd.R_new' (Kd.R_new' ho1 (Kd.R_lt (by refine kR_ ?_; exact (Kd.R_mono (Kd.R_far (Kd.R_far (Kd.R_far (Kd.R_types HO364.out BK360.out (by decide)) (fun _ hk => hk.2) _) (fun _ hk => hk.2) _) (fun _ hk => hk.2) _) (fun _ h_ => h_.1))))) (Kd.R_lt (by refine kR_ ?_; exact (Kd.R_mono (Kd.R_far (Kd.R_far (Kd.R_far (Kd.R_types HO367.out BK360.out (by decide)) (fun _ hk => hk.2) _) (fun _ hk => hk.2) _) (fun _ hk => hk.2) _) (fun _ h_ => h_.1))))) (below_size ((u4_ GE356.out GE360.out)))) <| b_ (blk_below (g := gb356) (o := .cells #[.int .i64 0, .slice none 0 0, .slice none 0 0, .string (⟨#[]⟩ : ByteArray), .int .i64 0, .slice none 0 0, .slice none 0 0] 39 (0, 0)) (by refine kK_ ?_; refine blk_far ?_ NB356_360.out _; refine kK_ ?_; refine blk_far ?_ NB356_360.out _; refine kK_ ?_; refine blk_far ?_ NB356_360.out _; exact rK_ BK356.out) hb) <| b_ (blk_below (g := gb360) (o := .cells #[.int .i64 0, .slice none 0 0, .slice none 0 0, .string t359, .int .i64 t361, .slice Ao19 t362.length co19, .slice Ao20 t365.length co20] 39 (0, 0)) (by refine kK_ ?_; refine blk_put (cs := #[.int .i64 0, .slice none 0 0, .slice none 0 0, .string t359, .int .i64 t361, .slice Ao19 t362.length co19, .slice none 0 0]) ?_ 6 _ rfl; refine kK_ ?_; refine blk_put (cs := #[.int .i64 0, .slice none 0 0, .slice none 0 0, .string t359, .int .i64 t361, .slice none 0 0, .slice none 0 0]) ?_ 5 _ rfl; refine kK_ ?_; refine blk_put (cs := #[.int .i64 0, .slice none 0 0, .slice none 0 0, .string t359, .int .i64 0, .slice none 0 0, .slice none 0 0]) ?_ 4 _ rfl; exact rK_ BK360.out) hb) <| c_ (below_step ((u4_ GE356.out GE360.out)) hb); clear HO364 HO367 BK356 BK360 HB; obtain ⟨HO364, HO367, HO372, HO375, BK356, BK360, HB⟩ := n_; have hcz22_0 : w21.cell? ⟨gb360, 0, none⟩ = some (.int .i64 0) := (blk_cell BK360.out 0).trans rfl; have hcz22_1 : w21.cell? ⟨gb360, 1, none⟩ = some (.slice none 0 0) := (blk_cell BK360.out 1).trans rfl; have hcz22_2 : w21.cell? ⟨gb360, 2, none⟩ = some (.slice none 0 0) := (blk_cell BK360.out 2).trans rfl; have hcz22_3 : w21.cell? ⟨gb360, 3, none⟩ = some (.string t359) := (blk_cell BK360.out 3).trans rfl; have hcz22_4 : w21.cell? ⟨gb360, 4, none⟩ = some (.int .i64 t361) := (blk_cell BK360.out 4).trans rfl; have hcz22_5 : w21.cell? ⟨gb360, 5, none⟩ = some (.slice Ao19 t362.length co19) := (blk_cell BK360.out 5).trans rfl; have hcz22_6 : w21.cell? ⟨gb360, 6, none⟩ = some (.slice Ao20 t365.length co20) := (blk_cell BK360.out 6).trans rfl; have hfz22_0 := blk_frozen BK360.out 0; have hfz22_1 := blk_frozen BK360.out 1; have hfz22_2 := blk_frozen BK360.out 2; have hfz22_3 := blk_frozen BK360.out 3; have hfz22_4 := blk_frozen BK360.out 4; have hfz22_5 := blk_frozen BK360.out 5; have hfz22_6 := blk_frozen BK360.out 6; obtain ⟨Ao23, co23, eo23⟩ := Kd.R_slice HO372.out; subst eo23; obtain ⟨Ao24, co24, eo24⟩ := Kd.R_slice HO375.out; subst eo24; have hcz25_0 : w21.cell? ⟨gb356, 0, none⟩ = some (.int .i64 0) := (blk_cell BK356.out 0).trans rfl; have hcz25_1 : w21.cell? ⟨gb356, 1, none⟩ = some (.slice none 0 0) := (blk_cell BK356.out 1).trans rfl; have hcz25_2 : w21.cell? ⟨gb356, 2, none⟩ = some (.slice none 0 0) := (blk_cell BK356.out 2).trans rfl; have hcz25_3 : w21.cell? ⟨gb356, 3, none⟩ = some (.string (⟨#[]⟩ : ByteArray)) := (blk_cell BK356.out 3).trans rfl; have hcz25_4 : w21.cell? ⟨gb356, 4, none⟩ = some (.int .i64 0) := (blk_cell BK356.out 4).trans rfl; have hcz25_5 : w21.cell? ⟨gb356, 5, none⟩ = some (.slice none 0 0) := (blk_cell BK356.out 5).trans rfl; have hcz25_6 : w21.cell? ⟨gb356, 6, none⟩ = some (.slice none 0 0) := (blk_cell BK356.out 6).trans rfl; have hfz25_0 := blk_frozen BK356.out 0; have hfz25_1 := blk_frozen BK356.out 1; have hfz25_2 := blk_frozen BK356.out 2; have hfz25_3 := blk_frozen BK356.out 3; have hfz25_4 := blk_frozen BK356.out 4; have hfz25_5 := blk_frozen BK356.out 5; have hfz25_6 := blk_frozen BK356.out 6))
  refine bodyPost_ret (results_ct rfl _ _ gb356 39 #[.int .i64 t369, .slice Ao23 t370.length co23, .slice Ao24 t373.length co24, .string t359, .int .i64 t361, .slice Ao19 t362.length co19, .slice Ao20 t365.length co20] (0, 0) _ rfl (by refine kK_ ?_; refine blk_put (cs := #[.int .i64 t369, .slice Ao23 t370.length co23, .slice Ao24 t373.length co24, .string t359, .int .i64 t361, .slice Ao19 t362.length co19, .slice none 0 0]) ?_ 6 _ rfl; refine kK_ ?_; refine blk_put (cs := #[.int .i64 t369, .slice Ao23 t370.length co23, .slice Ao24 t373.length co24, .string t359, .int .i64 t361, .slice none 0 0, .slice none 0 0]) ?_ 5 _ rfl; refine kK_ ?_; refine blk_put (cs := #[.int .i64 t369, .slice Ao23 t370.length co23, .slice Ao24 t373.length co24, .string t359, .int .i64 0, .slice none 0 0, .slice none 0 0]) ?_ 4 _ rfl; refine kK_ ?_; refine blk_put (cs := #[.int .i64 t369, .slice Ao23 t370.length co23, .slice Ao24 t373.length co24, .string (⟨#[]⟩ : ByteArray), .int .i64 0, .slice none 0 0, .slice none 0 0]) ?_ 3 _ rfl; refine kK_ ?_; refine blk_put (cs := #[.int .i64 t369, .slice Ao23 t370.length co23, .slice none 0 0, .string (⟨#[]⟩ : ByteArray), .int .i64 0, .slice none 0 0, .slice none 0 0]) ?_ 2 _ rfl; refine kK_ ?_; refine blk_put (cs := #[.int .i64 t369, .slice none 0 0, .slice none 0 0, .string (⟨#[]⟩ : ByteArray), .int .i64 0, .slice none 0 0, .slice none 0 0]) ?_ 1 _ rfl; refine kK_ ?_; refine blk_put (cs := #[.int .i64 0, .slice none 0 0, .slice none 0 0, .string (⟨#[]⟩ : ByteArray), .int .i64 0, .slice none 0 0, .slice none 0 0]) ?_ 0 _ rfl; refine kK_ ?_; refine blk_far ?_ NB356_360.out _; refine kK_ ?_; refine blk_far ?_ NB356_360.out _; refine kK_ ?_; refine blk_far ?_ NB356_360.out _; exact rK_ BK356.out) Try.underlying39 rfl (by kernel_rfl)) rfl ?_
  exact ⟨_, _, _, _, by first | rfl | (simp [errW_none, errW_some] <;> rfl) | (simp [*, errW_none, errW_some] <;> rfl), by refine kR_ ?_; exact Kd.R_mono (Kd.R_far (Kd.R_far (Kd.R_far (Kd.R_far (Kd.R_far (Kd.R_far (Kd.R_far (Kd.R_far (Kd.R_far (Kd.R_far (Kd.R_types (Kd.R_types HO372.out BK360.out (by decide)) BK356.out (by decide)) (fun _ hk => hk.1.2) (.int .i64 t369)) (fun _ hk => hk.1.2) (.slice Ao23 t370.length co23)) (fun _ hk => hk.1.2) (.slice Ao24 t373.length co24)) (fun _ hk => hk.2) _) (fun _ hk => hk.2) _) (fun _ hk => hk.2) _) (fun _ hk => hk.2) _) (fun _ hk => hk.2) _) (fun _ hk => hk.2) _) (fun _ hk => hk.2) _) (fun _ hk => ⟨hk.1.1.1.1, ⟨hk.1.1.1.2, hk.1.1.2⟩⟩), by refine kR_ ?_; exact Kd.R_mono (Kd.R_far (Kd.R_far (Kd.R_far (Kd.R_far (Kd.R_far (Kd.R_far (Kd.R_far (Kd.R_far (Kd.R_far (Kd.R_far (Kd.R_types (Kd.R_types HO375.out BK360.out (by decide)) BK356.out (by decide)) (fun _ hk => hk.1.2) (.int .i64 t369)) (fun _ hk => hk.1.2) (.slice Ao23 t370.length co23)) (fun _ hk => hk.1.2) (.slice Ao24 t373.length co24)) (fun _ hk => hk.2) _) (fun _ hk => hk.2) _) (fun _ hk => hk.2) _) (fun _ hk => hk.2) _) (fun _ hk => hk.2) _) (fun _ hk => hk.2) _) (fun _ hk => hk.2) _) (fun _ hk => ⟨hk.1.1.1.1, ⟨hk.1.1.1.2, hk.1.1.2⟩⟩), by refine kR_ ?_; exact Kd.R_mono (Kd.R_far (Kd.R_far (Kd.R_far (Kd.R_far (Kd.R_far (Kd.R_far (Kd.R_far (Kd.R_far (Kd.R_far (Kd.R_far (Kd.R_types (Kd.R_types HO364.out BK360.out (by decide)) BK356.out (by decide)) (fun _ hk => hk.1.2) (.int .i64 t369)) (fun _ hk => hk.1.2) (.slice Ao23 t370.length co23)) (fun _ hk => hk.1.2) (.slice Ao24 t373.length co24)) (fun _ hk => hk.2) _) (fun _ hk => hk.2) _) (fun _ hk => hk.2) _) (fun _ hk => hk.2) _) (fun _ hk => hk.2) _) (fun _ hk => hk.2) _) (fun _ hk => hk.2) _) (fun _ hk => ⟨hk.1.1.1.2, ⟨hk.1.1.2, hk.1.1.1.1⟩⟩), by refine kR_ ?_; exact Kd.R_mono (Kd.R_far (Kd.R_far (Kd.R_far (Kd.R_far (Kd.R_far (Kd.R_far (Kd.R_far (Kd.R_far (Kd.R_far (Kd.R_far (Kd.R_types (Kd.R_types HO367.out BK360.out (by decide)) BK356.out (by decide)) (fun _ hk => hk.1.2) (.int .i64 t369)) (fun _ hk => hk.1.2) (.slice Ao23 t370.length co23)) (fun _ hk => hk.1.2) (.slice Ao24 t373.length co24)) (fun _ hk => hk.2) _) (fun _ hk => hk.2) _) (fun _ hk => hk.2) _) (fun _ hk => hk.2) _) (fun _ hk => hk.2) _) (fun _ hk => hk.2) _) (fun _ hk => hk.2) _) (fun _ hk => ⟨hk.1.1.1.2, ⟨hk.1.1.2, hk.1.1.1.1⟩⟩), (u4_ GE356.out GE360.out)⟩
 ·replace c5 := Bool.eq_false_iff.mpr c5
  subst c5
  replace H := iF_ H
  simp only [Option.some.injEq, Prod.mk.injEq] at H
  obtain ⟨rfl, rfl, rfl, rfl, rfl, rfl, rfl, rfl⟩ := H
  go_enter Try.func81, Try.ntmps81
  go_wp2_with (first | ((with_reducible refine gate_dst (N := 6) rfl ?_); refine box_event ?hg (N := 6) ?hd (cs := #[.int .i64 0, .slice none 0 0, .slice none 0 0, .string (⟨#[]⟩ : ByteArray), .int .i64 0, .slice none 0 0, .slice none 0 0]) (t := 39) ?hr ?_; (case hd => rfl); (case hg => rfl); (case hr => first | (go_simp; done) | (go_simp; rfl)); intro gb356 hg w26 hbox hb; have n_ := b_ (below_step (hB_) hb) <| b_ (hbox) <| b_ (by rw [hg]; exact (below_size (hB_)) : w.heap.size ≤ gb356) <| c_ (by rw [hg]; exact (below_size (hB_)) : w.heap.size ≤ gb356); clear HB; obtain ⟨HB, BK356, GW356, GE356⟩ := n_; clear hb hbox hg) | ((with_reducible refine gate_callee (f := 70) rfl ?_); refine goesL_ (some 11) rfl rfl Try.func70 (by kernel_rfl) rfl #[.int .i64 a1, .int .i64 0, .int .i64 15] rfl aM_ ?_; (with_reducible refine (spec_l01In.calls a1 0 15 false _ A4.out).mono ?_); rintro e w' ⟨rfl, ⟨nd, rfl⟩⟩; refine ⟨_, rfl, ?_⟩; (try (rw [drewN_self w26]; generalize hq_ : World.drewN w26 _ = w26; have n_ := b_ (show w26.heap[gb356]? = some (.cells #[.int .i64 0, .slice none 0 0, .slice none 0 0, .string (⟨#[]⟩ : ByteArray), .int .i64 0, .slice none 0 0, .slice none 0 0] 39 (0, 0)) from by rw [← hq_]; exact (rK_ BK356.out)) <| c_ (show Below w.heap.size w w26 from by rw [← hq_]; exact (hS_ GE356.out)); clear BK356 HB hq_; obtain ⟨BK356, HB⟩ := n_)); have hcz27_0 : w26.cell? ⟨gb356, 0, none⟩ = some (.int .i64 0) := (blk_cell BK356.out 0).trans rfl; have hcz27_1 : w26.cell? ⟨gb356, 1, none⟩ = some (.slice none 0 0) := (blk_cell BK356.out 1).trans rfl; have hcz27_2 : w26.cell? ⟨gb356, 2, none⟩ = some (.slice none 0 0) := (blk_cell BK356.out 2).trans rfl; have hcz27_3 : w26.cell? ⟨gb356, 3, none⟩ = some (.string (⟨#[]⟩ : ByteArray)) := (blk_cell BK356.out 3).trans rfl; have hcz27_4 : w26.cell? ⟨gb356, 4, none⟩ = some (.int .i64 0) := (blk_cell BK356.out 4).trans rfl; have hcz27_5 : w26.cell? ⟨gb356, 5, none⟩ = some (.slice none 0 0) := (blk_cell BK356.out 5).trans rfl; have hcz27_6 : w26.cell? ⟨gb356, 6, none⟩ = some (.slice none 0 0) := (blk_cell BK356.out 6).trans rfl; have hfz27_0 := blk_frozen BK356.out 0; have hfz27_1 := blk_frozen BK356.out 1; have hfz27_2 := blk_frozen BK356.out 2; have hfz27_3 := blk_frozen BK356.out 3; have hfz27_4 := blk_frozen BK356.out 4; have hfz27_5 := blk_frozen BK356.out 5; have hfz27_6 := blk_frozen BK356.out 6))
  refine bodyPost_ret (results_ct rfl _ _ gb356 39 #[.int .i64 0, .slice none 0 0, .slice none 0 0, .string (⟨#[]⟩ : ByteArray), .int .i64 0, .slice none 0 0, .slice none 0 0] (0, 0) _ rfl (by refine kK_ ?_; refine blk_put (cs := #[.int .i64 0, .slice none 0 0, .slice none 0 0, .string (⟨#[]⟩ : ByteArray), .int .i64 0, .slice none 0 0, .slice none 0 0]) ?_ 6 _ rfl; refine kK_ ?_; refine blk_put (cs := #[.int .i64 0, .slice none 0 0, .slice none 0 0, .string (⟨#[]⟩ : ByteArray), .int .i64 0, .slice none 0 0, .slice none 0 0]) ?_ 5 _ rfl; refine kK_ ?_; refine blk_put (cs := #[.int .i64 0, .slice none 0 0, .slice none 0 0, .string (⟨#[]⟩ : ByteArray), .int .i64 0, .slice none 0 0, .slice none 0 0]) ?_ 4 _ rfl; refine kK_ ?_; refine blk_put (cs := #[.int .i64 0, .slice none 0 0, .slice none 0 0, .string (⟨#[]⟩ : ByteArray), .int .i64 0, .slice none 0 0, .slice none 0 0]) ?_ 3 _ rfl; refine kK_ ?_; refine blk_put (cs := #[.int .i64 0, .slice none 0 0, .slice none 0 0, .string (⟨#[]⟩ : ByteArray), .int .i64 0, .slice none 0 0, .slice none 0 0]) ?_ 2 _ rfl; refine kK_ ?_; refine blk_put (cs := #[.int .i64 0, .slice none 0 0, .slice none 0 0, .string (⟨#[]⟩ : ByteArray), .int .i64 0, .slice none 0 0, .slice none 0 0]) ?_ 1 _ rfl; refine kK_ ?_; refine blk_put (cs := #[.int .i64 0, .slice none 0 0, .slice none 0 0, .string (⟨#[]⟩ : ByteArray), .int .i64 0, .slice none 0 0, .slice none 0 0]) ?_ 0 _ rfl; exact rK_ BK356.out) Try.underlying39 rfl (by kernel_rfl)) rfl ?_
  exact ⟨_, _, _, _, by first | rfl | (simp [errW_none, errW_some] <;> rfl) | (simp [*, errW_none, errW_some] <;> rfl), by first | exact Kd.R_nil _ _ _ _ _ | exact Kd.N_nil _ _ _ _ _ | exact Kd.V_nil _ _ _ _ _ | exact Kd.Q_nil _ _ _ _ _ | exact Kd.S_nil _ _ _ _ _, by first | exact Kd.R_nil _ _ _ _ _ | exact Kd.N_nil _ _ _ _ _ | exact Kd.V_nil _ _ _ _ _ | exact Kd.Q_nil _ _ _ _ _ | exact Kd.S_nil _ _ _ _ _, by first | exact Kd.R_nil _ _ _ _ _ | exact Kd.N_nil _ _ _ _ _ | exact Kd.V_nil _ _ _ _ _ | exact Kd.Q_nil _ _ _ _ _ | exact Kd.S_nil _ _ _ _ _, by first | exact Kd.R_nil _ _ _ _ _ | exact Kd.N_nil _ _ _ _ _ | exact Kd.V_nil _ _ _ _ _ | exact Kd.Q_nil _ _ _ _ _ | exact Kd.S_nil _ _ _ _ _, hS_ GE356.out⟩

end Go.Proofs.Ytnckhligcdieaaa.P
