/- Plain laws that the law FnExactTakeOver rests on. -/
import Derived.Test.YtooanbpkknlmjaaGreatDoorKFnExactTakeOver
namespace Go.Proofs.YtooanbpkknlmjaaGreatDoor.Pure
open Go.RowKit YtooanbpkknlmjaaGreatDoorW.PrintWords YtooanbpkknlmjaaGreatDoorW.PrintLast YtooanbpkknlmjaaGreatDoorW.PrintMore YtooanbpkknlmjaaGreatDoor.P YtooanbpkknlmjaaGreatDoor.Kit
set_option linter.unusedVariables false
set_option linter.unusedSimpArgs false

theorem w01 : wrap64 (0 + 1) = 1 := by rw [w64 (by decide) (by decide)]; rfl
theorem w00 : wrap64 (0 + 0) = 0 := by rw [w64 (by decide) (by decide)]; rfl
theorem w20 : wrap64 (2 + 0) = 2 := by rw [w64 (by decide) (by decide)]; rfl
theorem w21 : wrap64 (2 + 1) = 3 := by rw [w64 (by decide) (by decide)]; rfl
theorem w02 : wrap64 (0 * 2) = 0 := by rw [w64 (by decide) (by decide)]; rfl
theorem w12 : wrap64 (1 * 2) = 2 := by rw [w64 (by decide) (by decide)]; rfl
theorem w11 : wrap64 (1 + 1) = 2 := by rw [w64 (by decide) (by decide)]; rfl
theorem gA (d : Nat) (l : List Int) (hd : d ≤ 11) (hl : l.length ≤ 1000) : (fl d (sqV l d)).size ≤ 10000 := by
 unfold fl sqV
 rw [strOfNums_size, fe, List.length_map]
 have : l.length * d ≤ 1000 * 11 := Nat.mul_le_mul hl hd
 omega
/-- The matrix, by its four polynomials. -/
def qF (s : ByteArray) : List (List Int) := [ja s 0 0, ja s 1 0, ja s 0 1, ja s 1 1]
theorem lq (s : ByteArray) (hs : s.size ≤ 1048576) : Ev (fun k => aE.f k s) (qF s) := by
 have r1 : ∀ (l : List (List Int)) (i j j' : Int) (hj : j < 2) (hw : wrap64 (j + 1) = j') (hl : l.length ≤ 5) (res : List (List Int)) (h : Ev (fun k => aE.l1 k s (l ++ [ja s j i]) i j') res), Ev (fun k => aE.l1 k s l i j) res := by
  intro l i j j' hj hw hl res h
  refine Ev.step (fun k => by simp only [aE.l1]; rw [Da hj, hw]) ?_
  exact Ev.bind (kx s j i hs) (Ev.pos (by omega) h)
 have r2 : ∀ (l : List (List Int)) (i i' : Int) (hw : wrap64 (i + 1) = i') (res : List (List Int)) (h : Ev (fun k => aE.l0 k s l i') res), Ev (fun k => aE.l1 k s l i 2) res := by
  intro l i i' hw res h
  exact Ev.step (fun k => by simp only [aE.l1]; rw [Ea (by decide), hw]) h
 have r3 : ∀ (l : List (List Int)) (i : Int) (hi : i < 2) (res : List (List Int)) (h : Ev (fun k => aE.l1 k s l i 0) res), Ev (fun k => aE.l0 k s l i) res := by
  intro l i hi res h
  exact Ev.step (fun k => by simp only [aE.l0]; rw [Da hi]) h
 unfold aE.f
 refine r3 _ 0 (by decide) _ (r1 _ 0 0 1 (by decide) w01 (by simp) _ (r1 _ 0 1 2 (by decide) w11 (by simp) _ (r2 _ 0 1 w01 _ (r3 _ 1 (by decide) _ (r1 _ 1 0 1 (by decide) w01 (by simp) _ (r1 _ 1 1 2 (by decide) w11 (by simp) _ (r2 _ 1 2 w11 _ ?_)))))))
 exact Ev.step (f := fun _ => some (qF s)) (fun k => by simp only [aE.l0]; rw [Ea (by decide)]; rfl) (Ev.now _)
theorem ke (s : ByteArray) (i : Int) (hs : s.size ≤ 1048576) : Ev (fun k => cf.f k s i true) [ja s i 0, ja s i 1] := by
 have u := fun x y => kD s x y hs
 unfold cf.f
 refine Ev.step (f := fun k => (aq.f k s i 0).bind fun t => cf.l0 k s i true [t] 1) (fun k => by simp only [cf.l0]; rw [Da (by decide), Da trivial, w01]; simp) (Ev.bind (u i 0) ?_)
 refine Ev.step (f := fun k => (aq.f k s i 1).bind fun t => cf.l0 k s i true [ja s i 0, t] 2) (fun k => by simp only [cf.l0]; rw [Da (by decide), Da trivial, w11]; simp) (Ev.bind (u i 1) ?_)
 exact Ev.step (f := fun _ => some _) (fun k => by simp only [cf.l0]; rw [Ea (by decide)]) (Ev.now _)
theorem iC (s : ByteArray) (a b : Int) (hb : b = wrap64 (a + 1)) (ha : a = wrap64 (a + 0)) (hs : s.size ≤ 1048576) : Ev (fun k => bG.f k s a) [fq s a, fq s b] := by
 have u := fun x => iZ s x hs
 unfold bG.f
 refine Ev.step (f := fun k => (bJ.f k s a).bind fun t => bG.l0 k s a [t] 1) (fun k => by simp only [bG.l0]; rw [Da (by decide), w01, ← ha]; simp) (Ev.bind (u a) ?_)
 refine Ev.step (f := fun k => (bJ.f k s b).bind fun t => bG.l0 k s a [fq s a, t] 2) (fun k => by simp only [bG.l0]; rw [Da (by decide), w11, ← hb]; simp) (Ev.bind (u b) ?_)
 exact Ev.step (f := fun _ => some _) (fun k => by simp only [bG.l0]; rw [Ea (by decide)]) (Ev.now _)
theorem mL (a b A B : List Int) (h1 : Ev (fun k => aM.f k a) A) (h2 : Ev (fun k => aM.f k b) B) : Ev (fun k => ca.f k [a, b]) [A, B] := by
 unfold ca.f
 refine Ev.step (f := fun k => (aM.f k a).bind fun t => ca.l0 k [t] [a, b] 2 1) (fun k => by simp only [ca.l0]; rw [Da (by simp), Da (by decide), Da (by simp), w01]; rfl) (Ev.bind h1 ?_)
 refine Ev.step (f := fun k => (aM.f k b).bind fun t => ca.l0 k [A, t] [a, b] 2 2) (fun k => by simp only [ca.l0]; rw [Da (by simp), Da (by decide), Da (by simp), w11]; simp [dw]) (Ev.bind h2 ?_)
 exact Ev.step (f := fun _ => some _) (fun k => by simp only [ca.l0]; rw [Ea (by decide)]) (Ev.now _)
/-- One part of a cipher, of the reference. -/
theorem im (m c : ByteArray) (T M R : List (List Int)) (o : ByteArray) (i i2 : Int) (hi : i < 2) (c0 c1 s v e u : List Int) (p : ByteArray) (res : ByteArray × Bool)
  (j0 j1 : Int) (hM : M.length = 4) (z0 : wrap64 (0 + i) = j0) (z1 : wrap64 (2 + i) = j1) (q0 : 0 ≤ j0 ∧ j0 < 4) (q1 : 0 ≤ j1 ∧ j1 < 4) (k2 : dw M j0 = c0) (k5 : dw M j1 = c1) (k6 : wrap64 (2 + i) = i2)
  (f1 : Ev (fun k => bf.f k [c0, c1] R) s) (f2 : Ev (fun k => am.f k s) v) (f3 : Ev (fun k => bE.f k c i2) e) (f4 : Ev (fun k => aH.f k v e) u) (f5 : Ev (fun k => aK.f k u 10) p) (hp : o.size + p.size ≤ 9223372036854775807)
  (h : Ev (fun k => al.l1 k m c T M R (o ++ p) (wrap64 (i + 1))) res) : Ev (fun k => al.l1 k m c T M R o i) res := by
 refine Ev.step (f := fun k => al.l2 k m c T M R o i [] 0) (fun k => by simp only [al.l1]; rw [Da hi]) ?_
 refine Ev.step (f := fun k => al.l2 k m c T M R o i [c0] 1) (fun k => by simp only [al.l2]; rw [Da (by decide), w02, z0, Da q0.1, Da (by omega), k2, w01]; simp) ?_
 refine Ev.step (f := fun k => al.l2 k m c T M R o i [c0, c1] 2) (fun k => by simp only [al.l2]; rw [Da (by decide), w12, z1, Da q1.1, Da (by omega), k5, w11]; simp) ?_
 refine Ev.step (fun k => by simp only [al.l2]; rw [Ea (by decide), k6]) ?_
 exact Ev.bind f1 (Ev.bind f2 (Ev.bind f3 (Ev.bind f4 (Ev.bind f5 (Ev.pos hp h)))))
theorem ij (m c : ByteArray) (T : List (List Int)) (rho : ByteArray) (R E : List (List Int)) (o : ByteArray) (i : Int) (hi : i < 2) (h0 : 0 ≤ i) (row : List (List Int)) (s v e u q : List Int) (p : ByteArray) (res : ByteArray × Bool) (hE : i < (E.length : Int)) (he : dw E i = e)
  (f0 : Ev (fun k => cf.f k rho i true) row) (f1 : Ev (fun k => bI.f k row R) s) (f2 : Ev (fun k => ai.f k s) v) (f4 : Ev (fun k => bK.f k v e) u) (f5 : Ev (fun k => bp.f k u 10) q) (f6 : Ev (fun k => ay.f k q 10) p) (hp : o.size + p.size ≤ 9223372036854775807)
  (h : Ev (fun k => aD.l0 k m c T rho R E (o ++ p) (wrap64 (i + 1))) res) : Ev (fun k => aD.l0 k m c T rho R E o i) res := by
 refine Ev.step (fun k => by simp only [aD.l0]; rw [Da hi, he]) ?_
 exact Ev.bind f0 (Ev.bind f1 (Ev.bind f2 (Ev.pos h0 (Ev.pos hE (Ev.bind f4 (Ev.bind f5 (Ev.bind f6 (Ev.pos hp h))))))))
theorem nT (P m c : ByteArray) : ∃ R : ByteArray × Bool, Ev (fun k => al.f k P m c) R ∧ Ev (fun k => aD.f k P m c) R := by
 have sbad : Ev (fun k => al.j0 k P m c true) ((⟨#[]⟩ : ByteArray), false) := Ev.step (f := fun _ => some _) (fun k => by simp only [al.j0]; rw [Da trivial]) (Ev.now _)
 have ibad : Ev (fun k => aD.j0 k P m c true) ((⟨#[]⟩ : ByteArray), false) := Ev.step (f := fun _ => some _) (fun k => by simp only [aD.j0]; rw [Da trivial]) (Ev.now _)
 have so := jT P
 have io := jJ P
 by_cases h : ga P = true
 rotate_left
 ·refine ⟨((⟨#[]⟩ : ByteArray), false), ?_, ?_⟩
  ·unfold al.f
   exact Ev.bind so (Ev.neg h sbad)
  ·unfold aD.f
   exact Ev.bind io (Ev.neg h ibad)
 by_cases hm : (m.size : Int) = 32
 rotate_left
 ·refine ⟨((⟨#[]⟩ : ByteArray), false), ?_, ?_⟩
  ·unfold al.f
   exact Ev.bind so (Ev.pos h (Ev.neg hm sbad))
  ·unfold aD.f
   exact Ev.bind io (Ev.pos h (Ev.neg hm ibad))
 by_cases hc : (c.size : Int) = 32
 rotate_left
 ·have hcb : ((c.size : Int) != 32) = true := bne_iff_ne.mpr hc
  refine ⟨((⟨#[]⟩ : ByteArray), false), ?_, ?_⟩
  ·unfold al.f
   refine Ev.bind so (Ev.pos h (Ev.pos hm ?_))
   rw [hcb]
   exact sbad
  ·unfold aD.f
   refine Ev.bind io (Ev.pos h (Ev.pos hm ?_))
   rw [hcb]
   exact ibad
 have hcb : ((c.size : Int) != 32) = false := bne_eq_false_iff_eq.mpr hc
 have hP : P.size = 800 ∧ (gC P).2 = true := by
  unfold ga at h
  split at h
  ·exact ⟨by omega, h⟩
  ·exact absurd h (by decide)
 obtain ⟨t0, t1, hT, T0, T1⟩ := ll P hP.2
 have hr : (P.extract 768 P.size).size ≤ 1048576 := by rw [ByteArray.size_extract]; omega
 have sP := eZ P (by omega)
 have iP := fo P (by omega)
 have cs : c.size ≤ 1048576 := by omega
 have ul := fun x y => pT (P.extract 768 P.size) x y
 have sl := fun n => oH c n
 obtain ⟨R0, R0l, n1, n2⟩ := kQ (fq c 0) (by rw [sl]; decide)
 obtain ⟨R1, R1l, n3, n4⟩ := kQ (fq c 1) (by rw [sl]; decide)
 have part : ∀ (a b e : List Int), a.length ≤ 1000 → b.length ≤ 1000 → e.length ≤ 1000 → ∃ s v u : List Int, u.length ≤ 256 ∧ Ev (fun k => bf.f k [a, b] [R0, R1]) s ∧ Ev (fun k => bI.f k [a, b] [R0, R1]) s ∧ Ev (fun k => am.f k s) v ∧ Ev (fun k => ai.f k s) v ∧ Ev (fun k => aH.f k v e) u ∧ Ev (fun k => bK.f k v e) u := by
  intro a b e ha hb he
  obtain ⟨s, s1, s2, s3⟩ := pa a b R0 R1 (by omega) (by omega) (by omega) (by omega)
  obtain ⟨v, v1, v2, v3⟩ := oZ s (by omega)
  obtain ⟨u, u1, u2, u3⟩ := kM v e (by omega) (by omega)
  exact ⟨s, v, u, u1, s2, s3, v2, v3, u2, u3⟩
 obtain ⟨s0, v0, u0, l0, a1, a2, a3, a4, a5, a6⟩ := part (ja (P.extract 768 P.size) 0 0) (ja (P.extract 768 P.size) 0 1) (fq c 2) (by rw [ul]; decide) (by rw [ul]; decide) (by rw [sl]; decide)
 obtain ⟨s1, v1, u1, l1, b1, b2, b3, b4, b5, b6⟩ := part (ja (P.extract 768 P.size) 1 0) (ja (P.extract 768 P.size) 1 1) (fq c 3) (by rw [ul]; decide) (by rw [ul]; decide) (by rw [sl]; decide)
 obtain ⟨s2, v2, u2, l2, c1, c2, c3, c4, c5, c6⟩ := part t0 t1 (fq c 4) (by omega) (by omega) (by rw [sl]; decide)
 obtain ⟨w, w1, w2, w3⟩ := kM u2 (eF m) (by omega) (by rw [fy]; decide)
 have e0 : (⟨#[]⟩ : ByteArray).size = 0 := rfl
 have p0 := gA 10 u0 (by decide) (by omega)
 have p1 := gA 10 u1 (by decide) (by omega)
 have p2 := gA 4 w (by decide) (by omega)
 have q0 : ((⟨#[]⟩ : ByteArray) ++ fl 10 (sqV u0 (10 : Nat))).size ≤ 10000 := by rw [ByteArray.size_append]; show 0 + _ ≤ _; omega
 have q1 : (((⟨#[]⟩ : ByteArray) ++ fl 10 (sqV u0 (10 : Nat))) ++ fl 10 (sqV u1 (10 : Nat))).size ≤ 20000 := by rw [ByteArray.size_append]; omega
 refine ⟨((((⟨#[]⟩ : ByteArray) ++ fl 10 (sqV u0 (10 : Nat))) ++ fl 10 (sqV u1 (10 : Nat))) ++ fl 4 (sqV w (4 : Nat)), true), ?_, ?_⟩
 ·unfold al.f
  refine Ev.bind so (Ev.pos h (Ev.pos hm ?_))
  rw [hcb]
  refine Ev.step (fun k => by simp only [al.j0]; rw [Ea (by decide)]) (Ev.bind sP ?_)
  rw [hT]
  refine Ev.pos (by omega) (Ev.bind (lq _ hr) ?_)
  refine Ev.step (f := fun k => (bE.f k c 0).bind fun t => (bh.f k t).bind fun u => al.l0 k m c [t0, t1] (qF (P.extract 768 P.size)) [u] 1) (fun k => by simp only [al.l0]; rw [Da (by decide), w01]; simp) (Ev.bind (fj c 0 cs) (Ev.bind n1 ?_))
  refine Ev.step (f := fun k => (bE.f k c 1).bind fun t => (bh.f k t).bind fun u => al.l0 k m c [t0, t1] (qF (P.extract 768 P.size)) [R0, u] 2) (fun k => by simp only [al.l0]; rw [Da (by decide), w11]; simp) (Ev.bind (fj c 1 cs) (Ev.bind n3 ?_))
  refine Ev.step (f := fun k => al.l1 k m c [t0, t1] (qF (P.extract 768 P.size)) [R0, R1] (⟨#[]⟩ : ByteArray) 0) (fun k => by simp only [al.l0]; rw [Ea (by decide)]) ?_
  refine im m c [t0, t1] _ [R0, R1] _ 0 2 (by decide) _ _ s0 v0 (fq c 2) u0 _ _ 0 2 rfl w00 w20 (by decide) (by decide) rfl rfl w20 a1 a3 (fj c 2 cs) a5 (eo u0 10 (by decide) (by decide) (by omega)) (by omega) ?_
  rw [w01]
  refine im m c [t0, t1] _ [R0, R1] _ 1 3 (by decide) _ _ s1 v1 (fq c 3) u1 _ _ 1 3 rfl w01 w21 (by decide) (by decide) rfl rfl w21 b1 b3 (fj c 3 cs) b5 (eo u1 10 (by decide) (by decide) (by omega)) (by omega) ?_
  rw [w11]
  refine Ev.step (fun k => by simp only [al.l1]; rw [Ea (by decide)]) ?_
  exact Ev.bind c1 (Ev.bind c3 (Ev.bind (fj c 4 cs) (Ev.bind c5 (Ev.bind (kt m (by omega)) (Ev.bind w2 (Ev.bind (eo w 4 (by decide) (by decide) (by omega)) (Ev.pos (by omega) (Ev.now _))))))))
 ·unfold aD.f
  refine Ev.bind io (Ev.pos h (Ev.pos hm ?_))
  rw [hcb]
  refine Ev.step (fun k => by simp only [aD.j0]; rw [Ea (by decide)]) (Ev.bind iP ?_)
  rw [hT]
  refine Ev.pos (by omega) (Ev.bind (iC c 0 1 (Eq.symm w01) (Eq.symm w00) cs) (Ev.bind (mL _ _ _ _ n2 n4) (Ev.bind (iC c 2 3 (Eq.symm w21) (Eq.symm w20) cs) ?_)))
  refine ij m c [t0, t1] _ [R0, R1] _ _ 0 (by decide) (by decide) _ s0 v0 (fq c 2) u0 _ _ _ (by simp) rfl (ke _ 0 hr) a2 a4 a6 (eY u0 10 (by omega)) (eN u0 10 (by decide) (by decide) (by omega)) (by omega) ?_
  rw [w01]
  refine ij m c [t0, t1] _ [R0, R1] _ _ 1 (by decide) (by decide) _ s1 v1 (fq c 3) u1 _ _ _ (by simp) rfl (ke _ 1 hr) b2 b4 b6 (eY u1 10 (by omega)) (eN u1 10 (by decide) (by decide) (by omega)) (by omega) ?_
  rw [w11]
  refine Ev.step (fun k => by simp only [aD.l0]; rw [Ea (by decide)]) ?_
  exact Ev.bind c2 (Ev.bind c4 (Ev.bind (iZ c 4 cs) (Ev.bind c6 (Ev.bind (lh m (by omega)) (Ev.bind w3 (Ev.bind (eY w 4 (by omega)) (Ev.bind (eN w 4 (by decide) (by decide) (by omega)) (Ev.pos (by omega) (Ev.now _)))))))))
def W32 (x : Int) : Prop := 0 ≤ x ∧ x < 4294967296
theorem W32.mod (x : Int) : W32 (x % 4294967296) := by unfold W32; omega
theorem W32.xor (a b : Int) : W32 (Go.bits .xor .u32 a b) := by
 show W32 (IntKind.u32.wrap (((BitVec.ofInt 32 a ^^^ BitVec.ofInt 32 b).toNat : Nat) : Int))
 rw [IntKind.wrap_u32']; exact W32.mod _
theorem W32.or (a b : Int) : W32 (Go.bits .or .u32 a b) := by
 show W32 (IntKind.u32.wrap (((BitVec.ofInt 32 a ||| BitVec.ofInt 32 b).toNat : Nat) : Int))
 rw [IntKind.wrap_u32']; exact W32.mod _
theorem rf : ∀ n : Int, 0 ≤ n → n < 2 ^ 32 → IntKind.u32.wrap n = n := fun n h0 h1 => by rw [IntKind.wrap_u32']; omega
/-- Two words joined that share no bit. -/
theorem pQ (i : Nat) (x y : Int) (hx : W32 x) (hi : x % 2 ^ i = 0) (hy : W32 y) (hyi : y < 2 ^ i) : Go.bits .or .u32 x y = x + y :=
 bits_join .u32 32 (by decide) rf i x y hx.1 hi (by have := hx.2; omega) hy.1 hyi (by have := hy.2; omega)
theorem sd (e : Int) (h : W32 e) : Go.bits .xor .u32 (if IntKind.u32.signed = true then -1 else IntKind.u32.max) e = 4294967295 - e := by
 obtain ⟨n, rfl⟩ := Int.eq_ofNat_of_zero_le h.1
 have hn : n < 4294967296 := by have := h.2; omega
 show IntKind.u32.wrap (((BitVec.ofInt 32 4294967295 ^^^ BitVec.ofInt 32 (n : Int)).toNat : Nat) : Int) = _
 have h1 : (BitVec.ofInt 32 4294967295 ^^^ BitVec.ofInt 32 (n : Int)).toNat = 4294967295 - n := by
  have e1 : BitVec.ofInt 32 4294967295 = BitVec.allOnes 32 := by decide
  rw [e1, BitVec.allOnes_xor, BitVec.toNat_not, BitVec.toNat_ofInt]
  omega
 rw [h1, IntKind.wrap_u32']
 omega
theorem rP (x : Int) (n : Nat) (h1 : 1 ≤ n) (h2 : n ≤ 31) (h : W32 x) : rot x n = x / 2 ^ n + (x % 2 ^ n) * 2 ^ (32 - n) := by
 obtain ⟨A, hA⟩ : ∃ A : Int, A = 2 ^ n := ⟨_, rfl⟩
 obtain ⟨B, hB⟩ : ∃ B : Int, B = 2 ^ (32 - n) := ⟨_, rfl⟩
 have hA0 : 0 < A := by rw [hA]; exact Int.pow_pos (by decide)
 have hB0 : 0 < B := by rw [hB]; exact Int.pow_pos (by decide)
 have hAB : B * A = 4294967296 := by
  rw [hA, hB, ← Int.pow_add, show 32 - n + n = 32 by omega]; rfl
 have hl : shl .u32 x ((32 - n : Nat) : Int) = (x % A) * B := by
  unfold shl
  rw [Int.toNat_natCast, Nat.min_eq_left (by show 32 - n ≤ 32; omega), IntKind.wrap_u32', ← hB, ← hAB, Int.mul_comm x B, Int.mul_emod_mul_of_pos _ _ hB0, Int.mul_comm]
 have hr : shr .u32 x (n : Int) = x / A := by
  unfold shr
  rw [Int.toNat_natCast, Nat.min_eq_left (by show n ≤ 32; omega), ← hA]
 have hm0 := Int.emod_nonneg x (Int.ne_of_gt hA0)
 have hm1 := Int.emod_lt_of_pos x hA0
 have hd0 : 0 ≤ x / A := Int.ediv_nonneg h.1 (Int.le_of_lt hA0)
 have hd1 : x / A < B := Int.ediv_lt_of_lt_mul hA0 (by rw [hAB]; exact h.2)
 have hmb : (x % A) * B < 4294967296 := by
  have h3 : (x % A + 1) * B ≤ A * B := Int.mul_le_mul_of_nonneg_right (by omega) (Int.le_of_lt hB0)
  rw [Int.mul_comm A B, hAB, Int.add_mul, Int.one_mul] at h3
  omega
 have hB1 : B ≤ 4294967296 := by
  have h3 : B * 1 ≤ B * A := Int.mul_le_mul_of_nonneg_left (by omega) (Int.le_of_lt hB0)
  rw [hAB, Int.mul_one] at h3; exact h3
 unfold rot
 rw [hl, hr, ← hA, ← hB, pQ (32 - n) _ _ ⟨Int.mul_nonneg hm0 (Int.le_of_lt hB0), hmb⟩ (by rw [← hB]; exact Int.mul_emod_left _ _) ⟨hd0, by omega⟩ (by rw [← hB]; exact hd1), Int.add_comm]
theorem sn (x : Int) (n : Nat) : W32 (rot x n) := W32.or _ _
theorem fZ (x : Int) (n : Nat) (a b : Int) (ha : a = 2 ^ n) (hb : b = 2 ^ (32 - n)) (h1 : 1 ≤ n) (h2 : n ≤ 31) (h : W32 x) : cM.f x a b = some (rot x n) := by
 have hA0 : 0 < a := by rw [ha]; exact Int.pow_pos (by decide)
 have hr := rP x n h1 h2 h
 have hw := sn x n
 rw [← ha, ← hb] at hr
 have hw1 := hw.1
 have hw2 := hw.2
 have hd0 : 0 ≤ x / a := Int.ediv_nonneg h.1 (Int.le_of_lt hA0)
 have hb0 : 0 ≤ b := by rw [hb]; exact Int.le_of_lt (Int.pow_pos (by decide))
 have hm0 : 0 ≤ x % a * b := Int.mul_nonneg (Int.emod_nonneg x (Int.ne_of_gt hA0)) hb0
 unfold cM.f
 rw [Ea (Int.ne_of_gt hA0), Int.tdiv_eq_ediv_of_nonneg h.1, Int.tmod_eq_emod_of_nonneg h.1]
 rw [hr] at hw1 hw2 ⊢
 congr 1
 rw [Int.emod_eq_of_lt hd0 (by omega), Int.emod_eq_of_lt hm0 (by omega), Int.emod_eq_of_lt hw1 hw2]
theorem mB (x : Int) (n m : Nat) (a b c : Int) (ha : a = 2 ^ n) (hb : b = 2 ^ m) (hc : c ≠ 0) (ha2 : (Int.tdiv 2147483648 a % 4294967296) * 2 % 4294967296 = 2 ^ (32 - n)) (hb2 : (Int.tdiv 2147483648 b % 4294967296) * 2 % 4294967296 = 2 ^ (32 - m)) (hn : 1 ≤ n ∧ n ≤ 31) (hm : 1 ≤ m ∧ m ≤ 31) (hcx : 0 < c) (h : W32 x) :
  cV.f x a b c true = some (Go.bits .xor .u32 (Go.bits .xor .u32 (rot x n) (rot x m)) (x / c)) := by
 have ha0 : a ≠ 0 := by rw [ha]; exact Int.ne_of_gt (Int.pow_pos (by decide))
 have hb0 : b ≠ 0 := by rw [hb]; exact Int.ne_of_gt (Int.pow_pos (by decide))
 unfold cV.f
 rw [Ea ha0, fZ x n a _ ha ha2 hn.1 hn.2 h]
 simp only [Option.bind_some]
 rw [Ea hb0, fZ x m b _ hb hb2 hm.1 hm.2 h]
 simp only [Option.bind_some]
 rw [Ea hc, Da trivial, Int.tdiv_eq_ediv_of_nonneg h.1]
 have h1 : 0 ≤ x / c := Int.ediv_nonneg h.1 (Int.le_of_lt hcx)
 have h2 : x / c ≤ x := Int.ediv_le_self _ h.1
 rw [Int.emod_eq_of_lt h1 (by have := h.2; omega)]
theorem lK (x : Int) (n m q : Nat) (a b c : Int) (ha : a = 2 ^ n) (hb : b = 2 ^ m) (hc : c = 2 ^ q) (ha2 : (Int.tdiv 2147483648 a % 4294967296) * 2 % 4294967296 = 2 ^ (32 - n)) (hb2 : (Int.tdiv 2147483648 b % 4294967296) * 2 % 4294967296 = 2 ^ (32 - m)) (hc2 : (Int.tdiv 2147483648 c % 4294967296) * 2 % 4294967296 = 2 ^ (32 - q)) (hn : 1 ≤ n ∧ n ≤ 31) (hm : 1 ≤ m ∧ m ≤ 31) (hq : 1 ≤ q ∧ q ≤ 31) (h : W32 x) :
  cV.f x a b c false = some (Go.bits .xor .u32 (Go.bits .xor .u32 (rot x n) (rot x m)) (rot x q)) := by
 have ha0 : a ≠ 0 := by rw [ha]; exact Int.ne_of_gt (Int.pow_pos (by decide))
 have hb0 : b ≠ 0 := by rw [hb]; exact Int.ne_of_gt (Int.pow_pos (by decide))
 have hc0 : c ≠ 0 := by rw [hc]; exact Int.ne_of_gt (Int.pow_pos (by decide))
 unfold cV.f
 rw [Ea ha0, fZ x n a _ ha ha2 hn.1 hn.2 h]
 simp only [Option.bind_some]
 rw [Ea hb0, fZ x m b _ hb hb2 hm.1 hm.2 h]
 simp only [Option.bind_some]
 rw [Ea hc0, Ea (by decide), fZ x q c _ hc hc2 hq.1 hq.2 h]
 simp only [Option.bind_some]
theorem sL (x : Int) (h : W32 x) : cV.f x 131072 524288 1024 true = some (Go.bits .xor .u32 (Go.bits .xor .u32 (rot x 17) (rot x 19)) (x / 1024)) :=
 mB x 17 19 _ _ _ rfl rfl (by decide) rfl rfl (by decide) (by decide) (by decide) h
theorem sI (x : Int) (h : W32 x) : cV.f x 128 262144 8 true = some (Go.bits .xor .u32 (Go.bits .xor .u32 (rot x 7) (rot x 18)) (x / 8)) :=
 mB x 7 18 _ _ _ rfl rfl (by decide) rfl rfl (by decide) (by decide) (by decide) h
theorem S_e (x : Int) (h : W32 x) : cV.f x 64 2048 33554432 false = some (Go.bits .xor .u32 (Go.bits .xor .u32 (rot x 6) (rot x 11)) (rot x 25)) :=
 lK x 6 11 25 _ _ _ rfl rfl rfl rfl rfl rfl (by decide) (by decide) (by decide) h
theorem S_a (x : Int) (h : W32 x) : cV.f x 4 8192 4194304 false = some (Go.bits .xor .u32 (Go.bits .xor .u32 (rot x 2) (rot x 13)) (rot x 22)) :=
 lK x 2 13 22 _ _ _ rfl rfl rfl rfl rfl rfl (by decide) (by decide) (by decide) h
/-! the words of a block -/
def gN (s : ByteArray) (i : Nat) : Int := bt s ((4 * i : Nat) : Int) * 16777216 + bt s ((4 * i + 1 : Nat) : Int) * 65536 + bt s ((4 * i + 2 : Nat) : Int) * 256 + bt s ((4 * i + 3 : Nat) : Int)
theorem r6 (s : ByteArray) (i : Nat) : W32 (gN s i) := by
 have h0 := dC s ((4 * i : Nat) : Int)
 have h1 := dC s ((4 * i + 1 : Nat) : Int)
 have h2 := dC s ((4 * i + 2 : Nat) : Int)
 have h3 := dC s ((4 * i + 3 : Nat) : Int)
 unfold gN W32
 omega
def gj (s : ByteArray) (n : Nat) : List Int := (List.range n).map (gN s)
theorem fx (s : ByteArray) (n : Nat) : (gj s n).length = n := by simp [gj]
theorem ly (s : ByteArray) (n : Nat) : gj s (n + 1) = gj s n ++ [gN s n] := by simp [gj, List.range_succ]
theorem qK (s : ByteArray) (n : Nat) : ∀ x ∈ gj s n, W32 x := by
 intro x hx
 obtain ⟨i, _, rfl⟩ := List.mem_map.mp hx
 exact r6 s i
theorem kI (s : ByteArray) (i : Nat) (h : 4 * i + 4 ≤ s.size) (hs : s.size ≤ 4611686018427387904) : ej.f s ((4 * i : Nat) : Int) = some (gN s i) := by
 have e1 : wrap64 (((4 * i : Nat) : Int) + 1) = ((4 * i + 1 : Nat) : Int) := by rw [w64 (by omega) (by omega)]; rfl
 have e2 : wrap64 (((4 * i : Nat) : Int) + 2) = ((4 * i + 2 : Nat) : Int) := by rw [w64 (by omega) (by omega)]; rfl
 have e3 : wrap64 (((4 * i : Nat) : Int) + 3) = ((4 * i + 3 : Nat) : Int) := by rw [w64 (by omega) (by omega)]; rfl
 have h0 := dC s ((4 * i : Nat) : Int)
 have h1 := dC s ((4 * i + 1 : Nat) : Int)
 have h2 := dC s ((4 * i + 2 : Nat) : Int)
 have h3 := dC s ((4 * i + 3 : Nat) : Int)
 unfold ej.f
 rw [e1, e2, e3, Da (by omega), Da (by omega), Da (by omega), Da (by omega), Da (by omega), Da (by omega), Da (by omega), Da (by omega)]
 unfold gN
 congr 1
 generalize bt s ((4 * i : Nat) : Int) = b0 at *
 generalize bt s ((4 * i + 1 : Nat) : Int) = b1 at *
 generalize bt s ((4 * i + 2 : Nat) : Int) = b2 at *
 generalize bt s ((4 * i + 3 : Nat) : Int) = b3 at *
 clear e1 e2 e3
 omega
theorem gO (s : ByteArray) (n : Nat) (h : s.size = 4 * n) (hn : n ≤ 1000000) : Ev (fun k => bm.f k s) (gj s n) := by
 refine Ev.up (g := fun i k => bm.l0 k s (gj s i) ((4 * i : Nat) : Int)) n ?_ ?_ 0 (Nat.zero_le _)
 ·intro i hi hh
  refine Ev.step (fun k => ?_) hh
  simp only [bm.l0]
  have e4 : wrap64 (((4 * i : Nat) : Int) + 4) = ((4 * (i + 1) : Nat) : Int) := by rw [w64 (by omega) (by omega)]; omega
  rw [e4, Da (by omega), kI s i (by omega) (by omega)]
  simp only [Option.bind_some]
  rw [Da (by rw [fx]; omega), ly]
 ·refine Ev.step (f := fun _ => some (gj s n)) (fun k => ?_) (Ev.now _)
  simp only [bm.l0]
  have e4 : wrap64 (((4 * n : Nat) : Int) + 4) = ((4 * (n + 1) : Nat) : Int) := by rw [w64 (by omega) (by omega)]; omega
  rw [e4, Ea (by omega)]
/-- The words while gN i is being made. -/
def iR (s : ByteArray) (i : Nat) (x : Int) : List Int := gj s i ++ x :: List.replicate (63 - i) 0
theorem qA (s : ByteArray) (i : Nat) (x : Int) : rd (iR s i x) (i : Int) = x := by
 rw [jK, iR, List.getD_eq_getElem?_getD, List.getElem?_append_right (by rw [fx]; omega), fx]
 simp
theorem pA (s : ByteArray) (i : Nat) (x y : Int) : (iR s i x).set i y = iR s i y := by
 unfold iR
 rw [List.set_append_right _ _ (by rw [fx]; omega), fx]
 simp
theorem gz (s : ByteArray) (m i : Nat) (x y : Int) (hm : m / 4 = i) (h : eQ s m = iR s i x) (hx : 0 ≤ x) (hx2 : x < 16777216) (hy : y = x * 256 + bt s (m : Int)) : eQ s (m + 1) = iR s i y := by
 have hb := dC s (m : Int)
 simp only [eQ]
 rw [hm, h, qA, pA, pQ 8 _ _ (W32.mod _) (by omega) (W32.mod _) (by omega), hy]
 congr 1
 omega
theorem nx (s : ByteArray) (i : Nat) (hi : i < 16) (h : eQ s (4 * i) = iR s i 0) : eQ s (4 * (i + 1)) = gj s (i + 1) ++ List.replicate (63 - i) 0 := by
 have b0 := dC s ((4 * i : Nat) : Int)
 have b1 := dC s ((4 * i + 1 : Nat) : Int)
 have b2 := dC s ((4 * i + 2 : Nat) : Int)
 have b3 := dC s ((4 * i + 3 : Nat) : Int)
 have h1 := gz s (4 * i) i 0 (bt s ((4 * i : Nat) : Int)) (by omega) h (by omega) (by omega) (by omega)
 have h2 := gz s (4 * i + 1) i _ (bt s ((4 * i : Nat) : Int) * 256 + bt s ((4 * i + 1 : Nat) : Int)) (by omega) h1 (by omega) (by omega) rfl
 have h3 := gz s (4 * i + 2) i _ ((bt s ((4 * i : Nat) : Int) * 256 + bt s ((4 * i + 1 : Nat) : Int)) * 256 + bt s ((4 * i + 2 : Nat) : Int)) (by omega) h2 (by omega) (by omega) rfl
 have h4 := gz s (4 * i + 3) i _ (gN s i) (by omega) h3 (by omega) (by omega) (by unfold gN; omega)
 rw [show 4 * (i + 1) = 4 * i + 3 + 1 by omega, h4, iR, ly]
 simp
theorem jk (s : ByteArray) : ∀ i, i ≤ 16 → eQ s (4 * i) = gj s i ++ List.replicate (64 - i) 0
 | 0, _ => rfl
 | i + 1, h => by
  have ih := jk s i (by omega)
  rw [nx s i (by omega) (by rw [ih, iR, show 64 - i = (63 - i) + 1 by omega, List.replicate_succ]), show 64 - (i + 1) = 63 - i by omega]
theorem n7 (l : List Int) (t : Nat) : W32 (ix l t) := W32.mod _
theorem lV (l : List Int) (t : Nat) (v : Int) (h : t < l.length) : (l.set t v).take (t + 1) = l.take t ++ [v] := by
 rw [List.take_add_one, List.take_set_of_le (Aa _)]
 simp [h]
theorem kh (s : ByteArray) (j : Nat) (h : j < 48) : (ep s (j + 1)).take (16 + (j + 1)) = (ep s j).take (16 + j) ++ [ix (ep s j) (16 + j)] :=
 lV _ (16 + j) _ (by rw [dY]; omega)
theorem kc (s : ByteArray) : ∀ j, j ≤ 48 → ∀ x ∈ (ep s j).take (16 + j), W32 x
 | 0, _ => by
  intro x hx
  have := jk s 16 (Aa _)
  simp only [ep] at hx
  rw [show 64 = 4 * 16 from rfl, this, List.take_append_of_le_length (by rw [fx]; omega)] at hx
  exact qK s 16 x (List.mem_of_mem_take hx)
 | j + 1, h => by
  intro x hx
  rw [kh s j (by omega), List.mem_append] at hx
  rcases hx with hx | hx
  ·exact kc s j (by omega) x hx
  ·simp at hx; subst hx; exact n7 _ _
theorem jD (l : List Int) (t i : Nat) (h : i < t) : rd (l.take t) (i : Int) = rd l (i : Int) := by
 rw [jK, jK]
 simp [List.getElem?_take, h]
theorem sg (s : ByteArray) (j i : Nat) (hj : j ≤ 48) (hi : i < 16 + j) : W32 (rd (ep s j) (i : Int)) := by
 have hl := dY s j
 rw [← jD _ (16 + j) i hi, dg _ _ (by rw [List.length_take, hl]; omega)]
 exact kc s j hj _ (List.getElem_mem _)
theorem sC (s : ByteArray) (st ks : List Int) (r : List Int) (hst : st.length = 8) (h : Ev (fun k => af.l1 k st ks (bU.v s) st 0) r) : Ev (fun k => af.l0 k st ks (gj s 16) 16) r := by
 have h0 : gj s 16 = (ep s 0).take 16 := by
  simp only [ep]
  rw [show 64 = 4 * 16 from rfl, jk s 16 (Aa _), List.take_append_of_le_length (by rw [fx]; omega), List.take_of_length_le (by rw [fx]; omega)]
 rw [h0]
 refine Ev.up (g := fun j k => af.l0 k st ks ((ep s j).take (16 + j)) ((16 + j : Nat) : Int)) 48 ?_ ?_ 0 (Nat.zero_le _)
 ·intro j hj hh
  refine Ev.step (fun k => ?_) hh
  have hl : ((ep s j).take (16 + j)).length = 16 + j := by rw [List.length_take, dY]; omega
  have e1 : wrap64 (((16 + j : Nat) : Int) - 2) = ((14 + j : Nat) : Int) := by rw [w64 (by omega) (by omega)]; omega
  have e2 : wrap64 (((16 + j : Nat) : Int) - 7) = ((9 + j : Nat) : Int) := by rw [w64 (by omega) (by omega)]; omega
  have e3 : wrap64 (((16 + j : Nat) : Int) - 15) = ((1 + j : Nat) : Int) := by rw [w64 (by omega) (by omega)]; omega
  have e4 : wrap64 (((16 + j : Nat) : Int) - 16) = ((j : Nat) : Int) := by rw [w64 (by omega) (by omega)]; omega
  have e5 : wrap64 (((16 + j : Nat) : Int) + 1) = ((16 + (j + 1) : Nat) : Int) := by rw [w64 (by omega) (by omega)]; omega
  simp only [af.l0]
  rw [e1, e2, e3, e4, e5, hl, jD _ _ _ (by omega), jD _ _ _ (by omega), jD _ _ _ (by omega), jD _ _ _ (by omega)]
  rw [Da (by omega), Da (by omega), Da (by omega), sL _ (sg s j _ (by omega) (by omega))]
  simp only [Option.bind_some]
  rw [Da (by omega), Da (by omega), Da (by omega), Da (by omega), sI _ (sg s j _ (by omega) (by omega))]
  simp only [Option.bind_some]
  rw [Da (by omega), Da (by omega), Da (by omega), kh s j hj]
  congr 2
  unfold ix
  rw [show 16 + j - 2 = 14 + j by omega, show 16 + j - 7 = 9 + j by omega, show 16 + j - 15 = 1 + j by omega, show 16 + j - 16 = j by omega]
  simp only [List.append_cancel_left_eq, List.cons.injEq, and_true]
  omega
 ·refine Ev.step (fun k => ?_) h
  have hl := dY s 48
  simp only [af.l0, Option.bind_some]
  rw [Ea (by omega), Da (by simp; omega), List.take_of_length_le (by omega)]
  rfl
theorem wl0 : wrap64 0 = 0 := w64 (by decide) (by decide)
theorem wl1 : wrap64 1 = 1 := w64 (by decide) (by decide)
theorem wl2 : wrap64 2 = 2 := w64 (by decide) (by decide)
theorem wl3 : wrap64 3 = 3 := w64 (by decide) (by decide)
theorem wl4 : wrap64 4 = 4 := w64 (by decide) (by decide)
theorem wl5 : wrap64 5 = 5 := w64 (by decide) (by decide)
theorem wl6 : wrap64 6 = 6 := w64 (by decide) (by decide)
theorem wl7 : wrap64 7 = 7 := w64 (by decide) (by decide)
theorem wl8 : wrap64 8 = 8 := w64 (by decide) (by decide)
theorem qm (k : Nat) (x0 x1 x7 : List Int) (a b c d e f g h t u v : Int) : af.l2 (k + 1 + 1 + 1 + 1 + 1 + 1 + 1 + 1) x0 x1 x7 [a, b, c, d, e, f, g, h] t u v 7 = af.l1 k x0 x1 x7 [(u + v) % 4294967296, a, b, c, (d + u) % 4294967296, e, f, g] (wrap64 (t + 1)) := by
 simp [af.l2, wl0, wl1, wl2, wl3, wl4, wl5, wl6, wl7, wl8, rd]
theorem qo (k : Nat) (a b c d e f g h a' b' c' d' e' f' g' h' : Int) : af.l3 (k + 1 + 1 + 1 + 1 + 1 + 1 + 1 + 1 + 1) [a, b, c, d, e, f, g, h] [a', b', c', d', e', f', g', h'] [] 0 = some [(a + a') % 4294967296, (b + b') % 4294967296, (c + c') % 4294967296, (d + d') % 4294967296, (e + e') % 4294967296, (f + f') % 4294967296, (g + g') % 4294967296, (h + h') % 4294967296] := by
 simp [af.l3, wl0, wl1, wl2, wl3, wl4, wl5, wl6, wl7, wl8, rd]
theorem lI (a b c d e f g h a' b' c' d' e' f' g' h' : Int) : ic [a, b, c, d, e, f, g, h] [a', b', c', d', e', f', g', h'] 8 = [(a' + a) % 4294967296, (b' + b) % 4294967296, (c' + c) % 4294967296, (d' + d) % 4294967296, (e' + e) % 4294967296, (f' + f) % 4294967296, (g' + g) % 4294967296, (h' + h) % 4294967296] := rfl
/-- dR words. -/
def dR (l : List Int) : Prop := l.length = 8 ∧ ∀ x ∈ l, W32 x
theorem dR.cases {l : List Int} (h : dR l) : ∃ a b c d e f g i, l = [a, b, c, d, e, f, g, i] ∧ W32 a ∧ W32 b ∧ W32 c ∧ W32 d ∧ W32 e ∧ W32 f ∧ W32 g ∧ W32 i := by
 obtain ⟨hl, hw⟩ := h
 match l, hl with
 | [a, b, c, d, e, f, g, i], _ => exact ⟨a, b, c, d, e, f, g, i, rfl, hw _ (by simp), hw _ (by simp), hw _ (by simp), hw _ (by simp), hw _ (by simp), hw _ (by simp), hw _ (by simp), hw _ (by simp)⟩
theorem dR.mk' {a b c d e f g i : Int} (h1 : W32 a) (h2 : W32 b) (h3 : W32 c) (h4 : W32 d) (h5 : W32 e) (h6 : W32 f) (h7 : W32 g) (h8 : W32 i) : dR [a, b, c, d, e, f, g, i] := by
 refine ⟨rfl, fun x hx => ?_⟩
 simp only [List.mem_cons, List.not_mem_nil, or_false] at hx
 rcases hx with rfl | rfl | rfl | rfl | rfl | rfl | rfl | rfl <;> assumption
theorem pv {k w : Int} {l : List Int} (h : dR l) : dR (rnd k w l) := by
 obtain ⟨a, b, c, d, e, f, g, i, rfl, h1, h2, h3, h4, h5, h6, h7, h8⟩ := h.cases
 exact dR.mk' (W32.mod _) h1 h2 h3 (W32.mod _) h5 h6 h7
theorem gZ {ws st : List Int} (h : dR st) : ∀ t, dR (rounds ws st t)
 | 0 => h
 | t + 1 => pv (gZ h t)
theorem qJ {st v : List Int} (hst : dR st) (hv : dR v) : ∃ k0, ∀ k, k0 ≤ k → af.l3 k st v [] 0 = some (ic st v 8) := by
 obtain ⟨a, b, c, d, e, f, g, i, rfl, _⟩ := hv.cases
 obtain ⟨a', b', c', d', e', f', g', i', rfl, _⟩ := hst.cases
 refine ⟨9, fun k hk => ?_⟩
 obtain ⟨k', rfl⟩ : ∃ k', k = k' + 1 + 1 + 1 + 1 + 1 + 1 + 1 + 1 + 1 := ⟨k - 9, by omega⟩
 rw [qo, lI]
 simp only [Int.add_comm]
theorem qM (ws : List Int) {st v : List Int} (hst : dR st) (hv : dR v) : ∃ k0, ∀ k, k0 ≤ k → af.l1 k st roundKeys ws v ((64 : Nat) : Int) = some (ic st v 8) := by
 obtain ⟨k0, h⟩ := qJ hst hv
 refine ⟨k0 + 1, fun k hk => ?_⟩
 obtain ⟨k', rfl⟩ : ∃ k', k = k' + 1 := ⟨k - 1, by omega⟩
 simp only [af.l1]
 rw [Ea (by decide)]
 exact h k' (by omega)
theorem sJ (ws : List Int) (st : List Int) (hst : dR st) (hwl : ws.length = 64) (R : Nat → List Int) (h0 : R 0 = st) (hs : ∀ t, R (t + 1) = rnd (rd roundKeys (t : Int)) (rd ws (t : Int)) (R t)) (he : ∀ t, dR (R t)) : Ev (fun k => af.l1 k st roundKeys ws st 0) (ic st (R 64) 8) := by
 have hkl : roundKeys.length = 64 := rfl
 have key : Ev (fun k => af.l1 k st roundKeys ws (R 0) ((0 : Nat) : Int)) (ic st (R 64) 8) := by
  refine Ev.up (g := fun t k => af.l1 k st roundKeys ws (R t) (t : Int)) 64 ?_ ?_ 0 (Nat.zero_le _)
  ·intro t ht hh
   obtain ⟨a, b, c, d, e, f, g, i, hv, h1, h2, h3, h4, h5, h6, h7, h8⟩ := (he t).cases
   obtain ⟨K, hK⟩ := hh
   refine ⟨K + 9, fun k hk => ?_⟩
   obtain ⟨k', rfl⟩ : ∃ k', k = k' + 1 + 1 + 1 + 1 + 1 + 1 + 1 + 1 + 1 := ⟨k - 9, by omega⟩
   have hgo := hK k' (by omega)
   simp only [af.l1]
   rw [hv]
   rw [Da (by omega), Da (by simp), Da (by simp), Da (by simp), Da (by simp), show rd [a, b, c, d, e, f, g, i] 4 = e from rfl, show rd [a, b, c, d, e, f, g, i] 0 = a from rfl, show rd [a, b, c, d, e, f, g, i] 5 = f from rfl, show rd [a, b, c, d, e, f, g, i] 6 = g from rfl, show rd [a, b, c, d, e, f, g, i] 7 = i from rfl, show rd [a, b, c, d, e, f, g, i] 1 = b from rfl, show rd [a, b, c, d, e, f, g, i] 2 = c from rfl, S_e e h5]
   simp only [Option.bind_some]
   rw [Da (by omega), Da (by omega), Da (by omega), Da (by simp), Da (by simp), Da (by simp), S_a a h1]
   simp only [Option.bind_some]
   rw [qm, dv t (by omega)]
   rw [← hgo, hs t, hv]
   simp only [rnd]
   rw [sd e h5, show (4294967295 - e) % 4294967296 = 4294967295 - e by have := h5.1; have := h5.2; omega]
   congr 1
   simp only [List.cons.injEq, and_true, true_and]
   constructor <;> omega
  ·exact qM ws hst (he 64)
 rw [h0] at key
 exact key
theorem n8 (st : List Int) (s : ByteArray) (R : Nat → List Int) (hR : R = rounds (bU.v s) st) : ct.v st s = ic st (R 64) 8 := by
 rw [hR]; rfl
theorem sk (s : ByteArray) (st : List Int) (hst : dR st) : Ev (fun k => af.l1 k st roundKeys (bU.v s) st 0) (ct.v st s) := by
 obtain ⟨R, hR⟩ : ∃ R, R = rounds (bU.v s) st := ⟨_, rfl⟩
 rw [n8 st s R hR]
 exact sJ _ st hst (dY s 48) R (by rw [hR]; rfl) (fun t => by rw [hR]; rfl) (fun t => by rw [hR]; exact gZ hst t)
/-- The reference's round is the program's. -/
theorem gU (s : ByteArray) (st : List Int) (hst : dR st) (hs : s.size = 64) : Ev (fun k => af.f k st roundKeys s) (ct.v st s) := by
 unfold af.f
 exact Ev.bind (gO s 16 (by omega) (by decide)) (sC s st roundKeys _ hst.1 (sk s st hst))
theorem rW {st v : List Int} (hst : dR st) (hv : dR v) : dR (ic st v 8) := by
 obtain ⟨a, b, c, d, e, f, g, i, rfl, _⟩ := hv.cases
 obtain ⟨a', b', c', d', e', f', g', i', rfl, _⟩ := hst.cases
 rw [lI]
 exact dR.mk' (W32.mod _) (W32.mod _) (W32.mod _) (W32.mod _) (W32.mod _) (W32.mod _) (W32.mod _) (W32.mod _)
theorem lT {st : List Int} {s : ByteArray} (h : dR st) : dR (ct.v st s) := rW h (gZ h 64)
theorem gQ (a b : List Int) : strOfNums a ++ strOfNums b = strOfNums (a ++ b) := by
 apply fA
 simp [strOfNums, ByteArray.data_append]
theorem ma (xs : List Int) (a b : Nat) : (strOfNums xs).extract a b = strOfNums ((xs.drop a).take (b - a)) := by
 apply fA
 rw [ByteArray.data_extract]
 simp [strOfNums, List.map_drop, List.map_take]
theorem pp (s : ByteArray) : (⟨#[]⟩ : ByteArray) ++ s = s := by
 apply fA
 simp [ByteArray.data_append]
theorem qj (xs : List Int) (j : Nat) (hj : j < xs.length) (h : 0 ≤ xs[j] ∧ xs[j] ≤ 255) : bt (strOfNums xs) (j : Int) = xs[j] := by
 have hs : j < (strOfNums xs).size := by rw [strOfNums_size]; exact hj
 rw [← cP (strOfNums xs) (j : Int) (by simpa using hs)]
 simp only [Int.toNat_natCast]
 rw [i9 xs j hs, UInt8.toNat_ofNat']
 omega
def dN (x : Int) : List Int := [(x / 16777216) % 256, (x / 65536) % 256, (x / 256) % 256, x % 256]
def dB (l : List Int) : List Int := l.flatMap dN
theorem ji (l : List Int) : (dB l).length = 4 * l.length := by
 induction l with
 | nil => rfl
 | cons x l ih => simp only [dB, List.flatMap_cons, List.length_append, List.length_cons] at ih ⊢; rw [ih]; simp [dN]; omega
theorem j7 (l : List Int) (i : Nat) (h : i < l.length) : dB (l.take (i + 1)) = dB (l.take i) ++ dN l[i] := by
 show (l.take (i + 1)).flatMap dN = (l.take i).flatMap dN ++ dN l[i]
 rw [← fU l i h, List.flatMap_append, List.flatMap_singleton]
theorem fS (l : List Int) (hl : l.length ≤ 1000000) (hw : ∀ x ∈ l, W32 x) : Ev (fun k => bq.f k l) (strOfNums (dB l)) := by
 refine Ev.up (g := fun i k => bq.l0 k l (dB (l.take i)) (i : Int)) l.length ?_ ?_ 0 (Nat.zero_le _)
 ·intro i hi hh
  refine Ev.step (fun k => ?_) hh
  have hx := hw l[i] (List.getElem_mem hi)
  simp only [bq.l0, Option.bind_some]
  rw [Da (by omega), Da (by omega), Da (by rw [ji, List.length_take]; simp; omega), dv i (by omega), j7 l i hi, dg l i hi]
  congr 2
  unfold dN
  rw [Int.tdiv_eq_ediv_of_nonneg hx.1, Int.tdiv_eq_ediv_of_nonneg hx.1, Int.tdiv_eq_ediv_of_nonneg hx.1, Int.tmod_eq_emod_of_nonneg hx.1]
  have h1 := hx.1
  have h2 := hx.2
  generalize l[i] = x at h1 h2 ⊢
  simp only [List.cons.injEq, and_true]
  refine ⟨by omega, by omega, by omega, by omega⟩
 ·refine Ev.step (f := fun _ => some (strOfNums (dB l))) (fun k => ?_) (Ev.now _)
  simp only [bq.l0]
  rw [Ea (by omega), List.take_length]
theorem iY (l : List Int) (hl : l.length = 8) : ∀ n, n ≤ 8 → bR.cat l n = some (strOfNums (dB (l.take n)))
 | 0, _ => rfl
 | n + 1, h => by
  simp only [bR.cat]
  rw [iY l hl n (by omega)]
  simp only [Option.bind_some]
  show (some (strOfNums (dN (rd l (n : Int))))).bind _ = _
  simp only [Option.bind_some]
  rw [Da (by rw [strOfNums_size, strOfNums_size, ji, List.length_take]; simp [dN]; omega), dg l n (by omega), gQ, j7 l n (by omega)]
theorem mS (l : List Int) (hl : l.length = 8) : bR.f l = some (strOfNums (dB l)) := by
 unfold bR.f
 rw [iY l hl 8 (Aa _), List.take_of_length_le (by omega)]
theorem nV (x : Int) : ∀ y ∈ dN x, 0 ≤ y ∧ y ≤ 255 := by
 intro y hy
 simp only [dN, List.mem_cons, List.not_mem_nil, or_false] at hy
 rcases hy with rfl | rfl | rfl | rfl <;> omega
theorem mY (l : List Int) : ∀ y ∈ dB l, 0 ≤ y ∧ y ≤ 255 := by
 intro y hy
 obtain ⟨x, _, hx⟩ := List.mem_flatMap.mp hy
 exact nV x y hx
theorem nn {l : List Int} (h : dR l) : gj (strOfNums (dB l)) 8 = l := by
 obtain ⟨a, b, c, d, e, f, g, i, rfl, h1, h2, h3, h4, h5, h6, h7, h8⟩ := h.cases
 have hb : ∀ (j : Nat) (hj : j < (dB [a, b, c, d, e, f, g, i]).length), bt (strOfNums (dB [a, b, c, d, e, f, g, i])) (j : Int) = (dB [a, b, c, d, e, f, g, i])[j] :=
  fun j hj => qj _ j hj (mY _ _ (List.getElem_mem hj))
 have hw : ∀ (t : Nat) (x : Int), W32 x → (∀ q, q < 4 → bt (strOfNums (dB [a, b, c, d, e, f, g, i])) ((4 * t + q : Nat) : Int) = (dN x).getD q 0) → gN (strOfNums (dB [a, b, c, d, e, f, g, i])) t = x := by
  intro t x hx hq
  unfold gN
  have q0 := hq 0 (by decide)
  have q1 := hq 1 (by decide)
  have q2 := hq 2 (by decide)
  have q3 := hq 3 (by decide)
  simp only [Nat.add_zero] at q0
  rw [q0, q1, q2, q3]
  simp only [dN, List.getD_cons_zero, List.getD_cons_succ]
  have := hx.1
  have := hx.2
  omega
 have h4' : ∀ (t q : Nat) (x : Int), (dB [a, b, c, d, e, f, g, i])[4 * t + q]? = some ((dN x).getD q 0) → bt (strOfNums (dB [a, b, c, d, e, f, g, i])) ((4 * t + q : Nat) : Int) = (dN x).getD q 0 := by
  intro t q x hx
  obtain ⟨hlt, he⟩ := List.getElem?_eq_some_iff.mp hx
  rw [hb _ hlt, he]
 have all4 : ∀ {p : Nat → Prop}, p 0 → p 1 → p 2 → p 3 → ∀ q, q < 4 → p q := by
  intro p p0 p1 p2 p3 q hq
  match q, hq with
  | 0, _ => exact p0
  | 1, _ => exact p1
  | 2, _ => exact p2
  | 3, _ => exact p3
 show [gN _ 0, gN _ 1, gN _ 2, gN _ 3, gN _ 4, gN _ 5, gN _ 6, gN _ 7] = _
 rw [hw 0 a h1 (all4 (h4' 0 0 a rfl) (h4' 0 1 a rfl) (h4' 0 2 a rfl) (h4' 0 3 a rfl)), hw 1 b h2 (all4 (h4' 1 0 b rfl) (h4' 1 1 b rfl) (h4' 1 2 b rfl) (h4' 1 3 b rfl)), hw 2 c h3 (all4 (h4' 2 0 c rfl) (h4' 2 1 c rfl) (h4' 2 2 c rfl) (h4' 2 3 c rfl)), hw 3 d h4 (all4 (h4' 3 0 d rfl) (h4' 3 1 d rfl) (h4' 3 2 d rfl) (h4' 3 3 d rfl)), hw 4 e h5 (all4 (h4' 4 0 e rfl) (h4' 4 1 e rfl) (h4' 4 2 e rfl) (h4' 4 3 e rfl)), hw 5 f h6 (all4 (h4' 5 0 f rfl) (h4' 5 1 f rfl) (h4' 5 2 f rfl) (h4' 5 3 f rfl)), hw 6 g h7 (all4 (h4' 6 0 g rfl) (h4' 6 1 g rfl) (h4' 6 2 g rfl) (h4' 6 3 g rfl)), hw 7 i h8 (all4 (h4' 7 0 i rfl) (h4' 7 1 i rfl) (h4' 7 2 i rfl) (h4' 7 3 i rfl))]
/-! the blocks -/
theorem di : dR bP.v := by
 refine ⟨rfl, ?_⟩
 intro x hx
 simp only [bP.v, List.mem_cons, List.not_mem_nil, or_false] at hx
 unfold W32
 omega
theorem d5 {st : List Int} (h : dR st) (s : ByteArray) : ∀ n, dR (gh st s n)
 | 0 => h
 | n + 1 => lT (d5 h s n)
theorem rO (s e : ByteArray) (a b : Nat) (h : b ≤ s.size) : (s ++ e).extract a b = s.extract a b := by
 rw [ByteArray.extract_append, Nat.sub_eq_zero_of_le h]
 apply fA
 simp [ByteArray.data_append, ByteArray.data_extract]
theorem pe (st : List Int) (s e : ByteArray) : ∀ n, 64 * n ≤ s.size → gh st (s ++ e) n = gh st s n
 | 0, _ => rfl
 | n + 1, h => by
  simp only [gh]
  rw [pe st s e n (by omega), rO s e _ _ (by omega)]
theorem qh (s e : ByteArray) (T : List Int) (n j : Nat) (hn : 64 * n ≤ s.size) (hT : s.extract (64 * n) s.size ++ e = strOfNums T) : (s ++ e).extract (64 * (n + j)) (64 * (n + j) + 64) = strOfNums ((T.drop (64 * j)).take 64) := by
 have hP : (s.extract 0 (64 * n)).size = 64 * n := by rw [ByteArray.size_extract]; omega
 have hs : s = s.extract 0 (64 * n) ++ s.extract (64 * n) s.size := by
  rw [ByteArray.extract_append_extract]
  apply fA
  rw [ByteArray.data_extract]
  simp [Nat.min_eq_left, Nat.max_eq_right hn]
  exact (List.take_of_length_le (by rw [Array.length_toList]; exact Aa _)).symm
 have h1 : s ++ e = s.extract 0 (64 * n) ++ strOfNums T := by
  rw [← hT, ← ByteArray.append_assoc, ← hs]
 have h2 := ByteArray.extract_append_size_add (a := s.extract 0 (64 * n)) (b := strOfNums T) (i := 64 * j) (j := 64 * j + 64)
 rw [hP] at h2
 rw [h1, show 64 * (n + j) = 64 * n + 64 * j by omega, show 64 * n + 64 * j + 64 = 64 * n + (64 * j + 64) by omega, h2, ma]
 congr 2
 omega
theorem kd (s e : ByteArray) (T : List Int) (st : List Int) (hst : dR st) (n : Nat) (hn : 64 * n ≤ s.size) (hT : s.extract (64 * n) s.size ++ e = strOfNums T) : ∀ j, 64 * j ≤ T.length → Ev (fun k => eH k roundKeys T (gh st s n) j) (gh st (s ++ e) (n + j))
 | 0, _ => by
  rw [Nat.add_zero, pe st s e n hn]
  exact Ev.now _
 | j + 1, h => by
  have ih := kd s e T st hst n hn hT j (by omega)
  simp only [eH]
  refine Ev.bind ih ?_
  rw [show n + (j + 1) = n + j + 1 by omega]
  simp only [gh]
  rw [qh s e T n j hn hT]
  exact gU _ _ (d5 hst _ _) (by rw [strOfNums_size, List.length_take, List.length_drop]; omega)
theorem ge (x : Int) (k : Nat) (h0 : 0 ≤ sh8 x k) (h1 : sh8 x k ≤ 4611686018427387904) : sh8 x (k + 1) = sh8 x k / 256 := by
 simp only [sh8]
 rw [Int.tdiv_eq_ediv_of_nonneg h0, w64 (by omega) (by omega)]
theorem oI (x : Int) (h0 : 0 ≤ x) (h1 : x ≤ 4611686018427387904) : mV x 8 = dN ((x / 4294967296) % 4294967296) ++ dN (x % 4294967296) := by
 have y0 : sh8 x 0 = x := rfl
 have y1 := ge x 0 (by rw [y0]; omega) (by rw [y0]; omega)
 rw [y0] at y1
 have y2 := ge x 1 (by rw [y1]; omega) (by rw [y1]; omega)
 rw [y1] at y2
 have y3 := ge x 2 (by rw [y2]; omega) (by rw [y2]; omega)
 rw [y2] at y3
 have y4 := ge x 3 (by rw [y3]; omega) (by rw [y3]; omega)
 rw [y3] at y4
 have y5 := ge x 4 (by rw [y4]; omega) (by rw [y4]; omega)
 rw [y4] at y5
 have y6 := ge x 5 (by rw [y5]; omega) (by rw [y5]; omega)
 rw [y5] at y6
 have y7 := ge x 6 (by rw [y6]; omega) (by rw [y6]; omega)
 rw [y6] at y7
 have e : mV x 8 = [Int.tmod (sh8 x 7) 256 % 256, Int.tmod (sh8 x 6) 256 % 256, Int.tmod (sh8 x 5) 256 % 256, Int.tmod (sh8 x 4) 256 % 256, Int.tmod (sh8 x 3) 256 % 256, Int.tmod (sh8 x 2) 256 % 256, Int.tmod (sh8 x 1) 256 % 256, Int.tmod (sh8 x 0) 256 % 256] := by
  simp [mV]
 rw [e, y7, y6, y5, y4, y3, y2, y1, y0]
 rw [Int.tmod_eq_emod_of_nonneg (by omega), Int.tmod_eq_emod_of_nonneg (by omega), Int.tmod_eq_emod_of_nonneg (by omega), Int.tmod_eq_emod_of_nonneg (by omega), Int.tmod_eq_emod_of_nonneg (by omega), Int.tmod_eq_emod_of_nonneg (by omega), Int.tmod_eq_emod_of_nonneg (by omega), Int.tmod_eq_emod_of_nonneg (by omega)]
 simp only [dN, List.cons_append, List.nil_append, List.cons.injEq, and_true]
 refine ⟨by omega, by omega, by omega, by omega, by omega, by omega, by omega, by omega⟩
theorem pr (c : Nat) (rest : ByteArray) (hr : rest.size = c % 64) (hc : c ≤ 1000000000) : ∃ e, et.f (c : Int) = some e ∧ e.size ≤ 200 ∧ rest ++ e = strOfNums (gu rest (c : Int) 8) := by
 have ez : Int.tmod (wrap64 (119 - (Int.tmod (c : Int) 64))) 64 = ((gF rest : Nat) : Int) := by
  have h1 : Int.tmod (c : Int) 64 = (c : Int) % 64 := Int.tmod_eq_emod_of_nonneg (by omega)
  rw [h1, w64 (by omega) (by omega), Int.tmod_eq_emod_of_nonneg (by omega)]
  unfold gF
  omega
 have hp : gF rest < 64 := Nat.mod_lt _ (by decide)
 have e8 : wrap64 (8 * (c : Int)) = 8 * (c : Int) := w64 (by omega) (by omega)
 have hz : eW.f ((gF rest : Nat) : Int) = some (strOfNums (List.replicate (gF rest) 0)) := by
  unfold eW.f
  rw [Da (by omega), Int.toNat_natCast, Da (by omega)]
 have h8 : dH.f (8 * (c : Int)) = some (strOfNums (dN ((8 * (c : Int) / 4294967296) % 4294967296) ++ dN (8 * (c : Int) % 4294967296))) := by
  have key : ∀ hi lo : Int, (if (strOfNums (dN hi)).size + (strOfNums (dN lo)).size ≤ 9223372036854775807 then some (strOfNums (dN hi) ++ strOfNums (dN lo)) else none) = some (strOfNums (dN hi ++ dN lo)) := by
   intro hi lo
   rw [gQ]
   exact Da (by rw [strOfNums_size, strOfNums_size]; show 4 + 4 ≤ _; decide)
  exact key _ _
 refine ⟨(strOfNums [128] ++ strOfNums (List.replicate (gF rest) 0)) ++ strOfNums (dN ((8 * (c : Int) / 4294967296) % 4294967296) ++ dN (8 * (c : Int) % 4294967296)), ?_, ?_, ?_⟩
 ·unfold et.f
  rw [ez, hz, e8, h8]
  simp only [Option.bind_some]
  rw [Da (by rw [strOfNums_size]; simp; omega), Da (by rw [ByteArray.size_append, strOfNums_size, strOfNums_size]; simp [dN]; exact (show 1 + gF rest ≤ 9223372036854775799 by omega))]
  rfl
 ·rw [ByteArray.size_append, ByteArray.size_append, strOfNums_size, strOfNums_size, strOfNums_size]
  simp [dN]
  omega
 ·unfold gu hZ
  rw [e8, oI _ (by omega) (by omega), gQ, gQ]
  have := gQ (bl rest) ([128] ++ List.replicate (gF rest) 0 ++ (dN ((8 * (c : Int) / 4294967296) % 4294967296) ++ dN (8 * (c : Int) % 4294967296)))
  rw [jq] at this
  rw [this]
  simp only [List.append_assoc]
theorem ka (a b : ByteArray) (c : Nat) (ha : a.size = 32) (hb : b.size = c % 64) (hc : c ≤ 1000000000) : cQ.f a b (c : Int) = some true := by
 unfold cQ.f
 rw [Da (by omega), Da (by omega)]
 have : aY.f (c : Int) 0 1000000000 = some true := by
  unfold aY.f
  rw [Da (by omega), wa (by omega)]
 rw [this]
 simp only [Option.bind_some]
 rw [Da trivial, Int.tmod_eq_emod_of_nonneg (by omega)]
 congr 1
 rw [beq_iff_eq]
 omega
def S0 : ByteArray := strOfNums (dB bP.v)
theorem kL {l : List Int} (h : dR l) : (strOfNums (dB l)).size = 32 := by
 rw [strOfNums_size, ji, h.1]
theorem jz : Ev (fun k => cI.f k) (S0, (⟨#[]⟩ : ByteArray), 0) := by
 unfold cI.f
 refine Ev.then (a := bP.v) rfl ?_
 refine Ev.bind (fS _ (by decide) di.2) ?_
 exact Ev.now _
theorem nu {l : List Int} (h : dR l) : Ev (fun k => bm.f k (strOfNums (dB l))) l := by
 have := gO (strOfNums (dB l)) 8 (kL h) (by decide)
 rwa [nn h] at this
theorem sD : eK.f = some roundKeys := rfl
theorem jI (s : ByteArray) (hs : s.size ≤ 1000000000) : Ev (fun k => aG.f k S0 (⟨#[]⟩ : ByteArray) 0 s) (strOfNums (dB (gh bP.v s (s.size / 64))), s.extract (64 * (s.size / 64)) s.size, (s.size : Int)) := by
 unfold aG.f
 refine Ev.then (ka S0 _ 0 (kL di) rfl (by decide)) ?_
 refine Ev.pos rfl ?_
 have e0 : wrap64 (0 + (s.size : Int)) = (s.size : Int) := by rw [w64 (by omega) (by omega)]; omega
 have hd : decide (wrap64 (0 + (s.size : Int)) > 1000000000) = false := by rw [e0]; exact xa (by omega)
 rw [hd]
 refine Ev.step (f := fun k => (bm.f k S0).bind fun t => (eK.f).bind fun t2 => (aG.l0 k s t t2 s 0 S0 (⟨#[]⟩ : ByteArray) 0)) (fun k => ?_) ?_
 ·simp only [aG.j0]
  have hz : (⟨#[]⟩ : ByteArray).size + s.size ≤ 9223372036854775807 := (show 0 + s.size ≤ 9223372036854775807 by omega)
  rw [Ea (by decide), pp]
  simp only [Da hz]
 refine Ev.bind (nu di) ?_
 refine Ev.then sD ?_
 refine Ev.up (g := fun n k => aG.l0 k s (gh bP.v s n) roundKeys s ((64 * n : Nat) : Int) S0 (⟨#[]⟩ : ByteArray) 0) (s.size / 64) ?_ ?_ 0 (Nat.zero_le _)
 ·intro n hn hh
  have e1 : wrap64 (((64 * n : Nat) : Int) + 64) = ((64 * (n + 1) : Nat) : Int) := by rw [w64 (by omega) (by omega)]; omega
  refine Ev.step (f := fun k => (af.f k (gh bP.v s n) roundKeys (s.extract (64 * n) (64 * n + 64))).bind fun t => aG.l0 k s t roundKeys s ((64 * (n + 1) : Nat) : Int) S0 (⟨#[]⟩ : ByteArray) 0) (fun k => ?_) ?_
  ·simp only [aG.l0]
   rw [e1, Da (by omega), Da (by omega), Da (by omega), Int.toNat_natCast, Int.toNat_natCast, show 64 * (n + 1) = 64 * n + 64 by omega]
  exact Ev.bind (gU _ _ (d5 di s n) (by rw [ByteArray.size_extract]; omega)) hh
 ·have e1 : wrap64 (((64 * (s.size / 64) : Nat) : Int) + 64) = ((64 * (s.size / 64 + 1) : Nat) : Int) := by rw [w64 (by omega) (by omega)]; omega
  refine Ev.step (f := fun k => (bq.f k (gh bP.v s (s.size / 64))).bind fun t => some (t, s.extract (64 * (s.size / 64)) s.size, (s.size : Int))) (fun k => ?_) ?_
  ·simp only [aG.l0]
   have ha : (0 : Int) ≤ ((64 * (s.size / 64) : Nat) : Int) := by omega
   have hb : ((64 * (s.size / 64) : Nat) : Int) ≤ (s.size : Int) := by omega
   rw [e1, Ea (by omega)]
   simp only [Da ha, Da hb, Int.toNat_natCast, e0]
  exact Ev.bind (fS _ (by rw [(d5 di s _).1]; decide) (d5 di s _).2) (Ev.now _)
/-- Both digests of a text. -/
theorem gy (s : ByteArray) (hs : s.size ≤ 1000000000) : ∃ d, d.size = 32 ∧ Ev (fun k => bQ.f k s) d ∧ cj.f s = some d := by
 have hrs : (s.extract (64 * (s.size / 64)) s.size).size = s.size % 64 := by rw [ByteArray.size_extract]; omega
 obtain ⟨e, he, hes, hT⟩ := pr s.size (s.extract (64 * (s.size / 64)) s.size) hrs hs
 have hTl := jS (s.extract (64 * (s.size / 64)) s.size) (s.size : Int) 8
 have hpad : (s.size % 64 + 1 + gF (s.extract (64 * (s.size / 64)) s.size) + 8) % 64 = 0 := by unfold gF; rw [hrs]; omega
 have hes2 : e.size + s.size % 64 = s.size % 64 + 1 + gF (s.extract (64 * (s.size / 64)) s.size) + 8 := by
  have := congrArg ByteArray.size hT
  rw [ByteArray.size_append, strOfNums_size, hTl, hrs] at this
  omega
 rw [hrs] at hTl
 have hn : (s ++ e).size / 64 = s.size / 64 + (gu (s.extract (64 * (s.size / 64)) s.size) (s.size : Int) 8).length / 64 := by
  rw [ByteArray.size_append, hTl]
  omega
 refine ⟨strOfNums (dB (gh bP.v (s ++ e) ((s ++ e).size / 64))), kL (d5 di _ _), ?_, ?_⟩
 ·unfold bQ.f
  refine Ev.bind jz ?_
  refine Ev.bind (jI s hs) ?_
  refine Ev.bind (a := strOfNums (dB (gh bP.v (s ++ e) ((s ++ e).size / 64)))) ?_ (Ev.now _)
  show Ev (fun k => de.f k (strOfNums (dB (gh bP.v s (s.size / 64)))) (s.extract (64 * (s.size / 64)) s.size) (s.size : Int)) _
  unfold de.f
  refine Ev.then (ka _ _ _ (kL (d5 di s _)) hrs hs) ?_
  refine Ev.pos rfl ?_
  refine Ev.bind (nu (d5 di s _)) ?_
  refine Ev.then sD ?_
  refine Ev.bind (kd s e _ _ di (s.size / 64) (by omega) hT _ (by omega)) ?_
  rw [← hn]
  exact fS _ (by rw [(d5 di _ _).1]; decide) (d5 di _ _).2
 ·unfold cj.f
  rw [he]
  simp only [Option.bind_some]
  rw [Da (by omega), mS _ (d5 di _ _).1]
end Go.Proofs.YtooanbpkknlmjaaGreatDoor.Pure
