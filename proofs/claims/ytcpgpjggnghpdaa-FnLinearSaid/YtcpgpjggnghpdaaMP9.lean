/- The transform as sums: what each layer answers at each place; that it goes through sums; its closed form; that the layers back undo it. -/
import Derived.Test.YtcpgpjggnghpdaaMP3
import Derived.Test.YtcpgpjggnghpdaaMP8
import Derived.Test.YtcpgpjggnghpdaaMVA
namespace Go.Proofs.Ytcpgpjggnghpdaa.Pure
open Go.RowKit Go.Proofs.YtcpgpjggnghpdaaW.PrintWords Go.Proofs.YtcpgpjggnghpdaaW.PrintLast Go.Proofs.YtcpgpjggnghpdaaW.PrintMore

/-! a layer, place by place -/
theorem blk_le (s c m : Nat) (h : c < m) : 2 * s * c + 2 * s ≤ 2 * s * m := by rw [← Nat.mul_succ]; exact Nat.mul_le_mul_left _ h
theorem lay_hi {s m : Nat} {f : Nat → Int} (t n : Nat) (h : 2 * s * t ≤ n) : lay s m t f n = f n := by
  induction t with
  | zero => rfl
  | succ t ih =>
    have e : 2 * s * (t + 1) = 2 * s * t + 2 * s := Nat.mul_succ _ _
    simp only [lay]
    unfold bfp
    rw [if_neg (by omega), if_neg (by omega)]
    exact ih (by omega)
theorem lay_lo {s m : Nat} {f : Nat → Int} (t c r : Nat) (hc : c < t) (hr : r < s) :
    lay s m t f (2 * s * c + r) = (f (2 * s * c + r) + zed (m + c) * f (2 * s * c + r + s)) % 3329 ∧
    lay s m t f (2 * s * c + r + s) = (f (2 * s * c + r) - zed (m + c) * f (2 * s * c + r + s)) % 3329 := by
  induction t with
  | zero => exact absurd hc (Nat.not_lt_zero _)
  | succ t ih =>
    simp only [lay]
    by_cases e : c = t
    · subst e
      unfold bfp
      rw [if_pos (by omega), if_neg (by omega), if_pos (by omega), show 2 * s * c + r + s - s = 2 * s * c + r by omega, lay_hi c _ (by omega), lay_hi c _ (by omega)]
      exact ⟨rfl, rfl⟩
    · have hlt : c < t := by omega
      have hb := blk_le s c t hlt
      have h := ih hlt
      unfold bfp
      rw [if_neg (by omega), if_neg (by omega), if_neg (by omega), if_neg (by omega)]
      exact h
theorem layI_hi {s m : Nat} {f : Nat → Int} (t n : Nat) (h : 2 * s * t ≤ n) : layI s m t f n = f n := by
  induction t with
  | zero => rfl
  | succ t ih =>
    have e : 2 * s * (t + 1) = 2 * s * t + 2 * s := Nat.mul_succ _ _
    simp only [layI]
    unfold bfi
    rw [if_neg (by omega), if_neg (by omega)]
    exact ih (by omega)
theorem layI_lo {s m : Nat} {f : Nat → Int} (t c r : Nat) (hc : c < t) (hr : r < s) :
    layI s m t f (2 * s * c + r) = (f (2 * s * c + r) + f (2 * s * c + r + s)) % 3329 ∧
    layI s m t f (2 * s * c + r + s) = (zed (2 * m - 1 - c) * (f (2 * s * c + r + s) - f (2 * s * c + r))) % 3329 := by
  induction t with
  | zero => exact absurd hc (Nat.not_lt_zero _)
  | succ t ih =>
    simp only [layI]
    by_cases e : c = t
    · subst e
      unfold bfi
      rw [if_pos (by omega), if_neg (by omega), if_pos (by omega), show 2 * s * c + r + s - s = 2 * s * c + r by omega, layI_hi c _ (by omega), layI_hi c _ (by omega)]
      exact ⟨rfl, rfl⟩
    · have hlt : c < t := by omega
      have hb := blk_le s c t hlt
      have h := ih hlt
      unfold bfi
      rw [if_neg (by omega), if_neg (by omega), if_neg (by omega), if_neg (by omega)]
      exact h
/-- Every place below 2sm is of a block, in its lower or its upper half. -/
theorem place_of {s m n : Nat} (hn : n < 2 * s * m) : ∃ c r, c < m ∧ r < s ∧ (n = 2 * s * c + r ∨ n = 2 * s * c + r + s) := by
  have hs : 0 < 2 * s := by
    rcases Nat.eq_zero_or_pos (2 * s) with h | h
    · rw [h, Nat.zero_mul] at hn; omega
    · exact h
  have h1 : n / (2 * s) < m := Nat.div_lt_of_lt_mul hn
  have h2 := Nat.mod_lt n hs
  have h3 := Nat.div_add_mod n (2 * s)
  by_cases h : n % (2 * s) < s
  · exact ⟨_, _, h1, h, .inl h3.symm⟩
  · exact ⟨_, n % (2 * s) - s, h1, by omega, .inr (by omega)⟩

/-! sums of transforms -/
theorem bfp_lin {z : Int} {s st j : Nat} {f g h : Nat → Int} (H : ∀ n, EqQ (f n) (g n + h n)) (n : Nat) : EqQ (bfp z s st j f n) (bfp z s st j g n + bfp z s st j h n) := by
  have e1 : ∀ a b c d : Int, a + b + z * (c + d) = (a + z * c) + (b + z * d) := fun a b c d => by rw [Int.mul_add]; omega
  have e2 : ∀ a b c d : Int, a + b - z * (c + d) = (a - z * c) + (b - z * d) := fun a b c d => by rw [Int.mul_add]; omega
  unfold bfp
  split
  · refine (EqQ.mod _).trans (EqQ.trans ?_ (EqQ.add (EqQ.mod _).symm (EqQ.mod _).symm))
    rw [← e1]
    exact EqQ.add (H n) (EqQ.mul (EqQ.refl z) (H (n + s)))
  · split
    · refine (EqQ.mod _).trans (EqQ.trans ?_ (EqQ.add (EqQ.mod _).symm (EqQ.mod _).symm))
      rw [← e2]
      exact EqQ.sub (H (n - s)) (EqQ.mul (EqQ.refl z) (H n))
    · exact H n
theorem lay_lin {s m : Nat} {f g h : Nat → Int} (H : ∀ n, EqQ (f n) (g n + h n)) (t : Nat) : ∀ n, EqQ (lay s m t f n) (lay s m t g n + lay s m t h n) := by
  induction t with
  | zero => exact H
  | succ t ih => exact bfp_lin ih
theorem nttV_lin {f g h : Nat → Int} (H : ∀ n, EqQ (f n) (g n + h n)) : ∀ n, EqQ (nttV f n) (nttV g n + nttV h n) :=
  lay_lin (lay_lin (lay_lin (lay_lin (lay_lin (lay_lin (lay_lin H 1) 2) 4) 8) 16) 32) 64

/-! the closed form -/
/-- The number of a block: its square root's sign and power. -/
def gm (k : Nat) : Int := if k % 2 = 0 then zed (k / 2) else -zed (k / 2)
theorem zed_sq (k : Nat) (h0 : 1 ≤ k) (hk : k < 128) : EqQ (zed k * zed k) (gm k) := by
  have key : ∀ k : Fin 128, 1 ≤ k.val → (zed k.val * zed k.val) % 3329 = gm k.val % 3329 := by decide +kernel
  exact key ⟨k, hk⟩ h0
theorem gm_gam (i : Nat) (hi : i < 128) : EqQ (gm (128 + i)) (gam i) := by
  have key : ∀ k : Fin 128, gm (128 + k.val) % 3329 = gam k.val % 3329 := by decide +kernel
  exact key ⟨i, hi⟩
theorem zed_back (k : Nat) (h0 : 1 ≤ k) (hk : k < 128) (m c : Nat) (hm : m = 1 ∨ m = 2 ∨ m = 4 ∨ m = 8 ∨ m = 16 ∨ m = 32 ∨ m = 64) (hc : c < m) (e : k = m + c) : EqQ (zed (2 * m - 1 - c) * zed k) (-1) := by
  subst e
  have k1 : ∀ c : Fin 1, (zed (2 * 1 - 1 - c.val) * zed (1 + c.val)) % 3329 = (-1) % 3329 := by decide +kernel
  have k2 : ∀ c : Fin 2, (zed (2 * 2 - 1 - c.val) * zed (2 + c.val)) % 3329 = (-1) % 3329 := by decide +kernel
  have k4 : ∀ c : Fin 4, (zed (2 * 4 - 1 - c.val) * zed (4 + c.val)) % 3329 = (-1) % 3329 := by decide +kernel
  have k8 : ∀ c : Fin 8, (zed (2 * 8 - 1 - c.val) * zed (8 + c.val)) % 3329 = (-1) % 3329 := by decide +kernel
  have k16 : ∀ c : Fin 16, (zed (2 * 16 - 1 - c.val) * zed (16 + c.val)) % 3329 = (-1) % 3329 := by decide +kernel
  have k32 : ∀ c : Fin 32, (zed (2 * 32 - 1 - c.val) * zed (32 + c.val)) % 3329 = (-1) % 3329 := by decide +kernel
  have k64 : ∀ c : Fin 64, (zed (2 * 64 - 1 - c.val) * zed (64 + c.val)) % 3329 = (-1) % 3329 := by decide +kernel
  rcases hm with rfl | rfl | rfl | rfl | rfl | rfl | rfl
  · exact k1 ⟨c, hc⟩
  · exact k2 ⟨c, hc⟩
  · exact k4 ⟨c, hc⟩
  · exact k8 ⟨c, hc⟩
  · exact k16 ⟨c, hc⟩
  · exact k32 ⟨c, hc⟩
  · exact k64 ⟨c, hc⟩
theorem gam_half (i : Nat) (hi : i < 128) : EqQ (gam i ^ 128) (-1) := by
  have e : EqQ (gam i ^ 128) ((17 ^ 128) ^ (2 * t7s i 7 + 1)) := by
    refine (EqQ.pow (EqQ.mod (17 ^ (2 * t7s i 7 + 1))) 128).trans (EqQ.of ?_)
    rw [← Int.pow_mul, ← Int.pow_mul, Nat.mul_comm]
  have e2 : EqQ ((17 : Int) ^ 128) (-1) := by show ((17 : Int) ^ 128) % 3329 = (-1) % 3329; decide +kernel
  refine e.trans ((EqQ.pow e2 _).trans (EqQ.of ?_))
  rw [Int.pow_succ, Int.pow_mul, show ((-1 : Int) ^ 2) = 1 from rfl, Int.one_pow, Int.one_mul]

/-- What a block's number answers: each m-th number from r on, by powers. -/
def cf (f : Nat → Int) (L m r : Nat) (g : Int) : Int := sumN m fun j => f (L * j + r) * g ^ j
theorem cf_step (f : Nat → Int) (s m r : Nat) (g w : Int) (hw : EqQ (w * w) g) : EqQ (cf f (2 * s) m r g + w * cf f (2 * s) m (r + s) g) (cf f s (2 * m) r w) := by
  unfold cf
  rw [sumN_two, ← sumN_mul]
  refine EqQ.add (sumN_eqQ fun j _ => ?_) (sumN_eqQ fun j _ => ?_)
  · refine EqQ.trans (EqQ.mul (EqQ.refl _) (EqQ.pow hw.symm j)) (EqQ.of ?_)
    rw [show s * (2 * j) + r = 2 * s * j + r by rw [Nat.mul_comm 2 s, Nat.mul_assoc], Int.pow_mul, show w ^ 2 = w * w by rw [Int.pow_succ, Int.pow_succ, Int.pow_zero, Int.one_mul]]
  · refine EqQ.trans (EqQ.mul (EqQ.refl w) (EqQ.mul (EqQ.refl _) (EqQ.pow hw.symm j))) (EqQ.of ?_)
    rw [show s * (2 * j + 1) + r = 2 * s * j + (r + s) by rw [Nat.mul_add, Nat.mul_comm 2 s, Nat.mul_assoc]; omega, Int.pow_succ, Int.pow_mul, show w ^ 2 = w * w by rw [Int.pow_succ, Int.pow_succ, Int.pow_zero, Int.one_mul]]
    rw [Int.mul_comm, Int.mul_assoc]
def Closed (f g : Nat → Int) (L m : Nat) : Prop := ∀ c r, c < m → r < L → EqQ (g (L * c + r)) (cf f L m r (gm (m + c)))
theorem closed_lay {f g : Nat → Int} {s m : Nat} (h : Closed f g (2 * s) m) (hm : 1 ≤ m) (hm2 : 2 * m ≤ 128) : Closed f (lay s m m g) s (2 * m) := by
  intro c' r hc hr
  have hc2 : c' / 2 < m := by omega
  have hz := zed_sq (m + c' / 2) (by omega) (by omega)
  have h0 := h (c' / 2) r hc2 (by omega)
  have h1 := h (c' / 2) (r + s) hc2 (by omega)
  have hl := lay_lo (s := s) (m := m) (f := g) m (c' / 2) r hc2 hr
  rw [← Nat.add_assoc] at h1
  by_cases hb : c' % 2 = 0
  · have e : s * c' = 2 * s * (c' / 2) := by
      have : c' = 2 * (c' / 2) := by omega
      rw [Nat.mul_comm 2 s, Nat.mul_assoc, ← this]
    have eg : gm (2 * m + c') = zed (m + c' / 2) := by
      unfold gm; rw [if_pos (by omega), show (2 * m + c') / 2 = m + c' / 2 by omega]
    rw [e, hl.1, eg]
    refine (EqQ.mod _).trans (EqQ.trans ?_ (cf_step f s m r _ _ hz))
    exact EqQ.add h0 (EqQ.mul (EqQ.refl _) h1)
  · have e : s * c' + r = 2 * s * (c' / 2) + r + s := by
      have : c' = 2 * (c' / 2) + 1 := by omega
      have e2 : s * c' = s * (2 * (c' / 2)) + s := by rw [← Nat.mul_succ, Nat.succ_eq_add_one, ← this]
      rw [e2, Nat.mul_comm 2 s, Nat.mul_assoc]; omega
    have eg : gm (2 * m + c') = -zed (m + c' / 2) := by
      unfold gm; rw [if_neg (by omega), show (2 * m + c') / 2 = m + c' / 2 by omega]
    have hz' : EqQ (-zed (m + c' / 2) * -zed (m + c' / 2)) (gm (m + c' / 2)) := by rw [Int.neg_mul_neg]; exact hz
    rw [e, hl.2, eg]
    refine (EqQ.mod _).trans (EqQ.trans ?_ (cf_step f s m r _ _ hz'))
    rw [Int.neg_mul, ← Int.sub_eq_add_neg]
    exact EqQ.sub h0 (EqQ.mul (EqQ.refl _) h1)
theorem closed_0 (f : Nat → Int) : Closed f f 256 1 := by
  intro c r hc hr
  obtain rfl : c = 0 := by omega
  refine EqQ.of ?_
  unfold cf
  simp only [sumN]
  rw [Int.pow_zero, Int.mul_one, Int.zero_add]
theorem closed_ntt (f : Nat → Int) : Closed f (nttV f) 2 128 := by
  have h1 := closed_lay (s := 128) (m := 1) (closed_0 f) (by decide) (by decide)
  have h2 := closed_lay (s := 64) (m := 2) h1 (by decide) (by decide)
  have h3 := closed_lay (s := 32) (m := 4) h2 (by decide) (by decide)
  have h4 := closed_lay (s := 16) (m := 8) h3 (by decide) (by decide)
  have h5 := closed_lay (s := 8) (m := 16) h4 (by decide) (by decide)
  have h6 := closed_lay (s := 4) (m := 32) h5 (by decide) (by decide)
  exact closed_lay (s := 2) (m := 64) h6 (by decide) (by decide)
/-- The numbers 2i and 2i+1 of a transform: the even numbers and the odd ones, by powers of the i-th. -/
def E0 (g : Int) (f : Nat → Int) : Int := sumN 128 fun j => f (2 * j) * g ^ j
def E1 (g : Int) (f : Nat → Int) : Int := sumN 128 fun j => f (2 * j + 1) * g ^ j
theorem ntt_e (f : Nat → Int) (i : Nat) (hi : i < 128) : EqQ (nttV f (2 * i)) (E0 (gam i) f) := by
  refine (closed_ntt f i 0 hi (by decide)).trans ?_
  exact sumN_eqQ fun j _ => EqQ.mul (EqQ.refl _) (EqQ.pow (gm_gam i hi) j)
theorem ntt_o (f : Nat → Int) (i : Nat) (hi : i < 128) : EqQ (nttV f (2 * i + 1)) (E1 (gam i) f) := by
  refine (closed_ntt f i 1 hi (by decide)).trans ?_
  exact sumN_eqQ fun j _ => EqQ.mul (EqQ.refl _) (EqQ.pow (gm_gam i hi) j)

/-! there and back -/
theorem two_z {z y a b : Int} (h : EqQ (z * y) (-1)) : EqQ (z * ((a - y * b) % 3329 - (a + y * b) % 3329)) (2 * b) := by
  refine EqQ.trans (EqQ.mul (EqQ.refl z) (EqQ.sub (EqQ.mod _) (EqQ.mod _))) ?_
  rw [show a - y * b - (a + y * b) = y * (-(2 * b)) by rw [Int.mul_neg, Int.mul_left_comm]; omega, ← Int.mul_assoc]
  refine (EqQ.mul h (EqQ.refl _)).trans (EqQ.of ?_)
  omega
theorem back_of {s m : Nat} (hm : m = 1 ∨ m = 2 ∨ m = 4 ∨ m = 8 ∨ m = 16 ∨ m = 32 ∨ m = 64) (hs : 2 * s * m = 256) (f g : Nat → Int) (u : Int) (H : ∀ n, n < 256 → EqQ (g n) (u * lay s m m f n)) :
    ∀ n, n < 256 → EqQ (layI s m m g n) (2 * u * f n) := by
  intro n hn
  obtain ⟨c, r, hc, hr, e⟩ := place_of (s := s) (m := m) (n := n) (by omega)
  have hb := blk_le s c m hc
  have hI := layI_lo (s := s) (m := m) (f := g) m c r hc hr
  have hL := lay_lo (s := s) (m := m) (f := f) m c r hc hr
  have g0 := H (2 * s * c + r) (by omega)
  have g1 := H (2 * s * c + r + s) (by omega)
  have hz := zed_back (m + c) (by omega) (by omega) m c hm hc rfl
  rw [hL.1] at g0
  rw [hL.2] at g1
  rcases e with rfl | rfl
  · rw [hI.1]
    refine (EqQ.mod _).trans ((EqQ.add g0 g1).trans ?_)
    rw [← Int.mul_add]
    refine (EqQ.mul (EqQ.refl u) (EqQ.add (EqQ.mod _) (EqQ.mod _))).trans (EqQ.of ?_)
    rw [show f (2 * s * c + r) + zed (m + c) * f (2 * s * c + r + s) + (f (2 * s * c + r) - zed (m + c) * f (2 * s * c + r + s)) = 2 * f (2 * s * c + r) by omega, ← Int.mul_assoc, Int.mul_comm u 2]
  · rw [hI.2]
    refine (EqQ.mod _).trans ((EqQ.mul (EqQ.refl _) (EqQ.sub g1 g0)).trans ?_)
    rw [← Int.mul_sub, Int.mul_left_comm]
    refine (EqQ.mul (EqQ.refl u) (two_z hz)).trans (EqQ.of ?_)
    rw [← Int.mul_assoc, Int.mul_comm u 2]
theorem forth_of {s m : Nat} (hm : m = 1 ∨ m = 2 ∨ m = 4 ∨ m = 8 ∨ m = 16 ∨ m = 32 ∨ m = 64) (hs : 2 * s * m = 256) (f g : Nat → Int) (u : Int) (H : ∀ n, n < 256 → EqQ (g n) (u * layI s m m f n)) :
    ∀ n, n < 256 → EqQ (lay s m m g n) (2 * u * f n) := by
  intro n hn
  obtain ⟨c, r, hc, hr, e⟩ := place_of (s := s) (m := m) (n := n) (by omega)
  have hb := blk_le s c m hc
  have hI := layI_lo (s := s) (m := m) (f := f) m c r hc hr
  have hL := lay_lo (s := s) (m := m) (f := g) m c r hc hr
  have g0 := H (2 * s * c + r) (by omega)
  have g1 := H (2 * s * c + r + s) (by omega)
  have hz := zed_back (m + c) (by omega) (by omega) m c hm hc rfl
  rw [hI.1] at g0
  rw [hI.2] at g1
  have gz : EqQ (zed (m + c) * g (2 * s * c + r + s)) (u * (f (2 * s * c + r) - f (2 * s * c + r + s))) := by
    refine (EqQ.mul (EqQ.refl _) g1).trans ?_
    rw [Int.mul_left_comm]
    refine EqQ.mul (EqQ.refl u) ((EqQ.mul (EqQ.refl _) (EqQ.mod _)).trans ?_)
    rw [← Int.mul_assoc, Int.mul_comm (zed (m + c))]
    refine (EqQ.mul hz (EqQ.refl _)).trans (EqQ.of ?_)
    omega
  have g0' : EqQ (g (2 * s * c + r)) (u * (f (2 * s * c + r) + f (2 * s * c + r + s))) := g0.trans (EqQ.mul (EqQ.refl u) (EqQ.mod _))
  rcases e with rfl | rfl
  · rw [hL.1]
    refine (EqQ.mod _).trans ((EqQ.add g0' gz).trans (EqQ.of ?_))
    rw [← Int.mul_add, show f (2 * s * c + r) + f (2 * s * c + r + s) + (f (2 * s * c + r) - f (2 * s * c + r + s)) = 2 * f (2 * s * c + r) by omega, ← Int.mul_assoc, Int.mul_comm u 2]
  · rw [hL.2]
    refine (EqQ.mod _).trans ((EqQ.sub g0' gz).trans (EqQ.of ?_))
    rw [← Int.mul_sub, show f (2 * s * c + r) + f (2 * s * c + r + s) - (f (2 * s * c + r) - f (2 * s * c + r + s)) = 2 * f (2 * s * c + r + s) by omega, ← Int.mul_assoc, Int.mul_comm u 2]
theorem inv_ntt {f : Nat → Int} (hf : ∀ i, 0 ≤ f i ∧ f i ≤ 3328) (n : Nat) (hn : n < 256) : invV (nttV f) n = f n := by
  have h1 := back_of (s := 2) (m := 64) (by decide) (by decide) _ (nttV f) 1 (fun n _ => EqQ.of (by rw [Int.one_mul]; rfl))
  have h2 := back_of (s := 4) (m := 32) (by decide) (by decide) _ _ _ h1
  have h3 := back_of (s := 8) (m := 16) (by decide) (by decide) _ _ _ h2
  have h4 := back_of (s := 16) (m := 8) (by decide) (by decide) _ _ _ h3
  have h5 := back_of (s := 32) (m := 4) (by decide) (by decide) _ _ _ h4
  have h6 := back_of (s := 64) (m := 2) (by decide) (by decide) _ _ _ h5
  have h7 := back_of (s := 128) (m := 1) (by decide) (by decide) f _ _ h6 n hn
  refine EqQ.eq ?_ (mod_in _).1 (mod_in _).2 (hf n).1 (hf n).2
  refine (EqQ.mod _).trans ((EqQ.mul h7 (EqQ.refl 3303)).trans ?_)
  unfold EqQ
  omega
theorem ntt_inv {f : Nat → Int} (hf : ∀ i, 0 ≤ f i ∧ f i ≤ 3328) (n : Nat) (hn : n < 256) : nttV (invV f) n = f n := by
  have h1 := forth_of (s := 128) (m := 1) (by decide) (by decide) (layI 64 2 2 (layI 32 4 4 (layI 16 8 8 (layI 8 16 16 (layI 4 32 32 (layI 2 64 64 f)))))) (invV f) 3303 (fun n _ => (EqQ.mod _).trans (EqQ.of (Int.mul_comm _ _)))
  have h2 := forth_of (s := 64) (m := 2) (by decide) (by decide) (layI 32 4 4 (layI 16 8 8 (layI 8 16 16 (layI 4 32 32 (layI 2 64 64 f))))) _ _ h1
  have h3 := forth_of (s := 32) (m := 4) (by decide) (by decide) (layI 16 8 8 (layI 8 16 16 (layI 4 32 32 (layI 2 64 64 f)))) _ _ h2
  have h4 := forth_of (s := 16) (m := 8) (by decide) (by decide) (layI 8 16 16 (layI 4 32 32 (layI 2 64 64 f))) _ _ h3
  have h5 := forth_of (s := 8) (m := 16) (by decide) (by decide) (layI 4 32 32 (layI 2 64 64 f)) _ _ h4
  have h6 := forth_of (s := 4) (m := 32) (by decide) (by decide) (layI 2 64 64 f) _ _ h5
  have h7 := forth_of (s := 2) (m := 64) (by decide) (by decide) f _ _ h6 n hn
  refine EqQ.eq ?_ (nttV_in (fun i => mod_in _) n).1 (nttV_in (fun i => mod_in _) n).2 (hf n).1 (hf n).2
  refine EqQ.trans h7 ?_
  unfold EqQ
  omega
theorem invV_in (f : Nat → Int) (n : Nat) : 0 ≤ invV f n ∧ invV f n ≤ 3328 := mod_in _
end Go.Proofs.Ytcpgpjggnghpdaa.Pure
