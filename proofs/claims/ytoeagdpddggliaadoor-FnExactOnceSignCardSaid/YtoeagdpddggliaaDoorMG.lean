/- What the laws' own helpers answer of slices of texts and of signatures: copied, compared with themselves, marked, held against their marks. -/
import Derived.Test.YtoeagdpddggliaaDoorMKB
import Derived.Test.YtoeagdpddggliaaDoorPx9
import Derived.Test.YtoeagdpddggliaaDoorPx10
namespace Go.Proofs.YtoeagdpddggliaaDoor.Pure
open Go.RowKit Go.Proofs.YtoeagdpddggliaaDoorW.PrintWords Go.Proofs.YtoeagdpddggliaaDoorW.PrintLast Go.Proofs.YtoeagdpddggliaaDoorW.PrintMore Go.Proofs.YtoeagdpddggliaaDoor.P

def Mtext (n : Int) (t : ByteArray) : Prop := Ev (fun k => laws_markText.f k n) t
theorem markText_l0 (d : Nat) : ∀ (n : Nat) (x : ByteArray), n ≤ d → x.size + n ≤ 4611686018427387904 → ∃ t, Ev (fun k => laws_markText.l0 k (n : Int) x) t := by
  induction d with
  | zero =>
    intro n x hn hx
    obtain rfl : n = 0 := by omega
    refine ⟨_, Ev.step (f := fun _ => some ((⟨#[109]⟩ : ByteArray) ++ x)) (fun k => ?_) (Ev.now _)⟩
    simp only [laws_markText.l0]
    rw [if_neg (by omega), if_pos (by omega)]
  | succ d ih =>
    intro n x hn hx
    by_cases h0 : n = 0
    · subst h0
      refine ⟨_, Ev.step (f := fun _ => some ((⟨#[109]⟩ : ByteArray) ++ x)) (fun k => ?_) (Ev.now _)⟩
      simp only [laws_markText.l0]
      rw [if_neg (by omega), if_pos (by omega)]
    · have hs : (strOfNums [(wrap64 (48 + (Int.tmod (n : Int) 10))) % 256]).size = 1 := by simp [strOfNums_size]
      have h10 : wrap64 (Int.tdiv (n : Int) 10) = ((n / 10 : Nat) : Int) := by
        rw [Int.tdiv_eq_ediv_of_nonneg (by omega), w64 (by omega) (by omega)]; rfl
      obtain ⟨t, ht⟩ := ih (n / 10) (strOfNums [(wrap64 (48 + (Int.tmod (n : Int) 10))) % 256] ++ x) (by omega) (by rw [ByteArray.size_append, hs]; omega)
      refine ⟨t, Ev.step (fun k => ?_) ht⟩
      simp only [laws_markText.l0, Option.bind_some]
      rw [if_pos (by omega), if_pos (by rw [hs]; omega), h10]
theorem markText_ev (n : Int) (h1 : n ≤ 4611686018427387904) : ∃ t, Mtext n t := by
  unfold Mtext laws_markText.f
  by_cases h : n ≤ 0
  · exact ⟨_, Ev.pos h (Ev.now _)⟩
  · obtain ⟨t, ht⟩ := markText_l0 n.toNat n.toNat ⟨#[]⟩ (by omega) (by
      have : (⟨#[]⟩ : ByteArray).size = 0 := rfl
      omega)
    rw [show ((n.toNat : Nat) : Int) = n by omega] at ht
    exact ⟨t, Ev.neg h ht⟩
theorem mark_list (a : Int) (n : Nat) (h : a + n ≤ 4611686018427387904) : ∃ ts : List ByteArray, ts.length = n ∧ ∀ i, (hi : i < ts.length) → Mtext (a + i) ts[i] := by
  induction n with
  | zero => exact ⟨[], rfl, fun i hi => absurd hi (by simp)⟩
  | succ n ih =>
    obtain ⟨ts, hl, hm⟩ := ih (by omega)
    obtain ⟨t, ht⟩ := markText_ev (a + n) (by omega)
    refine ⟨ts ++ [t], by simp [hl], fun i hi => ?_⟩
    by_cases hin : i < ts.length
    · rw [List.getElem_append_left hin]; exact hm i hin
    · have : i = ts.length := by simp at hi; omega
      subst this
      rw [List.getElem_append_right (Nat.le_refl _)]
      simpa [hl] using ht
theorem set_take {α : Type} (ts l : List α) (i : Nat) (h : i < l.length) (hl : ts.length = l.length) : (ts.take i ++ l.drop i).set i (ts[i]'(by omega)) = ts.take (i + 1) ++ l.drop (i + 1) := by
  rw [List.drop_eq_getElem_cons h, List.set_append_right _ _ (by simp; omega)]
  rw [show i - (ts.take i).length = 0 by simp; omega, List.set_cons_zero, ← take_snoc ts i (by omega), List.append_assoc]
  rfl
theorem markStringS_ev (l ts : List ByteArray) (a : Int) (ha : 0 ≤ a) (hb : a + l.length ≤ 4611686018427387904) (hl : ts.length = l.length) (hm : ∀ i, (hi : i < ts.length) → Mtext (a + i) ts[i]) :
    Ev (fun k => laws_markStringS.f k l a) (a + l.length, ts) := by
  unfold laws_markStringS.f
  have h := Ev.up (g := fun i k => laws_markStringS.l0 k (ts.take i ++ l.drop i) (a + i) (i : Int)) (r := (a + l.length, ts)) l.length ?_ ?_ 0 (by omega)
  · simpa using h
  · intro i hi h
    refine Ev.step (f := fun k => (laws_markText.f k (a + i)).bind fun t372 => (if 0 ≤ (i : Int) then (laws_markStringS.l0 k ((ts.take i ++ l.drop i).set ((i : Int) : Int).toNat t372) (wrap64 ((a + i) + 1)) (wrap64 ((i : Int) + 1))) else (none))) (fun k => ?_) (Ev.bind (hm i (by omega)) (Ev.pos (by omega) ?_))
    · simp only [laws_markStringS.l0]
      rw [if_pos (by simp; omega)]
    · rw [Int.toNat_natCast, set_take ts l i hi hl, w64s i (by omega), w64 (by omega) (by omega)]
      refine Ev.congr (fun k => ?_) h
      congr 1
      omega
  · refine Ev.step (f := fun _ => some (a + l.length, ts)) (fun k => ?_) (Ev.now _)
    simp only [laws_markStringS.l0]
    rw [if_neg (by simp; omega), List.take_of_length_le (by omega)]
    simp
theorem heldStringS_ev (ts : List ByteArray) (a : Int) (ha : 0 ≤ a) (hb : a + ts.length ≤ 4611686018427387904) (hm : ∀ i, (hi : i < ts.length) → Mtext (a + i) ts[i]) :
    Ev (fun k => laws_heldStringS.f k ts a) (a + ts.length) := by
  unfold laws_heldStringS.f
  have h := Ev.up (g := fun i k => laws_heldStringS.l0 k ts (a + i) (i : Int)) (r := a + ts.length) ts.length ?_ ?_ 0 (by omega)
  · simpa using h
  · intro i hi h
    refine Ev.step (f := fun k => (laws_markText.f k (a + i)).bind fun t380 => (if (rdOf ByteArray.empty ts (i : Int)).toList = t380.toList then (laws_heldStringS.l0 k ts (wrap64 ((a + i) + 1)) (wrap64 ((i : Int) + 1))) else (some (-1)))) (fun k => ?_) (Ev.bind (hm i hi) (Ev.pos (by rw [rdOf_get _ _ _ hi]) ?_))
    · simp only [laws_heldStringS.l0]
      rw [if_pos (by omega), if_pos (by omega)]
    · rw [w64s i (by omega), w64 (by omega) (by omega)]
      refine Ev.congr (fun k => ?_) h
      congr 1
      omega
  · refine Ev.step (f := fun _ => some (a + ts.length)) (fun k => ?_) (Ev.now _)
    simp only [laws_heldStringS.l0]
    rw [if_neg (by omega)]
/-- A slice of texts takes its marks, and holds them. -/
theorem marks_str (l : List ByteArray) (a : Int) (ha : 0 ≤ a) (hb : a + l.length ≤ 4611686018427387904) :
    ∃ ts : List ByteArray, Ev (fun k => laws_markStringS.f k l a) (a + l.length, ts) ∧ Ev (fun k => laws_heldStringS.f k ts a) (a + l.length) := by
  obtain ⟨ts, hl, hm⟩ := mark_list a l.length hb
  refine ⟨ts, markStringS_ev l ts a ha hb hl hm, ?_⟩
  have := heldStringS_ev ts a ha (by rw [hl]; exact hb) hm
  rwa [hl] at this
end Go.Proofs.YtoeagdpddggliaaDoor.Pure
