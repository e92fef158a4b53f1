/- Signatures: which ones are right, and their bytes; copies of them, and how much they hold. -/
import Derived.Test.YtoeagdpddggliaaDoorME
import Derived.Test.YtoeagdpddggliaaDoorMS
import Derived.Test.YtoeagdpddggliaaDoorMKB
import Derived.Test.YtoeagdpddggliaaDoorPx8
namespace Go.Proofs.YtoeagdpddggliaaDoor.Pure
open Go.RowKit Go.Proofs.YtoeagdpddggliaaDoorW.PrintWords Go.Proofs.YtoeagdpddggliaaDoorW.PrintLast Go.Proofs.YtoeagdpddggliaaDoorW.PrintMore Go.Proofs.YtoeagdpddggliaaDoor.P

theorem toStringS_ev (l : List ByteArray) (hl : l.length ≤ 17592186044416) : Ev (fun k => laws_toStringS.f k l) l := by
  unfold laws_toStringS.f
  refine Ev.pos (by omega) (Ev.pos (by omega) ?_)
  have h := Ev.up (g := fun i k => laws_toStringS.l0 k l (l.take i ++ List.replicate (l.length - i) (⟨#[]⟩ : ByteArray)) (i : Int)) (r := l) l.length ?_ ?_ 0 (by omega)
  · simpa using h
  · intro i hi h
    refine Ev.step (fun k => ?_) h
    simp only [laws_toStringS.l0]
    rw [if_pos (by omega), if_pos (by omega), if_pos (by simp; omega), rdOf_get _ l i hi, Int.toNat_natCast, set_fill l _ i hi, w64s i (by omega)]
  · refine Ev.step (f := fun _ => some l) (fun k => ?_) (Ev.now _)
    simp only [laws_toStringS.l0]
    rw [if_neg (by omega)]
    simp
theorem szStringS_ev (l : List ByteArray) (left : Int) (h0 : 0 ≤ left) (h1 : left ≤ 1048576) (hl : l.length ≤ 9223372036854775807) (hs : ∀ s ∈ l, s.size ≤ 9223372036854775807) :
    ∃ r, Ev (fun k => laws_szStringS.f k l left) r ∧ (r < 0 ∨ (0 ≤ r ∧ r ≤ left ∧ l.length ≤ left ∧ ∀ s ∈ l, (s.size : Int) ≤ left)) := by
  unfold laws_szStringS.f
  rw [w64 (x := left - l.length) (by omega) (by omega)]
  by_cases hn : left - l.length < 0
  · exact ⟨-1, Ev.pos hn (Ev.now _), .inl (by omega)⟩
  have key : ∀ d i : Nat, ∀ m : Int, l.length - i = d → i ≤ l.length → 0 ≤ m → m ≤ left → ∃ r, Ev (fun k => laws_szStringS.l0 k l m (i : Int)) r ∧ (r < 0 ∨ (0 ≤ r ∧ r ≤ m ∧ ∀ s ∈ l.drop i, (s.size : Int) ≤ m)) := by
    intro d
    induction d with
    | zero =>
      intro i m hd hi hm0 hm1
      refine ⟨m, Ev.step (f := fun _ => some m) (fun k => ?_) (Ev.now _), .inr ⟨hm0, by omega, ?_⟩⟩
      · simp only [laws_szStringS.l0]
        rw [if_neg (by omega)]
      · intro s hs2
        rw [List.drop_of_length_le (by omega)] at hs2
        exact absurd hs2 (by simp)
    | succ d ih =>
      intro i m hd hi hm0 hm1
      have hlt : i < l.length := by omega
      have hsz := hs l[i] (List.getElem_mem hlt)
      by_cases hneg : m - (l[i].size : Int) < 0
      · refine ⟨-1, Ev.step (f := fun _ => some (-1)) (fun k => ?_) (Ev.now _), .inl (by omega)⟩
        simp only [laws_szStringS.l0]
        rw [if_pos (by omega), if_pos (by omega), rdOf_get _ l i hlt, w64 (x := m - _) (by omega) (by omega), if_pos hneg]
      · obtain ⟨r, hr, hp⟩ := ih (i + 1) (m - l[i].size) (by omega) (by omega) (by omega) (by omega)
        refine ⟨r, Ev.step (fun k => ?_) hr, ?_⟩
        · simp only [laws_szStringS.l0]
          rw [if_pos (by omega), if_pos (by omega), rdOf_get _ l i hlt, w64 (x := m - _) (by omega) (by omega), if_neg hneg, w64s i (by omega)]
        · rcases hp with hp | ⟨p0, p1, p2⟩
          · exact .inl hp
          · refine .inr ⟨p0, by omega, fun s hs2 => ?_⟩
            rw [List.drop_eq_getElem_cons hlt] at hs2
            rcases List.mem_cons.mp hs2 with rfl | hs2
            · omega
            · have := p2 s hs2; omega
  obtain ⟨r, hr, hp⟩ := key l.length 0 (left - l.length) (by omega) (by omega) (by omega) (by omega)
  refine ⟨r, Ev.neg hn hr, ?_⟩
  rcases hp with hp | ⟨p0, p1, p2⟩
  · exact .inl hp
  · exact .inr ⟨p0, by omega, by omega, fun s hs2 => by have := p2 s (by simpa using hs2); omega⟩
def four (s : ByteArray) : Bool := decide (s.size = 4)
def sigOk (leaf : Int) (a b : List ByteArray) : Bool := decide (0 ≤ leaf ∧ leaf ≤ 3) && (decide (a.length = 10) && (a.all four && (decide (b.length = 2) && b.all four)))
theorem sigOk_all {leaf : Int} {a b : List ByteArray} (h : sigOk leaf a b = true) : (0 ≤ leaf ∧ leaf ≤ 3) ∧ a.length = 10 ∧ (∀ s ∈ a, s.size = 4) ∧ b.length = 2 ∧ ∀ s ∈ b, s.size = 4 := by
  unfold sigOk at h
  simp only [Bool.and_eq_true, decide_eq_true_eq, List.all_eq_true] at h
  exact ⟨h.1, h.2.1, fun s hs => of_decide_eq_true (h.2.2.1 s hs), h.2.2.2.1, fun s hs => of_decide_eq_true (h.2.2.2.2 s hs)⟩
/-- Texts, one behind the other. -/
def catL (t : ByteArray) (l : List ByteArray) : ByteArray := l.foldl (· ++ ·) t
theorem catL_snoc (t : ByteArray) (l : List ByteArray) (i : Nat) (h : i < l.length) : catL t (l.take i) ++ l[i] = catL t (l.take (i + 1)) := by
  unfold catL
  rw [← List.take_append_getElem h, List.foldl_append]
  rfl
theorem catL_size (t : ByteArray) (l : List ByteArray) (n : Nat) (h : ∀ s ∈ l, s.size = n) : (catL t l).size = t.size + n * l.length := by
  unfold catL
  induction l generalizing t with
  | nil => simp
  | cons a l ih =>
    rw [List.foldl_cons, ih _ fun s hs => h s (List.mem_cons_of_mem _ hs), ByteArray.size_append, h a (List.mem_cons_self ..), List.length_cons, Nat.mul_succ]
    omega
def byteV (n : Int) : ByteArray := strOfNums [n % 256]
theorem byteV_size (n : Int) : (byteV n).size = 1 := by simp [byteV, strOfNums_size]
theorem impl_oneByte_eq (n : Int) : impl_oneByte.f n = some (byteV n) := rfl
theorem spec_l06Byte_eq (n : Int) (h1 : -9223372036854775808 ≤ n) (h2 : n ≤ 9223372036854775807) : spec_l06Byte.f n = some (byteV n) := by
  unfold spec_l06Byte.f byteV
  by_cases h : 0 ≤ n
  · rw [Int.tmod_eq_emod_of_nonneg h, if_neg (by omega), show n % 256 % 256 = n % 256 by omega]
  · have e : Int.tmod n 256 = -((-n) % 256) := by
      have := Int.neg_tmod (-n) 256
      rw [Int.neg_neg] at this
      rw [this, Int.tmod_eq_emod_of_nonneg (by omega)]
    rw [e]
    by_cases h0 : -((-n) % 256) < 0
    · rw [if_pos h0, w64 (by omega) (by omega), show (-((-n) % 256) + 256) % 256 = n % 256 by omega]
    · rw [if_neg h0, show -((-n) % 256) % 256 = n % 256 by omega]
def sigTextR (leaf : Int) (a b : List ByteArray) : ByteArray × Bool := if sigOk leaf a b = true then (catL (catL (byteV leaf) a) b, true) else (⟨#[]⟩, false)
theorem take_size (t : ByteArray) (l : List ByteArray) (n i : Nat) (h : ∀ s ∈ l, s.size = n) (hi : i ≤ l.length) : (catL t (l.take i)).size = t.size + n * i := by
  rw [catL_size t (l.take i) n fun s hs => h s (List.mem_of_mem_take hs), List.length_take, Nat.min_eq_left hi]
end Go.Proofs.YtoeagdpddggliaaDoor.Pure
