/- SHA-256: bytes and words; the digest of a text, of the reference and of the program. -/
import Derived.Test.YtoeagdpddggliaaDoorMZ2
import Derived.Test.YtoeagdpddggliaaDoorHA4
import Derived.Test.YtoeagdpddggliaaDoorHA5
import Derived.Test.YtoeagdpddggliaaDoorMW3
import Derived.Test.YtoeagdpddggliaaDoorPx6
import Derived.Test.YtoeagdpddggliaaDoorHA1
namespace Go.Proofs.YtoeagdpddggliaaDoor.Pure
open Go.RowKit Go.Proofs.YtoeagdpddggliaaDoorW.PrintWords Go.Proofs.YtoeagdpddggliaaDoorW.PrintLast Go.Proofs.YtoeagdpddggliaaDoorW.PrintMore Go.Proofs.YtoeagdpddggliaaDoor.P Go.Proofs.YtoeagdpddggliaaDoor.Kit
set_option linter.unusedVariables false
set_option linter.unusedSimpArgs false

theorem strOf_app (a b : List Int) : strOfNums a ++ strOfNums b = strOfNums (a ++ b) := by
  apply bytes_ext
  simp [strOfNums, ByteArray.data_append]
theorem strOf_extract (xs : List Int) (a b : Nat) : (strOfNums xs).extract a b = strOfNums ((xs.drop a).take (b - a)) := by
  apply bytes_ext
  rw [ByteArray.data_extract]
  simp [strOfNums, List.map_drop, List.map_take]
theorem empty_app (s : ByteArray) : (⟨#[]⟩ : ByteArray) ++ s = s := by
  apply bytes_ext
  simp [ByteArray.data_append]
theorem bt_strOf (xs : List Int) (j : Nat) (hj : j < xs.length) (h : 0 ≤ xs[j] ∧ xs[j] ≤ 255) : bt (strOfNums xs) (j : Int) = xs[j] := by
  have hs : j < (strOfNums xs).size := by rw [strOfNums_size]; exact hj
  rw [← bt_at (strOfNums xs) (j : Int) (by simpa using hs)]
  simp only [Int.toNat_natCast]
  rw [strOfNums_get xs j hs, UInt8.toNat_ofNat']
  omega

def fourL (x : Int) : List Int := [(x / 16777216) % 256, (x / 65536) % 256, (x / 256) % 256, x % 256]
def bytesW (l : List Int) : List Int := l.flatMap fourL
theorem bytesW_len (l : List Int) : (bytesW l).length = 4 * l.length := by
  induction l with
  | nil => rfl
  | cons x l ih => simp only [bytesW, List.flatMap_cons, List.length_append, List.length_cons] at ih ⊢; rw [ih]; simp [fourL]; omega
theorem bytesW_succ (l : List Int) (i : Nat) (h : i < l.length) : bytesW (l.take (i + 1)) = bytesW (l.take i) ++ fourL l[i] := by
  show (l.take (i + 1)).flatMap fourL = (l.take i).flatMap fourL ++ fourL l[i]
  rw [← take_snoc l i h, List.flatMap_append, List.flatMap_singleton]
theorem spec_l05Bytes_ev (l : List Int) (hl : l.length ≤ 1000000) (hw : ∀ x ∈ l, W32 x) : Ev (fun k => spec_l05Bytes.f k l) (strOfNums (bytesW l)) := by
  refine Ev.up (g := fun i k => spec_l05Bytes.l0 k l (bytesW (l.take i)) (i : Int)) l.length ?_ ?_ 0 (Nat.zero_le _)
  · intro i hi hh
    refine Ev.step (fun k => ?_) hh
    have hx := hw l[i] (List.getElem_mem hi)
    simp only [spec_l05Bytes.l0, Option.bind_some]
    rw [if_pos (by omega), if_pos (by omega), if_pos (by rw [bytesW_len, List.length_take]; simp; omega), w64s i (by omega), bytesW_succ l i hi, rd_get l i hi]
    congr 2
    unfold fourL
    rw [Int.tdiv_eq_ediv_of_nonneg hx.1, Int.tdiv_eq_ediv_of_nonneg hx.1, Int.tdiv_eq_ediv_of_nonneg hx.1, Int.tmod_eq_emod_of_nonneg hx.1]
    have h1 := hx.1
    have h2 := hx.2
    generalize l[i] = x at h1 h2 ⊢
    simp only [List.cons.injEq, and_true]
    refine ⟨by omega, by omega, by omega, by omega⟩
  · refine Ev.step (f := fun _ => some (strOfNums (bytesW l))) (fun k => ?_) (Ev.now _)
    simp only [spec_l05Bytes.l0]
    rw [if_neg (by omega), List.take_length]
theorem stateText_cat (l : List Int) (hl : l.length = 8) : ∀ n, n ≤ 8 → impl_stateText.cat l n = some (strOfNums (bytesW (l.take n)))
  | 0, _ => rfl
  | n + 1, h => by
    simp only [impl_stateText.cat]
    rw [stateText_cat l hl n (by omega)]
    simp only [Option.bind_some]
    show (some (strOfNums (fourL (rd l (n : Int))))).bind _ = _
    simp only [Option.bind_some]
    rw [if_pos (by rw [strOfNums_size, strOfNums_size, bytesW_len, List.length_take]; simp [fourL]; omega), rd_get l n (by omega), strOf_app, bytesW_succ l n (by omega)]
theorem stateText_eq (l : List Int) (hl : l.length = 8) : impl_stateText.f l = some (strOfNums (bytesW l)) := by
  unfold impl_stateText.f
  rw [stateText_cat l hl 8 (Nat.le_refl _), List.take_of_length_le (by omega)]
theorem fourL_range (x : Int) : ∀ y ∈ fourL x, 0 ≤ y ∧ y ≤ 255 := by
  intro y hy
  simp only [fourL, List.mem_cons, List.not_mem_nil, or_false] at hy
  rcases hy with rfl | rfl | rfl | rfl <;> omega
theorem bytesW_range (l : List Int) : ∀ y ∈ bytesW l, 0 ≤ y ∧ y ≤ 255 := by
  intro y hy
  obtain ⟨x, _, hx⟩ := List.mem_flatMap.mp hy
  exact fourL_range x y hx
theorem wordL_bytes {l : List Int} (h : Eight l) : wordL (strOfNums (bytesW l)) 8 = l := by
  obtain ⟨a, b, c, d, e, f, g, i, rfl, h1, h2, h3, h4, h5, h6, h7, h8⟩ := h.cases
  have hb : ∀ (j : Nat) (hj : j < (bytesW [a, b, c, d, e, f, g, i]).length), bt (strOfNums (bytesW [a, b, c, d, e, f, g, i])) (j : Int) = (bytesW [a, b, c, d, e, f, g, i])[j] :=
    fun j hj => bt_strOf _ j hj (bytesW_range _ _ (List.getElem_mem hj))
  have hw : ∀ (t : Nat) (x : Int), W32 x → (∀ q, q < 4 → bt (strOfNums (bytesW [a, b, c, d, e, f, g, i])) ((4 * t + q : Nat) : Int) = (fourL x).getD q 0) → word (strOfNums (bytesW [a, b, c, d, e, f, g, i])) t = x := by
    intro t x hx hq
    unfold word
    have q0 := hq 0 (by decide)
    have q1 := hq 1 (by decide)
    have q2 := hq 2 (by decide)
    have q3 := hq 3 (by decide)
    simp only [Nat.add_zero] at q0
    rw [q0, q1, q2, q3]
    simp only [fourL, List.getD_cons_zero, List.getD_cons_succ]
    have := hx.1
    have := hx.2
    omega
  have h4' : ∀ (t q : Nat) (x : Int), (bytesW [a, b, c, d, e, f, g, i])[4 * t + q]? = some ((fourL x).getD q 0) → bt (strOfNums (bytesW [a, b, c, d, e, f, g, i])) ((4 * t + q : Nat) : Int) = (fourL x).getD q 0 := by
    intro t q x hx
    obtain ⟨hlt, he⟩ := List.getElem?_eq_some_iff.mp hx
    rw [hb _ hlt, he]
  have all4 : ∀ {p : Nat → Prop}, p 0 → p 1 → p 2 → p 3 → ∀ q, q < 4 → p q := by
    intro p p0 p1 p2 p3 q hq
    match q, hq with
    | 0, _ => exact p0
    | 1, _ => exact p1
    | 2, _ => exact p2
    | 3, _ => exact p3
  show [word _ 0, word _ 1, word _ 2, word _ 3, word _ 4, word _ 5, word _ 6, word _ 7] = _
  rw [hw 0 a h1 (all4 (h4' 0 0 a rfl) (h4' 0 1 a rfl) (h4' 0 2 a rfl) (h4' 0 3 a rfl)), hw 1 b h2 (all4 (h4' 1 0 b rfl) (h4' 1 1 b rfl) (h4' 1 2 b rfl) (h4' 1 3 b rfl)), hw 2 c h3 (all4 (h4' 2 0 c rfl) (h4' 2 1 c rfl) (h4' 2 2 c rfl) (h4' 2 3 c rfl)), hw 3 d h4 (all4 (h4' 3 0 d rfl) (h4' 3 1 d rfl) (h4' 3 2 d rfl) (h4' 3 3 d rfl)), hw 4 e h5 (all4 (h4' 4 0 e rfl) (h4' 4 1 e rfl) (h4' 4 2 e rfl) (h4' 4 3 e rfl)), hw 5 f h6 (all4 (h4' 5 0 f rfl) (h4' 5 1 f rfl) (h4' 5 2 f rfl) (h4' 5 3 f rfl)), hw 6 g h7 (all4 (h4' 6 0 g rfl) (h4' 6 1 g rfl) (h4' 6 2 g rfl) (h4' 6 3 g rfl)), hw 7 i h8 (all4 (h4' 7 0 i rfl) (h4' 7 1 i rfl) (h4' 7 2 i rfl) (h4' 7 3 i rfl))]

/-! the blocks -/
theorem first_eight : Eight impl_firstState.v := by
  refine ⟨rfl, ?_⟩
  intro x hx
  simp only [impl_firstState.v, List.mem_cons, List.not_mem_nil, or_false] at hx
  unfold W32
  omega
theorem stAt_eight {st : List Int} (h : Eight st) (s : ByteArray) : ∀ n, Eight (stAt st s n)
  | 0 => h
  | n + 1 => oneBlock_eight (stAt_eight h s n)
theorem ext_in (s e : ByteArray) (a b : Nat) (h : b ≤ s.size) : (s ++ e).extract a b = s.extract a b := by
  rw [ByteArray.extract_append, Nat.sub_eq_zero_of_le h]
  apply bytes_ext
  simp [ByteArray.data_append, ByteArray.data_extract]
theorem stAt_in (st : List Int) (s e : ByteArray) : ∀ n, 64 * n ≤ s.size → stAt st (s ++ e) n = stAt st s n
  | 0, _ => rfl
  | n + 1, h => by
    simp only [stAt]
    rw [stAt_in st s e n (by omega), ext_in s e _ _ (by omega)]
theorem ext_over (s e : ByteArray) (T : List Int) (n j : Nat) (hn : 64 * n ≤ s.size) (hT : s.extract (64 * n) s.size ++ e = strOfNums T) : (s ++ e).extract (64 * (n + j)) (64 * (n + j) + 64) = strOfNums ((T.drop (64 * j)).take 64) := by
  have hP : (s.extract 0 (64 * n)).size = 64 * n := by rw [ByteArray.size_extract]; omega
  have hs : s = s.extract 0 (64 * n) ++ s.extract (64 * n) s.size := by
    rw [ByteArray.extract_append_extract]
    apply bytes_ext
    rw [ByteArray.data_extract]
    simp [Nat.min_eq_left, Nat.max_eq_right hn]
    exact (List.take_of_length_le (by rw [Array.length_toList]; exact Nat.le_refl _)).symm
  have h1 : s ++ e = s.extract 0 (64 * n) ++ strOfNums T := by
    rw [← hT, ← ByteArray.append_assoc, ← hs]
  have h2 := ByteArray.extract_append_size_add (a := s.extract 0 (64 * n)) (b := strOfNums T) (i := 64 * j) (j := 64 * j + 64)
  rw [hP] at h2
  rw [h1, show 64 * (n + j) = 64 * n + 64 * j by omega, show 64 * n + 64 * j + 64 = 64 * n + (64 * j + 64) by omega, h2, strOf_extract]
  congr 2
  omega
theorem blocksAt_ev (s e : ByteArray) (T : List Int) (st : List Int) (hst : Eight st) (n : Nat) (hn : 64 * n ≤ s.size) (hT : s.extract (64 * n) s.size ++ e = strOfNums T) : ∀ j, 64 * j ≤ T.length → Ev (fun k => blocksAt k roundKeys T (stAt st s n) j) (stAt st (s ++ e) (n + j))
  | 0, _ => by
    rw [Nat.add_zero, stAt_in st s e n hn]
    exact Ev.now _
  | j + 1, h => by
    have ih := blocksAt_ev s e T st hst n hn hT j (by omega)
    simp only [blocksAt]
    refine Ev.bind ih ?_
    rw [show n + (j + 1) = n + j + 1 by omega]
    simp only [stAt]
    rw [ext_over s e T n j hn hT]
    exact spec_l05Round_ev _ _ (stAt_eight hst _ _) (by rw [strOfNums_size, List.length_take, List.length_drop]; omega)
end Go.Proofs.YtoeagdpddggliaaDoor.Pure
