/- Signatures: which ones are right, and their bytes; copies of them, and how much they hold. -/
import Derived.Test.YtcpgpjggnghpdaaME
import Derived.Test.YtcpgpjggnghpdaaMS
import Derived.Test.YtcpgpjggnghpdaaMB
import Derived.Test.YtcpgpjggnghpdaaPx44
import Derived.Test.YtcpgpjggnghpdaaPx45
import Derived.Test.YtcpgpjggnghpdaaPx47
import Derived.Test.YtcpgpjggnghpdaaPx49
import Derived.Test.YtcpgpjggnghpdaaPx50
import Derived.Test.YtcpgpjggnghpdaaPx52
import Derived.Test.YtcpgpjggnghpdaaPx53
import Derived.Test.YtcpgpjggnghpdaaPx79
import Derived.Test.YtcpgpjggnghpdaaPx80
import Derived.Test.YtcpgpjggnghpdaaPx82
import Derived.Test.YtcpgpjggnghpdaaPx83
namespace Go.Proofs.Ytcpgpjggnghpdaa.Pure
open Go.RowKit Go.Proofs.YtcpgpjggnghpdaaW.PrintWords Go.Proofs.YtcpgpjggnghpdaaW.PrintLast Go.Proofs.YtcpgpjggnghpdaaW.PrintMore Go.Proofs.Ytcpgpjggnghpdaa.P

theorem toStringS_ev (l : List ByteArray) (hl : l.length ≤ 17592186044416) : Ev (fun k => laws_toStringS.f k l) l := by
  unfold laws_toStringS.f
  refine Ev.pos (by omega) (Ev.pos (by omega) ?_)
  have h := Ev.up (g := fun i k => laws_toStringS.l0 k l (l.take i ++ List.replicate (l.length - i) (⟨#[]⟩ : ByteArray)) (i : Int)) (r := l) l.length ?_ ?_ 0 (by omega)
  · simpa using h
  · intro i hi h
    refine Ev.step (fun k => ?_) h
    simp only [laws_toStringS.l0]
    rw [if_pos (by omega), if_pos (by omega), if_pos (by simp; omega), rdOf_get _ l i hi, Int.toNat_natCast, set_fill l _ i hi, w64s i (by omega)]
  · refine Ev.step (f := fun _ => some l) (fun k => ?_) (Ev.now _)
    simp only [laws_toStringS.l0]
    rw [if_neg (by omega)]
    simp
theorem toSig_ev (x : Int) (a b : List ByteArray) (ha : a.length ≤ 17592186044416) (hb : b.length ≤ 17592186044416) : Ev (fun k => laws_toSig.f k x a b) (x, a, b) := by
  unfold laws_toSig.f
  exact Ev.bind (toStringS_ev a ha) (Ev.bind (toStringS_ev b hb) (Ev.now _))

theorem szStringS_ev (l : List ByteArray) (left : Int) (h0 : 0 ≤ left) (h1 : left ≤ 1048576) (hl : l.length ≤ 9223372036854775807) (hs : ∀ s ∈ l, s.size ≤ 9223372036854775807) :
    ∃ r, Ev (fun k => laws_szStringS.f k l left) r ∧ (r < 0 ∨ (0 ≤ r ∧ r ≤ left ∧ l.length ≤ left ∧ ∀ s ∈ l, (s.size : Int) ≤ left)) := by
  unfold laws_szStringS.f
  rw [w64 (x := left - l.length) (by omega) (by omega)]
  by_cases hn : left - l.length < 0
  · exact ⟨-1, Ev.pos hn (Ev.now _), .inl (by omega)⟩
  have key : ∀ d i : Nat, ∀ m : Int, l.length - i = d → i ≤ l.length → 0 ≤ m → m ≤ left → ∃ r, Ev (fun k => laws_szStringS.l0 k l m (i : Int)) r ∧ (r < 0 ∨ (0 ≤ r ∧ r ≤ m ∧ ∀ s ∈ l.drop i, (s.size : Int) ≤ m)) := by
    intro d
    induction d with
    | zero =>
      intro i m hd hi hm0 hm1
      refine ⟨m, Ev.step (f := fun _ => some m) (fun k => ?_) (Ev.now _), .inr ⟨hm0, by omega, ?_⟩⟩
      · simp only [laws_szStringS.l0]
        rw [if_neg (by omega)]
      · intro s hs2
        rw [List.drop_of_length_le (by omega)] at hs2
        exact absurd hs2 (by simp)
    | succ d ih =>
      intro i m hd hi hm0 hm1
      have hlt : i < l.length := by omega
      have hsz := hs l[i] (List.getElem_mem hlt)
      by_cases hneg : m - (l[i].size : Int) < 0
      · refine ⟨-1, Ev.step (f := fun _ => some (-1)) (fun k => ?_) (Ev.now _), .inl (by omega)⟩
        simp only [laws_szStringS.l0]
        rw [if_pos (by omega), if_pos (by omega), rdOf_get _ l i hlt, w64 (x := m - _) (by omega) (by omega), if_pos hneg]
      · obtain ⟨r, hr, hp⟩ := ih (i + 1) (m - l[i].size) (by omega) (by omega) (by omega) (by omega)
        refine ⟨r, Ev.step (fun k => ?_) hr, ?_⟩
        · simp only [laws_szStringS.l0]
          rw [if_pos (by omega), if_pos (by omega), rdOf_get _ l i hlt, w64 (x := m - _) (by omega) (by omega), if_neg hneg, w64s i (by omega)]
        · rcases hp with hp | ⟨p0, p1, p2⟩
          · exact .inl hp
          · refine .inr ⟨p0, by omega, fun s hs2 => ?_⟩
            rw [List.drop_eq_getElem_cons hlt] at hs2
            rcases List.mem_cons.mp hs2 with rfl | hs2
            · omega
            · have := p2 s hs2; omega
  obtain ⟨r, hr, hp⟩ := key l.length 0 (left - l.length) (by omega) (by omega) (by omega) (by omega)
  refine ⟨r, Ev.neg hn hr, ?_⟩
  rcases hp with hp | ⟨p0, p1, p2⟩
  · exact .inl hp
  · exact .inr ⟨p0, by omega, by omega, fun s hs2 => by have := p2 s (by simpa using hs2); omega⟩
theorem szSig_ev (x : Int) (a b : List ByteArray) (left : Int) (h0 : 0 ≤ left) (h1 : left ≤ 1048576) (ha : a.length ≤ 9223372036854775807) (hb : b.length ≤ 9223372036854775807) (hsa : ∀ s ∈ a, s.size ≤ 9223372036854775807) (hsb : ∀ s ∈ b, s.size ≤ 9223372036854775807) :
    ∃ r, Ev (fun k => laws_szSig.f k x a b left) r ∧ (r < 0 ∨ (0 ≤ r ∧ r ≤ left ∧ a.length ≤ 1048576 ∧ b.length ≤ 1048576 ∧ (∀ s ∈ a, s.size ≤ 1048576) ∧ ∀ s ∈ b, s.size ≤ 1048576)) := by
  obtain ⟨r, hr, hp⟩ := szStringS_ev a left h0 h1 ha hsa
  unfold laws_szSig.f
  rcases hp with hp | ⟨p0, p1, p2, p3⟩
  · exact ⟨-1, Ev.bind hr (Ev.pos hp (Ev.now _)), .inl (by omega)⟩
  · obtain ⟨q, hq, hp2⟩ := szStringS_ev b r p0 (by omega) hb hsb
    rcases hp2 with hp2 | ⟨q0, q1, q2, q3⟩
    · exact ⟨-1, Ev.bind hr (Ev.neg (by omega) (Ev.bind hq (Ev.pos hp2 (Ev.now _)))), .inl (by omega)⟩
    · refine ⟨q, Ev.bind hr (Ev.neg (by omega) (Ev.bind hq (Ev.neg (by omega) (Ev.now _)))), .inr ⟨q0, by omega, by omega, by omega, fun s hs => ?_, fun s hs => ?_⟩⟩
      · have := p3 s hs; omega
      · have := q3 s hs; omega

def four (s : ByteArray) : Bool := decide (s.size = 4)
def sigOk (leaf : Int) (a b : List ByteArray) : Bool := decide (0 ≤ leaf ∧ leaf ≤ 3) && (decide (a.length = 10) && (a.all four && (decide (b.length = 2) && b.all four)))
theorem sigOk_all {leaf : Int} {a b : List ByteArray} (h : sigOk leaf a b = true) : (0 ≤ leaf ∧ leaf ≤ 3) ∧ a.length = 10 ∧ (∀ s ∈ a, s.size = 4) ∧ b.length = 2 ∧ ∀ s ∈ b, s.size = 4 := by
  unfold sigOk at h
  simp only [Bool.and_eq_true, decide_eq_true_eq, List.all_eq_true] at h
  exact ⟨h.1, h.2.1, fun s hs => of_decide_eq_true (h.2.2.1 s hs), h.2.2.2.1, fun s hs => of_decide_eq_true (h.2.2.2.2 s hs)⟩
theorem spec_SigOk_ev (leaf : Int) (a b : List ByteArray) : Ev (fun k => spec_SigOk.f k leaf a b) (sigOk leaf a b) := by
  have bad : Ev (fun k => spec_SigOk.j0 k true leaf a b) false := by
    refine Ev.step (f := fun _ => some false) (fun k => ?_) (Ev.now _)
    simp only [spec_SigOk.j0, if_true]
  unfold spec_SigOk.f sigOk
  simp only [l01In_eq, Option.bind_some]
  by_cases hl : 0 ≤ leaf ∧ leaf ≤ 3
  · rw [decide_eq_true hl, Bool.true_and]
    refine Ev.pos rfl ?_
    by_cases ha : a.length = 10
    · rw [decide_eq_true ha, Bool.true_and]
      refine Ev.pos (by omega) ?_
      by_cases hb : b.length = 2
      · rw [decide_eq_true hb, Bool.true_and, show ((b.length : Int) != 2) = false by rw [bne_eq_false_iff_eq]; omega]
        refine Ev.step (f := fun k => spec_SigOk.l0 k 0 leaf a b) (fun k => ?_) ?_
        · simp only [spec_SigOk.j0]
          rw [if_neg (by decide)]
        · have tail : Ev (fun k => spec_SigOk.l1 k 0 leaf a b) (b.all four) := by
            refine Ev.upTo (g := fun i k => spec_SigOk.l1 k (i : Int) leaf a b) (r := fun i => (b.drop i).all four) b.length ?_ ?_ 0 (by omega)
            · intro i hi h
              simp only [drop_all four b i hi]
              by_cases h4 : b[i].size = 4
              · rw [show four b[i] = true from decide_eq_true h4, Bool.true_and]
                refine Ev.step (fun k => ?_) h
                simp only [spec_SigOk.l1]
                rw [if_pos (by omega), if_pos (by omega), rdOf_get _ b i hi, if_pos (by omega), w64s i (by omega)]
              · rw [show four b[i] = false from decide_eq_false h4, Bool.false_and]
                refine Ev.step (f := fun _ => some false) (fun k => ?_) (Ev.now _)
                simp only [spec_SigOk.l1]
                rw [if_pos (by omega), if_pos (by omega), rdOf_get _ b i hi, if_neg (by omega)]
            · refine Ev.step (f := fun _ => some ((b.drop b.length).all four)) (fun k => ?_) (Ev.now _)
              simp only [spec_SigOk.l1]
              rw [if_neg (by omega)]
              simp
          refine Ev.upTo (g := fun i k => spec_SigOk.l0 k (i : Int) leaf a b) (r := fun i => (a.drop i).all four && b.all four) a.length ?_ ?_ 0 (by omega)
          · intro i hi h
            simp only [drop_all four a i hi]
            by_cases h4 : a[i].size = 4
            · rw [show four a[i] = true from decide_eq_true h4, Bool.true_and]
              refine Ev.step (fun k => ?_) h
              simp only [spec_SigOk.l0]
              rw [if_pos (by omega), if_pos (by omega), rdOf_get _ a i hi, if_pos (by omega), w64s i (by omega)]
            · rw [show four a[i] = false from decide_eq_false h4, Bool.false_and, Bool.false_and]
              refine Ev.step (f := fun _ => some false) (fun k => ?_) (Ev.now _)
              simp only [spec_SigOk.l0]
              rw [if_pos (by omega), if_pos (by omega), rdOf_get _ a i hi, if_neg (by omega)]
          · refine Ev.step (f := fun k => spec_SigOk.l1 k 0 leaf a b) (fun k => ?_) (by simpa using tail)
            simp only [spec_SigOk.l0]
            rw [if_neg (by omega)]
      · rw [decide_eq_false hb, Bool.false_and, Bool.and_false, show ((b.length : Int) != 2) = true by rw [bne_iff_ne]; omega]
        exact bad
    · rw [decide_eq_false ha, Bool.false_and]
      exact Ev.neg (by omega) bad
  · rw [decide_eq_false hl, Bool.false_and]
    exact Ev.neg (by decide) bad
theorem impl_allShort_ev (l : List ByteArray) (n : Nat) (hl : l.length ≤ 35184372088832) : Ev (fun k => impl_allShort.f k l (n : Int)) (decide (l.length = n) && l.all four) := by
  unfold impl_allShort.f
  refine Ev.upTo (g := fun i k => impl_allShort.l0 k l (n : Int) l (l.length : Int) (i : Int)) (r := fun i => decide (l.length = n) && (l.drop i).all four) l.length ?_ ?_ 0 (by omega)
  · intro i hi h
    simp only [drop_all four l i hi]
    by_cases h4 : l[i].size = 4
    · rw [show four l[i] = true from decide_eq_true h4, Bool.true_and]
      refine Ev.step (fun k => ?_) h
      simp only [impl_allShort.l0]
      rw [if_pos (by omega), if_pos (by omega), if_pos (by omega), rdOf_get _ l i hi, if_pos (by omega), w64s i (by omega)]
    · rw [show four l[i] = false from decide_eq_false h4, Bool.false_and, Bool.and_false]
      refine Ev.step (f := fun _ => some false) (fun k => ?_) (Ev.now _)
      simp only [impl_allShort.l0]
      rw [if_pos (by omega), if_pos (by omega), if_pos (by omega), rdOf_get _ l i hi, if_neg (by omega)]
  · refine Ev.step (f := fun _ => some (decide (l.length = n) && (l.drop l.length).all four)) (fun k => ?_) (Ev.now _)
    simp only [impl_allShort.l0]
    rw [if_neg (by omega)]
    by_cases h : l.length = n
    · rw [decide_eq_true h, show ((l.length : Int) == (n : Int)) = true by rw [beq_iff_eq]; omega]; simp
    · rw [decide_eq_false h, show ((l.length : Int) == (n : Int)) = false by rw [beq_eq_false_iff_ne]; omega]; rfl
theorem impl_SigOk_ev (leaf : Int) (a b : List ByteArray) (hla : a.length ≤ 35184372088832) (hlb : b.length ≤ 35184372088832) : Ev (fun k => impl_SigOk.f k leaf a b) (sigOk leaf a b) := by
  unfold impl_SigOk.f sigOk
  simp only [in_eq, Option.bind_some]
  by_cases hl : 0 ≤ leaf ∧ leaf ≤ 3
  · rw [decide_eq_true hl, Bool.true_and, ← Bool.and_assoc]
    refine Ev.pos rfl (Ev.bind (impl_allShort_ev a 10 hla) ?_)
    cases ha : (decide (a.length = 10) && a.all four) with
    | true => rw [Bool.true_and]; exact Ev.pos rfl (Ev.bind (impl_allShort_ev b 2 hlb) (Ev.now _))
    | false => rw [Bool.false_and]; exact Ev.neg (by decide) (Ev.now _)
  · rw [decide_eq_false hl, Bool.false_and]
    exact Ev.neg (by decide) (Ev.now _)

/-- Texts, one behind the other. -/
def catL (t : ByteArray) (l : List ByteArray) : ByteArray := l.foldl (· ++ ·) t
theorem catL_snoc (t : ByteArray) (l : List ByteArray) (i : Nat) (h : i < l.length) : catL t (l.take i) ++ l[i] = catL t (l.take (i + 1)) := by
  unfold catL
  rw [← List.take_append_getElem h, List.foldl_append]
  rfl
theorem catL_size (t : ByteArray) (l : List ByteArray) (n : Nat) (h : ∀ s ∈ l, s.size = n) : (catL t l).size = t.size + n * l.length := by
  unfold catL
  induction l generalizing t with
  | nil => simp
  | cons a l ih =>
    rw [List.foldl_cons, ih _ fun s hs => h s (List.mem_cons_of_mem _ hs), ByteArray.size_append, h a (List.mem_cons_self ..), List.length_cons, Nat.mul_succ]
    omega
def byteV (n : Int) : ByteArray := strOfNums [n % 256]
theorem byteV_size (n : Int) : (byteV n).size = 1 := by simp [byteV, strOfNums_size]
theorem impl_oneByte_eq (n : Int) : impl_oneByte.f n = some (byteV n) := rfl
theorem spec_l06Byte_eq (n : Int) (h1 : -9223372036854775808 ≤ n) (h2 : n ≤ 9223372036854775807) : spec_l06Byte.f n = some (byteV n) := by
  unfold spec_l06Byte.f byteV
  by_cases h : 0 ≤ n
  · rw [Int.tmod_eq_emod_of_nonneg h, if_neg (by omega), show n % 256 % 256 = n % 256 by omega]
  · have e : Int.tmod n 256 = -((-n) % 256) := by
      have := Int.neg_tmod (-n) 256
      rw [Int.neg_neg] at this
      rw [this, Int.tmod_eq_emod_of_nonneg (by omega)]
    rw [e]
    by_cases h0 : -((-n) % 256) < 0
    · rw [if_pos h0, w64 (by omega) (by omega), show (-((-n) % 256) + 256) % 256 = n % 256 by omega]
    · rw [if_neg h0, show -((-n) % 256) % 256 = n % 256 by omega]
def sigTextR (leaf : Int) (a b : List ByteArray) : ByteArray × Bool := if sigOk leaf a b = true then (catL (catL (byteV leaf) a) b, true) else (⟨#[]⟩, false)
theorem take_size (t : ByteArray) (l : List ByteArray) (n i : Nat) (h : ∀ s ∈ l, s.size = n) (hi : i ≤ l.length) : (catL t (l.take i)).size = t.size + n * i := by
  rw [catL_size t (l.take i) n fun s hs => h s (List.mem_of_mem_take hs), List.length_take, Nat.min_eq_left hi]
theorem spec_SigText_ev (leaf : Int) (a b : List ByteArray) (h1 : -9223372036854775808 ≤ leaf) (h2 : leaf ≤ 9223372036854775807) : Ev (fun k => spec_SigText.f k leaf a b) (sigTextR leaf a b) := by
  unfold spec_SigText.f sigTextR
  refine Ev.bind (spec_SigOk_ev leaf a b) ?_
  by_cases h : sigOk leaf a b = true
  · obtain ⟨_, ha, ha4, hb, hb4⟩ := sigOk_all h
    rw [if_pos h]
    refine Ev.pos h (Ev.then (spec_l06Byte_eq leaf h1 h2) ?_)
    have tail : Ev (fun k => spec_SigText.l1 k (catL (byteV leaf) a) 0 leaf a b) (catL (catL (byteV leaf) a) b, true) := by
      refine Ev.up (g := fun i k => spec_SigText.l1 k (catL (catL (byteV leaf) a) (b.take i)) (i : Int) leaf a b) b.length ?_ ?_ 0 (by omega)
      · intro i hi h'
        refine Ev.step (fun k => ?_) h'
        have e1 := take_size (catL (byteV leaf) a) b 4 i hb4 (by omega)
        have e2 := catL_size (byteV leaf) a 4 ha4
        have e3 := byteV_size leaf
        have e4 := hb4 b[i] (List.getElem_mem hi)
        simp only [spec_SigText.l1]
        rw [if_pos (by omega), if_pos (by omega), if_pos (by omega), rdOf_get _ b i hi, if_pos (by omega), catL_snoc _ b i hi, w64s i (by omega)]
      · refine Ev.step (f := fun _ => some (catL (catL (byteV leaf) a) b, true)) (fun k => ?_) (Ev.now _)
        simp only [spec_SigText.l1]
        rw [if_neg (by omega), List.take_of_length_le (by omega)]
    refine Ev.up (g := fun i k => spec_SigText.l0 k (catL (byteV leaf) (a.take i)) (i : Int) leaf a b) a.length ?_ ?_ 0 (by omega)
    · intro i hi h'
      refine Ev.step (fun k => ?_) h'
      have e1 := take_size (byteV leaf) a 4 i ha4 (by omega)
      have e3 := byteV_size leaf
      have e4 := ha4 a[i] (List.getElem_mem hi)
      simp only [spec_SigText.l0]
      rw [if_pos (by omega), if_pos (by omega), if_pos (by omega), rdOf_get _ a i hi, if_pos (by omega), catL_snoc _ a i hi, w64s i (by omega)]
    · refine Ev.step (fun k => ?_) tail
      simp only [spec_SigText.l0]
      rw [if_neg (by omega), List.take_of_length_le (by omega)]
  · rw [if_neg h]
    exact Ev.neg h (Ev.now _)
theorem impl_SigText_ev (leaf : Int) (a b : List ByteArray) (hla : a.length ≤ 35184372088832) (hlb : b.length ≤ 35184372088832) : Ev (fun k => impl_SigText.f k leaf a b) (sigTextR leaf a b) := by
  unfold impl_SigText.f sigTextR
  refine Ev.bind (impl_SigOk_ev leaf a b hla hlb) ?_
  by_cases h : sigOk leaf a b = true
  · obtain ⟨_, ha, ha4, hb, hb4⟩ := sigOk_all h
    rw [if_pos h]
    refine Ev.pos h (Ev.then (impl_oneByte_eq leaf) ?_)
    have tail : Ev (fun k => impl_SigText.l1 k (catL (byteV leaf) a) b (b.length : Int) 0) (catL (catL (byteV leaf) a) b, true) := by
      refine Ev.up (g := fun i k => impl_SigText.l1 k (catL (catL (byteV leaf) a) (b.take i)) b (b.length : Int) (i : Int)) b.length ?_ ?_ 0 (by omega)
      · intro i hi h'
        refine Ev.step (fun k => ?_) h'
        have e1 := take_size (catL (byteV leaf) a) b 4 i hb4 (by omega)
        have e2 := catL_size (byteV leaf) a 4 ha4
        have e3 := byteV_size leaf
        have e4 := hb4 b[i] (List.getElem_mem hi)
        simp only [impl_SigText.l1]
        rw [if_pos (by omega), if_pos (by omega), if_pos (by omega), rdOf_get _ b i hi, if_pos (by omega), catL_snoc _ b i hi, w64s i (by omega)]
      · refine Ev.step (f := fun _ => some (catL (catL (byteV leaf) a) b, true)) (fun k => ?_) (Ev.now _)
        simp only [impl_SigText.l1]
        rw [if_neg (by omega), List.take_of_length_le (by omega)]
    refine Ev.up (g := fun i k => impl_SigText.l0 k (catL (byteV leaf) (a.take i)) a (a.length : Int) (i : Int) leaf a b) a.length ?_ ?_ 0 (by omega)
    · intro i hi h'
      refine Ev.step (fun k => ?_) h'
      have e1 := take_size (byteV leaf) a 4 i ha4 (by omega)
      have e3 := byteV_size leaf
      have e4 := ha4 a[i] (List.getElem_mem hi)
      simp only [impl_SigText.l0]
      rw [if_pos (by omega), if_pos (by omega), if_pos (by omega), rdOf_get _ a i hi, if_pos (by omega), catL_snoc _ a i hi, w64s i (by omega)]
    · refine Ev.step (fun k => ?_) tail
      simp only [impl_SigText.l0]
      rw [if_neg (by omega), List.take_of_length_le (by omega)]
  · rw [if_neg h]
    exact Ev.neg h (Ev.now _)
end Go.Proofs.Ytcpgpjggnghpdaa.Pure
