/- The law on paths: a path of a drawn tree, with its leaf, makes the root. -/
import Derived.Test.YtoeagdpddggliaaDoorMZH
import Derived.Test.YtoeagdpddggliaaDoorMJ
import Derived.Test.YtoeagdpddggliaaDoorMJ2
import Derived.Test.YtoeagdpddggliaaDoorPx8
import Derived.Test.YtoeagdpddggliaaDoorPx9
import Derived.Test.YtoeagdpddggliaaDoorPx17
import Derived.Test.YtoeagdpddggliaaDoorPx27
import Derived.Test.YtoeagdpddggliaaDoorPx29
import Derived.Test.YtoeagdpddggliaaDoorPx30
import Derived.Test.YtoeagdpddggliaaDoorPx31
import Derived.Test.YtoeagdpddggliaaDoorPx35
import Derived.Test.YtoeagdpddggliaaDoorPx38
import Derived.Test.YtoeagdpddggliaaDoorPx39
namespace Go.Proofs.YtoeagdpddggliaaDoor.Pure
set_option linter.unusedVariables false
open Go.RowKit Go.Proofs.YtoeagdpddggliaaDoorW.PrintWords Go.Proofs.YtoeagdpddggliaaDoorW.PrintLast Go.Proofs.YtoeagdpddggliaaDoorW.PrintMore Go.Proofs.YtoeagdpddggliaaDoor.P

def nodeV (lv i : Int) (s t : ByteArray) : ByteArray := (impl_Node.f lv i s t).getD ⟨#[]⟩
theorem nodeV_eq (lv i : Int) (s t : ByteArray) (hs : s.size ≤ 400000000) (ht : t.size ≤ 400000000) : impl_Node.f lv i s t = some (nodeV lv i s t) ∧ (nodeV lv i s t).size = 4 := by
  obtain ⟨d, d4, _, h⟩ := node_same lv i s t hs ht
  unfold nodeV
  rw [h]
  exact ⟨rfl, d4⟩
theorem ev_uniq {α : Type} {f : Nat → Option α} {a b : α} (h : Ev f a) (k : Ev f b) : a = b := by
  obtain ⟨K, h⟩ := h
  obtain ⟨L, k⟩ := k
  have h1 := h (max K L) (Nat.le_max_left _ _)
  have h2 := k (max K L) (Nat.le_max_right _ _)
  exact Option.some.inj (h1.symm.trans h2)
theorem level_four (lv : Int) (a b c d : ByteArray) (ha : a.size ≤ 1048576) (hb : b.size ≤ 1048576) (hc : c.size ≤ 1048576) (hd : d.size ≤ 1048576) : Ev (fun k => impl_LevelUp.f k lv [a, b, c, d]) [nodeV lv 0 a b, nodeV lv 1 c d] := by
  have n1 := (nodeV_eq lv 0 a b (by omega) (by omega)).1
  have n2 := (nodeV_eq lv 1 c d (by omega) (by omega)).1
  have e1 : wrap64 (0 + 1) = 1 := w64 (by decide) (by decide)
  have e2 : wrap64 (0 + 2) = 2 := w64 (by decide) (by decide)
  have e3 : wrap64 (2 + 1) = 3 := w64 (by decide) (by decide)
  have e4 : wrap64 (2 + 2) = 4 := w64 (by decide) (by decide)
  have e5 : wrap64 (4 + 1) = 5 := w64 (by decide) (by decide)
  have d0 : wrap64 (Int.tdiv 0 2) = 0 := by rw [show Int.tdiv 0 2 = 0 by decide]; exact w64 (by decide) (by decide)
  have d2 : wrap64 (Int.tdiv 2 2) = 1 := by rw [show Int.tdiv 2 2 = 1 by decide]; exact w64 (by decide) (by decide)
  unfold impl_LevelUp.f
  refine Ev.step (f := fun k => impl_LevelUp.l0 k lv [a, b, c, d] [nodeV lv 0 a b] 2) (fun k => ?_) ?_
  · simp only [impl_LevelUp.l0]
    rw [e1, e2, d0, if_pos (by simp), if_pos (by decide), if_pos (by simp), if_pos (by decide), show rdOf ByteArray.empty [a, b, c, d] 0 = a from rfl, show rdOf ByteArray.empty [a, b, c, d] 1 = b from rfl, n1]
    simp
  refine Ev.step (f := fun k => impl_LevelUp.l0 k lv [a, b, c, d] [nodeV lv 0 a b, nodeV lv 1 c d] 4) (fun k => ?_) ?_
  · simp only [impl_LevelUp.l0]
    rw [e3, e4, d2, if_pos (by simp), if_pos (by decide), if_pos (by simp), if_pos (by decide), show rdOf ByteArray.empty [a, b, c, d] 2 = c from rfl, show rdOf ByteArray.empty [a, b, c, d] 3 = d from rfl, n2]
    simp
  refine Ev.step (f := fun _ => some _) (fun k => ?_) (Ev.now _)
  simp only [impl_LevelUp.l0]
  rw [e5, if_neg (by simp)]
theorem level_two (lv : Int) (a b : ByteArray) (ha : a.size ≤ 1048576) (hb : b.size ≤ 1048576) : Ev (fun k => impl_LevelUp.f k lv [a, b]) [nodeV lv 0 a b] := by
  have n1 := (nodeV_eq lv 0 a b (by omega) (by omega)).1
  have e1 : wrap64 (0 + 1) = 1 := w64 (by decide) (by decide)
  have e2 : wrap64 (0 + 2) = 2 := w64 (by decide) (by decide)
  have e3 : wrap64 (2 + 1) = 3 := w64 (by decide) (by decide)
  have d0 : wrap64 (Int.tdiv 0 2) = 0 := by rw [show Int.tdiv 0 2 = 0 by decide]; exact w64 (by decide) (by decide)
  unfold impl_LevelUp.f
  refine Ev.step (f := fun k => impl_LevelUp.l0 k lv [a, b] [nodeV lv 0 a b] 2) (fun k => ?_) ?_
  · simp only [impl_LevelUp.l0]
    rw [e1, e2, d0, if_pos (by simp), if_pos (by decide), if_pos (by simp), if_pos (by decide), show rdOf ByteArray.empty [a, b] 0 = a from rfl, show rdOf ByteArray.empty [a, b] 1 = b from rfl, n1]
    simp
  refine Ev.step (f := fun _ => some _) (fun k => ?_) (Ev.now _)
  simp only [impl_LevelUp.l0]
  rw [e3, if_neg (by simp)]
def rb (p : Nat) (lv : Int) (x s : ByteArray) : ByteArray := if p % 2 = 0 then nodeV lv ((p / 2 : Nat) : Int) x s else nodeV lv ((p / 2 : Nat) : Int) s x
theorem rb_size (p : Nat) (lv : Int) (x s : ByteArray) (hx : x.size ≤ 1048576) (hs : s.size ≤ 1048576) : (rb p lv x s).size = 4 := by
  unfold rb
  split
  · exact (nodeV_eq lv _ x s (by omega) (by omega)).2
  · exact (nodeV_eq lv _ s x (by omega) (by omega)).2
theorem rb_step (l : List ByteArray) (hl : l.length = 2) (i p : Nat) (hi : i < 2) (hp : p ≤ 3) (x s R : ByteArray) (hx : x.size ≤ 1048576) (hs : s.size ≤ 1048576) (hr : rdOf ByteArray.empty l (i : Int) = s) (h : Ev (fun k => impl_RootBy.l0 k (rb p ((i + 1 : Nat) : Int) x s) ((p / 2 : Nat) : Int) l ((2 : Nat) : Int) ((i + 1 : Nat) : Int)) R) :
    Ev (fun k => impl_RootBy.l0 k x (p : Int) l ((2 : Nat) : Int) (i : Int)) R := by
  have e1 : wrap64 (Int.tdiv (p : Int) 2) = ((p / 2 : Nat) : Int) := by rw [Int.tdiv_eq_ediv_of_nonneg (by omega), w64 (by omega) (by omega)]; omega
  have e2 : Int.tmod (p : Int) 2 = ((p % 2 : Nat) : Int) := by rw [Int.tmod_eq_emod_of_nonneg (by omega)]; omega
  refine Ev.step (fun k => ?_) h
  simp only [impl_RootBy.l0]
  rw [e1, e2, w64s i (by omega), hr, if_pos (by omega), if_pos (by omega), if_pos (by omega)]
  unfold rb
  by_cases hb : p % 2 = 0
  · rw [if_pos (by omega), if_pos hb, (nodeV_eq _ _ x s (by omega) (by omega)).1]
    rfl
  · rw [if_neg (by omega), if_neg hb, (nodeV_eq _ _ s x (by omega) (by omega)).1]
    rfl
theorem rootBy_val (x s q : ByteArray) (p : Nat) (hp : p ≤ 3) (hx : x.size ≤ 1048576) (hs : s.size ≤ 1048576) (hq : q.size ≤ 1048576) : Ev (fun k => impl_RootBy.f k x (p : Int) [s, q]) (rb (p / 2) 2 (rb p 1 x s) q) := by
  unfold impl_RootBy.f
  refine Ev.pos (by simp) (Ev.then (impl_in_eq _ _ _) ?_)
  rw [decide_eq_true (by omega)]
  refine Ev.step (f := fun k => impl_RootBy.l0 k x (p : Int) [s, q] ((2 : Nat) : Int) ((0 : Nat) : Int)) (fun k => by simp only [impl_RootBy.j0]; rw [if_neg (by decide)]; rfl) ?_
  refine rb_step [s, q] rfl 0 p (by decide) hp x s _ hx hs rfl ?_
  refine rb_step [s, q] rfl 1 (p / 2) (by decide) (by omega) _ q _ (by rw [rb_size p _ x s hx hs]; decide) hq rfl ?_
  exact Ev.step (f := fun _ => some _) (fun k => by simp only [impl_RootBy.l0]; rw [if_neg (by decide)]; rfl) (Ev.now _)
theorem root_four (a b c d : ByteArray) (ha : a.size ≤ 1048576) (hb : b.size ≤ 1048576) (hc : c.size ≤ 1048576) (hd : d.size ≤ 1048576) : Ev (fun k => impl_RootOf.f k [a, b, c, d]) (nodeV 2 0 (nodeV 1 0 a b) (nodeV 1 1 c d)) := by
  have s1 := (nodeV_eq 1 0 a b (by omega) (by omega)).2
  have s2 := (nodeV_eq 1 1 c d (by omega) (by omega)).2
  have e1 : wrap64 (1 + 1) = 2 := w64 (by decide) (by decide)
  have e2 : wrap64 (2 + 1) = 3 := w64 (by decide) (by decide)
  unfold impl_RootOf.f
  refine Ev.pos (by simp) ?_
  refine Ev.step (f := fun k => (impl_LevelUp.f k 1 [a, b, c, d]).bind fun t => impl_RootOf.l0 k t 2) (fun k => by simp only [impl_RootOf.l0]; rw [if_pos (by simp), e1]) (Ev.bind (level_four 1 a b c d ha hb hc hd) ?_)
  refine Ev.step (f := fun k => (impl_LevelUp.f k 2 [nodeV 1 0 a b, nodeV 1 1 c d]).bind fun t => impl_RootOf.l0 k t 3) (fun k => by simp only [impl_RootOf.l0]; rw [if_pos (by simp), e2]) (Ev.bind (level_two 2 _ _ (by omega) (by omega)) ?_)
  exact Ev.step (f := fun _ => some _) (fun k => by simp only [impl_RootOf.l0]; rw [if_neg (by simp), if_pos (by simp)]; rfl) (Ev.now _)
theorem path_four (a b c d : ByteArray) (ha : a.size ≤ 1048576) (hb : b.size ≤ 1048576) (hc : c.size ≤ 1048576) (hd : d.size ≤ 1048576) (p : Nat) (hp : p ≤ 3) :
    Ev (fun k => impl_PathOf.f k [a, b, c, d] (p : Int)) [rdOf ByteArray.empty [a, b, c, d] ((sib p : Nat) : Int), rdOf ByteArray.empty [nodeV 1 0 a b, nodeV 1 1 c d] ((sib (p / 2) : Nat) : Int)] := by
  have s1 := (nodeV_eq 1 0 a b (by omega) (by omega)).2
  have s2 := (nodeV_eq 1 1 c d (by omega) (by omega)).2
  unfold impl_PathOf.f
  refine Ev.pos (by simp) (Ev.then (impl_in_eq _ _ _) ?_)
  rw [decide_eq_true (by omega)]
  refine Ev.step (f := fun k => impl_PathOf.l0 k [a, b, c, d] (p : Int) [] 1) (fun k => by simp only [impl_PathOf.j0]; rw [if_neg (by decide)]) ?_
  refine path_impl 1 (by decide) _ _ p 2 [] _ rfl (by decide) (by decide) (by omega) (by simp) (level_four 1 a b c d ha hb hc hd) ?_
  refine path_impl 2 (by decide) _ _ (p / 2) 1 _ _ rfl (by decide) (by decide) (by omega) (by simp) (level_two 2 _ _ (by omega) (by omega)) ?_
  exact Ev.step (f := fun _ => some _) (fun k => by simp only [impl_PathOf.l0]; rw [if_neg (by simp)]; rfl) (Ev.now _)
theorem leaves_some (l : List Int) (n : Int) (hn : n ≤ 7) : ∀ (m : Nat) (acc : List ByteArray) (i h : Int), Cur l i → (acc.length : Int) + m = max n acc.length → acc.length ≤ 7 → (∀ s ∈ acc, s.size ≤ 5) →
    ∃ L i' h', L.length ≤ 7 ∧ (∀ s ∈ L, s.size ≤ 5) ∧ Ev (fun k => spec_l15Leaves.l0 k acc n (acc.length : Int) l i h) (L, i', h')
  | 0, acc, i, h, hc, hm, h7, h5 => ⟨acc, i, h, h7, h5, Ev.step (f := fun _ => some (acc, i, h)) (fun k => by simp only [spec_l15Leaves.l0]; rw [if_neg (by omega)]) (Ev.now _)⟩
  | m + 1, acc, i, h, hc, hm, h7, h5 => by
    have hlt : (acc.length : Int) < n := by omega
    obtain ⟨x, i1, h1, e1, x0, x1, c1⟩ := below_some l i h 5 hc (by decide)
    obtain ⟨t, i2, h2, e2, ts, c2⟩ := text_some l i1 h1 x c1 (by omega)
    obtain ⟨L, i', h', L7, L5, e3⟩ := leaves_some l n hn m (acc ++ [t]) i2 h2 c2 (by simp; omega) (by simp; omega) (by
      intro s hs
      rcases List.mem_append.mp hs with h | h
      · exact h5 s h
      · simp at h; subst h; omega)
    refine ⟨L, i', h', L7, L5, ?_⟩
    refine Ev.step (f := fun k => (spec_l01Text.f k l i1 h1 x).bind fun bt => if acc.length < 8796093022208 then spec_l15Leaves.l0 k (acc ++ [bt.1]) n (wrap64 ((acc.length : Int) + 1)) l bt.2.1 bt.2.2 else none) (fun k => ?_) (Ev.bind e2 (Ev.pos (by omega) ?_))
    · simp only [spec_l15Leaves.l0]
      rw [if_pos hlt, e1]
      rfl
    · rw [w64s acc.length (by omega)]
      have hlen : ((acc ++ [t]).length : Int) = ((acc.length + 1 : Nat) : Int) := by simp
      rw [hlen] at e3
      exact e3
theorem drawRoot_some (l : List Int) (hl : l.length ≤ 1048576) : ∃ L, L.length ≤ 7 ∧ (∀ s ∈ L, s.size ≤ 5) ∧ Ev (fun k => spec_DrawRootOf.f k l) L := by
  obtain ⟨h, e0, c0⟩ := new_some l hl
  obtain ⟨b, i1, h1, e1, c1⟩ := once_some l 0 h 10 c0 (by decide)
  unfold spec_DrawRootOf.f
  cases b with
  | true =>
    obtain ⟨n, i2, h2, e2, n0, n1, c2⟩ := below_some l i1 h1 7 c1 (by decide)
    obtain ⟨L, i', h', L7, L5, e3⟩ := leaves_some l n (by omega) n.toNat [] i2 h2 c2 (by simp) (by simp) (by simp)
    refine ⟨L, L7, L5, Ev.bind e0 (Ev.bind (a := (L, i', h')) ?_ (Ev.now _))⟩
    show Ev (fun k => spec_l15Leaves.f k l 0 h) (L, i', h')
    unfold spec_l15Leaves.f
    refine Ev.then rfl (Ev.then e1 (Ev.pos rfl (Ev.then e2 ?_)))
    exact Ev.step (fun k => by simp only [spec_l15Leaves.j0]; rfl) e3
  | false =>
    obtain ⟨L, i', h', L7, L5, e3⟩ := leaves_some l 4 (by omega) 4 [] i1 h1 c1 (by simp; omega) (by simp) (by simp)
    refine ⟨L, L7, L5, Ev.bind e0 (Ev.bind (a := (L, i', h')) ?_ (Ev.now _))⟩
    show Ev (fun k => spec_l15Leaves.f k l 0 h) (L, i', h')
    unfold spec_l15Leaves.f
    refine Ev.then rfl (Ev.then e1 (Ev.neg (by simp) ?_))
    exact Ev.step (fun k => by simp only [spec_l15Leaves.j0]; rfl) e3
theorem paths_step (a b c d R : ByteArray) (ha : a.size ≤ 1048576) (hb : b.size ≤ 1048576) (hc : c.size ≤ 1048576) (hd : d.size ≤ 1048576) (p : Nat) (hp : p ≤ 3)
    (hR : rb (p / 2) 2 (rb p 1 (rdOf ByteArray.empty [a, b, c, d] (p : Int)) (rdOf ByteArray.empty [a, b, c, d] ((sib p : Nat) : Int))) (rdOf ByteArray.empty [nodeV 1 0 a b, nodeV 1 1 c d] ((sib (p / 2) : Nat) : Int)) = R)
    (h : Ev (fun k => laws_FnPaths.l0 k [a, b, c, d] R ((p + 1 : Nat) : Int)) true) : Ev (fun k => laws_FnPaths.l0 k [a, b, c, d] R (p : Int)) true := by
  have s1 := (nodeV_eq 1 0 a b (by omega) (by omega)).2
  have s2 := (nodeV_eq 1 1 c d (by omega) (by omega)).2
  have in4 : ∀ i : Nat, i < 4 → (rdOf ByteArray.empty [a, b, c, d] (i : Int)).size ≤ 1048576 := by
    intro i hi
    match i, hi with
    | 0, _ => exact ha
    | 1, _ => exact hb
    | 2, _ => exact hc
    | 3, _ => exact hd
  have in2 : ∀ i : Nat, i < 2 → (rdOf ByteArray.empty [nodeV 1 0 a b, nodeV 1 1 c d] (i : Int)).size ≤ 1048576 := by
    intro i hi
    match i, hi with
    | 0, _ => show (nodeV 1 0 a b).size ≤ _; omega
    | 1, _ => show (nodeV 1 1 c d).size ≤ _; omega
  have f1 := path_four a b c d ha hb hc hd p hp
  have f2 := rootBy_val (rdOf ByteArray.empty [a, b, c, d] (p : Int)) _ _ p hp (in4 p (by omega)) (in4 _ (sib_lt p 2 (by omega))) (in2 _ (sib_lt (p / 2) 1 (by omega)))
  rw [hR] at f2
  refine Ev.step (f := fun k => (impl_PathOf.f k [a, b, c, d] (p : Int)).bind fun t => if (t.length : Int) = 2 then (if 0 ≤ (p : Int) then (if (p : Int) < (([a, b, c, d] : List ByteArray).length : Int) then ((impl_RootBy.f k (rdOf ByteArray.empty [a, b, c, d] (p : Int)) (p : Int) t).bind fun t687 => (if t687.toList = R.toList then (laws_FnPaths.l0 k [a, b, c, d] R (wrap64 ((p : Int) + 1))) else (some false))) else (none)) else (none)) else (some false)) (fun k => by simp only [laws_FnPaths.l0]; rw [if_pos (by omega)]) ?_
  refine Ev.bind f1 (Ev.pos (by simp) (Ev.pos (by omega) (Ev.pos (by simp; omega) (Ev.bind f2 (Ev.pos rfl ?_)))))
  rw [w64s p (by omega)]
  exact h
theorem FnPaths : laws_FnPaths.Pure := by
  intro l _ _ _
  refine Ev.rounds ?_
  unfold laws_FnPaths.f
  by_cases hb : (l.length : Int) > 1048576
  · exact Ev.then (a := true) (by unfold laws_big.f; rw [decide_eq_true hb]) (Ev.pos rfl (Ev.now _))
  refine Ev.then (a := false) (by unfold laws_big.f; rw [decide_eq_false hb]) (Ev.neg (by decide) ?_)
  obtain ⟨L, L7, L5, e1⟩ := drawRoot_some l (by omega)
  refine Ev.bind e1 ?_
  by_cases h4 : L.length = 4
  · match L, h4, L5 with
    | [a, b, c, d], _, L5 =>
      have ha : a.size ≤ 5 := L5 a (by simp)
      have hb' : b.size ≤ 5 := L5 b (by simp)
      have hc : c.size ≤ 5 := L5 c (by simp)
      have hd : d.size ≤ 5 := L5 d (by simp)
      have s1 := (nodeV_eq 1 0 a b (by omega) (by omega)).2
      have s2 := (nodeV_eq 1 1 c d (by omega) (by omega)).2
      have f1 := root_four a b c d (by omega) (by omega) (by omega) (by omega)
      obtain ⟨w, _, _, g1, g2⟩ := rootOf_same [a, b, c, d] (fun s hs => by have := L5 s hs; omega)
      have hw := ev_uniq g2 f1
      refine Ev.bind f1 (Ev.pos (by simp) ?_)
      refine paths_step a b c d _ (by omega) (by omega) (by omega) (by omega) 0 (by decide) rfl ?_
      refine paths_step a b c d _ (by omega) (by omega) (by omega) (by omega) 1 (by decide) rfl ?_
      refine paths_step a b c d _ (by omega) (by omega) (by omega) (by omega) 2 (by decide) rfl ?_
      refine paths_step a b c d _ (by omega) (by omega) (by omega) (by omega) 3 (by decide) rfl ?_
      have lf := level_four 1 a b c d (by omega) (by omega) (by omega) (by omega)
      have nd := (nodeV_eq 1 0 a b (by omega) (by omega)).1
      refine Ev.step (f := fun k => (impl_LevelUp.f k 1 [a, b, c, d]).bind fun t675 => (if (t675.length : Int) = 2 then (if 0 < (t675.length : Int) then (if 0 < (([a, b, c, d] : List ByteArray).length : Int) then (if 1 < (([a, b, c, d] : List ByteArray).length : Int) then ((impl_Node.f 1 0 a b).bind fun t681 => (if (rdOf ByteArray.empty t675 0).toList = t681.toList then ((spec_RootOf.f k [a, b, c, d]).bind fun t682 => (some ((nodeV 2 0 (nodeV 1 0 a b) (nodeV 1 1 c d)).toList == t682.toList))) else (some false))) else (none)) else (none)) else (none)) else (some false))) (fun k => by simp only [laws_FnPaths.l0]; rw [if_neg (by decide)]; rfl) ?_
      refine Ev.bind lf (Ev.pos (by simp) (Ev.pos (by simp) (Ev.pos (by simp) (Ev.pos (by simp) (Ev.then nd (Ev.pos rfl (Ev.bind g1 ?_)))))))
      rw [hw]
      simp only [beq_self_eq_true]
      exact Ev.now _
  · have r1 : Ev (fun k => impl_RootOf.f k L) (⟨#[]⟩ : ByteArray) := by
      unfold impl_RootOf.f
      exact Ev.neg (by omega) (Ev.now _)
    have r2 : Ev (fun k => impl_PathOf.f k L 0) [] := by
      unfold impl_PathOf.f
      exact Ev.neg (by omega) (Ev.step (f := fun _ => some []) (fun k => by simp only [impl_PathOf.j0]; rw [if_pos trivial]) (Ev.now _))
    have r3 : Ev (fun k => impl_RootBy.f k (⟨#[120]⟩ : ByteArray) 0 (([] : List ByteArray))) (⟨#[]⟩ : ByteArray) := by
      unfold impl_RootBy.f
      exact Ev.neg (by simp) (Ev.step (f := fun _ => some (⟨#[]⟩ : ByteArray)) (fun k => by simp only [impl_RootBy.j0]; rw [if_pos trivial]) (Ev.now _))
    have he : (⟨#[]⟩ : ByteArray).toList = ([] : List UInt8) := by simp
    refine Ev.bind r1 (Ev.neg (by omega) (Ev.pos he (Ev.bind r2 (Ev.pos rfl (Ev.bind r3 ?_)))))
    rw [he]
    exact Ev.now _
end Go.Proofs.YtoeagdpddggliaaDoor.Pure
