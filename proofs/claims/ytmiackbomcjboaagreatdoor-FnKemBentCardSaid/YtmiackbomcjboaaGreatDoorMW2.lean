/- Arrays of whole numbers that lie in a block of their own: what is read there, what a store leaves, a whole one loaded and stored. -/
import Derived.Test.YtmiackbomcjboaaGreatDoorV0
import Derived.Great.Ranges
import Derived.Deep.WholeRow
import Derived.StillTailTactics
namespace Go.Proofs.YtmiackbomcjboaaGreatDoor.Kit
open Go.RowKit YtmiackbomcjboaaGreatDoorW.PrintWords

def arrC (k : IntKind) (xs : List Int) : Array Value := (xs.map (Value.int k)).toArray
theorem gw (k : IntKind) (xs : List Int) : (arrC k xs).size = xs.length := by simp [arrC]
theorem mb (k : IntKind) (xs : List Int) (i : Nat) (h : i < xs.length) : (arrC k xs)[i]? = some (.int k (xs.getD i 0)) := by
  simp [arrC, List.getElem?_eq_getElem h]
theorem rP (k : IntKind) (xs : List Int) : (arrC k xs).all (·.oneCell') = true := by
  rw [Array.all_eq_true_iff_forall_mem]
  intro v hv
  obtain ⟨x, _, rfl⟩ := List.mem_map.mp (by simpa [arrC] using hv)
  rfl
theorem rR (k : IntKind) (xs : List Int) (i : Nat) (v : Int) : (arrC k xs).setIfInBounds i (.int k v) = arrC k (xs.set i v) := by
  simp [arrC, List.map_set]
/-- Block g is an array of whole numbers, just these. -/
structure Arr (w : World) (g : Nat) (t : TypeId) (k : IntKind) (xs : List Int) : Prop where mk :: (o : w.heap[g]? = some (.cells (arrC k xs) t (0, 0)))
theorem Arr.cell {w : World} {g : Nat} {t : TypeId} {k : IntKind} {xs : List Int} (h : Arr w g t k xs) (i : Nat) (hi : i < xs.length) : w.cell? ⟨g, i, none⟩ = some (.int k (xs.getD i 0)) :=
  (cell_of_row w g i _ t _ h.o).trans (mb k xs i hi)
theorem Arr.frozen {w : World} {g : Nat} {t : TypeId} {k : IntKind} {xs : List Int} (h : Arr w g t k xs) (i : Nat) : w.frozen? ⟨g, i, none⟩ = false := frozen_of_row w g i _ t h.o
theorem Arr.lt {w : World} {g : Nat} {t : TypeId} {k : IntKind} {xs : List Int} (h : Arr w g t k xs) : g < w.heap.size := (Array.getElem?_eq_some_iff.1 h.o).1
theorem Arr.set {w : World} {g : Nat} {t : TypeId} {k : IntKind} {xs : List Int} (h : Arr w g t k xs) (i : Nat) (v : Int) : Arr (w.setCell ⟨g, i, none⟩ (.int k v)) g t k (xs.set i v) :=
  ⟨(heap_setCell_same w g i _ t _ h.o).trans (by rw [rR])⟩
theorem Arr.far {w : World} {g : Nat} {t : TypeId} {k : IntKind} {xs : List Int} (h : Arr w g t k xs) {p : Addr} (hp : g ≠ p.block) (u : Value) : Arr (w.setCell p u) g t k xs := ⟨(heap_setCell_other w p g u hp).trans h.o⟩
theorem Arr.alloc {w : World} {g : Nat} {t : TypeId} {k : IntKind} {xs : List Int} (h : Arr w g t k xs) (o : Obj) : Arr (w.alloc o) g t k xs := ⟨(Below.heap_alloc w o g h.lt).trans h.o⟩
theorem Arr.drew {w : World} {g : Nat} {t : TypeId} {k : IntKind} {xs : List Int} (h : Arr w g t k xs) : Arr w.drew g t k xs := ⟨h.o⟩
theorem Arr.drewN {w : World} {g : Nat} {t : TypeId} {k : IntKind} {xs : List Int} (h : Arr w g t k xs) (n : Nat) : Arr (w.drewN n) g t k xs := ⟨h.o⟩
theorem Arr.below {w w1 : World} {g : Nat} {t : TypeId} {k : IntKind} {xs : List Int} (h : Arr w g t k xs) (hb : Below w.heap.size w w1) : Arr w1 g t k xs := ⟨(hb.block g h.lt).trans h.o⟩
theorem Arr.new (w : World) (t : TypeId) (k : IntKind) (xs : List Int) : Arr (w.alloc (.cells (arrC k xs) t)) w.heap.size t k xs := ⟨Go.heap_alloc_new w _⟩
theorem Arr.row {w : World} {g : Nat} {t : TypeId} {k : IntKind} {xs : List Int} (h : Arr w g t k xs) (ys : List Int) : Arr (w.setRow g (arrC k ys)) g t k ys := ⟨setRow_heap w g _ _ t _ h.o⟩
theorem Arr.row_far {w : World} {g g' : Nat} {t : TypeId} {k : IntKind} {xs : List Int} (h : Arr w g t k xs) (hne : g ≠ g') (cs : Array Value) : Arr (w.setRow g' cs) g t k xs := ⟨(setRow_other w g' g cs hne).trans h.o⟩
theorem bZ {B : Nat} {w w1 : World} (h : Below B w w1) {p : Addr} (hp : B ≤ p.block) (v : Value) : Below B w (w1.setCell p v) := h.setCell hp v

section
variable {P : Program} {ops : Array Oper} {rest : List Oper} {o : Oper} {a : Act} {w : World} {Q : Exit → Act → World → Prop}
/-- A whole array loaded. -/
theorem fl (hgd : o.guard = none) (ty : TypeId) (x : Operand) (ho : o.op = .load ty x) (g : Nat) (hx : a.eval x = .pointer (some ⟨g, 0, none⟩)) {t : TypeId} {k : IntKind} {xs : List Int} (hA : Arr w g t k xs)
    (n : Nat) (e : TypeId) (hu : P.underlying ty = some (.array n e)) (hi : (P.info? ty).map (·.size) = some n) (hn : xs.length = n)
    (h : wpList P ops Q rest (a.put o.dst (.agg (arrC k xs))) w) : wpList P ops Q (o :: rest) a w :=
  wpList_load_row hgd ty x ho g hx t _ _ _ hA.o hu rfl (by rw [gw, hn]; exact hi) h
/-- A whole array stored. -/
theorem eJ (hgd : o.guard = none) (ty : TypeId) (x y : Operand) (ho : o.op = .store ty x y) (g : Nat) (hx : a.eval x = .pointer (some ⟨g, 0, none⟩)) {t : TypeId} {k : IntKind} {xs ys : List Int} (hy : a.eval y = .agg (arrC k ys)) (hA : Arr w g t k xs)
    (n : Nat) (hi : (P.info? ty).map (·.size) = some n) (hn : xs.length = n) (hm : ys.length = n)
    (h : wpList P ops Q rest (a.put o.dst undef) (w.setRow g (arrC k ys))) : wpList P ops Q (o :: rest) a w := by
  refine wpList_plain hgd fun K hK => ?_
  unfold Oper.wp execOp
  simp only [ho, hx, hy, Instr.storeAt, Instr.sureAddr, Sem.run_bind, Sem.run_pure, Result.andThen_ok, run_storeVar_row w g t ty _ _ hA.o (show (P.info? ty).map (·.size) = some (arrC k ys).size by rw [gw, hm]; exact hi) (by rw [gw, gw, hn, hm]) (rP k ys)]
  exact hK _ _ h
/-- An array made: its numbers are the type's own (0). -/
theorem eu (hgd : o.guard = none) (ty : TypeId) (ho : o.op = .alloc ty) (d : Option Tmp) (hd : o.dst = d) (N : Nat) (hN : w.heap.size = N) {k : IntKind} {m : Nat} (xs : List Int) (hz : (P.info? ty).map (fun i => (i.zero, i.size)) = some (some (.agg (arrC k xs)), m))
    (h : wpList P ops Q rest (a.put d (.pointer (some ⟨N, 0, none⟩))) (w.alloc (.cells (arrC k xs) ty))) : wpList P ops Q (o :: rest) a w := by
  subst hd hN
  refine wpList_plain hgd fun K hK => ?_
  unfold Oper.wp execOp
  have hz1 := (zero_of_info hz).1 w
  simp only [ho, Sem.run_bind, Instr.alloc, hz1, newVar, newRow, run_newObj_alloc, Sem.run_pure, Result.andThen_ok]
  exact hK _ _ h
theorem cy (w : World) (o : Obj) : (w.alloc o).heap.size = w.heap.size + 1 := by simp
theorem Arr.new2 (w : World) (t : TypeId) (k : IntKind) (xs : List Int) (o : Obj) : Arr ((w.alloc o).alloc (.cells (arrC k xs) t)) (w.heap.size + 1) t k xs := by
  have := Arr.new (w.alloc o) t k xs
  rwa [cy] at this
theorem el (w : World) (o o' : Obj) : Below w.heap.size w ((w.alloc o).alloc o') := ((Below.refl _ _).alloc (Nat.le_refl _) _).alloc (by rw [cy]; omega) _
/-- A whole array loaded, where a region that draws its order only reads. -/
theorem mg {Q : Act → Prop} (hgd : o.guard = none) (ty : TypeId) (x : Operand) (ho : o.op = .load ty x) (g : Nat) (hx : a.eval x = .pointer (some ⟨g, 0, none⟩)) {t : TypeId} {k : IntKind} {xs : List Int} (hA : Arr w g t k xs)
    (n : Nat) (e : TypeId) (hu : P.underlying ty = some (.array n e)) (hi : (P.info? ty).map (·.size) = some n) (hn : xs.length = n)
    (h : wpStill P ops w Q rest (a.put o.dst (.agg (arrC k xs)))) : wpStill P ops w Q (o :: rest) a := by
  refine wpStill_step fun K hK => ?_
  rw [if_pos (show Region.wanted o (yielded ops a.tmps) = true by unfold Region.wanted; simp [hgd])]
  unfold Oper.still execOp
  simp only [ho, hx, Instr.loadAt, Instr.sureAddr, Sem.run_bind, Sem.run_pure, Result.andThen_ok, run_loadVar_row w g t ty _ _ _ hA.o hu rfl (by rw [gw, hn]; exact hi)]
  exact ⟨rfl, hK _ h⟩
/-- A result that is an array, out of its block. -/
theorem hU {fn : Func} {p : Tmp} {ty : TypeId} (h : fn.results = #[.cell p ty]) (tmps : Array Value) (w : World) (g : Nat) (hp : tmps.getD p undef = .pointer (some ⟨g, 0, none⟩)) {t : TypeId} {k : IntKind} {xs : List Int} (hA : Arr w g t k xs)
    (n : Nat) (e : TypeId) (hu : P.underlying ty = some (.array n e)) (hi : (P.info? ty).map (·.size) = some n) (hn : xs.length = n) : (results fn tmps).run P w = .ok (.agg (arrC k xs)) w :=
  results_cell_row h tmps w g t _ _ _ hp hA.o hu rfl (by rw [gw, hn]; exact hi)
/-- .. and a second result beside it. -/
theorem qZ {fn : Func} {p u : Tmp} {ty : TypeId} (h : fn.results = #[.cell p ty, .tmp u]) (tmps : Array Value) (w : World) (g : Nat) (hp : tmps.getD p undef = .pointer (some ⟨g, 0, none⟩)) {t : TypeId} {k : IntKind} {xs : List Int} (hA : Arr w g t k xs)
    (n : Nat) (e : TypeId) (hu : P.underlying ty = some (.array n e)) (hi : (P.info? ty).map (·.size) = some n) (hn : xs.length = n) : (results fn tmps).run P w = .ok (.tuple #[.agg (arrC k xs), tmps.getD u undef]) w := by
  have hp' : tmps[p]?.getD undef = .pointer (some ⟨g, 0, none⟩) := by simpa using hp
  simp [results, h, hp', asAddr, run_loadVar_row w g t ty _ _ _ hA.o hu rfl (by rw [gw, hn]; exact hi)]
/-- An element of an array that is no variable. -/
theorem jR (w : World) (ty : TypeId) (k : IntKind) (xs : List Int) (i : Nat) (n : Nat) (e : TypeId) (hu : P.underlying ty = some (.array n e)) (he : P.underlying e = some (.int k)) (hi : (P.info? e).map (·.size) = some 1) (hn : xs.length = n) (h : i < n) :
    (Instr.index ty (.agg (arrC k xs)) (.int .i64 (i : Int))).run P w = .ok (.int k (rd xs (i : Int))) w := by
  cases hq : P.info? e with
  | none => simp [hq] at hi
  | some j =>
    have hs : j.size = 1 := by simpa [hq] using hi
    have hg : (arrC k xs)[i]? = some (.int k (xs.getD i 0)) := mb k xs i (by omega)
    have hlt : ¬ n ≤ i := Nat.not_le.mpr h
    simp [Instr.index, asIntOf, run_underlying hu, sizeOf, typeInfo, hq, hs, part, isAgg, run_underlying he, hg, rd]
    intro h3
    exact absurd h3 hlt
end
end Go.Proofs.YtmiackbomcjboaaGreatDoor.Kit
