/- Walks by hand: arrays of eight words. -/
import Derived.Test.YthdjmbbkenbeiaaDoorMW2
import Derived.Test.YthdjmbbkenbeiaaDoorPx0
import Derived.Test.YthdjmbbkenbeiaaDoorPx3
namespace Go.Proofs.YthdjmbbkenbeiaaDoor.P
open Go.RowKit Go.Proofs.YthdjmbbkenbeiaaDoorW.PrintWords Go.Proofs.YthdjmbbkenbeiaaDoorW.PrintLast Go.Proofs.YthdjmbbkenbeiaaDoorW.PrintMore Go.Proofs.YthdjmbbkenbeiaaDoor.Kit
set_option linter.unusedVariables false
set_option linter.unusedSimpArgs false

def impl_firstState.v : List Int := [1779033703, 3144134277, 1013904242, 2773480762, 1359893119, 2600822924, 528734635, 1541459225]
set_option maxHeartbeats 1000000 in
set_option maxRecDepth 100000 in
theorem impl_firstState.calls (w : World) : Calls Tryd.prog 33 #[] w fun e w' => e = .returned (.agg (arrC .u32 impl_firstState.v)) ∧ Below w.heap.size w w' := by
 go_enter Tryd.func33, Tryd.ntmps33
 go_wp2
 exact bodyPost_ret (v := .agg (arrC .u32 impl_firstState.v)) (ret_arr Tryd.results33 _ _ w.heap.size rfl (Arr.new w 54 .u32 impl_firstState.v) 8 53 Tryd.underlying54 (by kernel_rfl) rfl) rfl ⟨rfl, (Below.refl _ _).alloc (Nat.le_refl _) _⟩

/-- The bytes of the first n words. -/
def impl_stateText.cat (xs : List Int) : Nat → Option ByteArray
 | 0 => some ⟨#[]⟩
 | n + 1 => (impl_stateText.cat xs n).bind fun t => (impl_fourBytes.f (rd xs (n : Int))).bind fun u => if t.size + u.size ≤ 9223372036854775807 then some (t ++ u) else none
def impl_stateText.f (xs : List Int) : Option ByteArray := impl_stateText.cat xs 8
theorem impl_stateText.cat_some {xs : List Int} {n : Nat} : ∀ {m : Nat} {r : ByteArray}, impl_stateText.cat xs (n + m) = some r → ∃ t, impl_stateText.cat xs n = some t
 | 0, r, h => ⟨r, h⟩
 | m + 1, r, h => by
  obtain ⟨t, h1, _⟩ := Option.bind_eq_some_iff.mp h
  exact impl_stateText.cat_some h1
theorem impl_stateText.cat_step {xs : List Int} {n : Nat} {t r : ByteArray} (h0 : impl_stateText.cat xs n = some t) (h : impl_stateText.cat xs (n + 1) = some r) : ∃ u, impl_fourBytes.f (rd xs (n : Int)) = some u ∧ t.size + u.size ≤ 9223372036854775807 ∧ r = t ++ u := by
 obtain ⟨t', h1, h2⟩ := Option.bind_eq_some_iff.mp h
 obtain ⟨u, h3, h4⟩ := Option.bind_eq_some_iff.mp h2
 rw [h0] at h1
 obtain rfl := Option.some.inj h1
 split at h4
 ·exact ⟨u, h3, ‹_›, (Option.some.inj h4).symm⟩
 ·exact absurd h4 (by simp)
set_option maxHeartbeats 1000000 in
set_option maxRecDepth 100000 in
theorem impl_stateText.calls (xs : List Int) (r : ByteArray) (w : World) (hn : xs.length = 8) (h : impl_stateText.f xs = some r) : Calls Tryd.prog 35 #[.agg (arrC .u32 xs)] w fun e w' => e = .returned (.string r) ∧ Below w.heap.size w w' := by
 have H := Aside0.mk h
 have HN := Aside0.mk hn
 clear h hn
 have hb0 : Below w.heap.size w (w.alloc (.cells (arrC .u32 xs) 54)) := (Below.refl _ _).alloc (Nat.le_refl _) _
 have HB0 := Aside0.mk hb0
 clear hb0
 go_enter Tryd.func35, Tryd.ntmps35
 go_wp2_with (first | (refine load_arr rfl 54 (.tmp 1) rfl _ rfl (Arr.new w 54 .u32 xs) 8 53 Tryd.underlying54 (by kernel_rfl) HN.out ?_))
 go_loopw [3, 7] (fun o i wr => ∃ (k : Nat) (t : ByteArray), i = .int .i64 (k : Int) ∧ o = .string t ∧ Aside0 (k ≤ 8) ∧ Aside0 (impl_stateText.cat xs k = some t) ∧ Aside0 (Below w.heap.size w wr)) (fun _ i _ => 8 - (intOf i).toNat)
 case atStart => exact ⟨0, ⟨#[]⟩, rfl, rfl, ⟨Nat.zero_le _⟩, ⟨rfl⟩, HB0⟩
 case round =>
  obtain ⟨k, t, rfl, rfl, HK, HT, HB⟩ := hrel
  have hk := HK.out
  by_cases hlt : k < 8
  ·obtain ⟨t', ht'⟩ := impl_stateText.cat_some (n := k + 1) (m := 7 - k) (r := r) (by rw [show k + 1 + (7 - k) = 8 by omega]; exact H.out)
   obtain ⟨u, hu, hs, rfl⟩ := impl_stateText.cat_step HT.out ht'
   have hix : ∀ w : World, (Instr.index 54 (.agg (arrC .u32 xs)) (.int .i64 (k : Int))).run Tryd.prog w = .ok (.int .u32 (rd xs (k : Int))) w := fun w => run_index_arr w 54 .u32 xs k 8 53 Tryd.underlying54 Tryd.underlying53 (by kernel_rfl) HN.out hlt
   have HU := Aside0.mk hu
   have HT' := Aside0.mk ht'
   have hs1 : (9223372036854775807 < t.size + u.size) = False := eq_false (Nat.not_lt.2 hs)
   have hlt1 : decide ((k : Int) < 8) = true := decide_eq_true (by omega)
   clear hu ht' hs hk
   go_wp2_with (first | (go_at_call 57; refine (impl_fourBytes.calls _ u _ HU.out).mono ?_; rintro e w1 ⟨rfl, hb⟩))
   go_roundw
   case rel => exact ⟨k + 1, t ++ u, by go_num, rfl, ⟨by omega⟩, HT', ⟨HB.out.trans (hb.mono HB.out.size)⟩⟩
   case measure => simp [intOf]; omega
  ·obtain rfl : k = 8 := by omega
   have hlt1 : decide (((8 : Nat) : Int) < 8) = false := by decide
   clear hlt hk
   obtain rfl : t = r := Option.some.inj (HT.out.symm.trans H.out)
   go_wp2
   go_ret
   exact ⟨rfl, HB.out⟩
end Go.Proofs.YthdjmbbkenbeiaaDoor.P
