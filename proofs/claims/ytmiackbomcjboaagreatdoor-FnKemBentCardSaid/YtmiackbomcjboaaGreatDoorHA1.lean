/- Walks by hand: arrays of eight words. -/
import Derived.Test.YtmiackbomcjboaaGreatDoorMW2
import Derived.Test.YtmiackbomcjboaaGreatDoorPx6
namespace Go.Proofs.YtmiackbomcjboaaGreatDoor.P
open Go.RowKit YtmiackbomcjboaaGreatDoorW.PrintWords YtmiackbomcjboaaGreatDoorW.PrintLast YtmiackbomcjboaaGreatDoorW.PrintMore YtmiackbomcjboaaGreatDoor.Kit
set_option linter.unusedVariables false
set_option linter.unusedSimpArgs false

def bT.v : List Int := [1779033703, 3144134277, 1013904242, 2773480762, 1359893119, 2600822924, 528734635, 1541459225]
set_option maxHeartbeats 1000000 in
set_option maxRecDepth 100000 in
theorem bT.calls (w : World) : Calls Tryz.prog 55 #[] w fun e w' => e = .returned (.agg (arrC .u32 bT.v)) ∧ Below w.heap.size w w' := by
 go_enter Tryz.func55, Tryz.ntmps55
 go_wp2
 exact bodyPost_ret (v := .agg (arrC .u32 bT.v)) (hU Tryz.results55 _ _ w.heap.size rfl (Arr.new w 79 .u32 bT.v) 8 78 Tryz.underlying79 (by kernel_rfl) rfl) rfl ⟨rfl, (Da _ _).alloc (Ca _) _⟩

/-- The bytes of the first n words. -/
def bX.cat (xs : List Int) : Nat → Option ByteArray
 | 0 => some ⟨#[]⟩
 | n + 1 => (bX.cat xs n).bind fun t => (dh.f (rd xs (n : Int))).bind fun u => if t.size + u.size ≤ 9223372036854775807 then some (t ++ u) else none
def bX.f (xs : List Int) : Option ByteArray := bX.cat xs 8
theorem bX.cat_some {xs : List Int} {n : Nat} : ∀ {m : Nat} {r : ByteArray}, bX.cat xs (n + m) = some r → ∃ t, bX.cat xs n = some t
 | 0, r, h => ⟨r, h⟩
 | m + 1, r, h => by
  obtain ⟨t, h1, _⟩ := Option.bind_eq_some_iff.mp h
  exact bX.cat_some h1
theorem bX.cat_step {xs : List Int} {n : Nat} {t r : ByteArray} (h0 : bX.cat xs n = some t) (h : bX.cat xs (n + 1) = some r) : ∃ u, dh.f (rd xs (n : Int)) = some u ∧ t.size + u.size ≤ 9223372036854775807 ∧ r = t ++ u := by
 obtain ⟨t', h1, h2⟩ := Option.bind_eq_some_iff.mp h
 obtain ⟨u, h3, h4⟩ := Option.bind_eq_some_iff.mp h2
 rw [h0] at h1
 obtain rfl := Ba h1
 split at h4
 ·exact ⟨u, h3, ‹_›, (Ba h4).symm⟩
 ·exact absurd h4 (by simp)
set_option maxHeartbeats 1000000 in
set_option maxRecDepth 100000 in
theorem bX.calls (xs : List Int) (r : ByteArray) (w : World) (hn : xs.length = 8) (h : bX.f xs = some r) : Calls Tryz.prog 57 #[.agg (arrC .u32 xs)] w fun e w' => e = .returned (.string r) ∧ Below w.heap.size w w' := by
 have H := aa.mk h
 have HN := aa.mk hn
 clear h hn
 have hb0 : Below w.heap.size w (w.alloc (.cells (arrC .u32 xs) 79)) := (Da _ _).alloc (Ca _) _
 have HB0 := aa.mk hb0
 clear hb0
 go_enter Tryz.func57, Tryz.ntmps57
 go_wp2_with (first | (refine fl rfl 79 (.tmp 1) rfl _ rfl (Arr.new w 79 .u32 xs) 8 78 Tryz.underlying79 (by kernel_rfl) HN.o ?_))
 go_loopw [3, 7] (fun o i wr => ∃ (k : Nat) (t : ByteArray), i = .int .i64 (k : Int) ∧ o = .string t ∧ aa (k ≤ 8) ∧ aa (bX.cat xs k = some t) ∧ aa (Below w.heap.size w wr)) (fun _ i _ => 8 - (intOf i).toNat)
 case atStart => exact ⟨0, ⟨#[]⟩, rfl, rfl, ⟨Nat.zero_le _⟩, ⟨rfl⟩, HB0⟩
 case round =>
  obtain ⟨k, t, rfl, rfl, HK, HT, HB⟩ := hrel
  have hk := HK.o
  by_cases hlt : k < 8
  ·obtain ⟨t', ht'⟩ := bX.cat_some (n := k + 1) (m := 7 - k) (r := r) (by rw [show k + 1 + (7 - k) = 8 by omega]; exact H.o)
   obtain ⟨u, hu, hs, rfl⟩ := bX.cat_step HT.o ht'
   have hix : ∀ w : World, (Instr.index 79 (.agg (arrC .u32 xs)) (.int .i64 (k : Int))).run Tryz.prog w = .ok (.int .u32 (rd xs (k : Int))) w := fun w => jR w 79 .u32 xs k 8 78 Tryz.underlying79 Tryz.underlying78 (by kernel_rfl) HN.o hlt
   have HU := aa.mk hu
   have HT' := aa.mk ht'
   have hs1 : (9223372036854775807 < t.size + u.size) = False := eq_false (Nat.not_lt.2 hs)
   have hlt1 : decide ((k : Int) < 8) = true := ya (by omega)
   clear hu ht' hs hk
   go_wp2_with (first | (go_at_call 92; refine (dh.calls _ u _ HU.o).mono ?_; rintro e w1 ⟨rfl, hb⟩))
   go_roundw
   case rel => exact ⟨k + 1, t ++ u, by go_num, rfl, ⟨by omega⟩, HT', ⟨HB.o.trans (hb.mono HB.o.size)⟩⟩
   case measure => simp [intOf]; omega
  ·obtain rfl : k = 8 := by omega
   have hlt1 : decide (((8 : Nat) : Int) < 8) = false := by decide
   clear hlt hk
   obtain rfl : t = r := Ba (HT.o.symm.trans H.o)
   go_wp2
   go_ret
   exact ⟨rfl, HB.o⟩
end Go.Proofs.YtmiackbomcjboaaGreatDoor.P
