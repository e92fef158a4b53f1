/- Walks by hand: arrays of eight words. -/
import Derived.Test.YtielligodgabiaaGreatDoorMW2
import Derived.Test.YtielligodgabiaaGreatDoorPx0
import Derived.Test.YtielligodgabiaaGreatDoorPx4
namespace Go.Proofs.YtielligodgabiaaGreatDoor.P
open Go.RowKit YtielligodgabiaaGreatDoorW.PrintWords YtielligodgabiaaGreatDoorW.PrintLast YtielligodgabiaaGreatDoorW.PrintMore YtielligodgabiaaGreatDoor.Kit
set_option linter.unusedVariables false
set_option linter.unusedSimpArgs false

def bI.v : List Int := [1779033703, 3144134277, 1013904242, 2773480762, 1359893119, 2600822924, 528734635, 1541459225]
set_option maxHeartbeats 1000000 in
set_option maxRecDepth 100000 in
theorem bI.calls (w : World) : Calls Tryz.prog 24 #[] w fun e w' => e = .returned (.agg (arrC .u32 bI.v)) ∧ Below w.heap.size w w' := by
 go_enter Tryz.func24, Tryz.ntmps24
 go_wp2
 exact bodyPost_ret (v := .agg (arrC .u32 bI.v)) (fY Tryz.results24 _ _ w.heap.size rfl (Arr.new w 46 .u32 bI.v) 8 45 Tryz.underlying46 (by kernel_rfl) rfl) rfl ⟨rfl, (xa _ _).alloc (wa _) _⟩

/-- The bytes of the first n words. -/
def bJ.cat (xs : List Int) : Nat → Option ByteArray
 | 0 => some ⟨#[]⟩
 | n + 1 => (bJ.cat xs n).bind fun t => (cO.f (rd xs (n : Int))).bind fun u => if t.size + u.size ≤ 9223372036854775807 then some (t ++ u) else none
def bJ.f (xs : List Int) : Option ByteArray := bJ.cat xs 8
theorem bJ.cat_some {xs : List Int} {n : Nat} : ∀ {m : Nat} {r : ByteArray}, bJ.cat xs (n + m) = some r → ∃ t, bJ.cat xs n = some t
 | 0, r, h => ⟨r, h⟩
 | m + 1, r, h => by
  obtain ⟨t, h1, _⟩ := Option.bind_eq_some_iff.mp h
  exact bJ.cat_some h1
theorem bJ.cat_step {xs : List Int} {n : Nat} {t r : ByteArray} (h0 : bJ.cat xs n = some t) (h : bJ.cat xs (n + 1) = some r) : ∃ u, cO.f (rd xs (n : Int)) = some u ∧ t.size + u.size ≤ 9223372036854775807 ∧ r = t ++ u := by
 obtain ⟨t', h1, h2⟩ := Option.bind_eq_some_iff.mp h
 obtain ⟨u, h3, h4⟩ := Option.bind_eq_some_iff.mp h2
 rw [h0] at h1
 obtain rfl := sI h1
 split at h4
 ·exact ⟨u, h3, ‹_›, (sI h4).symm⟩
 ·exact absurd h4 (by simp)
set_option maxHeartbeats 1000000 in
set_option maxRecDepth 100000 in
theorem bJ.calls (xs : List Int) (r : ByteArray) (w : World) (hn : xs.length = 8) (h : bJ.f xs = some r) : Calls Tryz.prog 26 #[.agg (arrC .u32 xs)] w fun e w' => e = .returned (.string r) ∧ Below w.heap.size w w' := by
 have H := aa.mk h
 have HN := aa.mk hn
 clear h hn
 have hb0 : Below w.heap.size w (w.alloc (.cells (arrC .u32 xs) 46)) := (xa _ _).alloc (wa _) _
 have HB0 := aa.mk hb0
 clear hb0
 go_enter Tryz.func26, Tryz.ntmps26
 go_wp2_with (first | (refine eq rfl 46 (.tmp 1) rfl _ rfl (Arr.new w 46 .u32 xs) 8 45 Tryz.underlying46 (by kernel_rfl) HN.out ?_))
 go_loopw [3, 7] (fun o i wr => ∃ (k : Nat) (t : ByteArray), i = .int .i64 (k : Int) ∧ o = .string t ∧ aa (k ≤ 8) ∧ aa (bJ.cat xs k = some t) ∧ aa (Below w.heap.size w wr)) (fun _ i _ => 8 - (intOf i).toNat)
 case atStart => exact ⟨0, ⟨#[]⟩, rfl, rfl, ⟨Nat.zero_le _⟩, ⟨rfl⟩, HB0⟩
 case round =>
  obtain ⟨k, t, rfl, rfl, HK, HT, HB⟩ := hrel
  have hk := HK.out
  by_cases hlt : k < 8
  ·obtain ⟨t', ht'⟩ := bJ.cat_some (n := k + 1) (m := 7 - k) (r := r) (by rw [show k + 1 + (7 - k) = 8 by omega]; exact H.out)
   obtain ⟨u, hu, hs, rfl⟩ := bJ.cat_step HT.out ht'
   have hix : ∀ w : World, (Instr.index 46 (.agg (arrC .u32 xs)) (.int .i64 (k : Int))).run Tryz.prog w = .ok (.int .u32 (rd xs (k : Int))) w := fun w => ix w 46 .u32 xs k 8 45 Tryz.underlying46 Tryz.underlying45 (by kernel_rfl) HN.out hlt
   have HU := aa.mk hu
   have HT' := aa.mk ht'
   have hs1 : (9223372036854775807 < t.size + u.size) = False := eq_false (Nat.not_lt.2 hs)
   have hlt1 : decide ((k : Int) < 8) = true := ta (by omega)
   clear hu ht' hs hk
   go_wp2_with (first | (go_at_call 59; refine (cO.calls _ u _ HU.out).mono ?_; rintro e w1 ⟨rfl, hb⟩))
   go_roundw
   case rel => exact ⟨k + 1, t ++ u, by go_num, rfl, ⟨by omega⟩, HT', ⟨HB.out.trans (hb.mono HB.out.size)⟩⟩
   case measure => simp [intOf]; omega
  ·obtain rfl : k = 8 := by omega
   have hlt1 : decide (((8 : Nat) : Int) < 8) = false := by decide
   clear hlt hk
   obtain rfl : t = r := sI (HT.out.symm.trans H.out)
   go_wp2
   go_ret
   exact ⟨rfl, HB.out⟩
end Go.Proofs.YtielligodgabiaaGreatDoor.P
