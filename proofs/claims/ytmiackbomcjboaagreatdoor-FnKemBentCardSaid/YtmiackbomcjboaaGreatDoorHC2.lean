/- Walks by hand: a text of which one byte is turned. -/
import Derived.Test.YtmiackbomcjboaaGreatDoorMW2
import Derived.Test.YtmiackbomcjboaaGreatDoorMW4
import Derived.Test.YtmiackbomcjboaaGreatDoorPx0
namespace Go.Proofs.YtmiackbomcjboaaGreatDoor.P
open Go.RowKit YtmiackbomcjboaaGreatDoorW.PrintWords YtmiackbomcjboaaGreatDoorW.PrintLast YtmiackbomcjboaaGreatDoorW.PrintMore YtmiackbomcjboaaGreatDoor.Kit
set_option linter.unusedVariables false
set_option linter.unusedSimpArgs false

/-- One byte of a text turned: which one, and by what. -/
def o7 (s : ByteArray) (p : List Int) : Nat := (Int.tmod (rd p 0) (s.size : Int)).toNat
def kx (p : List Int) : Int := (1 + Int.tmod (rd p 1) 255) % 256
def fc.f (s : ByteArray) (p : List Int) : Option ByteArray := if s.size = 0 then some ⟨#[120]⟩ else if s.size ≤ 1000000 ∧ 2 ≤ p.length ∧ 0 ≤ rd p 0 ∧ 0 ≤ rd p 1 then some (strOfNums ((bl s).set (o7 s p) (Go.bits .xor .u8 ((bl s).getD (o7 s p) 0) (kx p)))) else none
set_option maxHeartbeats 1000000 in
set_option maxRecDepth 100000 in
theorem fc.calls (a0 : ByteArray) (A1 : Option Addr) (c1 : Nat) (l1 : List Int) (r : ByteArray) (w : World) (hr1 : Kd.C (Kd.int .i64) w A1 l1.length l1) (hc1 : l1.length ≤ c1) (h : fc.f a0 l1 = some r) :
  Calls Tryz.prog 8 #[.string a0, .slice A1 l1.length c1] w fun e w' => e = .returned (.string r) ∧ Below w.heap.size w w' := by
 unfold fc.f at h
 have hcv := Lib.run_convert_string_bytes (P := Tryz.prog) w 9 22 5 a0 Tryz.underlying9 Tryz.underlying22 Tryz.underlying5
 have HO := aa.mk (show eG .u8 (Lib.bytesWorld w 5 a0) w.heap.size (.slice (some ⟨w.heap.size, 0, none⟩) a0.size (grownCap w a0.size 0 5)) (bl a0) from cK.conv w 5 a0)
 have HB := aa.mk (fd w 5 a0)
 by_cases hz : a0.size = 0
 ·rw [if_pos hz] at h
  obtain rfl := Option.some.inj h
  have z1 : ((a0.size : Int) == 0) = true := by rw [hz]; rfl
  have z2 : decide ((a0.size : Int) = 0) = true := decide_eq_true (by omega)
  have z3 : (a0.size == 0) = true := by rw [hz]; rfl
  clear h
  go_enter Tryz.func8, Tryz.ntmps8
  go_wp2
  go_ret
  exact ⟨rfl, HB.o⟩
 rw [if_neg hz] at h
 split at h
 case isFalse => exact absurd h (by simp)
 case isTrue hs =>
 obtain rfl := Option.some.inj h
 obtain ⟨hs1, hs2, hs3, hs4⟩ := hs
 have z1 : ((a0.size : Int) == 0) = false := by rw [beq_eq_false_iff_ne]; omega
 have z2 : decide ((a0.size : Int) = 0) = false := decide_eq_false (by omega)
 have z3 : (a0.size == 0) = false := by rw [beq_eq_false_iff_ne]; exact hz
 obtain ⟨ad, rfl, hp0⟩ := Kd.uX hr1 0 (by decide) (by omega)
 obtain ⟨ad', e, hp1⟩ := Kd.uX hr1 1 (by decide) (by omega)
 obtain rfl := Option.some.inj e
 have hp0' := (HB.o.cell (World.block_lt_of_cell? w _ hp0)).trans hp0
 have hp1' := (HB.o.cell (World.block_lt_of_cell? w _ hp1)).trans hp1
 obtain ⟨ab, ao, ap⟩ := ad
 replace hp0' : (Lib.bytesWorld w 5 a0).cell? ⟨ab, ao, ap⟩ = _ := hp0'
 replace hp1' : (Lib.bytesWorld w 5 a0).cell? ⟨ab, ao + 1, none⟩ = _ := hp1'
 have hsz : (0 : Int) < (a0.size : Int) := by omega
 have t0 : 0 ≤ Int.tmod (rd l1 0) (a0.size : Int) := Int.tmod_nonneg _ hs3
 have t1 : Int.tmod (rd l1 0) (a0.size : Int) < (a0.size : Int) := Int.tmod_lt_of_pos _ hsz
 have u0 : 0 ≤ Int.tmod (rd l1 1) 255 := Int.tmod_nonneg _ hs4
 have u1 : Int.tmod (rd l1 1) 255 < 255 := Int.tmod_lt_of_pos _ (by decide)
 have e1 : Int.tmod (rd l1 0) (a0.size : Int) = (o7 a0 l1 : Int) := (Int.toNat_of_nonneg t0).symm
 have hx : kx l1 = 1 + Int.tmod (rd l1 1) 255 := by unfold kx; omega
 have hlt : o7 a0 l1 < a0.size := by omega
 generalize hI : o7 a0 l1 = I at e1 hlt ⊢
 generalize hM : Int.tmod (rd l1 1) 255 = M at hx u0 u1
 have hlen : I < (bl a0).length := by rw [dH]; exact hlt
 rw [show (bl a0).getD I 0 = (bl a0)[I]'hlen by simp [List.getD, hlen]]
 have hx1 := HO.o.at I hlen
 have hf1 := HO.o.froz I hlen
 have w1 : IntKind.i64.wrap (1 + M) = 1 + M := IntWalk.i64_in _ (by omega)
 have w2 : IntKind.u8.wrap (1 + M) = kx l1 := by rw [hx]; exact IntWalk.u8_in _ (by omega)
 have w3 : IntKind.i64.wrap (Int.tmod (rd l1 0) (a0.size : Int)) = (I : Int) := by rw [e1]; exact IntWalk.i64_in _ (by omega)
 have w4 : IntKind.i64.wrap (Int.tmod (rd l1 1) 255) = M := by rw [hM]; exact IntWalk.i64_in _ (by omega)
 have hl1 : decide ((I : Int) < (a0.size : Int)) = true := decide_eq_true (by omega)
 have hl2 : decide (I < a0.size) = true := decide_eq_true hlt
 have l1' : ((I : Int) < (a0.size : Int)) = True := eq_true (by omega)
 have l2' : (I < a0.size) = True := eq_true hlt
 have k1 : (0 : Int) < (l1.length : Int) := by omega
 have k2 : (1 : Int) < (l1.length : Int) := by omega
 have k3 : 0 < l1.length := by omega
 have k4 : 1 < l1.length := by omega
 have HS := aa.mk hs1
 clear hs1 hs2 hs3 hs4 hz t0 t1 u0 u1 hsz hx
 go_enter Tryz.func8, Tryz.ntmps8
 have hq' : ∀ w' : World, Below w.heap.size w w' → w'.cell? ⟨ab, ao + 1, none⟩ = some (.int .i64 (rd l1 1)) := fun w' h => (h.cell (World.block_lt_of_cell? w _ hp1)).trans hp1
 clear hp0 hp1 hr1
 go_wp2
 clear hp0' hp1' hx1 hf1
 generalize grownCap w a0.size 0 5 = C at HO hcv ⊢
 obtain ⟨B, hB⟩ : ∃ B, B = w.heap.size := ⟨_, rfl⟩
 rw [← hB] at HO ⊢
 have HBB := aa.mk hB
 clear hcv hB
 generalize Lib.bytesWorld w 5 a0 = wr at HO HB ⊢
 refine wp_region_still_tail 14 (by kernel_rfl) (by kernel_rfl) ?_
 simp only [List.take_succ_cons, List.take_zero, List.drop_succ_cons, List.drop_zero]
 change wpStill _ _ wr.drew (fun a' => wpList _ _ _ _ a' wr.drew) _ _
 have HO := aa.mk HO.o.drew
 have HB := aa.mk (dq HB.o)
 generalize wr.drew = w2 at HO HB ⊢
 have hx1 := HO.o.at I hlen
 have hf1 := HO.o.froz I hlen
 have hp1' := hq' w2 HB.o
 repeat still_step
 refine wpStill_nil ?_
 have HO2 := HO.o.set I hlen (Go.bits .xor .u8 ((bl a0)[I]'hlen) (kx l1))
 have HB2 := bZ HB.o (p := ⟨B, I, none⟩) (by show w.heap.size ≤ B; rw [HBB.o]; exact Nat.le_refl _) (.int .u8 (Go.bits .xor .u8 ((bl a0)[I]'hlen) (kx l1)))
 have hcv : (convert 22 9 (.slice (some ⟨B, 0, none⟩) a0.size C)).run Tryz.prog (w2.setCell ⟨B, I, none⟩ (.int .u8 (Go.bits .xor .u8 ((bl a0)[I]'hlen) (kx l1)))) = .ok (.string (strOfNums ((bl a0).set I (Go.bits .xor .u8 ((bl a0)[I]'hlen) (kx l1))))) (w2.setCell ⟨B, I, none⟩ (.int .u8 (Go.bits .xor .u8 ((bl a0)[I]'hlen) (kx l1)))) :=
  run_convert_bytes_arg (P := Tryz.prog) _ 22 5 Tryz.underlying22 Tryz.underlying5 B 0 a0.size C _ (by rw [List.length_set, dH]) (fun j hj => by rw [Nat.zero_add]; exact HO2.at j (by rw [List.length_set, dH]; exact hj)) 9 Tryz.underlying9
 go_wp2
 go_ret
 exact ⟨rfl, HB2⟩
end Go.Proofs.YtmiackbomcjboaaGreatDoor.P
