-- PRINTED by print.py (a twelfth state) out of the translation. Not trusted: Lean checks it.
import Derived.Test.YtmiackbomcjboaaGreatDoorProg
import Derived.Test.YtmiackbomcjboaaGreatDoorMW0
namespace Go.Proofs.YtmiackbomcjboaaGreatDoor.P
open Go.RowKit YtmiackbomcjboaaGreatDoorW.PrintWords YtmiackbomcjboaaGreatDoorW.PrintLast YtmiackbomcjboaaGreatDoorW.PrintMore
attribute [local go_sem] d9 eg eV eU dK dL d8 eh
set_option linter.unusedVariables false
set_option linter.unusedSimpArgs false

def ue : Option Int → Value
 | none => .nilIface
 | some c => .iface 0 (.int .i64 c)
theorem dE : ue none = .nilIface := rfl
theorem dB (c : Int) : ue (some c) = .iface 0 (.int .i64 c) := rfl

theorem di : (Tryz.prog.info? 3).map (fun i => (i.zero, i.size, i.bytes)) = some (some (.int .i64 0), 1, 8) := by kernel_rfl
theorem jj : (Tryz.prog.info? 5).map (fun i => (i.zero, i.size, i.bytes)) = some (some (.int .u8 0), 1, 1) := by kernel_rfl
theorem gu : (Tryz.prog.info? 33).map (fun i => (i.zero, i.size, i.bytes)) = some (some (.slice none 0 0), 1, 24) := by kernel_rfl
theorem ol : (Tryz.prog.info? 78).map (fun i => (i.zero, i.size, i.bytes)) = some (some (.int .u32 0), 1, 4) := by kernel_rfl
theorem jH : (Tryz.prog.info? 111).map (fun i => (i.zero, i.size, i.bytes)) = some (some (.int .u64 0), 1, 8) := by kernel_rfl
-- the values' own types
def dV (xs : List (List Int)) (i : Int) : (List Int) := xs.getD i.toNat ([] : List Int)
theorem mr {w : World} {A : Option Addr} {n : Nat} {xs : List (List Int)} (h : Kd.C (Kd.slice 3 (Kd.int .i64)) w A n xs) (i : Int) (h0 : 0 ≤ i) (h1 : i < n) : ∃ ad A0 c0, A = some ad ∧ w.cell? (ad.add i.toNat) = some (.slice A0 (dV xs i).length c0) ∧ (dV xs i).length ≤ c0 ∧ (Kd.int .i64).C w A0 (dV xs i).length (dV xs i) := by
 obtain ⟨ad, c, e, _, hK, hc0⟩ := Kd.xN h ([] : List Int) i h0 h1
 have hc : ∀ j u, c[j]? = some u → w.cell? (ad.add (i.toNat * 1 + j)) = some u := hc0
 obtain ⟨A0, c0, rfl, l0, g0⟩ := hK
 exact ⟨ad, A0, c0, e, by have hq := hc 0 _ rfl; rwa [Nat.mul_one, Nat.add_zero] at hq, l0, g0⟩

end Go.Proofs.YtmiackbomcjboaaGreatDoor.P
namespace Go.Proofs.YtmiackbomcjboaaGreatDoor
open Go.RowKit
theorem ya {p : Prop} [i : Decidable p] (h : p) : decide p = true := decide_eq_true h
theorem za {p : Prop} [i : Decidable p] (h : ¬ p) : decide p = false := decide_eq_false h
theorem Aa {p : Prop} (h : p) : p = True := eq_true h
theorem Ba {α : Type _} {a b : α} (h : some a = some b) : a = b := Option.some.inj h
theorem Ca (n : Nat) : n ≤ n := Nat.le_refl n
theorem Da (b : Nat) (w : World) : Below b w w := Below.refl b w
theorem Ea {b : Bool} (h : ¬ b = true) : b = false := Bool.eq_false_iff.mpr h
theorem Fa {c : Prop} {h : Decidable c} (hc : c) {α : Sort _} {t e : α} : ite c t e = t := if_pos hc
theorem Ga {c : Prop} {h : Decidable c} (hc : ¬ c) {α : Sort _} {t e : α} : ite c t e = e := if_neg hc
end Go.Proofs.YtmiackbomcjboaaGreatDoor
