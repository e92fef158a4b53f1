-- PRINTED by print.py (a twelfth state) out of the translation. Not trusted: Lean checks it.
import Derived.Test.YtielligodgabiaaGreatDoorV0
import Derived.Test.YtielligodgabiaaGreatDoorProg
import Derived.Test.YtielligodgabiaaGreatDoorMW0
import Derived.Below
import Derived.Deep.Draws
import Derived.Deep.AppendLies
import Derived.Maps.AppendAt
import Derived.OwnWalk
import Derived.Laws.BytesArg
import Derived.Laws.MakeOwn
import Derived.Laws.OwnMore
import Derived.Deep.OwnRows
import Derived.Tactics
import Derived.Lib.ConvBytes
import Derived.Laws.Slices
import Derived.WalkKit
import Derived.KernelRfl
import Derived.RowKit3
import Derived.Deep.LoopGhost
import Derived.Deep.QuietTactic
import Derived.BigQuiet
import Derived.WideLaws
import Derived.Deep.DeepCutAuto
import Derived.Deep.CutBlock
import Derived.Deep.RegionHeld3
import Derived.Laws.Rows
import Derived.Lib.AppendStr
import Derived.ArgAppend
import Derived.Laws.IdiomCopy
import Derived.OrdersHeld
import Derived.Laws.BitsLemmas
import Derived.RowKit
namespace Go.Proofs.YtielligodgabiaaGreatDoor.P
open Go.RowKit YtielligodgabiaaGreatDoorW.PrintWords YtielligodgabiaaGreatDoorW.PrintLast YtielligodgabiaaGreatDoorW.PrintMore
attribute [local go_sem] dJ dC ej eh dh di dB dK   -- for this text's walks alone
set_option linter.unusedVariables false
set_option linter.unusedSimpArgs false



def rW : Option Int → Value
 | none => .nilIface
 | some c => .iface 0 (.int .i64 c)
theorem d2 : rW none = .nilIface := rfl
theorem d5 (c : Int) : rW (some c) = .iface 0 (.int .i64 c) := rfl

theorem cS : (Tryz.prog.info? 3).map (fun i => (i.zero, i.size, i.bytes)) = some (some (.int .i64 0), 1, 8) := by kernel_rfl
theorem iD : (Tryz.prog.info? 5).map (fun i => (i.zero, i.size, i.bytes)) = some (some (.int .u8 0), 1, 1) := by kernel_rfl
theorem gK : (Tryz.prog.info? 38).map (fun i => (i.zero, i.size, i.bytes)) = some (some (.slice none 0 0), 1, 24) := by kernel_rfl
theorem mI : (Tryz.prog.info? 45).map (fun i => (i.zero, i.size, i.bytes)) = some (some (.int .u32 0), 1, 4) := by kernel_rfl
theorem jp : (Tryz.prog.info? 91).map (fun i => (i.zero, i.size, i.bytes)) = some (some (.int .u64 0), 1, 8) := by kernel_rfl
-- the values' own types
def dg (xs : List (List Int)) (i : Int) : (List Int) := xs.getD i.toNat ([] : List Int)
theorem k9 {w : World} {A : Option Addr} {n : Nat} {xs : List (List Int)} (h : Kd.C (Kd.slice 3 (Kd.int .i64)) w A n xs) (i : Int) (h0 : 0 ≤ i) (h1 : i < n) : ∃ ad A0 c0, A = some ad ∧ w.cell? (ad.add i.toNat) = some (.slice A0 (dg xs i).length c0) ∧ (dg xs i).length ≤ c0 ∧ (Kd.int .i64).C w A0 (dg xs i).length (dg xs i) := by
 obtain ⟨ad, c, e, _, hK, hc0⟩ := Kd.C_get h ([] : List Int) i h0 h1
 have hc : ∀ j u, c[j]? = some u → w.cell? (ad.add (i.toNat * 1 + j)) = some u := hc0
 obtain ⟨A0, c0, rfl, l0, g0⟩ := hK
 exact ⟨ad, A0, c0, e, by have hq := hc 0 _ rfl; rwa [Nat.mul_one, Nat.add_zero] at hq, l0, g0⟩

end Go.Proofs.YtielligodgabiaaGreatDoor.P
namespace Go.Proofs.YtielligodgabiaaGreatDoor
open Go.RowKit
theorem ta {p : Prop} [i : Decidable p] (h : p) : decide p = true := decide_eq_true h
theorem ua {p : Prop} [i : Decidable p] (h : ¬ p) : decide p = false := decide_eq_false h
theorem va {p : Prop} (h : p) : p = True := eq_true h
theorem sI {α : Type _} {a b : α} (h : some a = some b) : a = b := Option.some.inj h
theorem wa (n : Nat) : n ≤ n := Nat.le_refl n
theorem xa (b : Nat) (w : World) : Below b w w := Below.refl b w
theorem ya {b : Bool} (h : ¬ b = true) : b = false := Bool.eq_false_iff.mpr h
theorem za {c : Prop} {h : Decidable c} (hc : c) {α : Sort _} {t e : α} : ite c t e = t := if_pos hc
theorem Aa {c : Prop} {h : Decidable c} (hc : ¬ c) {α : Sort _} {t e : α} : ite c t e = e := if_neg hc
end Go.Proofs.YtielligodgabiaaGreatDoor
