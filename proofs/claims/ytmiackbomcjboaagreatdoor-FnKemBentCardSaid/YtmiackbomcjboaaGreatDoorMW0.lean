/- Calls of a function value that a variable holds: the kit's two words on a call, for a callee that is read out of a variable. -/
import Derived.Test.YtmiackbomcjboaaGreatDoorV0
namespace Go.Proofs.YtmiackbomcjboaaGreatDoor.Kit
open Go.RowKit YtmiackbomcjboaaGreatDoorW.PrintWords YtmiackbomcjboaaGreatDoorW.PrintLast YtmiackbomcjboaaGreatDoorW.PrintMore
section
variable {P : Program} {ops : Array Oper} {Q : Exit → Act → World → Prop}
/-- A call through a variable, where each operation is named. -/
theorem goesW_ (x : Operand) {oi : Oper} {N : Option Tmp} {a : Act} {w : World} {K : Act → World → Prop} {f : FuncId} {fn : Func} {as : Array Operand} {ts : Array TypeId} (hf : P.funcs[f]? = some fn) (hname : (fn.name == "runtime.NumGoroutine") = false) (hb : fn.body.isSome = true) (args : Array Value)
    (hw : Region.wanted oi (yielded ops a.tmps) = true) (hN : oi.dst = N) (hop : oi.op = .call { callee := .value x, args := as, argTypes := ts }) (hargs : as.map a.eval = args) (hx : a.eval x = .func (.func f) #[] #[])
    (h : Calls P f args w fun e w' => ∃ v, e = .returned v ∧ K (a.put N v) w') : if Region.wanted oi (yielded ops a.tmps) = true then Oper.wp P oi a w K Q else K (a.put N undef) w := by
  refine tx f args hw hN ?_ h
  have he := lY hf hname hb args w
  unfold execOp
  simp [hop, resolve, Deferred.ofValue, invoke, hargs, hx, he]
end
end Go.Proofs.YtmiackbomcjboaaGreatDoor.Kit
