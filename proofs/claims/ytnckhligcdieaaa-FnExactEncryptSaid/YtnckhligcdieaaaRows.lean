/-
  No cell of these rows narrows 'for every input' (looked for: loops, veiled, ifaces, maps, wideKeys, modest, calm, conditions, laid).
  DERIVED. THE GIVEN ROWS OF THIS SEAT. 5 by the template 'for every input the law returns true; each argument reads behind the call as it read before'; 0 by the template 'total and deterministic' (their statements: YtnckhligcdieaaaTotals.lean).
  GIVEN WITH THE SEED: the statements are not yours to turn. If you find one false, say at which input.
  Laid BY PROGRAM, IN A SANDBOX (cutbox-rows.mjs): the forced cells as the released guide's own fill.sh prints them over the translation ad617f2a3f9be73a… (all of the seat's roots in one cut). By AI agents, Wed Nov 11 2026. No macro, syntax, notation, axiom, sorry.
-/
import Derived.Test.YtnckhligcdieaaaChecked
import GoSem.Claim
import GoSem.ClaimJoined
import GoSem.ClaimMapViews
import Derived.JoinedTies
import Derived.KernelRfl
namespace Go.Proofs.Ytnckhligcdieaaa
/- THE CELL 'sum', in the pinned program and in every row, IS THE sha256 OF THE DUMP (.gsa) THAT YtnckhligcdieaaaProg.lean LOADS. Nothing in Lean hashes anything: it is a label: what it is worth is what the hold of that sum in a sandbox is worth. -/
noncomputable def Try.pinned : Pinned := { name := "ytnckhligcdieaaa", sum := "ad617f2a3f9be73ab09a98ab3465d42062145d052edf4b30c38a1c9f72d65473", checked := Try.checked }
namespace Rows
def none {H : Type} : Left H := { results := [], args := [] }

/-- 'laws.FnExactSmall': WHATEVER THE INPUT: true; the input reads as it did. -/
def fnExactSmallSpec : ChangeSpec := { name := "fnExactSmall", fn := fun _ => fun
  | [d1, d2] => { results := [.lit (.bool true)], args := [d1, d2] }
  | _ => none }
def fnExactSmallRow : OpenClaim := { program := "ytnckhligcdieaaa", sum := "ad617f2a3f9be73ab09a98ab3465d42062145d052edf4b30c38a1c9f72d65473", func := "loop.example/g00186/laws.FnExactSmall", spec := "fnExactSmall", apart := false }
def FnExactSmallSaid : Prop := fnExactSmallRow.holds Try.pinned (OpenSpec.ofChange fnExactSmallSpec)

/-- ITS FALSE NEIGHBOUR: 'it returns false'. Refute it at one input. -/
def fnExactSmallWrong : ChangeSpec := { name := "fnExactSmall", fn := fun _ => fun
  | [d1, d2] => { results := [.lit (.bool false)], args := [d1, d2] }
  | _ => none }
def FnExactSmallWrongFalsely : Prop := fnExactSmallRow.holds Try.pinned (OpenSpec.ofChange fnExactSmallWrong)

/-- 'laws.FnExactUniform': WHATEVER THE INPUT: true; the input reads as it did. -/
def fnExactUniformSpec : ChangeSpec := { name := "fnExactUniform", fn := fun _ => fun
  | [d1, d2, d3] => { results := [.lit (.bool true)], args := [d1, d2, d3] }
  | _ => none }
def fnExactUniformRow : OpenClaim := { program := "ytnckhligcdieaaa", sum := "ad617f2a3f9be73ab09a98ab3465d42062145d052edf4b30c38a1c9f72d65473", func := "loop.example/g00186/laws.FnExactUniform", spec := "fnExactUniform", apart := false }
def FnExactUniformSaid : Prop := fnExactUniformRow.holds Try.pinned (OpenSpec.ofChange fnExactUniformSpec)

/-- ITS FALSE NEIGHBOUR: 'it returns false'. Refute it at one input. -/
def fnExactUniformWrong : ChangeSpec := { name := "fnExactUniform", fn := fun _ => fun
  | [d1, d2, d3] => { results := [.lit (.bool false)], args := [d1, d2, d3] }
  | _ => none }
def FnExactUniformWrongFalsely : Prop := fnExactUniformRow.holds Try.pinned (OpenSpec.ofChange fnExactUniformWrong)

/-- 'laws.FnSamples': WHATEVER THE INPUT: true; the input reads as it did. -/
def fnSamplesSpec : ChangeSpec := { name := "fnSamples", fn := fun _ => fun
  | [d] => { results := [.lit (.bool true)], args := [d] }
  | _ => none }
def fnSamplesRow : OpenClaim := { program := "ytnckhligcdieaaa", sum := "ad617f2a3f9be73ab09a98ab3465d42062145d052edf4b30c38a1c9f72d65473", func := "loop.example/g00186/laws.FnSamples", spec := "fnSamples", apart := false }
def FnSamplesSaid : Prop := fnSamplesRow.holds Try.pinned (OpenSpec.ofChange fnSamplesSpec)

/-- ITS FALSE NEIGHBOUR: 'it returns false'. Refute it at one input. -/
def fnSamplesWrong : ChangeSpec := { name := "fnSamples", fn := fun _ => fun
  | [d] => { results := [.lit (.bool false)], args := [d] }
  | _ => none }
def FnSamplesWrongFalsely : Prop := fnSamplesRow.holds Try.pinned (OpenSpec.ofChange fnSamplesWrong)

/-- 'laws.FnHyperReads': WHATEVER THE INPUT: true; the input reads as it did. -/
def fnHyperReadsSpec : ChangeSpec := { name := "fnHyperReads", fn := fun _ => fun
  | [d] => { results := [.lit (.bool true)], args := [d] }
  | _ => none }
def fnHyperReadsRow : OpenClaim := { program := "ytnckhligcdieaaa", sum := "ad617f2a3f9be73ab09a98ab3465d42062145d052edf4b30c38a1c9f72d65473", func := "loop.example/g00186/laws.FnHyperReads", spec := "fnHyperReads", apart := false }
def FnHyperReadsSaid : Prop := fnHyperReadsRow.holds Try.pinned (OpenSpec.ofChange fnHyperReadsSpec)

/-- ITS FALSE NEIGHBOUR: 'it returns false'. Refute it at one input. -/
def fnHyperReadsWrong : ChangeSpec := { name := "fnHyperReads", fn := fun _ => fun
  | [d] => { results := [.lit (.bool false)], args := [d] }
  | _ => none }
def FnHyperReadsWrongFalsely : Prop := fnHyperReadsRow.holds Try.pinned (OpenSpec.ofChange fnHyperReadsWrong)

/-- 'laws.FnExactEncrypt': WHATEVER THE INPUT: true; the input reads as it did. -/
def fnExactEncryptSpec : ChangeSpec := { name := "fnExactEncrypt", fn := fun _ => fun
  | [d1, d2, d3] => { results := [.lit (.bool true)], args := [d1, d2, d3] }
  | _ => none }
def fnExactEncryptRow : OpenClaim := { program := "ytnckhligcdieaaa", sum := "ad617f2a3f9be73ab09a98ab3465d42062145d052edf4b30c38a1c9f72d65473", func := "loop.example/g00186/laws.FnExactEncrypt", spec := "fnExactEncrypt", unfollowed := true, recurses := true, apart := false }
def FnExactEncryptSaid : Prop := fnExactEncryptRow.holds Try.pinned (OpenSpec.ofChange fnExactEncryptSpec)

/-- ITS FALSE NEIGHBOUR: 'it returns false'. Refute it at one input. -/
def fnExactEncryptWrong : ChangeSpec := { name := "fnExactEncrypt", fn := fun _ => fun
  | [d1, d2, d3] => { results := [.lit (.bool false)], args := [d1, d2, d3] }
  | _ => none }
def FnExactEncryptWrongFalsely : Prop := fnExactEncryptRow.holds Try.pinned (OpenSpec.ofChange fnExactEncryptWrong)

/- THE SECOND FORM. 'bulk': how many values and letters a reading holds, each counted each time it is reached (what is shared counts as often as it is met; a slice's spare places count too). A statement '..UptoSaid' is the law's where the arguments, and the package variables that the reading takes, are together of bulk at most 1048576: NARROWER than '..Said'. Prove '..Said' where nothing that the law and all that it calls make is longer than what came in: it says more and counts as full. Else prove '..UptoSaid'. A law counts once. -/
mutual
def uptoBulk {H : Type} : DataW H → Nat
  | .lit (.string bytes) => bytes.length + 1
  | .lit _ => 1
  | .nil => 1
  | .ptr d => uptoBulk d + 1
  | .slice elems spare => uptoBulkAll elems + uptoBulkAll spare + 1
  | .agg parts => uptoBulkAll parts + 1
  | .iface _ d => uptoBulk d + 1
  | .map entries => uptoBulkEntries entries + 1
  | .held _ => 1
def uptoBulkAll {H : Type} : List (DataW H) → Nat
  | [] => 0
  | d :: r => uptoBulk d + uptoBulkAll r
def uptoBulkEntries {H : Type} : List (Lit × DataW H) → Nat
  | [] => 0
  | x :: r => uptoBulkEntry x + uptoBulkEntries r
def uptoBulkEntry {H : Type} : Lit × DataW H → Nat
  | (.string bytes, d) => bytes.length + uptoBulk d + 1
  | (_, d) => uptoBulk d + 1
 end
def uptoSmall : (H : Type) → List (DataW H) → Bool := fun _ ds => decide (uptoBulkAll ds ≤ 1048576)
def OpenSpec.upto (s : _root_.Go.ChangeSpec) : _root_.Go.OpenSpec := { _root_.Go.OpenSpec.ofChange s with cond := some uptoSmall }

/-- 'laws.FnExactSmall', WHERE WHAT IT READS IS OF BULK AT MOST 1048576: true; the input reads as it did. -/
def fnExactSmallUptoRow : OpenClaim := { program := "ytnckhligcdieaaa", sum := "ad617f2a3f9be73ab09a98ab3465d42062145d052edf4b30c38a1c9f72d65473", func := "loop.example/g00186/laws.FnExactSmall", spec := "fnExactSmall", apart := false, narrowed := true }
def FnExactSmallUptoSaid : Prop := fnExactSmallUptoRow.holds Try.pinned (OpenSpec.upto fnExactSmallSpec)

/-- 'laws.FnExactUniform', WHERE WHAT IT READS IS OF BULK AT MOST 1048576: true; the input reads as it did. -/
def fnExactUniformUptoRow : OpenClaim := { program := "ytnckhligcdieaaa", sum := "ad617f2a3f9be73ab09a98ab3465d42062145d052edf4b30c38a1c9f72d65473", func := "loop.example/g00186/laws.FnExactUniform", spec := "fnExactUniform", apart := false, narrowed := true }
def FnExactUniformUptoSaid : Prop := fnExactUniformUptoRow.holds Try.pinned (OpenSpec.upto fnExactUniformSpec)

/-- 'laws.FnSamples', WHERE WHAT IT READS IS OF BULK AT MOST 1048576: true; the input reads as it did. -/
def fnSamplesUptoRow : OpenClaim := { program := "ytnckhligcdieaaa", sum := "ad617f2a3f9be73ab09a98ab3465d42062145d052edf4b30c38a1c9f72d65473", func := "loop.example/g00186/laws.FnSamples", spec := "fnSamples", apart := false, narrowed := true }
def FnSamplesUptoSaid : Prop := fnSamplesUptoRow.holds Try.pinned (OpenSpec.upto fnSamplesSpec)

/-- 'laws.FnHyperReads', WHERE WHAT IT READS IS OF BULK AT MOST 1048576: true; the input reads as it did. -/
def fnHyperReadsUptoRow : OpenClaim := { program := "ytnckhligcdieaaa", sum := "ad617f2a3f9be73ab09a98ab3465d42062145d052edf4b30c38a1c9f72d65473", func := "loop.example/g00186/laws.FnHyperReads", spec := "fnHyperReads", apart := false, narrowed := true }
def FnHyperReadsUptoSaid : Prop := fnHyperReadsUptoRow.holds Try.pinned (OpenSpec.upto fnHyperReadsSpec)

/-- 'laws.FnExactEncrypt', WHERE WHAT IT READS IS OF BULK AT MOST 1048576: true; the input reads as it did. -/
def fnExactEncryptUptoRow : OpenClaim := { program := "ytnckhligcdieaaa", sum := "ad617f2a3f9be73ab09a98ab3465d42062145d052edf4b30c38a1c9f72d65473", func := "loop.example/g00186/laws.FnExactEncrypt", spec := "fnExactEncrypt", unfollowed := true, recurses := true, apart := false, narrowed := true }
def FnExactEncryptUptoSaid : Prop := fnExactEncryptUptoRow.holds Try.pinned (OpenSpec.upto fnExactEncryptSpec)

end Rows
end Go.Proofs.Ytnckhligcdieaaa
