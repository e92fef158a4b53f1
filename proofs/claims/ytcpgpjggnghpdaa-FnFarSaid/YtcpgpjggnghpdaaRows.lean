/-
  No cell of these rows narrows 'for every input' (looked for: loops, veiled, ifaces, maps, wideKeys, modest, calm, conditions, laid).
  DERIVED. THE GIVEN ROWS OF THIS SEAT. 10 by the template 'for every input the law returns true; each argument reads behind the call as it read before'; 0 by the template 'total and deterministic' (their statements: YtcpgpjggnghpdaaTotals.lean).
  GIVEN WITH THE SEED: the statements are not yours to turn. If you find one false, say at which input.
  Laid BY PROGRAM, IN A SANDBOX (cutbox-rows.mjs): the forced cells as the released guide's own fill.sh prints them over the translation 6ecf088f62017945… (all of the seat's roots in one cut). By AI agents, Wed Nov 11 2026. No macro, syntax, notation, axiom, sorry.
-/
import Derived.Test.YtcpgpjggnghpdaaChecked
import GoSem.Claim
import GoSem.ClaimJoined
import GoSem.ClaimMapViews
import Derived.JoinedTies
import Derived.KernelRfl
namespace Go.Proofs.Ytcpgpjggnghpdaa
/- THE CELL 'sum', in the pinned program and in every row, IS THE sha256 OF THE DUMP (.gsa) THAT YtcpgpjggnghpdaaProg.lean LOADS. Nothing in Lean hashes anything: it is a label: what it is worth is what the hold of that sum in a sandbox is worth. -/
noncomputable def Try.pinned : Pinned := { name := "ytcpgpjggnghpdaa", sum := "6ecf088f620179452b60d88732d801720d4c32293762ee578d44758b8176ce3e", checked := Try.checked }
namespace Rows
def none {H : Type} : Left H := { results := [], args := [] }

/-- 'laws.FnFar': WHATEVER THE INPUT: true; the input reads as it did. -/
def fnFarSpec : ChangeSpec := { name := "fnFar", fn := fun _ => fun
  | [d] => { results := [.lit (.bool true)], args := [d] }
  | _ => none }
def fnFarRow : OpenClaim := { program := "ytcpgpjggnghpdaa", sum := "6ecf088f620179452b60d88732d801720d4c32293762ee578d44758b8176ce3e", func := "loop.example/g00186/laws.FnFar", spec := "fnFar", unfollowed := true, recurses := true, apart := false }
def FnFarSaid : Prop := fnFarRow.holds Try.pinned (OpenSpec.ofChange fnFarSpec)

/-- ITS FALSE NEIGHBOUR: 'it returns false'. Refute it at one input. -/
def fnFarWrong : ChangeSpec := { name := "fnFar", fn := fun _ => fun
  | [d] => { results := [.lit (.bool false)], args := [d] }
  | _ => none }
def FnFarWrongFalsely : Prop := fnFarRow.holds Try.pinned (OpenSpec.ofChange fnFarWrong)

/-- 'laws.FnExactPublicOk': WHATEVER THE INPUT: true; the input reads as it did. -/
def fnExactPublicOkSpec : ChangeSpec := { name := "fnExactPublicOk", fn := fun _ => fun
  | [d] => { results := [.lit (.bool true)], args := [d] }
  | _ => none }
def fnExactPublicOkRow : OpenClaim := { program := "ytcpgpjggnghpdaa", sum := "6ecf088f620179452b60d88732d801720d4c32293762ee578d44758b8176ce3e", func := "loop.example/g00186/laws.FnExactPublicOk", spec := "fnExactPublicOk", apart := false }
def FnExactPublicOkSaid : Prop := fnExactPublicOkRow.holds Try.pinned (OpenSpec.ofChange fnExactPublicOkSpec)

/-- ITS FALSE NEIGHBOUR: 'it returns false'. Refute it at one input. -/
def fnExactPublicOkWrong : ChangeSpec := { name := "fnExactPublicOk", fn := fun _ => fun
  | [d] => { results := [.lit (.bool false)], args := [d] }
  | _ => none }
def FnExactPublicOkWrongFalsely : Prop := fnExactPublicOkRow.holds Try.pinned (OpenSpec.ofChange fnExactPublicOkWrong)

/-- 'laws.FnTransforms': WHATEVER THE INPUT: true; the input reads as it did. -/
def fnTransformsSpec : ChangeSpec := { name := "fnTransforms", fn := fun _ => fun
  | [d] => { results := [.lit (.bool true)], args := [d] }
  | _ => none }
def fnTransformsRow : OpenClaim := { program := "ytcpgpjggnghpdaa", sum := "6ecf088f620179452b60d88732d801720d4c32293762ee578d44758b8176ce3e", func := "loop.example/g00186/laws.FnTransforms", spec := "fnTransforms", apart := false }
def FnTransformsSaid : Prop := fnTransformsRow.holds Try.pinned (OpenSpec.ofChange fnTransformsSpec)

/-- ITS FALSE NEIGHBOUR: 'it returns false'. Refute it at one input. -/
def fnTransformsWrong : ChangeSpec := { name := "fnTransforms", fn := fun _ => fun
  | [d] => { results := [.lit (.bool false)], args := [d] }
  | _ => none }
def FnTransformsWrongFalsely : Prop := fnTransformsRow.holds Try.pinned (OpenSpec.ofChange fnTransformsWrong)

/-- 'laws.FnExactMulNtt': WHATEVER THE INPUT: true; the input reads as it did. -/
def fnExactMulNttSpec : ChangeSpec := { name := "fnExactMulNtt", fn := fun _ => fun
  | [d1, d2] => { results := [.lit (.bool true)], args := [d1, d2] }
  | _ => none }
def fnExactMulNttRow : OpenClaim := { program := "ytcpgpjggnghpdaa", sum := "6ecf088f620179452b60d88732d801720d4c32293762ee578d44758b8176ce3e", func := "loop.example/g00186/laws.FnExactMulNtt", spec := "fnExactMulNtt", apart := false }
def FnExactMulNttSaid : Prop := fnExactMulNttRow.holds Try.pinned (OpenSpec.ofChange fnExactMulNttSpec)

/-- ITS FALSE NEIGHBOUR: 'it returns false'. Refute it at one input. -/
def fnExactMulNttWrong : ChangeSpec := { name := "fnExactMulNtt", fn := fun _ => fun
  | [d1, d2] => { results := [.lit (.bool false)], args := [d1, d2] }
  | _ => none }
def FnExactMulNttWrongFalsely : Prop := fnExactMulNttRow.holds Try.pinned (OpenSpec.ofChange fnExactMulNttWrong)

/-- 'laws.FnExactHyperIndex': WHATEVER THE INPUT: true; the input reads as it did. -/
def fnExactHyperIndexSpec : ChangeSpec := { name := "fnExactHyperIndex", fn := fun _ => fun
  | [d] => { results := [.lit (.bool true)], args := [d] }
  | _ => none }
def fnExactHyperIndexRow : OpenClaim := { program := "ytcpgpjggnghpdaa", sum := "6ecf088f620179452b60d88732d801720d4c32293762ee578d44758b8176ce3e", func := "loop.example/g00186/laws.FnExactHyperIndex", spec := "fnExactHyperIndex", apart := false }
def FnExactHyperIndexSaid : Prop := fnExactHyperIndexRow.holds Try.pinned (OpenSpec.ofChange fnExactHyperIndexSpec)

/-- ITS FALSE NEIGHBOUR: 'it returns false'. Refute it at one input. -/
def fnExactHyperIndexWrong : ChangeSpec := { name := "fnExactHyperIndex", fn := fun _ => fun
  | [d] => { results := [.lit (.bool false)], args := [d] }
  | _ => none }
def FnExactHyperIndexWrongFalsely : Prop := fnExactHyperIndexRow.holds Try.pinned (OpenSpec.ofChange fnExactHyperIndexWrong)

/-- 'laws.FnLinear': WHATEVER THE INPUT: true; the input reads as it did. -/
def fnLinearSpec : ChangeSpec := { name := "fnLinear", fn := fun _ => fun
  | [d] => { results := [.lit (.bool true)], args := [d] }
  | _ => none }
def fnLinearRow : OpenClaim := { program := "ytcpgpjggnghpdaa", sum := "6ecf088f620179452b60d88732d801720d4c32293762ee578d44758b8176ce3e", func := "loop.example/g00186/laws.FnLinear", spec := "fnLinear", unfollowed := true, recurses := true, apart := false }
def FnLinearSaid : Prop := fnLinearRow.holds Try.pinned (OpenSpec.ofChange fnLinearSpec)

/-- ITS FALSE NEIGHBOUR: 'it returns false'. Refute it at one input. -/
def fnLinearWrong : ChangeSpec := { name := "fnLinear", fn := fun _ => fun
  | [d] => { results := [.lit (.bool false)], args := [d] }
  | _ => none }
def FnLinearWrongFalsely : Prop := fnLinearRow.holds Try.pinned (OpenSpec.ofChange fnLinearWrong)

/-- 'laws.FnExactNtt': WHATEVER THE INPUT: true; the input reads as it did. -/
def fnExactNttSpec : ChangeSpec := { name := "fnExactNtt", fn := fun _ => fun
  | [d] => { results := [.lit (.bool true)], args := [d] }
  | _ => none }
def fnExactNttRow : OpenClaim := { program := "ytcpgpjggnghpdaa", sum := "6ecf088f620179452b60d88732d801720d4c32293762ee578d44758b8176ce3e", func := "loop.example/g00186/laws.FnExactNtt", spec := "fnExactNtt", apart := false }
def FnExactNttSaid : Prop := fnExactNttRow.holds Try.pinned (OpenSpec.ofChange fnExactNttSpec)

/-- ITS FALSE NEIGHBOUR: 'it returns false'. Refute it at one input. -/
def fnExactNttWrong : ChangeSpec := { name := "fnExactNtt", fn := fun _ => fun
  | [d] => { results := [.lit (.bool false)], args := [d] }
  | _ => none }
def FnExactNttWrongFalsely : Prop := fnExactNttRow.holds Try.pinned (OpenSpec.ofChange fnExactNttWrong)

/-- 'laws.FnExactReadHyper': WHATEVER THE INPUT: true; the input reads as it did. -/
def fnExactReadHyperSpec : ChangeSpec := { name := "fnExactReadHyper", fn := fun _ => fun
  | [d] => { results := [.lit (.bool true)], args := [d] }
  | _ => none }
def fnExactReadHyperRow : OpenClaim := { program := "ytcpgpjggnghpdaa", sum := "6ecf088f620179452b60d88732d801720d4c32293762ee578d44758b8176ce3e", func := "loop.example/g00186/laws.FnExactReadHyper", spec := "fnExactReadHyper", apart := false }
def FnExactReadHyperSaid : Prop := fnExactReadHyperRow.holds Try.pinned (OpenSpec.ofChange fnExactReadHyperSpec)

/-- ITS FALSE NEIGHBOUR: 'it returns false'. Refute it at one input. -/
def fnExactReadHyperWrong : ChangeSpec := { name := "fnExactReadHyper", fn := fun _ => fun
  | [d] => { results := [.lit (.bool false)], args := [d] }
  | _ => none }
def FnExactReadHyperWrongFalsely : Prop := fnExactReadHyperRow.holds Try.pinned (OpenSpec.ofChange fnExactReadHyperWrong)

/-- 'laws.FnExactInvNtt': WHATEVER THE INPUT: true; the input reads as it did. -/
def fnExactInvNttSpec : ChangeSpec := { name := "fnExactInvNtt", fn := fun _ => fun
  | [d] => { results := [.lit (.bool true)], args := [d] }
  | _ => none }
def fnExactInvNttRow : OpenClaim := { program := "ytcpgpjggnghpdaa", sum := "6ecf088f620179452b60d88732d801720d4c32293762ee578d44758b8176ce3e", func := "loop.example/g00186/laws.FnExactInvNtt", spec := "fnExactInvNtt", apart := false }
def FnExactInvNttSaid : Prop := fnExactInvNttRow.holds Try.pinned (OpenSpec.ofChange fnExactInvNttSpec)

/-- ITS FALSE NEIGHBOUR: 'it returns false'. Refute it at one input. -/
def fnExactInvNttWrong : ChangeSpec := { name := "fnExactInvNtt", fn := fun _ => fun
  | [d] => { results := [.lit (.bool false)], args := [d] }
  | _ => none }
def FnExactInvNttWrongFalsely : Prop := fnExactInvNttRow.holds Try.pinned (OpenSpec.ofChange fnExactInvNttWrong)

/-- 'laws.FnExactHyperText': WHATEVER THE INPUT: true; the input reads as it did. -/
def fnExactHyperTextSpec : ChangeSpec := { name := "fnExactHyperText", fn := fun _ => fun
  | [d] => { results := [.lit (.bool true)], args := [d] }
  | _ => none }
def fnExactHyperTextRow : OpenClaim := { program := "ytcpgpjggnghpdaa", sum := "6ecf088f620179452b60d88732d801720d4c32293762ee578d44758b8176ce3e", func := "loop.example/g00186/laws.FnExactHyperText", spec := "fnExactHyperText", apart := false }
def FnExactHyperTextSaid : Prop := fnExactHyperTextRow.holds Try.pinned (OpenSpec.ofChange fnExactHyperTextSpec)

/-- ITS FALSE NEIGHBOUR: 'it returns false'. Refute it at one input. -/
def fnExactHyperTextWrong : ChangeSpec := { name := "fnExactHyperText", fn := fun _ => fun
  | [d] => { results := [.lit (.bool false)], args := [d] }
  | _ => none }
def FnExactHyperTextWrongFalsely : Prop := fnExactHyperTextRow.holds Try.pinned (OpenSpec.ofChange fnExactHyperTextWrong)

/- THE SECOND FORM. 'bulk': how many values and letters a reading holds, each counted each time it is reached (what is shared counts as often as it is met; a slice's spare places count too). A statement '..UptoSaid' is the law's where the arguments, and the package variables that the reading takes, are together of bulk at most 1048576: NARROWER than '..Said'. Prove '..Said' where nothing that the law and all that it calls make is longer than what came in: it says more and counts as full. Else prove '..UptoSaid'. A law counts once. -/
mutual
def uptoBulk {H : Type} : DataW H → Nat
  | .lit (.string bytes) => bytes.length + 1
  | .lit _ => 1
  | .nil => 1
  | .ptr d => uptoBulk d + 1
  | .slice elems spare => uptoBulkAll elems + uptoBulkAll spare + 1
  | .agg parts => uptoBulkAll parts + 1
  | .iface _ d => uptoBulk d + 1
  | .map entries => uptoBulkEntries entries + 1
  | .held _ => 1
def uptoBulkAll {H : Type} : List (DataW H) → Nat
  | [] => 0
  | d :: r => uptoBulk d + uptoBulkAll r
def uptoBulkEntries {H : Type} : List (Lit × DataW H) → Nat
  | [] => 0
  | x :: r => uptoBulkEntry x + uptoBulkEntries r
def uptoBulkEntry {H : Type} : Lit × DataW H → Nat
  | (.string bytes, d) => bytes.length + uptoBulk d + 1
  | (_, d) => uptoBulk d + 1
 end
def uptoSmall : (H : Type) → List (DataW H) → Bool := fun _ ds => decide (uptoBulkAll ds ≤ 1048576)
def OpenSpec.upto (s : _root_.Go.ChangeSpec) : _root_.Go.OpenSpec := { _root_.Go.OpenSpec.ofChange s with cond := some uptoSmall }

/-- 'laws.FnFar', WHERE WHAT IT READS IS OF BULK AT MOST 1048576: true; the input reads as it did. -/
def fnFarUptoRow : OpenClaim := { program := "ytcpgpjggnghpdaa", sum := "6ecf088f620179452b60d88732d801720d4c32293762ee578d44758b8176ce3e", func := "loop.example/g00186/laws.FnFar", spec := "fnFar", unfollowed := true, recurses := true, apart := false, narrowed := true }
def FnFarUptoSaid : Prop := fnFarUptoRow.holds Try.pinned (OpenSpec.upto fnFarSpec)

/-- 'laws.FnExactPublicOk', WHERE WHAT IT READS IS OF BULK AT MOST 1048576: true; the input reads as it did. -/
def fnExactPublicOkUptoRow : OpenClaim := { program := "ytcpgpjggnghpdaa", sum := "6ecf088f620179452b60d88732d801720d4c32293762ee578d44758b8176ce3e", func := "loop.example/g00186/laws.FnExactPublicOk", spec := "fnExactPublicOk", apart := false, narrowed := true }
def FnExactPublicOkUptoSaid : Prop := fnExactPublicOkUptoRow.holds Try.pinned (OpenSpec.upto fnExactPublicOkSpec)

/-- 'laws.FnTransforms', WHERE WHAT IT READS IS OF BULK AT MOST 1048576: true; the input reads as it did. -/
def fnTransformsUptoRow : OpenClaim := { program := "ytcpgpjggnghpdaa", sum := "6ecf088f620179452b60d88732d801720d4c32293762ee578d44758b8176ce3e", func := "loop.example/g00186/laws.FnTransforms", spec := "fnTransforms", apart := false, narrowed := true }
def FnTransformsUptoSaid : Prop := fnTransformsUptoRow.holds Try.pinned (OpenSpec.upto fnTransformsSpec)

/-- 'laws.FnExactMulNtt', WHERE WHAT IT READS IS OF BULK AT MOST 1048576: true; the input reads as it did. -/
def fnExactMulNttUptoRow : OpenClaim := { program := "ytcpgpjggnghpdaa", sum := "6ecf088f620179452b60d88732d801720d4c32293762ee578d44758b8176ce3e", func := "loop.example/g00186/laws.FnExactMulNtt", spec := "fnExactMulNtt", apart := false, narrowed := true }
def FnExactMulNttUptoSaid : Prop := fnExactMulNttUptoRow.holds Try.pinned (OpenSpec.upto fnExactMulNttSpec)

/-- 'laws.FnExactHyperIndex', WHERE WHAT IT READS IS OF BULK AT MOST 1048576: true; the input reads as it did. -/
def fnExactHyperIndexUptoRow : OpenClaim := { program := "ytcpgpjggnghpdaa", sum := "6ecf088f620179452b60d88732d801720d4c32293762ee578d44758b8176ce3e", func := "loop.example/g00186/laws.FnExactHyperIndex", spec := "fnExactHyperIndex", apart := false, narrowed := true }
def FnExactHyperIndexUptoSaid : Prop := fnExactHyperIndexUptoRow.holds Try.pinned (OpenSpec.upto fnExactHyperIndexSpec)

/-- 'laws.FnLinear', WHERE WHAT IT READS IS OF BULK AT MOST 1048576: true; the input reads as it did. -/
def fnLinearUptoRow : OpenClaim := { program := "ytcpgpjggnghpdaa", sum := "6ecf088f620179452b60d88732d801720d4c32293762ee578d44758b8176ce3e", func := "loop.example/g00186/laws.FnLinear", spec := "fnLinear", unfollowed := true, recurses := true, apart := false, narrowed := true }
def FnLinearUptoSaid : Prop := fnLinearUptoRow.holds Try.pinned (OpenSpec.upto fnLinearSpec)

/-- 'laws.FnExactNtt', WHERE WHAT IT READS IS OF BULK AT MOST 1048576: true; the input reads as it did. -/
def fnExactNttUptoRow : OpenClaim := { program := "ytcpgpjggnghpdaa", sum := "6ecf088f620179452b60d88732d801720d4c32293762ee578d44758b8176ce3e", func := "loop.example/g00186/laws.FnExactNtt", spec := "fnExactNtt", apart := false, narrowed := true }
def FnExactNttUptoSaid : Prop := fnExactNttUptoRow.holds Try.pinned (OpenSpec.upto fnExactNttSpec)

/-- 'laws.FnExactReadHyper', WHERE WHAT IT READS IS OF BULK AT MOST 1048576: true; the input reads as it did. -/
def fnExactReadHyperUptoRow : OpenClaim := { program := "ytcpgpjggnghpdaa", sum := "6ecf088f620179452b60d88732d801720d4c32293762ee578d44758b8176ce3e", func := "loop.example/g00186/laws.FnExactReadHyper", spec := "fnExactReadHyper", apart := false, narrowed := true }
def FnExactReadHyperUptoSaid : Prop := fnExactReadHyperUptoRow.holds Try.pinned (OpenSpec.upto fnExactReadHyperSpec)

/-- 'laws.FnExactInvNtt', WHERE WHAT IT READS IS OF BULK AT MOST 1048576: true; the input reads as it did. -/
def fnExactInvNttUptoRow : OpenClaim := { program := "ytcpgpjggnghpdaa", sum := "6ecf088f620179452b60d88732d801720d4c32293762ee578d44758b8176ce3e", func := "loop.example/g00186/laws.FnExactInvNtt", spec := "fnExactInvNtt", apart := false, narrowed := true }
def FnExactInvNttUptoSaid : Prop := fnExactInvNttUptoRow.holds Try.pinned (OpenSpec.upto fnExactInvNttSpec)

/-- 'laws.FnExactHyperText', WHERE WHAT IT READS IS OF BULK AT MOST 1048576: true; the input reads as it did. -/
def fnExactHyperTextUptoRow : OpenClaim := { program := "ytcpgpjggnghpdaa", sum := "6ecf088f620179452b60d88732d801720d4c32293762ee578d44758b8176ce3e", func := "loop.example/g00186/laws.FnExactHyperText", spec := "fnExactHyperText", apart := false, narrowed := true }
def FnExactHyperTextUptoSaid : Prop := fnExactHyperTextUptoRow.holds Try.pinned (OpenSpec.upto fnExactHyperTextSpec)

end Rows
end Go.Proofs.Ytcpgpjggnghpdaa
