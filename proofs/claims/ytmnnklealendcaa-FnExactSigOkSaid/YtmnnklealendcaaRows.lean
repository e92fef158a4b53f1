/-
  No cell of these rows narrows 'for every input' (looked for: loops, veiled, ifaces, maps, wideKeys, modest, calm, conditions, laid).
  DERIVED. THE GIVEN ROWS OF THIS SEAT. 12 by the template 'for every input the law returns true; each argument reads behind the call as it read before'; 0 by the template 'total and deterministic' (their statements: YtmnnklealendcaaTotals.lean).
  GIVEN WITH THE SEED: the statements are not yours to turn. If you find one false, say at which input.
  Laid BY PROGRAM, IN A SANDBOX (cutbox-rows.mjs): the forced cells as the released guide's own fill.sh prints them over the translation 72093fdb377bc0c8… (all of the seat's roots in one cut). By AI agents, Wed Nov 11 2026. No macro, syntax, notation, axiom, sorry.
-/
import Derived.Test.YtmnnklealendcaaChecked
import GoSem.Claim
import GoSem.ClaimJoined
import GoSem.ClaimMapViews
import Derived.JoinedTies
import Derived.KernelRfl
namespace Go.Proofs.Ytmnnklealendcaa
/- THE CELL 'sum', in the pinned program and in every row, IS THE sha256 OF THE DUMP (.gsa) THAT YtmnnklealendcaaProg.lean LOADS. Nothing in Lean hashes anything: it is a label: what it is worth is what the hold of that sum in a sandbox is worth. -/
noncomputable def Try.pinned : Pinned := { name := "ytmnnklealendcaa", sum := "72093fdb377bc0c82506aa532a4fbf17b536ad12fdaf652ff4d4830e621d72b0", checked := Try.checked }
namespace Rows
def none {H : Type} : Left H := { results := [], args := [] }

/-- 'laws.FnExactSqueeze': WHATEVER THE INPUT: true; the input reads as it did. -/
def fnExactSqueezeSpec : ChangeSpec := { name := "fnExactSqueeze", fn := fun _ => fun
  | [d1, d2] => { results := [.lit (.bool true)], args := [d1, d2] }
  | _ => none }
def fnExactSqueezeRow : OpenClaim := { program := "ytmnnklealendcaa", sum := "72093fdb377bc0c82506aa532a4fbf17b536ad12fdaf652ff4d4830e621d72b0", func := "loop.example/g00186/laws.FnExactSqueeze", spec := "fnExactSqueeze", apart := false }
def FnExactSqueezeSaid : Prop := fnExactSqueezeRow.holds Try.pinned (OpenSpec.ofChange fnExactSqueezeSpec)

/-- ITS FALSE NEIGHBOUR: 'it returns false'. Refute it at one input. -/
def fnExactSqueezeWrong : ChangeSpec := { name := "fnExactSqueeze", fn := fun _ => fun
  | [d1, d2] => { results := [.lit (.bool false)], args := [d1, d2] }
  | _ => none }
def FnExactSqueezeWrongFalsely : Prop := fnExactSqueezeRow.holds Try.pinned (OpenSpec.ofChange fnExactSqueezeWrong)

/-- 'laws.FnExactStretch': WHATEVER THE INPUT: true; the input reads as it did. -/
def fnExactStretchSpec : ChangeSpec := { name := "fnExactStretch", fn := fun _ => fun
  | [d1, d2] => { results := [.lit (.bool true)], args := [d1, d2] }
  | _ => none }
def fnExactStretchRow : OpenClaim := { program := "ytmnnklealendcaa", sum := "72093fdb377bc0c82506aa532a4fbf17b536ad12fdaf652ff4d4830e621d72b0", func := "loop.example/g00186/laws.FnExactStretch", spec := "fnExactStretch", apart := false }
def FnExactStretchSaid : Prop := fnExactStretchRow.holds Try.pinned (OpenSpec.ofChange fnExactStretchSpec)

/-- ITS FALSE NEIGHBOUR: 'it returns false'. Refute it at one input. -/
def fnExactStretchWrong : ChangeSpec := { name := "fnExactStretch", fn := fun _ => fun
  | [d1, d2] => { results := [.lit (.bool false)], args := [d1, d2] }
  | _ => none }
def FnExactStretchWrongFalsely : Prop := fnExactStretchRow.holds Try.pinned (OpenSpec.ofChange fnExactStretchWrong)

/-- 'laws.FnExactSmallOk': WHATEVER THE INPUT: true; the input reads as it did. -/
def fnExactSmallOkSpec : ChangeSpec := { name := "fnExactSmallOk", fn := fun _ => fun
  | [d] => { results := [.lit (.bool true)], args := [d] }
  | _ => none }
def fnExactSmallOkRow : OpenClaim := { program := "ytmnnklealendcaa", sum := "72093fdb377bc0c82506aa532a4fbf17b536ad12fdaf652ff4d4830e621d72b0", func := "loop.example/g00186/laws.FnExactSmallOk", spec := "fnExactSmallOk", apart := false }
def FnExactSmallOkSaid : Prop := fnExactSmallOkRow.holds Try.pinned (OpenSpec.ofChange fnExactSmallOkSpec)

/-- ITS FALSE NEIGHBOUR: 'it returns false'. Refute it at one input. -/
def fnExactSmallOkWrong : ChangeSpec := { name := "fnExactSmallOk", fn := fun _ => fun
  | [d] => { results := [.lit (.bool false)], args := [d] }
  | _ => none }
def FnExactSmallOkWrongFalsely : Prop := fnExactSmallOkRow.holds Try.pinned (OpenSpec.ofChange fnExactSmallOkWrong)

/-- 'laws.FnExactPack': WHATEVER THE INPUT: true; the input reads as it did. -/
def fnExactPackSpec : ChangeSpec := { name := "fnExactPack", fn := fun _ => fun
  | [d1, d2] => { results := [.lit (.bool true)], args := [d1, d2] }
  | _ => none }
def fnExactPackRow : OpenClaim := { program := "ytmnnklealendcaa", sum := "72093fdb377bc0c82506aa532a4fbf17b536ad12fdaf652ff4d4830e621d72b0", func := "loop.example/g00186/laws.FnExactPack", spec := "fnExactPack", apart := false }
def FnExactPackSaid : Prop := fnExactPackRow.holds Try.pinned (OpenSpec.ofChange fnExactPackSpec)

/-- ITS FALSE NEIGHBOUR: 'it returns false'. Refute it at one input. -/
def fnExactPackWrong : ChangeSpec := { name := "fnExactPack", fn := fun _ => fun
  | [d1, d2] => { results := [.lit (.bool false)], args := [d1, d2] }
  | _ => none }
def FnExactPackWrongFalsely : Prop := fnExactPackRow.holds Try.pinned (OpenSpec.ofChange fnExactPackWrong)

/-- 'laws.FnExactUnpack': WHATEVER THE INPUT: true; the input reads as it did. -/
def fnExactUnpackSpec : ChangeSpec := { name := "fnExactUnpack", fn := fun _ => fun
  | [d1, d2, d3] => { results := [.lit (.bool true)], args := [d1, d2, d3] }
  | _ => none }
def fnExactUnpackRow : OpenClaim := { program := "ytmnnklealendcaa", sum := "72093fdb377bc0c82506aa532a4fbf17b536ad12fdaf652ff4d4830e621d72b0", func := "loop.example/g00186/laws.FnExactUnpack", spec := "fnExactUnpack", apart := false }
def FnExactUnpackSaid : Prop := fnExactUnpackRow.holds Try.pinned (OpenSpec.ofChange fnExactUnpackSpec)

/-- ITS FALSE NEIGHBOUR: 'it returns false'. Refute it at one input. -/
def fnExactUnpackWrong : ChangeSpec := { name := "fnExactUnpack", fn := fun _ => fun
  | [d1, d2, d3] => { results := [.lit (.bool false)], args := [d1, d2, d3] }
  | _ => none }
def FnExactUnpackWrongFalsely : Prop := fnExactUnpackRow.holds Try.pinned (OpenSpec.ofChange fnExactUnpackWrong)

/-- 'laws.FnExactSigOk': WHATEVER THE INPUT: true; the input reads as it did. -/
def fnExactSigOkSpec : ChangeSpec := { name := "fnExactSigOk", fn := fun _ => fun
  | [d] => { results := [.lit (.bool true)], args := [d] }
  | _ => none }
def fnExactSigOkRow : OpenClaim := { program := "ytmnnklealendcaa", sum := "72093fdb377bc0c82506aa532a4fbf17b536ad12fdaf652ff4d4830e621d72b0", func := "loop.example/g00186/laws.FnExactSigOk", spec := "fnExactSigOk", apart := false }
def FnExactSigOkSaid : Prop := fnExactSigOkRow.holds Try.pinned (OpenSpec.ofChange fnExactSigOkSpec)

/-- ITS FALSE NEIGHBOUR: 'it returns false'. Refute it at one input. -/
def fnExactSigOkWrong : ChangeSpec := { name := "fnExactSigOk", fn := fun _ => fun
  | [d] => { results := [.lit (.bool false)], args := [d] }
  | _ => none }
def FnExactSigOkWrongFalsely : Prop := fnExactSigOkRow.holds Try.pinned (OpenSpec.ofChange fnExactSigOkWrong)

/-- 'laws.FnExactPolyBytes': WHATEVER THE INPUT: true; the input reads as it did. -/
def fnExactPolyBytesSpec : ChangeSpec := { name := "fnExactPolyBytes", fn := fun _ => fun
  | [d] => { results := [.lit (.bool true)], args := [d] }
  | _ => none }
def fnExactPolyBytesRow : OpenClaim := { program := "ytmnnklealendcaa", sum := "72093fdb377bc0c82506aa532a4fbf17b536ad12fdaf652ff4d4830e621d72b0", func := "loop.example/g00186/laws.FnExactPolyBytes", spec := "fnExactPolyBytes", apart := false }
def FnExactPolyBytesSaid : Prop := fnExactPolyBytesRow.holds Try.pinned (OpenSpec.ofChange fnExactPolyBytesSpec)

/-- ITS FALSE NEIGHBOUR: 'it returns false'. Refute it at one input. -/
def fnExactPolyBytesWrong : ChangeSpec := { name := "fnExactPolyBytes", fn := fun _ => fun
  | [d] => { results := [.lit (.bool false)], args := [d] }
  | _ => none }
def FnExactPolyBytesWrongFalsely : Prop := fnExactPolyBytesRow.holds Try.pinned (OpenSpec.ofChange fnExactPolyBytesWrong)

/-- 'laws.FnSqueezes': WHATEVER THE INPUT: true; the input reads as it did. -/
def fnSqueezesSpec : ChangeSpec := { name := "fnSqueezes", fn := fun _ => fun
  | [d] => { results := [.lit (.bool true)], args := [d] }
  | _ => none }
def fnSqueezesRow : OpenClaim := { program := "ytmnnklealendcaa", sum := "72093fdb377bc0c82506aa532a4fbf17b536ad12fdaf652ff4d4830e621d72b0", func := "loop.example/g00186/laws.FnSqueezes", spec := "fnSqueezes", apart := false }
def FnSqueezesSaid : Prop := fnSqueezesRow.holds Try.pinned (OpenSpec.ofChange fnSqueezesSpec)

/-- ITS FALSE NEIGHBOUR: 'it returns false'. Refute it at one input. -/
def fnSqueezesWrong : ChangeSpec := { name := "fnSqueezes", fn := fun _ => fun
  | [d] => { results := [.lit (.bool false)], args := [d] }
  | _ => none }
def FnSqueezesWrongFalsely : Prop := fnSqueezesRow.holds Try.pinned (OpenSpec.ofChange fnSqueezesWrong)

/-- 'laws.FnExactReadSig': WHATEVER THE INPUT: true; the input reads as it did. -/
def fnExactReadSigSpec : ChangeSpec := { name := "fnExactReadSig", fn := fun _ => fun
  | [d] => { results := [.lit (.bool true)], args := [d] }
  | _ => none }
def fnExactReadSigRow : OpenClaim := { program := "ytmnnklealendcaa", sum := "72093fdb377bc0c82506aa532a4fbf17b536ad12fdaf652ff4d4830e621d72b0", func := "loop.example/g00186/laws.FnExactReadSig", spec := "fnExactReadSig", apart := false }
def FnExactReadSigSaid : Prop := fnExactReadSigRow.holds Try.pinned (OpenSpec.ofChange fnExactReadSigSpec)

/-- ITS FALSE NEIGHBOUR: 'it returns false'. Refute it at one input. -/
def fnExactReadSigWrong : ChangeSpec := { name := "fnExactReadSig", fn := fun _ => fun
  | [d] => { results := [.lit (.bool false)], args := [d] }
  | _ => none }
def FnExactReadSigWrongFalsely : Prop := fnExactReadSigRow.holds Try.pinned (OpenSpec.ofChange fnExactReadSigWrong)

/-- 'laws.FnRing': WHATEVER THE INPUT: true; the input reads as it did. -/
def fnRingSpec : ChangeSpec := { name := "fnRing", fn := fun _ => fun
  | [d] => { results := [.lit (.bool true)], args := [d] }
  | _ => none }
def fnRingRow : OpenClaim := { program := "ytmnnklealendcaa", sum := "72093fdb377bc0c82506aa532a4fbf17b536ad12fdaf652ff4d4830e621d72b0", func := "loop.example/g00186/laws.FnRing", spec := "fnRing", unfollowed := true, recurses := true, apart := false }
def FnRingSaid : Prop := fnRingRow.holds Try.pinned (OpenSpec.ofChange fnRingSpec)

/-- ITS FALSE NEIGHBOUR: 'it returns false'. Refute it at one input. -/
def fnRingWrong : ChangeSpec := { name := "fnRing", fn := fun _ => fun
  | [d] => { results := [.lit (.bool false)], args := [d] }
  | _ => none }
def FnRingWrongFalsely : Prop := fnRingRow.holds Try.pinned (OpenSpec.ofChange fnRingWrong)

/-- 'laws.FnExactPolyFrom': WHATEVER THE INPUT: true; the input reads as it did. -/
def fnExactPolyFromSpec : ChangeSpec := { name := "fnExactPolyFrom", fn := fun _ => fun
  | [d] => { results := [.lit (.bool true)], args := [d] }
  | _ => none }
def fnExactPolyFromRow : OpenClaim := { program := "ytmnnklealendcaa", sum := "72093fdb377bc0c82506aa532a4fbf17b536ad12fdaf652ff4d4830e621d72b0", func := "loop.example/g00186/laws.FnExactPolyFrom", spec := "fnExactPolyFrom", apart := false }
def FnExactPolyFromSaid : Prop := fnExactPolyFromRow.holds Try.pinned (OpenSpec.ofChange fnExactPolyFromSpec)

/-- ITS FALSE NEIGHBOUR: 'it returns false'. Refute it at one input. -/
def fnExactPolyFromWrong : ChangeSpec := { name := "fnExactPolyFrom", fn := fun _ => fun
  | [d] => { results := [.lit (.bool false)], args := [d] }
  | _ => none }
def FnExactPolyFromWrongFalsely : Prop := fnExactPolyFromRow.holds Try.pinned (OpenSpec.ofChange fnExactPolyFromWrong)

/-- 'laws.FnExactSigText': WHATEVER THE INPUT: true; the input reads as it did. -/
def fnExactSigTextSpec : ChangeSpec := { name := "fnExactSigText", fn := fun _ => fun
  | [d] => { results := [.lit (.bool true)], args := [d] }
  | _ => none }
def fnExactSigTextRow : OpenClaim := { program := "ytmnnklealendcaa", sum := "72093fdb377bc0c82506aa532a4fbf17b536ad12fdaf652ff4d4830e621d72b0", func := "loop.example/g00186/laws.FnExactSigText", spec := "fnExactSigText", apart := false }
def FnExactSigTextSaid : Prop := fnExactSigTextRow.holds Try.pinned (OpenSpec.ofChange fnExactSigTextSpec)

/-- ITS FALSE NEIGHBOUR: 'it returns false'. Refute it at one input. -/
def fnExactSigTextWrong : ChangeSpec := { name := "fnExactSigText", fn := fun _ => fun
  | [d] => { results := [.lit (.bool false)], args := [d] }
  | _ => none }
def FnExactSigTextWrongFalsely : Prop := fnExactSigTextRow.holds Try.pinned (OpenSpec.ofChange fnExactSigTextWrong)

/- THE SECOND FORM. 'bulk': how many values and letters a reading holds, each counted each time it is reached (what is shared counts as often as it is met; a slice's spare places count too). A statement '..UptoSaid' is the law's where the arguments, and the package variables that the reading takes, are together of bulk at most 1048576: NARROWER than '..Said'. Prove '..Said' where nothing that the law and all that it calls make is longer than what came in: it says more and counts as full. Else prove '..UptoSaid'. A law counts once. -/
mutual
def uptoBulk {H : Type} : DataW H → Nat
  | .lit (.string bytes) => bytes.length + 1
  | .lit _ => 1
  | .nil => 1
  | .ptr d => uptoBulk d + 1
  | .slice elems spare => uptoBulkAll elems + uptoBulkAll spare + 1
  | .agg parts => uptoBulkAll parts + 1
  | .iface _ d => uptoBulk d + 1
  | .map entries => uptoBulkEntries entries + 1
  | .held _ => 1
def uptoBulkAll {H : Type} : List (DataW H) → Nat
  | [] => 0
  | d :: r => uptoBulk d + uptoBulkAll r
def uptoBulkEntries {H : Type} : List (Lit × DataW H) → Nat
  | [] => 0
  | x :: r => uptoBulkEntry x + uptoBulkEntries r
def uptoBulkEntry {H : Type} : Lit × DataW H → Nat
  | (.string bytes, d) => bytes.length + uptoBulk d + 1
  | (_, d) => uptoBulk d + 1
 end
def uptoSmall : (H : Type) → List (DataW H) → Bool := fun _ ds => decide (uptoBulkAll ds ≤ 1048576)
def OpenSpec.upto (s : _root_.Go.ChangeSpec) : _root_.Go.OpenSpec := { _root_.Go.OpenSpec.ofChange s with cond := some uptoSmall }

/-- 'laws.FnExactSqueeze', WHERE WHAT IT READS IS OF BULK AT MOST 1048576: true; the input reads as it did. -/
def fnExactSqueezeUptoRow : OpenClaim := { program := "ytmnnklealendcaa", sum := "72093fdb377bc0c82506aa532a4fbf17b536ad12fdaf652ff4d4830e621d72b0", func := "loop.example/g00186/laws.FnExactSqueeze", spec := "fnExactSqueeze", apart := false, narrowed := true }
def FnExactSqueezeUptoSaid : Prop := fnExactSqueezeUptoRow.holds Try.pinned (OpenSpec.upto fnExactSqueezeSpec)

/-- 'laws.FnExactStretch', WHERE WHAT IT READS IS OF BULK AT MOST 1048576: true; the input reads as it did. -/
def fnExactStretchUptoRow : OpenClaim := { program := "ytmnnklealendcaa", sum := "72093fdb377bc0c82506aa532a4fbf17b536ad12fdaf652ff4d4830e621d72b0", func := "loop.example/g00186/laws.FnExactStretch", spec := "fnExactStretch", apart := false, narrowed := true }
def FnExactStretchUptoSaid : Prop := fnExactStretchUptoRow.holds Try.pinned (OpenSpec.upto fnExactStretchSpec)

/-- 'laws.FnExactSmallOk', WHERE WHAT IT READS IS OF BULK AT MOST 1048576: true; the input reads as it did. -/
def fnExactSmallOkUptoRow : OpenClaim := { program := "ytmnnklealendcaa", sum := "72093fdb377bc0c82506aa532a4fbf17b536ad12fdaf652ff4d4830e621d72b0", func := "loop.example/g00186/laws.FnExactSmallOk", spec := "fnExactSmallOk", apart := false, narrowed := true }
def FnExactSmallOkUptoSaid : Prop := fnExactSmallOkUptoRow.holds Try.pinned (OpenSpec.upto fnExactSmallOkSpec)

/-- 'laws.FnExactPack', WHERE WHAT IT READS IS OF BULK AT MOST 1048576: true; the input reads as it did. -/
def fnExactPackUptoRow : OpenClaim := { program := "ytmnnklealendcaa", sum := "72093fdb377bc0c82506aa532a4fbf17b536ad12fdaf652ff4d4830e621d72b0", func := "loop.example/g00186/laws.FnExactPack", spec := "fnExactPack", apart := false, narrowed := true }
def FnExactPackUptoSaid : Prop := fnExactPackUptoRow.holds Try.pinned (OpenSpec.upto fnExactPackSpec)

/-- 'laws.FnExactUnpack', WHERE WHAT IT READS IS OF BULK AT MOST 1048576: true; the input reads as it did. -/
def fnExactUnpackUptoRow : OpenClaim := { program := "ytmnnklealendcaa", sum := "72093fdb377bc0c82506aa532a4fbf17b536ad12fdaf652ff4d4830e621d72b0", func := "loop.example/g00186/laws.FnExactUnpack", spec := "fnExactUnpack", apart := false, narrowed := true }
def FnExactUnpackUptoSaid : Prop := fnExactUnpackUptoRow.holds Try.pinned (OpenSpec.upto fnExactUnpackSpec)

/-- 'laws.FnExactSigOk', WHERE WHAT IT READS IS OF BULK AT MOST 1048576: true; the input reads as it did. -/
def fnExactSigOkUptoRow : OpenClaim := { program := "ytmnnklealendcaa", sum := "72093fdb377bc0c82506aa532a4fbf17b536ad12fdaf652ff4d4830e621d72b0", func := "loop.example/g00186/laws.FnExactSigOk", spec := "fnExactSigOk", apart := false, narrowed := true }
def FnExactSigOkUptoSaid : Prop := fnExactSigOkUptoRow.holds Try.pinned (OpenSpec.upto fnExactSigOkSpec)

/-- 'laws.FnExactPolyBytes', WHERE WHAT IT READS IS OF BULK AT MOST 1048576: true; the input reads as it did. -/
def fnExactPolyBytesUptoRow : OpenClaim := { program := "ytmnnklealendcaa", sum := "72093fdb377bc0c82506aa532a4fbf17b536ad12fdaf652ff4d4830e621d72b0", func := "loop.example/g00186/laws.FnExactPolyBytes", spec := "fnExactPolyBytes", apart := false, narrowed := true }
def FnExactPolyBytesUptoSaid : Prop := fnExactPolyBytesUptoRow.holds Try.pinned (OpenSpec.upto fnExactPolyBytesSpec)

/-- 'laws.FnSqueezes', WHERE WHAT IT READS IS OF BULK AT MOST 1048576: true; the input reads as it did. -/
def fnSqueezesUptoRow : OpenClaim := { program := "ytmnnklealendcaa", sum := "72093fdb377bc0c82506aa532a4fbf17b536ad12fdaf652ff4d4830e621d72b0", func := "loop.example/g00186/laws.FnSqueezes", spec := "fnSqueezes", apart := false, narrowed := true }
def FnSqueezesUptoSaid : Prop := fnSqueezesUptoRow.holds Try.pinned (OpenSpec.upto fnSqueezesSpec)

/-- 'laws.FnExactReadSig', WHERE WHAT IT READS IS OF BULK AT MOST 1048576: true; the input reads as it did. -/
def fnExactReadSigUptoRow : OpenClaim := { program := "ytmnnklealendcaa", sum := "72093fdb377bc0c82506aa532a4fbf17b536ad12fdaf652ff4d4830e621d72b0", func := "loop.example/g00186/laws.FnExactReadSig", spec := "fnExactReadSig", apart := false, narrowed := true }
def FnExactReadSigUptoSaid : Prop := fnExactReadSigUptoRow.holds Try.pinned (OpenSpec.upto fnExactReadSigSpec)

/-- 'laws.FnRing', WHERE WHAT IT READS IS OF BULK AT MOST 1048576: true; the input reads as it did. -/
def fnRingUptoRow : OpenClaim := { program := "ytmnnklealendcaa", sum := "72093fdb377bc0c82506aa532a4fbf17b536ad12fdaf652ff4d4830e621d72b0", func := "loop.example/g00186/laws.FnRing", spec := "fnRing", unfollowed := true, recurses := true, apart := false, narrowed := true }
def FnRingUptoSaid : Prop := fnRingUptoRow.holds Try.pinned (OpenSpec.upto fnRingSpec)

/-- 'laws.FnExactPolyFrom', WHERE WHAT IT READS IS OF BULK AT MOST 1048576: true; the input reads as it did. -/
def fnExactPolyFromUptoRow : OpenClaim := { program := "ytmnnklealendcaa", sum := "72093fdb377bc0c82506aa532a4fbf17b536ad12fdaf652ff4d4830e621d72b0", func := "loop.example/g00186/laws.FnExactPolyFrom", spec := "fnExactPolyFrom", apart := false, narrowed := true }
def FnExactPolyFromUptoSaid : Prop := fnExactPolyFromUptoRow.holds Try.pinned (OpenSpec.upto fnExactPolyFromSpec)

/-- 'laws.FnExactSigText', WHERE WHAT IT READS IS OF BULK AT MOST 1048576: true; the input reads as it did. -/
def fnExactSigTextUptoRow : OpenClaim := { program := "ytmnnklealendcaa", sum := "72093fdb377bc0c82506aa532a4fbf17b536ad12fdaf652ff4d4830e621d72b0", func := "loop.example/g00186/laws.FnExactSigText", spec := "fnExactSigText", apart := false, narrowed := true }
def FnExactSigTextUptoSaid : Prop := fnExactSigTextUptoRow.holds Try.pinned (OpenSpec.upto fnExactSigTextSpec)

end Rows
end Go.Proofs.Ytmnnklealendcaa
