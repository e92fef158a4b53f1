/-
  NARROWER THAN 'FOR EVERY INPUT', by the rows' own cells (each row's printed sentence says how): FnExactMask: laid · FnExactOnceFound: laid · FnOnce: laid · FnExactCheckSig: laid · FnExactHyperCheck: laid · FnExactSignAt: laid · FnSigns: laid · FnExactHyperSign: laid · FnChecks: laid · FnHypers: laid.
  DERIVED. THE GIVEN ROWS OF THIS SEAT. 10 by the template 'for every input the law returns true; each argument reads behind the call as it read before'; 0 by the template 'total and deterministic' (their statements: YtjcmafoepabpkaaDoorTotals.lean).
  GIVEN WITH THE SEED: the statements are not yours to turn. If you find one false, say at which input.
  Laid BY PROGRAM, IN A SANDBOX (cutbox-rows.mjs): the forced cells as the released guide's own fill.sh prints them over the translation 92cd485a784f4479… (all of the seat's roots in one cut). By AI agents, Wed Nov 11 2026. No macro, syntax, notation, axiom, sorry.
-/
import Derived.Test.YtjcmafoepabpkaaDoorChecked
import GoSem.Claim
import GoSem.ClaimJoined
import GoSem.ClaimMapViews
import Derived.JoinedTies
import Derived.KernelRfl
namespace Go.Proofs.YtjcmafoepabpkaaDoor
/- THE CELL 'sum', in the pinned program and in every row, IS THE sha256 OF THE DUMP (.gsa) THAT YtjcmafoepabpkaaDoorProg.lean LOADS. Nothing in Lean hashes anything: it is a label: what it is worth is what the hold of that sum in a sandbox is worth. -/
noncomputable def Tryd.pinned : Pinned := { name := "ytjcmafoepabpkaadoor", sum := "92cd485a784f4479f43de9e01e127aabbc060e596e657f7df3f4d16373a297b8", checked := Tryd.checked }
namespace Rows
def none {H : Type} : Left H := { results := [], args := [] }

/- WHAT THE LISTED PACKAGE-LEVEL VARIABLES READ AS WHEN THE CALL BEGINS. Each datum BY PROGRAM (the guide's laid-datum.mjs) off the statement by which the dump's own 'gosem.cut.vars' lays the variable. In a bare row this is a premise. The card (YtjcmafoepabpkaaDoorCards.lean) ties it to the program's text. -/
def laid_loop_example_g00186_impl_roundKeys {H : Type} : DataW H := .agg [.lit (.int .u32 1116352408), .lit (.int .u32 1899447441), .lit (.int .u32 3049323471), .lit (.int .u32 3921009573), .lit (.int .u32 961987163), .lit (.int .u32 1508970993), .lit (.int .u32 2453635748), .lit (.int .u32 2870763221), .lit (.int .u32 3624381080), .lit (.int .u32 310598401), .lit (.int .u32 607225278), .lit (.int .u32 1426881987), .lit (.int .u32 1925078388), .lit (.int .u32 2162078206), .lit (.int .u32 2614888103), .lit (.int .u32 3248222580), .lit (.int .u32 3835390401), .lit (.int .u32 4022224774), .lit (.int .u32 264347078), .lit (.int .u32 604807628), .lit (.int .u32 770255983), .lit (.int .u32 1249150122), .lit (.int .u32 1555081692), .lit (.int .u32 1996064986), .lit (.int .u32 2554220882), .lit (.int .u32 2821834349), .lit (.int .u32 2952996808), .lit (.int .u32 3210313671), .lit (.int .u32 3336571891), .lit (.int .u32 3584528711), .lit (.int .u32 113926993), .lit (.int .u32 338241895), .lit (.int .u32 666307205), .lit (.int .u32 773529912), .lit (.int .u32 1294757372), .lit (.int .u32 1396182291), .lit (.int .u32 1695183700), .lit (.int .u32 1986661051), .lit (.int .u32 2177026350), .lit (.int .u32 2456956037), .lit (.int .u32 2730485921), .lit (.int .u32 2820302411), .lit (.int .u32 3259730800), .lit (.int .u32 3345764771), .lit (.int .u32 3516065817), .lit (.int .u32 3600352804), .lit (.int .u32 4094571909), .lit (.int .u32 275423344), .lit (.int .u32 430227734), .lit (.int .u32 506948616), .lit (.int .u32 659060556), .lit (.int .u32 883997877), .lit (.int .u32 958139571), .lit (.int .u32 1322822218), .lit (.int .u32 1537002063), .lit (.int .u32 1747873779), .lit (.int .u32 1955562222), .lit (.int .u32 2024104815), .lit (.int .u32 2227730452), .lit (.int .u32 2361852424), .lit (.int .u32 2428436474), .lit (.int .u32 2756734187), .lit (.int .u32 3204031479), .lit (.int .u32 3329325298)]

/-- 'laws.FnExactMask': WHATEVER THE INPUT: true; the input reads as it did. -/
def fnExactMaskSpec : ChangeSpec := { name := "fnExactMask", vars := ["loop.example/g00186/impl.roundKeys"], fn := fun _ => fun
  | [d1, d2, d3, g1] => { results := [.lit (.bool true)], args := [d1, d2, d3], vars := [g1] }
  | _ => none }
def fnExactMaskRow : OpenClaim := { program := "ytjcmafoepabpkaadoor", sum := "92cd485a784f4479f43de9e01e127aabbc060e596e657f7df3f4d16373a297b8", func := "loop.example/g00186/laws.FnExactMask", spec := "fnExactMask", named := ["loop.example/g00186/impl.roundKeys"], apart := false, laid := [("loop.example/g00186/impl.roundKeys", laid_loop_example_g00186_impl_roundKeys)] }
def FnExactMaskSaid : Prop := fnExactMaskRow.holds Tryd.pinned (OpenSpec.ofChange fnExactMaskSpec)

/-- ITS FALSE NEIGHBOUR: 'it returns false'. Refute it at one input. -/
def fnExactMaskWrong : ChangeSpec := { name := "fnExactMask", vars := ["loop.example/g00186/impl.roundKeys"], fn := fun _ => fun
  | [d1, d2, d3, g1] => { results := [.lit (.bool false)], args := [d1, d2, d3], vars := [g1] }
  | _ => none }
def FnExactMaskWrongFalsely : Prop := fnExactMaskRow.holds Tryd.pinned (OpenSpec.ofChange fnExactMaskWrong)

/-- 'laws.FnExactOnceFound': WHATEVER THE INPUT: true; the input reads as it did. -/
def fnExactOnceFoundSpec : ChangeSpec := { name := "fnExactOnceFound", vars := ["loop.example/g00186/impl.roundKeys"], fn := fun _ => fun
  | [d1, d2, d3, g1] => { results := [.lit (.bool true)], args := [d1, d2, d3], vars := [g1] }
  | _ => none }
def fnExactOnceFoundRow : OpenClaim := { program := "ytjcmafoepabpkaadoor", sum := "92cd485a784f4479f43de9e01e127aabbc060e596e657f7df3f4d16373a297b8", func := "loop.example/g00186/laws.FnExactOnceFound", spec := "fnExactOnceFound", unfollowed := true, recurses := true, named := ["loop.example/g00186/impl.roundKeys"], apart := false, laid := [("loop.example/g00186/impl.roundKeys", laid_loop_example_g00186_impl_roundKeys)] }
def FnExactOnceFoundSaid : Prop := fnExactOnceFoundRow.holds Tryd.pinned (OpenSpec.ofChange fnExactOnceFoundSpec)

/-- ITS FALSE NEIGHBOUR: 'it returns false'. Refute it at one input. -/
def fnExactOnceFoundWrong : ChangeSpec := { name := "fnExactOnceFound", vars := ["loop.example/g00186/impl.roundKeys"], fn := fun _ => fun
  | [d1, d2, d3, g1] => { results := [.lit (.bool false)], args := [d1, d2, d3], vars := [g1] }
  | _ => none }
def FnExactOnceFoundWrongFalsely : Prop := fnExactOnceFoundRow.holds Tryd.pinned (OpenSpec.ofChange fnExactOnceFoundWrong)

/-- 'laws.FnOnce': WHATEVER THE INPUT: true; the input reads as it did. -/
def fnOnceSpec : ChangeSpec := { name := "fnOnce", vars := ["loop.example/g00186/impl.roundKeys"], fn := fun _ => fun
  | [d, g1] => { results := [.lit (.bool true)], args := [d], vars := [g1] }
  | _ => none }
def fnOnceRow : OpenClaim := { program := "ytjcmafoepabpkaadoor", sum := "92cd485a784f4479f43de9e01e127aabbc060e596e657f7df3f4d16373a297b8", func := "loop.example/g00186/laws.FnOnce", spec := "fnOnce", unfollowed := true, recurses := true, named := ["loop.example/g00186/impl.roundKeys"], apart := false, laid := [("loop.example/g00186/impl.roundKeys", laid_loop_example_g00186_impl_roundKeys)] }
def FnOnceSaid : Prop := fnOnceRow.holds Tryd.pinned (OpenSpec.ofChange fnOnceSpec)

/-- ITS FALSE NEIGHBOUR: 'it returns false'. Refute it at one input. -/
def fnOnceWrong : ChangeSpec := { name := "fnOnce", vars := ["loop.example/g00186/impl.roundKeys"], fn := fun _ => fun
  | [d, g1] => { results := [.lit (.bool false)], args := [d], vars := [g1] }
  | _ => none }
def FnOnceWrongFalsely : Prop := fnOnceRow.holds Tryd.pinned (OpenSpec.ofChange fnOnceWrong)

/-- 'laws.FnExactCheckSig': WHATEVER THE INPUT: true; the input reads as it did. -/
def fnExactCheckSigSpec : ChangeSpec := { name := "fnExactCheckSig", vars := ["loop.example/g00186/impl.roundKeys"], fn := fun _ => fun
  | [d1, d2, d3, g1] => { results := [.lit (.bool true)], args := [d1, d2, d3], vars := [g1] }
  | _ => none }
def fnExactCheckSigRow : OpenClaim := { program := "ytjcmafoepabpkaadoor", sum := "92cd485a784f4479f43de9e01e127aabbc060e596e657f7df3f4d16373a297b8", func := "loop.example/g00186/laws.FnExactCheckSig", spec := "fnExactCheckSig", unfollowed := true, recurses := true, named := ["loop.example/g00186/impl.roundKeys"], apart := false, laid := [("loop.example/g00186/impl.roundKeys", laid_loop_example_g00186_impl_roundKeys)] }
def FnExactCheckSigSaid : Prop := fnExactCheckSigRow.holds Tryd.pinned (OpenSpec.ofChange fnExactCheckSigSpec)

/-- ITS FALSE NEIGHBOUR: 'it returns false'. Refute it at one input. -/
def fnExactCheckSigWrong : ChangeSpec := { name := "fnExactCheckSig", vars := ["loop.example/g00186/impl.roundKeys"], fn := fun _ => fun
  | [d1, d2, d3, g1] => { results := [.lit (.bool false)], args := [d1, d2, d3], vars := [g1] }
  | _ => none }
def FnExactCheckSigWrongFalsely : Prop := fnExactCheckSigRow.holds Tryd.pinned (OpenSpec.ofChange fnExactCheckSigWrong)

/-- 'laws.FnExactHyperCheck': WHATEVER THE INPUT: true; the input reads as it did. -/
def fnExactHyperCheckSpec : ChangeSpec := { name := "fnExactHyperCheck", vars := ["loop.example/g00186/impl.roundKeys"], fn := fun _ => fun
  | [d1, d2, d3, g1] => { results := [.lit (.bool true)], args := [d1, d2, d3], vars := [g1] }
  | _ => none }
def fnExactHyperCheckRow : OpenClaim := { program := "ytjcmafoepabpkaadoor", sum := "92cd485a784f4479f43de9e01e127aabbc060e596e657f7df3f4d16373a297b8", func := "loop.example/g00186/laws.FnExactHyperCheck", spec := "fnExactHyperCheck", unfollowed := true, recurses := true, named := ["loop.example/g00186/impl.roundKeys"], apart := false, laid := [("loop.example/g00186/impl.roundKeys", laid_loop_example_g00186_impl_roundKeys)] }
def FnExactHyperCheckSaid : Prop := fnExactHyperCheckRow.holds Tryd.pinned (OpenSpec.ofChange fnExactHyperCheckSpec)

/-- ITS FALSE NEIGHBOUR: 'it returns false'. Refute it at one input. -/
def fnExactHyperCheckWrong : ChangeSpec := { name := "fnExactHyperCheck", vars := ["loop.example/g00186/impl.roundKeys"], fn := fun _ => fun
  | [d1, d2, d3, g1] => { results := [.lit (.bool false)], args := [d1, d2, d3], vars := [g1] }
  | _ => none }
def FnExactHyperCheckWrongFalsely : Prop := fnExactHyperCheckRow.holds Tryd.pinned (OpenSpec.ofChange fnExactHyperCheckWrong)

/-- 'laws.FnExactSignAt': WHATEVER THE INPUT: true; the input reads as it did. -/
def fnExactSignAtSpec : ChangeSpec := { name := "fnExactSignAt", vars := ["loop.example/g00186/impl.roundKeys"], fn := fun _ => fun
  | [d1, d2, d3, g1] => { results := [.lit (.bool true)], args := [d1, d2, d3], vars := [g1] }
  | _ => none }
def fnExactSignAtRow : OpenClaim := { program := "ytjcmafoepabpkaadoor", sum := "92cd485a784f4479f43de9e01e127aabbc060e596e657f7df3f4d16373a297b8", func := "loop.example/g00186/laws.FnExactSignAt", spec := "fnExactSignAt", unfollowed := true, recurses := true, named := ["loop.example/g00186/impl.roundKeys"], apart := false, laid := [("loop.example/g00186/impl.roundKeys", laid_loop_example_g00186_impl_roundKeys)] }
def FnExactSignAtSaid : Prop := fnExactSignAtRow.holds Tryd.pinned (OpenSpec.ofChange fnExactSignAtSpec)

/-- ITS FALSE NEIGHBOUR: 'it returns false'. Refute it at one input. -/
def fnExactSignAtWrong : ChangeSpec := { name := "fnExactSignAt", vars := ["loop.example/g00186/impl.roundKeys"], fn := fun _ => fun
  | [d1, d2, d3, g1] => { results := [.lit (.bool false)], args := [d1, d2, d3], vars := [g1] }
  | _ => none }
def FnExactSignAtWrongFalsely : Prop := fnExactSignAtRow.holds Tryd.pinned (OpenSpec.ofChange fnExactSignAtWrong)

/-- 'laws.FnSigns': WHATEVER THE INPUT: true; the input reads as it did. -/
def fnSignsSpec : ChangeSpec := { name := "fnSigns", vars := ["loop.example/g00186/impl.roundKeys"], fn := fun _ => fun
  | [d, g1] => { results := [.lit (.bool true)], args := [d], vars := [g1] }
  | _ => none }
def fnSignsRow : OpenClaim := { program := "ytjcmafoepabpkaadoor", sum := "92cd485a784f4479f43de9e01e127aabbc060e596e657f7df3f4d16373a297b8", func := "loop.example/g00186/laws.FnSigns", spec := "fnSigns", unfollowed := true, recurses := true, named := ["loop.example/g00186/impl.roundKeys"], apart := false, laid := [("loop.example/g00186/impl.roundKeys", laid_loop_example_g00186_impl_roundKeys)] }
def FnSignsSaid : Prop := fnSignsRow.holds Tryd.pinned (OpenSpec.ofChange fnSignsSpec)

/-- ITS FALSE NEIGHBOUR: 'it returns false'. Refute it at one input. -/
def fnSignsWrong : ChangeSpec := { name := "fnSigns", vars := ["loop.example/g00186/impl.roundKeys"], fn := fun _ => fun
  | [d, g1] => { results := [.lit (.bool false)], args := [d], vars := [g1] }
  | _ => none }
def FnSignsWrongFalsely : Prop := fnSignsRow.holds Tryd.pinned (OpenSpec.ofChange fnSignsWrong)

/-- 'laws.FnExactHyperSign': WHATEVER THE INPUT: true; the input reads as it did. -/
def fnExactHyperSignSpec : ChangeSpec := { name := "fnExactHyperSign", vars := ["loop.example/g00186/impl.roundKeys"], fn := fun _ => fun
  | [d1, d2, d3, g1] => { results := [.lit (.bool true)], args := [d1, d2, d3], vars := [g1] }
  | _ => none }
def fnExactHyperSignRow : OpenClaim := { program := "ytjcmafoepabpkaadoor", sum := "92cd485a784f4479f43de9e01e127aabbc060e596e657f7df3f4d16373a297b8", func := "loop.example/g00186/laws.FnExactHyperSign", spec := "fnExactHyperSign", unfollowed := true, recurses := true, named := ["loop.example/g00186/impl.roundKeys"], apart := false, laid := [("loop.example/g00186/impl.roundKeys", laid_loop_example_g00186_impl_roundKeys)] }
def FnExactHyperSignSaid : Prop := fnExactHyperSignRow.holds Tryd.pinned (OpenSpec.ofChange fnExactHyperSignSpec)

/-- ITS FALSE NEIGHBOUR: 'it returns false'. Refute it at one input. -/
def fnExactHyperSignWrong : ChangeSpec := { name := "fnExactHyperSign", vars := ["loop.example/g00186/impl.roundKeys"], fn := fun _ => fun
  | [d1, d2, d3, g1] => { results := [.lit (.bool false)], args := [d1, d2, d3], vars := [g1] }
  | _ => none }
def FnExactHyperSignWrongFalsely : Prop := fnExactHyperSignRow.holds Tryd.pinned (OpenSpec.ofChange fnExactHyperSignWrong)

/-- 'laws.FnChecks': WHATEVER THE INPUT: true; the input reads as it did. -/
def fnChecksSpec : ChangeSpec := { name := "fnChecks", vars := ["loop.example/g00186/impl.roundKeys"], fn := fun _ => fun
  | [d, g1] => { results := [.lit (.bool true)], args := [d], vars := [g1] }
  | _ => none }
def fnChecksRow : OpenClaim := { program := "ytjcmafoepabpkaadoor", sum := "92cd485a784f4479f43de9e01e127aabbc060e596e657f7df3f4d16373a297b8", func := "loop.example/g00186/laws.FnChecks", spec := "fnChecks", unfollowed := true, recurses := true, named := ["loop.example/g00186/impl.roundKeys"], apart := false, laid := [("loop.example/g00186/impl.roundKeys", laid_loop_example_g00186_impl_roundKeys)] }
def FnChecksSaid : Prop := fnChecksRow.holds Tryd.pinned (OpenSpec.ofChange fnChecksSpec)

/-- ITS FALSE NEIGHBOUR: 'it returns false'. Refute it at one input. -/
def fnChecksWrong : ChangeSpec := { name := "fnChecks", vars := ["loop.example/g00186/impl.roundKeys"], fn := fun _ => fun
  | [d, g1] => { results := [.lit (.bool false)], args := [d], vars := [g1] }
  | _ => none }
def FnChecksWrongFalsely : Prop := fnChecksRow.holds Tryd.pinned (OpenSpec.ofChange fnChecksWrong)

/-- 'laws.FnHypers': WHATEVER THE INPUT: true; the input reads as it did. -/
def fnHypersSpec : ChangeSpec := { name := "fnHypers", vars := ["loop.example/g00186/impl.roundKeys"], fn := fun _ => fun
  | [d, g1] => { results := [.lit (.bool true)], args := [d], vars := [g1] }
  | _ => none }
def fnHypersRow : OpenClaim := { program := "ytjcmafoepabpkaadoor", sum := "92cd485a784f4479f43de9e01e127aabbc060e596e657f7df3f4d16373a297b8", func := "loop.example/g00186/laws.FnHypers", spec := "fnHypers", unfollowed := true, recurses := true, named := ["loop.example/g00186/impl.roundKeys"], apart := false, laid := [("loop.example/g00186/impl.roundKeys", laid_loop_example_g00186_impl_roundKeys)] }
def FnHypersSaid : Prop := fnHypersRow.holds Tryd.pinned (OpenSpec.ofChange fnHypersSpec)

/-- ITS FALSE NEIGHBOUR: 'it returns false'. Refute it at one input. -/
def fnHypersWrong : ChangeSpec := { name := "fnHypers", vars := ["loop.example/g00186/impl.roundKeys"], fn := fun _ => fun
  | [d, g1] => { results := [.lit (.bool false)], args := [d], vars := [g1] }
  | _ => none }
def FnHypersWrongFalsely : Prop := fnHypersRow.holds Tryd.pinned (OpenSpec.ofChange fnHypersWrong)

/- THE SECOND FORM. 'bulk': how many values and letters a reading holds, each counted each time it is reached (what is shared counts as often as it is met; a slice's spare places count too). A statement '..UptoSaid' is the law's where the arguments, and the package variables that the reading takes, are together of bulk at most 1048576: NARROWER than '..Said'. Prove '..Said' where nothing that the law and all that it calls make is longer than what came in: it says more and counts as full. Else prove '..UptoSaid'. A law counts once. -/
mutual
def uptoBulk {H : Type} : DataW H → Nat
  | .lit (.string bytes) => bytes.length + 1
  | .lit _ => 1
  | .nil => 1
  | .ptr d => uptoBulk d + 1
  | .slice elems spare => uptoBulkAll elems + uptoBulkAll spare + 1
  | .agg parts => uptoBulkAll parts + 1
  | .iface _ d => uptoBulk d + 1
  | .map entries => uptoBulkEntries entries + 1
  | .held _ => 1
def uptoBulkAll {H : Type} : List (DataW H) → Nat
  | [] => 0
  | d :: r => uptoBulk d + uptoBulkAll r
def uptoBulkEntries {H : Type} : List (Lit × DataW H) → Nat
  | [] => 0
  | x :: r => uptoBulkEntry x + uptoBulkEntries r
def uptoBulkEntry {H : Type} : Lit × DataW H → Nat
  | (.string bytes, d) => bytes.length + uptoBulk d + 1
  | (_, d) => uptoBulk d + 1
 end
def uptoSmall : (H : Type) → List (DataW H) → Bool := fun _ ds => decide (uptoBulkAll ds ≤ 1048576)
def OpenSpec.upto (s : _root_.Go.ChangeSpec) : _root_.Go.OpenSpec := { _root_.Go.OpenSpec.ofChange s with cond := some uptoSmall }

/-- 'laws.FnExactMask', WHERE WHAT IT READS IS OF BULK AT MOST 1048576: true; the input reads as it did. -/
def fnExactMaskUptoRow : OpenClaim := { program := "ytjcmafoepabpkaadoor", sum := "92cd485a784f4479f43de9e01e127aabbc060e596e657f7df3f4d16373a297b8", func := "loop.example/g00186/laws.FnExactMask", spec := "fnExactMask", named := ["loop.example/g00186/impl.roundKeys"], apart := false, laid := [("loop.example/g00186/impl.roundKeys", laid_loop_example_g00186_impl_roundKeys)], narrowed := true }
def FnExactMaskUptoSaid : Prop := fnExactMaskUptoRow.holds Tryd.pinned (OpenSpec.upto fnExactMaskSpec)

/-- 'laws.FnExactOnceFound', WHERE WHAT IT READS IS OF BULK AT MOST 1048576: true; the input reads as it did. -/
def fnExactOnceFoundUptoRow : OpenClaim := { program := "ytjcmafoepabpkaadoor", sum := "92cd485a784f4479f43de9e01e127aabbc060e596e657f7df3f4d16373a297b8", func := "loop.example/g00186/laws.FnExactOnceFound", spec := "fnExactOnceFound", unfollowed := true, recurses := true, named := ["loop.example/g00186/impl.roundKeys"], apart := false, laid := [("loop.example/g00186/impl.roundKeys", laid_loop_example_g00186_impl_roundKeys)], narrowed := true }
def FnExactOnceFoundUptoSaid : Prop := fnExactOnceFoundUptoRow.holds Tryd.pinned (OpenSpec.upto fnExactOnceFoundSpec)

/-- 'laws.FnOnce', WHERE WHAT IT READS IS OF BULK AT MOST 1048576: true; the input reads as it did. -/
def fnOnceUptoRow : OpenClaim := { program := "ytjcmafoepabpkaadoor", sum := "92cd485a784f4479f43de9e01e127aabbc060e596e657f7df3f4d16373a297b8", func := "loop.example/g00186/laws.FnOnce", spec := "fnOnce", unfollowed := true, recurses := true, named := ["loop.example/g00186/impl.roundKeys"], apart := false, laid := [("loop.example/g00186/impl.roundKeys", laid_loop_example_g00186_impl_roundKeys)], narrowed := true }
def FnOnceUptoSaid : Prop := fnOnceUptoRow.holds Tryd.pinned (OpenSpec.upto fnOnceSpec)

/-- 'laws.FnExactCheckSig', WHERE WHAT IT READS IS OF BULK AT MOST 1048576: true; the input reads as it did. -/
def fnExactCheckSigUptoRow : OpenClaim := { program := "ytjcmafoepabpkaadoor", sum := "92cd485a784f4479f43de9e01e127aabbc060e596e657f7df3f4d16373a297b8", func := "loop.example/g00186/laws.FnExactCheckSig", spec := "fnExactCheckSig", unfollowed := true, recurses := true, named := ["loop.example/g00186/impl.roundKeys"], apart := false, laid := [("loop.example/g00186/impl.roundKeys", laid_loop_example_g00186_impl_roundKeys)], narrowed := true }
def FnExactCheckSigUptoSaid : Prop := fnExactCheckSigUptoRow.holds Tryd.pinned (OpenSpec.upto fnExactCheckSigSpec)

/-- 'laws.FnExactHyperCheck', WHERE WHAT IT READS IS OF BULK AT MOST 1048576: true; the input reads as it did. -/
def fnExactHyperCheckUptoRow : OpenClaim := { program := "ytjcmafoepabpkaadoor", sum := "92cd485a784f4479f43de9e01e127aabbc060e596e657f7df3f4d16373a297b8", func := "loop.example/g00186/laws.FnExactHyperCheck", spec := "fnExactHyperCheck", unfollowed := true, recurses := true, named := ["loop.example/g00186/impl.roundKeys"], apart := false, laid := [("loop.example/g00186/impl.roundKeys", laid_loop_example_g00186_impl_roundKeys)], narrowed := true }
def FnExactHyperCheckUptoSaid : Prop := fnExactHyperCheckUptoRow.holds Tryd.pinned (OpenSpec.upto fnExactHyperCheckSpec)

/-- 'laws.FnExactSignAt', WHERE WHAT IT READS IS OF BULK AT MOST 1048576: true; the input reads as it did. -/
def fnExactSignAtUptoRow : OpenClaim := { program := "ytjcmafoepabpkaadoor", sum := "92cd485a784f4479f43de9e01e127aabbc060e596e657f7df3f4d16373a297b8", func := "loop.example/g00186/laws.FnExactSignAt", spec := "fnExactSignAt", unfollowed := true, recurses := true, named := ["loop.example/g00186/impl.roundKeys"], apart := false, laid := [("loop.example/g00186/impl.roundKeys", laid_loop_example_g00186_impl_roundKeys)], narrowed := true }
def FnExactSignAtUptoSaid : Prop := fnExactSignAtUptoRow.holds Tryd.pinned (OpenSpec.upto fnExactSignAtSpec)

/-- 'laws.FnSigns', WHERE WHAT IT READS IS OF BULK AT MOST 1048576: true; the input reads as it did. -/
def fnSignsUptoRow : OpenClaim := { program := "ytjcmafoepabpkaadoor", sum := "92cd485a784f4479f43de9e01e127aabbc060e596e657f7df3f4d16373a297b8", func := "loop.example/g00186/laws.FnSigns", spec := "fnSigns", unfollowed := true, recurses := true, named := ["loop.example/g00186/impl.roundKeys"], apart := false, laid := [("loop.example/g00186/impl.roundKeys", laid_loop_example_g00186_impl_roundKeys)], narrowed := true }
def FnSignsUptoSaid : Prop := fnSignsUptoRow.holds Tryd.pinned (OpenSpec.upto fnSignsSpec)

/-- 'laws.FnExactHyperSign', WHERE WHAT IT READS IS OF BULK AT MOST 1048576: true; the input reads as it did. -/
def fnExactHyperSignUptoRow : OpenClaim := { program := "ytjcmafoepabpkaadoor", sum := "92cd485a784f4479f43de9e01e127aabbc060e596e657f7df3f4d16373a297b8", func := "loop.example/g00186/laws.FnExactHyperSign", spec := "fnExactHyperSign", unfollowed := true, recurses := true, named := ["loop.example/g00186/impl.roundKeys"], apart := false, laid := [("loop.example/g00186/impl.roundKeys", laid_loop_example_g00186_impl_roundKeys)], narrowed := true }
def FnExactHyperSignUptoSaid : Prop := fnExactHyperSignUptoRow.holds Tryd.pinned (OpenSpec.upto fnExactHyperSignSpec)

/-- 'laws.FnChecks', WHERE WHAT IT READS IS OF BULK AT MOST 1048576: true; the input reads as it did. -/
def fnChecksUptoRow : OpenClaim := { program := "ytjcmafoepabpkaadoor", sum := "92cd485a784f4479f43de9e01e127aabbc060e596e657f7df3f4d16373a297b8", func := "loop.example/g00186/laws.FnChecks", spec := "fnChecks", unfollowed := true, recurses := true, named := ["loop.example/g00186/impl.roundKeys"], apart := false, laid := [("loop.example/g00186/impl.roundKeys", laid_loop_example_g00186_impl_roundKeys)], narrowed := true }
def FnChecksUptoSaid : Prop := fnChecksUptoRow.holds Tryd.pinned (OpenSpec.upto fnChecksSpec)

/-- 'laws.FnHypers', WHERE WHAT IT READS IS OF BULK AT MOST 1048576: true; the input reads as it did. -/
def fnHypersUptoRow : OpenClaim := { program := "ytjcmafoepabpkaadoor", sum := "92cd485a784f4479f43de9e01e127aabbc060e596e657f7df3f4d16373a297b8", func := "loop.example/g00186/laws.FnHypers", spec := "fnHypers", unfollowed := true, recurses := true, named := ["loop.example/g00186/impl.roundKeys"], apart := false, laid := [("loop.example/g00186/impl.roundKeys", laid_loop_example_g00186_impl_roundKeys)], narrowed := true }
def FnHypersUptoSaid : Prop := fnHypersUptoRow.holds Tryd.pinned (OpenSpec.upto fnHypersSpec)

end Rows
end Go.Proofs.YtjcmafoepabpkaaDoor
