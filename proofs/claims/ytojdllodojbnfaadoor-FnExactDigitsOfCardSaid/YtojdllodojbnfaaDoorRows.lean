/-
  NARROWER THAN 'FOR EVERY INPUT', by the rows' own cells (each row's printed sentence says how): FnExactChop: laid · FnExactNode: laid · FnExactChainOf: laid · FnExactDigitsOf: laid · FnExactOnceKey: laid · FnExactOncePublic: laid · FnExactRootBy: laid · FnExactRootOf: laid · FnExactLevelUp: laid.
  DERIVED. THE GIVEN ROWS OF THIS SEAT. 9 by the template 'for every input the law returns true; each argument reads behind the call as it read before'; 0 by the template 'total and deterministic' (their statements: YtojdllodojbnfaaDoorTotals.lean).
  GIVEN WITH THE SEED: the statements are not yours to turn. If you find one false, say at which input.
  Laid BY PROGRAM, IN A SANDBOX (cutbox-rows.mjs): the forced cells as the released guide's own fill.sh prints them over the translation 47d842da3b05a358… (all of the seat's roots in one cut). By AI agents, Wed Nov 11 2026. No macro, syntax, notation, axiom, sorry.
-/
import Derived.Test.YtojdllodojbnfaaDoorChecked
import GoSem.Claim
import GoSem.ClaimJoined
import GoSem.ClaimMapViews
import Derived.JoinedTies
import Derived.KernelRfl
namespace Go.Proofs.YtojdllodojbnfaaDoor
/- THE CELL 'sum', in the pinned program and in every row, IS THE sha256 OF THE DUMP (.gsa) THAT YtojdllodojbnfaaDoorProg.lean LOADS. Nothing in Lean hashes anything: it is a label: what it is worth is what the hold of that sum in a sandbox is worth. -/
noncomputable def Tryd.pinned : Pinned := { name := "ytojdllodojbnfaadoor", sum := "47d842da3b05a358e457ef078837412dee86a917223904a617e30b0d8bcbff12", checked := Tryd.checked }
namespace Rows
def none {H : Type} : Left H := { results := [], args := [] }

/- WHAT THE LISTED PACKAGE-LEVEL VARIABLES READ AS WHEN THE CALL BEGINS. Each datum BY PROGRAM (the guide's laid-datum.mjs) off the statement by which the dump's own 'gosem.cut.vars' lays the variable. In a bare row this is a premise. The card (YtojdllodojbnfaaDoorCards.lean) ties it to the program's text. -/
def laid_loop_example_g00186_impl_roundKeys {H : Type} : DataW H := .agg [.lit (.int .u32 1116352408), .lit (.int .u32 1899447441), .lit (.int .u32 3049323471), .lit (.int .u32 3921009573), .lit (.int .u32 961987163), .lit (.int .u32 1508970993), .lit (.int .u32 2453635748), .lit (.int .u32 2870763221), .lit (.int .u32 3624381080), .lit (.int .u32 310598401), .lit (.int .u32 607225278), .lit (.int .u32 1426881987), .lit (.int .u32 1925078388), .lit (.int .u32 2162078206), .lit (.int .u32 2614888103), .lit (.int .u32 3248222580), .lit (.int .u32 3835390401), .lit (.int .u32 4022224774), .lit (.int .u32 264347078), .lit (.int .u32 604807628), .lit (.int .u32 770255983), .lit (.int .u32 1249150122), .lit (.int .u32 1555081692), .lit (.int .u32 1996064986), .lit (.int .u32 2554220882), .lit (.int .u32 2821834349), .lit (.int .u32 2952996808), .lit (.int .u32 3210313671), .lit (.int .u32 3336571891), .lit (.int .u32 3584528711), .lit (.int .u32 113926993), .lit (.int .u32 338241895), .lit (.int .u32 666307205), .lit (.int .u32 773529912), .lit (.int .u32 1294757372), .lit (.int .u32 1396182291), .lit (.int .u32 1695183700), .lit (.int .u32 1986661051), .lit (.int .u32 2177026350), .lit (.int .u32 2456956037), .lit (.int .u32 2730485921), .lit (.int .u32 2820302411), .lit (.int .u32 3259730800), .lit (.int .u32 3345764771), .lit (.int .u32 3516065817), .lit (.int .u32 3600352804), .lit (.int .u32 4094571909), .lit (.int .u32 275423344), .lit (.int .u32 430227734), .lit (.int .u32 506948616), .lit (.int .u32 659060556), .lit (.int .u32 883997877), .lit (.int .u32 958139571), .lit (.int .u32 1322822218), .lit (.int .u32 1537002063), .lit (.int .u32 1747873779), .lit (.int .u32 1955562222), .lit (.int .u32 2024104815), .lit (.int .u32 2227730452), .lit (.int .u32 2361852424), .lit (.int .u32 2428436474), .lit (.int .u32 2756734187), .lit (.int .u32 3204031479), .lit (.int .u32 3329325298)]

/-- 'laws.FnExactChop': WHATEVER THE INPUT: true; the input reads as it did. -/
def fnExactChopSpec : ChangeSpec := { name := "fnExactChop", vars := ["loop.example/g00186/impl.roundKeys"], fn := fun _ => fun
  | [d, g1] => { results := [.lit (.bool true)], args := [d], vars := [g1] }
  | _ => none }
def fnExactChopRow : OpenClaim := { program := "ytojdllodojbnfaadoor", sum := "47d842da3b05a358e457ef078837412dee86a917223904a617e30b0d8bcbff12", func := "loop.example/g00186/laws.FnExactChop", spec := "fnExactChop", named := ["loop.example/g00186/impl.roundKeys"], apart := false, laid := [("loop.example/g00186/impl.roundKeys", laid_loop_example_g00186_impl_roundKeys)] }
def FnExactChopSaid : Prop := fnExactChopRow.holds Tryd.pinned (OpenSpec.ofChange fnExactChopSpec)

/-- ITS FALSE NEIGHBOUR: 'it returns false'. Refute it at one input. -/
def fnExactChopWrong : ChangeSpec := { name := "fnExactChop", vars := ["loop.example/g00186/impl.roundKeys"], fn := fun _ => fun
  | [d, g1] => { results := [.lit (.bool false)], args := [d], vars := [g1] }
  | _ => none }
def FnExactChopWrongFalsely : Prop := fnExactChopRow.holds Tryd.pinned (OpenSpec.ofChange fnExactChopWrong)

/-- 'laws.FnExactNode': WHATEVER THE INPUT: true; the input reads as it did. -/
def fnExactNodeSpec : ChangeSpec := { name := "fnExactNode", vars := ["loop.example/g00186/impl.roundKeys"], fn := fun _ => fun
  | [d1, d2, d3, d4, g1] => { results := [.lit (.bool true)], args := [d1, d2, d3, d4], vars := [g1] }
  | _ => none }
def fnExactNodeRow : OpenClaim := { program := "ytojdllodojbnfaadoor", sum := "47d842da3b05a358e457ef078837412dee86a917223904a617e30b0d8bcbff12", func := "loop.example/g00186/laws.FnExactNode", spec := "fnExactNode", named := ["loop.example/g00186/impl.roundKeys"], apart := false, laid := [("loop.example/g00186/impl.roundKeys", laid_loop_example_g00186_impl_roundKeys)] }
def FnExactNodeSaid : Prop := fnExactNodeRow.holds Tryd.pinned (OpenSpec.ofChange fnExactNodeSpec)

/-- ITS FALSE NEIGHBOUR: 'it returns false'. Refute it at one input. -/
def fnExactNodeWrong : ChangeSpec := { name := "fnExactNode", vars := ["loop.example/g00186/impl.roundKeys"], fn := fun _ => fun
  | [d1, d2, d3, d4, g1] => { results := [.lit (.bool false)], args := [d1, d2, d3, d4], vars := [g1] }
  | _ => none }
def FnExactNodeWrongFalsely : Prop := fnExactNodeRow.holds Tryd.pinned (OpenSpec.ofChange fnExactNodeWrong)

/-- 'laws.FnExactChainOf': WHATEVER THE INPUT: true; the input reads as it did. -/
def fnExactChainOfSpec : ChangeSpec := { name := "fnExactChainOf", vars := ["loop.example/g00186/impl.roundKeys"], fn := fun _ => fun
  | [d1, d2, d3, d4, d5, g1] => { results := [.lit (.bool true)], args := [d1, d2, d3, d4, d5], vars := [g1] }
  | _ => none }
def fnExactChainOfRow : OpenClaim := { program := "ytojdllodojbnfaadoor", sum := "47d842da3b05a358e457ef078837412dee86a917223904a617e30b0d8bcbff12", func := "loop.example/g00186/laws.FnExactChainOf", spec := "fnExactChainOf", named := ["loop.example/g00186/impl.roundKeys"], apart := false, laid := [("loop.example/g00186/impl.roundKeys", laid_loop_example_g00186_impl_roundKeys)] }
def FnExactChainOfSaid : Prop := fnExactChainOfRow.holds Tryd.pinned (OpenSpec.ofChange fnExactChainOfSpec)

/-- ITS FALSE NEIGHBOUR: 'it returns false'. Refute it at one input. -/
def fnExactChainOfWrong : ChangeSpec := { name := "fnExactChainOf", vars := ["loop.example/g00186/impl.roundKeys"], fn := fun _ => fun
  | [d1, d2, d3, d4, d5, g1] => { results := [.lit (.bool false)], args := [d1, d2, d3, d4, d5], vars := [g1] }
  | _ => none }
def FnExactChainOfWrongFalsely : Prop := fnExactChainOfRow.holds Tryd.pinned (OpenSpec.ofChange fnExactChainOfWrong)

/-- 'laws.FnExactDigitsOf': WHATEVER THE INPUT: true; the input reads as it did. -/
def fnExactDigitsOfSpec : ChangeSpec := { name := "fnExactDigitsOf", vars := ["loop.example/g00186/impl.roundKeys"], fn := fun _ => fun
  | [d, g1] => { results := [.lit (.bool true)], args := [d], vars := [g1] }
  | _ => none }
def fnExactDigitsOfRow : OpenClaim := { program := "ytojdllodojbnfaadoor", sum := "47d842da3b05a358e457ef078837412dee86a917223904a617e30b0d8bcbff12", func := "loop.example/g00186/laws.FnExactDigitsOf", spec := "fnExactDigitsOf", named := ["loop.example/g00186/impl.roundKeys"], apart := false, laid := [("loop.example/g00186/impl.roundKeys", laid_loop_example_g00186_impl_roundKeys)] }
def FnExactDigitsOfSaid : Prop := fnExactDigitsOfRow.holds Tryd.pinned (OpenSpec.ofChange fnExactDigitsOfSpec)

/-- ITS FALSE NEIGHBOUR: 'it returns false'. Refute it at one input. -/
def fnExactDigitsOfWrong : ChangeSpec := { name := "fnExactDigitsOf", vars := ["loop.example/g00186/impl.roundKeys"], fn := fun _ => fun
  | [d, g1] => { results := [.lit (.bool false)], args := [d], vars := [g1] }
  | _ => none }
def FnExactDigitsOfWrongFalsely : Prop := fnExactDigitsOfRow.holds Tryd.pinned (OpenSpec.ofChange fnExactDigitsOfWrong)

/-- 'laws.FnExactOnceKey': WHATEVER THE INPUT: true; the input reads as it did. -/
def fnExactOnceKeySpec : ChangeSpec := { name := "fnExactOnceKey", vars := ["loop.example/g00186/impl.roundKeys"], fn := fun _ => fun
  | [d1, d2, g1] => { results := [.lit (.bool true)], args := [d1, d2], vars := [g1] }
  | _ => none }
def fnExactOnceKeyRow : OpenClaim := { program := "ytojdllodojbnfaadoor", sum := "47d842da3b05a358e457ef078837412dee86a917223904a617e30b0d8bcbff12", func := "loop.example/g00186/laws.FnExactOnceKey", spec := "fnExactOnceKey", named := ["loop.example/g00186/impl.roundKeys"], apart := false, laid := [("loop.example/g00186/impl.roundKeys", laid_loop_example_g00186_impl_roundKeys)] }
def FnExactOnceKeySaid : Prop := fnExactOnceKeyRow.holds Tryd.pinned (OpenSpec.ofChange fnExactOnceKeySpec)

/-- ITS FALSE NEIGHBOUR: 'it returns false'. Refute it at one input. -/
def fnExactOnceKeyWrong : ChangeSpec := { name := "fnExactOnceKey", vars := ["loop.example/g00186/impl.roundKeys"], fn := fun _ => fun
  | [d1, d2, g1] => { results := [.lit (.bool false)], args := [d1, d2], vars := [g1] }
  | _ => none }
def FnExactOnceKeyWrongFalsely : Prop := fnExactOnceKeyRow.holds Tryd.pinned (OpenSpec.ofChange fnExactOnceKeyWrong)

/-- 'laws.FnExactOncePublic': WHATEVER THE INPUT: true; the input reads as it did. -/
def fnExactOncePublicSpec : ChangeSpec := { name := "fnExactOncePublic", vars := ["loop.example/g00186/impl.roundKeys"], fn := fun _ => fun
  | [d1, d2, g1] => { results := [.lit (.bool true)], args := [d1, d2], vars := [g1] }
  | _ => none }
def fnExactOncePublicRow : OpenClaim := { program := "ytojdllodojbnfaadoor", sum := "47d842da3b05a358e457ef078837412dee86a917223904a617e30b0d8bcbff12", func := "loop.example/g00186/laws.FnExactOncePublic", spec := "fnExactOncePublic", unfollowed := true, recurses := true, named := ["loop.example/g00186/impl.roundKeys"], apart := false, laid := [("loop.example/g00186/impl.roundKeys", laid_loop_example_g00186_impl_roundKeys)] }
def FnExactOncePublicSaid : Prop := fnExactOncePublicRow.holds Tryd.pinned (OpenSpec.ofChange fnExactOncePublicSpec)

/-- ITS FALSE NEIGHBOUR: 'it returns false'. Refute it at one input. -/
def fnExactOncePublicWrong : ChangeSpec := { name := "fnExactOncePublic", vars := ["loop.example/g00186/impl.roundKeys"], fn := fun _ => fun
  | [d1, d2, g1] => { results := [.lit (.bool false)], args := [d1, d2], vars := [g1] }
  | _ => none }
def FnExactOncePublicWrongFalsely : Prop := fnExactOncePublicRow.holds Tryd.pinned (OpenSpec.ofChange fnExactOncePublicWrong)

/-- 'laws.FnExactRootBy': WHATEVER THE INPUT: true; the input reads as it did. -/
def fnExactRootBySpec : ChangeSpec := { name := "fnExactRootBy", vars := ["loop.example/g00186/impl.roundKeys"], fn := fun _ => fun
  | [d1, d2, d3, g1] => { results := [.lit (.bool true)], args := [d1, d2, d3], vars := [g1] }
  | _ => none }
def fnExactRootByRow : OpenClaim := { program := "ytojdllodojbnfaadoor", sum := "47d842da3b05a358e457ef078837412dee86a917223904a617e30b0d8bcbff12", func := "loop.example/g00186/laws.FnExactRootBy", spec := "fnExactRootBy", named := ["loop.example/g00186/impl.roundKeys"], apart := false, laid := [("loop.example/g00186/impl.roundKeys", laid_loop_example_g00186_impl_roundKeys)] }
def FnExactRootBySaid : Prop := fnExactRootByRow.holds Tryd.pinned (OpenSpec.ofChange fnExactRootBySpec)

/-- ITS FALSE NEIGHBOUR: 'it returns false'. Refute it at one input. -/
def fnExactRootByWrong : ChangeSpec := { name := "fnExactRootBy", vars := ["loop.example/g00186/impl.roundKeys"], fn := fun _ => fun
  | [d1, d2, d3, g1] => { results := [.lit (.bool false)], args := [d1, d2, d3], vars := [g1] }
  | _ => none }
def FnExactRootByWrongFalsely : Prop := fnExactRootByRow.holds Tryd.pinned (OpenSpec.ofChange fnExactRootByWrong)

/-- 'laws.FnExactRootOf': WHATEVER THE INPUT: true; the input reads as it did. -/
def fnExactRootOfSpec : ChangeSpec := { name := "fnExactRootOf", vars := ["loop.example/g00186/impl.roundKeys"], fn := fun _ => fun
  | [d, g1] => { results := [.lit (.bool true)], args := [d], vars := [g1] }
  | _ => none }
def fnExactRootOfRow : OpenClaim := { program := "ytojdllodojbnfaadoor", sum := "47d842da3b05a358e457ef078837412dee86a917223904a617e30b0d8bcbff12", func := "loop.example/g00186/laws.FnExactRootOf", spec := "fnExactRootOf", named := ["loop.example/g00186/impl.roundKeys"], apart := false, laid := [("loop.example/g00186/impl.roundKeys", laid_loop_example_g00186_impl_roundKeys)] }
def FnExactRootOfSaid : Prop := fnExactRootOfRow.holds Tryd.pinned (OpenSpec.ofChange fnExactRootOfSpec)

/-- ITS FALSE NEIGHBOUR: 'it returns false'. Refute it at one input. -/
def fnExactRootOfWrong : ChangeSpec := { name := "fnExactRootOf", vars := ["loop.example/g00186/impl.roundKeys"], fn := fun _ => fun
  | [d, g1] => { results := [.lit (.bool false)], args := [d], vars := [g1] }
  | _ => none }
def FnExactRootOfWrongFalsely : Prop := fnExactRootOfRow.holds Tryd.pinned (OpenSpec.ofChange fnExactRootOfWrong)

/-- 'laws.FnExactLevelUp': WHATEVER THE INPUT: true; the input reads as it did. -/
def fnExactLevelUpSpec : ChangeSpec := { name := "fnExactLevelUp", vars := ["loop.example/g00186/impl.roundKeys"], fn := fun _ => fun
  | [d1, d2, g1] => { results := [.lit (.bool true)], args := [d1, d2], vars := [g1] }
  | _ => none }
def fnExactLevelUpRow : OpenClaim := { program := "ytojdllodojbnfaadoor", sum := "47d842da3b05a358e457ef078837412dee86a917223904a617e30b0d8bcbff12", func := "loop.example/g00186/laws.FnExactLevelUp", spec := "fnExactLevelUp", named := ["loop.example/g00186/impl.roundKeys"], apart := false, laid := [("loop.example/g00186/impl.roundKeys", laid_loop_example_g00186_impl_roundKeys)] }
def FnExactLevelUpSaid : Prop := fnExactLevelUpRow.holds Tryd.pinned (OpenSpec.ofChange fnExactLevelUpSpec)

/-- ITS FALSE NEIGHBOUR: 'it returns false'. Refute it at one input. -/
def fnExactLevelUpWrong : ChangeSpec := { name := "fnExactLevelUp", vars := ["loop.example/g00186/impl.roundKeys"], fn := fun _ => fun
  | [d1, d2, g1] => { results := [.lit (.bool false)], args := [d1, d2], vars := [g1] }
  | _ => none }
def FnExactLevelUpWrongFalsely : Prop := fnExactLevelUpRow.holds Tryd.pinned (OpenSpec.ofChange fnExactLevelUpWrong)

/- THE SECOND FORM. 'bulk': how many values and letters a reading holds, each counted each time it is reached (what is shared counts as often as it is met; a slice's spare places count too). A statement '..UptoSaid' is the law's where the arguments, and the package variables that the reading takes, are together of bulk at most 1048576: NARROWER than '..Said'. Prove '..Said' where nothing that the law and all that it calls make is longer than what came in: it says more and counts as full. Else prove '..UptoSaid'. A law counts once. -/
mutual
def uptoBulk {H : Type} : DataW H → Nat
  | .lit (.string bytes) => bytes.length + 1
  | .lit _ => 1
  | .nil => 1
  | .ptr d => uptoBulk d + 1
  | .slice elems spare => uptoBulkAll elems + uptoBulkAll spare + 1
  | .agg parts => uptoBulkAll parts + 1
  | .iface _ d => uptoBulk d + 1
  | .map entries => uptoBulkEntries entries + 1
  | .held _ => 1
def uptoBulkAll {H : Type} : List (DataW H) → Nat
  | [] => 0
  | d :: r => uptoBulk d + uptoBulkAll r
def uptoBulkEntries {H : Type} : List (Lit × DataW H) → Nat
  | [] => 0
  | x :: r => uptoBulkEntry x + uptoBulkEntries r
def uptoBulkEntry {H : Type} : Lit × DataW H → Nat
  | (.string bytes, d) => bytes.length + uptoBulk d + 1
  | (_, d) => uptoBulk d + 1
 end
def uptoSmall : (H : Type) → List (DataW H) → Bool := fun _ ds => decide (uptoBulkAll ds ≤ 1048576)
def OpenSpec.upto (s : _root_.Go.ChangeSpec) : _root_.Go.OpenSpec := { _root_.Go.OpenSpec.ofChange s with cond := some uptoSmall }

/-- 'laws.FnExactChop', WHERE WHAT IT READS IS OF BULK AT MOST 1048576: true; the input reads as it did. -/
def fnExactChopUptoRow : OpenClaim := { program := "ytojdllodojbnfaadoor", sum := "47d842da3b05a358e457ef078837412dee86a917223904a617e30b0d8bcbff12", func := "loop.example/g00186/laws.FnExactChop", spec := "fnExactChop", named := ["loop.example/g00186/impl.roundKeys"], apart := false, laid := [("loop.example/g00186/impl.roundKeys", laid_loop_example_g00186_impl_roundKeys)], narrowed := true }
def FnExactChopUptoSaid : Prop := fnExactChopUptoRow.holds Tryd.pinned (OpenSpec.upto fnExactChopSpec)

/-- 'laws.FnExactNode', WHERE WHAT IT READS IS OF BULK AT MOST 1048576: true; the input reads as it did. -/
def fnExactNodeUptoRow : OpenClaim := { program := "ytojdllodojbnfaadoor", sum := "47d842da3b05a358e457ef078837412dee86a917223904a617e30b0d8bcbff12", func := "loop.example/g00186/laws.FnExactNode", spec := "fnExactNode", named := ["loop.example/g00186/impl.roundKeys"], apart := false, laid := [("loop.example/g00186/impl.roundKeys", laid_loop_example_g00186_impl_roundKeys)], narrowed := true }
def FnExactNodeUptoSaid : Prop := fnExactNodeUptoRow.holds Tryd.pinned (OpenSpec.upto fnExactNodeSpec)

/-- 'laws.FnExactChainOf', WHERE WHAT IT READS IS OF BULK AT MOST 1048576: true; the input reads as it did. -/
def fnExactChainOfUptoRow : OpenClaim := { program := "ytojdllodojbnfaadoor", sum := "47d842da3b05a358e457ef078837412dee86a917223904a617e30b0d8bcbff12", func := "loop.example/g00186/laws.FnExactChainOf", spec := "fnExactChainOf", named := ["loop.example/g00186/impl.roundKeys"], apart := false, laid := [("loop.example/g00186/impl.roundKeys", laid_loop_example_g00186_impl_roundKeys)], narrowed := true }
def FnExactChainOfUptoSaid : Prop := fnExactChainOfUptoRow.holds Tryd.pinned (OpenSpec.upto fnExactChainOfSpec)

/-- 'laws.FnExactDigitsOf', WHERE WHAT IT READS IS OF BULK AT MOST 1048576: true; the input reads as it did. -/
def fnExactDigitsOfUptoRow : OpenClaim := { program := "ytojdllodojbnfaadoor", sum := "47d842da3b05a358e457ef078837412dee86a917223904a617e30b0d8bcbff12", func := "loop.example/g00186/laws.FnExactDigitsOf", spec := "fnExactDigitsOf", named := ["loop.example/g00186/impl.roundKeys"], apart := false, laid := [("loop.example/g00186/impl.roundKeys", laid_loop_example_g00186_impl_roundKeys)], narrowed := true }
def FnExactDigitsOfUptoSaid : Prop := fnExactDigitsOfUptoRow.holds Tryd.pinned (OpenSpec.upto fnExactDigitsOfSpec)

/-- 'laws.FnExactOnceKey', WHERE WHAT IT READS IS OF BULK AT MOST 1048576: true; the input reads as it did. -/
def fnExactOnceKeyUptoRow : OpenClaim := { program := "ytojdllodojbnfaadoor", sum := "47d842da3b05a358e457ef078837412dee86a917223904a617e30b0d8bcbff12", func := "loop.example/g00186/laws.FnExactOnceKey", spec := "fnExactOnceKey", named := ["loop.example/g00186/impl.roundKeys"], apart := false, laid := [("loop.example/g00186/impl.roundKeys", laid_loop_example_g00186_impl_roundKeys)], narrowed := true }
def FnExactOnceKeyUptoSaid : Prop := fnExactOnceKeyUptoRow.holds Tryd.pinned (OpenSpec.upto fnExactOnceKeySpec)

/-- 'laws.FnExactOncePublic', WHERE WHAT IT READS IS OF BULK AT MOST 1048576: true; the input reads as it did. -/
def fnExactOncePublicUptoRow : OpenClaim := { program := "ytojdllodojbnfaadoor", sum := "47d842da3b05a358e457ef078837412dee86a917223904a617e30b0d8bcbff12", func := "loop.example/g00186/laws.FnExactOncePublic", spec := "fnExactOncePublic", unfollowed := true, recurses := true, named := ["loop.example/g00186/impl.roundKeys"], apart := false, laid := [("loop.example/g00186/impl.roundKeys", laid_loop_example_g00186_impl_roundKeys)], narrowed := true }
def FnExactOncePublicUptoSaid : Prop := fnExactOncePublicUptoRow.holds Tryd.pinned (OpenSpec.upto fnExactOncePublicSpec)

/-- 'laws.FnExactRootBy', WHERE WHAT IT READS IS OF BULK AT MOST 1048576: true; the input reads as it did. -/
def fnExactRootByUptoRow : OpenClaim := { program := "ytojdllodojbnfaadoor", sum := "47d842da3b05a358e457ef078837412dee86a917223904a617e30b0d8bcbff12", func := "loop.example/g00186/laws.FnExactRootBy", spec := "fnExactRootBy", named := ["loop.example/g00186/impl.roundKeys"], apart := false, laid := [("loop.example/g00186/impl.roundKeys", laid_loop_example_g00186_impl_roundKeys)], narrowed := true }
def FnExactRootByUptoSaid : Prop := fnExactRootByUptoRow.holds Tryd.pinned (OpenSpec.upto fnExactRootBySpec)

/-- 'laws.FnExactRootOf', WHERE WHAT IT READS IS OF BULK AT MOST 1048576: true; the input reads as it did. -/
def fnExactRootOfUptoRow : OpenClaim := { program := "ytojdllodojbnfaadoor", sum := "47d842da3b05a358e457ef078837412dee86a917223904a617e30b0d8bcbff12", func := "loop.example/g00186/laws.FnExactRootOf", spec := "fnExactRootOf", named := ["loop.example/g00186/impl.roundKeys"], apart := false, laid := [("loop.example/g00186/impl.roundKeys", laid_loop_example_g00186_impl_roundKeys)], narrowed := true }
def FnExactRootOfUptoSaid : Prop := fnExactRootOfUptoRow.holds Tryd.pinned (OpenSpec.upto fnExactRootOfSpec)

/-- 'laws.FnExactLevelUp', WHERE WHAT IT READS IS OF BULK AT MOST 1048576: true; the input reads as it did. -/
def fnExactLevelUpUptoRow : OpenClaim := { program := "ytojdllodojbnfaadoor", sum := "47d842da3b05a358e457ef078837412dee86a917223904a617e30b0d8bcbff12", func := "loop.example/g00186/laws.FnExactLevelUp", spec := "fnExactLevelUp", named := ["loop.example/g00186/impl.roundKeys"], apart := false, laid := [("loop.example/g00186/impl.roundKeys", laid_loop_example_g00186_impl_roundKeys)], narrowed := true }
def FnExactLevelUpUptoSaid : Prop := fnExactLevelUpUptoRow.holds Tryd.pinned (OpenSpec.upto fnExactLevelUpSpec)

end Rows
end Go.Proofs.YtojdllodojbnfaaDoor
