/-
  NARROWER THAN 'FOR EVERY INPUT', by the rows' own cells (each row's printed sentence says how): FnExactMask: laid · FnChains: laid · FnDigits: laid · FnExactOnceFound: laid · FnExactPublicOf: laid · FnExactHyperPublic: laid · FnExactPathOf: laid · FnExactOnceSign: laid · FnPaths: laid.
  DERIVED. THE GIVEN ROWS OF THIS SEAT. 9 by the template 'for every input the law returns true; each argument reads behind the call as it read before'; 0 by the template 'total and deterministic' (their statements: YtoeagdpddggliaaDoorTotals.lean).
  GIVEN WITH THE SEED: the statements are not yours to turn. If you find one false, say at which input.
  Laid BY PROGRAM, IN A SANDBOX (cutbox-rows.mjs): the forced cells as the released guide's own fill.sh prints them over the translation 5e37cba4d673bcfe… (all of the seat's roots in one cut). By AI agents, Wed Nov 11 2026. No macro, syntax, notation, axiom, sorry.
-/
import Derived.Test.YtoeagdpddggliaaDoorChecked
import GoSem.Claim
import GoSem.ClaimJoined
import GoSem.ClaimMapViews
import Derived.JoinedTies
import Derived.KernelRfl
namespace Go.Proofs.YtoeagdpddggliaaDoor
/- THE CELL 'sum', in the pinned program and in every row, IS THE sha256 OF THE DUMP (.gsa) THAT YtoeagdpddggliaaDoorProg.lean LOADS. Nothing in Lean hashes anything: it is a label: what it is worth is what the hold of that sum in a sandbox is worth. -/
noncomputable def Tryd.pinned : Pinned := { name := "ytoeagdpddggliaadoor", sum := "5e37cba4d673bcfe33e995cb2cabf19d724ceddb26744366a0599f11b7e8bfc3", checked := Tryd.checked }
namespace Rows
def none {H : Type} : Left H := { results := [], args := [] }

/- WHAT THE LISTED PACKAGE-LEVEL VARIABLES READ AS WHEN THE CALL BEGINS. Each datum BY PROGRAM (the guide's laid-datum.mjs) off the statement by which the dump's own 'gosem.cut.vars' lays the variable. In a bare row this is a premise. The card (YtoeagdpddggliaaDoorCards.lean) ties it to the program's text. -/
def laid_loop_example_g00186_impl_roundKeys {H : Type} : DataW H := .agg [.lit (.int .u32 1116352408), .lit (.int .u32 1899447441), .lit (.int .u32 3049323471), .lit (.int .u32 3921009573), .lit (.int .u32 961987163), .lit (.int .u32 1508970993), .lit (.int .u32 2453635748), .lit (.int .u32 2870763221), .lit (.int .u32 3624381080), .lit (.int .u32 310598401), .lit (.int .u32 607225278), .lit (.int .u32 1426881987), .lit (.int .u32 1925078388), .lit (.int .u32 2162078206), .lit (.int .u32 2614888103), .lit (.int .u32 3248222580), .lit (.int .u32 3835390401), .lit (.int .u32 4022224774), .lit (.int .u32 264347078), .lit (.int .u32 604807628), .lit (.int .u32 770255983), .lit (.int .u32 1249150122), .lit (.int .u32 1555081692), .lit (.int .u32 1996064986), .lit (.int .u32 2554220882), .lit (.int .u32 2821834349), .lit (.int .u32 2952996808), .lit (.int .u32 3210313671), .lit (.int .u32 3336571891), .lit (.int .u32 3584528711), .lit (.int .u32 113926993), .lit (.int .u32 338241895), .lit (.int .u32 666307205), .lit (.int .u32 773529912), .lit (.int .u32 1294757372), .lit (.int .u32 1396182291), .lit (.int .u32 1695183700), .lit (.int .u32 1986661051), .lit (.int .u32 2177026350), .lit (.int .u32 2456956037), .lit (.int .u32 2730485921), .lit (.int .u32 2820302411), .lit (.int .u32 3259730800), .lit (.int .u32 3345764771), .lit (.int .u32 3516065817), .lit (.int .u32 3600352804), .lit (.int .u32 4094571909), .lit (.int .u32 275423344), .lit (.int .u32 430227734), .lit (.int .u32 506948616), .lit (.int .u32 659060556), .lit (.int .u32 883997877), .lit (.int .u32 958139571), .lit (.int .u32 1322822218), .lit (.int .u32 1537002063), .lit (.int .u32 1747873779), .lit (.int .u32 1955562222), .lit (.int .u32 2024104815), .lit (.int .u32 2227730452), .lit (.int .u32 2361852424), .lit (.int .u32 2428436474), .lit (.int .u32 2756734187), .lit (.int .u32 3204031479), .lit (.int .u32 3329325298)]

/-- 'laws.FnExactMask': WHATEVER THE INPUT: true; the input reads as it did. -/
def fnExactMaskSpec : ChangeSpec := { name := "fnExactMask", vars := ["loop.example/g00186/impl.roundKeys"], fn := fun _ => fun
  | [d1, d2, d3, g1] => { results := [.lit (.bool true)], args := [d1, d2, d3], vars := [g1] }
  | _ => none }
def fnExactMaskRow : OpenClaim := { program := "ytoeagdpddggliaadoor", sum := "5e37cba4d673bcfe33e995cb2cabf19d724ceddb26744366a0599f11b7e8bfc3", func := "loop.example/g00186/laws.FnExactMask", spec := "fnExactMask", named := ["loop.example/g00186/impl.roundKeys"], apart := false, laid := [("loop.example/g00186/impl.roundKeys", laid_loop_example_g00186_impl_roundKeys)] }
def FnExactMaskSaid : Prop := fnExactMaskRow.holds Tryd.pinned (OpenSpec.ofChange fnExactMaskSpec)

/-- ITS FALSE NEIGHBOUR: 'it returns false'. Refute it at one input. -/
def fnExactMaskWrong : ChangeSpec := { name := "fnExactMask", vars := ["loop.example/g00186/impl.roundKeys"], fn := fun _ => fun
  | [d1, d2, d3, g1] => { results := [.lit (.bool false)], args := [d1, d2, d3], vars := [g1] }
  | _ => none }
def FnExactMaskWrongFalsely : Prop := fnExactMaskRow.holds Tryd.pinned (OpenSpec.ofChange fnExactMaskWrong)

/-- 'laws.FnChains': WHATEVER THE INPUT: true; the input reads as it did. -/
def fnChainsSpec : ChangeSpec := { name := "fnChains", vars := ["loop.example/g00186/impl.roundKeys"], fn := fun _ => fun
  | [d, g1] => { results := [.lit (.bool true)], args := [d], vars := [g1] }
  | _ => none }
def fnChainsRow : OpenClaim := { program := "ytoeagdpddggliaadoor", sum := "5e37cba4d673bcfe33e995cb2cabf19d724ceddb26744366a0599f11b7e8bfc3", func := "loop.example/g00186/laws.FnChains", spec := "fnChains", named := ["loop.example/g00186/impl.roundKeys"], apart := false, laid := [("loop.example/g00186/impl.roundKeys", laid_loop_example_g00186_impl_roundKeys)] }
def FnChainsSaid : Prop := fnChainsRow.holds Tryd.pinned (OpenSpec.ofChange fnChainsSpec)

/-- ITS FALSE NEIGHBOUR: 'it returns false'. Refute it at one input. -/
def fnChainsWrong : ChangeSpec := { name := "fnChains", vars := ["loop.example/g00186/impl.roundKeys"], fn := fun _ => fun
  | [d, g1] => { results := [.lit (.bool false)], args := [d], vars := [g1] }
  | _ => none }
def FnChainsWrongFalsely : Prop := fnChainsRow.holds Tryd.pinned (OpenSpec.ofChange fnChainsWrong)

/-- 'laws.FnDigits': WHATEVER THE INPUT: true; the input reads as it did. -/
def fnDigitsSpec : ChangeSpec := { name := "fnDigits", vars := ["loop.example/g00186/impl.roundKeys"], fn := fun _ => fun
  | [d, g1] => { results := [.lit (.bool true)], args := [d], vars := [g1] }
  | _ => none }
def fnDigitsRow : OpenClaim := { program := "ytoeagdpddggliaadoor", sum := "5e37cba4d673bcfe33e995cb2cabf19d724ceddb26744366a0599f11b7e8bfc3", func := "loop.example/g00186/laws.FnDigits", spec := "fnDigits", named := ["loop.example/g00186/impl.roundKeys"], apart := false, laid := [("loop.example/g00186/impl.roundKeys", laid_loop_example_g00186_impl_roundKeys)] }
def FnDigitsSaid : Prop := fnDigitsRow.holds Tryd.pinned (OpenSpec.ofChange fnDigitsSpec)

/-- ITS FALSE NEIGHBOUR: 'it returns false'. Refute it at one input. -/
def fnDigitsWrong : ChangeSpec := { name := "fnDigits", vars := ["loop.example/g00186/impl.roundKeys"], fn := fun _ => fun
  | [d, g1] => { results := [.lit (.bool false)], args := [d], vars := [g1] }
  | _ => none }
def FnDigitsWrongFalsely : Prop := fnDigitsRow.holds Tryd.pinned (OpenSpec.ofChange fnDigitsWrong)

/-- 'laws.FnExactOnceFound': WHATEVER THE INPUT: true; the input reads as it did. -/
def fnExactOnceFoundSpec : ChangeSpec := { name := "fnExactOnceFound", vars := ["loop.example/g00186/impl.roundKeys"], fn := fun _ => fun
  | [d1, d2, d3, g1] => { results := [.lit (.bool true)], args := [d1, d2, d3], vars := [g1] }
  | _ => none }
def fnExactOnceFoundRow : OpenClaim := { program := "ytoeagdpddggliaadoor", sum := "5e37cba4d673bcfe33e995cb2cabf19d724ceddb26744366a0599f11b7e8bfc3", func := "loop.example/g00186/laws.FnExactOnceFound", spec := "fnExactOnceFound", unfollowed := true, recurses := true, named := ["loop.example/g00186/impl.roundKeys"], apart := false, laid := [("loop.example/g00186/impl.roundKeys", laid_loop_example_g00186_impl_roundKeys)] }
def FnExactOnceFoundSaid : Prop := fnExactOnceFoundRow.holds Tryd.pinned (OpenSpec.ofChange fnExactOnceFoundSpec)

/-- ITS FALSE NEIGHBOUR: 'it returns false'. Refute it at one input. -/
def fnExactOnceFoundWrong : ChangeSpec := { name := "fnExactOnceFound", vars := ["loop.example/g00186/impl.roundKeys"], fn := fun _ => fun
  | [d1, d2, d3, g1] => { results := [.lit (.bool false)], args := [d1, d2, d3], vars := [g1] }
  | _ => none }
def FnExactOnceFoundWrongFalsely : Prop := fnExactOnceFoundRow.holds Tryd.pinned (OpenSpec.ofChange fnExactOnceFoundWrong)

/-- 'laws.FnExactPublicOf': WHATEVER THE INPUT: true; the input reads as it did. -/
def fnExactPublicOfSpec : ChangeSpec := { name := "fnExactPublicOf", vars := ["loop.example/g00186/impl.roundKeys"], fn := fun _ => fun
  | [d, g1] => { results := [.lit (.bool true)], args := [d], vars := [g1] }
  | _ => none }
def fnExactPublicOfRow : OpenClaim := { program := "ytoeagdpddggliaadoor", sum := "5e37cba4d673bcfe33e995cb2cabf19d724ceddb26744366a0599f11b7e8bfc3", func := "loop.example/g00186/laws.FnExactPublicOf", spec := "fnExactPublicOf", unfollowed := true, recurses := true, named := ["loop.example/g00186/impl.roundKeys"], apart := false, laid := [("loop.example/g00186/impl.roundKeys", laid_loop_example_g00186_impl_roundKeys)] }
def FnExactPublicOfSaid : Prop := fnExactPublicOfRow.holds Tryd.pinned (OpenSpec.ofChange fnExactPublicOfSpec)

/-- ITS FALSE NEIGHBOUR: 'it returns false'. Refute it at one input. -/
def fnExactPublicOfWrong : ChangeSpec := { name := "fnExactPublicOf", vars := ["loop.example/g00186/impl.roundKeys"], fn := fun _ => fun
  | [d, g1] => { results := [.lit (.bool false)], args := [d], vars := [g1] }
  | _ => none }
def FnExactPublicOfWrongFalsely : Prop := fnExactPublicOfRow.holds Tryd.pinned (OpenSpec.ofChange fnExactPublicOfWrong)

/-- 'laws.FnExactHyperPublic': WHATEVER THE INPUT: true; the input reads as it did. -/
def fnExactHyperPublicSpec : ChangeSpec := { name := "fnExactHyperPublic", vars := ["loop.example/g00186/impl.roundKeys"], fn := fun _ => fun
  | [d, g1] => { results := [.lit (.bool true)], args := [d], vars := [g1] }
  | _ => none }
def fnExactHyperPublicRow : OpenClaim := { program := "ytoeagdpddggliaadoor", sum := "5e37cba4d673bcfe33e995cb2cabf19d724ceddb26744366a0599f11b7e8bfc3", func := "loop.example/g00186/laws.FnExactHyperPublic", spec := "fnExactHyperPublic", unfollowed := true, recurses := true, named := ["loop.example/g00186/impl.roundKeys"], apart := false, laid := [("loop.example/g00186/impl.roundKeys", laid_loop_example_g00186_impl_roundKeys)] }
def FnExactHyperPublicSaid : Prop := fnExactHyperPublicRow.holds Tryd.pinned (OpenSpec.ofChange fnExactHyperPublicSpec)

/-- ITS FALSE NEIGHBOUR: 'it returns false'. Refute it at one input. -/
def fnExactHyperPublicWrong : ChangeSpec := { name := "fnExactHyperPublic", vars := ["loop.example/g00186/impl.roundKeys"], fn := fun _ => fun
  | [d, g1] => { results := [.lit (.bool false)], args := [d], vars := [g1] }
  | _ => none }
def FnExactHyperPublicWrongFalsely : Prop := fnExactHyperPublicRow.holds Tryd.pinned (OpenSpec.ofChange fnExactHyperPublicWrong)

/-- 'laws.FnExactPathOf': WHATEVER THE INPUT: true; the input reads as it did. -/
def fnExactPathOfSpec : ChangeSpec := { name := "fnExactPathOf", vars := ["loop.example/g00186/impl.roundKeys"], fn := fun _ => fun
  | [d1, d2, g1] => { results := [.lit (.bool true)], args := [d1, d2], vars := [g1] }
  | _ => none }
def fnExactPathOfRow : OpenClaim := { program := "ytoeagdpddggliaadoor", sum := "5e37cba4d673bcfe33e995cb2cabf19d724ceddb26744366a0599f11b7e8bfc3", func := "loop.example/g00186/laws.FnExactPathOf", spec := "fnExactPathOf", named := ["loop.example/g00186/impl.roundKeys"], apart := false, laid := [("loop.example/g00186/impl.roundKeys", laid_loop_example_g00186_impl_roundKeys)] }
def FnExactPathOfSaid : Prop := fnExactPathOfRow.holds Tryd.pinned (OpenSpec.ofChange fnExactPathOfSpec)

/-- ITS FALSE NEIGHBOUR: 'it returns false'. Refute it at one input. -/
def fnExactPathOfWrong : ChangeSpec := { name := "fnExactPathOf", vars := ["loop.example/g00186/impl.roundKeys"], fn := fun _ => fun
  | [d1, d2, g1] => { results := [.lit (.bool false)], args := [d1, d2], vars := [g1] }
  | _ => none }
def FnExactPathOfWrongFalsely : Prop := fnExactPathOfRow.holds Tryd.pinned (OpenSpec.ofChange fnExactPathOfWrong)

/-- 'laws.FnExactOnceSign': WHATEVER THE INPUT: true; the input reads as it did. -/
def fnExactOnceSignSpec : ChangeSpec := { name := "fnExactOnceSign", vars := ["loop.example/g00186/impl.roundKeys"], fn := fun _ => fun
  | [d1, d2, d3, g1] => { results := [.lit (.bool true)], args := [d1, d2, d3], vars := [g1] }
  | _ => none }
def fnExactOnceSignRow : OpenClaim := { program := "ytoeagdpddggliaadoor", sum := "5e37cba4d673bcfe33e995cb2cabf19d724ceddb26744366a0599f11b7e8bfc3", func := "loop.example/g00186/laws.FnExactOnceSign", spec := "fnExactOnceSign", named := ["loop.example/g00186/impl.roundKeys"], apart := false, laid := [("loop.example/g00186/impl.roundKeys", laid_loop_example_g00186_impl_roundKeys)] }
def FnExactOnceSignSaid : Prop := fnExactOnceSignRow.holds Tryd.pinned (OpenSpec.ofChange fnExactOnceSignSpec)

/-- ITS FALSE NEIGHBOUR: 'it returns false'. Refute it at one input. -/
def fnExactOnceSignWrong : ChangeSpec := { name := "fnExactOnceSign", vars := ["loop.example/g00186/impl.roundKeys"], fn := fun _ => fun
  | [d1, d2, d3, g1] => { results := [.lit (.bool false)], args := [d1, d2, d3], vars := [g1] }
  | _ => none }
def FnExactOnceSignWrongFalsely : Prop := fnExactOnceSignRow.holds Tryd.pinned (OpenSpec.ofChange fnExactOnceSignWrong)

/-- 'laws.FnPaths': WHATEVER THE INPUT: true; the input reads as it did. -/
def fnPathsSpec : ChangeSpec := { name := "fnPaths", vars := ["loop.example/g00186/impl.roundKeys"], fn := fun _ => fun
  | [d, g1] => { results := [.lit (.bool true)], args := [d], vars := [g1] }
  | _ => none }
def fnPathsRow : OpenClaim := { program := "ytoeagdpddggliaadoor", sum := "5e37cba4d673bcfe33e995cb2cabf19d724ceddb26744366a0599f11b7e8bfc3", func := "loop.example/g00186/laws.FnPaths", spec := "fnPaths", named := ["loop.example/g00186/impl.roundKeys"], apart := false, laid := [("loop.example/g00186/impl.roundKeys", laid_loop_example_g00186_impl_roundKeys)] }
def FnPathsSaid : Prop := fnPathsRow.holds Tryd.pinned (OpenSpec.ofChange fnPathsSpec)

/-- ITS FALSE NEIGHBOUR: 'it returns false'. Refute it at one input. -/
def fnPathsWrong : ChangeSpec := { name := "fnPaths", vars := ["loop.example/g00186/impl.roundKeys"], fn := fun _ => fun
  | [d, g1] => { results := [.lit (.bool false)], args := [d], vars := [g1] }
  | _ => none }
def FnPathsWrongFalsely : Prop := fnPathsRow.holds Tryd.pinned (OpenSpec.ofChange fnPathsWrong)

/- THE SECOND FORM. 'bulk': how many values and letters a reading holds, each counted each time it is reached (what is shared counts as often as it is met; a slice's spare places count too). A statement '..UptoSaid' is the law's where the arguments, and the package variables that the reading takes, are together of bulk at most 1048576: NARROWER than '..Said'. Prove '..Said' where nothing that the law and all that it calls make is longer than what came in: it says more and counts as full. Else prove '..UptoSaid'. A law counts once. -/
mutual
def uptoBulk {H : Type} : DataW H → Nat
  | .lit (.string bytes) => bytes.length + 1
  | .lit _ => 1
  | .nil => 1
  | .ptr d => uptoBulk d + 1
  | .slice elems spare => uptoBulkAll elems + uptoBulkAll spare + 1
  | .agg parts => uptoBulkAll parts + 1
  | .iface _ d => uptoBulk d + 1
  | .map entries => uptoBulkEntries entries + 1
  | .held _ => 1
def uptoBulkAll {H : Type} : List (DataW H) → Nat
  | [] => 0
  | d :: r => uptoBulk d + uptoBulkAll r
def uptoBulkEntries {H : Type} : List (Lit × DataW H) → Nat
  | [] => 0
  | x :: r => uptoBulkEntry x + uptoBulkEntries r
def uptoBulkEntry {H : Type} : Lit × DataW H → Nat
  | (.string bytes, d) => bytes.length + uptoBulk d + 1
  | (_, d) => uptoBulk d + 1
 end
def uptoSmall : (H : Type) → List (DataW H) → Bool := fun _ ds => decide (uptoBulkAll ds ≤ 1048576)
def OpenSpec.upto (s : _root_.Go.ChangeSpec) : _root_.Go.OpenSpec := { _root_.Go.OpenSpec.ofChange s with cond := some uptoSmall }

/-- 'laws.FnExactMask', WHERE WHAT IT READS IS OF BULK AT MOST 1048576: true; the input reads as it did. -/
def fnExactMaskUptoRow : OpenClaim := { program := "ytoeagdpddggliaadoor", sum := "5e37cba4d673bcfe33e995cb2cabf19d724ceddb26744366a0599f11b7e8bfc3", func := "loop.example/g00186/laws.FnExactMask", spec := "fnExactMask", named := ["loop.example/g00186/impl.roundKeys"], apart := false, laid := [("loop.example/g00186/impl.roundKeys", laid_loop_example_g00186_impl_roundKeys)], narrowed := true }
def FnExactMaskUptoSaid : Prop := fnExactMaskUptoRow.holds Tryd.pinned (OpenSpec.upto fnExactMaskSpec)

/-- 'laws.FnChains', WHERE WHAT IT READS IS OF BULK AT MOST 1048576: true; the input reads as it did. -/
def fnChainsUptoRow : OpenClaim := { program := "ytoeagdpddggliaadoor", sum := "5e37cba4d673bcfe33e995cb2cabf19d724ceddb26744366a0599f11b7e8bfc3", func := "loop.example/g00186/laws.FnChains", spec := "fnChains", named := ["loop.example/g00186/impl.roundKeys"], apart := false, laid := [("loop.example/g00186/impl.roundKeys", laid_loop_example_g00186_impl_roundKeys)], narrowed := true }
def FnChainsUptoSaid : Prop := fnChainsUptoRow.holds Tryd.pinned (OpenSpec.upto fnChainsSpec)

/-- 'laws.FnDigits', WHERE WHAT IT READS IS OF BULK AT MOST 1048576: true; the input reads as it did. -/
def fnDigitsUptoRow : OpenClaim := { program := "ytoeagdpddggliaadoor", sum := "5e37cba4d673bcfe33e995cb2cabf19d724ceddb26744366a0599f11b7e8bfc3", func := "loop.example/g00186/laws.FnDigits", spec := "fnDigits", named := ["loop.example/g00186/impl.roundKeys"], apart := false, laid := [("loop.example/g00186/impl.roundKeys", laid_loop_example_g00186_impl_roundKeys)], narrowed := true }
def FnDigitsUptoSaid : Prop := fnDigitsUptoRow.holds Tryd.pinned (OpenSpec.upto fnDigitsSpec)

/-- 'laws.FnExactOnceFound', WHERE WHAT IT READS IS OF BULK AT MOST 1048576: true; the input reads as it did. -/
def fnExactOnceFoundUptoRow : OpenClaim := { program := "ytoeagdpddggliaadoor", sum := "5e37cba4d673bcfe33e995cb2cabf19d724ceddb26744366a0599f11b7e8bfc3", func := "loop.example/g00186/laws.FnExactOnceFound", spec := "fnExactOnceFound", unfollowed := true, recurses := true, named := ["loop.example/g00186/impl.roundKeys"], apart := false, laid := [("loop.example/g00186/impl.roundKeys", laid_loop_example_g00186_impl_roundKeys)], narrowed := true }
def FnExactOnceFoundUptoSaid : Prop := fnExactOnceFoundUptoRow.holds Tryd.pinned (OpenSpec.upto fnExactOnceFoundSpec)

/-- 'laws.FnExactPublicOf', WHERE WHAT IT READS IS OF BULK AT MOST 1048576: true; the input reads as it did. -/
def fnExactPublicOfUptoRow : OpenClaim := { program := "ytoeagdpddggliaadoor", sum := "5e37cba4d673bcfe33e995cb2cabf19d724ceddb26744366a0599f11b7e8bfc3", func := "loop.example/g00186/laws.FnExactPublicOf", spec := "fnExactPublicOf", unfollowed := true, recurses := true, named := ["loop.example/g00186/impl.roundKeys"], apart := false, laid := [("loop.example/g00186/impl.roundKeys", laid_loop_example_g00186_impl_roundKeys)], narrowed := true }
def FnExactPublicOfUptoSaid : Prop := fnExactPublicOfUptoRow.holds Tryd.pinned (OpenSpec.upto fnExactPublicOfSpec)

/-- 'laws.FnExactHyperPublic', WHERE WHAT IT READS IS OF BULK AT MOST 1048576: true; the input reads as it did. -/
def fnExactHyperPublicUptoRow : OpenClaim := { program := "ytoeagdpddggliaadoor", sum := "5e37cba4d673bcfe33e995cb2cabf19d724ceddb26744366a0599f11b7e8bfc3", func := "loop.example/g00186/laws.FnExactHyperPublic", spec := "fnExactHyperPublic", unfollowed := true, recurses := true, named := ["loop.example/g00186/impl.roundKeys"], apart := false, laid := [("loop.example/g00186/impl.roundKeys", laid_loop_example_g00186_impl_roundKeys)], narrowed := true }
def FnExactHyperPublicUptoSaid : Prop := fnExactHyperPublicUptoRow.holds Tryd.pinned (OpenSpec.upto fnExactHyperPublicSpec)

/-- 'laws.FnExactPathOf', WHERE WHAT IT READS IS OF BULK AT MOST 1048576: true; the input reads as it did. -/
def fnExactPathOfUptoRow : OpenClaim := { program := "ytoeagdpddggliaadoor", sum := "5e37cba4d673bcfe33e995cb2cabf19d724ceddb26744366a0599f11b7e8bfc3", func := "loop.example/g00186/laws.FnExactPathOf", spec := "fnExactPathOf", named := ["loop.example/g00186/impl.roundKeys"], apart := false, laid := [("loop.example/g00186/impl.roundKeys", laid_loop_example_g00186_impl_roundKeys)], narrowed := true }
def FnExactPathOfUptoSaid : Prop := fnExactPathOfUptoRow.holds Tryd.pinned (OpenSpec.upto fnExactPathOfSpec)

/-- 'laws.FnExactOnceSign', WHERE WHAT IT READS IS OF BULK AT MOST 1048576: true; the input reads as it did. -/
def fnExactOnceSignUptoRow : OpenClaim := { program := "ytoeagdpddggliaadoor", sum := "5e37cba4d673bcfe33e995cb2cabf19d724ceddb26744366a0599f11b7e8bfc3", func := "loop.example/g00186/laws.FnExactOnceSign", spec := "fnExactOnceSign", named := ["loop.example/g00186/impl.roundKeys"], apart := false, laid := [("loop.example/g00186/impl.roundKeys", laid_loop_example_g00186_impl_roundKeys)], narrowed := true }
def FnExactOnceSignUptoSaid : Prop := fnExactOnceSignUptoRow.holds Tryd.pinned (OpenSpec.upto fnExactOnceSignSpec)

/-- 'laws.FnPaths', WHERE WHAT IT READS IS OF BULK AT MOST 1048576: true; the input reads as it did. -/
def fnPathsUptoRow : OpenClaim := { program := "ytoeagdpddggliaadoor", sum := "5e37cba4d673bcfe33e995cb2cabf19d724ceddb26744366a0599f11b7e8bfc3", func := "loop.example/g00186/laws.FnPaths", spec := "fnPaths", named := ["loop.example/g00186/impl.roundKeys"], apart := false, laid := [("loop.example/g00186/impl.roundKeys", laid_loop_example_g00186_impl_roundKeys)], narrowed := true }
def FnPathsUptoSaid : Prop := fnPathsUptoRow.holds Tryd.pinned (OpenSpec.upto fnPathsSpec)

end Rows
end Go.Proofs.YtoeagdpddggliaaDoor
