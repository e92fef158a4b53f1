/- The row of the law on HyperCheck: for every input it returns true, and the input reads as it did; out of its pure statement and the walk. -/
import Derived.Test.YtjcmafoepabpkaaDoorRows
import Derived.Test.YtjcmafoepabpkaaDoorCards
import Derived.Test.YtjcmafoepabpkaaDoorTie
import Derived.Test.YtjcmafoepabpkaaDoorHA3
import Derived.Deep.DeepHandedRow
import Derived.Lib.LaidTab
import Derived.OpenVars
import Derived.ChangeVars
import Derived.Test.YtjcmafoepabpkaaDoorPx39
import Derived.Test.YtjcmafoepabpkaaDoorPureFnExactHyperCheck
import Derived.Test.YtjcmafoepabpkaaDoorMW1
import Derived.WalkKit
import Derived.ProofKit
import Derived.OpenShut
import Derived.ShutString
import Derived.ChangeOld
import Derived.Below
import Derived.SizedLaws
namespace Go.Proofs.YtjcmafoepabpkaaDoor.fnExactHyperCheck
open Go.ChangeShapes Go.WideShapes Go.ChangeAt Go.RowKit Go.Joins
open Go.ChangeMaps (open_string shut_string)
set_option linter.unusedVariables false
theorem own : ownKnob Tryd.prog.godebug = none := by kernel_rfl
theorem laidOut : laidOutB Tryd.prog = true := by kernel_rfl
theorem gTab : Tryd.prog.globalNamed "loop.example/g00186/impl.roundKeys" = some 0 := by kernel_rfl
theorem gTabType : (Tryd.prog.globals[0]?).map (·.type) = some 130 := by kernel_rfl
theorem cellsA : Tryd.prog.cellsOf 130 = 64 := by kernel_rfl
theorem cellsE : Tryd.prog.cellsOf 114 = 1 := by kernel_rfl
/-- What the row's list gives. -/
theorem table {W : World} (h : laidMetH Tryd.prog Rows.fnExactHyperCheckRow.laid W) : P.Laid W := by
 have ht : Lib.TabIs Tryd.prog W "loop.example/g00186/impl.roundKeys" .u32 P.roundKeys := Lib.tabIs_of_head (rest := []) gTab gTabType Tryd.underlying130 Tryd.underlying114 cellsE cellsA h
 unfold Lib.TabIs World.var? at ht
 rw [gTab] at ht
 simp only [Option.bind_some] at ht
 cases hb : W.heap[0]? with
 | none => rw [hb] at ht; cases ht
 | some o =>
  rw [hb] at ht
  cases o with
  | cells cs t fr => exact ⟨t, fr, by rw [hb]; exact congrArg (fun c => some (Obj.cells c t fr)) (Option.some.inj ht)⟩
  | _ => cases ht
set_option maxRecDepth 100000 in
theorem contract (H : Type) (enc : TypeId × Value → H) (W : World) (base : Nat) (args : Array Value) (ds gs : List (DataW H)) (before : List MemPlace)
  (hval0 : ∀ (j : Nat) t v, Tryd.f7.params[j]? = some t → args[j]? = some v → Value.okWide Tryd.prog W .any base t v)
  (hW : DataW.Whole enc Tryd.prog Tryd.f7.params.toList Rows.fnExactHyperCheckSpec.vars false W args.toList ds gs before)
  (hsz0 : (DataW.weightsEach Tryd.prog (Tryd.f7.params.toList ++ Rows.fnExactHyperCheckSpec.plain.varTypes Tryd.prog) (ds ++ gs)).all (· ≤ reachBytes) = true) (hL : laidMetH Tryd.prog Rows.fnExactHyperCheckRow.laid W) :
  Calls Tryd.prog 7 args W fun e W' => ∃ v, e = .returned v ∧ Rows.fnExactHyperCheckSpec.post enc Tryd.prog Tryd.f7 false true false false W args v W' := by
 have hsz : (DataW.weightsEach Tryd.prog (Tryd.f7.params.toList ++ Rows.fnExactHyperCheckSpec.plain.varTypes Tryd.prog) (ds ++ gs)).all (· ≤ reachBytes) = true := hsz0
 have hval : ∀ (j : Nat) t v, Tryd.f7.params[j]? = some t → args[j]? = some v → Value.okWide Tryd.prog W .any base t v := hval0
 have hW' := hW
 obtain ⟨p, q, hA0, hV, rfl, hfz, hnd⟩ := hW
 have hA : DataW.TrodAll enc Tryd.prog W 0 (fun _ => true) true Tryd.f7.params.toList args.toList ds p := hA0
 rw [Tryd.params7] at hA hval hsz
 obtain ⟨v0, vs0, d0, ds0, p0, q0, hargs, rfl, rfl, h0, r0⟩ := trodAll_cons hA
 obtain ⟨v1, vs1, d1, ds1, p1, q1, rfl, rfl, rfl, h1, r1⟩ := trodAll_cons r0
 obtain ⟨v2, vs2, d2, ds2, p2, q2, rfl, rfl, rfl, h2, r2⟩ := trodAll_cons r1
 obtain ⟨rfl, rfl, rfl⟩ := trodAll_nil r2
 obtain rfl : args = #[v0, v1, v2] := by cases args; simp_all
 obtain ⟨g_, t_, cs_, fu_, dd_, pp_, rfl, _⟩ := trodVars_one hV
 obtain ⟨a0, rfl, rfl, rfl, y0⟩ := open_string Tryd.underlying9 (hval 0 9 v0 rfl rfl) h0
 have w0 : a0.size ≤ 140737488351232 := by
  have z := sized_string hsz (j := 0) (t := 9) rfl rfl
  rw [Array.length_toList] at z
  exact z
 obtain ⟨a1, rfl, rfl, rfl, y1⟩ := open_string Tryd.underlying9 (hval 1 9 v1 rfl rfl) h1
 have w1 : a1.size ≤ 140737488351232 := by
  have z := sized_string hsz (j := 1) (t := 9) rfl rfl
  rw [Array.length_toList] at z
  exact z
 have k2 := h2
 have lt2 : ∀ x ∈ p2, x.block < W.heap.size := by obtain ⟨m, hm⟩ := k2; exact DataW.trod_lt m _ _ _ hm
 obtain ⟨c2_0, c2_1, c2_2, c2_3, c2_4, c2_5, c2_6, y2_0, y2_1, y2_2, y2_3, y2_4, y2_5, y2_6, m2_a, m2_b, m2_c, rfl, hy2_0, hy2_1, hy2_2, hy2_3, hy2_4, hy2_5, hy2_6⟩ := Kit.open_agg313 Tryd.underlying47 Tryd.underlying39 Tryd.underlying39 (by kernel_rfl) (by kernel_rfl) (by kernel_rfl) (by kernel_rfl) ⟨rfl, rfl, rfl⟩ (by kernel_rfl) (by kernel_rfl) (by kernel_rfl) ⟨rfl, rfl, rfl⟩ (by kernel_rfl) (by kernel_rfl) (by kernel_rfl) ⟨rfl, rfl, rfl⟩ (hval 2 47 v2 rfl rfl) h2
 obtain ⟨a2_0, e2_0, _, w2_0⟩ := DataW.trod_int Tryd.underlying3 hy2_0
 simp only [List.cons.injEq, and_true] at e2_0
 subst e2_0
 obtain ⟨A2_1, cap2_1, l2_1, rfl, hc2_1, hr2_1, hm2_1, hs2_1⟩ := Kit.read_strings Tryd.underlying25 Tryd.underlying9 (by kernel_rfl) hy2_1
 obtain ⟨A2_2, cap2_2, l2_2, rfl, hc2_2, hr2_2, hm2_2, hs2_2⟩ := Kit.read_strings Tryd.underlying25 Tryd.underlying9 (by kernel_rfl) hy2_2
 obtain ⟨a2_3, e2_3, _, w2_3⟩ := DataW.trod_string Tryd.underlying9 hy2_3
 simp only [List.cons.injEq, and_true] at e2_3
 subst e2_3
 obtain ⟨a2_4, e2_4, _, w2_4⟩ := DataW.trod_int Tryd.underlying3 hy2_4
 simp only [List.cons.injEq, and_true] at e2_4
 subst e2_4
 obtain ⟨A2_5, cap2_5, l2_5, rfl, hc2_5, hr2_5, hm2_5, hs2_5⟩ := Kit.read_strings Tryd.underlying25 Tryd.underlying9 (by kernel_rfl) hy2_5
 obtain ⟨A2_6, cap2_6, l2_6, rfl, hc2_6, hr2_6, hm2_6, hs2_6⟩ := Kit.read_strings Tryd.underlying25 Tryd.underlying9 (by kernel_rfl) hy2_6
 clear hA0 hval0 hsz0 hsz
 obtain ⟨k, hk⟩ := Pure.FnExactHyperCheck a0 a1 a2_0 l2_1 l2_2 a2_3 a2_4 l2_5 l2_6 w0 w1 w2_0 hm2_1 hs2_1 hm2_2 hs2_2 w2_3 w2_4 hm2_5 hs2_5 hm2_6 hs2_6
 refine (P.laws_FnExactHyperCheck.calls k a0 a1 a2_0 _ _ l2_1 _ _ l2_2 a2_3 a2_4 _ _ l2_5 _ _ l2_6 true W hr2_1 hc2_1 hr2_2 hc2_2 hr2_5 hc2_5 hr2_6 hc2_6 hk (table hL)).mono fun e W' ⟨he, bel⟩ => ?_
 subst he
 exact ⟨_, rfl, _, _, _, [], _, _, hW', trodAll_mk1 (shut_bool Tryd.underlying4 _), (trodAll_cons_mk (shut_string Tryd.underlying9 y0) (trodAll_cons_mk (shut_string Tryd.underlying9 y1) (trodAll_cons_mk (Below.trod laidOut (by kernel_rfl) (of_decide_eq_true (by kernel_rfl)) k2 bel lt2) trodAll_mk0))), Below.trodVars (by kernel_rfl) bel (by kernel_rfl) hV, bel.frame _, fun h => by cases h⟩
/-- A world for the witness: the settled one, the table holding what its text lays. -/
noncomputable def laidWorld (os : Os) : World :=
 { World.holding Tryd.prog os ⟨#[], #[], []⟩ with heap := (World.holding Tryd.prog os ⟨#[], #[], []⟩).heap.modify 0 fun
   | .cells _ t frozen => .cells (Kit.arrC .u32 P.roundKeys) t frozen
   | o => o }
theorem laid_met (os : Os) : laidMet Tryd.prog Rows.fnExactHyperCheckRow.laid ((laidWorld os).forCall (fun _ _ => 0) ⟨#[], #[.string ByteArray.empty, .string ByteArray.empty, .agg #[.int .i64 0, .slice none 0 0, .slice none 0 0, .string ByteArray.empty, .int .i64 0, .slice none 0 0, .slice none 0 0]], []⟩).memory :=
 laidMet_of_run' 8 (by kernel_rfl) (by kernel_rfl)
theorem reads (os : Os) {H : Type} (enc : TypeId × Value → H) : ∃ x, DataW.whole enc Tryd.prog ((laidWorld os).forCall (fun _ _ => 0) ⟨#[], #[.string ByteArray.empty, .string ByteArray.empty, .agg #[.int .i64 0, .slice none 0 0, .slice none 0 0, .string ByteArray.empty, .int .i64 0, .slice none 0 0, .slice none 0 0]], []⟩).memory Tryd.f7.params.toList Rows.fnExactHyperCheckSpec.vars false (#[.string ByteArray.empty, .string ByteArray.empty, .agg #[.int .i64 0, .slice none 0 0, .slice none 0 0, .string ByteArray.empty, .int .i64 0, .slice none 0 0, .slice none 0 0]] : Array Value).toList 8 = some x :=
 Option.isSome_iff_exists.1 (by kernel_rfl)
set_option maxRecDepth 100000 in
theorem lifted (os : Os) (started : os.Started) (H : Type) (enc : TypeId × Value → H) (F : Stop.Interp) :
  ReturnsInHanded {} Tryd.checked os 7 .any ((OpenSpec.ofChange Rows.fnExactHyperCheckSpec).preRow enc Tryd.prog Tryd.f7 Rows.fnExactHyperCheckRow.domain false Rows.fnExactHyperCheckRow.laid) (((OpenSpec.ofChange Rows.fnExactHyperCheckSpec).at F).post enc Tryd.prog Tryd.f7 false true false false) := by
 obtain ⟨x, hx⟩ := reads os enc
 refine returnsInHanded_of_row (C := Tryd.checked) (s := OpenSpec.ofChange Rows.fnExactHyperCheckSpec) own started (by kernel_rfl) Tryd.func7
  (witness_row_at (enc := enc) (C := Tryd.checked) false (laidWorld os) #[.string ByteArray.empty, .string ByteArray.empty, .agg #[.int .i64 0, .slice none 0 0, .slice none 0 0, .string ByteArray.empty, .int .i64 0, .slice none 0 0, .slice none 0 0]] rfl (by kernel_rfl) (by kernel_rfl) (by kernel_rfl)
   (OpenSpec.preRow_of_cond 8 hx rfl (fun k hk => by cases hk) (by kernel_rfl) (laid_met os))) ?_
 intro W base args ds gs before hval hW _ _ hsz hL _ _
 exact contract H enc W base args ds gs before hval hW hsz hL
theorem said : Rows.FnExactHyperCheckSaid :=
 OpenClaim.holds_of_cond 7 Tryd.f7 rfl rfl rfl rfl rfl rfl rfl ⟨rfl, rfl, rfl, rfl, rfl⟩ rfl rfl rfl rfl rfl (by kernel_rfl) Tryd.func7 (by kernel_rfl)
  (of_decide_eq_true (by kernel_rfl)) (by unfold Func.isWrapper; first | (rw [if_pos (by decide +kernel)]; kernel_rfl) | (rw [if_neg (by decide +kernel)]; exact ⟨rfl, rfl⟩))
  (fun os started H enc _ F => by rw [OpenClaim.pre_eq_preRow]; exact lifted os started H enc F)
theorem plain (f : FuncId) (fn : Func) (hf : Tryd.pinned.checked.prog.funcNamed "loop.example/g00186/laws.FnExactHyperCheck" = some f) (hfn : Tryd.pinned.checked.prog.funcs[f]? = some fn) :
  false = Tryd.pinned.checked.prog.looks [] ∧ ∀ (j : Nat) t, fn.params[j]? = some t → Tryd.pinned.checked.prog.wantsStandIn t = false := by
 obtain rfl : f = 7 := Option.some.inj ((show Tryd.prog.funcNamed "loop.example/g00186/laws.FnExactHyperCheck" = some 7 by kernel_rfl).symm.trans hf) |>.symm
 obtain rfl : fn = Tryd.f7 := (Option.some.inj (Tryd.func7.symm.trans hfn)).symm
 refine ⟨by kernel_rfl, fun j t ht => ?_⟩
 have hall : (Tryd.f7.params.toList.all fun t => !Tryd.prog.wantsStandIn t) = true := by kernel_rfl
 have := List.all_eq_true.mp hall t (Array.mem_toList_iff.mpr (Array.mem_of_getElem? ht))
 exact (show Tryd.prog.wantsStandIn t = false by simpa using this)
/-- The card. -/
theorem card : Rows.FnExactHyperCheckCardSaid :=
 Claim7.holds_tied_plain_at .later [] _ _ _ _ said (fun _ h => by cases h) (by kernel_rfl) (fun _ h => by cases h) fnExactHyperCheck_row_tie rfl ⟨rfl, rfl⟩ (by kernel_rfl) rfl plain (by kernel_rfl)
#print axioms card
end Go.Proofs.YtjcmafoepabpkaaDoor.fnExactHyperCheck
namespace Go.Proofs.YtjcmafoepabpkaaDoor
/-- The card, under a short name, for the claim. -/
theorem fnExactHyperCheck_holds : Rows.FnExactHyperCheckCardSaid := fnExactHyperCheck.card
end Go.Proofs.YtjcmafoepabpkaaDoor
