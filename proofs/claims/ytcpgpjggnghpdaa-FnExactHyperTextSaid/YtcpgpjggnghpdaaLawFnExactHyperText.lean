/- The row of the law on HyperText: for every input it returns true, and the input reads as it did; out of its pure statement and the walk. -/
import Derived.Test.YtcpgpjggnghpdaaRows
import Derived.Test.YtcpgpjggnghpdaaPx85
import Derived.Test.YtcpgpjggnghpdaaPureFnExactHyperText
import Derived.Test.YtcpgpjggnghpdaaMW1
import Derived.WalkKit
import Derived.ProofKit
import Derived.OpenShut
import Derived.ShutString
import Derived.ChangeOld
import Derived.Below
import Derived.SizedLaws
namespace Go.Proofs.Ytcpgpjggnghpdaa.fnExactHyperText
open Go.ChangeShapes Go.WideShapes Go.ChangeAt Go.RowKit Go.Joins
open Go.ChangeMaps (open_string shut_string)
set_option linter.unusedVariables false
theorem own : ownKnob Try.prog.godebug = none := by kernel_rfl
theorem laidOut : laidOutB Try.prog = true := by kernel_rfl
set_option maxRecDepth 100000 in
theorem lifted (os : Os) (started : os.Started) (H : Type) (enc : TypeId × Value → H) :
    ReturnsInHanded {} Try.checked os 12 .any (Rows.fnExactHyperTextSpec.pre6 enc Try.prog Try.f12 Rows.fnExactHyperTextRow.domain false) (Rows.fnExactHyperTextSpec.post enc Try.prog Try.f12 false true false false) := by
  refine returnsInHanded_of_change_sized (C := Try.checked) own started (by kernel_rfl) Try.func12
    (ChangeSpec.witness6 (enc := enc) (C := Try.checked) false ⟨#[], #[.agg #[.int .i64 0, .slice none 0 0, .slice none 0 0, .string ByteArray.empty, .int .i64 0, .slice none 0 0, .slice none 0 0]], []⟩ 8 (by kernel_rfl) (by kernel_rfl) (by kernel_rfl) (by kernel_rfl)) ?_
  intro W base args ds gs before hval0 hW hcnd hsz0 _
  have hsz : (DataW.weightsEach Try.prog (Try.f12.params.toList ++ Rows.fnExactHyperTextSpec.plain.varTypes Try.prog) (ds ++ gs)).all (· ≤ reachBytes) = true := hsz0
  have hval : ∀ (j : Nat) t v, Try.f12.params[j]? = some t → args[j]? = some v → Value.okWide Try.prog W .any base t v := hval0
  have hW' := hW
  obtain ⟨p, q, hA0, hV, rfl, hfz, hnd⟩ := hW
  have hA : DataW.TrodAll enc Try.prog W 0 (fun _ => true) true Try.f12.params.toList args.toList ds p := hA0
  rw [Try.params12] at hA hval hsz
  obtain ⟨v0, vs0, d0, ds0, p0, q0, hargs, rfl, rfl, h0, r0⟩ := trodAll_cons hA
  obtain ⟨rfl, rfl, rfl⟩ := trodAll_nil r0
  obtain rfl : args = #[v0] := by cases args; simp_all
  obtain ⟨rfl, rfl⟩ := trodVars_none hV
  have k0 := h0
  have lt0 : ∀ x ∈ p0, x.block < W.heap.size := by obtain ⟨m, hm⟩ := k0; exact DataW.trod_lt m _ _ _ hm
  obtain ⟨c0_0, c0_1, c0_2, c0_3, c0_4, c0_5, c0_6, y0_0, y0_1, y0_2, y0_3, y0_4, y0_5, y0_6, m0_a, m0_b, m0_c, rfl, hy0_0, hy0_1, hy0_2, hy0_3, hy0_4, hy0_5, hy0_6⟩ := Kit.open_agg313 Try.underlying38 Try.underlying36 Try.underlying36 (by kernel_rfl) (by kernel_rfl) (by kernel_rfl) (by kernel_rfl) ⟨rfl, rfl, rfl⟩ (by kernel_rfl) (by kernel_rfl) (by kernel_rfl) ⟨rfl, rfl, rfl⟩ (by kernel_rfl) (by kernel_rfl) (by kernel_rfl) ⟨rfl, rfl, rfl⟩ (hval 0 38 v0 rfl rfl) h0
  obtain ⟨a0_0, e0_0, _, w0_0⟩ := DataW.trod_int Try.underlying3 hy0_0
  simp only [List.cons.injEq, and_true] at e0_0
  subst e0_0
  obtain ⟨A0_1, cap0_1, l0_1, rfl, hc0_1, hr0_1, hm0_1, hs0_1⟩ := Kit.read_strings Try.underlying34 Try.underlying9 (by kernel_rfl) hy0_1
  obtain ⟨A0_2, cap0_2, l0_2, rfl, hc0_2, hr0_2, hm0_2, hs0_2⟩ := Kit.read_strings Try.underlying34 Try.underlying9 (by kernel_rfl) hy0_2
  obtain ⟨a0_3, e0_3, _, w0_3⟩ := DataW.trod_string Try.underlying9 hy0_3
  simp only [List.cons.injEq, and_true] at e0_3
  subst e0_3
  obtain ⟨a0_4, e0_4, _, w0_4⟩ := DataW.trod_int Try.underlying3 hy0_4
  simp only [List.cons.injEq, and_true] at e0_4
  subst e0_4
  obtain ⟨A0_5, cap0_5, l0_5, rfl, hc0_5, hr0_5, hm0_5, hs0_5⟩ := Kit.read_strings Try.underlying34 Try.underlying9 (by kernel_rfl) hy0_5
  obtain ⟨A0_6, cap0_6, l0_6, rfl, hc0_6, hr0_6, hm0_6, hs0_6⟩ := Kit.read_strings Try.underlying34 Try.underlying9 (by kernel_rfl) hy0_6
  clear hA0 hval0 hsz0 hsz
  obtain ⟨k, hk⟩ := Pure.FnExactHyperText a0_0 l0_1 l0_2 a0_3 a0_4 l0_5 l0_6 w0_0 hm0_1 hs0_1 hm0_2 hs0_2 w0_3 w0_4 hm0_5 hs0_5 hm0_6 hs0_6
  refine (P.laws_FnExactHyperText.calls k a0_0 _ _ l0_1 _ _ l0_2 a0_3 a0_4 _ _ l0_5 _ _ l0_6 true W hr0_1 hc0_1 hr0_2 hc0_2 hr0_5 hc0_5 hr0_6 hc0_6 hk).mono fun e W' ⟨he, bel⟩ => ?_
  subst he
  exact ⟨_, rfl, _, _, _, [], _, [], hW', trodAll_mk1 (shut_bool Try.underlying4 _), (trodAll_cons_mk (Below.trod laidOut (by kernel_rfl) (of_decide_eq_true (by kernel_rfl)) k0 bel lt0) trodAll_mk0), rfl, bel.frame _, fun h => by cases h⟩
theorem over : Rows.fnExactHyperTextRow.holds Try.pinned (OpenSpec.ofChange Rows.fnExactHyperTextSpec) :=
  OpenClaim.holds_of_wide 12 Try.f12 rfl rfl rfl rfl rfl rfl rfl ⟨rfl, rfl, rfl, rfl, rfl⟩ rfl rfl rfl rfl rfl (by kernel_rfl) Try.func12 (by kernel_rfl)
    (of_decide_eq_true (by kernel_rfl)) (by unfold Func.isWrapper; first | (rw [if_pos (by decide +kernel)]; kernel_rfl) | (rw [if_neg (by decide +kernel)]; exact ⟨rfl, rfl⟩))
    (fun os started H enc _ => lifted os started H enc)
theorem proved : Rows.FnExactHyperTextSaid := over
#print axioms proved
end Go.Proofs.Ytcpgpjggnghpdaa.fnExactHyperText
namespace Go.Proofs.Ytcpgpjggnghpdaa
/-- The row, under a short name, for the claim. -/
theorem fnExactHyperText_holds : Rows.FnExactHyperTextSaid := fnExactHyperText.proved
end Go.Proofs.Ytcpgpjggnghpdaa
