/- The statement of the law FnExactChainOf, proved out of its pure statement and the walk of the printed function; no condition beyond the statement's own. -/
import Derived.Test.YtdcdndfgdmcomaaRows
import Derived.Test.YtdcdndfgdmcomaaWalkFnExactChainOf
import Derived.Test.YtdcdndfgdmcomaaPureFnExactChainOf
import Derived.Test.YtdcdndfgdmcomaaQAll
import Derived.WalkKit
import Derived.ProofKit
import Derived.OpenShut
import Derived.ShutString
import Derived.ChangeOld
import Derived.Below
import Derived.SizedLaws
import Derived.Lib.SmallJoins
import Derived.Test.YtdcdndfgdmcomaaWSized
namespace Go.Proofs.Ytdcdndfgdmcomaa.fnExactChainOf
open Go.ChangeShapes Go.WideShapes Go.ChangeAt Go.RowKit
open Go.ChangeMaps (open_string shut_string)
set_option linter.unusedVariables false
theorem own : ownKnob Try.prog.godebug = none := by kernel_rfl
theorem laidOut : laidOutB Try.prog = true := by kernel_rfl
set_option maxRecDepth 100000 in
theorem lifted (os : Os) (started : os.Started) (H : Type) (enc : TypeId × Value → H) :
    ReturnsInHanded {} Try.checked os 5 .any (Rows.fnExactChainOfSpec.pre6 enc Try.prog Try.f5 Rows.fnExactChainOfRow.domain false) (Rows.fnExactChainOfSpec.post enc Try.prog Try.f5 false true false false) := by
  refine returnsInHanded_of_change_sized (C := Try.checked) own started (by kernel_rfl) Try.func5
    (ChangeSpec.witness6 (enc := enc) (C := Try.checked) false ⟨#[], #[.agg #[.slice none 0 0, .slice none 0 0]], []⟩ 8 (by kernel_rfl) (by kernel_rfl) (by kernel_rfl) (by kernel_rfl)) ?_
  intro W base args ds gs before hval0 hW hcnd hsz0 _
  have hsz : (DataW.weightsEach Try.prog (Try.f5.params.toList ++ Rows.fnExactChainOfSpec.plain.varTypes Try.prog) (ds ++ gs)).all (· ≤ reachBytes) = true := hsz0
  have hval : ∀ (j : Nat) t v, Try.f5.params[j]? = some t → args[j]? = some v → Value.okWide Try.prog W .any base t v := hval0
  have hW' := hW
  obtain ⟨p, q, hA0, hV, rfl, hfz, hnd⟩ := hW
  have hA : DataW.TrodAll enc Try.prog W 0 (fun _ => true) true Try.f5.params.toList args.toList ds p := hA0
  rw [Try.params5] at hA hval hsz
  obtain ⟨v0, vs0, d0, ds0, p0, q0, hargs, rfl, rfl, h0, r0⟩ := trodAll_cons hA
  obtain ⟨rfl, rfl, rfl⟩ := trodAll_nil r0
  obtain rfl : args = #[v0] := by cases args; simp_all
  obtain ⟨rfl, rfl⟩ := trodVars_none hV
  have k0 := h0
  have lt0 : ∀ x ∈ p0, x.block < W.heap.size := by obtain ⟨m, hm⟩ := k0; exact DataW.trod_lt m _ _ _ hm
  obtain ⟨u0_0, u0_1, y0_0, y0_1, fu0, rfl, _, _, g0_0, g0_1⟩ := Go.Joins.open_agg2 Try.underlying34 (by kernel_rfl) (by kernel_rfl) (hval 0 34 v0 rfl rfl) h0
  obtain ⟨A0_0, l0_0, c0_0, rfl, hc0_0, m0_0, hr0_0, w0_0⟩ := Q.open_ints_C Try.underlying24 Try.underlying3 (by kernel_rfl) g0_0
  obtain ⟨A0_1, l0_1, c0_1, rfl, hc0_1, m0_1, hr0_1, n0_1, w0_1⟩ := Q.open_rows_C Try.underlying22 Try.underlying24 Try.underlying3 (by kernel_rfl) (by kernel_rfl) g0_1
  clear hA0 hval0 hsz0 hsz
  refine (Walk.FnExactChainOf.walk Pure.FnExactChainOf _ _ l0_0 _ _ l0_1 W hr0_0 hc0_0 hr0_1 hc0_1 m0_0 w0_0 m0_1 n0_1 w0_1).mono fun e W' ⟨he, bel⟩ => ?_
  subst he
  exact ⟨_, rfl, _, _, _, [], _, [], hW', trodAll_mk1 (shut_bool Try.underlying4 _), (trodAll_cons_mk (Below.trod laidOut (by kernel_rfl) (of_decide_eq_true (by kernel_rfl)) k0 bel lt0) trodAll_mk0), rfl, bel.frame _, fun h => by cases h⟩
theorem over : Rows.fnExactChainOfRow.holds Try.pinned (OpenSpec.ofChange Rows.fnExactChainOfSpec) :=
  OpenClaim.holds_of_wide 5 Try.f5 rfl rfl rfl rfl rfl rfl rfl ⟨rfl, rfl, rfl, rfl, rfl⟩ rfl rfl rfl rfl rfl (by kernel_rfl) Try.func5 (by kernel_rfl)
    (of_decide_eq_true (by kernel_rfl)) (by unfold Func.isWrapper; first | (rw [if_pos (by decide +kernel)]; kernel_rfl) | (rw [if_neg (by decide +kernel)]; exact ⟨rfl, rfl⟩))
    (fun os started H enc _ => lifted os started H enc)
theorem proved : Rows.FnExactChainOfSaid := over
end Go.Proofs.Ytdcdndfgdmcomaa.fnExactChainOf
namespace Go.Proofs.Ytdcdndfgdmcomaa
/-- The row, under a short name, for the claim. -/
theorem fnExactChainOf_holds : Rows.FnExactChainOfSaid := fnExactChainOf.proved
end Go.Proofs.Ytdcdndfgdmcomaa
