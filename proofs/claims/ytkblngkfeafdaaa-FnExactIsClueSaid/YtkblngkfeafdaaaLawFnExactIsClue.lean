/- The law FnExactIsClue returns true whatever its arguments, and each argument reads behind the call as it read before. No condition. -/
import Derived.Test.YtkblngkfeafdaaaRows
import Derived.Test.YtkblngkfeafdaaaPFnExactIsCluex1
import Derived.Test.YtkblngkfeafdaaaPureFnExactIsClue
import Derived.Test.YtkblngkfeafdaaaOpens
import Derived.WalkKit
import Derived.ProofKit
import Derived.OpenShut
import Derived.ShutString
import Derived.ChangeOld
import Derived.Below
import Derived.SizedLaws
import Derived.Carry
import Derived.ChangeArms
namespace Go.Proofs.Ytkblngkfeafdaaa.fnExactIsClue
open Go.ChangeShapes Go.WideShapes Go.ChangeAt Go.RowKit Go.Proofs.Ytkblngkfeafdaaa.Opens Go.Proofs.YtkblngkfeafdaaaW.PrintWords
open Go.ChangeMaps (open_string shut_string)
set_option linter.unusedVariables false
theorem own : ownKnob Try.prog.godebug = none := by kernel_rfl
theorem laidOut : laidOutB Try.prog = true := by kernel_rfl
set_option maxRecDepth 100000 in
theorem lifted (os : Os) (started : os.Started) (H : Type) (enc : TypeId × Value → H) :
    ReturnsInHanded {} Try.checked os 3 .any (Rows.fnExactIsClueSpec.pre6 enc Try.prog Try.f3 Rows.fnExactIsClueRow.domain false) (Rows.fnExactIsClueSpec.post enc Try.prog Try.f3 false true false false) := by
  refine returnsInHanded_of_change_sized (C := Try.checked) own started (by kernel_rfl) Try.func3
    (ChangeSpec.witness6 (enc := enc) (C := Try.checked) false ⟨#[], #[.agg #[.int .i64 0, .int .i64 0, .int .i64 0]], []⟩ 8 (by kernel_rfl) (by kernel_rfl) (by kernel_rfl) (by kernel_rfl)) ?_
  intro W base args ds gs before hval0 hW hcnd hsz0 _
  have hsz : (DataW.weightsEach Try.prog (Try.f3.params.toList ++ Rows.fnExactIsClueSpec.plain.varTypes Try.prog) (ds ++ gs)).all (· ≤ reachBytes) = true := hsz0
  have hval : ∀ (j : Nat) t v, Try.f3.params[j]? = some t → args[j]? = some v → Value.okWide Try.prog W .any base t v := hval0
  have hW' := hW
  obtain ⟨p, q, hA0, hV, rfl, hfz, hnd⟩ := hW
  have hA : DataW.TrodAll enc Try.prog W 0 (fun _ => true) true Try.f3.params.toList args.toList ds p := hA0
  rw [Try.params3] at hA hval hsz
  obtain ⟨v0, vs0, d0, ds0, p0, q0, hargs, rfl, rfl, h0, r0⟩ := trodAll_cons hA
  obtain ⟨rfl, rfl, rfl⟩ := trodAll_nil r0
  obtain rfl : args = #[v0] := by cases args; simp_all
  obtain ⟨rfl, rfl⟩ := trodVars_none hV
  obtain ⟨cs0, rfl, hz0⟩ := okWide_struct Try.underlying23 (hval 0 23 v0 rfl rfl)
  have k0 := h0
  have lt0 : ∀ x ∈ p0, x.block < W.heap.size := by obtain ⟨m, hm⟩ := k0; exact DataW.trod_lt m _ _ _ hm
  obtain ⟨fuel0, hf0⟩ := h0
  obtain ⟨y0, hy0, hg0⟩ := (opens_struct3 Try.underlying23 (opens_int Try.underlying3) (opens_int Try.underlying3) (opens_int Try.underlying3) rfl rfl rfl (by kernel_rfl) (by kernel_rfl) (by kernel_rfl) (by kernel_rfl)) fuel0 _ _ hf0
  have he0 : Value.agg cs0 = .agg #[.int .i64 (y0.1), .int .i64 (y0.2.1), .int .i64 (y0.2.2)] := by
    obtain ⟨_, _, he, rfl, ⟨_, _, rfl, rfl, rfl⟩⟩ := hy0
    have he' : cs0.toList = [.int .i64 (y0.1), .int .i64 (y0.2.1), .int .i64 (y0.2.2)] := by simpa [Value.cells] using he
    rw [← he', Array.toArray_toList]
  rw [he0] at k0 hW'
  rw [he0]
  clear hy0 hf0
  clear hA0 hval0 hsz0 hsz
  obtain ⟨k, hP⟩ := Pure.FnExactIsClue (y0.1) (y0.2.1) (y0.2.2) hg0
  refine (PFnExactIsClue.laws_FnExactIsClue.calls k (y0.1) (y0.2.1) (y0.2.2) true W  hP).mono fun e W' ⟨he, bel0⟩ => ?_
  have bel : Below W.heap.size W W' := bel0
  subst he
  exact ⟨_, rfl, _, _, _, [], _, [], hW', trodAll_mk1 (shut_bool Try.underlying4 _), (trodAll_cons_mk (Below.trod laidOut (by kernel_rfl) (of_decide_eq_true (by kernel_rfl)) k0 bel lt0) trodAll_mk0), rfl, bel.frame _, fun h => by cases h⟩
theorem over : Rows.fnExactIsClueRow.holds Try.pinned (OpenSpec.ofChange Rows.fnExactIsClueSpec) :=
  OpenClaim.holds_of_wide 3 Try.f3 rfl rfl rfl rfl rfl rfl rfl ⟨rfl, rfl, rfl, rfl, rfl⟩ rfl rfl rfl rfl rfl (by kernel_rfl) Try.func3 (by kernel_rfl)
    (of_decide_eq_true (by kernel_rfl)) (by unfold Func.isWrapper; first | (rw [if_pos (by decide +kernel)]; kernel_rfl) | (rw [if_neg (by decide +kernel)]; exact ⟨rfl, rfl⟩))
    (fun os started H enc _ => lifted os started H enc)
theorem proved : Rows.FnExactIsClueSaid := over
end Go.Proofs.Ytkblngkfeafdaaa.fnExactIsClue
namespace Go.Proofs.Ytkblngkfeafdaaa
theorem fnExactIsClue_holds : Rows.FnExactIsClueSaid := fnExactIsClue.proved
#print axioms fnExactIsClue_holds
end Go.Proofs.Ytkblngkfeafdaaa