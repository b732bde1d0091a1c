/- The law FnExactAddClue returns true whatever its arguments, and each argument reads behind the call as it read before. No condition. -/
import Derived.Test.YtkblngkfeafdaaaRows
import Derived.Test.YtkblngkfeafdaaaPFnExactAddCluex5
import Derived.Test.YtkblngkfeafdaaaPureFnExactAddClue
import Derived.Test.YtkblngkfeafdaaaOpens
import Derived.WalkKit
import Derived.ProofKit
import Derived.OpenShut
import Derived.ShutString
import Derived.ChangeOld
import Derived.Below
import Derived.SizedLaws
import Derived.Carry
import Derived.ChangeArms
namespace Go.Proofs.Ytkblngkfeafdaaa.fnExactAddClue
open Go.ChangeShapes Go.WideShapes Go.ChangeAt Go.RowKit Go.Proofs.Ytkblngkfeafdaaa.Opens Go.Proofs.YtkblngkfeafdaaaW.PrintWords
open Go.ChangeMaps (open_string shut_string)
set_option linter.unusedVariables false
theorem own : ownKnob Try.prog.godebug = none := by kernel_rfl
theorem laidOut : laidOutB Try.prog = true := by kernel_rfl
set_option maxRecDepth 100000 in
theorem lifted (os : Os) (started : os.Started) (H : Type) (enc : TypeId × Value → H) :
    ReturnsInHanded {} Try.checked os 6 .any (Rows.fnExactAddClueSpec.pre6 enc Try.prog Try.f6 Rows.fnExactAddClueRow.domain false) (Rows.fnExactAddClueSpec.post enc Try.prog Try.f6 false true false false) := by
  refine returnsInHanded_of_change_sized (C := Try.checked) own started (by kernel_rfl) Try.func6
    (ChangeSpec.witness6 (enc := enc) (C := Try.checked) false ⟨#[], #[.agg #[.slice none 0 0], .agg #[.int .i64 0, .int .i64 0, .int .i64 0]], []⟩ 8 (by kernel_rfl) (by kernel_rfl) (by kernel_rfl) (by kernel_rfl)) ?_
  intro W base args ds gs before hval0 hW hcnd hsz0 _
  have hsz : (DataW.weightsEach Try.prog (Try.f6.params.toList ++ Rows.fnExactAddClueSpec.plain.varTypes Try.prog) (ds ++ gs)).all (· ≤ reachBytes) = true := hsz0
  have hval : ∀ (j : Nat) t v, Try.f6.params[j]? = some t → args[j]? = some v → Value.okWide Try.prog W .any base t v := hval0
  have hW' := hW
  obtain ⟨p, q, hA0, hV, rfl, hfz, hnd⟩ := hW
  have hA : DataW.TrodAll enc Try.prog W 0 (fun _ => true) true Try.f6.params.toList args.toList ds p := hA0
  rw [Try.params6] at hA hval hsz
  obtain ⟨v0, vs0, d0, ds0, p0, q0, hargs, rfl, rfl, h0, r0⟩ := trodAll_cons hA
  obtain ⟨v1, vs1, d1, ds1, p1, q1, rfl, rfl, rfl, h1, r1⟩ := trodAll_cons r0
  obtain ⟨rfl, rfl, rfl⟩ := trodAll_nil r1
  obtain rfl : args = #[v0, v1] := by cases args; simp_all
  obtain ⟨rfl, rfl⟩ := trodVars_none hV
  obtain ⟨cs0, rfl, hz0⟩ := okWide_struct Try.underlying39 (hval 0 39 v0 rfl rfl)
  have k0 := h0
  have lt0 : ∀ x ∈ p0, x.block < W.heap.size := by obtain ⟨m, hm⟩ := k0; exact DataW.trod_lt m _ _ _ hm
  obtain ⟨fuel0, hf0⟩ := h0
  obtain ⟨y0, hy0, hg0⟩ := (opens_struct1 Try.underlying39 (opens_slice Try.underlying37 (by kernel_rfl) (opens_iso (opens_struct3 Try.underlying23 (opens_int Try.underlying3) (opens_int Try.underlying3) (opens_int Try.underlying3) rfl rfl rfl (by kernel_rfl) (by kernel_rfl) (by kernel_rfl) (by kernel_rfl)) (fun x : PFnExactAddClue.S23 => (x.f0, x.f1, x.f2)) (fun y => ⟨y.1, y.2.1, y.2.2⟩) (fun _ => rfl))) rfl (by kernel_rfl) (by kernel_rfl)) fuel0 _ _ hf0
  have he0 : ∃ A0_0 c0_0, Value.agg cs0 = .agg #[.slice A0_0 (y0).length c0_0] ∧ (y0).length ≤ c0_0 ∧ Kd.C (PFnExactAddClue.k23) W A0_0 (y0).length (y0) := by
    obtain ⟨A0_0, c0_0, he, hc0_0, hr0_0⟩ := hy0
    have he' : cs0.toList = [.slice A0_0 (y0).length c0_0] := by simpa [Value.cells] using he
    refine ⟨A0_0, c0_0, by rw [← he', Array.toArray_toList], hc0_0, hr0_0⟩
  obtain ⟨A0_0, c0_0, he0, hc0_0, hr0_0⟩ := he0
  rw [he0] at k0 hW'
  rw [he0]
  clear hy0 hf0
  obtain ⟨cs1, rfl, hz1⟩ := okWide_struct Try.underlying23 (hval 1 23 v1 rfl rfl)
  have k1 := h1
  have lt1 : ∀ x ∈ p1, x.block < W.heap.size := by obtain ⟨m, hm⟩ := k1; exact DataW.trod_lt m _ _ _ hm
  obtain ⟨fuel1, hf1⟩ := h1
  obtain ⟨y1, hy1, hg1⟩ := (opens_struct3 Try.underlying23 (opens_int Try.underlying3) (opens_int Try.underlying3) (opens_int Try.underlying3) rfl rfl rfl (by kernel_rfl) (by kernel_rfl) (by kernel_rfl) (by kernel_rfl)) fuel1 _ _ hf1
  have he1 : Value.agg cs1 = .agg #[.int .i64 (y1.1), .int .i64 (y1.2.1), .int .i64 (y1.2.2)] := by
    obtain ⟨_, _, he, rfl, ⟨_, _, rfl, rfl, rfl⟩⟩ := hy1
    have he' : cs1.toList = [.int .i64 (y1.1), .int .i64 (y1.2.1), .int .i64 (y1.2.2)] := by simpa [Value.cells] using he
    rw [← he', Array.toArray_toList]
  rw [he1] at k1 hW'
  rw [he1]
  clear hy1 hf1
  clear hA0 hval0 hsz0 hsz
  obtain ⟨k, hP⟩ := Pure.FnExactAddClue (y0) (y1.1) (y1.2.1) (y1.2.2) hg0 hg1
  refine (PFnExactAddClue.laws_FnExactAddClue.calls k A0_0 c0_0 (y0) (y1.1) (y1.2.1) (y1.2.2) true W hr0_0 hc0_0 (Aside0.mk rfl) hP).mono fun e W' ⟨he, bel0⟩ => ?_
  have bel : Below W.heap.size W W' := bel0
  subst he
  exact ⟨_, rfl, _, _, _, [], _, [], hW', trodAll_mk1 (shut_bool Try.underlying4 _), (trodAll_cons_mk (Below.trod laidOut (by kernel_rfl) (of_decide_eq_true (by kernel_rfl)) k0 bel lt0) (trodAll_cons_mk (Below.trod laidOut (by kernel_rfl) (of_decide_eq_true (by kernel_rfl)) k1 bel lt1) trodAll_mk0)), rfl, bel.frame _, fun h => by cases h⟩
theorem over : Rows.fnExactAddClueRow.holds Try.pinned (OpenSpec.ofChange Rows.fnExactAddClueSpec) :=
  OpenClaim.holds_of_wide 6 Try.f6 rfl rfl rfl rfl rfl rfl rfl ⟨rfl, rfl, rfl, rfl, rfl⟩ rfl rfl rfl rfl rfl (by kernel_rfl) Try.func6 (by kernel_rfl)
    (of_decide_eq_true (by kernel_rfl)) (by unfold Func.isWrapper; first | (rw [if_pos (by decide +kernel)]; kernel_rfl) | (rw [if_neg (by decide +kernel)]; exact ⟨rfl, rfl⟩))
    (fun os started H enc _ => lifted os started H enc)
theorem proved : Rows.FnExactAddClueSaid := over
end Go.Proofs.Ytkblngkfeafdaaa.fnExactAddClue
namespace Go.Proofs.Ytkblngkfeafdaaa
theorem fnExactAddClue_holds : Rows.FnExactAddClueSaid := fnExactAddClue.proved
#print axioms fnExactAddClue_holds
end Go.Proofs.Ytkblngkfeafdaaa