-- Laid by this session's program out of the translation (gen.sh).
import Derived.Test.YthojmgliknacfaaRows
import Derived.Test.YthojmgliknacfaaPFnExactExecSamex7
import Derived.Test.YthojmgliknacfaaPureFnExactExecSame
import Derived.Test.YthojmgliknacfaaThO
import Derived.WalkKit
import Derived.ProofKit
import Derived.OpenShut
import Derived.ShutString
import Derived.ChangeOld
import Derived.Below
import Derived.SizedLaws
import Derived.Carry
import Derived.WideShapes
namespace Go.Proofs.Ythojmgliknacfaa.fnExactExecSame
open Go.ChangeShapes Go.WideShapes Go.ChangeAt Go.RowKit Go.Proofs.YthojmgliknacfaaW.PrintWords Go.Proofs.Ythojmgliknacfaa.PFnExactExecSame
open Go.ChangeMaps (open_string shut_string)
set_option linter.unusedVariables false
theorem own : ownKnob Try.prog.godebug = none := by kernel_rfl
theorem laidOut : laidOutB Try.prog = true := by kernel_rfl
set_option maxRecDepth 100000 in
theorem lifted (os : Os) (started : os.Started) (H : Type) (enc : TypeId × Value → H) :
    ReturnsInHanded {} Try.checked os 13 .any (Rows.fnExactExecSameSpec.pre6 enc Try.prog Try.f13 Rows.fnExactExecSameRow.domain false) (Rows.fnExactExecSameSpec.post enc Try.prog Try.f13 false true false false) := by
  refine returnsInHanded_of_change_sized (C := Try.checked) own started (by kernel_rfl) Try.func13
    (ChangeSpec.witness6 (enc := enc) (C := Try.checked) false ⟨#[], #[.agg #[.slice none 0 0, .slice none 0 0, .int .i64 0, .int .i64 0], .agg #[.slice none 0 0, .slice none 0 0, .int .i64 0, .int .i64 0]], []⟩ 8 (by kernel_rfl) (by kernel_rfl) (by kernel_rfl) (by kernel_rfl)) ?_
  intro W base args ds gs before hval0 hW hcnd hsz0 _
  have hval : ∀ (j : Nat) t v, Try.f13.params[j]? = some t → args[j]? = some v → Value.okWide Try.prog W .any base t v := hval0
  have hW' := hW
  obtain ⟨p, q, hA0, hV, rfl, hfz, hnd⟩ := hW
  have hA : DataW.TrodAll enc Try.prog W 0 (fun _ => true) true Try.f13.params.toList args.toList ds p := hA0
  rw [Try.params13] at hA hval
  obtain ⟨v0, vs0, d0, ds0, p0, q0, hargs, rfl, rfl, h0, r0⟩ := trodAll_cons hA
  obtain ⟨v1, vs1, d1, ds1, p1, q1, rfl, rfl, rfl, h1, r1⟩ := trodAll_cons r0
  obtain ⟨rfl, rfl, rfl⟩ := trodAll_nil r1
  obtain rfl : args = #[v0, v1] := by cases args; simp_all
  obtain ⟨rfl, rfl⟩ := trodVars_none hV
  have k0 := h0
  have lt0 : ∀ x ∈ p0, x.block < W.heap.size := by obtain ⟨m, hm⟩ := k0; exact DataW.trod_lt m _ _ _ hm
  obtain ⟨cs0, rfl, hcs0⟩ := okWide_struct Try.underlying56 (hval 0 56 v0 rfl rfl)
  obtain ⟨a0, ka0, w0⟩ : ∃ a, k56.K W a cs0.toList ∧ wf56 a := by
    obtain ⟨fuel, hf⟩ := h0
    obtain ⟨a, ha, hw⟩ := opens56 enc W fuel _ _ hf
    exact ⟨a, by simpa [Value.cells] using ha, hw⟩
  obtain ⟨A0_0, c0_0, A0_1, c0_1, e0, hc0_0, hr0_0, hc0_1, hr0_1⟩ := k56_open ka0
  obtain rfl : cs0 = #[.slice A0_0 a0.f0.length c0_0, .slice A0_1 a0.f1.length c0_1, .int .i64 a0.f2, .int .i64 a0.f3] := by cases cs0; simpa using e0
  have k1 := h1
  have lt1 : ∀ x ∈ p1, x.block < W.heap.size := by obtain ⟨m, hm⟩ := k1; exact DataW.trod_lt m _ _ _ hm
  obtain ⟨cs1, rfl, hcs1⟩ := okWide_struct Try.underlying56 (hval 1 56 v1 rfl rfl)
  obtain ⟨a1, ka1, w1⟩ : ∃ a, k56.K W a cs1.toList ∧ wf56 a := by
    obtain ⟨fuel, hf⟩ := h1
    obtain ⟨a, ha, hw⟩ := opens56 enc W fuel _ _ hf
    exact ⟨a, by simpa [Value.cells] using ha, hw⟩
  obtain ⟨A1_0, c1_0, A1_1, c1_1, e1, hc1_0, hr1_0, hc1_1, hr1_1⟩ := k56_open ka1
  obtain rfl : cs1 = #[.slice A1_0 a1.f0.length c1_0, .slice A1_1 a1.f1.length c1_1, .int .i64 a1.f2, .int .i64 a1.f3] := by cases cs1; simpa using e1
  clear hA0 hval0 hsz0
  refine (laws_FnExactExecSame.walk Pure.FnExactExecSame a0 A0_0 c0_0 A0_1 c0_1 a1 A1_0 c1_0 A1_1 c1_1 W hr0_0 hc0_0 hr0_1 hc0_1 w0 hr1_0 hc1_0 hr1_1 hc1_1 w1).mono fun e W' ⟨he, bel⟩ => ?_
  subst he
  exact ⟨_, rfl, _, _, _, [], _, [], hW', trodAll_mk1 (shut_bool Try.underlying4 _), (trodAll_cons_mk (Below.trod laidOut (by kernel_rfl) (of_decide_eq_true (by kernel_rfl)) k0 bel lt0) (trodAll_cons_mk (Below.trod laidOut (by kernel_rfl) (of_decide_eq_true (by kernel_rfl)) k1 bel lt1) trodAll_mk0)), rfl, bel.frame _, fun h => by cases h⟩
theorem over : Rows.fnExactExecSameRow.holds Try.pinned (OpenSpec.ofChange Rows.fnExactExecSameSpec) :=
  OpenClaim.holds_of_wide 13 Try.f13 rfl rfl rfl rfl rfl rfl rfl ⟨rfl, rfl, rfl, rfl, rfl⟩ rfl rfl rfl rfl rfl (by kernel_rfl) Try.func13 (by kernel_rfl)
    (of_decide_eq_true (by kernel_rfl)) (by unfold Func.isWrapper; first | (rw [if_pos (by decide +kernel)]; kernel_rfl) | (rw [if_neg (by decide +kernel)]; exact ⟨rfl, rfl⟩))
    (fun os started H enc _ => lifted os started H enc)
theorem proved : Rows.FnExactExecSameSaid := over
#print axioms proved
end Go.Proofs.Ythojmgliknacfaa.fnExactExecSame
namespace Go.Proofs.Ythojmgliknacfaa
/-- The row, under a short name, for the claim. -/
theorem fnExactExecSame_holds : Rows.FnExactExecSameSaid := fnExactExecSame.proved
end Go.Proofs.Ythojmgliknacfaa
