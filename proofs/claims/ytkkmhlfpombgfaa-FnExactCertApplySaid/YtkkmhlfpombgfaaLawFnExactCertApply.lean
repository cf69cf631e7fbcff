-- Laid by this session's program out of the translation (lawts.py).
import Derived.Test.YtkkmhlfpombgfaaRows
import Derived.Test.YtkkmhlfpombgfaaPFnExactCertApplyx3
import Derived.Test.YtkkmhlfpombgfaaPureFnExactCertApply
import Derived.WalkKit
import Derived.ProofKit
import Derived.OpenShut
import Derived.ShutString
import Derived.ChangeOld
import Derived.Below
import Derived.SizedLaws
import Derived.Test.YtkkmhlfpombgfaaSWFnExactCertApply
import Derived.Carry
import Derived.WideShapes
namespace Go.Proofs.Ytkkmhlfpombgfaa.fnExactCertApply
open Go.ChangeShapes Go.WideShapes Go.ChangeAt Go.RowKit Go.Proofs.Ytkkmhlfpombgfaa.PFnExactCertApply Go.Proofs.YtkkmhlfpombgfaaW.PrintWords
open Go.ChangeMaps (open_string shut_string)
set_option linter.unusedVariables false
theorem own : ownKnob Try.prog.godebug = none := by kernel_rfl
theorem laidOut : laidOutB Try.prog = true := by kernel_rfl
set_option maxRecDepth 100000 in
theorem lifted (os : Os) (started : os.Started) (H : Type) (enc : TypeId × Value → H) :
  ReturnsInHanded {} Try.checked os 14 .any (Rows.fnExactCertApplySpec.pre6 enc Try.prog Try.f14 Rows.fnExactCertApplyRow.domain false) (Rows.fnExactCertApplySpec.post enc Try.prog Try.f14 false true false false) := by
  refine returnsInHanded_of_change_sized (C := Try.checked) own started (by kernel_rfl) Try.func14
    (ChangeSpec.witness6 (enc := enc) (C := Try.checked) false ⟨#[], #[.agg #[.int .i64 0, .slice none 0 0, .slice none 0 0], .agg #[.bool false, .int .i64 0, .int .i64 0, .slice none 0 0, .slice none 0 0, .int .i64 0, .int .i64 0]], []⟩ 8 (by kernel_rfl) (by kernel_rfl) (by kernel_rfl) (by kernel_rfl)) ?_
  intro W base args ds gs before hval0 hW hcnd hsz0 _
  have hval : ∀ (j : Nat) t v, Try.f14.params[j]? = some t → args[j]? = some v → Value.okWide Try.prog W .any base t v := hval0
  have hW' := hW
  obtain ⟨p, q, hA0, hV, rfl, hfz, hnd⟩ := hW
  have hA : DataW.TrodAll enc Try.prog W 0 (fun _ => true) true Try.f14.params.toList args.toList ds p := hA0
  rw [Try.params14] at hA hval
  obtain ⟨v0, vs0, d0, ds0, p0, q0, hargs, rfl, rfl, h0, r0⟩ := trodAll_cons hA
  obtain ⟨v1, vs1, d1, ds1, p1, q1, rfl, rfl, rfl, h1, r1⟩ := trodAll_cons r0
  obtain ⟨rfl, rfl, rfl⟩ := trodAll_nil r1
  obtain rfl : args = #[v0, v1] := by cases args; simp_all
  obtain ⟨rfl, rfl⟩ := trodVars_none hV
  have k0 := h0
  have lt0 : ∀ x ∈ p0, x.block < W.heap.size := by obtain ⟨m, hm⟩ := k0; exact DataW.trod_lt m _ _ _ hm
  obtain ⟨cs0, rfl, hcs0⟩ := okWide_struct Try.underlying102 (hval 0 102 v0 rfl rfl)
  obtain ⟨a0, ka0, w0⟩ : ∃ a, k102.K W a cs0.toList ∧ wf102 a := by
    obtain ⟨fuel, hf⟩ := h0
    obtain ⟨a, ha, hw⟩ := opens102 enc W fuel _ _ hf
    exact ⟨a, by simpa [Value.cells] using ha, hw⟩
  obtain ⟨A0_1, c0_1, A0_2, c0_2, e0, hc0_1, hr0_1, hc0_2, hr0_2⟩ := k102_open ka0
  obtain rfl : cs0 = #[.int .i64 a0.f0, .slice A0_1 a0.f1.length c0_1, .slice A0_2 a0.f2.length c0_2] := by cases cs0; simpa using e0
  have k1 := h1
  have lt1 : ∀ x ∈ p1, x.block < W.heap.size := by obtain ⟨m, hm⟩ := k1; exact DataW.trod_lt m _ _ _ hm
  obtain ⟨cs1, rfl, hcs1⟩ := okWide_struct Try.underlying109 (hval 1 109 v1 rfl rfl)
  obtain ⟨a1, ka1, w1⟩ : ∃ a, k109.K W a cs1.toList ∧ wf109 a := by
    obtain ⟨fuel, hf⟩ := h1
    obtain ⟨a, ha, hw⟩ := opens109 enc W fuel _ _ hf
    exact ⟨a, by simpa [Value.cells] using ha, hw⟩
  obtain ⟨A1_3, c1_3, A1_4, c1_4, e1, hc1_3, hr1_3, hc1_4, hr1_4⟩ := k109_open ka1
  obtain rfl : cs1 = #[.bool a1.f0, .int .i64 a1.f1.f0, .int .i64 a1.f1.f1, .slice A1_3 a1.f2.f0.length c1_3, .slice A1_4 a1.f2.f1.length c1_4, .int .i64 a1.f2.f2, .int .i64 a1.f2.f3] := by cases cs1; simpa using e1
  clear hA0 hval0 hsz0
  refine (laws_FnExactCertApply.walk Pure.FnExactCertApply a0 A0_1 c0_1 A0_2 c0_2 a1 A1_3 c1_3 A1_4 c1_4 W hr0_1 hc0_1 hr0_2 hc0_2 w0 hr1_3 hc1_3 hr1_4 hc1_4 w1).mono fun e W' ⟨he, bel⟩ => ?_
  subst he
  exact ⟨_, rfl, _, _, _, [], _, [], hW', trodAll_mk1 (shut_bool Try.underlying4 _), (trodAll_cons_mk (Below.trod laidOut (by kernel_rfl) (of_decide_eq_true (by kernel_rfl)) k0 bel lt0) (trodAll_cons_mk (Below.trod laidOut (by kernel_rfl) (of_decide_eq_true (by kernel_rfl)) k1 bel lt1) trodAll_mk0)), rfl, bel.frame _, fun h => by cases h⟩
theorem over1 : Try.pinned.checked.prog.funcNamed Rows.fnExactCertApplyRow.func = some 14 := by kernel_rfl
theorem and_intro {a b : Bool} (h1 : a = true) (h2 : b = true) : (a && b) = true := by rw [h1, h2]; rfl
set_option maxHeartbeats 40000000 in
theorem over2 : joinedFacts Try.pinned.checked.prog 14 Try.f14 Rows.fnExactCertApplySpec Rows.fnExactCertApplyRow = true := by
  unfold joinedFacts
  repeat' with_reducible refine and_intro ?_ ?_
  all_goals decide +kernel
theorem over3 : Try.f14.isInstance Try.pinned.checked.prog Rows.fnExactCertApplyRow.origin Rows.fnExactCertApplyRow.targs := of_decide_eq_true (by kernel_rfl)
theorem over4 : Try.f14.isWrapper Try.pinned.checked.prog Rows.fnExactCertApplyRow.wrapper Rows.fnExactCertApplyRow.mainSum := by unfold Func.isWrapper; first | (rw [if_pos (by decide +kernel)]; kernel_rfl) | (rw [if_neg (by decide +kernel)]; exact ⟨rfl, rfl⟩)
theorem over : Rows.fnExactCertApplyRow.holds Try.pinned (OpenSpec.ofChange Rows.fnExactCertApplySpec) :=
  OpenClaim.holds_of_wide 14 Try.f14 rfl rfl rfl rfl rfl rfl rfl ⟨rfl, rfl, rfl, rfl, rfl⟩ rfl rfl rfl rfl rfl over1 Try.func14 over2 over3 over4
    (fun os started H enc _ => lifted os started H enc)
theorem proved : Rows.FnExactCertApplySaid := over
#print axioms proved
end Go.Proofs.Ytkkmhlfpombgfaa.fnExactCertApply
namespace Go.Proofs.Ytkkmhlfpombgfaa
/-- The row, under a short name, for the claim. -/
theorem fnExactCertApply_holds : Rows.FnExactCertApplySaid := fnExactCertApply.proved
end Go.Proofs.Ytkkmhlfpombgfaa