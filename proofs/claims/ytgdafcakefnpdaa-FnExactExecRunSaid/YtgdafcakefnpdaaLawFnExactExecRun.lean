-- Laid by this session's program out of the translation (gen.sh).
import Derived.Test.YtgdafcakefnpdaaRows
import Derived.Test.YtgdafcakefnpdaaPFnExactExecRunx12
import Derived.Test.YtgdafcakefnpdaaPureFnExactExecRun
import Derived.Test.YtgdafcakefnpdaaSWFnExactExecRun
import Derived.WalkKit
import Derived.ProofKit
import Derived.OpenShut
import Derived.ShutString
import Derived.ChangeOld
import Derived.Below
import Derived.SizedLaws
import Derived.Carry
import Derived.WideShapes
namespace Go.Proofs.Ytgdafcakefnpdaa.fnExactExecRun
open Go.ChangeShapes Go.WideShapes Go.ChangeAt Go.RowKit Go.Proofs.YtgdafcakefnpdaaW.PrintWords Go.Proofs.Ytgdafcakefnpdaa.PFnExactExecRun
open Go.ChangeMaps (open_string shut_string)
set_option linter.unusedVariables false
theorem own : ownKnob Try.prog.godebug = none := by kernel_rfl
theorem laidOut : laidOutB Try.prog = true := by kernel_rfl
set_option maxRecDepth 100000 in
theorem lifted (os : Os) (started : os.Started) (H : Type) (enc : TypeId × Value → H) :
  ReturnsInHanded {} Try.checked os 9 .any (Rows.fnExactExecRunSpec.pre6 enc Try.prog Try.f9 Rows.fnExactExecRunRow.domain false) (Rows.fnExactExecRunSpec.post enc Try.prog Try.f9 false true false false) := by
 refine returnsInHanded_of_change_sized (C := Try.checked) own started (by kernel_rfl) Try.func9
  (ChangeSpec.witness6 (enc := enc) (C := Try.checked) false ⟨#[], #[.slice none 0 0, .slice none 0 0], []⟩ 8 (by kernel_rfl) (by kernel_rfl) (by kernel_rfl) (by kernel_rfl)) ?_
 intro W base args ds gs before hval0 hW hcnd hsz0 _
 have hval : ∀ (j : Nat) t v, Try.f9.params[j]? = some t → args[j]? = some v → Value.okWide Try.prog W .any base t v := hval0
 have hW' := hW
 obtain ⟨p, q, hA0, hV, rfl, hfz, hnd⟩ := hW
 have hA : DataW.TrodAll enc Try.prog W 0 (fun _ => true) true Try.f9.params.toList args.toList ds p := hA0
 rw [Try.params9] at hA hval
 obtain ⟨v0, vs0, d0, ds0, p0, q0, hargs, rfl, rfl, h0, r0⟩ := trodAll_cons hA
 obtain ⟨v1, vs1, d1, ds1, p1, q1, rfl, rfl, rfl, h1, r1⟩ := trodAll_cons r0
 obtain ⟨rfl, rfl, rfl⟩ := trodAll_nil r1
 obtain rfl : args = #[v0, v1] := by cases args; simp_all
 obtain ⟨rfl, rfl⟩ := trodVars_none hV
 have k0 := h0
 have lt0 : ∀ x ∈ p0, x.block < W.heap.size := by obtain ⟨m, hm⟩ := k0; exact DataW.trod_lt m _ _ _ hm
 obtain ⟨a0, len0, cap0, rfl⟩ := okWide_slice Try.underlying54 (hval 0 54 v0 rfl rfl)
 obtain ⟨l0, A0, c0, hr0, hc0, w0, e0⟩ : ∃ l A c, Kd.C k101 W A (List.length l) l ∧ List.length l ≤ c ∧ (List.length l ≤ 9223372036854775807 ∧ ∀ y ∈ l, wf101 y) ∧ (Value.slice a0 len0 cap0) = .slice A (List.length l) c := by
  obtain ⟨fuel, hf⟩ := h0
  obtain ⟨l, ⟨A, c, he, hc, hr⟩, hw⟩ := (YtgdafcakefnpdaaTh.opens_slice Try.underlying54 (by kernel_rfl) opens101) enc W fuel _ _ hf
  refine ⟨l, A, c, hr, hc, hw, ?_⟩
  simpa [Value.cells] using he
 injection e0 with ea_ en_ ec_
 subst a0 len0 cap0
 have k1 := h1
 have lt1 : ∀ x ∈ p1, x.block < W.heap.size := by obtain ⟨m, hm⟩ := k1; exact DataW.trod_lt m _ _ _ hm
 obtain ⟨a1, len1, cap1, rfl⟩ := okWide_slice Try.underlying55 (hval 1 55 v1 rfl rfl)
 obtain ⟨l1, A1, c1, hr1, hc1, w1, e1⟩ : ∃ l A c, Kd.C k103 W A (List.length l) l ∧ List.length l ≤ c ∧ (List.length l ≤ 9223372036854775807 ∧ ∀ y ∈ l, wf103 y) ∧ (Value.slice a1 len1 cap1) = .slice A (List.length l) c := by
  obtain ⟨fuel, hf⟩ := h1
  obtain ⟨l, ⟨A, c, he, hc, hr⟩, hw⟩ := (YtgdafcakefnpdaaTh.opens_slice Try.underlying55 (by kernel_rfl) opens103) enc W fuel _ _ hf
  refine ⟨l, A, c, hr, hc, hw, ?_⟩
  simpa [Value.cells] using he
 injection e1 with ea_ en_ ec_
 subst a1 len1 cap1
 clear hA0 hval0 hsz0
 refine (laws_FnExactExecRun.walk Pure.FnExactExecRun A0 c0 l0 A1 c1 l1 W hr0 hc0 w0 hr1 hc1 w1).mono fun e W' ⟨he, bel⟩ => ?_
 subst he
 exact ⟨_, rfl, _, _, _, [], _, [], hW', trodAll_mk1 (shut_bool Try.underlying4 _), (trodAll_cons_mk (Below.trod laidOut (by kernel_rfl) (of_decide_eq_true (by kernel_rfl)) k0 bel lt0) (trodAll_cons_mk (Below.trod laidOut (by kernel_rfl) (of_decide_eq_true (by kernel_rfl)) k1 bel lt1) trodAll_mk0)), rfl, bel.frame _, fun h => by cases h⟩
theorem over : Rows.fnExactExecRunRow.holds Try.pinned (OpenSpec.ofChange Rows.fnExactExecRunSpec) :=
 OpenClaim.holds_of_wide 9 Try.f9 rfl rfl rfl rfl rfl rfl rfl ⟨rfl, rfl, rfl, rfl, rfl⟩ rfl rfl rfl rfl rfl (by kernel_rfl) Try.func9 (by kernel_rfl)
  (of_decide_eq_true (by kernel_rfl)) (by unfold Func.isWrapper; first | (rw [if_pos (by decide +kernel)]; kernel_rfl) | (rw [if_neg (by decide +kernel)]; exact ⟨rfl, rfl⟩))
  (fun os started H enc _ => lifted os started H enc)
theorem proved : Rows.FnExactExecRunSaid := over
#print axioms proved
end Go.Proofs.Ytgdafcakefnpdaa.fnExactExecRun
namespace Go.Proofs.Ytgdafcakefnpdaa
/-- The row, under a short name, for the claim. -/
theorem fnExactExecRun_holds : Rows.FnExactExecRunSaid := fnExactExecRun.proved
end Go.Proofs.Ytgdafcakefnpdaa
