-- Laid by this session's program out of the translation (gen.sh).
import Derived.Test.YthojmgliknacfaaRows
import Derived.Test.YthojmgliknacfaaPFnExactBoxOkx2
import Derived.Test.YthojmgliknacfaaPureFnExactBoxOk
import Derived.Test.YthojmgliknacfaaThO
import Derived.WalkKit
import Derived.ProofKit
import Derived.OpenShut
import Derived.ShutString
import Derived.ChangeOld
import Derived.Below
import Derived.SizedLaws
import Derived.Carry
import Derived.WideShapes
namespace Go.Proofs.Ythojmgliknacfaa.fnExactBoxOk
open Go.ChangeShapes Go.WideShapes Go.ChangeAt Go.RowKit Go.Proofs.YthojmgliknacfaaW.PrintWords Go.Proofs.Ythojmgliknacfaa.PFnExactBoxOk
open Go.ChangeMaps (open_string shut_string)
set_option linter.unusedVariables false
theorem own : ownKnob Try.prog.godebug = none := by kernel_rfl
theorem laidOut : laidOutB Try.prog = true := by kernel_rfl
set_option maxRecDepth 100000 in
theorem lifted (os : Os) (started : os.Started) (H : Type) (enc : TypeId × Value → H) :
    ReturnsInHanded {} Try.checked os 7 .any (Rows.fnExactBoxOkSpec.pre6 enc Try.prog Try.f7 Rows.fnExactBoxOkRow.domain false) (Rows.fnExactBoxOkSpec.post enc Try.prog Try.f7 false true false false) := by
  refine returnsInHanded_of_change_sized (C := Try.checked) own started (by kernel_rfl) Try.func7
    (ChangeSpec.witness6 (enc := enc) (C := Try.checked) false ⟨#[], #[.slice none 0 0], []⟩ 8 (by kernel_rfl) (by kernel_rfl) (by kernel_rfl) (by kernel_rfl)) ?_
  intro W base args ds gs before hval0 hW hcnd hsz0 _
  have hval : ∀ (j : Nat) t v, Try.f7.params[j]? = some t → args[j]? = some v → Value.okWide Try.prog W .any base t v := hval0
  have hW' := hW
  obtain ⟨p, q, hA0, hV, rfl, hfz, hnd⟩ := hW
  have hA : DataW.TrodAll enc Try.prog W 0 (fun _ => true) true Try.f7.params.toList args.toList ds p := hA0
  rw [Try.params7] at hA hval
  obtain ⟨v0, vs0, d0, ds0, p0, q0, hargs, rfl, rfl, h0, r0⟩ := trodAll_cons hA
  obtain ⟨rfl, rfl, rfl⟩ := trodAll_nil r0
  obtain rfl : args = #[v0] := by cases args; simp_all
  obtain ⟨rfl, rfl⟩ := trodVars_none hV
  have k0 := h0
  have lt0 : ∀ x ∈ p0, x.block < W.heap.size := by obtain ⟨m, hm⟩ := k0; exact DataW.trod_lt m _ _ _ hm
  obtain ⟨a0, len0, cap0, rfl⟩ := okWide_slice Try.underlying29 (hval 0 29 v0 rfl rfl)
  obtain ⟨l0, A0, c0, hr0, hc0, w0, e0⟩ : ∃ l A c, Kd.C k68 W A (List.length l) l ∧ List.length l ≤ c ∧ (List.length l ≤ 9223372036854775807 ∧ ∀ y ∈ l, wf68 y) ∧ (Value.slice a0 len0 cap0) = .slice A (List.length l) c := by
    obtain ⟨fuel, hf⟩ := h0
    obtain ⟨l, ⟨A, c, he, hc, hr⟩, hw⟩ := (YthojmgliknacfaaTh.opens_slice Try.underlying29 (by kernel_rfl) opens68) enc W fuel _ _ hf
    refine ⟨l, A, c, hr, hc, hw, ?_⟩
    simpa [Value.cells] using he
  injection e0 with ea_ en_ ec_
  subst a0 len0 cap0
  clear hA0 hval0 hsz0
  refine (laws_FnExactBoxOk.walk Pure.FnExactBoxOk A0 c0 l0 W hr0 hc0 w0).mono fun e W' ⟨he, bel⟩ => ?_
  subst he
  exact ⟨_, rfl, _, _, _, [], _, [], hW', trodAll_mk1 (shut_bool Try.underlying4 _), (trodAll_cons_mk (Below.trod laidOut (by kernel_rfl) (of_decide_eq_true (by kernel_rfl)) k0 bel lt0) trodAll_mk0), rfl, bel.frame _, fun h => by cases h⟩
theorem over : Rows.fnExactBoxOkRow.holds Try.pinned (OpenSpec.ofChange Rows.fnExactBoxOkSpec) :=
  OpenClaim.holds_of_wide 7 Try.f7 rfl rfl rfl rfl rfl rfl rfl ⟨rfl, rfl, rfl, rfl, rfl⟩ rfl rfl rfl rfl rfl (by kernel_rfl) Try.func7 (by kernel_rfl)
    (of_decide_eq_true (by kernel_rfl)) (by unfold Func.isWrapper; first | (rw [if_pos (by decide +kernel)]; kernel_rfl) | (rw [if_neg (by decide +kernel)]; exact ⟨rfl, rfl⟩))
    (fun os started H enc _ => lifted os started H enc)
theorem proved : Rows.FnExactBoxOkSaid := over
#print axioms proved
end Go.Proofs.Ythojmgliknacfaa.fnExactBoxOk
namespace Go.Proofs.Ythojmgliknacfaa
/-- The row, under a short name, for the claim. -/
theorem fnExactBoxOk_holds : Rows.FnExactBoxOkSaid := fnExactBoxOk.proved
end Go.Proofs.Ythojmgliknacfaa
