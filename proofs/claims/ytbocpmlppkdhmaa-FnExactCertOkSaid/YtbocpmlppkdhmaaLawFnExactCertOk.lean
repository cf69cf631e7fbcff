-- Laid by this session's program out of the translation (gen.sh).
import Derived.Test.YtbocpmlppkdhmaaRows
import Derived.Test.YtbocpmlppkdhmaaPFnExactCertOkx6
import Derived.Test.YtbocpmlppkdhmaaPureFnExactCertOk
import Derived.Test.YtbocpmlppkdhmaaSWFnExactCertOk
import Derived.WalkKit
import Derived.ProofKit
import Derived.OpenShut
import Derived.ShutString
import Derived.ChangeOld
import Derived.Below
import Derived.SizedLaws
import Derived.Carry
import Derived.WideShapes
namespace Go.Proofs.Ytbocpmlppkdhmaa.fnExactCertOk
open Go.ChangeShapes Go.WideShapes Go.ChangeAt Go.RowKit Go.Proofs.YtbocpmlppkdhmaaW.PrintWords Go.Proofs.Ytbocpmlppkdhmaa.PFnExactCertOk
open Go.ChangeMaps (open_string shut_string)
set_option linter.unusedVariables false
theorem own : ownKnob Try.prog.godebug = none := by kernel_rfl
theorem laidOut : laidOutB Try.prog = true := by kernel_rfl
set_option maxRecDepth 100000 in
theorem lifted (os : Os) (started : os.Started) (H : Type) (enc : TypeId × Value → H) :
    ReturnsInHanded {} Try.checked os 7 .any (Rows.fnExactCertOkSpec.pre6 enc Try.prog Try.f7 Rows.fnExactCertOkRow.domain false) (Rows.fnExactCertOkSpec.post enc Try.prog Try.f7 false true false false) := by
  refine returnsInHanded_of_change_sized (C := Try.checked) own started (by kernel_rfl) Try.func7
    (ChangeSpec.witness6 (enc := enc) (C := Try.checked) false ⟨#[], #[.agg #[.int .i64 0, .slice none 0 0, .slice none 0 0]], []⟩ 8 (by kernel_rfl) (by kernel_rfl) (by kernel_rfl) (by kernel_rfl)) ?_
  intro W base args ds gs before hval0 hW hcnd hsz0 _
  have hval : ∀ (j : Nat) t v, Try.f7.params[j]? = some t → args[j]? = some v → Value.okWide Try.prog W .any base t v := hval0
  have hW' := hW
  obtain ⟨p, q, hA0, hV, rfl, hfz, hnd⟩ := hW
  have hA : DataW.TrodAll enc Try.prog W 0 (fun _ => true) true Try.f7.params.toList args.toList ds p := hA0
  rw [Try.params7] at hA hval
  obtain ⟨v0, vs0, d0, ds0, p0, q0, hargs, rfl, rfl, h0, r0⟩ := trodAll_cons hA
  obtain ⟨rfl, rfl, rfl⟩ := trodAll_nil r0
  obtain rfl : args = #[v0] := by cases args; simp_all
  obtain ⟨rfl, rfl⟩ := trodVars_none hV
  have k0 := h0
  have lt0 : ∀ x ∈ p0, x.block < W.heap.size := by obtain ⟨m, hm⟩ := k0; exact DataW.trod_lt m _ _ _ hm
  obtain ⟨cs0, rfl, hcs0⟩ := okWide_struct Try.underlying33 (hval 0 33 v0 rfl rfl)
  obtain ⟨a0, ka0, w0⟩ : ∃ a, k33.K W a cs0.toList ∧ wf33 a := by
    obtain ⟨fuel, hf⟩ := h0
    obtain ⟨a, ha, hw⟩ := opens33 enc W fuel _ _ hf
    exact ⟨a, by simpa [Value.cells] using ha, hw⟩
  obtain ⟨A0_1, c0_1, A0_2, c0_2, e0, hc0_1, hr0_1, hc0_2, hr0_2⟩ := k33_open ka0
  obtain rfl : cs0 = #[.int .i64 a0.f0, .slice A0_1 a0.f1.length c0_1, .slice A0_2 a0.f2.length c0_2] := by cases cs0; simpa using e0
  clear hA0 hval0 hsz0
  refine (laws_FnExactCertOk.walk Pure.FnExactCertOk a0 A0_1 c0_1 A0_2 c0_2 W hr0_1 hc0_1 hr0_2 hc0_2 w0).mono fun e W' ⟨he, bel⟩ => ?_
  subst he
  exact ⟨_, rfl, _, _, _, [], _, [], hW', trodAll_mk1 (shut_bool Try.underlying4 _), (trodAll_cons_mk (Below.trod laidOut (by kernel_rfl) (of_decide_eq_true (by kernel_rfl)) k0 bel lt0) trodAll_mk0), rfl, bel.frame _, fun h => by cases h⟩
theorem over : Rows.fnExactCertOkRow.holds Try.pinned (OpenSpec.ofChange Rows.fnExactCertOkSpec) :=
  OpenClaim.holds_of_wide 7 Try.f7 rfl rfl rfl rfl rfl rfl rfl ⟨rfl, rfl, rfl, rfl, rfl⟩ rfl rfl rfl rfl rfl (by kernel_rfl) Try.func7 (by kernel_rfl)
    (of_decide_eq_true (by kernel_rfl)) (by unfold Func.isWrapper; first | (rw [if_pos (by decide +kernel)]; kernel_rfl) | (rw [if_neg (by decide +kernel)]; exact ⟨rfl, rfl⟩))
    (fun os started H enc _ => lifted os started H enc)
theorem proved : Rows.FnExactCertOkSaid := over
#print axioms proved
end Go.Proofs.Ytbocpmlppkdhmaa.fnExactCertOk
namespace Go.Proofs.Ytbocpmlppkdhmaa
/-- The row, under a short name, for the claim. -/
theorem fnExactCertOk_holds : Rows.FnExactCertOkSaid := fnExactCertOk.proved
end Go.Proofs.Ytbocpmlppkdhmaa
