-- Laid by this session's program out of the translation (gen.sh).
import Derived.Test.YtbocpmlppkdhmaaRows
import Derived.Test.YtbocpmlppkdhmaaPFnExactCertEntryx11
import Derived.Test.YtbocpmlppkdhmaaPureFnExactCertEntry
import Derived.Test.YtbocpmlppkdhmaaSWFnExactCertEntry
import Derived.WalkKit
import Derived.ProofKit
import Derived.OpenShut
import Derived.ShutString
import Derived.ChangeOld
import Derived.Below
import Derived.SizedLaws
import Derived.Carry
import Derived.WideShapes
namespace Go.Proofs.Ytbocpmlppkdhmaa.fnExactCertEntry
open Go.ChangeShapes Go.WideShapes Go.ChangeAt Go.RowKit Go.Proofs.YtbocpmlppkdhmaaW.PrintWords Go.Proofs.Ytbocpmlppkdhmaa.PFnExactCertEntry
open Go.ChangeMaps (open_string shut_string)
set_option linter.unusedVariables false
theorem own : ownKnob Try.prog.godebug = none := by kernel_rfl
theorem laidOut : laidOutB Try.prog = true := by kernel_rfl
set_option maxRecDepth 100000 in
theorem lifted (os : Os) (started : os.Started) (H : Type) (enc : TypeId × Value → H) :
    ReturnsInHanded {} Try.checked os 12 .any (Rows.fnExactCertEntrySpec.pre6 enc Try.prog Try.f12 Rows.fnExactCertEntryRow.domain false) (Rows.fnExactCertEntrySpec.post enc Try.prog Try.f12 false true false false) := by
  refine returnsInHanded_of_change_sized (C := Try.checked) own started (by kernel_rfl) Try.func12
    (ChangeSpec.witness6 (enc := enc) (C := Try.checked) false ⟨#[], #[.agg #[.bool false, .int .i64 0, .int .i64 0, .slice none 0 0, .slice none 0 0, .int .i64 0, .int .i64 0]], []⟩ 8 (by kernel_rfl) (by kernel_rfl) (by kernel_rfl) (by kernel_rfl)) ?_
  intro W base args ds gs before hval0 hW hcnd hsz0 _
  have hval : ∀ (j : Nat) t v, Try.f12.params[j]? = some t → args[j]? = some v → Value.okWide Try.prog W .any base t v := hval0
  have hW' := hW
  obtain ⟨p, q, hA0, hV, rfl, hfz, hnd⟩ := hW
  have hA : DataW.TrodAll enc Try.prog W 0 (fun _ => true) true Try.f12.params.toList args.toList ds p := hA0
  rw [Try.params12] at hA hval
  obtain ⟨v0, vs0, d0, ds0, p0, q0, hargs, rfl, rfl, h0, r0⟩ := trodAll_cons hA
  obtain ⟨rfl, rfl, rfl⟩ := trodAll_nil r0
  obtain rfl : args = #[v0] := by cases args; simp_all
  obtain ⟨rfl, rfl⟩ := trodVars_none hV
  have k0 := h0
  have lt0 : ∀ x ∈ p0, x.block < W.heap.size := by obtain ⟨m, hm⟩ := k0; exact DataW.trod_lt m _ _ _ hm
  obtain ⟨cs0, rfl, hcs0⟩ := okWide_struct Try.underlying64 (hval 0 64 v0 rfl rfl)
  obtain ⟨a0, ka0, w0⟩ : ∃ a, k64.K W a cs0.toList ∧ wf64 a := by
    obtain ⟨fuel, hf⟩ := h0
    obtain ⟨a, ha, hw⟩ := opens64 enc W fuel _ _ hf
    exact ⟨a, by simpa [Value.cells] using ha, hw⟩
  obtain ⟨A0_3, c0_3, A0_4, c0_4, e0, hc0_3, hr0_3, hc0_4, hr0_4⟩ := k64_open ka0
  obtain rfl : cs0 = #[.bool a0.f0, .int .i64 a0.f1.f0, .int .i64 a0.f1.f1, .slice A0_3 a0.f2.f0.length c0_3, .slice A0_4 a0.f2.f1.length c0_4, .int .i64 a0.f2.f2, .int .i64 a0.f2.f3] := by cases cs0; simpa using e0
  clear hA0 hval0 hsz0
  refine (laws_FnExactCertEntry.walk Pure.FnExactCertEntry a0 A0_3 c0_3 A0_4 c0_4 W hr0_3 hc0_3 hr0_4 hc0_4 w0).mono fun e W' ⟨he, bel⟩ => ?_
  subst he
  exact ⟨_, rfl, _, _, _, [], _, [], hW', trodAll_mk1 (shut_bool Try.underlying4 _), (trodAll_cons_mk (Below.trod laidOut (by kernel_rfl) (of_decide_eq_true (by kernel_rfl)) k0 bel lt0) trodAll_mk0), rfl, bel.frame _, fun h => by cases h⟩
theorem over : Rows.fnExactCertEntryRow.holds Try.pinned (OpenSpec.ofChange Rows.fnExactCertEntrySpec) :=
  OpenClaim.holds_of_wide 12 Try.f12 rfl rfl rfl rfl rfl rfl rfl ⟨rfl, rfl, rfl, rfl, rfl⟩ rfl rfl rfl rfl rfl (by kernel_rfl) Try.func12 (by kernel_rfl)
    (of_decide_eq_true (by kernel_rfl)) (by unfold Func.isWrapper; first | (rw [if_pos (by decide +kernel)]; kernel_rfl) | (rw [if_neg (by decide +kernel)]; exact ⟨rfl, rfl⟩))
    (fun os started H enc _ => lifted os started H enc)
theorem proved : Rows.FnExactCertEntrySaid := over
#print axioms proved
end Go.Proofs.Ytbocpmlppkdhmaa.fnExactCertEntry
namespace Go.Proofs.Ytbocpmlppkdhmaa
/-- The row, under a short name, for the claim. -/
theorem fnExactCertEntry_holds : Rows.FnExactCertEntrySaid := fnExactCertEntry.proved
end Go.Proofs.Ytbocpmlppkdhmaa
