-- Laid by this session's program out of the translation (law3.py).
import Derived.Test.YtkkmhlfpombgfaaRows
import Derived.Test.YtkkmhlfpombgfaaPFnExactCertFoldx4
import Derived.Test.YtkkmhlfpombgfaaPureFnExactCertFold
import Derived.WalkKit
import Derived.ProofKit
import Derived.OpenShut
import Derived.ShutString
import Derived.ChangeOld
import Derived.Below
import Derived.SizedLaws
import Derived.Test.YtkkmhlfpombgfaaSWFnExactCertFold
import Derived.Carry
import Derived.WideShapes
namespace Go.Proofs.Ytkkmhlfpombgfaa.fnExactCertFold
open Go.ChangeShapes Go.WideShapes Go.ChangeAt Go.RowKit Go.Proofs.Ytkkmhlfpombgfaa.PFnExactCertFold Go.Proofs.YtkkmhlfpombgfaaW.PrintWords
open Go.ChangeMaps (open_string shut_string)
set_option linter.unusedVariables false
theorem own : ownKnob Try.prog.godebug = none := by kernel_rfl
theorem laidOut : laidOutB Try.prog = true := by kernel_rfl
set_option maxRecDepth 100000 in
theorem lifted (os : Os) (started : os.Started) (H : Type) (enc : TypeId × Value → H) :
  ReturnsInHanded {} Try.checked os 15 .any (Rows.fnExactCertFoldSpec.pre6 enc Try.prog Try.f15 Rows.fnExactCertFoldRow.domain false) (Rows.fnExactCertFoldSpec.post enc Try.prog Try.f15 false true false false) := by
  refine returnsInHanded_of_change_sized (C := Try.checked) own started (by kernel_rfl) Try.func15
    (ChangeSpec.witness6 (enc := enc) (C := Try.checked) false ⟨#[], #[.slice none 0 0], []⟩ 8 (by kernel_rfl) (by kernel_rfl) (by kernel_rfl) (by kernel_rfl)) ?_
  intro W base args ds gs before hval0 hW hcnd hsz0 _
  have hval : ∀ (j : Nat) t v, Try.f15.params[j]? = some t → args[j]? = some v → Value.okWide Try.prog W .any base t v := hval0
  have hW' := hW
  obtain ⟨p, q, hA0, hV, rfl, hfz, hnd⟩ := hW
  have hA : DataW.TrodAll enc Try.prog W 0 (fun _ => true) true Try.f15.params.toList args.toList ds p := hA0
  rw [Try.params15] at hA hval
  obtain ⟨v0, vs0, d0, ds0, p0, q0, hargs, rfl, rfl, h0, r0⟩ := trodAll_cons hA
  obtain ⟨rfl, rfl, rfl⟩ := trodAll_nil r0
  obtain rfl : args = #[v0] := by cases args; simp_all
  obtain ⟨rfl, rfl⟩ := trodVars_none hV
  have k0 := h0
  have lt0 : ∀ x ∈ p0, x.block < W.heap.size := by obtain ⟨m, hm⟩ := k0; exact DataW.trod_lt m _ _ _ hm
  obtain ⟨a0, len0, cap0, rfl⟩ := okWide_slice Try.underlying117 (hval 0 117 v0 rfl rfl)
  obtain ⟨l0, A0, c0, hr0, hc0, w0, e0⟩ : ∃ l A c, Kd.C k109 W A (List.length l) l ∧ List.length l ≤ c ∧ (List.length l ≤ 9223372036854775807 ∧ ∀ y ∈ l, wf109 y) ∧ (Value.slice a0 len0 cap0) = .slice A (List.length l) c := by
    obtain ⟨fuel, hf⟩ := h0
    obtain ⟨l, ⟨A, c, he, hc, hr⟩, hw⟩ := (YtkkmhlfpombgfaaTh.opens_slice Try.underlying117 (by kernel_rfl) opens109) enc W fuel _ _ hf
    refine ⟨l, A, c, hr, hc, hw, ?_⟩
    simpa [Value.cells] using he
  injection e0 with ea_ en_ ec_
  subst a0 len0 cap0
  clear hA0 hval0 hsz0
  refine (laws_FnExactCertFold.walk Pure.FnExactCertFold A0 c0 l0 W hr0 hc0 w0).mono fun e W' ⟨he, bel⟩ => ?_
  subst he
  exact ⟨_, rfl, _, _, _, [], _, [], hW', trodAll_mk1 (shut_bool Try.underlying4 _), (trodAll_cons_mk (Below.trod laidOut (by kernel_rfl) (of_decide_eq_true (by kernel_rfl)) k0 bel lt0) trodAll_mk0), rfl, bel.frame _, fun h => by cases h⟩
theorem over1 : Try.pinned.checked.prog.funcNamed Rows.fnExactCertFoldRow.func = some 15 := by kernel_rfl
theorem and_intro {a b : Bool} (h1 : a = true) (h2 : b = true) : (a && b) = true := by rw [h1, h2]; rfl
set_option maxHeartbeats 40000000 in
theorem over2 : joinedFacts Try.pinned.checked.prog 15 Try.f15 Rows.fnExactCertFoldSpec Rows.fnExactCertFoldRow = true := by
  unfold joinedFacts
  repeat' with_reducible refine and_intro ?_ ?_
  all_goals decide +kernel
theorem over3 : Try.f15.isInstance Try.pinned.checked.prog Rows.fnExactCertFoldRow.origin Rows.fnExactCertFoldRow.targs := of_decide_eq_true (by kernel_rfl)
theorem over4 : Try.f15.isWrapper Try.pinned.checked.prog Rows.fnExactCertFoldRow.wrapper Rows.fnExactCertFoldRow.mainSum := by unfold Func.isWrapper; first | (rw [if_pos (by decide +kernel)]; kernel_rfl) | (rw [if_neg (by decide +kernel)]; exact ⟨rfl, rfl⟩)
theorem over : Rows.fnExactCertFoldRow.holds Try.pinned (OpenSpec.ofChange Rows.fnExactCertFoldSpec) :=
  OpenClaim.holds_of_wide 15 Try.f15 rfl rfl rfl rfl rfl rfl rfl ⟨rfl, rfl, rfl, rfl, rfl⟩ rfl rfl rfl rfl rfl over1 Try.func15 over2 over3 over4
    (fun os started H enc _ => lifted os started H enc)
theorem proved : Rows.FnExactCertFoldSaid := over
#print axioms proved
end Go.Proofs.Ytkkmhlfpombgfaa.fnExactCertFold
namespace Go.Proofs.Ytkkmhlfpombgfaa
/-- The row, under a short name, for the claim. -/
theorem fnExactCertFold_holds : Rows.FnExactCertFoldSaid := fnExactCertFold.proved
end Go.Proofs.Ytkkmhlfpombgfaa