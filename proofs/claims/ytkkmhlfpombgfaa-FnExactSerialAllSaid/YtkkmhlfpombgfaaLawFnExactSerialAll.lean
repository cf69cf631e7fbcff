-- Laid by this session's program out of the translation (law3.py).
import Derived.Test.YtkkmhlfpombgfaaRows
import Derived.Test.YtkkmhlfpombgfaaPFnExactSerialAllx3
import Derived.Test.YtkkmhlfpombgfaaPureFnExactSerialAll
import Derived.WalkKit
import Derived.ProofKit
import Derived.OpenShut
import Derived.ShutString
import Derived.ChangeOld
import Derived.Below
import Derived.SizedLaws
import Derived.Test.YtkkmhlfpombgfaaSWFnExactSerialAll
import Derived.Carry
import Derived.WideShapes
namespace Go.Proofs.Ytkkmhlfpombgfaa.fnExactSerialAll
open Go.ChangeShapes Go.WideShapes Go.ChangeAt Go.RowKit Go.Proofs.Ytkkmhlfpombgfaa.PFnExactSerialAll Go.Proofs.YtkkmhlfpombgfaaW.PrintWords
open Go.ChangeMaps (open_string shut_string)
set_option linter.unusedVariables false
theorem own : ownKnob Try.prog.godebug = none := by kernel_rfl
theorem laidOut : laidOutB Try.prog = true := by kernel_rfl
set_option maxRecDepth 100000 in
theorem lifted (os : Os) (started : os.Started) (H : Type) (enc : TypeId × Value → H) :
  ReturnsInHanded {} Try.checked os 4 .any (Rows.fnExactSerialAllSpec.pre6 enc Try.prog Try.f4 Rows.fnExactSerialAllRow.domain false) (Rows.fnExactSerialAllSpec.post enc Try.prog Try.f4 false true false false) := by
  refine returnsInHanded_of_change_sized (C := Try.checked) own started (by kernel_rfl) Try.func4
    (ChangeSpec.witness6 (enc := enc) (C := Try.checked) false ⟨#[], #[.slice none 0 0, .slice none 0 0], []⟩ 8 (by kernel_rfl) (by kernel_rfl) (by kernel_rfl) (by kernel_rfl)) ?_
  intro W base args ds gs before hval0 hW hcnd hsz0 _
  have hval : ∀ (j : Nat) t v, Try.f4.params[j]? = some t → args[j]? = some v → Value.okWide Try.prog W .any base t v := hval0
  have hW' := hW
  obtain ⟨p, q, hA0, hV, rfl, hfz, hnd⟩ := hW
  have hA : DataW.TrodAll enc Try.prog W 0 (fun _ => true) true Try.f4.params.toList args.toList ds p := hA0
  rw [Try.params4] at hA hval
  obtain ⟨v0, vs0, d0, ds0, p0, q0, hargs, rfl, rfl, h0, r0⟩ := trodAll_cons hA
  obtain ⟨v1, vs1, d1, ds1, p1, q1, rfl, rfl, rfl, h1, r1⟩ := trodAll_cons r0
  obtain ⟨rfl, rfl, rfl⟩ := trodAll_nil r1
  obtain rfl : args = #[v0, v1] := by cases args; simp_all
  obtain ⟨rfl, rfl⟩ := trodVars_none hV
  have k0 := h0
  have lt0 : ∀ x ∈ p0, x.block < W.heap.size := by obtain ⟨m, hm⟩ := k0; exact DataW.trod_lt m _ _ _ hm
  obtain ⟨a0, len0, cap0, rfl⟩ := okWide_slice Try.underlying41 (hval 0 41 v0 rfl rfl)
  obtain ⟨l0, A0, c0, hr0, hc0, w0, e0⟩ : ∃ l A c, Kd.C k136 W A (List.length l) l ∧ List.length l ≤ c ∧ (List.length l ≤ 9223372036854775807 ∧ ∀ y ∈ l, wf136 y) ∧ (Value.slice a0 len0 cap0) = .slice A (List.length l) c := by
    obtain ⟨fuel, hf⟩ := h0
    obtain ⟨l, ⟨A, c, he, hc, hr⟩, hw⟩ := (YtkkmhlfpombgfaaTh.opens_slice Try.underlying41 (by kernel_rfl) opens136) enc W fuel _ _ hf
    refine ⟨l, A, c, hr, hc, hw, ?_⟩
    simpa [Value.cells] using he
  injection e0 with ea_ en_ ec_
  subst a0 len0 cap0
  have k1 := h1
  have lt1 : ∀ x ∈ p1, x.block < W.heap.size := by obtain ⟨m, hm⟩ := k1; exact DataW.trod_lt m _ _ _ hm
  obtain ⟨a1, len1, cap1, rfl⟩ := okWide_slice Try.underlying42 (hval 1 42 v1 rfl rfl)
  obtain ⟨l1, A1, c1, hr1, hc1, w1, e1⟩ : ∃ l A c, Kd.C (Kd.slice 175 k175) W A (List.length l) l ∧ List.length l ≤ c ∧ (List.length l ≤ 9223372036854775807 ∧ ∀ y ∈ l, (y.length ≤ 9223372036854775807 ∧ ∀ y_ ∈ y, wf175 y_)) ∧ (Value.slice a1 len1 cap1) = .slice A (List.length l) c := by
    obtain ⟨fuel, hf⟩ := h1
    obtain ⟨l, ⟨A, c, he, hc, hr⟩, hw⟩ := (YtkkmhlfpombgfaaTh.opens_slice Try.underlying42 (by kernel_rfl) (YtkkmhlfpombgfaaTh.opens_slice Try.underlying133 (by kernel_rfl) opens175)) enc W fuel _ _ hf
    refine ⟨l, A, c, hr, hc, hw, ?_⟩
    simpa [Value.cells] using he
  injection e1 with ea_ en_ ec_
  subst a1 len1 cap1
  clear hA0 hval0 hsz0
  refine (laws_FnExactSerialAll.walk Pure.FnExactSerialAll A0 c0 l0 A1 c1 l1 W hr0 hc0 w0 hr1 hc1 w1).mono fun e W' ⟨he, bel⟩ => ?_
  subst he
  exact ⟨_, rfl, _, _, _, [], _, [], hW', trodAll_mk1 (shut_bool Try.underlying4 _), (trodAll_cons_mk (Below.trod laidOut (by kernel_rfl) (of_decide_eq_true (by kernel_rfl)) k0 bel lt0) (trodAll_cons_mk (Below.trod laidOut (by kernel_rfl) (of_decide_eq_true (by kernel_rfl)) k1 bel lt1) trodAll_mk0)), rfl, bel.frame _, fun h => by cases h⟩
theorem over1 : Try.pinned.checked.prog.funcNamed Rows.fnExactSerialAllRow.func = some 4 := by kernel_rfl
theorem and_intro {a b : Bool} (h1 : a = true) (h2 : b = true) : (a && b) = true := by rw [h1, h2]; rfl
set_option maxHeartbeats 40000000 in
theorem over2 : joinedFacts Try.pinned.checked.prog 4 Try.f4 Rows.fnExactSerialAllSpec Rows.fnExactSerialAllRow = true := by
  unfold joinedFacts
  repeat' with_reducible refine and_intro ?_ ?_
  all_goals decide +kernel
theorem over3 : Try.f4.isInstance Try.pinned.checked.prog Rows.fnExactSerialAllRow.origin Rows.fnExactSerialAllRow.targs := of_decide_eq_true (by kernel_rfl)
theorem over4 : Try.f4.isWrapper Try.pinned.checked.prog Rows.fnExactSerialAllRow.wrapper Rows.fnExactSerialAllRow.mainSum := by unfold Func.isWrapper; first | (rw [if_pos (by decide +kernel)]; kernel_rfl) | (rw [if_neg (by decide +kernel)]; exact ⟨rfl, rfl⟩)
theorem over : Rows.fnExactSerialAllRow.holds Try.pinned (OpenSpec.ofChange Rows.fnExactSerialAllSpec) :=
  OpenClaim.holds_of_wide 4 Try.f4 rfl rfl rfl rfl rfl rfl rfl ⟨rfl, rfl, rfl, rfl, rfl⟩ rfl rfl rfl rfl rfl over1 Try.func4 over2 over3 over4
    (fun os started H enc _ => lifted os started H enc)
theorem proved : Rows.FnExactSerialAllSaid := over
#print axioms proved
end Go.Proofs.Ytkkmhlfpombgfaa.fnExactSerialAll
namespace Go.Proofs.Ytkkmhlfpombgfaa
/-- The row, under a short name, for the claim. -/
theorem fnExactSerialAll_holds : Rows.FnExactSerialAllSaid := fnExactSerialAll.proved
end Go.Proofs.Ytkkmhlfpombgfaa