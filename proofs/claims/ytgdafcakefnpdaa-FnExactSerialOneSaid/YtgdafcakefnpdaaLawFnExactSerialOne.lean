-- Laid by this session's program out of the translation (gen.sh).
import Derived.Test.YtgdafcakefnpdaaRows
import Derived.Test.YtgdafcakefnpdaaPFnExactSerialOnex13
import Derived.Test.YtgdafcakefnpdaaPureFnExactSerialOne
import Derived.Test.YtgdafcakefnpdaaSWFnExactSerialOne
import Derived.WalkKit
import Derived.ProofKit
import Derived.OpenShut
import Derived.ShutString
import Derived.ChangeOld
import Derived.Below
import Derived.SizedLaws
import Derived.Carry
import Derived.WideShapes
namespace Go.Proofs.Ytgdafcakefnpdaa.fnExactSerialOne
open Go.ChangeShapes Go.WideShapes Go.ChangeAt Go.RowKit Go.Proofs.YtgdafcakefnpdaaW.PrintWords Go.Proofs.Ytgdafcakefnpdaa.PFnExactSerialOne
open Go.ChangeMaps (open_string shut_string)
set_option linter.unusedVariables false
theorem own : ownKnob Try.prog.godebug = none := by kernel_rfl
theorem laidOut : laidOutB Try.prog = true := by kernel_rfl
set_option maxRecDepth 100000 in
theorem lifted (os : Os) (bH : os.Started) (H : Type) (enc : TypeId × Value → H) :
  ReturnsInHanded {} Try.checked os 7 .any (Rows.fnExactSerialOneSpec.pre6 enc Try.prog Try.f7 Rows.fnExactSerialOneRow.domain false) (Rows.fnExactSerialOneSpec.post enc Try.prog Try.f7 false true false false) := by
 refine returnsInHanded_of_change_sized (C := Try.checked) own bH (by kernel_rfl) Try.func7
  (ChangeSpec.witness6 (enc := enc) (C := Try.checked) false ⟨#[], #[.slice none 0 0, .slice none 0 0], []⟩ 8 (by kernel_rfl) (by kernel_rfl) (by kernel_rfl) (by kernel_rfl)) ?_
 intro W aX bD ds gs ca bN0 hW cb bR0 _
 have bI : ∀ (j : Nat) t v, Try.f7.params[j]? = some t → bD[j]? = some v → Value.okWide Try.prog W .any aX t v := bN0
 have bS := hW
 obtain ⟨p, q, bO0, hV, rfl, cc, cd⟩ := hW
 have hA : DataW.TrodAll enc Try.prog W 0 (fun _ => true) true Try.f7.params.toList bD.toList ds p := bO0
 rw [Try.params7] at hA bI
 obtain ⟨v0, bT0, d0, bU0, p0, q0, ce, rfl, rfl, h0, r0⟩ := trodAll_cons hA
 obtain ⟨v1, bT1, d1, bU1, p1, q1, rfl, rfl, rfl, h1, r1⟩ := trodAll_cons r0
 obtain ⟨rfl, rfl, rfl⟩ := trodAll_nil r1
 obtain rfl : bD = #[v0, v1] := by cases bD; simp_all
 obtain ⟨rfl, rfl⟩ := trodVars_none hV
 have k0 := h0
 have bJ0 : ∀ x ∈ p0, x.block < W.heap.size := by obtain ⟨m, hm⟩ := k0; exact DataW.trod_lt m _ _ _ hm
 obtain ⟨a0, bB0, bC0, rfl⟩ := okWide_slice Try.underlying54 (bI 0 54 v0 rfl rfl)
 obtain ⟨l0, A0, c0, V0, S0, w0, e0⟩ : ∃ l A c, Kd.C k101 W A (List.length l) l ∧ List.length l ≤ c ∧ (List.length l ≤ 9223372036854775807 ∧ ∀ y ∈ l, wf101 y) ∧ (Value.slice a0 bB0 bC0) = .slice A (List.length l) c := by
  obtain ⟨bA, hf⟩ := h0
  obtain ⟨l, ⟨A, c, he, hc, hr⟩, hw⟩ := (YtgdafcakefnpdaaTh.opens_slice Try.underlying54 (by kernel_rfl) opens101) enc W bA _ _ hf
  refine ⟨l, A, c, hr, hc, hw, ?_⟩
  simpa [Value.cells] using he
 injection e0 with ak aF aG
 subst a0 bB0 bC0
 have k1 := h1
 have bJ1 : ∀ x ∈ p1, x.block < W.heap.size := by obtain ⟨m, hm⟩ := k1; exact DataW.trod_lt m _ _ _ hm
 obtain ⟨a1, bB1, bC1, rfl⟩ := okWide_slice Try.underlying55 (bI 1 55 v1 rfl rfl)
 obtain ⟨l1, A1, c1, V1, S1, w1, e1⟩ : ∃ l A c, Kd.C k103 W A (List.length l) l ∧ List.length l ≤ c ∧ (List.length l ≤ 9223372036854775807 ∧ ∀ y ∈ l, wf103 y) ∧ (Value.slice a1 bB1 bC1) = .slice A (List.length l) c := by
  obtain ⟨bA, hf⟩ := h1
  obtain ⟨l, ⟨A, c, he, hc, hr⟩, hw⟩ := (YtgdafcakefnpdaaTh.opens_slice Try.underlying55 (by kernel_rfl) opens103) enc W bA _ _ hf
  refine ⟨l, A, c, hr, hc, hw, ?_⟩
  simpa [Value.cells] using he
 injection e1 with ak aF aG
 subst a1 bB1 bC1
 clear bO0 bN0 bR0
 refine (laws_FnExactSerialOne.walk Pure.FnExactSerialOne A0 c0 l0 A1 c1 l1 W V0 S0 w0 V1 S1 w1).mono fun e W' ⟨he, bel⟩ => ?_
 subst he
 exact ⟨_, rfl, _, _, _, [], _, [], bS, trodAll_mk1 (shut_bool Try.underlying4 _), (trodAll_cons_mk (Below.trod laidOut (by kernel_rfl) (of_decide_eq_true (by kernel_rfl)) k0 bel bJ0) (trodAll_cons_mk (Below.trod laidOut (by kernel_rfl) (of_decide_eq_true (by kernel_rfl)) k1 bel bJ1) trodAll_mk0)), rfl, bel.frame _, fun h => by cases h⟩
theorem over : Rows.fnExactSerialOneRow.holds Try.pinned (OpenSpec.ofChange Rows.fnExactSerialOneSpec) :=
 OpenClaim.holds_of_wide 7 Try.f7 rfl rfl rfl rfl rfl rfl rfl ⟨rfl, rfl, rfl, rfl, rfl⟩ rfl rfl rfl rfl rfl (by kernel_rfl) Try.func7 (by kernel_rfl)
  (of_decide_eq_true (by kernel_rfl)) (by unfold Func.isWrapper; first | (rw [if_pos (by decide +kernel)]; kernel_rfl) | (rw [if_neg (by decide +kernel)]; exact ⟨rfl, rfl⟩))
  (fun os bH H aT _ => lifted os bH H aT)
theorem proved : Rows.FnExactSerialOneSaid := over
#print axioms proved
end Go.Proofs.Ytgdafcakefnpdaa.fnExactSerialOne
namespace Go.Proofs.Ytgdafcakefnpdaa
/-- The row, under a short name, for the claim. -/
theorem fnExactSerialOne_holds : Rows.FnExactSerialOneSaid := fnExactSerialOne.proved
end Go.Proofs.Ytgdafcakefnpdaa
