-- Laid by this session's program out of the translation (gen.sh).
import Derived.Test.YtgdafcakefnpdaaRows
import Derived.Test.YtgdafcakefnpdaaPFnExecDox16
import Derived.Test.YtgdafcakefnpdaaPureFnExecDo
import Derived.WalkKit
import Derived.ProofKit
import Derived.OpenShut
import Derived.ShutString
import Derived.ChangeOld
import Derived.Below
import Derived.SizedLaws
import Derived.Test.YtgdafcakefnpdaaSWFnExecDo
namespace Go.Proofs.Ytgdafcakefnpdaa.fnExecDo
open Go.ChangeShapes Go.WideShapes Go.ChangeAt Go.RowKit
open Go.ChangeMaps (open_string shut_string)
set_option linter.unusedVariables false
theorem own : ownKnob Try.prog.godebug = none := by kernel_rfl
theorem laidOut : laidOutB Try.prog = true := by kernel_rfl
def IsRow (k : IntKind) (w : World) (a : Option Addr) (len cap : Nat) (zs : List Int) : Prop :=
 (a = none ∧ len = 0 ∧ cap = 0 ∧ zs = []) ∨
 ∃ x, a = some x ∧ len ≤ cap ∧ cap ≤ maxLen ∧ zs.length = cap ∧ (∀ i, i < zs.length → w.cell? (x.add i) = some (.int k (zs.getD i 0))) ∧ ∀ n ∈ zs, (Lit.int k n).wf = true
set_option maxRecDepth 100000 in
theorem lifted (os : Os) (bJ : os.Started) (H : Type) (enc : TypeId × Value → H) :
  ReturnsInHanded {} Try.checked os 4 .any (Rows.fnExecDoSpec.pre6 enc Try.prog Try.f4 Rows.fnExecDoRow.domain false) (Rows.fnExecDoSpec.post enc Try.prog Try.f4 false true false false) := by
 refine returnsInHanded_of_change_sized (C := Try.checked) own bJ (by kernel_rfl) Try.func4
  (ChangeSpec.witness6 (enc := enc) (C := Try.checked) false ⟨#[], #[.slice none 0 0], []⟩ 8 (by kernel_rfl) (by kernel_rfl) (by kernel_rfl) (by kernel_rfl)) ?_
 intro W aI bD ds gs cm bR0 hW cn ba0 _
 have bK : (DataW.weightsEach Try.prog (Try.f4.params.toList ++ Rows.fnExecDoSpec.plain.varTypes Try.prog) (ds ++ gs)).all (· ≤ reachBytes) = true := ba0
 have bS : ∀ (j : Nat) t v, Try.f4.params[j]? = some t → bD[j]? = some v → Value.okWide Try.prog W .any aI t v := bR0
 have cd := hW
 obtain ⟨p, q, bC0, hV, rfl, co, cp⟩ := hW
 have hA : DataW.TrodAll enc Try.prog W 0 (fun _ => true) true Try.f4.params.toList bD.toList ds p := bC0
 rw [Try.params4] at hA bS bK
 obtain ⟨v0, cq0, d0, cr0, p0, q0, cs, rfl, rfl, h0, r0⟩ := trodAll_cons hA
 obtain ⟨rfl, rfl, rfl⟩ := trodAll_nil r0
 obtain rfl : bD = #[v0] := by cases bD; simp_all
 obtain ⟨rfl, rfl⟩ := trodVars_none hV
 obtain ⟨a0, bm0, bn0, rfl⟩ := okWide_slice Try.underlying22 (bS 0 22 v0 rfl rfl)
 have k0 := h0
 have ce0 : ∀ x ∈ p0, x.block < W.heap.size := by obtain ⟨m, hm⟩ := k0; exact DataW.trod_lt m _ _ _ hm
 obtain ⟨z0, w0⟩ : ∃ zs, IsRow .u8 W a0 bm0 bn0 zs := by
  obtain ⟨ct, hf⟩ := h0
  rcases open_ints Try.underlying22 Try.underlying5 (by kernel_rfl) hf with ⟨hcs, _⟩ | ⟨x, l, c, zs, hcs, _, hl, hm, hz, _, hcell, hwz⟩
  ·simp [Value.cells] at hcs
   obtain ⟨rfl, rfl, rfl⟩ := hcs
   exact ⟨[], .inl ⟨rfl, rfl, rfl, rfl⟩⟩
  ·simp [Value.cells] at hcs
   obtain ⟨rfl, rfl, rfl⟩ := hcs
   exact ⟨zs, .inr ⟨_, rfl, hl, hm, by simpa using hz, hcell, hwz⟩⟩
 have y0 : bm0 * 1 ≤ 140737488351232 := Go.Proofs.YtgdafcakefnpdaaW.PrintWords.sized_ints bK (j := 0) (t := 22) rfl rfl Try.underlying22 Try.underlying5 (by kernel_rfl) (by kernel_rfl) h0
 clear bC0 bR0 ba0 bK
 refine (PFnExecDo.laws_FnExecDo.walk Pure.FnExecDo a0 bm0 bn0 z0 W w0 y0).mono fun e W' ⟨he, bel⟩ => ?_
 subst he
 exact ⟨_, rfl, _, _, _, [], _, [], cd, trodAll_mk1 (shut_bool Try.underlying4 _), (trodAll_cons_mk (Below.trod laidOut (by kernel_rfl) (of_decide_eq_true (by kernel_rfl)) k0 bel ce0) trodAll_mk0), rfl, bel.frame _, fun h => by cases h⟩
theorem over : Rows.fnExecDoRow.holds Try.pinned (OpenSpec.ofChange Rows.fnExecDoSpec) :=
 OpenClaim.holds_of_wide 4 Try.f4 rfl rfl rfl rfl rfl rfl rfl ⟨rfl, rfl, rfl, rfl, rfl⟩ rfl rfl rfl rfl rfl (by kernel_rfl) Try.func4 (by kernel_rfl)
  (of_decide_eq_true (by kernel_rfl)) (by unfold Func.isWrapper; first | (rw [if_pos (by decide +kernel)]; kernel_rfl) | (rw [if_neg (by decide +kernel)]; exact ⟨rfl, rfl⟩))
  (fun os bJ H cf _ => lifted os bJ H cf)
theorem proved : Rows.FnExecDoSaid := over
#print axioms proved
end Go.Proofs.Ytgdafcakefnpdaa.fnExecDo
namespace Go.Proofs.Ytgdafcakefnpdaa
/-- The row, under a short name, for the claim. -/
theorem fnExecDo_holds : Rows.FnExecDoSaid := fnExecDo.proved
end Go.Proofs.Ytgdafcakefnpdaa
