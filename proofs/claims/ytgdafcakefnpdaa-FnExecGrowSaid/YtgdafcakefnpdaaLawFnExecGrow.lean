-- Laid by this session's program out of the translation (gen.sh).
import Derived.Test.YtgdafcakefnpdaaRows
import Derived.Test.YtgdafcakefnpdaaPFnExecGrowx16
import Derived.Test.YtgdafcakefnpdaaPureFnExecGrow
import Derived.WalkKit
import Derived.ProofKit
import Derived.OpenShut
import Derived.ShutString
import Derived.ChangeOld
import Derived.Below
import Derived.SizedLaws
import Derived.Test.YtgdafcakefnpdaaSWFnExecGrow
namespace Go.Proofs.Ytgdafcakefnpdaa.fnExecGrow
open Go.ChangeShapes Go.WideShapes Go.ChangeAt Go.RowKit
open Go.ChangeMaps (open_string shut_string)
set_option linter.unusedVariables false
theorem own : ownKnob Try.prog.godebug = none := by kernel_rfl
theorem laidOut : laidOutB Try.prog = true := by kernel_rfl
def IsRow (k : IntKind) (w : World) (a : Option Addr) (len cap : Nat) (zs : List Int) : Prop :=
 (a = none ∧ len = 0 ∧ cap = 0 ∧ zs = []) ∨
 ∃ x, a = some x ∧ len ≤ cap ∧ cap ≤ maxLen ∧ zs.length = cap ∧ (∀ i, i < zs.length → w.cell? (x.add i) = some (.int k (zs.getD i 0))) ∧ ∀ n ∈ zs, (Lit.int k n).wf = true
set_option maxRecDepth 100000 in
theorem lifted (os : Os) (bR : os.Started) (H : Type) (enc : TypeId × Value → H) :
  ReturnsInHanded {} Try.checked os 5 .any (Rows.fnExecGrowSpec.pre6 enc Try.prog Try.f5 Rows.fnExecGrowRow.domain false) (Rows.fnExecGrowSpec.post enc Try.prog Try.f5 false true false false) := by
 refine returnsInHanded_of_change_sized (C := Try.checked) own bR (by kernel_rfl) Try.func5
  (ChangeSpec.witness6 (enc := enc) (C := Try.checked) false ⟨#[], #[.slice none 0 0, .slice none 0 0], []⟩ 8 (by kernel_rfl) (by kernel_rfl) (by kernel_rfl) (by kernel_rfl)) ?_
 intro W aH bK ds gs cp ca0 hW cq bv0 _
 have bL : (DataW.weightsEach Try.prog (Try.f5.params.toList ++ Rows.fnExecGrowSpec.plain.varTypes Try.prog) (ds ++ gs)).all (· ≤ reachBytes) = true := bv0
 have bS : ∀ (j : Nat) t v, Try.f5.params[j]? = some t → bK[j]? = some v → Value.okWide Try.prog W .any aH t v := ca0
 have cf := hW
 obtain ⟨p, q, bI0, hV, rfl, cr, cs⟩ := hW
 have hA : DataW.TrodAll enc Try.prog W 0 (fun _ => true) true Try.f5.params.toList bK.toList ds p := bI0
 rw [Try.params5] at hA bS bL
 obtain ⟨v0, cg0, d0, ch0, p0, q0, ct, rfl, rfl, h0, r0⟩ := trodAll_cons hA
 obtain ⟨v1, cg1, d1, ch1, p1, q1, rfl, rfl, rfl, h1, r1⟩ := trodAll_cons r0
 obtain ⟨rfl, rfl, rfl⟩ := trodAll_nil r1
 obtain rfl : bK = #[v0, v1] := by cases bK; simp_all
 obtain ⟨rfl, rfl⟩ := trodVars_none hV
 obtain ⟨a0, bf0, bg0, rfl⟩ := okWide_slice Try.underlying22 (bS 0 22 v0 rfl rfl)
 have k0 := h0
 have bT0 : ∀ x ∈ p0, x.block < W.heap.size := by obtain ⟨m, hm⟩ := k0; exact DataW.trod_lt m _ _ _ hm
 obtain ⟨z0, w0⟩ : ∃ zs, IsRow .u8 W a0 bf0 bg0 zs := by
  obtain ⟨ci, hf⟩ := h0
  rcases open_ints Try.underlying22 Try.underlying5 (by kernel_rfl) hf with ⟨hcs, _⟩ | ⟨x, l, c, zs, hcs, _, hl, hm, hz, _, hcell, hwz⟩
  ·simp [Value.cells] at hcs
   obtain ⟨rfl, rfl, rfl⟩ := hcs
   exact ⟨[], .inl ⟨rfl, rfl, rfl, rfl⟩⟩
  ·simp [Value.cells] at hcs
   obtain ⟨rfl, rfl, rfl⟩ := hcs
   exact ⟨zs, .inr ⟨_, rfl, hl, hm, by simpa using hz, hcell, hwz⟩⟩
 have y0 : bf0 * 1 ≤ 140737488351232 := Go.Proofs.YtgdafcakefnpdaaW.PrintWords.sized_ints bL (j := 0) (t := 22) rfl rfl Try.underlying22 Try.underlying5 (by kernel_rfl) (by kernel_rfl) h0
 obtain ⟨a1, bf1, bg1, rfl⟩ := okWide_slice Try.underlying22 (bS 1 22 v1 rfl rfl)
 have k1 := h1
 have bT1 : ∀ x ∈ p1, x.block < W.heap.size := by obtain ⟨m, hm⟩ := k1; exact DataW.trod_lt m _ _ _ hm
 obtain ⟨z1, w1⟩ : ∃ zs, IsRow .u8 W a1 bf1 bg1 zs := by
  obtain ⟨ci, hf⟩ := h1
  rcases open_ints Try.underlying22 Try.underlying5 (by kernel_rfl) hf with ⟨hcs, _⟩ | ⟨x, l, c, zs, hcs, _, hl, hm, hz, _, hcell, hwz⟩
  ·simp [Value.cells] at hcs
   obtain ⟨rfl, rfl, rfl⟩ := hcs
   exact ⟨[], .inl ⟨rfl, rfl, rfl, rfl⟩⟩
  ·simp [Value.cells] at hcs
   obtain ⟨rfl, rfl, rfl⟩ := hcs
   exact ⟨zs, .inr ⟨_, rfl, hl, hm, by simpa using hz, hcell, hwz⟩⟩
 have y1 : bf1 * 1 ≤ 140737488351232 := Go.Proofs.YtgdafcakefnpdaaW.PrintWords.sized_ints bL (j := 1) (t := 22) rfl rfl Try.underlying22 Try.underlying5 (by kernel_rfl) (by kernel_rfl) h1
 clear bI0 ca0 bv0 bL
 refine (PFnExecGrow.laws_FnExecGrow.walk Pure.FnExecGrow a0 bf0 bg0 z0 a1 bf1 bg1 z1 W w0 y0 w1 y1).mono fun e W' ⟨he, bel⟩ => ?_
 subst he
 exact ⟨_, rfl, _, _, _, [], _, [], cf, trodAll_mk1 (shut_bool Try.underlying4 _), (trodAll_cons_mk (Below.trod laidOut (by kernel_rfl) (of_decide_eq_true (by kernel_rfl)) k0 bel bT0) (trodAll_cons_mk (Below.trod laidOut (by kernel_rfl) (of_decide_eq_true (by kernel_rfl)) k1 bel bT1) trodAll_mk0)), rfl, bel.frame _, fun h => by cases h⟩
theorem over : Rows.fnExecGrowRow.holds Try.pinned (OpenSpec.ofChange Rows.fnExecGrowSpec) :=
 OpenClaim.holds_of_wide 5 Try.f5 rfl rfl rfl rfl rfl rfl rfl ⟨rfl, rfl, rfl, rfl, rfl⟩ rfl rfl rfl rfl rfl (by kernel_rfl) Try.func5 (by kernel_rfl)
  (of_decide_eq_true (by kernel_rfl)) (by unfold Func.isWrapper; first | (rw [if_pos (by decide +kernel)]; kernel_rfl) | (rw [if_neg (by decide +kernel)]; exact ⟨rfl, rfl⟩))
  (fun os bR H cj _ => lifted os bR H cj)
theorem proved : Rows.FnExecGrowSaid := over
#print axioms proved
end Go.Proofs.Ytgdafcakefnpdaa.fnExecGrow
namespace Go.Proofs.Ytgdafcakefnpdaa
/-- The row, under a short name, for the claim. -/
theorem fnExecGrow_holds : Rows.FnExecGrowSaid := fnExecGrow.proved
end Go.Proofs.Ytgdafcakefnpdaa
