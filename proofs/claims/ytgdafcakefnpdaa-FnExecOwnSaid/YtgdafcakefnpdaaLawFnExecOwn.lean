-- Laid by this session's program out of the translation (gen.sh).
import Derived.Test.YtgdafcakefnpdaaRows
import Derived.Test.YtgdafcakefnpdaaPFnExecOwnx13
import Derived.Test.YtgdafcakefnpdaaPureFnExecOwn
import Derived.WalkKit
import Derived.ProofKit
import Derived.OpenShut
import Derived.ShutString
import Derived.ChangeOld
import Derived.Below
import Derived.SizedLaws
import Derived.Test.YtgdafcakefnpdaaSWFnExecOwn
namespace Go.Proofs.Ytgdafcakefnpdaa.fnExecOwn
open Go.ChangeShapes Go.WideShapes Go.ChangeAt Go.RowKit
open Go.ChangeMaps (open_string shut_string)
set_option linter.unusedVariables false
theorem own : ownKnob Try.prog.godebug = none := by kernel_rfl
theorem laidOut : laidOutB Try.prog = true := by kernel_rfl
def IsRow (k : IntKind) (w : World) (a : Option Addr) (len cap : Nat) (zs : List Int) : Prop :=
 (a = none ∧ len = 0 ∧ cap = 0 ∧ zs = []) ∨
 ∃ x, a = some x ∧ len ≤ cap ∧ cap ≤ maxLen ∧ zs.length = cap ∧ (∀ i, i < zs.length → w.cell? (x.add i) = some (.int k (zs.getD i 0))) ∧ ∀ n ∈ zs, (Lit.int k n).wf = true
set_option maxRecDepth 100000 in
theorem lifted (os : Os) (bO : os.Started) (H : Type) (enc : TypeId × Value → H) :
  ReturnsInHanded {} Try.checked os 3 .any (Rows.fnExecOwnSpec.pre6 enc Try.prog Try.f3 Rows.fnExecOwnRow.domain false) (Rows.fnExecOwnSpec.post enc Try.prog Try.f3 false true false false) := by
 refine returnsInHanded_of_change_sized (C := Try.checked) own bO (by kernel_rfl) Try.func3
  (ChangeSpec.witness6 (enc := enc) (C := Try.checked) false ⟨#[], #[.slice none 0 0, .slice none 0 0], []⟩ 8 (by kernel_rfl) (by kernel_rfl) (by kernel_rfl) (by kernel_rfl)) ?_
 intro W aC bD ds gs cl bV0 hW cm bq0 _
 have bE : (DataW.weightsEach Try.prog (Try.f3.params.toList ++ Rows.fnExecOwnSpec.plain.varTypes Try.prog) (ds ++ gs)).all (· ≤ reachBytes) = true := bq0
 have bP : ∀ (j : Nat) t v, Try.f3.params[j]? = some t → bD[j]? = some v → Value.okWide Try.prog W .any aC t v := bV0
 have cc := hW
 obtain ⟨p, q, bx0, hV, rfl, cn, co⟩ := hW
 have hA : DataW.TrodAll enc Try.prog W 0 (fun _ => true) true Try.f3.params.toList bD.toList ds p := bx0
 rw [Try.params3] at hA bP bE
 obtain ⟨v0, cd0, d0, ce0, p0, q0, cp, rfl, rfl, h0, r0⟩ := trodAll_cons hA
 obtain ⟨v1, cd1, d1, ce1, p1, q1, rfl, rfl, rfl, h1, r1⟩ := trodAll_cons r0
 obtain ⟨rfl, rfl, rfl⟩ := trodAll_nil r1
 obtain rfl : bD = #[v0, v1] := by cases bD; simp_all
 obtain ⟨rfl, rfl⟩ := trodVars_none hV
 obtain ⟨a0, aX0, aY0, rfl⟩ := okWide_slice Try.underlying22 (bP 0 22 v0 rfl rfl)
 have k0 := h0
 have bQ0 : ∀ x ∈ p0, x.block < W.heap.size := by obtain ⟨m, hm⟩ := k0; exact DataW.trod_lt m _ _ _ hm
 obtain ⟨z0, w0⟩ : ∃ zs, IsRow .u8 W a0 aX0 aY0 zs := by
  obtain ⟨cf, hf⟩ := h0
  rcases open_ints Try.underlying22 Try.underlying5 (by kernel_rfl) hf with ⟨hcs, _⟩ | ⟨x, l, c, zs, hcs, _, hl, hm, hz, _, hcell, hwz⟩
  ·simp [Value.cells] at hcs
   obtain ⟨rfl, rfl, rfl⟩ := hcs
   exact ⟨[], .inl ⟨rfl, rfl, rfl, rfl⟩⟩
  ·simp [Value.cells] at hcs
   obtain ⟨rfl, rfl, rfl⟩ := hcs
   exact ⟨zs, .inr ⟨_, rfl, hl, hm, by simpa using hz, hcell, hwz⟩⟩
 have y0 : aX0 * 1 ≤ 140737488351232 := Go.Proofs.YtgdafcakefnpdaaW.PrintWords.sized_ints bE (j := 0) (t := 22) rfl rfl Try.underlying22 Try.underlying5 (by kernel_rfl) (by kernel_rfl) h0
 obtain ⟨a1, aX1, aY1, rfl⟩ := okWide_slice Try.underlying22 (bP 1 22 v1 rfl rfl)
 have k1 := h1
 have bQ1 : ∀ x ∈ p1, x.block < W.heap.size := by obtain ⟨m, hm⟩ := k1; exact DataW.trod_lt m _ _ _ hm
 obtain ⟨z1, w1⟩ : ∃ zs, IsRow .u8 W a1 aX1 aY1 zs := by
  obtain ⟨cf, hf⟩ := h1
  rcases open_ints Try.underlying22 Try.underlying5 (by kernel_rfl) hf with ⟨hcs, _⟩ | ⟨x, l, c, zs, hcs, _, hl, hm, hz, _, hcell, hwz⟩
  ·simp [Value.cells] at hcs
   obtain ⟨rfl, rfl, rfl⟩ := hcs
   exact ⟨[], .inl ⟨rfl, rfl, rfl, rfl⟩⟩
  ·simp [Value.cells] at hcs
   obtain ⟨rfl, rfl, rfl⟩ := hcs
   exact ⟨zs, .inr ⟨_, rfl, hl, hm, by simpa using hz, hcell, hwz⟩⟩
 have y1 : aX1 * 1 ≤ 140737488351232 := Go.Proofs.YtgdafcakefnpdaaW.PrintWords.sized_ints bE (j := 1) (t := 22) rfl rfl Try.underlying22 Try.underlying5 (by kernel_rfl) (by kernel_rfl) h1
 clear bx0 bV0 bq0 bE
 refine (PFnExecOwn.laws_FnExecOwn.walk Pure.FnExecOwn a0 aX0 aY0 z0 a1 aX1 aY1 z1 W w0 y0 w1 y1).mono fun e W' ⟨he, bel⟩ => ?_
 subst he
 exact ⟨_, rfl, _, _, _, [], _, [], cc, trodAll_mk1 (shut_bool Try.underlying4 _), (trodAll_cons_mk (Below.trod laidOut (by kernel_rfl) (of_decide_eq_true (by kernel_rfl)) k0 bel bQ0) (trodAll_cons_mk (Below.trod laidOut (by kernel_rfl) (of_decide_eq_true (by kernel_rfl)) k1 bel bQ1) trodAll_mk0)), rfl, bel.frame _, fun h => by cases h⟩
theorem over : Rows.fnExecOwnRow.holds Try.pinned (OpenSpec.ofChange Rows.fnExecOwnSpec) :=
 OpenClaim.holds_of_wide 3 Try.f3 rfl rfl rfl rfl rfl rfl rfl ⟨rfl, rfl, rfl, rfl, rfl⟩ rfl rfl rfl rfl rfl (by kernel_rfl) Try.func3 (by kernel_rfl)
  (of_decide_eq_true (by kernel_rfl)) (by unfold Func.isWrapper; first | (rw [if_pos (by decide +kernel)]; kernel_rfl) | (rw [if_neg (by decide +kernel)]; exact ⟨rfl, rfl⟩))
  (fun os bO H cg _ => lifted os bO H cg)
theorem proved : Rows.FnExecOwnSaid := over
#print axioms proved
end Go.Proofs.Ytgdafcakefnpdaa.fnExecOwn
namespace Go.Proofs.Ytgdafcakefnpdaa
/-- The row, under a short name, for the claim. -/
theorem fnExecOwn_holds : Rows.FnExecOwnSaid := fnExecOwn.proved
end Go.Proofs.Ytgdafcakefnpdaa
