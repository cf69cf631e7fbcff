-- Laid by this session's program out of the translation (lawt.py).
import Derived.Test.YtkkmhlfpombgfaaRows
import Derived.Test.YtkkmhlfpombgfaaPFnSerialx3
import Derived.Test.YtkkmhlfpombgfaaPureFnSerial
import Derived.WalkKit
import Derived.ProofKit
import Derived.OpenShut
import Derived.ShutString
import Derived.ChangeOld
import Derived.Below
import Derived.SizedLaws
import Derived.Test.YtkkmhlfpombgfaaSWFnSerial
namespace Go.Proofs.Ytkkmhlfpombgfaa.fnSerial
open Go.ChangeShapes Go.WideShapes Go.ChangeAt Go.RowKit
open Go.ChangeMaps (open_string shut_string)
set_option linter.unusedVariables false
theorem own : ownKnob Try.prog.godebug = none := by kernel_rfl
theorem laidOut : laidOutB Try.prog = true := by kernel_rfl
def IsRow (k : IntKind) (w : World) (a : Option Addr) (len cap : Nat) (zs : List Int) : Prop :=
 (a = none ∧ len = 0 ∧ cap = 0 ∧ zs = []) ∨
 ∃ x, a = some x ∧ len ≤ cap ∧ cap ≤ maxLen ∧ zs.length = cap ∧ (∀ i, i < zs.length → w.cell? (x.add i) = some (.int k (zs.getD i 0))) ∧ ∀ n ∈ zs, (Lit.int k n).wf = true
set_option maxRecDepth 100000 in
theorem lifted (os : Os) (bS : os.Started) (H : Type) (enc : TypeId × Value → H) :
  ReturnsInHanded {} Try.checked os 5 .any (Rows.fnSerialSpec.pre6 enc Try.prog Try.f5 Rows.fnSerialRow.domain false) (Rows.fnSerialSpec.post enc Try.prog Try.f5 false true false false) := by
 refine returnsInHanded_of_change_sized (C := Try.checked) own bS (by kernel_rfl) Try.func5
  (ChangeSpec.witness6 (enc := enc) (C := Try.checked) false ⟨#[], #[.slice none 0 0, .slice none 0 0], []⟩ 8 (by kernel_rfl) (by kernel_rfl) (by kernel_rfl)
  (by kernel_rfl)) ?_
 intro W aK bM ds gs co cb0 hW cp bx0 _
 have bN : (DataW.weightsEach Try.prog (Try.f5.params.toList ++ Rows.fnSerialSpec.plain.varTypes Try.prog) (ds ++ gs)).all (· ≤ reachBytes) = true := bx0
 have bT : ∀ (j : Nat) t v, Try.f5.params[j]? = some t → bM[j]? = some v → Value.okWide Try.prog W .any aK t v := cb0
 have cf := hW
 obtain ⟨p, q, bK0, hV, rfl, cq, cr⟩ := hW
 have hA : DataW.TrodAll enc Try.prog W 0 (fun _ => true) true Try.f5.params.toList bM.toList ds p := bK0
 rw [Try.params5] at hA bT bN
 obtain ⟨v0, cg0, d0, ch0, p0, q0, cs, rfl, rfl, h0, r0⟩ := trodAll_cons hA
 obtain ⟨v1, cg1, d1, ch1, p1, q1, rfl, rfl, rfl, h1, r1⟩ := trodAll_cons r0
 obtain ⟨rfl, rfl, rfl⟩ := trodAll_nil r1
 obtain rfl : bM = #[v0, v1] := by cases bM; simp_all
 obtain ⟨rfl, rfl⟩ := trodVars_none hV
 obtain ⟨a0, bd0, be0, rfl⟩ := okWide_slice Try.underlying22 (bT 0 22 v0 rfl rfl)
 have k0 := h0
 have bU0 : ∀ x ∈ p0, x.block < W.heap.size := by obtain ⟨m, hm⟩ := k0; exact DataW.trod_lt m _ _ _ hm
 obtain ⟨z0, w0⟩ : ∃ zs, IsRow .u8 W a0 bd0 be0 zs := by
  obtain ⟨ci, hf⟩ := h0
  rcases open_ints Try.underlying22 Try.underlying5 (by kernel_rfl) hf with ⟨hcs, _⟩ | ⟨x, l, c, zs, hcs, _, hl, hm, hz, _, hcell, hwz⟩
  ·simp [Value.cells] at hcs
   obtain ⟨rfl, rfl, rfl⟩ := hcs
   exact ⟨[], .inl ⟨rfl, rfl, rfl, rfl⟩⟩
  ·simp [Value.cells] at hcs
   obtain ⟨rfl, rfl, rfl⟩ := hcs
   exact ⟨zs, .inr ⟨_, rfl, hl, hm, by simpa using hz, hcell, hwz⟩⟩
 have y0 : bd0 * 1 ≤ 140737488351232 := Go.Proofs.YtkkmhlfpombgfaaW.PrintWords.sized_ints bN (j := 0) (t := 22) rfl rfl Try.underlying22 Try.underlying5 (by kernel_rfl) (by kernel_rfl) h0
 obtain ⟨a1, bd1, be1, rfl⟩ := okWide_slice Try.underlying22 (bT 1 22 v1 rfl rfl)
 have k1 := h1
 have bU1 : ∀ x ∈ p1, x.block < W.heap.size := by obtain ⟨m, hm⟩ := k1; exact DataW.trod_lt m _ _ _ hm
 obtain ⟨z1, w1⟩ : ∃ zs, IsRow .u8 W a1 bd1 be1 zs := by
  obtain ⟨ci, hf⟩ := h1
  rcases open_ints Try.underlying22 Try.underlying5 (by kernel_rfl) hf with ⟨hcs, _⟩ | ⟨x, l, c, zs, hcs, _, hl, hm, hz, _, hcell, hwz⟩
  ·simp [Value.cells] at hcs
   obtain ⟨rfl, rfl, rfl⟩ := hcs
   exact ⟨[], .inl ⟨rfl, rfl, rfl, rfl⟩⟩
  ·simp [Value.cells] at hcs
   obtain ⟨rfl, rfl, rfl⟩ := hcs
   exact ⟨zs, .inr ⟨_, rfl, hl, hm, by simpa using hz, hcell, hwz⟩⟩
 have y1 : bd1 * 1 ≤ 140737488351232 := Go.Proofs.YtkkmhlfpombgfaaW.PrintWords.sized_ints bN (j := 1) (t := 22) rfl rfl Try.underlying22 Try.underlying5 (by kernel_rfl) (by kernel_rfl) h1
 clear bK0 cb0 bx0 bN
 refine (PFnSerial.laws_FnSerial.walk Pure.FnSerial a0 bd0 be0 z0 a1 bd1 be1 z1 W w0 y0 w1 y1).mono fun e W' ⟨he, bel⟩ => ?_
 subst he
 exact ⟨_, rfl, _, _, _, [], _, [], cf, trodAll_mk1 (shut_bool Try.underlying4 _), (trodAll_cons_mk (Below.trod laidOut (by kernel_rfl) (of_decide_eq_true (by kernel_rfl)) k0 bel bU0) (trodAll_cons_mk (Below.trod laidOut (by kernel_rfl) (of_decide_eq_true (by kernel_rfl)) k1 bel bU1) trodAll_mk0)), rfl, bel.frame _, fun h => by cases h⟩
theorem over1 : Try.pinned.checked.prog.funcNamed Rows.fnSerialRow.func = some 5 := by kernel_rfl
theorem and_intro {a b : Bool} (h1 : a = true) (h2 : b = true) : (a && b) = true := by rw [h1, h2]; rfl
set_option maxRecDepth 100000 in
set_option maxHeartbeats 40000000 in
theorem over2 : joinedFacts Try.pinned.checked.prog 5 Try.f5 Rows.fnSerialSpec Rows.fnSerialRow = true := by
  unfold joinedFacts
  repeat' with_reducible refine and_intro ?_ ?_
  all_goals decide +kernel
theorem over3 : Try.f5.isInstance Try.pinned.checked.prog Rows.fnSerialRow.origin Rows.fnSerialRow.targs := of_decide_eq_true (by kernel_rfl)
theorem over4 : Try.f5.isWrapper Try.pinned.checked.prog Rows.fnSerialRow.wrapper Rows.fnSerialRow.mainSum := by unfold Func.isWrapper; first | (rw [if_pos (by decide +kernel)]; kernel_rfl) | (rw [if_neg (by decide +kernel)]; exact ⟨rfl, rfl⟩)
theorem over : Rows.fnSerialRow.holds Try.pinned (OpenSpec.ofChange Rows.fnSerialSpec) :=
  OpenClaim.holds_of_wide 5 Try.f5 rfl rfl rfl rfl rfl rfl rfl ⟨rfl, rfl, rfl, rfl, rfl⟩ rfl rfl rfl rfl rfl over1 Try.func5 over2 over3 over4
    (fun os bS H cj _ => lifted os bS H cj)
theorem proved : Rows.FnSerialSaid := over
#print axioms proved
end Go.Proofs.Ytkkmhlfpombgfaa.fnSerial
namespace Go.Proofs.Ytkkmhlfpombgfaa
/-- The row, under a short name, for the claim. -/
theorem fnSerial_holds : Rows.FnSerialSaid := fnSerial.proved
end Go.Proofs.Ytkkmhlfpombgfaa