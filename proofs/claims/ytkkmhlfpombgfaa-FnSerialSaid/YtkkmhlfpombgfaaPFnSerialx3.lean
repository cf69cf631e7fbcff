/- The machine's texts of FnSerial (the law's walk). Conditions: none. -/
import Derived.Test.YtkkmhlfpombgfaaPFnSerialx2
import Derived.Test.YtkkmhlfpombgfaaAm39
set_option linter.unusedVariables false
namespace Go.Proofs.Ytkkmhlfpombgfaa.PFnSerial
open Go.RowKit Go.Proofs.YtkkmhlfpombgfaaW.PrintWords Go.Proofs.YtkkmhlfpombgfaaW.PrintLast Go.Proofs.YtkkmhlfpombgfaaW.PrintMore
open Go Go.Proofs Am
theorem code_vr {w : World} {a : Option Addr} {c : Nat} {l : List Int} (h : ReadsInt w .u8 a l.length l) (hc : l.length ≤ c) : VR TT (Am.Safe eta0 (⟨[], []⟩ : Mem tau)) w ⟨[], []⟩ eta0 (.sl 5 l) (.slice a l.length c) :=
 VR.sl (τ := tau) (T := TT) 5 (l : List Int) _ (LR.sl (τ := tau) (T := TT) (w := w) 5 ⟨[.int .u8], .scal⟩ rfl (l : List Int) a c hc (fun j o => .int .u8 (l.getD j 0)) (fun hn => by
   obtain ⟨ad, e, hx⟩ := h.2.2 (List.length_pos_iff.2 hn)
   refine ⟨ad, e, safe0 _, ?_, fun j o hj ho => ?_⟩
   · have := cell_lt (hx 0 (List.length_pos_iff.2 hn)); rwa [Am.add_block] at this
   · have ho' : o = 0 := by
      have : (⟨[.int .u8], .scal⟩ : TI).sz = 1 := rfl
      omega
     subst ho'
     show w.cell? (ad.add (j * 1 + 0)) = _
     rw [Nat.mul_one, Nat.add_zero]; exact hx j hj)
  (fun j row hr => by
   obtain ⟨x, _, e⟩ := map_of_at (α := Int) (f := fun x => ([.i x] : List (Lf tau))) hr
   subst e; rfl)
  (fun j row o lf lt hr ho hl => by
   obtain ⟨x, hx, e⟩ := map_of_at (α := Int) (f := fun x => ([.i x] : List (Lf tau))) hr
   subst e
   replace ho : ([.i x] : List (Lf tau))[o]? = some lf := ho
   replace hl : ([.int .u8] : List LT)[o]? = some lt := hl
   have hx' : l.getD j 0 = x := by rw [List.getD_eq_getElem?_getD]; exact congrArg (Option.getD · 0) hx
   cases o with
   | zero => simp at ho hl; subst ho; subst hl; rw [hx']; exact .int _ _
   | succ o => simp at hl))
def laws_FnSerial.Pure : Prop := ∀ (l0 : List Int) (l1 : List Int), l0.length ≤ 9223372036854775807 → l0.length * 1 ≤ 140737488351232 → (∀ x ∈ l0, (Lit.int .u8 x).wf = true) → l1.length ≤ 9223372036854775807 → l1.length * 1 ≤ 140737488351232 → (∀ x ∈ l1, (Lit.int .u8 x).wf = true) → ∃ k, laws_FnSerial.f k l0 l1 = some true
theorem laws_FnSerial.walk (P : laws_FnSerial.Pure) (a0 : Option Addr) (bd0 be0 : Nat) (z0 : List Int) (a1 : Option Addr) (bd1 be1 : Nat) (z1 : List Int) (w : World) (w0 : (a0 = none ∧ bd0 = 0 ∧ be0 = 0 ∧ z0 = []) ∨ ∃ x, a0 = some x ∧ bd0 ≤ be0 ∧ be0 ≤ maxLen ∧ z0.length = be0 ∧ (∀ i, i < z0.length → w.cell? (x.add i) = some (.int .u8 (z0.getD i 0))) ∧ ∀ n ∈ z0, (Lit.int .u8 n).wf = true) (y0 : bd0 * 1 ≤ 140737488351232) (w1 : (a1 = none ∧ bd1 = 0 ∧ be1 = 0 ∧ z1 = []) ∨ ∃ x, a1 = some x ∧ bd1 ≤ be1 ∧ be1 ≤ maxLen ∧ z1.length = be1 ∧ (∀ i, i < z1.length → w.cell? (x.add i) = some (.int .u8 (z1.getD i 0))) ∧ ∀ n ∈ z1, (Lit.int .u8 n).wf = true) (y1 : bd1 * 1 ≤ 140737488351232) :
 Calls Try.prog 5 #[.slice a0 bd0 be0, .slice a1 bd1 be1] w fun e w' => e = .returned (.bool true) ∧ Below w.heap.size w w' := by
 obtain ⟨l0, rfl, Y0, bO0, bP0, ac0⟩ := ReadsInt.ofRowC w0
 obtain ⟨l1, rfl, Y1, bO1, bP1, ac1⟩ := ReadsInt.ofRowC w1
 obtain ⟨k, h⟩ := P l0 l1 bO0 y0 bP0 bO1 y1 bP1
 have hh : c_5 [.sl 5 l0, .sl 5 l1] ⟨[], []⟩ isTrue = some () := callX_of (p := fun n => laws_FnSerial.f n l0 l1) (n := k) h (isTrue_true _)
 obtain ⟨av, m1, hk, told⟩ := okc_5 _ _ _ hh
 exact law_calls told (isTrue_some hk) (vrs_cons (code_vr Y0 ac0) (vrs_cons (code_vr Y1 ac1) (vrs_nil)))
end Go.Proofs.Ytkkmhlfpombgfaa.PFnSerial