/- The abstract machine, part 40: rows that came in, told by what each element's cells hold. -/
import Derived.Test.YtkkmhlfpombgfaaAm39
set_option linter.unusedVariables false
set_option linter.unusedSectionVars false
namespace Am
open Go Go.RowKit
variable {τ : TypeId → Type}
def vfOf (w : World) (A : Option Addr) (sz j o : Nat) : Value := match A with | some ad => (w.cell? (ad.add (j * sz + o))).getD .nilIface | none => .nilIface
theorem vfOf_eq {w : World} {A : Option Addr} {sz j o : Nat} {ad : Addr} {u : Value} (h : A = some ad) (hu : w.cell? (ad.add (j * sz + o)) = some u) : vfOf w A sz j o = u := by
  subst h; unfold vfOf; simp only; rw [hu]; rfl
theorem lr_of {T : Tab τ} {S : Nat → Prop} {w : World} {e : TypeId} {te : TI} (hT : T e = some te) (hS : ∀ k, S k) {rows : List (τ e)} {A : Option Addr} {c : Nat} (hc : rows.length ≤ c) (hsz : 0 < te.sz)
    (h : ∀ j (hj : j < rows.length), ∃ (ad : Addr) (cs : List Value), A = some ad ∧ cs.length = te.sz ∧ (∀ (o : Nat) (u : Value), cs[o]? = some u → w.cell? (ad.add (j * te.sz + o)) = some u) ∧ (T.row e rows[j]).length = te.sz ∧
      ∀ (o : Nat) (lf : Lf τ) (lt : LT) (v : Value), (T.row e rows[j])[o]? = some lf → te.lts[o]? = some lt → cs[o]? = some v → LR T S w lt lf v) : LR T S w (.sl e) (.l e rows) (.slice A rows.length c) := by
  refine .sl e te hT rows A c hc (fun j o => vfOf w A te.sz j o) (fun hn => ?_) (fun j row hr => ?_) (fun j row o lf lt hr ho hl => ?_)
  · obtain ⟨ad, cs, e1, hl, hcs, _, _⟩ := h 0 (List.length_pos_iff.2 hn)
    refine ⟨ad, e1, hS _, ?_, fun j o hj ho => ?_⟩
    · obtain ⟨u, hu⟩ := Option.isSome_iff_exists.1 (show (cs[0]?).isSome from by simp; omega)
      have := cell_lt (hcs 0 u hu)
      rwa [Am.add_block] at this
    · obtain ⟨ad2, cs2, e2, hl2, hcs2, _, _⟩ := h j hj
      obtain ⟨u, hu⟩ := Option.isSome_iff_exists.1 (show (cs2[o]?).isSome from by simp; omega)
      rw [e1] at e2; cases e2
      rw [vfOf_eq e1 (hcs2 o u hu)]; exact hcs2 o u hu
  · obtain ⟨x, hx, e⟩ := map_of_at hr
    subst e
    obtain ⟨hj, rfl⟩ := List.getElem?_eq_some_iff.1 hx
    obtain ⟨_, _, _, _, _, hl, _⟩ := h j hj
    exact hl
  · obtain ⟨x, hx, e⟩ := map_of_at hr
    subst e
    obtain ⟨hj, rfl⟩ := List.getElem?_eq_some_iff.1 hx
    obtain ⟨ad, cs, e1, hl1, hcs, _, hh⟩ := h j hj
    have hlt : o < te.lts.length := (List.getElem?_eq_some_iff.1 hl).1
    obtain ⟨u, hu⟩ := Option.isSome_iff_exists.1 (show (cs[o]?).isSome from by simp; unfold TI.sz at hl1; omega)
    rw [vfOf_eq e1 (hcs o u hu)]
    exact hh o lf lt u ho hl hu
theorem vr_agg {T : Tab τ} {S : Nat → Prop} {w : World} {m : Mem τ} {η : Eta} {vs : List (AV τ)} {cs : List Value} (h : VRs T S w m η vs cs) : VR T S w m η (.agg vs) (.agg cs.toArray) := VR.agg vs cs h.1 h.2
end Am
