/- The abstract machine, part 39: a law's function, told at the world's own beginning. -/
import Derived.Test.YtkkmhlfpombgfaaAm38
import Derived.Below
set_option linter.unusedVariables false
set_option linter.unusedSectionVars false
namespace Am
open Go Go.RowKit
variable {τ : TypeId → Type}
section
open Classical in
/-- What is asked of a law: that it is true. -/
noncomputable def isTrue (av : AV τ) (m1 : Mem τ) : Option Unit := if av = .bool true then some () else none
theorem isTrue_true (m1 : Mem τ) : isTrue (.bool true) m1 = some () := if_pos rfl
theorem isTrue_some {av : AV τ} {m1 : Mem τ} (h : isTrue av m1 = some ()) : av = .bool true := by
  unfold isTrue at h
  split at h
  · assumption
  · cases h
end
/-- Nothing stands anywhere yet. -/
def eta0 : Eta := ⟨fun _ => 0, fun _ => .nilIface, fun _ => False⟩
theorem mr0 (T : Tab τ) (w : World) (hg : T.gl w (Safe eta0 (⟨[], []⟩ : Mem τ))) : MR T w eta0 (⟨[], []⟩ : Mem τ) :=
  ⟨fun b t vs h => by simp at h, fun r x h => by simp at h, fun b b' x x' h => by simp at h, fun b r x y h => by simp at h, fun r r' x x' k h => by simp at h, fun b x h => by simp at h, fun r x k h => by simp at h, fun k h => h.elim, hg⟩
theorem safe0 (k : Nat) : Safe eta0 (⟨[], []⟩ : Mem τ) k := fun h => by
  rcases h with (⟨b, x, h, _⟩ | ⟨r, x, h, _⟩) | h
  · simp at h
  · simp at h
  · exact h
theorem law_calls {P : Program} {T : Tab τ} {n : Nat} {f : FuncId} {args : List (AV τ)} {vs : Array Value} {w : World} {av : AV τ} {m1 : Mem τ} (hg : T.gl w (Safe eta0 (⟨[], []⟩ : Mem τ))) (h : ToldA P T n f args ⟨[], []⟩ av m1) (ht : av = .bool true) (hv : VRs T (Safe eta0 (⟨[], []⟩ : Mem τ)) w ⟨[], []⟩ eta0 args vs.toList) :
    Calls P f vs w (fun e w' => e = .returned (.bool true) ∧ Below w.heap.size w w') := by
  subst ht
  refine (h.2 w eta0 vs (mr0 T w hg) hv).mono fun e w' hx => ?_
  obtain ⟨v, η1, rfl, hc, hr⟩ := hx
  exact ⟨by rw [hr.bool_inv], ⟨hc.agree.os, hc.agree.tape, hc.agree.output, hc.agree.size, fun k hk => hc.agree.block k (safe0 k) hk⟩⟩
theorem cell_lt {w : World} {a : Addr} {v : Value} (h : w.cell? a = some v) : a.block < w.heap.size := by
  unfold World.cell? at h
  split at h
  · rename_i hb; exact (Array.getElem?_eq_some_iff.1 hb).1
  · cases h
theorem vrs_nil {T : Tab τ} {S : Nat → Prop} {w : World} {m : Mem τ} {η : Eta} : VRs T S w m η [] [] := ⟨rfl, fun i a c h => by simp at h⟩
theorem vrs_cons {T : Tab τ} {S : Nat → Prop} {w : World} {m : Mem τ} {η : Eta} {a : AV τ} {as : List (AV τ)} {c : Value} {cs : List Value} (h : VR T S w m η a c) (hs : VRs T S w m η as cs) : VRs T S w m η (a :: as) (c :: cs) :=
  ⟨by simp [hs.1], fun i x y hx hy => by
    cases i with
    | zero => simp at hx hy; subst hx; subst hy; exact h
    | succ i => simp at hx hy; exact hs.2 i x y hx hy⟩
theorem map_of_at {α β : Type} {f : α → β} {l : List α} {j : Nat} {y : β} (h : (l.map f)[j]? = some y) : ∃ x, l[j]? = some x ∧ f x = y := by
  rw [List.getElem?_map, Option.map_eq_some_iff] at h; exact h
end Am
