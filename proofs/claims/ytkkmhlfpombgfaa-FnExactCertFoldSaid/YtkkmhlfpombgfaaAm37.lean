/- The abstract machine, part 37: arguments in the shape that a contract asks for. -/
import Derived.Test.YtkkmhlfpombgfaaAm36
set_option linter.unusedVariables false
set_option linter.unusedSectionVars false
set_option linter.unusedSimpArgs false
namespace Am
open Go
variable {τ : TypeId → Type}
def bO {α : Type} (x : Option α) (f : α → Option Unit) : Option Unit := match x with
  | some a => f a
  | none => none
def asI (k : IntKind) : AV τ → Option Int
  | .int k' n => if k' = k then some n else none
  | _ => none
def asB : AV τ → Option Bool
  | .bool b => some b
  | _ => none
def asS : AV τ → Option ByteArray
  | .str s => some s
  | _ => none
def asSl (e : TypeId) : AV τ → Option (List (τ e))
  | .sl e' rows => if h : e' = e then some (h ▸ rows) else none
  | _ => none
def asOwn (r : Nat) : AV τ → Option Unit
  | .own r' g => if r' = r ∧ g = 0 then some () else none
  | _ => none
def asRow (e : TypeId) : Option (Rw τ) → Option (List (τ e))
  | some x => if h : x.e = e ∧ x.g = 0 then some (h.1 ▸ x.xs) else none
  | none => none
def asT (t : TypeId) (t2 : TypeId) : Option Unit := if t2 = t then some () else none
def asPtr (b : Nat) : AV τ → Option Unit
  | .ptr b' o => if b' = b ∧ o = 0 then some () else none
  | _ => none
def asBox (t : TypeId) : Option (TypeId × List (AV τ)) → Option (List (AV τ))
  | some (t', vs) => if t' = t then some vs else none
  | none => none
/-- Temporaries of which only these are known. -/
def tmL : Nat → Nat → List (Nat × AV τ) → List (AV τ)
  | 0, _, _ => []
  | n + 1, i, [] => .bad :: tmL n (i + 1) []
  | n + 1, i, (j, v) :: l => cond (Nat.beq j i) (v :: tmL n (i + 1) l) (.bad :: tmL n (i + 1) ((j, v) :: l))
/-- A part of code, by its path. -/
def codeP : Code → List Nat → Code
  | c, [] => c
  | .seq a _, 0 :: l => codeP a l
  | .seq _ b, _ :: l => codeP b l
  | .cond _ a _, 0 :: l => codeP a l
  | .cond _ _ b, _ :: l => codeP b l
  | .block _ b, _ :: l => codeP b l
  | .loop b, _ :: l => codeP b l
  | c, _ :: _ => c
theorem bO_some {α : Type} {x : Option α} {f : α → Option Unit} (h : bO x f = some ()) : ∃ a, x = some a ∧ f a = some () := by
  unfold bO at h
  split at h
  · exact ⟨_, rfl, h⟩
  · cases h
theorem bO_mono {α : Type} {x : Option α} {f g : α → Option Unit} (hf : ∀ a, f a = some () → g a = some ()) (h : bO x f = some ()) : bO x g = some () := by
  unfold bO at h ⊢
  split at h
  · exact hf _ h
  · cases h
theorem asI_some {k : IntKind} {a : AV τ} {n : Int} (h : asI k a = some n) : a = .int k n := by
  unfold asI at h
  split at h
  · split at h
    · cases h; rename_i hk; rw [hk]
    · cases h
  · cases h
theorem asB_some {a : AV τ} {n : Bool} (h : asB a = some n) : a = .bool n := by
  unfold asB at h
  split at h <;> cases h; rfl
theorem asS_some {a : AV τ} {n : ByteArray} (h : asS a = some n) : a = .str n := by
  unfold asS at h
  split at h <;> cases h; rfl
theorem asSl_some {e : TypeId} {a : AV τ} {l : List (τ e)} (h : asSl e a = some l) : a = .sl e l := by
  unfold asSl at h
  split at h
  · split at h
    · rename_i e' rows he; subst he; cases h; rfl
    · cases h
  · cases h
theorem asOwn_some {r : Nat} {a : AV τ} {u : Unit} (h : asOwn r a = some u) : a = .own r 0 := by
  unfold asOwn at h
  split at h
  · split at h
    · rename_i hc; rw [hc.1, hc.2]
    · cases h
  · cases h
theorem asRow_some {e : TypeId} {x : Option (Rw τ)} {l : List (τ e)} (h : asRow e x = some l) : x = some ⟨e, l, 0⟩ := by
  unfold asRow at h
  split at h
  · split at h
    · rename_i x hc
      cases x with
      | mk e' xs g =>
        have h1 := hc.1
        have h2 : g = 0 := hc.2
        simp only at h1
        subst h1
        subst h2
        injection h with h
        subst h; rfl
    · cases h
  · cases h
theorem asPtr_some {b : Nat} {a : AV τ} {u : Unit} (h : asPtr b a = some u) : a = .ptr b 0 := by
  unfold asPtr at h
  split at h
  · split at h
    · rename_i hc; rw [hc.1, hc.2]
    · cases h
  · cases h
theorem asT_some {t t2 : TypeId} {u : Unit} (h : asT t t2 = some u) : t2 = t := by
  unfold asT at h
  split at h
  · assumption
  · cases h
theorem asBox_some {t : TypeId} {x : Option (TypeId × List (AV τ))} {vs : List (AV τ)} (h : asBox t x = some vs) : x = some (t, vs) := by
  unfold asBox at h
  split at h
  · split at h
    · rename_i hc; cases h; rw [hc]
    · cases h
  · cases h
theorem callX_mono {ρ : Type} {p : Nat → Option ρ} {q q' : ρ → Option Unit} (hq : ∀ t, q t = some () → q' t = some ()) (h : callX p q = some ()) : callX p q' = some () := by
  obtain ⟨n, t, h1, h2⟩ := callX_some h
  exact callX_of h1 (hq t h2)
end Am
