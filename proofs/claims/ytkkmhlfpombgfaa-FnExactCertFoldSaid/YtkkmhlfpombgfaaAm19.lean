/- The abstract machine, part 19: equality of values. -/
import Derived.Test.YtkkmhlfpombgfaaAm18
set_option linter.unusedVariables false
set_option linter.unusedSectionVars false
set_option linter.unusedSimpArgs false
namespace Am
open Go
variable {τ : TypeId → Type}
def eqFs (T : Tab τ) (f : TypeId → AV τ → AV τ → Option Bool) (xs ys : List (AV τ)) : List (Nat × TypeId) → Option Bool
  | [] => some true
  | (off, ft) :: rest => match partA T ft xs off, partA T ft ys off with
    | some a, some b => match f ft a b with
      | some r => match rest with
        | [] => some r
        | _ :: _ => match eqFs T f xs ys rest with
          | some s => some (r && s)
          | none => none
      | none => none
    | _, _ => none
/-- Equality of two values of a type: of numbers, truths, strings, and structs of such. -/
def eqV (T : Tab τ) : Nat → TypeId → AV τ → AV τ → Option Bool
  | 0, _, _, _ => none
  | d + 1, t, x, y => match T t with
    | some ti => match ti.d with
      | .scal => match x, y with
        | .int k a, .int k' b => if k = k' then (if ti.lts = [.int k] then some (a == b) else none) else none
        | .bool a, .bool b => if ti.lts = [.bool] then some (a == b) else none
        | .str a, .str b => if ti.lts = [.str] then some (a == b) else none
        | _, _ => none
      | .st fs => match x, y with
        | .agg xs, .agg ys => eqFs T (eqV T d) xs ys fs
        | _, _ => none
      | _ => none
    | none => none
def eqDepth : Nat := 6
/-- '==' and '!=' where they are not of numbers. -/
def eqOpA (T : Tab τ) (op : BinOp) (t : TypeId) (x y : AV τ) : Option (AV τ) :=
  match op with
  | .eql => match eqV T eqDepth t x y with | some b => some (.bool b) | none => none
  | .neq => match eqV T eqDepth t x y with | some b => some (.bool !b) | none => none
  | _ => none
def isNum : AV τ → Bool | .int _ _ => true | _ => false
def isStr : AV τ → Bool | .str _ => true | _ => false
section
variable {T : Tab τ} {P : Program} {by_ : TypeId → Nat} {w w' w2 : World} {m m' m2 : Mem τ} {η η' η2 : Eta} {tm : List (AV τ)} {S : Nat → Prop}
theorem eqFs_sound (hP : PT P T) {d : Nat} {f : TypeId → AV τ → AV τ → Option Bool} {xs ys : List (AV τ)} {us vs : List Value} (hx : VRs T S w m η xs us) (hy : VRs T S w m η ys vs)
    (ih : ∀ t x y r u v, f t x y = some r → VR T S w m η x u → VR T S w m η y v → (Op.equalIn d t u v).run P w = .ok r w) :
    ∀ (fields : List Field) (r : Bool), (∀ g ∈ fields, (g.name == "_") = false) → eqFs T f xs ys (fields.map fun g => (g.offset, g.type)) = some r → (Op.eqFields d us.toArray vs.toArray fields).run P w = .ok r w
  | [], r, _, h => by simp [eqFs] at h; subst h; simp [Op.eqFields]
  | g :: gs, r, hn, h => by
    have hn1 : g.name ≠ "_" := by have := hn g (by simp); simpa using this
    simp only [List.map_cons, eqFs] at h
    split at h
    case h_2 => cases h
    rename_i a b ha hb
    split at h
    case h_2 => cases h
    rename_i q hq
    obtain ⟨za, ha1, ha2⟩ := partA_sound hP ha hx
    obtain ⟨zb, hb1, hb2⟩ := partA_sound hP hb hy
    have he := ih g.type a b q za zb hq ha2 hb2
    rw [Op.eqFields]
    simp only [if_pos hn1, Sem.run_bind, ha1, hb1, he, Result.andThen_ok]
    cases gs with
    | nil =>
      simp at h; subst h
      cases q <;> simp [Op.eqFields]
    | cons g2 gs =>
      simp only [List.map_cons] at h
      split at h
      · rename_i s hs
        cases h
        have hr := eqFs_sound hP hx hy ih (g2 :: gs) s (fun x hx => hn x (by simp [hx])) (by simpa using hs)
        cases q
        · simp
        · simpa using hr
      · cases h
theorem eqV_sound (hP : PQ P T by_) : ∀ (n : Nat) (t : TypeId) (x y : AV τ) (r : Bool) (u v : Value), eqV T n t x y = some r → VR T S w m η x u → VR T S w m η y v → ∀ d, n ≤ d → (Op.equalIn d t u v).run P w = .ok r w
  | 0, t, x, y, r, u, v, h, hx, hy, d, hd => by simp [eqV] at h
  | n + 1, t, x, y, r, u, v, h, hx, hy, d, hd => by
    obtain ⟨d', rfl⟩ : ∃ d', d = d' + 1 := ⟨d - 1, by omega⟩
    simp only [eqV] at h
    split at h
    case h_2 => cases h
    rename_i ti hT
    split at h
    · rename_i hs
      split at h
      · split at h
        case isFalse => cases h
        rename_i hk
        subst hk
        split at h
        case isFalse => cases h
        rename_i hl
        cases h
        rw [hx.int_inv, hy.int_inv]
        simp [Op.equalIn, run_underlying (hP.sI t ti _ hT hs hl)]
      · split at h
        case isFalse => cases h
        rename_i hl
        cases h
        rw [hx.bool_inv, hy.bool_inv]
        simp [Op.equalIn, run_underlying (hP.sB t ti hT hs hl)]
      · split at h
        case isFalse => cases h
        rename_i hl
        cases h
        rw [hx.str_inv, hy.str_inv]
        simp [Op.equalIn, run_underlying (hP.sS t ti hT hs hl)]
      · cases h
    · rename_i fs hfs
      split at h
      case h_2 => cases h
      rename_i xs ys
      obtain ⟨us, rfl, hus⟩ := hx.agg_inv
      obtain ⟨vs, rfl, hvs⟩ := hy.agg_inv
      obtain ⟨fields, hu, hmap⟩ := hP.st t ti fs hT hfs
      obtain ⟨hg, hst, hblank⟩ := hP.eqs t ti fs hT hfs
      have hf : P.fieldsOf t = fields := by simp [Program.fieldsOf, hu]
      rw [run_equalIn_struct (P := P) w d' t _ _ (by rw [hf]; exact hu) hst, hf]
      rw [← hmap] at h
      exact eqFs_sound hP.toPT hus hvs (fun t x y r u v h1 h2 h3 => eqV_sound hP n t x y r u v h1 h2 h3 d' (by omega)) fields.toList r (hblank fields hu) h
    · cases h
theorem eqGuard_ok (hP : PQ P T by_) {op : BinOp} {t : TypeId} {x y : AV τ} {r : Bool} {u v : Value} {n : Nat} (h : eqV T n t x y = some r) (hx : VR T S w m η x u) (hy : VR T S w m η y v) (ox oy : Operand) :
    (eqGuard op t ox oy u v).run P w = .ok () w := by
  have key : (∃ k a k' b, u = .int k a ∧ v = .int k' b) ∨ (∃ a b, u = .bool a ∧ v = .bool b) ∨ (∃ a b, u = .string a ∧ v = .string b) ∨ (∃ a b, u = .agg a ∧ v = .agg b ∧ P.eqGuardType P.depth t = false) := by
    cases n with
    | zero => simp [eqV] at h
    | succ n =>
      simp only [eqV] at h
      split at h
      case h_2 => cases h
      rename_i ti hT
      split at h
      · split at h
        · exact .inl ⟨_, _, _, _, hx.int_inv, hy.int_inv⟩
        · exact .inr (.inl ⟨_, _, hx.bool_inv, hy.bool_inv⟩)
        · exact .inr (.inr (.inl ⟨_, _, hx.str_inv, hy.str_inv⟩))
        · cases h
      · rename_i fs hfs
        split at h
        case h_2 => cases h
        obtain ⟨us, rfl, _⟩ := hx.agg_inv
        obtain ⟨vs, rfl, _⟩ := hy.agg_inv
        exact .inr (.inr (.inr ⟨_, _, rfl, rfl, (hP.eqs t ti fs hT hfs).1⟩))
      · cases h
  unfold eqGuard
  rcases key with ⟨k, a, k', b, rfl, rfl⟩ | ⟨a, b, rfl, rfl⟩ | ⟨a, b, rfl, rfl⟩ | ⟨a, b, rfl, rfl, hg⟩
  · cases op <;> simp
  · cases op <;> simp
  · cases op <;> simp
  · cases op <;> simp [hg]
theorem eqOpA_sound (hP : PQ P T by_) {op : BinOp} {t : TypeId} {x y r : AV τ} {u v : Value} (h : eqOpA T op t x y = some r) (hx : VR T S w m η x u) (hy : VR T S w m η y v) (hno : isNum x = false) (hns : isStr x = false) (ox oy : Operand) :
    ∃ z, (do eqGuard op t ox oy u v; binOp op t u v : Sem Value).run P w = .ok z w ∧ VR T S w m η r z := by
  have shape : ∀ b n, eqV T n t x y = some b → ((∃ a b, u = .bool a ∧ v = .bool b) ∨ (∃ a b, u = .agg a ∧ v = .agg b)) := by
    intro b n hb
    cases n with
    | zero => simp [eqV] at hb
    | succ n =>
      simp only [eqV] at hb
      split at hb
      case h_2 => cases hb
      split at hb
      · split at hb
        · simp [isNum] at hno
        · exact .inl ⟨_, _, hx.bool_inv, hy.bool_inv⟩
        · simp [isStr] at hns
        · cases hb
      · split at hb
        case h_2 => cases hb
        obtain ⟨us, rfl, _⟩ := hx.agg_inv
        obtain ⟨vs, rfl, _⟩ := hy.agg_inv
        exact .inr ⟨_, _, rfl, rfl⟩
      · cases hb
  unfold eqOpA at h
  split at h
  · split at h
    · rename_i b hb
      cases h
      have hg := eqGuard_ok (op := .eql) hP hb hx hy ox oy
      have he := eqV_sound hP _ t x y b u v hb hx hy Op.maxDepth (by simp [eqDepth, Op.maxDepth])
      refine ⟨.bool b, ?_, .bool _⟩
      simp only [Sem.run_bind, hg, Result.andThen_ok]
      rcases shape b _ hb with ⟨a, c, rfl, rfl⟩ | ⟨a, c, rfl, rfl⟩ <;> simp [binOp, Op.equal, he]
    · cases h
  · split at h
    · rename_i b hb
      cases h
      have hg := eqGuard_ok (op := .neq) hP hb hx hy ox oy
      have he := eqV_sound hP _ t x y b u v hb hx hy Op.maxDepth (by simp [eqDepth, Op.maxDepth])
      refine ⟨.bool !b, ?_, .bool _⟩
      simp only [Sem.run_bind, hg, Result.andThen_ok]
      rcases shape b _ hb with ⟨a, c, rfl, rfl⟩ | ⟨a, c, rfl, rfl⟩ <;> simp [binOp, Op.equal, he]
    · cases h
  · cases h
end
end Am
