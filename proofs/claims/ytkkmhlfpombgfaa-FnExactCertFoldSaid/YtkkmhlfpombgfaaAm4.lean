/- The abstract machine, part 4: operands; what the program says of types; operations that leave memory as it is. -/
import Derived.Test.YtkkmhlfpombgfaaAm3
set_option linter.unusedVariables false
set_option linter.unusedSectionVars false
set_option linter.unusedSimpArgs false
namespace Am
open Go
variable {τ : TypeId → Type}
def cA : Value → AV τ
  | .int k n => .int k n
  | .bool b => .bool b
  | .string s => .str s
  | .slice none 0 0 => .nil
  | _ => .bad
def eA (tm : List (AV τ)) : Operand → AV τ
  | .tmp t => tm.getD t .bad
  | .const v => cA v
  | .global _ => .bad
  | .func f => .fn f
/-- The temporaries are what the machine's are. -/
structure TR (T : Tab τ) (w : World) (m : Mem τ) (η : Eta) (tm : List (AV τ)) (ts : Array Value) : Prop where
  len : tm.length ≤ ts.size
  at_ : ∀ i : Nat, VR T (Safe η m) w m η (tm.getD i .bad) (ts.getD i undef)
/-- Data is of a kind. -/
def wt : LT → Lf τ → Bool
  | .int _, .i _ => true
  | .bool, .b _ => true
  | .str, .s _ => true
  | .sl e, .l e' _ => e == e'
  | _, _ => false
def wts : List LT → List (Lf τ) → Bool
  | [], [] => true
  | lt :: ls, x :: xs => wt lt x && wts ls xs
  | _, _ => false
/-- What the program says of its types is what the table says. -/
structure PT (P : Program) (T : Tab τ) : Prop where
  info : ∀ t ti, T t = some ti → ∃ i, P.info? t = some i ∧ i.size = ti.sz
  scal : ∀ t ti, T t = some ti → ti.d = .scal → ∃ d, P.underlying t = some d ∧ (match d with | .struct _ | .array _ _ => true | _ => false) = false
  st : ∀ t ti fs, T t = some ti → ti.d = .st fs → ∃ fields, P.underlying t = some (.struct fields) ∧ fields.toList.map (fun f => (f.offset, f.type)) = fs
  arr : ∀ t ti n e, T t = some ti → ti.d = .arr n e → P.underlying t = some (.array n e)
  sl : ∀ t ti e, T t = some ti → ti.d = .sl e → P.underlying t = some (.slice e)
  closed : ∀ t ti, T t = some ti → ∀ e, LT.sl e ∈ ti.lts → (T e).isSome = true
  row : ∀ t ti x, T t = some ti → T.el t = true → wts ti.lts (T.row t x) = true
  of : ∀ t ti l, T t = some ti → T.el t = true → wts ti.lts l = true → T.row t (T.of t l) = l
def binA (op : BinOp) (x y : AV τ) : Option (AV τ) :=
  match x, y with
  | .int k a, .int k' b =>
    if k = k' then
      match op with
      | .add => some (.int k (k.wrap (a + b)))
      | .sub => some (.int k (k.wrap (a - b)))
      | .mul => some (.int k (k.wrap (a * b)))
      | .quo => if b = 0 then none else some (.int k (k.wrap (a.tdiv b)))
      | .rem => if b = 0 then none else some (.int k (a.tmod b))
      | .xor => some (.int k (bits .xor k a b))
      | .eql => some (.bool (a == b))
      | .neq => some (.bool (a != b))
      | .lss => some (.bool (a < b))
      | .leq => some (.bool (a ≤ b))
      | .gtr => some (.bool (a > b))
      | .geq => some (.bool (a ≥ b))
      | _ => none
    else none
  | _, _ => none
section
variable {T : Tab τ} {P : Program} {w w' : World} {m m' : Mem τ} {η η' : Eta} {tm : List (AV τ)}
theorem VR.cA (v : Value) {S : Nat → Prop} : VR T S w m η (cA v) v := by
  unfold Am.cA
  split
  · exact .int _ _
  · exact .bool _
  · exact .str _
  · exact .nil
  · exact .bad _
theorem TR.eval {ds : List Deferred} {ts : Array Value} (h : TR T w m η tm ts) (x : Operand) : VR T (Safe η m) w m η (eA tm x) ((⟨ts, ds⟩ : Act).eval x) := by
  cases x with
  | tmp t => exact h.at_ t
  | const v => exact VR.cA v
  | global g => exact .bad _
  | func f => exact .fn f
theorem TR.put {ts : Array Value} (h : TR T w m η tm ts) (N : Nat) {av : AV τ} {v : Value} (hv : VR T (Safe η m) w m η av v) : TR T w m η (tm.set N av) (ts.setIfInBounds N v) := by
  refine ⟨by simpa using h.len, fun i => ?_⟩
  have h1 := h.len
  have hi := h.at_ i
  rw [List.getD_eq_getElem?_getD, Array.getD_eq_getD_getElem?] at hi ⊢
  rw [List.getElem?_set, Array.getElem?_setIfInBounds]
  by_cases c : N = i
  · subst c
    rw [if_pos rfl, if_pos rfl]
    by_cases h2 : N < tm.length
    · rw [if_pos h2, if_pos (by omega)]; exact hv
    · rw [if_neg h2]; exact .bad _
  · rw [if_neg c, if_neg c]; exact hi
theorem TR.next {ts : Array Value} (h : TR T w m η tm ts) (s : Step T w m η w' m' η') : TR T w' m' η' tm ts := ⟨h.len, fun i => s.vr (h.at_ i)⟩
theorem wts_len : ∀ {lts : List LT} {l : List (Lf τ)}, wts lts l = true → l.length = lts.length
  | [], [], _ => rfl
  | _ :: _, _ :: _, h => by simp [wts] at h; simp [wts_len h.2]
  | [], _ :: _, h => by simp [wts] at h
  | _ :: _, [], h => by simp [wts] at h
theorem wts_at : ∀ {lts : List LT} {l : List (Lf τ)}, l.length = lts.length → (∀ (j : Nat) (lt : LT) (x : Lf τ), lts[j]? = some lt → l[j]? = some x → wt lt x = true) → wts lts l = true
  | [], [], _, _ => rfl
  | lt :: ls, x :: xs, h, k => by
    simp only [wts, Bool.and_eq_true]
    exact ⟨k 0 lt x rfl rfl, wts_at (by simpa using h) (fun j lt x a b => k (j + 1) lt x (by simpa using a) (by simpa using b))⟩
  | [], _ :: _, h, _ => by simp at h
  | _ :: _, [], h, _ => by simp at h
theorem wts_get : ∀ {lts : List LT} {l : List (Lf τ)}, wts lts l = true → ∀ (j : Nat) (lt : LT) (x : Lf τ), lts[j]? = some lt → l[j]? = some x → wt lt x = true
  | [], [], _, j, lt, x, h, _ => by simp at h
  | lt :: ls, x :: xs, h, j, lt', x', a, b => by
    simp only [wts, Bool.and_eq_true] at h
    cases j with
    | zero => simp at a b; subst a; subst b; exact h.1
    | succ j => exact wts_get h.2 j lt' x' (by simpa using a) (by simpa using b)
  | [], _ :: _, h, _, _, _, _, _ => by simp [wts] at h
  | _ :: _, [], h, _, _, _, _, _ => by simp [wts] at h
theorem VR.int_inv {S : Nat → Prop} {k : IntKind} {n : Int} {v : Value} (h : VR T S w m η (.int k n) v) : v = .int k n := by cases h; rfl
theorem VR.bool_inv {S : Nat → Prop} {b : Bool} {v : Value} (h : VR T S w m η (.bool b) v) : v = .bool b := by cases h; rfl
theorem VR.str_inv {S : Nat → Prop} {b : ByteArray} {v : Value} (h : VR T S w m η (.str b) v) : v = .string b := by cases h; rfl
theorem bin_sound {S : Nat → Prop} {op : BinOp} {x y r : AV τ} {u v : Value} (t : TypeId) (ox oy : Operand) (h : binA op x y = some r) (hx : VR T S w m η x u) (hy : VR T S w m η y v) :
    ∃ z, ((do eqGuard op t ox oy u v; binOp op t u v : Sem Value)).run P w = .ok z w ∧ VR T S w m η r z := by
  unfold binA at h
  split at h
  case h_2 => cases h
  case h_1 k a k' b =>
    split at h
    case isFalse => cases h
    case isTrue hk =>
      subst hk
      rw [hx.int_inv, hy.int_inv]
      have hg : (eqGuard op t ox oy (.int k a) (.int k b)).run P w = .ok () w := by
        unfold eqGuard; cases op <;> simp
      simp only [Sem.run_bind, hg, Result.andThen_ok]
      cases op <;> simp only at h <;> first
        | (cases h; done)
        | (injection h with h; subst h; exact ⟨_, by simp [binOp, Op.intArith, Op.intCmp, Op.intBits, bits]; rfl, by constructor⟩)
        | (split at h
           · cases h
           · rename_i hb; injection h with h; subst h; exact ⟨_, by simp [binOp, Op.intDiv, hb]; rfl, by constructor⟩)
end
end Am
