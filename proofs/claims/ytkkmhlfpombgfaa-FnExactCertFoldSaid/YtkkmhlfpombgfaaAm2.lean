/- The abstract machine, part 2: what its memory is in the model's, and what leaves that as it is. -/
import Derived.Test.YtkkmhlfpombgfaaAm1
set_option linter.unusedVariables false
set_option linter.unusedSectionVars false
namespace Am
open Go
variable {τ : TypeId → Type}
section
variable {T : Tab τ} {S S' : Nat → Prop} {w w' : World} {m m' : Mem τ} {η η' : Eta}
theorem VR.agree {a : AV τ} {v : Value} (h : VR T S w m η a v) (ha : Agree S w w') : VR T S w' m η a v := by
  induction h with
  | int k n => exact .int k n
  | bool b => exact .bool b
  | str s => exact .str s
  | sl e rows v h => exact .sl e rows v (h.agree ha)
  | own r g v hr h => exact .own r g v hr h
  | nil => exact .nil
  | agg vs cs hl h ih => exact .agg vs cs hl ih
  | tup vs cs hl h ih => exact .tup vs cs hl ih
  | ptr b o hb => exact .ptr b o hb
  | eptr e rows i o ti ad c hT h h0 h1 => exact .eptr e rows i o ti ad c hT (h.agree ha) h0 h1
  | optr r g i o v hr h => exact .optr r g i o v hr h
  | xptr b o n i hb h0 h1 => exact .xptr b o n i hb h0 h1
  | fn f => exact .fn f
  | opq n => exact .opq n
  | und => exact .und
  | bad v => exact .bad v
/-- A later state of memory: what is still what it was, stands where it stood. -/
structure Later (m : Mem τ) (η : Eta) (m' : Mem τ) (η' : Eta) : Prop where
  bl : m.bx.length ≤ m'.bx.length
  rl : m.rw.length ≤ m'.rw.length
  b : ∀ b, b < m.bx.length → η'.b b = η.b b
  r : ∀ r, r < m.rw.length → ∀ x', m'.rw[r]? = some (some x') → ∃ x, m.rw[r]? = some (some x) ∧ x.g ≤ x'.g ∧ (x'.g = x.g → x'.e = x.e ∧ η'.r r = η.r r)
theorem Later.refl (m : Mem τ) (η : Eta) : Later m η m η := ⟨Nat.le_refl _, Nat.le_refl _, fun _ _ => rfl, fun r hr x h => ⟨x, h, Nat.le_refl _, fun _ => ⟨rfl, rfl⟩⟩⟩
theorem VR.later {a : AV τ} {v : Value} (h : VR T S w m η a v) (hs : ∀ k, k < w.heap.size → S k → S' k) (hm : Later m η m' η') : VR T S' w m' η' a v := by
  induction h with
  | int k n => exact .int k n
  | bool b => exact .bool b
  | str s => exact .str s
  | sl e rows v h => exact .sl e rows v (h.mono hs)
  | own r g v hr h =>
    refine .own r g v (Nat.lt_of_lt_of_le hr hm.rl) (fun x' hx' => ?_)
    obtain ⟨x, hx, hle, he⟩ := hm.r r hr x' hx'
    obtain ⟨h1, h2⟩ := h x hx
    refine ⟨Nat.le_trans h1 hle, fun e => ?_⟩
    have : x'.g = x.g := by omega
    rw [(he this).2]; exact h2 (by omega)
  | nil => exact .nil
  | agg vs cs hl h ih => exact .agg vs cs hl ih
  | tup vs cs hl h ih => exact .tup vs cs hl ih
  | ptr b o hb => rw [← hm.b b hb]; exact .ptr b o (Nat.lt_of_lt_of_le hb hm.bl)
  | eptr e rows i o ti ad c hT h h0 h1 => exact .eptr e rows i o ti ad c hT (h.mono hs) h0 h1
  | optr r g i o v hr h =>
    refine .optr r g i o v (Nat.lt_of_lt_of_le hr hm.rl) (fun x' hx' => ?_)
    obtain ⟨x, hx, hle, he⟩ := hm.r r hr x' hx'
    obtain ⟨h1, h2⟩ := h x hx
    refine ⟨Nat.le_trans h1 hle, fun e => ?_⟩
    have e2 : x'.g = x.g := by omega
    obtain ⟨ti, gb, n, c, hT, hr2, rest⟩ := h2 (by omega)
    rw [(he e2).1, (he e2).2]
    exact ⟨ti, gb, n, c, hT, hr2, rest⟩
  | xptr b o n i hb h0 h1 => rw [← hm.b b hb]; exact .xptr b o n i (Nat.lt_of_lt_of_le hb hm.bl) h0 h1
  | fn f => exact .fn f
  | opq n => exact .opq n
  | und => exact .und
  | bad v => exact .bad v
end
/-- The blocks that are the machine's own. -/
def Owned (η : Eta) (m : Mem τ) (k : Nat) : Prop := ((∃ b x, m.bx[b]? = some (some x) ∧ η.b b = k) ∨ (∃ r x, m.rw[r]? = some (some x) ∧ (η.r r).ownBlock = some k)) ∨ η.x k
def Safe (η : Eta) (m : Mem τ) (k : Nat) : Prop := ¬ Owned η m k
/-- A list of values is what a list of the machine's values says. -/
def VRs (T : Tab τ) (S : Nat → Prop) (w : World) (m : Mem τ) (η : Eta) (vs : List (AV τ)) (cs : List Value) : Prop :=
  vs.length = cs.length ∧ ∀ (i : Nat) (a : AV τ) (c : Value), vs[i]? = some a → cs[i]? = some c → VR T S w m η a c
/-- The cells of a row are what its elements say. -/
def RowR (T : Tab τ) (S : Nat → Prop) (w : World) (ti : TI) (xs : List (List (Lf τ))) (inner : List Value) : Prop :=
  (∀ row ∈ xs, row.length = ti.sz) ∧ ∀ (j : Nat) (row : List (Lf τ)) (o : Nat) (lf : Lf τ) (lt : LT) (v : Value), xs[j]? = some row → row[o]? = some lf → ti.lts[o]? = some lt → inner[j * ti.sz + o]? = some v → LR T S w lt lf v
/-- What the machine's memory is in the model's. -/
structure MR (T : Tab τ) (w : World) (η : Eta) (m : Mem τ) : Prop where
  bx : ∀ b t vs, m.bx[b]? = some (some (t, vs)) → ∃ cs : List Value, w.heap[η.b b]? = some (.cells cs.toArray t (0, 0)) ∧ VRs T (Safe η m) w m η vs cs
  rw : ∀ r x, m.rw[r]? = some (some x) → ∃ ti inner, T x.e = some ti ∧ w.ownsRow 0 x.e ti.sz (η.r r) x.xs.length inner ∧ RowR T (Safe η m) w ti (x.xs.map (T.row x.e)) inner
  bb : ∀ b b' x x', m.bx[b]? = some (some x) → m.bx[b']? = some (some x') → η.b b = η.b b' → b = b'
  br : ∀ b r x y, m.bx[b]? = some (some x) → m.rw[r]? = some (some y) → (η.r r).ownBlock ≠ some (η.b b)
  rr : ∀ r r' x x' k, m.rw[r]? = some (some x) → m.rw[r']? = some (some x') → (η.r r).ownBlock = some k → (η.r r').ownBlock = some k → r = r'
  xb : ∀ b x, m.bx[b]? = some (some x) → ¬ η.x (η.b b)
  xr : ∀ r x k, m.rw[r]? = some (some x) → (η.r r).ownBlock = some k → ¬ η.x k
  xl : ∀ k, η.x k → k < w.heap.size
  gl : T.gl w (Safe η m)
section
variable {T : Tab τ} {w w' : World} {m m' : Mem τ} {η η' : Eta}
theorem blk_lt {g : Nat} {o : Obj} (h : w.heap[g]? = some o) : g < w.heap.size := (Array.getElem?_eq_some_iff.1 h).1
theorem own_lt {b : Nat} {e : TypeId} {sz n : Nat} {v : Value} {xs : List Value} (h : w.ownsRow b e sz v n xs) (k : Nat) (hk : v.ownBlock = some k) : k < w.heap.size := by
  rcases h.2 with ⟨rfl, _⟩ | ⟨g, cap, cur, rfl, _, hg, _⟩
  · simp [Value.ownBlock] at hk
  · simp [Value.ownBlock] at hk; subst hk; exact blk_lt hg
theorem MR.owned_lt (h : MR T w η m) {k : Nat} (hk : Owned η m k) : k < w.heap.size := by
  rcases hk with (⟨b, ⟨t, vs⟩, hb, rfl⟩ | ⟨r, x, hr, hk⟩) | hx
  · obtain ⟨cs, hc, _⟩ := h.bx b t vs hb; exact blk_lt hc
  · obtain ⟨ti, inner, _, ho, _⟩ := h.rw r x hr; exact own_lt ho k hk
  · exact h.xl k hx
theorem own_move {b : Nat} {e : TypeId} {sz n : Nat} {v : Value} {xs : List Value} (h : w.ownsRow b e sz v n xs) (hm : ∀ k, v.ownBlock = some k → w'.heap[k]? = w.heap[k]?) : w'.ownsRow b e sz v n xs := by
  refine ⟨h.1, ?_⟩
  rcases h.2 with h2 | ⟨g, cap, cur, rfl, hb, hg, rest⟩
  · exact .inl h2
  · exact .inr ⟨g, cap, cur, rfl, hb, by rw [hm g (by simp [Value.ownBlock])]; exact hg, rest⟩
theorem RowR.agree {S : Nat → Prop} {ti : TI} {xs : List (List (Lf τ))} {inner : List Value} (h : RowR T S w ti xs inner) (ha : Agree S w w') : RowR T S w' ti xs inner :=
  ⟨h.1, fun j row o lf lt v a b c d => (h.2 j row o lf lt v a b c d).agree ha⟩
theorem RowR.mono {S S' : Nat → Prop} {ti : TI} {xs : List (List (Lf τ))} {inner : List Value} (h : RowR T S w ti xs inner) (hs : ∀ k, k < w.heap.size → S k → S' k) : RowR T S' w ti xs inner :=
  ⟨h.1, fun j row o lf lt v a b c d => (h.2 j row o lf lt v a b c d).mono hs⟩
theorem VRs.agree {S : Nat → Prop} {vs : List (AV τ)} {cs : List Value} (h : VRs T S w m η vs cs) (ha : Agree S w w') : VRs T S w' m η vs cs := ⟨h.1, fun i a c x y => (h.2 i a c x y).agree ha⟩
theorem VRs.later {S S' : Nat → Prop} {vs : List (AV τ)} {cs : List Value} (h : VRs T S w m η vs cs) (hs : ∀ k, k < w.heap.size → S k → S' k) (hm : Later m η m' η') : VRs T S' w m' η' vs cs := ⟨h.1, fun i a c x y => (h.2 i a c x y).later hs hm⟩
/-- What was there is as it was: so is all. -/
theorem MR.agree (h : MR T w η m) (ha : Agree (fun _ => True) w w') : MR T w' η m := by
  refine ⟨fun b t vs hb => ?_, fun r x hr => ?_, h.bb, h.br, h.rr, h.xb, h.xr, fun k hk => Nat.lt_of_lt_of_le (h.xl k hk) ha.size, T.glN w w' _ _ h.gl (fun _ _ h => h) (ha.mono fun _ _ => trivial)⟩
  · obtain ⟨cs, hc, hv⟩ := h.bx b t vs hb
    exact ⟨cs, by rw [ha.block _ trivial (blk_lt hc)]; exact hc, hv.agree (ha.mono fun _ _ => trivial)⟩
  · obtain ⟨ti, inner, hT, ho, hR⟩ := h.rw r x hr
    exact ⟨ti, inner, hT, own_move ho (fun k hk => ha.block _ trivial (own_lt ho k hk)), hR.agree (ha.mono fun _ _ => trivial)⟩
theorem setCell_agree {S : Nat → Prop} (w : World) (a : Addr) (v : Value) (h : ¬ S a.block) : Agree S w (w.setCell a v) :=
  ⟨rfl, rfl, rfl, by simp [World.setCell], fun k hk _ => Go.RowKit.Below.heap_setCell w a v k (fun e => h (e ▸ hk))⟩
theorem blk_set {g : Nat} {t : TypeId} {cs : Array Value} (h : w.heap[g]? = some (.cells cs t (0, 0))) (i : Nat) (u : Value) : (w.setCell ⟨g, i, none⟩ u).heap[g]? = some (.cells (cs.setIfInBounds i u) t (0, 0)) := by
  simp [World.setCell, Array.getElem?_modify, h]
theorem Later.of_rw (hb : m.bx.length = m'.bx.length) (hr : m.rw = m'.rw) : Later m η m' η := by
  refine ⟨Nat.le_of_eq hb, by rw [hr]; exact Nat.le_refl _, fun _ _ => rfl, fun r h x hx => ⟨x, by rw [hr]; exact hx, Nat.le_refl _, fun _ => ⟨rfl, rfl⟩⟩⟩
end
end Am
