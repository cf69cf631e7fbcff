/- The abstract machine, part 3: a new variable, a new row, a row made anew, a row let go. -/
import Derived.Test.YtkkmhlfpombgfaaAm2
set_option linter.unusedVariables false
set_option linter.unusedSectionVars false
set_option linter.unusedSimpArgs false
namespace Am
open Go
variable {τ : TypeId → Type}
def Eta.addB (η : Eta) (b k : Nat) : Eta := { η with b := fun x => if x = b then k else η.b x }
def Eta.addR (η : Eta) (r : Nat) (v : Value) : Eta := { η with r := fun x => if x = r then v else η.r x }
section
variable {T : Tab τ} {w w' : World} {m m' : Mem τ} {η η' : Eta}
theorem alloc_size (w : World) (o : Obj) : (w.alloc o).heap.size = w.heap.size + 1 := by show (w.heap.push o).size = _; simp
theorem alloc_agree (w : World) (o : Obj) (S : Nat → Prop) : Agree S w (w.alloc o) :=
  ⟨rfl, rfl, rfl, by rw [alloc_size]; omega, fun k _ hk => Go.RowKit.Below.heap_alloc w o k hk⟩
theorem alloc_new (w : World) (o : Obj) : (w.alloc o).heap[w.heap.size]? = some o := by show (w.heap.push o)[w.heap.size]? = _; simp
theorem getElem?_snoc {α : Type} {l : List α} {x : α} {i : Nat} {y : α} (h : (l ++ [x])[i]? = some y) : (i < l.length ∧ l[i]? = some y) ∨ (i = l.length ∧ y = x) := by
  rcases Nat.lt_trichotomy i l.length with c | c | c
  · left; rw [List.getElem?_append_left c] at h; exact ⟨c, h⟩
  · right; subst c; simp at h; exact ⟨rfl, h.symm⟩
  · rw [List.getElem?_eq_none (by simp; omega)] at h; cases h
theorem getElem?_set' {α : Type} {l : List α} {x : α} {i j : Nat} {y : α} (h : (l.set i x)[j]? = some y) : (i = j ∧ y = x ∧ i < l.length) ∨ (i ≠ j ∧ l[j]? = some y) := by
  rw [List.getElem?_set] at h
  split at h
  · rename_i e
    split at h
    · rename_i e2; cases h; exact .inl ⟨e, rfl, by omega⟩
    · cases h
  · rename_i e; exact .inr ⟨e, h⟩
theorem some_lt {α : Type} {l : List α} {i : Nat} {y : α} (h : l[i]? = some y) : i < l.length := (List.getElem?_eq_some_iff.1 h).1
/-- The next state of memory, out of what is as it was and what is new. -/
theorem MR.next (h : MR T w η m) (hl : Later m η m' η') (hs : ∀ k, k < w.heap.size → Safe η m k → Safe η' m' k) (ha : Agree (Safe η m) w w')
    (hb : ∀ b t vs, m'.bx[b]? = some (some (t, vs)) → (b < m.bx.length ∧ m.bx[b]? = some (some (t, vs)) ∧ w'.heap[η.b b]? = w.heap[η.b b]?) ∨ (∃ cs : List Value, w'.heap[η'.b b]? = some (.cells cs.toArray t (0, 0)) ∧ VRs T (Safe η' m') w' m' η' vs cs))
    (hr : ∀ r x, m'.rw[r]? = some (some x) → (r < m.rw.length ∧ m.rw[r]? = some (some x) ∧ η'.r r = η.r r ∧ ∀ k, (η.r r).ownBlock = some k → w'.heap[k]? = w.heap[k]?) ∨ (∃ ti inner, T x.e = some ti ∧ w'.ownsRow 0 x.e ti.sz (η'.r r) x.xs.length inner ∧ RowR T (Safe η' m') w' ti (x.xs.map (T.row x.e)) inner))
    (hbb : ∀ b b' x x', m'.bx[b]? = some (some x) → m'.bx[b']? = some (some x') → η'.b b = η'.b b' → b = b')
    (hbr : ∀ b r x y, m'.bx[b]? = some (some x) → m'.rw[r]? = some (some y) → (η'.r r).ownBlock ≠ some (η'.b b))
    (hrr : ∀ r r' x x' k, m'.rw[r]? = some (some x) → m'.rw[r']? = some (some x') → (η'.r r).ownBlock = some k → (η'.r r').ownBlock = some k → r = r')
    (hx : η'.x = η.x) (hxb : ∀ b x, m'.bx[b]? = some (some x) → ¬ η.x (η'.b b)) (hxr : ∀ r x k, m'.rw[r]? = some (some x) → (η'.r r).ownBlock = some k → ¬ η.x k) : MR T w' η' m' := by
  have hs' : ∀ k, k < w'.heap.size → (k < w.heap.size ∧ Safe η m k) → Safe η' m' k := fun k _ h => hs k h.1 h.2
  refine ⟨fun b t vs hx => ?_, fun r x hx => ?_, hbb, hbr, hrr, by rw [hx]; exact hxb, by rw [hx]; exact hxr, by rw [hx]; exact fun k hk => Nat.lt_of_lt_of_le (h.xl k hk) ha.size, T.glN w w' _ _ h.gl hs ha⟩
  · rcases hb b t vs hx with ⟨hlt, hold, hheap⟩ | hnew
    · obtain ⟨cs, hc, hv⟩ := h.bx b t vs hold
      refine ⟨cs, by rw [hl.b b hlt, hheap]; exact hc, ?_⟩
      exact ⟨hv.1, fun i a c x y => by
        have h1 := ((hv.2 i a c x y).later (S' := fun k => k < w.heap.size ∧ Safe η m k) (fun k hk hsk => ⟨hk, hsk⟩) (Later.refl m η))
        exact (h1.agree (ha.mono fun k hk => hk.2)).later hs' hl⟩
    · exact hnew
  · rcases hr r x hx with ⟨hlt, hold, he, hheap⟩ | hnew
    · obtain ⟨ti, inner, hT, ho, hR⟩ := h.rw r x hold
      refine ⟨ti, inner, hT, by rw [he]; exact own_move ho hheap, ?_⟩
      have h1 := hR.mono (S' := fun k => k < w.heap.size ∧ Safe η m k) (fun k hk hsk => ⟨hk, hsk⟩)
      exact (h1.agree (ha.mono fun k hk => hk.2)).mono hs'
    · exact hnew
theorem VR.next {a : AV τ} {v : Value} (h : VR T (Safe η m) w m η a v) (hl : Later m η m' η') (hs : ∀ k, k < w.heap.size → Safe η m k → Safe η' m' k) (ha : Agree (Safe η m) w w') : VR T (Safe η' m') w' m' η' a v := by
  have h1 := h.later (S' := fun k => k < w.heap.size ∧ Safe η m k) (fun k hk hsk => ⟨hk, hsk⟩) (Later.refl m η)
  exact (h1.agree (ha.mono fun k hk => hk.2)).later (fun k _ hk => hs k hk.1 hk.2) hl
theorem VRs.next {vs : List (AV τ)} {cs : List Value} (h : VRs T (Safe η m) w m η vs cs) (hl : Later m η m' η') (hs : ∀ k, k < w.heap.size → Safe η m k → Safe η' m' k) (ha : Agree (Safe η m) w w') : VRs T (Safe η' m') w' m' η' vs cs :=
  ⟨h.1, fun i a c x y => (h.2 i a c x y).next hl hs ha⟩
/-- What a change of memory leaves: all that is told of values stands. -/
structure Step (T : Tab τ) (w : World) (m : Mem τ) (η : Eta) (w' : World) (m' : Mem τ) (η' : Eta) : Prop where
  mr : MR T w' η' m'
  later : Later m η m' η'
  safe : ∀ k, k < w.heap.size → Safe η m k → Safe η' m' k
  agree : Agree (Safe η m) w w'
  x : η'.x = η.x
  fx : ∀ k, η.x k → w'.heap[k]? = w.heap[k]?
theorem Step.vr (s : Step T w m η w' m' η') {a : AV τ} {v : Value} (h : VR T (Safe η m) w m η a v) : VR T (Safe η' m') w' m' η' a v := h.next s.later s.safe s.agree
/-- A new variable. -/
theorem MR.addB (h : MR T w η m) {t : TypeId} {vs : List (AV τ)} {cs : List Value} (hv : VRs T (Safe η m) w m η vs cs) :
    Step T w m η (w.alloc (.cells cs.toArray t)) { m with bx := m.bx ++ [some (t, vs)] } (η.addB m.bx.length w.heap.size) := by
  have hlat : Later m η { m with bx := m.bx ++ [some (t, vs)] } (η.addB m.bx.length w.heap.size) :=
    ⟨by simp, Nat.le_refl _, fun b hb => by simp [Eta.addB, Nat.ne_of_lt hb], fun r hr x hx => ⟨x, hx, Nat.le_refl _, fun _ => ⟨rfl, rfl⟩⟩⟩
  have hag : ∀ S, Agree S w (w.alloc (.cells cs.toArray t)) := alloc_agree w _
  have hlt : ∀ b x, m.bx[b]? = some (some x) → η.b b < w.heap.size := fun b x hb => h.owned_lt (.inl (.inl ⟨b, x, hb, rfl⟩))
  have hlr : ∀ r x k, m.rw[r]? = some (some x) → (η.r r).ownBlock = some k → k < w.heap.size := fun r x k hr hk => h.owned_lt (.inl (.inr ⟨r, x, hr, hk⟩))
  have new : (η.addB m.bx.length w.heap.size).b m.bx.length = w.heap.size := by simp [Eta.addB]
  have hsafe : ∀ k, k < w.heap.size → Safe η m k → Safe (η.addB m.bx.length w.heap.size) { m with bx := m.bx ++ [some (t, vs)] } k := by
    intro k hk hs
    rintro ((⟨b, x, hb, e⟩ | ⟨r, x, hr, e⟩) | hx)
    · rcases getElem?_snoc hb with ⟨hl, hb⟩ | ⟨rfl, _⟩
      · rw [hlat.b b hl] at e; exact hs (.inl (.inl ⟨b, x, hb, e⟩))
      · rw [new] at e; omega
    · exact hs (.inl (.inr ⟨r, x, hr, e⟩))
    · exact hs (.inr hx)
  refine ⟨h.next hlat hsafe (hag _) (fun b t' vs' hb => ?_) (fun r x hr => ?_) ?_ ?_ h.rr rfl (fun b x hb => ?_) h.xr, hlat, hsafe, hag _, rfl, fun k hk => (hag (fun _ => True)).block k trivial (h.xl k hk)⟩
  · rcases getElem?_snoc hb with ⟨hl, hb⟩ | ⟨rfl, he⟩
    · exact .inl ⟨hl, hb, (hag (fun _ => True)).block _ trivial (hlt b _ hb)⟩
    · cases he
      exact .inr ⟨cs, by rw [new]; exact alloc_new w _, hv.next hlat hsafe (hag _)⟩
  · exact .inl ⟨some_lt hr, hr, rfl, fun k hk => (hag (fun _ => True)).block _ trivial (hlr r x k hr hk)⟩
  · intro b b' x x' hb hb' e
    rcases getElem?_snoc hb with ⟨hl, hb⟩ | ⟨rfl, _⟩ <;> rcases getElem?_snoc hb' with ⟨hl', hb'⟩ | ⟨rfl, _⟩
    · rw [hlat.b b hl, hlat.b b' hl'] at e; exact h.bb b b' _ _ hb hb' e
    · rw [hlat.b b hl, new] at e; have := hlt b _ hb; omega
    · rw [hlat.b b' hl', new] at e; have := hlt b' _ hb'; omega
    · rfl
  rotate_left 1
  · rcases getElem?_snoc hb with ⟨hl, hb⟩ | ⟨rfl, _⟩
    · rw [hlat.b b hl]; exact h.xb b _ hb
    · rw [new]; intro hx; exact Nat.lt_irrefl _ (h.xl _ hx)
  · intro b r x y hb hr e
    have hk := hlr r y _ hr e
    rcases getElem?_snoc hb with ⟨hl, hb⟩ | ⟨rfl, _⟩
    · rw [hlat.b b hl] at e; exact h.br b r _ _ hb hr e
    · rw [new] at hk; omega
/-- A new row: it lies in new memory, or nowhere. -/
theorem MR.addR (h : MR T w η m) {e : TypeId} {xs : List (τ e)} {ti : TI} {inner : List Value} {v : Value} (hT : T e = some ti)
    (hag : Agree (fun _ => True) w w') (ho : w'.ownsRow 0 e ti.sz v xs.length inner) (hn : ∀ k, v.ownBlock = some k → w.heap.size ≤ k) (hR : RowR T (Safe η m) w ti (xs.map (T.row e)) inner) :
    Step T w m η w' { m with rw := m.rw ++ [some ⟨e, xs, 0⟩] } (η.addR m.rw.length v) := by
  have hlat : Later m η { m with rw := m.rw ++ [some ⟨e, xs, 0⟩] } (η.addR m.rw.length v) :=
    ⟨Nat.le_refl _, by simp, fun b hb => rfl, fun r hr x hx => by
      rcases getElem?_snoc hx with ⟨hl, hx⟩ | ⟨rfl, _⟩
      · exact ⟨x, hx, Nat.le_refl _, fun _ => ⟨rfl, by simp [Eta.addR, Nat.ne_of_lt hl]⟩⟩
      · omega⟩
  have hlt : ∀ b x, m.bx[b]? = some (some x) → η.b b < w.heap.size := fun b x hb => h.owned_lt (.inl (.inl ⟨b, x, hb, rfl⟩))
  have hlr : ∀ r x k, m.rw[r]? = some (some x) → (η.r r).ownBlock = some k → k < w.heap.size := fun r x k hr hk => h.owned_lt (.inl (.inr ⟨r, x, hr, hk⟩))
  have new : (η.addR m.rw.length v).r m.rw.length = v := by simp [Eta.addR]
  have old : ∀ r, r < m.rw.length → (η.addR m.rw.length v).r r = η.r r := fun r hr => by simp [Eta.addR, Nat.ne_of_lt hr]
  have hsafe : ∀ k, k < w.heap.size → Safe η m k → Safe (η.addR m.rw.length v) { m with rw := m.rw ++ [some ⟨e, xs, 0⟩] } k := by
    intro k hk hs
    rintro ((⟨b, x, hb, e⟩ | ⟨r, x, hr, e⟩) | hx)
    · exact hs (.inl (.inl ⟨b, x, hb, e⟩))
    · rcases getElem?_snoc hr with ⟨hl, hr⟩ | ⟨rfl, _⟩
      · rw [old r hl] at e; exact hs (.inl (.inr ⟨r, x, hr, e⟩))
      · rw [new] at e; have := hn k e; omega
    · exact hs (.inr hx)
  have hagS := hag.mono (S := Safe η m) (fun _ _ => trivial)
  refine ⟨h.next hlat hsafe hagS (fun b t' vs' hb => ?_) (fun r x hr => ?_) h.bb ?_ ?_ rfl h.xb (fun r x k hr e => ?_), hlat, hsafe, hagS, rfl, fun k hk => hag.block k trivial (h.xl k hk)⟩
  rotate_right 1
  · rcases getElem?_snoc hr with ⟨hl, hr⟩ | ⟨rfl, _⟩
    · rw [old r hl] at e; exact h.xr r _ k hr e
    · rw [new] at e; intro hx; have := hn k e; have := h.xl k hx; omega
  · exact .inl ⟨some_lt hb, hb, hag.block _ trivial (hlt b _ hb)⟩
  · rcases getElem?_snoc hr with ⟨hl, hr⟩ | ⟨rfl, he⟩
    · exact .inl ⟨hl, hr, old r hl, fun k hk => hag.block _ trivial (hlr r x k hr hk)⟩
    · cases he
      refine .inr ⟨ti, inner, hT, by rw [new]; exact ho, ?_⟩
      have h1 := hR.mono (S' := fun k => k < w.heap.size ∧ Safe η m k) (fun k hk hsk => ⟨hk, hsk⟩)
      exact (h1.agree (hag.mono fun _ _ => trivial)).mono (fun k _ hk => hsafe k hk.1 hk.2)
  · intro b r x y hb hr e
    rcases getElem?_snoc hr with ⟨hl, hr⟩ | ⟨rfl, _⟩
    · rw [old r hl] at e; exact h.br b r _ _ hb hr e
    · rw [new] at e; have := hn _ e; have := hlt b x hb; simp only [Eta.addR] at *; omega
  · intro r r' x x' k hr hr' e e'
    rcases getElem?_snoc hr with ⟨hl, hr⟩ | ⟨rfl, _⟩ <;> rcases getElem?_snoc hr' with ⟨hl', hr'⟩ | ⟨rfl, _⟩
    · rw [old r hl] at e; rw [old r' hl'] at e'; exact h.rr r r' _ _ k hr hr' e e'
    · rw [old r hl] at e; rw [new] at e'; have := hlr r _ k hr e; have := hn k e'; omega
    · rw [old r' hl'] at e'; rw [new] at e; have := hlr r' _ k hr' e'; have := hn k e; omega
    · rfl
/-- A row made anew in its place, or in new memory (an append; a store into an element: then its value is as it was). -/
theorem MR.updR (h : MR T w η m) {r : Nat} {x : Rw τ} (hr : m.rw[r]? = some (some x)) {xs : List (τ x.e)} {g : Nat} (hg : x.g ≤ g) {ti : TI} {inner : List Value} {v : Value} (hT : T x.e = some ti)
    (hag : Agree (fun k => (η.r r).ownBlock ≠ some k) w w') (ho : w'.ownsRow 0 x.e ti.sz v xs.length inner) (hn : ∀ k, v.ownBlock = some k → (η.r r).ownBlock = some k ∨ w.heap.size ≤ k) (hsame : g = x.g → v = η.r r)
    (hR : RowR T (Safe η m) w ti (xs.map (T.row x.e)) inner) :
    Step T w m η w' { m with rw := m.rw.set r (some ⟨x.e, xs, g⟩) } (η.addR r v) := by
  have hrl := some_lt hr
  have old : ∀ r', r ≠ r' → (η.addR r v).r r' = η.r r' := fun r' hr' => by simp [Eta.addR, Ne.symm hr']
  have new : (η.addR r v).r r = v := by simp [Eta.addR]
  have hlat : Later m η { m with rw := m.rw.set r (some ⟨x.e, xs, g⟩) } (η.addR r v) :=
    ⟨Nat.le_refl _, by simp, fun b hb => rfl, fun r' hr' x' hx => by
      rcases getElem?_set' hx with ⟨rfl, hx, _⟩ | ⟨hne, hx⟩
      · cases hx; exact ⟨x, hr, hg, fun e => ⟨rfl, by rw [new]; exact hsame e⟩⟩
      · exact ⟨x', hx, Nat.le_refl _, fun _ => ⟨rfl, old r' hne⟩⟩⟩
  have hlt : ∀ b x, m.bx[b]? = some (some x) → η.b b < w.heap.size := fun b x hb => h.owned_lt (.inl (.inl ⟨b, x, hb, rfl⟩))
  have hlr : ∀ r x k, m.rw[r]? = some (some x) → (η.r r).ownBlock = some k → k < w.heap.size := fun r x k hr hk => h.owned_lt (.inl (.inr ⟨r, x, hr, hk⟩))
  have hsafe : ∀ k, k < w.heap.size → Safe η m k → Safe (η.addR r v) { m with rw := m.rw.set r (some ⟨x.e, xs, g⟩) } k := by
    intro k hk hs
    rintro ((⟨b, x, hb, e⟩ | ⟨r', x', hr', e⟩) | hx)
    · exact hs (.inl (.inl ⟨b, x, hb, e⟩))
    · rcases getElem?_set' hr' with ⟨rfl, _, _⟩ | ⟨hne, hr'⟩
      · rw [new] at e
        rcases hn k e with e2 | e2
        · exact hs (.inl (.inr ⟨r, x, hr, e2⟩))
        · omega
      · rw [old r' hne] at e; exact hs (.inl (.inr ⟨r', x', hr', e⟩))
    · exact hs (.inr hx)
  have hagS : Agree (Safe η m) w w' := hag.mono (fun k hk e => hk (.inl (.inr ⟨r, x, hr, e⟩)))
  refine ⟨h.next hlat hsafe hagS (fun b t' vs' hb => ?_) (fun r' x' hr' => ?_) h.bb ?_ ?_ rfl h.xb (fun r' x' k hr' e => ?_), hlat, hsafe, hagS, rfl, fun k hk => hag.block k (fun e => h.xr r x k hr e hk) (h.xl k hk)⟩
  rotate_right 1
  · rcases getElem?_set' hr' with ⟨rfl, _, _⟩ | ⟨hne, hr'⟩
    · rw [new] at e
      rcases hn k e with e2 | e2
      · exact h.xr r x k hr e2
      · intro hx; have := h.xl k hx; omega
    · rw [old r' hne] at e; exact h.xr r' x' k hr' e
  · exact .inl ⟨some_lt hb, hb, hag.block _ (h.br b r _ _ hb hr) (hlt b _ hb)⟩
  · rcases getElem?_set' hr' with ⟨rfl, he, _⟩ | ⟨hne, hr'⟩
    · cases he
      refine .inr ⟨ti, inner, hT, by rw [new]; exact ho, ?_⟩
      have h1 := hR.mono (S' := fun k => k < w.heap.size ∧ Safe η m k) (fun k hk hsk => ⟨hk, hsk⟩)
      exact (h1.agree (hagS.mono fun _ hk => hk.2)).mono (fun k _ hk => hsafe k hk.1 hk.2)
    · exact .inl ⟨some_lt hr', hr', old r' hne, fun k hk => hag.block _ (fun e => hne (h.rr r r' _ _ k hr hr' e hk)) (hlr r' x' k hr' hk)⟩
  · intro b r' y z hb hr' e
    rcases getElem?_set' hr' with ⟨rfl, _, _⟩ | ⟨hne, hr'⟩
    · rw [new] at e
      rcases hn _ e with e2 | e2
      · exact h.br b r _ _ hb hr e2
      · have := hlt b y hb; simp only [Eta.addR] at *; omega
    · rw [old r' hne] at e; exact h.br b r' _ _ hb hr' e
  · intro r1 r2 x1 x2 k h1 h2 e1 e2
    rcases getElem?_set' h1 with ⟨rfl, _, _⟩ | ⟨n1, h1⟩ <;> rcases getElem?_set' h2 with ⟨rfl, _, _⟩ | ⟨n2, h2⟩
    · rfl
    · rw [new] at e1; rw [old r2 n2] at e2
      rcases hn k e1 with e3 | e3
      · exact h.rr r r2 _ _ k hr h2 e3 e2
      · have := hlr r2 _ k h2 e2; omega
    · rw [new] at e2; rw [old r1 n1] at e1
      rcases hn k e2 with e3 | e3
      · exact h.rr r1 r _ _ k h1 hr e1 e3
      · have := hlr r1 _ k h1 e1; omega
    · rw [old r1 n1] at e1; rw [old r2 n2] at e2; exact h.rr r1 r2 _ _ k h1 h2 e1 e2
end
end Am
