/- The abstract machine, part 10: a row that is written no more is a value. -/
import Derived.Test.YtkkmhlfpombgfaaAm9
set_option linter.unusedVariables false
set_option linter.unusedSectionVars false
set_option linter.unusedSimpArgs false
namespace Am
open Go
variable {τ : TypeId → Type}
mutual
def AV.subst (r g : Nat) (e : TypeId) (xs : List (τ e)) : AV τ → AV τ
  | .own r' g' => if r' = r ∧ g' = g then .sl e xs else .own r' g'
  | .agg vs => .agg (AV.substs r g e xs vs)
  | .tup vs => .tup (AV.substs r g e xs vs)
  | a => a
def AV.substs (r g : Nat) (e : TypeId) (xs : List (τ e)) : List (AV τ) → List (AV τ)
  | [] => []
  | a :: as => AV.subst r g e xs a :: AV.substs r g e xs as
end
theorem AV.substs_eq (r g : Nat) (e : TypeId) (xs : List (τ e)) : ∀ as : List (AV τ), AV.substs r g e xs as = as.map (AV.subst r g e xs)
  | [] => rfl
  | a :: as => by rw [AV.substs, AV.substs_eq r g e xs as]; rfl
structure St (τ : TypeId → Type) where
  tm : List (AV τ)
  m : Mem τ
/-- Row r is written no more. -/
def St.freeze (s : St τ) (r : Nat) : St τ :=
  match s.m.rw[r]? with
  | some (some x) => ⟨s.tm.map (AV.subst r x.g x.e x.xs), ⟨s.m.bx.map (fun b => b.map fun p => (p.1, p.2.map (AV.subst r x.g x.e x.xs))), s.m.rw.set r none⟩⟩
  | _ => s
section
variable {T : Tab τ} {P : Program} {by_ : TypeId → Nat} {w w' w2 : World} {m m' m2 : Mem τ} {η η' η2 : Eta} {tm : List (AV τ)} {S : Nat → Prop}
theorem VR.subst {a : AV τ} {v : Value} {r : Nat} {x : Rw τ} (h : VR T S w m η a v) (hr : m.rw[r]? = some (some x)) (hL : LR T S w (.sl x.e) (.l x.e x.xs) (η.r r)) : VR T S w m η (a.subst r x.g x.e x.xs) v := by
  induction h with
  | own r' g v hr' h =>
    unfold AV.subst
    split
    · rename_i hc; obtain ⟨rfl, rfl⟩ := hc
      rw [(h x hr).2 rfl]; exact .sl _ _ _ hL
    · exact .own r' g v hr' h
  | agg vs cs hl h ih =>
    unfold AV.subst
    rw [AV.substs_eq]
    refine .agg _ cs (by simpa using hl) (fun i a c ha hc => ?_)
    rw [List.getElem?_map] at ha
    cases hv : vs[i]? with
    | none => rw [hv] at ha; simp at ha
    | some b => rw [hv] at ha; simp at ha; subst ha; exact ih i b c hv hc
  | tup vs cs hl h ih =>
    unfold AV.subst
    rw [AV.substs_eq]
    refine .tup _ cs (by simpa using hl) (fun i a c ha hc => ?_)
    rw [List.getElem?_map] at ha
    cases hv : vs[i]? with
    | none => rw [hv] at ha; simp at ha
    | some b => rw [hv] at ha; simp at ha; subst ha; exact ih i b c hv hc
  | int k n => exact .int k n
  | bool b => exact .bool b
  | str s => exact .str s
  | sl e rows v h => exact .sl e rows v h
  | nil => exact .nil
  | ptr b o hb => exact .ptr b o hb
  | eptr e rows i o ti ad c hT h h0 h1 => exact .eptr e rows i o ti ad c hT h h0 h1
  | optr r g i o v hr h => exact .optr r g i o v hr h
  | xptr b o n i hb h0 h1 => exact .xptr b o n i hb h0 h1
  | fn f => exact .fn f
  | opq n => exact .opq n
  | und => exact .und
  | bad v => exact .bad v
/-- A row of one's own read as a value. -/
theorem MR.asLR (h : MR T w η m) {r : Nat} {x : Rw τ} (hr : m.rw[r]? = some (some x)) (hS : ∀ k, k < w.heap.size → Safe η m k → S k) (hb : ∀ k, (η.r r).ownBlock = some k → S k) : LR T S w (.sl x.e) (.l x.e x.xs) (η.r r) := by
  obtain ⟨ti, inner, hT, ho, hR⟩ := h.rw r x hr
  have hin : ∀ j o, j < x.xs.length → o < ti.sz → j * ti.sz + o < inner.length := fun j o hj ho' => by
    rw [ho.1]
    have : (j + 1) * ti.sz ≤ x.xs.length * ti.sz := Nat.mul_le_mul_right _ hj
    rw [Nat.add_mul, Nat.one_mul] at this; omega
  have hl : ∀ (j : Nat) (row : List (Lf τ)), (x.xs.map (T.row x.e))[j]? = some row → row.length = ti.sz := fun j row hj => hR.1 row (List.mem_of_getElem? hj)
  have hleaf : ∀ (j : Nat) (row : List (Lf τ)) (o : Nat) (lf : Lf τ) (lt : LT), (x.xs.map (T.row x.e))[j]? = some row → row[o]? = some lf → ti.lts[o]? = some lt → LR T S w lt lf (inner.getD (j * ti.sz + o) undef) := by
    intro j row o lf lt h1 h2 h3
    have hh := hin j o (by have := some_lt h1; simpa using this) (by have := some_lt h3; exact this)
    refine (hR.2 j row o lf lt _ h1 h2 h3 ?_).mono hS
    simp [List.getElem?_eq_getElem hh]
  have hcells := ho
  obtain ⟨hlen, hrest⟩ := ho
  rcases hrest with ⟨e, hn⟩ | ⟨g, cap, cur, e, _, hg, hnc, hcm, hcs, htake⟩
  · have : x.xs = [] := List.eq_nil_of_length_eq_zero hn
    rw [e]
    have h2 := LR.sl (T := T) (S := S) (w := w) x.e ti hT x.xs none 0 (by rw [this]; simp) (fun j o => inner.getD (j * ti.sz + o) undef) (fun hne => absurd this hne) hl hleaf
    rw [hn] at h2; exact h2
  · rw [e]
    refine .sl x.e ti hT x.xs (some ⟨g, 0, none⟩) cap hnc (fun j o => inner.getD (j * ti.sz + o) undef) (fun _ => ⟨⟨g, 0, none⟩, rfl, hb g (by rw [e]; rfl), blk_lt hg, fun j o hj ho' => ?_⟩) hl hleaf
    have hh := hin j o hj ho'
    rw [addr_plain, Nat.zero_add, own_cell hcells e (by rw [← hlen]; exact hh)]
    simp [List.getElem?_eq_getElem hh]
/-- What a freezing leaves. -/
theorem freeze_sound (h : MR T w η m) {ts : Array Value} (ht : TR T w m η tm ts) (r : Nat) : Step T w m η w (St.freeze ⟨tm, m⟩ r).m η ∧ TR T w (St.freeze ⟨tm, m⟩ r).m η (St.freeze ⟨tm, m⟩ r).tm ts := by
  unfold St.freeze
  simp only
  split
  case h_2 => exact ⟨.refl h, ht⟩
  rename_i x hr
  have hlat : Later m η ⟨m.bx.map (fun b => b.map fun p => (p.1, p.2.map (AV.subst r x.g x.e x.xs))), m.rw.set r none⟩ η :=
    ⟨by simp, by simp, fun _ _ => rfl, fun r' hr' x' hx => by
      rcases getElem?_set' hx with ⟨_, hx, _⟩ | ⟨_, hx⟩
      · cases hx
      · exact ⟨x', hx, Nat.le_refl _, fun _ => ⟨rfl, rfl⟩⟩⟩
  have live : ∀ (b : Nat) (y : TypeId × List (AV τ)), (m.bx.map (fun b => b.map fun p => (p.1, p.2.map (AV.subst r x.g x.e x.xs))))[b]? = some (some y) → ∃ vs, m.bx[b]? = some (some (y.1, vs)) ∧ y.2 = vs.map (AV.subst r x.g x.e x.xs) := by
    intro b y hy
    rw [List.getElem?_map] at hy
    cases hb : m.bx[b]? with
    | none => rw [hb] at hy; simp at hy
    | some o =>
      rw [hb] at hy
      cases o with
      | none => simp at hy
      | some p => simp at hy; subst hy; exact ⟨p.2, rfl, rfl⟩
  have liveR : ∀ (r' : Nat) (y : Rw τ), (m.rw.set r none)[r']? = some (some y) → r' ≠ r ∧ m.rw[r']? = some (some y) := by
    intro r' y hy
    rcases getElem?_set' hy with ⟨_, hy, _⟩ | ⟨hne, hy⟩
    · cases hy
    · exact ⟨Ne.symm hne, hy⟩
  have hsafe : ∀ k, Safe η m k → Safe η ⟨m.bx.map (fun b => b.map fun p => (p.1, p.2.map (AV.subst r x.g x.e x.xs))), m.rw.set r none⟩ k := by
    rintro k hs ((⟨b, y, hb, e⟩ | ⟨r', y, hr', e⟩) | hx)
    · obtain ⟨vs, hv, _⟩ := live b y hb; exact hs (.inl (.inl ⟨b, _, hv, e⟩))
    · exact hs (.inl (.inr ⟨r', y, (liveR r' y hr').2, e⟩))
    · exact hs (.inr hx)
  have hL : LR T (Safe η ⟨m.bx.map (fun b => b.map fun p => (p.1, p.2.map (AV.subst r x.g x.e x.xs))), m.rw.set r none⟩) w (.sl x.e) (.l x.e x.xs) (η.r r) := by
    refine h.asLR hr (fun k _ hk => hsafe k hk) (fun k hk => ?_)
    rintro ((⟨b, y, hb, e⟩ | ⟨r', y, hr', e⟩) | hx)
    · obtain ⟨vs, hv, _⟩ := live b y hb; subst e; exact h.br b r _ _ hv hr hk
    · obtain ⟨hne, hr'⟩ := liveR r' y hr'; exact hne (h.rr r' r _ _ k hr' hr e hk)
    · exact h.xr r x k hr hk hx
  have hsub : ∀ {a : AV τ} {v : Value}, VR T (Safe η m) w m η a v → VR T (Safe η ⟨m.bx.map (fun b => b.map fun p => (p.1, p.2.map (AV.subst r x.g x.e x.xs))), m.rw.set r none⟩) w ⟨m.bx.map (fun b => b.map fun p => (p.1, p.2.map (AV.subst r x.g x.e x.xs))), m.rw.set r none⟩ η (a.subst r x.g x.e x.xs) v :=
    fun hv => ((hv.later (fun k _ hk => hsafe k hk) (Later.refl m η)).subst hr hL).later (fun k _ hk => hk) hlat
  refine ⟨⟨⟨fun b t vs hb => ?_, fun r' y hr' => ?_, fun b b' y y' hb hb' e => ?_, fun b r' y z hb hr' => ?_, fun r1 r2 x1 x2 k h1 h2 e1 e2 => ?_, fun b y hb => let ⟨vs, hv, _⟩ := live b y hb; h.xb b _ hv, fun r' y k hr' e => h.xr r' y k (liveR r' y hr').2 e, h.xl, T.glN w w _ _ h.gl (fun k _ hk => hsafe k hk) (.refl _ _)⟩, hlat, fun k _ hk => hsafe k hk, .refl _ _, rfl, fun _ _ => rfl⟩, ⟨by simpa using ht.len, fun i => ?_⟩⟩
  · obtain ⟨vs', hv, e⟩ := live b _ hb
    simp only at e; subst e
    obtain ⟨cs, hc, hcv⟩ := h.bx b t vs' hv
    refine ⟨cs, hc, by simpa using hcv.1, fun i a c ha hcc => ?_⟩
    rw [List.getElem?_map] at ha
    cases hv' : vs'[i]? with
    | none => rw [hv'] at ha; simp at ha
    | some a' => rw [hv'] at ha; simp at ha; subst ha; exact hsub (hcv.2 i a' c hv' hcc)
  · obtain ⟨_, hr''⟩ := liveR r' y hr'
    obtain ⟨ti, inner, hT, ho, hR⟩ := h.rw r' y hr''
    exact ⟨ti, inner, hT, ho, hR.mono (fun k _ hk => hsafe k hk)⟩
  · obtain ⟨v1, h1, _⟩ := live b y hb
    obtain ⟨v2, h2, _⟩ := live b' y' hb'
    exact h.bb b b' _ _ h1 h2 e
  · obtain ⟨v1, h1, _⟩ := live b y hb
    exact h.br b r' _ _ h1 (liveR r' z hr').2
  · exact h.rr r1 r2 _ _ k (liveR r1 x1 h1).2 (liveR r2 x2 h2).2 e1 e2
  · have := hsub (ht.at_ i)
    rw [List.getD_eq_getElem?_getD] at this ⊢
    rw [List.getElem?_map]
    cases hi : tm[i]? with
    | none => exact .bad _
    | some a => rw [hi] at this; simpa using this
end
end Am
