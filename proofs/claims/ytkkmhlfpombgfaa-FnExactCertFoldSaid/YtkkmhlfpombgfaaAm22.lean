/- The abstract machine, part 22: a view of a part of memory. -/
import Derived.Test.YtkkmhlfpombgfaaAm21
set_option linter.unusedVariables false
set_option linter.unusedSectionVars false
set_option linter.unusedSimpArgs false
namespace Am
open Go
variable {τ : TypeId → Type}
def idxA (x : Nat) : List Nat → Option Nat
  | [] => none
  | y :: ys => cond (Nat.beq x y) (some 0) (match idxA x ys with | some i => some (i + 1) | none => none)
def nodupA : List Nat → Bool
  | [] => true
  | x :: xs => cond (idxA x xs).isSome false (nodupA xs)
theorem idxA_some {x : Nat} : ∀ {l : List Nat} {i : Nat}, idxA x l = some i → l[i]? = some x
  | y :: ys, i, h => by
    unfold idxA at h
    cases hb : Nat.beq x y with
    | true => rw [hb] at h; simp at h; subst h; have := Nat.eq_of_beq_eq_true hb; subst this; rfl
    | false =>
      rw [hb] at h; simp only [cond_false] at h
      split at h
      · rename_i j hj; cases h; simpa using idxA_some hj
      · cases h
theorem idxA_none {x : Nat} : ∀ {l : List Nat}, idxA x l = none → x ∉ l
  | [], _ => by simp
  | y :: ys, h => by
    unfold idxA at h
    cases hb : Nat.beq x y with
    | true => rw [hb] at h; simp at h
    | false =>
      rw [hb] at h; simp only [cond_false] at h
      split at h
      · cases h
      · rename_i hn
        have hne : x ≠ y := fun e => by subst e; rw [Nat.beq_refl] at hb; cases hb
        simp [hne, idxA_none hn]
theorem nodupA_inj : ∀ {l : List Nat}, nodupA l = true → ∀ (i j x : Nat), l[i]? = some x → l[j]? = some x → i = j
  | [], _, i, j, x, h, _ => by simp at h
  | y :: ys, hn, i, j, x, hi, hj => by
    unfold nodupA at hn
    cases hs : (idxA y ys).isSome with
    | true => rw [hs] at hn; simp at hn
    | false =>
      rw [hs] at hn; simp only [cond_false] at hn
      have hny : y ∉ ys := idxA_none (by simpa using hs)
      cases i with
      | zero =>
        cases j with
        | zero => rfl
        | succ j => simp at hi hj; subst hi; exact absurd (List.mem_of_getElem? hj) hny
      | succ i =>
        cases j with
        | zero => simp at hi hj; subst hj; exact absurd (List.mem_of_getElem? hi) hny
        | succ j => simp at hi hj; rw [nodupA_inj hn i j x hi hj]
mutual
/-- A value as the view has it. -/
def AV.ren (m : Mem τ) (bs rs : List Nat) (lend : Bool) : AV τ → AV τ
  | .own r g => match m.valid r g with
    | some x => match idxA r rs with
      | some i => .own i 0
      | none => cond lend (.sl x.e x.xs) .bad
    | none => .bad
  | .ptr b o => match idxA b bs with | some i => .ptr i o | none => .bad
  | .optr r g i o => match m.valid r g with
    | some _ => match idxA r rs with | some j => .optr j 0 i o | none => .bad
    | none => .bad
  | .xptr b o n i => match idxA b bs with | some j => .xptr j o n i | none => .bad
  | .agg vs => .agg (AV.rens m bs rs lend vs)
  | .tup vs => .tup (AV.rens m bs rs lend vs)
  | a => a
def AV.rens (m : Mem τ) (bs rs : List Nat) (lend : Bool) : List (AV τ) → List (AV τ)
  | [] => []
  | a :: as => AV.ren m bs rs lend a :: AV.rens m bs rs lend as
end
theorem AV.rens_eq (m : Mem τ) (bs rs : List Nat) (lend : Bool) : ∀ as : List (AV τ), AV.rens m bs rs lend as = as.map (AV.ren m bs rs lend)
  | [] => rfl
  | a :: as => by rw [AV.rens, AV.rens_eq m bs rs lend as]; rfl
def viewB (m : Mem τ) (bs rs : List Nat) (lend : Bool) : List Nat → List (Option (TypeId × List (AV τ)))
  | [] => []
  | b :: l => (match m.bx[b]? with | some (some (t, vs)) => some (t, AV.rens m bs rs lend vs) | _ => none) :: viewB m bs rs lend l
def viewR (m : Mem τ) : List Nat → List (Option (Rw τ))
  | [] => []
  | r :: l => (match m.rw[r]? with | some (some x) => some ⟨x.e, x.xs, 0⟩ | _ => none) :: viewR m l
/-- A part of memory: these variables, these rows. -/
def Mem.view (m : Mem τ) (bs rs : List Nat) (lend : Bool) : Mem τ := ⟨viewB m bs rs lend bs, viewR m rs⟩
def Eta.view (η : Eta) (bs rs : List Nat) (x : Nat → Prop) : Eta := ⟨fun i => η.b (bs.getD i 0), fun i => η.r (rs.getD i 0), x⟩
theorem viewB_at {m : Mem τ} {bs rs : List Nat} {lend : Bool} : ∀ {l : List Nat} {i : Nat} {t : TypeId} {vs : List (AV τ)}, (viewB m bs rs lend l)[i]? = some (some (t, vs)) → ∃ b us, l[i]? = some b ∧ m.bx[b]? = some (some (t, us)) ∧ vs = us.map (AV.ren m bs rs lend)
  | [], i, t, vs, h => by simp [viewB] at h
  | b :: l, i, t, vs, h => by
    unfold viewB at h
    cases i with
    | zero =>
      simp at h
      split at h
      · rename_i t' us hb; cases h; exact ⟨b, us, rfl, hb, AV.rens_eq _ _ _ _ _⟩
      · cases h
    | succ i => simp at h; obtain ⟨b', us, h1, h2, h3⟩ := viewB_at h; exact ⟨b', us, by simpa using h1, h2, h3⟩
theorem viewR_at {m : Mem τ} : ∀ {l : List Nat} {i : Nat} {x : Rw τ}, (viewR m l)[i]? = some (some x) → ∃ r y, l[i]? = some r ∧ m.rw[r]? = some (some y) ∧ x = ⟨y.e, y.xs, 0⟩
  | [], i, x, h => by simp [viewR] at h
  | r :: l, i, x, h => by
    unfold viewR at h
    cases i with
    | zero =>
      simp at h
      split at h
      · rename_i y hy; cases h; exact ⟨r, y, rfl, hy, rfl⟩
      · cases h
    | succ i => simp at h; obtain ⟨r', y, h1, h2, h3⟩ := viewR_at h; exact ⟨r', y, by simpa using h1, h2, h3⟩
theorem viewB_len {m : Mem τ} {bs rs : List Nat} {lend : Bool} : ∀ (l : List Nat), (viewB m bs rs lend l).length = l.length
  | [] => rfl
  | b :: l => by unfold viewB; simp [viewB_len l]
theorem viewR_len {m : Mem τ} : ∀ (l : List Nat), (viewR m l).length = l.length
  | [] => rfl
  | b :: l => by unfold viewR; simp [viewR_len l]
section
variable {T : Tab τ} {P : Program} {by_ : TypeId → Nat} {w w' w2 : World} {m m' m2 : Mem τ} {η η' η2 : Eta} {tm : List (AV τ)} {S S' : Nat → Prop}
theorem getD_of_some {α : Type} {l : List α} {i : Nat} {x d : α} (h : l[i]? = some x) : l.getD i d = x := by rw [List.getD_eq_getElem?_getD, h]; rfl
/-- What the view knows of a value. -/
theorem VR.ren (hm : MR T w η m) {bs rs : List Nat} {lend : Bool} {x : Nat → Prop} (hS : ∀ k, k < w.heap.size → Safe η m k → S' k)
    (hl : lend = true → ∀ r y k, m.rw[r]? = some (some y) → r ∉ rs → (η.r r).ownBlock = some k → S' k) {a : AV τ} {v : Value} (h : VR T (Safe η m) w m η a v) :
    VR T S' w (m.view bs rs lend) (η.view bs rs x) (a.ren m bs rs lend) v := by
  induction h with
  | int k n => exact .int k n
  | bool b => exact .bool b
  | str s => exact .str s
  | sl e rows v h => exact .sl e rows v (h.mono hS)
  | own r g v hr h =>
    unfold AV.ren
    split
    · rename_i y hy
      obtain ⟨hy1, hg⟩ := Mem.valid_some hy
      have hv := (h y hy1).2 hg
      split
      · rename_i i hi
        have hri := idxA_some hi
        refine .own i 0 v (by unfold Mem.view; rw [viewR_len]; exact some_lt hri) (fun z hz => ⟨Nat.zero_le _, fun _ => ?_⟩)
        show v = η.r (rs.getD i 0)
        rw [getD_of_some hri]; exact hv
      · rename_i hn
        cases lend with
        | false => exact .bad v
        | true =>
          rw [hv]
          exact .sl _ _ _ (hm.asLR hy1 hS (fun k hk => hl rfl r y k hy1 (idxA_none hn) hk))
    · exact .bad v
  | nil => exact .nil
  | agg vs cs hl' h ih =>
    unfold AV.ren
    rw [AV.rens_eq]
    refine .agg _ cs (by simpa using hl') (fun i a c ha hc => ?_)
    rw [List.getElem?_map] at ha
    cases hv : vs[i]? with
    | none => rw [hv] at ha; simp at ha
    | some b => rw [hv] at ha; simp at ha; subst ha; exact ih i b c hv hc
  | tup vs cs hl' h ih =>
    unfold AV.ren
    rw [AV.rens_eq]
    refine .tup _ cs (by simpa using hl') (fun i a c ha hc => ?_)
    rw [List.getElem?_map] at ha
    cases hv : vs[i]? with
    | none => rw [hv] at ha; simp at ha
    | some b => rw [hv] at ha; simp at ha; subst ha; exact ih i b c hv hc
  | ptr b o hb =>
    unfold AV.ren
    split
    · rename_i i hi
      have hbi := idxA_some hi
      have := VR.ptr (T := T) (S := S') (w := w) (m := m.view bs rs lend) (η := η.view bs rs x) i o (by unfold Mem.view; rw [viewB_len]; exact some_lt hbi)
      have e : (η.view bs rs x).b i = η.b b := by show η.b (bs.getD i 0) = _; rw [getD_of_some hbi]
      rwa [e] at this
    · exact .bad _
  | eptr e rows i o ti ad c hT h h0 h1 => exact .eptr e rows i o ti ad c hT (h.mono hS) h0 h1
  | optr r g i o v hr h =>
    unfold AV.ren
    split
    · rename_i y hy
      obtain ⟨hy1, hg⟩ := Mem.valid_some hy
      obtain ⟨ti, gb, n, c, hT, hη, h0, h1, hv⟩ := (h y hy1).2 hg
      split
      · rename_i j hj
        have hrj := idxA_some hj
        refine .optr j 0 i o v (by unfold Mem.view; rw [viewR_len]; exact some_lt hrj) (fun z hz => ⟨Nat.zero_le _, fun _ => ?_⟩)
        obtain ⟨r', y', e1, e2, e3⟩ := viewR_at (m := m) (l := rs) (by exact hz)
        rw [hrj] at e1; cases e1
        rw [hy1] at e2; cases e2
        subst e3
        refine ⟨ti, gb, n, c, hT, ?_, h0, h1, hv⟩
        show η.r (rs.getD j 0) = _
        rw [getD_of_some hrj]; exact hη
      · exact .bad v
    · exact .bad v
  | xptr b o n i hb h0 h1 =>
    unfold AV.ren
    split
    · rename_i j hj
      have hbj := idxA_some hj
      have := VR.xptr (T := T) (S := S') (w := w) (m := m.view bs rs lend) (η := η.view bs rs x) j o n i (by unfold Mem.view; rw [viewB_len]; exact some_lt hbj) h0 h1
      have e : (η.view bs rs x).b j = η.b b := by show η.b (bs.getD j 0) = _; rw [getD_of_some hbj]
      rwa [e] at this
    · exact .bad _
  | fn f => exact .fn f
  | opq n => exact .opq n
  | und => exact .und
  | bad v => exact .bad v
/-- The view is memory of its own. -/
theorem MR.view (hm : MR T w η m) {bs rs : List Nat} (hb : nodupA bs = true) (hr : nodupA rs = true) {lend : Bool} {x : Nat → Prop}
    (hS : ∀ k, k < w.heap.size → Safe η m k → Safe (η.view bs rs x) (m.view bs rs lend) k)
    (hl : lend = true → ∀ r y k, m.rw[r]? = some (some y) → r ∉ rs → (η.r r).ownBlock = some k → Safe (η.view bs rs x) (m.view bs rs lend) k)
    (hxb : ∀ b y, b ∈ bs → m.bx[b]? = some (some y) → ¬ x (η.b b)) (hxr : ∀ r y k, r ∈ rs → m.rw[r]? = some (some y) → (η.r r).ownBlock = some k → ¬ x k) (hxl : ∀ k, x k → k < w.heap.size) :
    MR T w (η.view bs rs x) (m.view bs rs lend) := by
  have eb : ∀ i b, bs[i]? = some b → (η.view bs rs x).b i = η.b b := fun i b h => by show η.b (bs.getD i 0) = _; rw [getD_of_some h]
  have er : ∀ i r, rs[i]? = some r → (η.view bs rs x).r i = η.r r := fun i r h => by show η.r (rs.getD i 0) = _; rw [getD_of_some h]
  refine ⟨fun i t vs hi => ?_, fun i y hi => ?_, fun i j y z hi hj e => ?_, fun i j y z hi hj e => ?_, fun i j y z k hi hj e1 e2 => ?_, fun i y hi => ?_, fun i y k hi e => ?_, hxl, T.glN w w _ _ hm.gl hS (.refl _ _)⟩
  · obtain ⟨b, us, h1, h2, rfl⟩ := viewB_at hi
    obtain ⟨cs, hc, hv⟩ := hm.bx b t us h2
    refine ⟨cs, by rw [eb i b h1]; exact hc, by simpa using hv.1, fun j a c ha hcc => ?_⟩
    rw [List.getElem?_map] at ha
    cases hu : us[j]? with
    | none => rw [hu] at ha; simp at ha
    | some u => rw [hu] at ha; simp at ha; subst ha; exact (hv.2 j u c hu hcc).ren hm hS hl
  · obtain ⟨r, z, h1, h2, rfl⟩ := viewR_at hi
    obtain ⟨ti, inner, hT, ho, hR⟩ := hm.rw r z h2
    exact ⟨ti, inner, hT, by rw [er i r h1]; exact ho, hR.mono hS⟩
  · obtain ⟨b, us, h1, h2, _⟩ := viewB_at (t := y.1) (vs := y.2) hi
    obtain ⟨b', us', h1', h2', _⟩ := viewB_at (t := z.1) (vs := z.2) hj
    rw [eb i b h1, eb j b' h1'] at e
    have := hm.bb b b' _ _ h2 h2' e
    subst this
    exact nodupA_inj hb i j b h1 h1'
  · obtain ⟨b, us, h1, h2, _⟩ := viewB_at (t := y.1) (vs := y.2) hi
    obtain ⟨r, u, h1', h2', _⟩ := viewR_at hj
    rw [eb i b h1, er j r h1'] at e
    exact hm.br b r _ _ h2 h2' e
  · obtain ⟨r, u, h1, h2, _⟩ := viewR_at hi
    obtain ⟨r', u', h1', h2', _⟩ := viewR_at hj
    rw [er i r h1] at e1; rw [er j r' h1'] at e2
    have := hm.rr r r' _ _ k h2 h2' e1 e2
    subst this
    exact nodupA_inj hr i j r h1 h1'
  · obtain ⟨b, us, h1, h2, _⟩ := viewB_at (t := y.1) (vs := y.2) hi
    rw [eb i b h1]; exact hxb b _ (List.mem_of_getElem? h1) h2
  · obtain ⟨r, u, h1, h2, _⟩ := viewR_at hi
    rw [er i r h1] at e; exact hxr r _ k (List.mem_of_getElem? h1) h2 e
/-- What the view owns, the whole owns. -/
theorem view_owned (hm : MR T w η m) {bs rs : List Nat} {lend : Bool} {x : Nat → Prop} {k : Nat} (h : Owned (η.view bs rs x) (m.view bs rs lend) k) :
    (∃ b y, b ∈ bs ∧ m.bx[b]? = some (some y) ∧ η.b b = k) ∨ (∃ r y, r ∈ rs ∧ m.rw[r]? = some (some y) ∧ (η.r r).ownBlock = some k) ∨ x k := by
  rcases h with (⟨i, y, hi, e⟩ | ⟨i, y, hi, e⟩) | hx
  · obtain ⟨b, us, h1, h2, _⟩ := viewB_at (t := y.1) (vs := y.2) hi
    exact .inl ⟨b, _, List.mem_of_getElem? h1, h2, by rw [← e]; show η.b b = η.b (bs.getD i 0); rw [getD_of_some h1]⟩
  · obtain ⟨r, u, h1, h2, _⟩ := viewR_at hi
    refine .inr (.inl ⟨r, _, List.mem_of_getElem? h1, h2, ?_⟩)
    rw [← e]; show _ = (η.r (rs.getD i 0)).ownBlock; rw [getD_of_some h1]
  · exact .inr (.inr hx)
end
end Am
