/- The abstract machine, part 6: elements of rows, read and written. -/
import Derived.Test.YtkkmhlfpombgfaaAm5
import Derived.Laws.OwnMore
set_option linter.unusedVariables false
set_option linter.unusedSectionVars false
set_option linter.unusedSimpArgs false
namespace Am
open Go
variable {τ : TypeId → Type}
/-- Cells of an element as values: of these kinds, from place o on. -/
def leafs (lts : List LT) (row : List (Lf τ)) (o n : Nat) : List (AV τ) := ((lts.drop o).take n).zipIdx.map fun (lt, j) => AV.of lt (row.getD (o + j) (.i 0))
/-- A load out of an element. -/
def loadE (T : Tab τ) (t e : TypeId) (row : List (Lf τ)) (o : Nat) : Option (AV τ) :=
  match T t, T e with
  | some ti, some te => if ti.plain = true ∧ ti.lts = (te.lts.drop o).take ti.sz ∧ o + ti.sz ≤ te.sz then packA ti (leafs te.lts row o ti.sz) else none
  | _, _ => none
/-- A value as what a cell of this kind holds. -/
def toLf : LT → AV τ → Option (Lf τ)
  | .int k, .int k' n => if k = k' then some (.i n) else none
  | .bool, .bool b => some (.b b)
  | .str, .str s => some (.s s)
  | .sl e, .sl e' rows => if e = e' then some (.l e' rows) else none
  | .sl e, .nil => some (.l e [])
  | _, _ => none
def toLfs : List LT → List (AV τ) → Option (List (Lf τ))
  | [], [] => some []
  | lt :: ls, a :: as => match toLf lt a, toLfs ls as with
    | some x, some xs => some (x :: xs)
    | _, _ => none
  | _, _ => none
section
variable {T : Tab τ} {P : Program} {w w' : World} {m m' : Mem τ} {η η' : Eta} {tm : List (AV τ)} {S : Nat → Prop}
theorem LR.val {lt : LT} {lf : Lf τ} {v : Value} (h : LR T S w lt lf v) : VR T S w m η (AV.of lt lf) v := by
  cases h with
  | int k n => exact .int k n
  | bool b => exact .bool b
  | str s => exact .str s
  | sl e ti hT rows A c hc vf hA hl h => exact .sl e rows _ (.sl e ti hT rows A c hc vf hA hl h)
theorem leafs_len {lts : List LT} {row : List (Lf τ)} {o n : Nat} (h : o + n ≤ lts.length) : (leafs lts row o n).length = n := by
  unfold leafs; simp; omega
theorem leafs_at {lts : List LT} {row : List (Lf τ)} {o n i : Nat} {a : AV τ} (hr : row.length = lts.length) (h : (leafs lts row o n)[i]? = some a) : i < n ∧ ∃ lt lf, lts[o + i]? = some lt ∧ row[o + i]? = some lf ∧ a = AV.of lt lf := by
  unfold leafs at h
  rw [List.getElem?_map, List.getElem?_zipIdx, List.getElem?_take] at h
  split at h
  · rename_i hi
    rw [List.getElem?_drop] at h
    cases hl : lts[o + i]? with
    | none => rw [hl] at h; simp at h
    | some lt =>
      rw [hl] at h
      simp at h
      have hlt : o + i < row.length := by rw [hr]; exact some_lt hl
      refine ⟨hi, lt, row[o + i], rfl, List.getElem?_eq_getElem hlt, ?_⟩
      rw [← h, List.getElem?_eq_getElem hlt]; rfl
  · simp at h
/-- A load out of an element whose cells are known. -/
theorem loadE_sound (hP : PT P T) {t e : TypeId} {row : List (Lf τ)} {o : Nat} {r : AV τ} (h : loadE T t e row o = some r) {te : TI} (hTe : T e = some te) (hrl : row.length = te.sz) {a : Addr} {vf : Nat → Value}
    (hc : ∀ j, j < te.sz → w.cell? (a.add j) = some (vf j)) (hl : ∀ j lf lt, row[j]? = some lf → te.lts[j]? = some lt → LR T S w lt lf (vf j)) :
    ∃ v, (Instr.loadAt t (.pointer (some (a.add o)))).run P w = .ok v w ∧ VR T S w m η r v := by
  unfold loadE at h
  rw [hTe] at h
  split at h
  case h_2 => cases h
  rename_i ti te' hT he
  cases he
  split at h
  case isFalse => cases h
  rename_i hc3
  obtain ⟨hp, hlts, hsz⟩ := hc3
  have hv : VRs T S w m η (leafs te.lts row o ti.sz) ((List.range ti.sz).map fun j => vf (o + j)) := by
    refine ⟨by rw [leafs_len hsz]; simp, fun i a c ha hc => ?_⟩
    obtain ⟨hi, lt, lf, h1, h2, rfl⟩ := leafs_at hrl ha
    rw [List.getElem?_map, List.getElem?_range hi] at hc
    simp at hc; subst hc
    exact (hl _ _ _ h2 h1).val
  obtain ⟨v, h1, h2⟩ := load_sound (a := a.add o) hP hT hp (leafs_len hsz) hv (fun j v hj => by
    rw [List.getElem?_map] at hj
    by_cases hlt : j < ti.sz
    · rw [List.getElem?_range hlt] at hj
      simp at hj; subst hj
      rw [addr_add]; exact hc _ (by omega)
    · rw [List.getElem?_eq_none (by simpa using hlt)] at hj; simp at hj) h
  exact ⟨v, by simpa [Instr.loadAt, Instr.sureAddr] using h1, h2⟩
theorem map_at {α β : Type _} {f : α → β} {l : List α} {i : Nat} (hi : i < l.length) : (l.map f)[i]? = some (f l[i]) := by simp [List.getElem?_eq_getElem hi]
/-- The elements of a row that is read alone. -/
theorem LR.elem {e : TypeId} {rows : List (τ e)} {ad : Addr} {n c : Nat} (h : LR T S w (.sl e) (.l e rows) (.slice (some ad) n c)) {i : Nat} (hi : i < rows.length) :
    ∃ (te : TI) (vf : Nat → Value), T e = some te ∧ (T.row e rows[i]).length = te.sz ∧ (∀ j, j < te.sz → w.cell? ((ad.add (i * te.sz)).add j) = some (vf j)) ∧ ∀ j lf lt, (T.row e rows[i])[j]? = some lf → te.lts[j]? = some lt → LR T S w lt lf (vf j) := by
  cases h with
  | sl e ti hT rows A c hc vf hA hl h =>
    obtain ⟨ad', h1, hs, hlt, hcell⟩ := hA (by intro e; subst e; simp at hi)
    cases h1
    exact ⟨ti, vf i, hT, hl i _ (map_at hi), fun j hj => by rw [addr_add]; exact hcell i j hi hj, fun j lf lt a b => h i _ j lf lt (map_at hi) a b⟩
theorem own_cell {e : TypeId} {sz n : Nat} {v : Value} {inner : List Value} {b gb c l : Nat} (h : w.ownsRow b e sz v n inner) (hv : v = .slice (some ⟨gb, 0, none⟩) l c) {j : Nat} (hj : j < n * sz) : w.cell? ⟨gb, j, none⟩ = inner[j]? := by
  subst hv
  have hl : l = n := by
    rcases h.2 with ⟨h', _⟩ | ⟨g', cap', cur, h', _⟩
    · simp at h'
    · simp at h'; exact h'.2.1
  subst hl
  exact World.ownsRow.cellAt h j hj
/-- The elements of a row of one's own. -/
theorem MR.elem (h : MR T w η m) {r : Nat} {x : Rw τ} (hr : m.rw[r]? = some (some x)) {gb n c : Nat} (hv : η.r r = .slice (some ⟨gb, 0, none⟩) n c) {i : Nat} (hi : i < x.xs.length) :
    ∃ (te : TI) (vf : Nat → Value), T x.e = some te ∧ (T.row x.e x.xs[i]).length = te.sz ∧ (∀ j, j < te.sz → w.cell? (((⟨gb, 0, none⟩ : Addr).add (i * te.sz)).add j) = some (vf j)) ∧ ∀ j lf lt, (T.row x.e x.xs[i])[j]? = some lf → te.lts[j]? = some lt → LR T (Safe η m) w lt lf (vf j) := by
  obtain ⟨te, inner, hT, ho, hR⟩ := h.rw r x hr
  have hlen := hR.1 _ (List.mem_of_getElem? (map_at hi))
  have hin : ∀ j, j < te.sz → i * te.sz + j < inner.length := fun j hj => by
    rw [ho.1]
    have : (i + 1) * te.sz ≤ x.xs.length * te.sz := Nat.mul_le_mul_right _ hi
    rw [Nat.add_mul, Nat.one_mul] at this; omega
  refine ⟨te, fun j => inner.getD (i * te.sz + j) undef, hT, hlen, fun j hj => ?_, fun j lf lt a b => ?_⟩
  · rw [addr_add, addr_plain, Nat.zero_add, own_cell ho hv (by have := hin j hj; rw [ho.1] at this; exact this)]
    simp [List.getElem?_eq_getElem (hin j hj)]
  · have hj : j < te.sz := by have := some_lt a; omega
    have hh := hin j hj
    refine hR.2 i _ j lf lt _ (map_at hi) a b ?_
    simp [List.getElem?_eq_getElem hh]
theorem toLf_sound {lt : LT} {a : AV τ} {lf : Lf τ} {v : Value} (h : toLf lt a = some lf) (hv : VR T S w m η a v) (hT : ∀ e, lt = .sl e → (T e).isSome) : LR T S w lt lf v := by
  unfold toLf at h
  split at h
  · split at h
    · rename_i hk; subst hk; cases h; rw [hv.int_inv]; exact .int _ _
    · cases h
  · cases h; rw [hv.bool_inv]; exact .bool _
  · cases h; rw [hv.str_inv]; exact .str _
  · split at h
    · rename_i he; subst he; cases h; cases hv with | sl _ _ _ h => exact h
    · cases h
  · cases h
    cases hv
    rename_i e
    obtain ⟨ti, hti⟩ := Option.isSome_iff_exists.1 (hT e rfl)
    exact .sl e ti hti [] none 0 (Nat.le_refl _) (fun _ _ => undef) (fun h => absurd rfl h) (fun j row h => by simp at h) (fun j row o lf lt h => by simp at h)
  · cases h
theorem toLfs_len : ∀ {lts : List LT} {as : List (AV τ)} {lfs : List (Lf τ)}, toLfs lts as = some lfs → lfs.length = lts.length ∧ as.length = lts.length := by
  intro lts
  induction lts with
  | nil => intro as lfs h; cases as <;> simp [toLfs] at h; subst h; simp
  | cons lt ls ih =>
    intro as lfs h
    cases as with
    | nil => simp [toLfs] at h
    | cons a as =>
      simp only [toLfs] at h
      split at h
      · rename_i x xs h1 h2
        cases h
        obtain ⟨a1, a2⟩ := ih h2
        simp [a1, a2]
      · cases h
theorem toLfs_at : ∀ {lts : List LT} {as : List (AV τ)} {lfs : List (Lf τ)}, toLfs lts as = some lfs → ∀ (j : Nat) (lf : Lf τ) (lt : LT) (a : AV τ), lfs[j]? = some lf → lts[j]? = some lt → as[j]? = some a → toLf lt a = some lf := by
  intro lts
  induction lts with
  | nil => intro as lfs h j lf lt a h1 h2; simp at h2
  | cons l ls ih =>
    intro as lfs h j lf lt a h1 h2 h3
    cases as with
    | nil => simp [toLfs] at h
    | cons b bs =>
      simp only [toLfs] at h
      split at h
      · rename_i x xs e1 e2
        cases h
        cases j with
        | zero => simp at h1 h2 h3; subst h1; subst h2; subst h3; exact e1
        | succ j => simp at h1 h2 h3; exact ih e2 j lf lt a h1 h2 h3
      · cases h
end
end Am
