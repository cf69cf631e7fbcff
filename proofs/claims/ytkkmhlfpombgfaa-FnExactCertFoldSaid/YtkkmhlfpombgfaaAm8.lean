/- The abstract machine, part 8: rows made, written and appended to. -/
import Derived.Test.YtkkmhlfpombgfaaAm7
import Derived.Maps.AppendAt
set_option linter.unusedVariables false
set_option linter.unusedSectionVars false
set_option linter.unusedSimpArgs false
namespace Am
open Go
variable {τ : TypeId → Type}
section
variable {T : Tab τ} {P : Program} {w w' w2 : World} {m m' m2 : Mem τ} {η η' η2 : Eta} {tm : List (AV τ)} {S : Nat → Prop}
theorem putMany_take {α : Type _} {l us : List α} {p N : Nat} (h : p + us.length ≤ N) (hN : N ≤ l.length) : (putMany l p us).take N = putMany (l.take N) p us := by
  unfold putMany
  have e : (l.take p ++ us).length = p + us.length := by simp; omega
  rw [List.take_append, e, List.take_of_length_le (by rw [e]; exact h), List.take_take, Nat.min_eq_left (by omega), List.drop_take]
theorem idx_split {sz j o j' o' : Nat} (ho : o < sz) (ho' : o' < sz) (h : j * sz + o = j' * sz + o') : j = j' ∧ o = o' := by
  have h1 : (j * sz + o) / sz = j := by rw [Nat.mul_comm, Nat.mul_add_div (by omega), Nat.div_eq_of_lt ho]; rfl
  have h2 : (j' * sz + o') / sz = j' := by rw [Nat.mul_comm, Nat.mul_add_div (by omega), Nat.div_eq_of_lt ho']; rfl
  have e : j = j' := by rw [← h1, ← h2, h]
  subst e; exact ⟨rfl, by omega⟩
/-- An element's cells, some of them written. -/
theorem RowR.put {ti : TI} {xs : List (List (Lf τ))} {inner : List Value} (h : RowR T S w ti xs inner) {n : Nat} (hn : inner.length = xs.length * ti.sz) {i o : Nat} {row lfs : List (Lf τ)} {us : List Value} (hi : xs[i]? = some row) (hl : o + lfs.length ≤ ti.sz) (hlu : us.length = lfs.length)
    (hv : ∀ (j : Nat) (lf : Lf τ) (lt : LT) (u : Value), lfs[j]? = some lf → ti.lts[o + j]? = some lt → us[j]? = some u → LR T S w lt lf u) :
    RowR T S w ti (xs.set i (putMany row o lfs)) (putMany inner (i * ti.sz + o) us) := by
  have hrow := h.1 row (List.mem_of_getElem? hi)
  have hil := some_lt hi
  have hroom : i * ti.sz + o + us.length ≤ inner.length := by
    rw [hn, hlu]
    have : (i + 1) * ti.sz ≤ xs.length * ti.sz := Nat.mul_le_mul_right _ hil
    rw [Nat.add_mul, Nat.one_mul] at this; omega
  refine ⟨fun r hr => ?_, fun j r o' lf lt v hj ho hlt hv' => ?_⟩
  · rcases List.mem_or_eq_of_mem_set hr with h1 | h1
    · exact h.1 r h1
    · rw [h1, putMany_len (by rw [hrow]; exact hl)]; exact hrow
  · have ho' : o' < ti.sz := some_lt hlt
    rcases getElem?_set' hj with ⟨rfl, rfl, _⟩ | ⟨hne, hj⟩
    · rcases putMany_at (by rw [hrow]; exact hl) ho with ⟨h1, h2⟩ | ⟨h1, h2⟩ <;> rcases putMany_at hroom hv' with ⟨h3, h4⟩ | ⟨h3, h4⟩
      · refine hv (o' - o) lf lt v h2 (by rw [show o + (o' - o) = o' by omega]; exact hlt) ?_
        rw [← h4]; congr 1; omega
      · have := some_lt h2; omega
      · have := some_lt h4; omega
      · exact h.2 i row o' lf lt v hi h2 hlt h4
    · rcases putMany_at hroom hv' with ⟨h3, h4⟩ | ⟨h3, h4⟩
      · have h5 := some_lt h4
        exfalso
        have : ∃ q, q < ti.sz ∧ j * ti.sz + o' = i * ti.sz + q := ⟨j * ti.sz + o' - i * ti.sz, by omega, by omega⟩
        obtain ⟨q, hq, e⟩ := this
        exact hne (idx_split ho' hq e).1.symm
      · exact h.2 j r o' lf lt v hj ho hlt h4
/-- A store into an element of a row of one's own. -/
theorem MR.storeR (h : MR T w η m) {r : Nat} {x : Rw τ} (hr : m.rw[r]? = some (some x)) {gb n c : Nat} (hv : η.r r = .slice (some ⟨gb, 0, none⟩) n c) {te : TI} (hT : T x.e = some te) {i o : Nat} {row lfs : List (Lf τ)} {us : List Value} {y : τ x.e} (hy : T.row x.e y = putMany row o lfs) (hi' : (x.xs.map (T.row x.e))[i]? = some row)
    (hl : o + lfs.length ≤ te.sz) (hlu : us.length = lfs.length) (hus : ∀ (j : Nat) (lf : Lf τ) (lt : LT) (u : Value), lfs[j]? = some lf → te.lts[o + j]? = some lt → us[j]? = some u → LR T (Safe η m) w lt lf u) :
    ∃ cur : List Value, w.heap[gb]? = some (.cells cur.toArray x.e (0, 0)) ∧ i * te.sz + o + us.length ≤ cur.length ∧
      Step T w m η (w.setCells gb (i * te.sz + o) us) { m with rw := m.rw.set r (some ⟨x.e, x.xs.set i y, x.g⟩) } η := by
  obtain ⟨te', inner, hT', ho, hR⟩ := h.rw r x hr
  rw [hT] at hT'; cases hT'
  have hil : i < x.xs.length := by have := some_lt hi'; simpa using this
  obtain ⟨hlen, hrest⟩ := ho
  rcases hrest with ⟨e, _⟩ | ⟨g, cap, cur, e, hb, hg, hnc, hcm, hcs, htake⟩
  · rw [hv] at e; cases e
  rw [hv] at e
  simp only [Value.slice.injEq, Option.some.injEq, Addr.mk.injEq, and_true] at e
  obtain ⟨rfl, rfl, rfl⟩ := e
  have hg' : w.heap[gb]? = some (.cells cur.toList.toArray x.e (0, 0)) := by simpa using hg
  have hroom : i * te.sz + o + us.length ≤ inner.length := by
    rw [hlen, hlu]
    have : (i + 1) * te.sz ≤ x.xs.length * te.sz := Nat.mul_le_mul_right _ hil
    rw [Nat.add_mul, Nat.one_mul] at this; omega
  have hcl : inner.length ≤ cur.toList.length := by rw [← htake, List.length_take]; omega
  refine ⟨cur.toList, hg', by omega, ?_⟩
  obtain ⟨hfr, hsz⟩ := setCells_frame gb us (i * te.sz + o) w
  have hη : η.addR r (η.r r) = η := by
    unfold Eta.addR
    have : (fun y => if y = r then η.r r else η.r y) = η.r := funext fun y => by split <;> simp_all
    rw [this]
  have hs := h.updR (xs := x.xs.set i y) (g := x.g) (v := η.r r) hr (Nat.le_refl _) hT (w' := w.setCells gb (i * te.sz + o) us) (inner := putMany inner (i * te.sz + o) us)
    (hfr.mono (fun k hk e => hk (by rw [hv, e]; rfl)))
    ⟨by rw [putMany_len hroom, List.length_set]; exact hlen, .inr ⟨gb, c, (putMany cur.toList (i * te.sz + o) us).toArray, by rw [hv, List.length_set], hb, setCells_heap us _ w cur.toList hg' (by omega), by rw [List.length_set]; exact hnc, hcm, by
        simp only [List.size_toArray]; rw [putMany_len (by omega)]; simpa using hcs, by
        rw [List.length_set]
        have hlt : i * te.sz + o + us.length ≤ x.xs.length * te.sz := by rw [hlen] at hroom; exact hroom
        rw [← htake]
        exact putMany_take hlt (by rw [htake, ← hlen] at *; omega)⟩⟩
    (fun k hk => .inl hk) (fun _ => rfl) (by rw [List.map_set, hy]; exact hR.put (n := 0) (by rw [List.length_map]; exact hlen) hi' hl hlu hus)
  rw [hη] at hs
  exact hs
end
end Am
