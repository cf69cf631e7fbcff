/- The abstract machine, part 17: copy, slices of slices, equality. -/
import Derived.Test.YtkkmhlfpombgfaaAm16
set_option linter.unusedVariables false
set_option linter.unusedSectionVars false
set_option linter.unusedSimpArgs false
namespace Am
open Go
variable {τ : TypeId → Type}
def copyA (T : Tab τ) (m : Mem τ) (t : TypeId) (d s : AV τ) : Option (AV τ × Mem τ) :=
  match T t with
  | some ts => match ts.d with
    | .sl e => match T e with
      | some te => match d with
        | .own r g => match m.valid r g with
          | some y => if y.e = e then
              match elemsA m y.e s with
              | some ys => some (.int .i64 (Nat.min ys.length y.xs.length : Nat), { m with rw := m.rw.set r (some ⟨y.e, ys.take y.xs.length ++ y.xs.drop ys.length, y.g⟩) })
              | none => none
            else none
          | none => none
        | _ => none
      | none => none
    | _ => none
  | none => none
section
variable {T : Tab τ} {P : Program} {by_ : TypeId → Nat} {w w' w2 : World} {m m' m2 : Mem τ} {η η' η2 : Eta} {tm : List (AV τ)} {S : Nat → Prop}
theorem RowR.cat {te : TI} {xs ys : List (List (Lf τ))} {inner news : List Value} (h : RowR T S w te xs inner) (hl : inner.length = xs.length * te.sz) (k : RowR T S w te ys news) : RowR T S w te (xs ++ ys) (inner ++ news) := h.append hl k
theorem RowR.drop {te : TI} {xs : List (List (Lf τ))} {inner : List Value} (h : RowR T S w te xs inner) (n : Nat) : RowR T S w te (xs.drop n) (inner.drop (n * te.sz)) := by
  refine ⟨fun row hr => h.1 row (List.mem_of_mem_drop hr), fun j row o lf lt v h1 h2 h3 h4 => ?_⟩
  rw [List.getElem?_drop] at h1 h4
  refine h.2 (n + j) row o lf lt v h1 h2 h3 ?_
  rw [← h4]; congr 1; rw [Nat.add_mul]; omega
theorem RowR.take {te : TI} {xs : List (List (Lf τ))} {inner : List Value} (h : RowR T S w te xs inner) (n : Nat) : RowR T S w te (xs.take n) (inner.take (n * te.sz)) := by
  refine ⟨fun row hr => h.1 row (List.mem_of_mem_take hr), fun j row o lf lt v h1 h2 h3 h4 => ?_⟩
  have h1' := h1
  have h4' := h4
  rw [List.getElem?_take] at h1' h4'
  split at h1'
  · split at h4'
    · exact h.2 j row o lf lt v h1' h2 h3 h4'
    · cases h4'
  · cases h1'
theorem copyA_sound (hP : PZ P T by_) (hm : MR T w η m) {t t2 ty : TypeId} {d s r : AV τ} {vd vs : Value} (h : copyA T m t d s = some (r, m')) (hd : VR T (Safe η m) w m η d vd) (hs : VR T (Safe η m) w m η s vs) :
    ∃ z w', (Builtin.copy_ #[t, t2] ty #[vd, vs]).run P w = .ok z w' ∧ Step T w m η w' m' η ∧ VR T (Safe η m') w' m' η r z := by
  unfold copyA at h
  split at h
  case h_2 => cases h
  rename_i ts hTs
  split at h
  case h_2 => cases h
  rename_i e hde
  split at h
  case h_2 => cases h
  rename_i te hT
  split at h
  case h_2 => cases h
  rename_i r' g
  split at h
  case h_2 => cases h
  rename_i y hy
  split at h
  case isFalse => cases h
  rename_i hye
  split at h
  case h_2 => cases h
  rename_i ys hys
  subst hye
  cases h
  have hu := hP.sl t ts y.e hTs hde
  obtain ⟨i, hi, hsz⟩ := hP.info y.e te hT
  obtain ⟨A, c, hvs, news, hnl, hnR, hn1, hA⟩ := elems_cells hm hT hys hs
  have hve := hd.own_inv hy
  obtain ⟨hxr, hg⟩ := Mem.valid_some hy
  obtain ⟨ti, inner, hT2, ho, hR⟩ := hm.rw r' y hxr
  rw [hT] at hT2; cases hT2
  have hz : (Go.sizeOf y.e).run P w = .ok te.sz w := by simp [Go.sizeOf, typeInfo, hi, hsz]
  have hη : η.addR r' (η.r r') = η := by
    unfold Eta.addR
    have : (fun z => if z = r' then η.r r' else η.r z) = η.r := funext fun z => by split <;> simp_all
    rw [this]
  have hroom : Nat.min ys.length y.xs.length * te.sz ≤ news.length := by rw [hnl]; exact Nat.mul_le_mul_right _ (Nat.min_le_left _ _)
  have hroom2 : Nat.min ys.length y.xs.length * te.sz ≤ inner.length := by rw [ho.1]; exact Nat.mul_le_mul_right _ (Nat.min_le_right _ _)
  have hnewl : (ys.take y.xs.length ++ y.xs.drop ys.length).length = y.xs.length := by simp; omega
  have hinner : putMany inner 0 (news.take (Nat.min ys.length y.xs.length * te.sz)) = news.take (y.xs.length * te.sz) ++ inner.drop (ys.length * te.sz) := by
    unfold putMany
    simp only [List.take_zero, List.nil_append, Nat.zero_add]
    rcases Nat.le_total ys.length y.xs.length with c | c
    · have e1 : Nat.min ys.length y.xs.length = ys.length := Nat.min_eq_left c
      rw [e1, ← hnl, List.take_length, List.take_of_length_le (by rw [hnl]; exact Nat.mul_le_mul_right _ c)]
    · have e1 : Nat.min ys.length y.xs.length = y.xs.length := Nat.min_eq_right c
      have h2 : y.xs.length * te.sz ≤ news.length := by rw [hnl]; exact Nat.mul_le_mul_right _ c
      rw [e1, List.drop_of_length_le (by rw [List.length_take, ho.1]; omega), List.drop_of_length_le (by rw [ho.1]; exact Nat.mul_le_mul_right _ c)]
  have hRn : RowR T (Safe η m) w te ((ys.take y.xs.length ++ y.xs.drop ys.length).map (T.row y.e)) (news.take (y.xs.length * te.sz) ++ inner.drop (ys.length * te.sz)) := by
    rw [List.map_append, List.map_take, List.map_drop]
    refine (hnR.take _).append ?_ (hR.drop _)
    simp only [List.length_take, List.length_map, hnl]
    rcases Nat.le_total ys.length y.xs.length with c | c
    · rw [Nat.min_eq_right (Nat.mul_le_mul_right _ c), Nat.min_eq_right c]
    · rw [Nat.min_eq_left (Nat.mul_le_mul_right _ c), Nat.min_eq_left c]
  subst hve
  subst hvs
  rcases ho.2 with ⟨e1, hn⟩ | ⟨gb, cap, cur, e1, hb, hgc, hnc, hcm, hcs, htake⟩
  · have hs0 := hm.updR (xs := ys.take y.xs.length ++ y.xs.drop ys.length) (g := y.g) (v := η.r r') (inner := []) hxr (Nat.le_refl _) hT (w' := w) (.refl _ _)
      ⟨by rw [hnewl, hn]; simp, .inl ⟨e1, by rw [hnewl]; exact hn⟩⟩ (fun k hk => .inl hk) (fun _ => rfl) (by
        have h0 : ys.take y.xs.length ++ y.xs.drop ys.length = [] := List.eq_nil_of_length_eq_zero (by rw [hnewl]; exact hn)
        rw [h0]; exact ⟨by simp, fun j row o lf lt v h => by simp at h⟩)
    rw [hη] at hs0
    refine ⟨goInt (Nat.min ys.length y.xs.length : Nat), w, ?_, hs0, .int _ _⟩
    rw [e1, hn]
    have hl0 : ∀ (x : Addr), (loadCells x 0).run P w = .ok #[] w := fun x => by simpa using run_loadCells_list (P := P) w x [] (by simp)
    cases A <;> simp [Builtin.copy_, run_underlying hu, Builtin.lenOf, Builtin.firstCells, hz, hl0]
  · have hg' : w.heap[gb]? = some (.cells cur.toList.toArray y.e (0, 0)) := by simpa using hgc
    have hcl : inner.length ≤ cur.toList.length := by rw [← htake, List.length_take]; omega
    obtain ⟨hfr, hszw⟩ := setCells_frame gb (news.take (Nat.min ys.length y.xs.length * te.sz)) 0 w
    have hlen : (news.take (Nat.min ys.length y.xs.length * te.sz)).length = Nat.min ys.length y.xs.length * te.sz := by rw [List.length_take]; omega
    have hs0 := hm.updR (xs := ys.take y.xs.length ++ y.xs.drop ys.length) (g := y.g) (v := η.r r') (w' := w.setCells gb 0 (news.take (Nat.min ys.length y.xs.length * te.sz))) (inner := putMany inner 0 (news.take (Nat.min ys.length y.xs.length * te.sz))) hxr (Nat.le_refl _) hT
      (hfr.mono (fun k hk e => hk (by rw [e1, e]; rfl)))
      ⟨by rw [putMany_len (by rw [hlen]; omega), hnewl]; exact ho.1, .inr ⟨gb, cap, (putMany cur.toList 0 (news.take (Nat.min ys.length y.xs.length * te.sz))).toArray, by rw [e1, hnewl], hb, setCells_heap _ _ w cur.toList hg' (by rw [hlen]; omega), by rw [hnewl]; exact hnc, hcm, by
          simp only [List.size_toArray]; rw [putMany_len (by rw [hlen]; omega)]; simpa using hcs, by
          rw [hnewl, ← htake]
          exact putMany_take (by rw [hlen, Nat.zero_add]; exact Nat.mul_le_mul_right _ (Nat.min_le_right _ _)) (by rw [htake, ← ho.1] at *; exact hcl)⟩⟩
      (fun k hk => .inl hk) (fun _ => rfl) (by rw [hinner]; exact hRn)
    rw [hη] at hs0
    refine ⟨goInt (Nat.min ys.length y.xs.length : Nat), _, ?_, hs0, .int _ _⟩
    rw [e1]
    have hst := run_storeCells_cells (P := P) gb 0 (news.take (Nat.min ys.length y.xs.length * te.sz)) 0 w (fun j hj => by
      rw [cell_of_row w gb _ _ y.e (0, 0) hg']; simp at hj ⊢; simp at hcl; omega) (fun j hj => by simp [World.frozen?, hg']) (fun u hu => hn1 u (List.mem_of_mem_take hu))
    rcases hA with ⟨rfl, hnil⟩ | ⟨ad, rfl, hcell⟩
    · subst hnil
      simp [Builtin.copy_, run_underlying hu, Builtin.lenOf, Builtin.firstCells, hz, storeCells, World.setCells]
    · have hld := run_loadCells_list (P := P) w ad (news.take (Nat.min ys.length y.xs.length * te.sz)) (fun j u hj => by
        have h9 := hj
        rw [List.getElem?_take] at h9
        split at h9
        · exact hcell j u h9
        · cases h9)
      rw [hlen] at hld
      simp only [Nat.add_zero] at hst
      simp [Builtin.copy_, run_underlying hu, Builtin.lenOf, Builtin.firstCells, hz, hld, hst]
end
end Am
