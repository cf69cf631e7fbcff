/- The abstract machine, part 15: append, copy, slices of rows. -/
import Derived.Test.YtkkmhlfpombgfaaAm14
set_option linter.unusedVariables false
set_option linter.unusedSectionVars false
set_option linter.unusedSimpArgs false
namespace Am
open Go
variable {τ : TypeId → Type}
/-- The elements of a slice. -/
def elemsA (m : Mem τ) (e : TypeId) : AV τ → Option (List (τ e))
  | .sl e' rows => if h : e' = e then some (h ▸ rows) else none
  | .own r g => match m.valid r g with
    | some x => if h : x.e = e then some (h ▸ x.xs) else none
    | none => none
  | .nil => some []
  | _ => none
def appendA (T : Tab τ) (by_ : TypeId → Nat) (m : Mem τ) (t : TypeId) (s x : AV τ) : Option (AV τ × Mem τ) :=
  match T t with
  | some ts => match ts.d with
    | .sl e => match T e with
      | some te => if te.plain = true ∧ 0 < te.sz then
          match s with
          | .own r g => match m.valid r g with
            | some y => if y.e = e then
                match elemsA m y.e x with
                | some ys => if y.xs.length + ys.length ≤ 140737488355328 / by_ e then some (.own r (g + 1), { m with rw := m.rw.set r (some ⟨y.e, y.xs ++ ys, g + 1⟩) }) else none
                | none => none
              else none
            | none => none
          | .nil => match elemsA m e x with
            | some ys => if ys.length ≤ 140737488355328 / by_ e then some (.own m.rw.length 0, m.addRw e ys) else none
            | none => none
          | _ => none
        else none
      | none => none
    | _ => none
  | none => none
section
variable {T : Tab τ} {P : Program} {by_ : TypeId → Nat} {w w' w2 : World} {m m' m2 : Mem τ} {η η' η2 : Eta} {tm : List (AV τ)} {S : Nat → Prop}
theorem LR.one {lt : LT} {lf : Lf τ} {v : Value} (h : LR T S w lt lf v) : v.oneCell' = true := by cases h <;> rfl
/-- The cells that a slice's elements stand in. -/
theorem elems_cells (hm : MR T w η m) {x : AV τ} {v : Value} {e : TypeId} {te : TI} (hT : T e = some te) {ys : List (τ e)} (h : elemsA m e x = some ys) (hv : VR T (Safe η m) w m η x v) :
    ∃ A c, v = .slice A ys.length c ∧ ∃ news : List Value, news.length = ys.length * te.sz ∧ RowR T (Safe η m) w te (ys.map (T.row e)) news ∧ (∀ u ∈ news, u.oneCell' = true) ∧ ((A = none ∧ ys = []) ∨ ∃ ad, A = some ad ∧ ∀ (j : Nat) (u : Value), news[j]? = some u → w.cell? (ad.add j) = some u) := by
  unfold elemsA at h
  split at h
  · rename_i e' rows
    split at h
    case isFalse => cases h
    rename_i hee
    subst hee
    have h2 : ys = rows := (Option.some.inj h).symm
    subst h2
    have hL := hv.sl_inv
    cases hL with
    | sl _ ti hT2 _ A c hc vf hA hl hh =>
      rw [hT] at hT2; cases hT2
      by_cases hn : ys = []
      · subst hn
        refine ⟨A, c, rfl, [], by simp, ⟨by simp, fun j row o lf lt v h => by simp at h⟩, by simp, ?_⟩
        cases A with
        | none => exact .inl ⟨rfl, rfl⟩
        | some ad => exact .inr ⟨ad, rfl, fun j u h => by simp at h⟩
      · obtain ⟨ad, rfl, _, _, hcell⟩ := hA hn
        have hpos : ∀ j, j < ys.length * te.sz → 0 < te.sz := fun j hj => by
          rcases Nat.eq_zero_or_pos te.sz with h0 | h0
          · rw [h0] at hj; simp at hj
          · exact h0
        have hdiv : ∀ j, j < ys.length * te.sz → j / te.sz < ys.length ∧ j % te.sz < te.sz ∧ j / te.sz * te.sz + j % te.sz = j := fun j hj =>
          ⟨by rw [Nat.div_lt_iff_lt_mul (hpos j hj)]; exact hj, Nat.mod_lt _ (hpos j hj), by rw [Nat.mul_comm]; exact Nat.div_add_mod j te.sz⟩
        have hnews : ∀ (j : Nat) (u : Value), ((List.range (ys.length * te.sz)).map fun j => vf (j / te.sz) (j % te.sz))[j]? = some u → j < ys.length * te.sz ∧ u = vf (j / te.sz) (j % te.sz) := fun j u hj => by
          rw [List.getElem?_map] at hj
          by_cases hlt : j < ys.length * te.sz
          · rw [List.getElem?_range hlt] at hj; simp at hj; exact ⟨hlt, hj.symm⟩
          · rw [List.getElem?_eq_none (by simpa using hlt)] at hj; simp at hj
        have hleaf : ∀ j, j < ys.length * te.sz → ∃ lt lf, LR T (Safe η m) w lt lf (vf (j / te.sz) (j % te.sz)) := fun j hj => by
          obtain ⟨h1, h2, _⟩ := hdiv j hj
          have hr := hl (j / te.sz) _ (map_at h1)
          exact ⟨_, _, hh _ _ (j % te.sz) _ _ (map_at h1) (List.getElem?_eq_getElem (by rw [hr]; exact h2)) (List.getElem?_eq_getElem h2)⟩
        refine ⟨some ad, c, rfl, (List.range (ys.length * te.sz)).map fun j => vf (j / te.sz) (j % te.sz), by simp, ⟨fun row hrow => ?_, fun j row o lf lt v h1 h2 h3 h4 => ?_⟩, fun u hu => ?_, .inr ⟨ad, rfl, fun j u hj => ?_⟩⟩
        · obtain ⟨j, hj⟩ := List.getElem?_of_mem hrow; exact hl j row hj
        · obtain ⟨hlt, e⟩ := hnews _ _ h4
          have ho : o < te.sz := some_lt h3
          have e1 : (j * te.sz + o) / te.sz = j := by rw [Nat.mul_comm, Nat.mul_add_div (by omega), Nat.div_eq_of_lt ho]; rfl
          have e2 : (j * te.sz + o) % te.sz = o := by rw [Nat.add_comm]; exact (Nat.add_mul_mod_self_right o j te.sz).trans (Nat.mod_eq_of_lt ho)
          rw [e1, e2] at e; subst e
          exact hh j row o lf lt h1 h2 h3
        · obtain ⟨j, hj⟩ := List.getElem?_of_mem hu
          obtain ⟨hlt, rfl⟩ := hnews _ _ hj
          obtain ⟨lt, lf, h5⟩ := hleaf j hlt
          exact h5.one
        · obtain ⟨hlt, rfl⟩ := hnews _ _ hj
          obtain ⟨h1, h2, h3⟩ := hdiv j hlt
          have := hcell _ _ h1 h2
          rwa [h3] at this
  · rename_i r g
    split at h
    case h_2 => cases h
    rename_i x hx
    split at h
    case isFalse => cases h
    rename_i hee
    subst hee
    cases h
    obtain ⟨A, c, hve, hc, hη, _⟩ := own_val hm hv hx
    obtain ⟨hxr, hg⟩ := Mem.valid_some hx
    obtain ⟨ti, inner, hT2, ho, hR⟩ := hm.rw r x hxr
    rw [hT] at hT2; cases hT2
    refine ⟨A, c, hve, inner, ho.1, hR, fun u hu => ?_, ?_⟩
    · obtain ⟨j, hj⟩ := List.getElem?_of_mem hu
      have hjl := some_lt hj
      rw [ho.1] at hjl
      have hpos : 0 < te.sz := by
        rcases Nat.eq_zero_or_pos te.sz with h0 | h0
        · rw [h0] at hjl; simp at hjl
        · exact h0
      have h1 : j / te.sz < x.xs.length := by rw [Nat.div_lt_iff_lt_mul hpos]; exact hjl
      have h2 : j % te.sz < te.sz := Nat.mod_lt _ hpos
      have hr := hR.1 _ (List.mem_of_getElem? (map_at h1))
      exact (hR.2 (j / te.sz) _ (j % te.sz) _ _ u (map_at h1) (List.getElem?_eq_getElem (by rw [hr]; exact h2)) (List.getElem?_eq_getElem h2) (by rw [Nat.mul_comm, Nat.div_add_mod]; exact hj)).one
    · have hcells := ho
      rcases ho.2 with ⟨e1, hn⟩ | ⟨gb, cap, cur, e1, _⟩
      · left
        rw [← hη, hve, Value.slice.injEq] at e1
        exact ⟨e1.1, List.eq_nil_of_length_eq_zero hn⟩
      · right
        have e2 := e1
        rw [← hη, hve, Value.slice.injEq] at e1
        refine ⟨⟨gb, 0, none⟩, e1.1, fun j u hj => ?_⟩
        rw [addr_plain, Nat.zero_add, own_cell hcells e2 (by rw [← hcells.1]; exact some_lt hj)]
        exact hj
  · cases h
    cases hv
    exact ⟨none, 0, rfl, [], by simp, ⟨by simp, fun j row o lf lt v h => by simp at h⟩, by simp, .inl ⟨rfl, rfl⟩⟩
  · cases h
theorem RowR.append {te : TI} {xs ys : List (List (Lf τ))} {inner news : List Value} (h : RowR T S w te xs inner) (hl : inner.length = xs.length * te.sz) (k : RowR T S w te ys news) : RowR T S w te (xs ++ ys) (inner ++ news) := by
  refine ⟨fun row hr => (List.mem_append.1 hr).elim (h.1 row) (k.1 row), fun j row o lf lt v h1 h2 h3 h4 => ?_⟩
  have ho : o < te.sz := some_lt h3
  rcases Nat.lt_or_ge j xs.length with c | c
  · rw [List.getElem?_append_left c] at h1
    have : j * te.sz + o < inner.length := by
      rw [hl]
      have : (j + 1) * te.sz ≤ xs.length * te.sz := Nat.mul_le_mul_right _ c
      rw [Nat.add_mul, Nat.one_mul] at this; omega
    rw [List.getElem?_append_left this] at h4
    exact h.2 j row o lf lt v h1 h2 h3 h4
  · rw [List.getElem?_append_right c] at h1
    have h5 : xs.length * te.sz ≤ j * te.sz := Nat.mul_le_mul_right _ c
    rw [List.getElem?_append_right (by omega)] at h4
    refine k.2 (j - xs.length) row o lf lt v h1 h2 h3 ?_
    rw [← h4, hl, Nat.sub_mul]
    congr 1; omega
theorem grown_agree {row : Option Nat} (h : w.grownBy w' row) : Agree (fun k => row ≠ some k) w w' := ⟨h.os, h.tape, h.output, h.size, fun k hk hl => h.block k hl (fun e => hk e.symm)⟩
theorem run_append_none (base : Nat) (t ty e : TypeId) (i : TypeInfo) (size : Nat) (ht : P.underlying t = some (.slice e)) (hi : P.info? e = some i) (v : Value) (n c : Nat) (xs : List Value) (hown : w.ownsRow base e size v n xs) :
    (Builtin.append_ #[t, t] ty #[v, .slice none 0 c]).run P w = .ok v w := by
  rcases hown.2 with ⟨rfl, rfl⟩ | ⟨g, cap, cur, rfl, _, _, hnc, _⟩
  · simp [Builtin.append_, run_underlying ht, Go.sizeOf, typeInfo, hi, Builtin.lenOf, Builtin.firstCells]
  · simp [Builtin.append_, run_underlying ht, Go.sizeOf, typeInfo, hi, Builtin.lenOf, Builtin.firstCells, hnc, storeCells]
theorem grownBy_refl (w : World) (row : Option Nat) : w.grownBy w row := ⟨rfl, rfl, rfl, Nat.le_refl _, fun _ _ _ => rfl⟩
theorem appendA_sound (hP : PZ P T by_) (hm : MR T w η m) {t ty : TypeId} {s x r : AV τ} {vs vx : Value} (h : appendA T by_ m t s x = some (r, m')) (hs : VR T (Safe η m) w m η s vs) (hx : VR T (Safe η m) w m η x vx) :
    ∃ v w' η', (Builtin.append_ #[t, t] ty #[vs, vx]).run P w = .ok v w' ∧ Step T w m η w' m' η' ∧ VR T (Safe η' m') w' m' η' r v := by
  unfold appendA at h
  split at h
  case h_2 => cases h
  rename_i ts hTs
  split at h
  case h_2 => cases h
  rename_i e hd
  split at h
  case h_2 => cases h
  rename_i te hT
  split at h
  case isFalse => cases h
  rename_i hcond
  obtain ⟨hpl, hpos⟩ := hcond
  have hu := hP.sl t ts e hTs hd
  obtain ⟨i, z, hi, hsz, hz, hzc, hby, hb0, _⟩ := hP.zero e te hT hpl
  have hzs : z.cells.size = te.sz := by rw [← Array.length_toList, hzc]; simp [TI.sz]
  have lim : ∀ n : Nat, n ≤ 140737488355328 / by_ e → n * by_ e ≤ 140737488355328 ∧ n ≤ maxLen := fun n hn => by
    have h1 := (Nat.le_div_iff_mul_le hb0).1 hn
    have : n ≤ n * by_ e := Nat.le_mul_of_pos_right _ hb0
    exact ⟨h1, by simp only [maxLen]; omega⟩
  split at h
  · rename_i r' g
    split at h
    case h_2 => cases h
    rename_i y hy
    split at h
    case isFalse => cases h
    rename_i hye
    split at h
    case h_2 => cases h
    rename_i ys hys
    subst hye
    split at h
    case isFalse => cases h
    rename_i hlim
    obtain ⟨A, c, hvx, news, hnl, hnR, hn1, hA⟩ := elems_cells hm hT hys hx
    subst hvx
    cases h
    obtain ⟨hl1, hl2⟩ := lim _ hlim
    have hve := hs.own_inv hy
    obtain ⟨hxr, hg⟩ := Mem.valid_some hy
    obtain ⟨ti, inner, hT2, ho, hR⟩ := hm.rw r' y hxr
    rw [hT] at hT2; cases hT2
    subst hve
    have run : ∃ v' w', (Builtin.append_ #[t, t] ty #[η.r r', .slice A ys.length c]).run P w = .ok v' w' ∧ w'.ownsRow 0 y.e te.sz v' (y.xs.length + ys.length) (inner ++ news) ∧ w.grownBy w' (η.r r').ownBlock ∧ (v'.ownBlock = (η.r r').ownBlock ∨ v'.ownBlock = some w.heap.size) := by
      rcases hA with ⟨rfl, hnil⟩ | ⟨ad, rfl, hcell⟩
      · subst hnil
        have hnn : news = [] := List.eq_nil_of_length_eq_zero (by rw [hnl]; simp)
        subst hnn
        exact ⟨_, _, run_append_none 0 t ty y.e i te.sz hu hi (η.r r') y.xs.length c inner ho, by simpa using ho, grownBy_refl w _, .inl rfl⟩
      · obtain ⟨v', w', h1, h2, h3, _, h5⟩ := run_append_own_at (P := P) w 0 t ty y.e i z te.sz (by_ y.e) hu hi hz hsz hby hzs hpos (η.r r') y.xs.length inner ho ad ys.length c news hnl hcell hn1 hl2 hl1 (Nat.zero_le _)
        exact ⟨v', w', h1, h2, h3, h5⟩
    obtain ⟨v', w', h1, h2, h3, h5⟩ := run
    have hst := hm.updR (xs := y.xs ++ ys) (g := g + 1) (v := v') (inner := inner ++ news) hxr (by omega) hT (grown_agree h3) (by rw [List.length_append]; exact h2) (fun k hk => by
      rcases h5 with e5 | e5
      · left; rw [← e5]; exact hk
      · right; rw [e5] at hk; cases hk; exact Nat.le_refl _) (fun e5 => by omega) (by rw [List.map_append]; exact hR.append (by rw [List.length_map]; exact ho.1) hnR)
    refine ⟨v', w', _, h1, hst, .own _ _ _ (by simp; exact some_lt hxr) (fun x' hx' => ?_)⟩
    simp [some_lt hxr] at hx'
    subst hx'
    exact ⟨Nat.le_refl _, fun _ => by simp [Eta.addR]⟩
  · split at h
    case h_2 => cases h
    rename_i ys hys
    split at h
    case isFalse => cases h
    rename_i hlim
    obtain ⟨A, c, hvx, news, hnl, hnR, hn1, hA⟩ := elems_cells hm hT hys hx
    subst hvx
    cases h
    obtain ⟨hl1, hl2⟩ := lim _ hlim
    cases hs
    have run : ∃ v' w', (Builtin.append_ #[t, t] ty #[.slice none 0 0, .slice A ys.length c]).run P w = .ok v' w' ∧ w'.ownsRow 0 e te.sz v' ys.length news ∧ w.grownBy w' none ∧ (v'.ownBlock = none ∨ v'.ownBlock = some w.heap.size) := by
      have ho : w.ownsRow 0 e te.sz (.slice none 0 0) 0 [] := ⟨by simp, .inl ⟨rfl, rfl⟩⟩
      rcases hA with ⟨rfl, hnil⟩ | ⟨ad, rfl, hcell⟩
      · subst hnil
        have hnn : news = [] := List.eq_nil_of_length_eq_zero (by rw [hnl]; simp)
        subst hnn
        exact ⟨_, _, run_append_none 0 t ty e i te.sz hu hi (.slice none 0 0) 0 c [] ho, ho, grownBy_refl w _, .inl rfl⟩
      · obtain ⟨v', w', h1, h2, h3, _, h5⟩ := run_append_own_at (P := P) w 0 t ty e i z te.sz (by_ e) hu hi hz hsz hby hzs hpos (.slice none 0 0) 0 [] ho ad ys.length c news hnl hcell hn1 (by rw [Nat.zero_add]; exact hl2) (by rw [Nat.zero_add]; exact hl1) (Nat.zero_le _)
        exact ⟨v', w', h1, by simpa using h2, h3, h5⟩
    obtain ⟨v', w', h1, h2, h3, h5⟩ := run
    have hag : Agree (fun _ => True) w w' := (grown_agree h3).mono (fun k _ => by simp)
    have hst := hm.addR (v := v') (inner := news) hT hag h2 (fun k hk => by
      rcases h5 with e5 | e5
      · rw [e5] at hk; cases hk
      · rw [e5] at hk; cases hk; exact Nat.le_refl _) hnR
    refine ⟨v', w', _, h1, hst, .own _ _ _ (by simp [Mem.addRw]) (fun x' hx' => ?_)⟩
    simp [Mem.addRw] at hx'
    subst hx'
    exact ⟨Nat.le_refl _, fun _ => by simp [Eta.addR]⟩
  · cases h
end
end Am
