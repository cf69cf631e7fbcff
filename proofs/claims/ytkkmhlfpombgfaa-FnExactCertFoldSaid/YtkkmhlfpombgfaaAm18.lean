/- The abstract machine, part 18: slices of slices. -/
import Derived.Test.YtkkmhlfpombgfaaAm17
set_option linter.unusedVariables false
set_option linter.unusedSectionVars false
set_option linter.unusedSimpArgs false
namespace Am
open Go
variable {τ : TypeId → Type}
/-- A slice of a slice: what must hold of the bounds, and what comes out. -/
def sliceA (T : Tab τ) (m : Mem τ) (t : TypeId) (x : AV τ) (lo hi : Option (AV τ)) : Option (List Bool × AV τ × Mem τ) :=
  match T t with
  | some ts => match ts.d with
    | .sl e => match T e with
      | some te => match x, lo, hi with
        | .sl e' rows, none, some (.int _ h) => if e' = e then some ([decide (0 ≤ h), decide (h ≤ rows.length)], .sl e' (rows.take h.toNat), m) else none
        | .sl e' rows, some (.int _ l), none => if e' = e then some ([decide (0 ≤ l), decide (l ≤ rows.length)], .sl e' (rows.drop l.toNat), m) else none
        | .own r g, none, some (.int _ h) => match m.valid r g with
          | some y => if y.e = e then some ([decide (0 ≤ h), decide (h ≤ y.xs.length)], .own r (g + 1), { m with rw := m.rw.set r (some ⟨y.e, y.xs.take h.toNat, g + 1⟩) }) else none
          | none => none
        | _, _, _ => none
      | none => none
    | _ => none
  | none => none
section
variable {T : Tab τ} {P : Program} {by_ : TypeId → Nat} {w w' w2 : World} {m m' m2 : Mem τ} {η η' η2 : Eta} {tm : List (AV τ)} {S : Nat → Prop}
/-- A part of a slice that is read alone. -/
theorem LR.part {e : TypeId} {rows : List (τ e)} {A : Option Addr} {n c : Nat} (h : LR T S w (.sl e) (.l e rows) (.slice A n c)) {te : TI} (hT : T e = some te) (l : Nat) (rows' : List (τ e)) (c' : Nat) (hc' : rows'.length ≤ c')
    (hr : ∀ j, j < rows'.length → ∃ x, rows'[j]? = some x ∧ rows[l + j]? = some x) (A' : Option Addr) (hA' : rows' ≠ [] → A' = A.map (·.add (l * te.sz))) : LR T S w (.sl e) (.l e rows') (.slice A' rows'.length c') := by
  cases h with
  | sl _ ti hT2 _ A c hc vf hA hl hh =>
    rw [hT] at hT2; cases hT2
    have hmap : ∀ (j : Nat) (row : List (Lf τ)), (rows'.map (T.row e))[j]? = some row → (rows.map (T.row e))[l + j]? = some row := fun j row hj => by
      have hjl := some_lt hj
      rw [List.length_map] at hjl
      obtain ⟨x, h1, h2⟩ := hr j hjl
      rw [List.getElem?_map, h1] at hj
      rw [List.getElem?_map, h2]; exact hj
    refine .sl e te hT rows' A' c' hc' (fun j o => vf (l + j) o) (fun hne => ?_) (fun j row hj => hl _ row (hmap j row hj)) (fun j row o lf lt h1 h2 h3 => hh _ row o lf lt (hmap j row h1) h2 h3)
    have hpos : 0 < rows'.length := List.length_pos_iff.2 hne
    obtain ⟨x, _, hx⟩ := hr 0 hpos
    obtain ⟨ad, rfl, hs, hlt, hcell⟩ := hA (by intro e; subst e; simp at hx)
    refine ⟨ad.add (l * te.sz), by rw [hA' hne]; rfl, by rw [add_block]; exact hs, by rw [add_block]; exact hlt, fun j o hj ho => ?_⟩
    obtain ⟨x, _, hx⟩ := hr j hj
    rw [addr_add]
    have := hcell (l + j) o (some_lt hx) ho
    rwa [show l * te.sz + (j * te.sz + o) = (l + j) * te.sz + o by rw [Nat.add_mul]; omega]
theorem VR.sl_part {e : TypeId} {rows : List (τ e)} {A : Option Addr} {n c : Nat} (h : VR T S w m η (.sl e rows) (.slice A n c)) : n = rows.length ∧ rows.length ≤ c ∧ LR T S w (.sl e) (.l e rows) (.slice A n c) := by
  have hL := h.sl_inv
  refine ⟨?_, ?_, hL⟩ <;> cases hL
  · rfl
  · assumption
theorem sliceA_sound (hP : PZ P T by_) (hm : MR T w η m) {t : TypeId} {x r : AV τ} {lo hi : Option (AV τ)} {cs : List Bool} {v : Value} {vlo vhi : Option Value} (h : sliceA T m t x lo hi = some (cs, r, m')) (hcs : cs.all id = true)
    (hv : VR T (Safe η m) w m η x v) (hlo : ∀ a, lo = some a → ∃ u, vlo = some u ∧ VR T (Safe η m) w m η a u) (hlo' : lo = none → vlo = none) (hhi : ∀ a, hi = some a → ∃ u, vhi = some u ∧ VR T (Safe η m) w m η a u) (hhi' : hi = none → vhi = none) :
    ∃ z η', (Instr.sliceAt t v vlo vhi none).run P w = .ok z w ∧ Step T w m η w m' η' ∧ VR T (Safe η' m') w m' η' r z := by
  unfold sliceA at h
  split at h
  case h_2 => cases h
  rename_i ts hTs
  split at h
  case h_2 => cases h
  rename_i e hd
  split at h
  case h_2 => cases h
  rename_i te hT
  have hu := hP.sl t ts e hTs hd
  obtain ⟨i, hi_, hsz⟩ := hP.info e te hT
  have hz : (Go.sizeOf e).run P w = .ok te.sz w := by simp [Go.sizeOf, typeInfo, hi_, hsz]
  split at h
  · rename_i e' rows k hh
    split at h
    case isFalse => cases h
    rename_i hee
    subst hee
    cases h
    simp only [List.all_cons, id, List.all_nil, Bool.and_true, Bool.and_eq_true, decide_eq_true_eq] at hcs
    obtain ⟨h0, h1⟩ := hcs
    obtain rfl := hlo' rfl
    obtain ⟨u, rfl, hu2⟩ := hhi _ rfl
    have := hu2.int_inv; subst this
    obtain ⟨A, c, rfl, hc, _⟩ := hv.len_inv
    obtain ⟨_, _, hL⟩ := hv.sl_part
    have eh : (hh.toNat : Int) = hh := Int.toNat_of_nonneg h0
    have hle : hh.toNat ≤ rows.length := by omega
    have hlen : (rows.take hh.toNat).length = hh.toNat := by rw [List.length_take]; omega
    refine ⟨.slice (if c = 0 then A else A.map (·.add 0)) hh.toNat c, η, ?_, .refl hm, ?_⟩
    · simp [Instr.sliceAt, Instr.slice, run_underlying hu, Instr.sliceBounds, Instr.sliceBound, asIntOf, h0, (by omega : hh ≤ (c : Int)), hz]
    · refine .sl _ _ _ ?_
      have := hL.part hT 0 (rows.take hh.toNat) c (by rw [hlen]; omega) (fun j hj => by
        rw [hlen] at hj
        have hjr : j < rows.length := by omega
        exact ⟨rows[j], by rw [List.getElem?_take, if_pos hj]; exact List.getElem?_eq_getElem hjr, by rw [Nat.zero_add]; exact List.getElem?_eq_getElem hjr⟩)
        (if c = 0 then A else A.map (·.add 0)) (fun hne => by
          have : 0 < (rows.take hh.toNat).length := List.length_pos_iff.2 hne
          rw [hlen] at this
          rw [if_neg (by omega), Nat.zero_mul])
      rwa [hlen] at this
  · rename_i e' rows k l
    split at h
    case isFalse => cases h
    rename_i hee
    subst hee
    cases h
    simp only [List.all_cons, id, List.all_nil, Bool.and_true, Bool.and_eq_true, decide_eq_true_eq] at hcs
    obtain ⟨h0, h1⟩ := hcs
    obtain rfl := hhi' rfl
    obtain ⟨u, rfl, hu2⟩ := hlo _ rfl
    have := hu2.int_inv; subst this
    obtain ⟨A, c, rfl, hc, _⟩ := hv.len_inv
    obtain ⟨_, _, hL⟩ := hv.sl_part
    have eh : (l.toNat : Int) = l := Int.toNat_of_nonneg h0
    have hle : l.toNat ≤ rows.length := by omega
    have hlen : (rows.drop l.toNat).length = rows.length - l.toNat := by rw [List.length_drop]
    refine ⟨.slice (if c = l.toNat then A else A.map (·.add (l.toNat * te.sz))) (rows.length - l.toNat) (c - l.toNat), η, ?_, .refl hm, ?_⟩
    · simp [Instr.sliceAt, Instr.slice, run_underlying hu, Instr.sliceBounds, Instr.sliceBound, asIntOf, h0, h1, hz]
    · refine .sl _ _ _ ?_
      have := hL.part hT l.toNat (rows.drop l.toNat) (c - l.toNat) (by rw [hlen]; omega) (fun j hj => by
        rw [hlen] at hj
        have hjr : l.toNat + j < rows.length := by omega
        exact ⟨rows[l.toNat + j], by rw [List.getElem?_drop]; exact List.getElem?_eq_getElem hjr, List.getElem?_eq_getElem hjr⟩)
        (if c = l.toNat then A else A.map (·.add (l.toNat * te.sz))) (fun hne => by
          have : 0 < (rows.drop l.toNat).length := List.length_pos_iff.2 hne
          rw [hlen] at this
          rw [if_neg (by omega)])
      rwa [hlen] at this
  · rename_i r' g k hh
    split at h
    case h_2 => cases h
    rename_i y hy
    split at h
    case isFalse => cases h
    rename_i hee
    subst hee
    cases h
    simp only [List.all_cons, id, List.all_nil, Bool.and_true, Bool.and_eq_true, decide_eq_true_eq] at hcs
    obtain ⟨h0, h1⟩ := hcs
    obtain rfl := hlo' rfl
    obtain ⟨u, rfl, hu2⟩ := hhi _ rfl
    have := hu2.int_inv; subst this
    have hve := hv.own_inv hy
    obtain ⟨hxr, hg⟩ := Mem.valid_some hy
    obtain ⟨ti, inner, hT2, ho, hR⟩ := hm.rw r' y hxr
    rw [hT] at hT2; cases hT2
    subst hve
    have eh : (hh.toNat : Int) = hh := Int.toNat_of_nonneg h0
    have hle : hh.toNat ≤ y.xs.length := by omega
    have hlen : (y.xs.take hh.toNat).length = hh.toNat := by rw [List.length_take]; omega
    rcases ho.2 with ⟨e1, hn⟩ | ⟨gb, cap, cur, e1, hb, hgc, hnc, hcm, hcs, htake⟩
    · have h00 : hh.toNat = 0 := by omega
      have hh0 : hh = 0 := by omega
      have hst := hm.updR (xs := y.xs.take hh.toNat) (g := g + 1) (v := η.r r') (inner := []) hxr (by omega) hT (w' := w) (.refl _ _)
        ⟨by rw [hlen, h00]; simp, .inl ⟨e1, by rw [hlen, h00]⟩⟩ (fun k hk => .inl hk) (fun _ => rfl) (by rw [h00]; exact ⟨by simp, fun j row o lf lt v h => by simp at h⟩)
      refine ⟨.slice none 0 0, _, ?_, hst, .own _ _ _ (by simp; exact some_lt hxr) (fun x' hx' => ?_)⟩
      · rw [e1]; subst hh0
        simp [Instr.sliceAt, Instr.slice, run_underlying hu, Instr.sliceBounds, Instr.sliceBound, asIntOf, hz]
      · simp [some_lt hxr] at hx'; subst hx'
        exact ⟨Nat.le_refl _, fun _ => by simp [Eta.addR, e1]⟩
    · have hst := hm.updR (xs := y.xs.take hh.toNat) (g := g + 1) (v := .slice (some ⟨gb, 0, none⟩) hh.toNat cap) (inner := inner.take (hh.toNat * te.sz)) hxr (by omega) hT (w' := w) (.refl _ _)
        ⟨by rw [hlen, List.length_take, ho.1]; exact Nat.min_eq_left (Nat.mul_le_mul_right _ hle), .inr ⟨gb, cap, cur, by rw [hlen], hb, hgc, by rw [hlen]; omega, hcm, hcs, by
          rw [hlen, ← htake, List.take_take, Nat.min_eq_left (Nat.mul_le_mul_right _ hle)]⟩⟩ (fun k hk => .inl (by rw [e1]; exact hk)) (fun e9 => by omega) (by rw [List.map_take]; exact hR.take _)
      refine ⟨.slice (some ⟨gb, 0, none⟩) hh.toNat cap, _, ?_, hst, .own _ _ _ (by simp; exact some_lt hxr) (fun x' hx' => ?_)⟩
      · rw [e1]
        simp [Instr.sliceAt, Instr.slice, run_underlying hu, Instr.sliceBounds, Instr.sliceBound, asIntOf, h0, (by omega : hh ≤ (cap : Int)), hz, addr_plain]
      · simp [some_lt hxr] at hx'; subst hx'
        exact ⟨Nat.le_refl _, fun _ => by simp [Eta.addR]⟩
  · cases h
end
end Am
