/- The abstract machine, part 5: loads and stores. -/
import Derived.Test.YtkkmhlfpombgfaaAm4
import Derived.Laws.Cells
import Derived.Laws.Rows
set_option linter.unusedVariables false
set_option linter.unusedSectionVars false
set_option linter.unusedSimpArgs false
namespace Am
open Go
variable {τ : TypeId → Type}
def Mem.valid (m : Mem τ) (r g : Nat) : Option (Rw τ) := match m.rw[r]? with
  | some (some x) => if x.g = g then some x else none
  | _ => none
/-- What may stand in one cell. -/
def one (m : Mem τ) : AV τ → Bool
  | .int _ _ | .bool _ | .str _ | .sl _ _ | .nil | .ptr _ _ | .fn _ => true
  | .own r g => (m.valid r g).isSome
  | _ => false
def cellsA (m : Mem τ) : AV τ → Option (List (AV τ))
  | .agg vs => if vs.all (one m) then some vs else none
  | a => if one m a then some [a] else none
def TI.isAgg (ti : TI) : Bool := match ti.d with | .st _ | .arr _ _ => true | _ => false
/-- A value of a type, out of its cells. -/
def packA (ti : TI) (cs : List (AV τ)) : Option (AV τ) := if ti.isAgg then some (.agg cs) else match cs with | [a] => some a | _ => none
section
variable {T : Tab τ} {P : Program} {w w' : World} {m m' : Mem τ} {η η' : Eta} {tm : List (AV τ)}
theorem Mem.valid_some {r g : Nat} {x : Rw τ} (h : m.valid r g = some x) : m.rw[r]? = some (some x) ∧ x.g = g := by
  unfold Mem.valid at h
  split at h
  · split at h
    · cases h; rename_i hx hg; exact ⟨hx, hg⟩
    · cases h
  · cases h
theorem VR.own_inv {S : Nat → Prop} {r g : Nat} {x : Rw τ} {v : Value} (h : VR T S w m η (.own r g) v) (hv : m.valid r g = some x) : v = η.r r := by
  obtain ⟨hx, hg⟩ := Mem.valid_some hv
  cases h with
  | own _ _ _ hr h => exact (h x hx).2 hg
theorem VR.ptr_inv {S : Nat → Prop} {b o : Nat} {v : Value} (h : VR T S w m η (.ptr b o) v) : v = .pointer (some ⟨η.b b, o, none⟩) := by cases h; rfl
theorem VR.agg_inv {S : Nat → Prop} {vs : List (AV τ)} {v : Value} (h : VR T S w m η (.agg vs) v) : ∃ cs : List Value, v = .agg cs.toArray ∧ VRs T S w m η vs cs := by
  cases h with | agg _ cs hl h => exact ⟨cs, rfl, hl, h⟩
theorem one_val (hm : MR T w η m) {a : AV τ} {v : Value} (h : VR T (Safe η m) w m η a v) (ho : one m a = true) : v.oneCell' = true ∧ v.cells = #[v] := by
  cases a <;> simp [one] at ho <;> cases h <;> try exact ⟨rfl, rfl⟩
  case sl.sl h => cases h; exact ⟨rfl, rfl⟩
  case own.own r g hr h =>
    obtain ⟨x, hx⟩ := Option.isSome_iff_exists.1 ho
    obtain ⟨hx1, hg⟩ := Mem.valid_some hx
    rw [(h x hx1).2 hg]
    obtain ⟨ti, inner, _, hown, _⟩ := hm.rw r x hx1
    rcases hown.2 with ⟨e, _⟩ | ⟨g, cap, cur, e, _⟩ <;> rw [e] <;> exact ⟨rfl, rfl⟩
/-- The cells of a value. -/
theorem cells_sound (hm : MR T w η m) {a : AV τ} {v : Value} {cs : List (AV τ)} (h : VR T (Safe η m) w m η a v) (hc : cellsA m a = some cs) :
    VRs T (Safe η m) w m η cs v.cells.toList ∧ ∀ u ∈ v.cells.toList, u.oneCell' = true := by
  by_cases hagg : ∃ vs, a = .agg vs
  · obtain ⟨vs, rfl⟩ := hagg
    obtain ⟨ds, rfl, hd⟩ := h.agg_inv
    simp only [cellsA] at hc
    split at hc
    · cases hc
      rename_i hall
      refine ⟨by simpa [Value.cells] using hd, fun u hu => ?_⟩
      simp only [Value.cells] at hu
      obtain ⟨i, hi, rfl⟩ := List.mem_iff_getElem.1 hu
      have hi2 : i < cs.length := by rw [hd.1]; simpa using hi
      have hv := hd.2 i cs[i] ds[i] (List.getElem?_eq_getElem hi2) (List.getElem?_eq_getElem (by simpa using hi))
      exact (one_val hm hv (List.all_eq_true.1 hall _ (List.getElem_mem hi2))).1
    · cases hc
  · have hc2 : (if one m a then some [a] else none) = some cs := by
      cases a <;> first | exact hc | exact absurd ⟨_, rfl⟩ hagg
    split at hc2
    · cases hc2
      rename_i ho
      obtain ⟨h1, h2⟩ := one_val hm h ho
      rw [h2]
      refine ⟨⟨rfl, fun i x c hx hc => ?_⟩, fun u hu => ?_⟩
      · cases i with
        | zero => simp at hx hc; subst hx; subst hc; exact h
        | succ i => simp at hx
      · simp at hu; subst hu; exact h1
    · cases hc2
theorem addr_plain (g o n : Nat) : (⟨g, o, none⟩ : Addr).add n = ⟨g, o + n, none⟩ := by unfold Addr.add; split <;> simp_all
theorem addr_add (a : Addr) (m n : Nat) : (a.add m).add n = a.add (m + n) := by
  unfold Addr.add
  by_cases h1 : m = 0
  · subst h1; simp
  · by_cases h2 : n = 0
    · subst h2; simp [h1]
    · simp [h1, h2, Nat.add_assoc]
theorem run_isAgg_ti (hP : PT P T) {t : TypeId} {ti : TI} (hT : T t = some ti) (hd : ti.d = .scal ∨ (∃ fs, ti.d = .st fs) ∨ (∃ n e, ti.d = .arr n e) ∨ (∃ e, ti.d = .sl e)) (w : World) : (isAgg t).run P w = .ok ti.isAgg w := by
  unfold isAgg TI.isAgg
  rcases hd with hd | ⟨fs, hd⟩ | ⟨n, e, hd⟩ | ⟨e, hd⟩
  · obtain ⟨d, h1, h2⟩ := hP.scal t ti hT hd
    rw [hd]
    simp only [Sem.run_bind, run_underlying h1, Result.andThen_ok]
    cases d <;> simp_all
  · obtain ⟨f, h1, _⟩ := hP.st t ti fs hT hd
    rw [hd]; simp [run_underlying h1]
  · rw [hd]; simp [run_underlying (hP.arr t ti n e hT hd)]
  · rw [hd]; simp [run_underlying (hP.sl t ti e hT hd)]
def TI.plain (ti : TI) : Bool := match ti.d with | .ptr => false | _ => true
theorem TI.plain_iff {ti : TI} (h : ti.plain = true) : ti.d = .scal ∨ (∃ fs, ti.d = .st fs) ∨ (∃ n e, ti.d = .arr n e) ∨ (∃ e, ti.d = .sl e) := by
  unfold TI.plain at h
  cases hd : ti.d <;> simp_all
/-- A load, where the cells are known. -/
theorem load_sound (hP : PT P T) {t : TypeId} {ti : TI} (hT : T t = some ti) (hp : ti.plain = true) {a : Addr} {cs : List Value} {vs : List (AV τ)} {r : AV τ} {S : Nat → Prop} (hl : vs.length = ti.sz)
    (hv : VRs T S w m η vs cs) (hc : ∀ j v, cs[j]? = some v → w.cell? (a.add j) = some v) (hr : packA ti vs = some r) :
    ∃ v, (loadVar t a).run P w = .ok v w ∧ VR T S w m η r v := by
  obtain ⟨i, hi, hsz⟩ := hP.info t ti hT
  unfold loadVar
  simp only [Sem.run_bind, run_isAgg_ti hP hT (TI.plain_iff hp), Result.andThen_ok, Sem.run_ite]
  unfold packA at hr
  by_cases hag : ti.isAgg = true
  · rw [if_pos hag] at hr ⊢
    cases hr
    have hcl := run_loadCells_list (P := P) w a cs hc
    have e : cs.length = i.size := by rw [hsz, ← hl, hv.1]
    refine ⟨.agg cs.toArray, ?_, .agg vs cs hv.1 hv.2⟩
    rw [e] at hcl
    simp [Go.sizeOf, typeInfo, hi, hcl]
  · rw [if_neg hag] at hr ⊢
    split at hr
    · cases hr
      obtain ⟨c, hcc⟩ : ∃ c, cs = [c] := by
        have := hv.1; simp at this
        match cs, this with
        | [c], _ => exact ⟨c, rfl⟩
      subst hcc
      have h0 := hc 0 c rfl
      have ha : a.add 0 = a := by unfold Addr.add; simp
      rw [ha] at h0
      refine ⟨c, ?_, hv.2 0 _ c rfl rfl⟩
      rw [run_load, h0]
    · cases hr
theorem box_cell {b o : Nat} {t : TypeId} {cs : List Value} {g : Nat} (h : w.heap[g]? = some (.cells cs.toArray t (0, 0))) : w.cell? ⟨g, o, none⟩ = cs[o]? := by
  rw [cell_of_row w g o _ t (0, 0) h]; simp
theorem VRs.part {S : Nat → Prop} {vs : List (AV τ)} {cs : List Value} (h : VRs T S w m η vs cs) (o n : Nat) : VRs T S w m η ((vs.drop o).take n) ((cs.drop o).take n) := by
  refine ⟨by simp [h.1], fun i a c ha hc => ?_⟩
  rw [List.getElem?_take] at ha hc
  split at ha
  · rw [if_pos (by assumption)] at hc
    rw [List.getElem?_drop] at ha hc
    exact h.2 _ _ _ ha hc
  · cases ha
/-- What a load reads. -/
def loadA (T : Tab τ) (m : Mem τ) (t : TypeId) (a : AV τ) : Option (AV τ) :=
  match T t with
  | none => none
  | some ti => if ti.plain then
      match a with
      | .ptr b o => match m.bx[b]? with
        | some (some (_, vs)) => if ((vs.drop o).take ti.sz).length = ti.sz then packA ti ((vs.drop o).take ti.sz) else none
        | _ => none
      | _ => none
    else none
theorem loadA_ptr (hP : PT P T) (hm : MR T w η m) {t : TypeId} {b o : Nat} {r : AV τ} (h : loadA T m t (.ptr b o) = some r) :
    ∃ v, (Instr.loadAt t (.pointer (some ⟨η.b b, o, none⟩))).run P w = .ok v w ∧ VR T (Safe η m) w m η r v := by
  unfold loadA at h
  split at h
  · cases h
  rename_i ti hT
  split at h
  case isFalse => cases h
  rename_i hp
  simp only at h
  split at h
  · rename_i t' vs hb
    split at h
    case isFalse => cases h
    rename_i hlen
    obtain ⟨cs, hc, hv⟩ := hm.bx b t' vs hb
    obtain ⟨v, h1, h2⟩ := load_sound (a := ⟨η.b b, o, none⟩) hP hT hp hlen (hv.part o ti.sz) (fun j v hj => by
      rw [addr_plain, box_cell (b := b) hc]
      rw [List.getElem?_take] at hj
      split at hj
      · rwa [List.getElem?_drop] at hj
      · cases hj) h
    exact ⟨v, by simpa [Instr.loadAt, Instr.sureAddr] using h1, h2⟩
  · cases h
end
end Am
