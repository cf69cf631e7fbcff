/- The abstract machine, part 13: variables made, structs built, rows made. -/
import Derived.Test.YtkkmhlfpombgfaaAm12
set_option linter.unusedVariables false
set_option linter.unusedSectionVars false
set_option linter.unusedSimpArgs false
namespace Am
open Go
variable {τ : TypeId → Type}
def Mem.addBx (m : Mem τ) (t : TypeId) (vs : List (AV τ)) : Mem τ := { m with bx := m.bx ++ [some (t, vs)] }
def Mem.addRw (m : Mem τ) (e : TypeId) (xs : List (τ e)) : Mem τ := { m with rw := m.rw ++ [some ⟨e, xs, 0⟩] }
def allocA (T : Tab τ) (m : Mem τ) (t : TypeId) : Option (AV τ × Mem τ) :=
  match T t with
  | some ti => if ti.plain then some (.ptr m.bx.length 0, m.addBx t (ti.lts.map zA)) else none
  | none => none
def boxA (T : Tab τ) (m : Mem τ) (t : TypeId) (x : AV τ) : Option (AV τ × Mem τ) :=
  match cellsA m x with
  | some cs => some (.ptr m.bx.length 0, m.addBx t cs)
  | none => none
def placesA (T : Tab τ) : List (Nat × TypeId) → Option (List (Nat × Nat))
  | [] => some []
  | (off, ft) :: fs => match T ft, placesA T fs with
    | some tf, some ps => some ((off, tf.sz) :: ps)
    | _, _ => none
def buildA (T : Tab τ) (m : Mem τ) (t : TypeId) (parts : List (Nat × AV τ)) : Option (AV τ) :=
  match T t with
  | some ti => if ti.isSt ∧ ti.plain then match placesA T ti.fields with
      | some ps => match fillA m (ps[·]?) (ti.lts.map zA) parts with
        | some cs => some (.agg cs)
        | none => none
      | none => none
    else none
  | none => none
section
variable {T : Tab τ} {P : Program} {by_ : TypeId → Nat} {w w' w2 : World} {m m' m2 : Mem τ} {η η' η2 : Eta} {tm : List (AV τ)} {S : Nat → Prop}
theorem run_newRow (w : World) (t : TypeId) (cells : Array Value) : (newRow t cells).run P w = .ok ⟨w.heap.size, 0, none⟩ (w.alloc (.cells cells t)) := by
  simp [newRow]
theorem allocA_sound (hP : PZ P T by_) (hm : MR T w η m) {t : TypeId} {r : AV τ} (h : allocA T m t = some (r, m')) (old : Value) :
    ∃ v w' η', (Instr.alloc t true old).run P w = .ok v w' ∧ Step T w m η w' m' η' ∧ VR T (Safe η' m') w' m' η' r v := by
  unfold allocA at h
  split at h
  case h_2 => cases h
  rename_i ti hT
  split at h
  case isFalse => cases h
  rename_i hp
  cases h
  obtain ⟨i, z, hi, _, hz, hzc, _⟩ := hP.zero t ti hT hp
  have hs := hm.addB (t := t) (zero_cells (T := T) (S := Safe η m) (w := w) (m := m) (η := η) ti.lts)
  have hzz : (zeroValue t).run P w = .ok z w := by simp [zeroValue, typeInfo, hi, hz]
  have hc : z.cells = (ti.lts.map zV).toArray := by rw [← hzc]
  refine ⟨.pointer (some ⟨w.heap.size, 0, none⟩), _, _, ?_, hs, ?_⟩
  · unfold Instr.alloc
    simp only [Sem.run_bind, hzz, Result.andThen_ok, newVar, hc, run_newRow, Sem.run_pure]
  · have := VR.ptr (T := T) (S := Safe (η.addB m.bx.length w.heap.size) (m.addBx t (ti.lts.map zA))) (w := w.alloc (.cells (ti.lts.map zV).toArray t)) (m := m.addBx t (ti.lts.map zA)) (η := η.addB m.bx.length w.heap.size) m.bx.length 0 (by simp [Mem.addBx])
    simpa [Eta.addB] using this
theorem boxA_sound (hm : MR T w η m) {t : TypeId} {x r : AV τ} {v : Value} (h : boxA T m t x = some (r, m')) (hv : VR T (Safe η m) w m η x v) :
    ∃ u w' η', (Instr.box t v).run P w = .ok u w' ∧ Step T w m η w' m' η' ∧ VR T (Safe η' m') w' m' η' r u := by
  unfold boxA at h
  split at h
  case h_2 => cases h
  rename_i cs hcs
  cases h
  obtain ⟨hcv, _⟩ := cells_sound hm hv hcs
  have hs := hm.addB (t := t) hcv
  refine ⟨.pointer (some ⟨w.heap.size, 0, none⟩), _, _, ?_, hs, ?_⟩
  · unfold Instr.box
    simp only [Sem.run_bind, newVar, run_newRow, Result.andThen_ok, Sem.run_pure, Array.toArray_toList]
  · have := VR.ptr (T := T) (S := Safe (η.addB m.bx.length w.heap.size) (m.addBx t cs)) (w := w.alloc (.cells v.cells.toList.toArray t)) (m := m.addBx t cs) (η := η.addB m.bx.length w.heap.size) m.bx.length 0 (by simp [Mem.addBx])
    simpa [Eta.addB] using this
theorem places_sound (hP : PT P T) : ∀ (fields : List Field) (ps : List (Nat × Nat)), placesA T (fields.map fun f => (f.offset, f.type)) = some ps → fields.mapM (fun f => (P.info? f.type).map fun i => (f.offset, i.size)) = some ps
  | [], ps, h => by simp [placesA] at h; subst h; rfl
  | f :: fs, ps, h => by
    simp only [List.map_cons, placesA] at h
    split at h
    · rename_i tf ps' h1 h2
      cases h
      obtain ⟨i, hi, hs⟩ := hP.info _ tf h1
      have := places_sound hP fs ps' h2
      simp [List.mapM_cons, hi, hs, this]
    · cases h
theorem buildA_sound (hP : PZ P T by_) (hm : MR T w η m) {t : TypeId} {parts : List (Nat × AV τ)} {vparts : Array (Nat × Value)} {r : AV τ} (h : buildA T m t parts = some r) (hl : parts.length = vparts.toList.length)
    (hp : ∀ (i : Nat) (p : Nat × AV τ) (q : Nat × Value), parts[i]? = some p → vparts.toList[i]? = some q → p.1 = q.1 ∧ VR T (Safe η m) w m η p.2 q.2) :
    ∃ v, (Instr.build t vparts).run P w = .ok v w ∧ VR T (Safe η m) w m η r v := by
  unfold buildA at h
  split at h
  case h_2 => cases h
  rename_i ti hT
  split at h
  case isFalse => cases h
  rename_i hst
  obtain ⟨hst, hpl⟩ := hst
  split at h
  case h_2 => cases h
  rename_i ps hps
  split at h
  case h_2 => cases h
  rename_i cs hcs
  cases h
  obtain ⟨fs, hd⟩ : ∃ fs, ti.d = .st fs := by unfold TI.isSt at hst; cases hd : ti.d <;> rw [hd] at hst <;> simp at hst; exact ⟨_, rfl⟩
  obtain ⟨fields, hu, hfs⟩ := hP.st t ti fs hT hd
  obtain ⟨i, z, hi, _, hz, hzc, _⟩ := hP.zero t ti hT hpl
  have hf : ti.fields = fields.toList.map (fun f => (f.offset, f.type)) := by unfold TI.fields; rw [hd, hfs]
  rw [hf] at hps
  have hpm := places_sound hP.toPT fields.toList ps hps
  obtain ⟨cells, h1, h2⟩ := fill_sound hm (place := (ps[·]?)) parts vparts.toList (ti.lts.map zA) z.cells cs hcs hl hp (by rw [hzc]; exact zero_cells ti.lts)
  refine ⟨.agg cells, run_build w t vparts cells ?_, ?_⟩
  · unfold Program.built
    rw [hi, hu]
    simp only [hz, hpm]
    simpa using h1
  · have := VR.agg (T := T) (S := Safe η m) (w := w) (m := m) (η := η) cs cells.toList h2.1 h2.2
    simpa using this
end
end Am
