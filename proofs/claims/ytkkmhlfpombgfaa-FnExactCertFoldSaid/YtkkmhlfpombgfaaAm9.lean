/- The abstract machine, part 9: values built, variables made, rows made. -/
import Derived.Test.YtkkmhlfpombgfaaAm8
import Derived.Laws.Tables
import Derived.Great.BuildSlice
set_option linter.unusedVariables false
set_option linter.unusedSectionVars false
set_option linter.unusedSimpArgs false
namespace Am
open Go
variable {τ : TypeId → Type}
def zA : LT → AV τ | .int k => .int k 0 | .bool => .bool false | .str => .str default | .sl _ => .nil
def zV : LT → Value | .int k => .int k 0 | .bool => .bool false | .str => .string default | .sl _ => .slice none 0 0
def zLf : LT → Lf τ | .int _ => .i 0 | .bool => .b false | .str => .s default | .sl e => .l e []
/-- What more the program says: zero values, sizes in bytes. -/
structure PZ (P : Program) (T : Tab τ) (by_ : TypeId → Nat) : Prop extends PT P T where
  zero : ∀ t ti, T t = some ti → ti.plain = true → ∃ i z, P.info? t = some i ∧ i.size = ti.sz ∧ i.zero = some z ∧ z.cells.toList = ti.lts.map zV ∧ i.bytes = by_ t ∧ 0 < by_ t ∧ 0 < ti.sz
/-- Parts laid into cells. -/
def fillA (m : Mem τ) (place : Nat → Option (Nat × Nat)) : List (AV τ) → List (Nat × AV τ) → Option (List (AV τ))
  | cs, [] => some cs
  | cs, (i, a) :: rest => match place i, cellsA m a with
    | some (off, size), some c => if c.length = size ∧ off + size ≤ cs.length then fillA m place (putMany cs off c) rest else none
    | _, _ => none
section
variable {T : Tab τ} {P : Program} {by_ : TypeId → Nat} {w w' w2 : World} {m m' m2 : Mem τ} {η η' η2 : Eta} {tm : List (AV τ)} {S : Nat → Prop}
theorem foldl_put : ∀ (us : List Value) (k off : Nat) (cells : Array Value), off + k + us.length ≤ cells.size →
    (us.zipIdx k).foldl (fun (cs : Array Value) (x : Value × Nat) => cs.setIfInBounds (off + x.2) x.1) cells = (putMany cells.toList (off + k) us).toArray
  | [], k, off, cells, h => by simp [putMany]
  | u :: us, k, off, cells, h => by
    simp only [List.zipIdx_cons, List.foldl_cons]
    simp at h
    rw [foldl_put us (k + 1) off (cells.setIfInBounds (off + k) u) (by simp; omega)]
    congr 1
    unfold putMany
    simp only [Array.toList_setIfInBounds]
    have e1 : (cells.toList.set (off + k) u).take (off + (k + 1)) = cells.toList.take (off + k) ++ [u] := by
      rw [List.take_set, List.set_eq_take_append_cons_drop, if_pos (by simp; omega)]
      simp [List.take_take, Nat.add_assoc]
    have e2 : (cells.toList.set (off + k) u).drop (off + (k + 1) + us.length) = cells.toList.drop (off + k + (u :: us).length) := by
      rw [List.drop_set_of_lt (by omega)]; congr 1; simp; omega
    rw [e1, e2]; simp
theorem VRs.put {vs cs : List (AV τ)} {cells us : List Value} {o : Nat} (h : VRs T S w m η vs cells) (hl : o + cs.length ≤ vs.length) (hv : VRs T S w m η cs us) : VRs T S w m η (putMany vs o cs) (putMany cells o us) := by
  have hl' : o + us.length ≤ cells.length := by rw [← hv.1, ← h.1]; exact hl
  refine ⟨by rw [putMany_len hl, putMany_len hl']; exact h.1, fun i a c ha hcc => ?_⟩
  rcases putMany_at hl ha with ⟨h1, h2⟩ | ⟨h1, h2⟩ <;> rcases putMany_at hl' hcc with ⟨h3, h4⟩ | ⟨h3, h4⟩
  · exact hv.2 _ a c h2 h4
  · have := some_lt h2; have := hv.1; omega
  · have := some_lt h4; have := hv.1; omega
  · exact h.2 _ a c h2 h4
theorem fill_sound (hm : MR T w η m) {place : Nat → Option (Nat × Nat)} : ∀ (parts : List (Nat × AV τ)) (vparts : List (Nat × Value)) (vs : List (AV τ)) (cells : Array Value) (r : List (AV τ)), fillA m place vs parts = some r →
    parts.length = vparts.length → (∀ (i : Nat) (p : Nat × AV τ) (q : Nat × Value), parts[i]? = some p → vparts[i]? = some q → p.1 = q.1 ∧ VR T (Safe η m) w m η p.2 q.2) → VRs T (Safe η m) w m η vs cells.toList →
    ∃ cells', Instr.fill place cells vparts = some cells' ∧ VRs T (Safe η m) w m η r cells'.toList
  | [], vparts, vs, cells, r, h, hl, hp, hv => by
    cases vparts with
    | nil => simp [fillA] at h; subst h; exact ⟨cells, rfl, hv⟩
    | cons _ _ => simp at hl
  | (i, a) :: rest, vparts, vs, cells, r, h, hl, hp, hv => by
    cases vparts with
    | nil => simp at hl
    | cons q vrest =>
      obtain ⟨i', v⟩ := q
      obtain ⟨e, hav⟩ := hp 0 (i, a) (i', v) rfl rfl
      simp only at e hav; subst e
      simp only [fillA] at h
      split at h
      · rename_i off size c hpl hc
        split at h
        · rename_i hcond
          obtain ⟨hcv, _⟩ := cells_sound hm hav hc
          have hsz : v.cells.size = size := by have h9 : c.length = v.cells.toList.length := hcv.1; have h8 : v.cells.toList.length = v.cells.size := Array.length_toList; omega
          have hcl : cells.size = vs.length := by have h9 : vs.length = cells.toList.length := hv.1; have h8 : cells.toList.length = cells.size := Array.length_toList; omega
          have hfold : v.cells.zipIdx.foldl (fun (cs : Array Value) (x : Value × Nat) => cs.setIfInBounds (off + x.2) x.1) cells = (putMany cells.toList off v.cells.toList).toArray := by
            rw [← Array.foldl_toList, Array.toList_zipIdx]
            simpa using foldl_put v.cells.toList 0 off cells (by simp; omega)
          obtain ⟨cells', h1, h2⟩ := fill_sound hm rest vrest _ (putMany cells.toList off v.cells.toList).toArray r h (by simpa using hl) (fun j p q a b => hp (j + 1) p q (by simpa using a) (by simpa using b)) (by simpa using hv.put (by omega) hcv)
          refine ⟨cells', ?_, h2⟩
          unfold Instr.fill
          rw [hpl]
          simp only
          rw [if_neg (by simp; omega)]
          have e : (fun (cs : Array Value) (x : Value × Nat) => match x with | (c, j) => cs.setIfInBounds (off + j) c) = (fun (cs : Array Value) (x : Value × Nat) => cs.setIfInBounds (off + x.2) x.1) := rfl
          rw [e, hfold]; exact h1
        · cases h
      · cases h
theorem zero_cells (lts : List LT) : VRs T S w m η (lts.map zA) (lts.map zV) := by
  refine ⟨by simp, fun i a c ha hc => ?_⟩
  rw [List.getElem?_map] at ha hc
  cases h : lts[i]? with
  | none => rw [h] at ha; simp at ha
  | some lt =>
    rw [h] at ha hc; simp at ha hc; subst ha; subst hc
    cases lt <;> constructor
end
end Am
