/- The abstract machine, part 12: all loads and all stores. -/
import Derived.Test.YtkkmhlfpombgfaaAm11
set_option linter.unusedVariables false
set_option linter.unusedSectionVars false
set_option linter.unusedSimpArgs false
namespace Am
open Go
variable {τ : TypeId → Type}
def intsA (k : IntKind) : List (AV τ) → Option (List Int)
  | [] => some []
  | .int k' n :: as => if k' = k then (intsA k as).map (n :: ·) else none
  | _ => none
def boolsA : List (AV τ) → Option (List Bool)
  | [] => some []
  | .bool b :: as => (boolsA as).map (b :: ·)
  | _ => none
def kindOf : List (AV τ) → Option IntKind
  | .int k _ :: _ => some k
  | _ => none
def putI (i v : Int) (fs : List Int) : List Int := fs.zipIdx.map fun (f, j) => if i = (j : Int) then v else f
def putB (i : Int) (v : Bool) (fs : List Bool) : List Bool := fs.zipIdx.map fun (f, j) => if i = (j : Int) then v else f
def loadAny (T : Tab τ) (m : Mem τ) (t : TypeId) (a : AV τ) : Option (AV τ) :=
  match a with
  | .ptr _ _ => loadA T m t a
  | .eptr e rows i o => match T e with
    | some _ => loadE T t e (T.row e (rows.getD i.toNat (T.of e []))) o
    | none => none
  | .optr r g i o => match m.valid r g with
    | some x => match T x.e with
      | some _ => loadE T t x.e (T.row x.e (x.xs.getD i.toNat (T.of x.e []))) o
      | none => none
    | none => none
  | .xptr b o n i => match T t, m.bx[b]? with
    | some ti, some (some (_, vs)) => if ti.plain = true ∧ ti.isAgg = false ∧ ti.sz = 1 then
        match kindOf ((vs.drop o).take n) with
        | some k => match intsA k ((vs.drop o).take n) with
          | some fs => if fs.length = n then some (.int k (fs.getD i.toNat 0)) else none
          | none => none
        | none => match boolsA ((vs.drop o).take n) with
          | some fs => if fs.length = n then some (.bool (fs.getD i.toNat false)) else none
          | none => none
      else none
    | _, _ => none
  | _ => none
def setB (m : Mem τ) (b : Nat) (t : TypeId) (vs : List (AV τ)) : Mem τ := { m with bx := m.bx.set b (some (t, vs)) }
def storeA (T : Tab τ) (m : Mem τ) (t : TypeId) (a x : AV τ) : Option (Mem τ) :=
  match T t, cellsA m x with
  | some ti, some cs => if cs.length = ti.sz then
      match a with
      | .ptr b o => match m.bx[b]? with
        | some (some (tb, vs)) => if o + cs.length ≤ vs.length then some (setB m b tb (putMany vs o cs)) else none
        | _ => none
      | .optr r g i o => match m.valid r g with
        | some y => match T y.e with
          | some te => match toLfs ((te.lts.drop o).take cs.length) cs with
            | some lfs => if o + cs.length ≤ te.sz ∧ T.el y.e = true then some { m with rw := m.rw.set r (some ⟨y.e, y.xs.set i.toNat (T.of y.e (putMany (T.row y.e (y.xs.getD i.toNat (T.of y.e []))) o lfs)), y.g⟩) } else none
            | none => none
          | none => none
        | none => none
      | .xptr b o n i => match m.bx[b]? with
        | some (some (tb, vs)) => if o + n ≤ vs.length then
            match x with
            | .int k v => match intsA k ((vs.drop o).take n) with
              | some fs => some (setB m b tb (putMany vs o ((putI i v fs).map (.int k))))
              | none => none
            | .bool v => match boolsA ((vs.drop o).take n) with
              | some fs => some (setB m b tb (putMany vs o ((putB i v fs).map .bool)))
              | none => none
            | _ => none
          else none
        | _ => none
      | _ => none
    else none
  | _, _ => none
section
variable {T : Tab τ} {P : Program} {by_ : TypeId → Nat} {w w' w2 : World} {m m' m2 : Mem τ} {η η' η2 : Eta} {tm : List (AV τ)} {S : Nat → Prop}
theorem intsA_spec {k : IntKind} : ∀ {as : List (AV τ)} {fs : List Int}, intsA k as = some fs → as = fs.map (.int k)
  | [], fs, h => by simp [intsA] at h; subst h; rfl
  | a :: as, fs, h => by
    unfold intsA at h
    split at h
    · rename_i h1; cases h1
    · rename_i k' n as' h1
      cases h1
      split at h
      · rename_i hk; subst hk
        cases h2 : intsA k' as with
        | none => rw [h2] at h; simp at h
        | some gs => rw [h2] at h; simp at h; subst h; rw [intsA_spec h2]; rfl
      · cases h
    · cases h
theorem boolsA_spec : ∀ {as : List (AV τ)} {fs : List Bool}, boolsA as = some fs → as = fs.map .bool
  | [], fs, h => by simp [boolsA] at h; subst h; rfl
  | a :: as, fs, h => by
    unfold boolsA at h
    split at h
    · rename_i h1; cases h1
    · rename_i n as' h1
      cases h1
      cases h2 : boolsA as with
      | none => rw [h2] at h; simp at h
      | some gs => rw [h2] at h; simp at h; subst h; rw [boolsA_spec h2]; rfl
    · cases h
theorem arr_at {α : Type} {vs : List (AV τ)} {o n : Nat} {fs : List α} {F : α → AV τ} (h : (vs.drop o).take n = fs.map F) {i : Nat} (hi : i < fs.length) : vs[o + i]? = some (F fs[i]) := by
  have h1 : ((vs.drop o).take n)[i]? = some (F fs[i]) := by rw [h]; simp [hi]
  rw [List.getElem?_take] at h1
  split at h1
  · rwa [List.getElem?_drop] at h1
  · cases h1
theorem loadAny_sound (hP : PT P T) (hm : MR T w η m) {t : TypeId} {a r : AV τ} {u : Value} (h : loadAny T m t a = some r) (hv : VR T (Safe η m) w m η a u) :
    ∃ v, (Instr.loadAt t u).run P w = .ok v w ∧ VR T (Safe η m) w m η r v := by
  unfold loadAny at h
  split at h
  · rw [hv.ptr_inv]; exact loadA_ptr hP hm h
  · rename_i e rows i o
    split at h
    case h_2 => cases h
    rename_i te hTe
    obtain ⟨te', ad, c, hTe', hL, h0, h1, rfl⟩ := hv.eptr_inv
    rw [hTe] at hTe'; cases hTe'
    have hi : i.toNat < rows.length := by omega
    obtain ⟨te2, vf, hT2, hlen, hc, hl⟩ := hL.elem hi
    rw [hTe] at hT2; cases hT2
    rw [List.getD_eq_getElem?_getD, List.getElem?_eq_getElem hi] at h
    rw [← addr_add]
    exact loadE_sound hP h hTe hlen hc hl
  · rename_i r' g i o
    split at h
    case h_2 => cases h
    rename_i x hx
    split at h
    case h_2 => cases h
    rename_i te hTe
    obtain ⟨hr, te', gb, n, c, hTe', hη, h0, h1, rfl⟩ := hv.optr_inv hx
    rw [hTe] at hTe'; cases hTe'
    obtain ⟨hxr, hg⟩ := Mem.valid_some hx
    have hnl : n = x.xs.length := by
      obtain ⟨ti, inner, _, ho, _⟩ := hm.rw r' x hxr
      rcases ho.2 with ⟨e, _⟩ | ⟨g', cap, cur, e, _⟩ <;> rw [hη] at e <;> cases e; rfl
    subst hnl
    have hi : i.toNat < x.xs.length := by omega
    obtain ⟨te2, vf, hT2, hlen, hc', hl⟩ := hm.elem hxr hη hi
    rw [hTe] at hT2; cases hT2
    rw [List.getD_eq_getElem?_getD, List.getElem?_eq_getElem hi] at h
    rw [← addr_add]
    exact loadE_sound hP h hTe hlen hc' hl
  · rename_i b o n i
    split at h
    case h_2 => cases h
    rename_i ti tb vs hT hb
    split at h
    case isFalse => cases h
    rename_i hcond
    obtain ⟨hp, hag, hsz⟩ := hcond
    cases hv with
    | xptr _ _ _ _ hbl h0 h1 =>
      obtain ⟨cs, hc, hcv⟩ := hm.bx b tb vs hb
      rw [addr_plain]
      -- the cell
      have key : ∀ r, vs[o + i.toNat]? = some r → ∃ v, (Instr.loadAt t (.pointer (some ⟨η.b b, o + i.toNat, none⟩))).run P w = .ok v w ∧ VR T (Safe η m) w m η r v := by
        intro r hr
        obtain ⟨v, a1, a2⟩ := load_sound (a := ⟨η.b b, o + i.toNat, none⟩) (vs := [r]) (r := r) (S := Safe η m) hP hT hp hsz.symm (cs := [cs[o + i.toNat]'(by rw [← hcv.1]; exact some_lt hr)]) ⟨rfl, fun j a c ha hc' => by
            cases j with
            | zero => simp at ha hc'; subst ha; subst hc'; exact hcv.2 _ _ _ hr (List.getElem?_eq_getElem _)
            | succ j => simp at ha⟩ (fun j v hj => by
            cases j with
            | zero => simp at hj; subst hj; rw [addr_plain, Nat.add_zero, box_cell (b := b) hc]; exact List.getElem?_eq_getElem _
            | succ j => simp at hj) (by unfold packA; rw [hag]; simp)
        exact ⟨v, by simpa [Instr.loadAt, Instr.sureAddr] using a1, a2⟩
      split at h
      · rename_i k hk
        split at h
        case h_2 => cases h
        rename_i fs hfs
        split at h
        case isFalse => cases h
        rename_i hl
        cases h
        have hi : i.toNat < fs.length := by omega
        have := arr_at (intsA_spec hfs) hi
        rw [List.getD_eq_getElem?_getD, List.getElem?_eq_getElem hi]
        exact key _ this
      · split at h
        case h_2 => cases h
        rename_i fs hfs
        split at h
        case isFalse => cases h
        rename_i hl
        cases h
        have hi : i.toNat < fs.length := by omega
        have := arr_at (boolsA_spec hfs) hi
        rw [List.getD_eq_getElem?_getD, List.getElem?_eq_getElem hi]
        exact key _ this
  · cases h
theorem xptr_put {b o n : Nat} {vs : List (AV τ)} {α : Type} {fs : List α} {F : α → AV τ} {i : Int} {v : α} (hfs : (vs.drop o).take n = fs.map F) (hon : o + n ≤ vs.length) (h0 : 0 ≤ i) (h1 : i < n) :
    putMany vs (o + i.toNat) [F v] = putMany vs o ((fs.zipIdx.map fun (f, j) => if i = (j : Int) then v else f).map F) := by
  have hn : fs.length = n := by
    have := congrArg List.length hfs
    simp at this; omega
  apply List.ext_getElem?
  intro j
  unfold putMany
  have hl1 : (List.take (o + i.toNat) vs).length = o + i.toNat := by simp; omega
  have hl2 : (List.take o vs).length = o := by simp; omega
  rcases Nat.lt_or_ge j o with c | c
  · rw [List.append_assoc, List.append_assoc, List.getElem?_append_left (by omega), List.getElem?_append_left (by omega), List.getElem?_take, List.getElem?_take, if_pos (by omega), if_pos c]
  · rcases Nat.lt_or_ge j (o + n) with d | d
    · have hR : (List.take o vs ++ (fs.zipIdx.map fun (f, j) => if i = (j : Int) then v else f).map F ++ List.drop (o + ((fs.zipIdx.map fun (f, j) => if i = (j : Int) then v else f).map F).length) vs)[j]? = some (F (if i = ((j - o : Nat) : Int) then v else fs[j - o]'(by omega))) := by
        rw [List.getElem?_append_left (by simp; omega), List.getElem?_append_right (by omega), hl2]
        simp [List.getElem?_zipIdx, List.getElem?_eq_getElem (show j - o < fs.length by omega)]
      rw [hR]
      have hold : vs[j]? = some (F (fs[j - o]'(by omega))) := by
        have := arr_at hfs (i := j - o) (by omega)
        rwa [show o + (j - o) = j by omega] at this
      rcases Nat.lt_trichotomy j (o + i.toNat) with e | e | e
      · rw [if_neg (by omega), List.append_assoc, List.getElem?_append_left (by omega), List.getElem?_take, if_pos e]; exact hold
      · rw [if_pos (by omega), List.getElem?_append_left (by simp; omega), List.getElem?_append_right (by omega), hl1, show j - (o + i.toNat) = 0 by omega]; rfl
      · rw [if_neg (by omega), List.getElem?_append_right (by simp; omega), List.getElem?_drop]
        rw [← hold]; congr 1; simp; omega
    · rw [List.getElem?_append_right (by simp; omega), List.getElem?_drop, List.getElem?_append_right (by simp; omega), List.getElem?_drop]
      congr 1; simp; omega
theorem toLf_wt {lt : LT} {a : AV τ} {lf : Lf τ} (h : toLf lt a = some lf) : wt lt lf = true := by
  unfold toLf at h
  split at h
  · split at h <;> cases h; rfl
  · cases h; rfl
  · cases h; rfl
  · split at h <;> cases h; rename_i e; simp [wt, e]
  · cases h; simp [wt]
  · cases h
theorem storeA_sound (hP : PT P T) (hm : MR T w η m) {t : TypeId} {a x : AV τ} {u v : Value} (h : storeA T m t a x = some m') (ha : VR T (Safe η m) w m η a u) (hv : VR T (Safe η m) w m η x v) :
    ∃ w', (Instr.storeAt t u v).run P w = .ok () w' ∧ Step T w m η w' m' η := by
  unfold storeA at h
  split at h
  case h_2 => cases h
  rename_i ti cs hT hcs
  split at h
  case isFalse => cases h
  rename_i hsz
  obtain ⟨hcv, hone⟩ := cells_sound hm hv hcs
  have hvs : v.cells.size = ti.sz := by rw [← hsz, hcv.1, Array.length_toList]
  split at h
  · rename_i b o
    split at h
    case h_2 => cases h
    rename_i tb vs hb
    split at h
    case isFalse => cases h
    rename_i hl
    cases h
    rw [ha.ptr_inv]
    obtain ⟨cur, hc, hcur⟩ := hm.bx b tb vs hb
    exact ⟨_, run_storeVar hP hT hc (by rw [hvs, ← hsz, ← hcur.1]; exact hl) hvs hone, hm.setMany hb hl hcv⟩
  · rename_i r g i o
    split at h
    case h_2 => cases h
    rename_i y hy
    split at h
    case h_2 => cases h
    rename_i te hTe
    split at h
    case h_2 => cases h
    rename_i lfs hlf
    split at h
    case isFalse => cases h
    rename_i hl
    cases h
    obtain ⟨hr, te', gb, n, c, hTe', hη, h0, h1, rfl⟩ := ha.optr_inv hy
    rw [hTe] at hTe'; cases hTe'
    obtain ⟨hxr, hg⟩ := Mem.valid_some hy
    have hnl : n = y.xs.length := by
      obtain ⟨ti, inner, _, ho, _⟩ := hm.rw r y hxr
      rcases ho.2 with ⟨e, _⟩ | ⟨g', cap, cur, e, _⟩ <;> rw [hη] at e <;> cases e; rfl
    subst hnl
    have hi : i.toNat < y.xs.length := by omega
    obtain ⟨l1, l2⟩ := toLfs_len hlf
    have hlen : lfs.length = cs.length := by omega
    have huslen : v.cells.toList.length = lfs.length := by rw [hlen, hcv.1]
    have hget : y.xs.getD i.toNat (T.of y.e []) = y.xs[i.toNat] := by rw [List.getD_eq_getElem?_getD, List.getElem?_eq_getElem hi]; rfl
    rw [hget]
    obtain ⟨hl, hel⟩ := hl
    have hrw := hP.row _ te y.xs[i.toNat] hTe hel
    have hrl := wts_len hrw
    have hrow : T.row y.e (T.of y.e (putMany (T.row y.e y.xs[i.toNat]) o lfs)) = putMany (T.row y.e y.xs[i.toNat]) o lfs := by
      have hol : o + lfs.length ≤ (T.row y.e y.xs[i.toNat]).length := by rw [hrl]; have : te.sz = te.lts.length := rfl; omega
      refine hP.of _ te _ hTe hel (wts_at (by rw [putMany_len hol, hrl]) (fun j lt x h1 h2 => ?_))
      rcases putMany_at hol h2 with ⟨h3, h4⟩ | ⟨h3, h4⟩
      · have hj : j - o < cs.length := by have := some_lt h4; omega
        have hca : cs[j - o]? = some cs[j - o] := List.getElem?_eq_getElem hj
        have hlt : ((te.lts.drop o).take cs.length)[j - o]? = some lt := by rw [List.getElem?_take, if_pos hj, List.getElem?_drop]; rw [← h1]; congr 1; omega
        exact toLf_wt (toLfs_at hlf (j - o) x lt _ h4 hlt hca)
      · exact wts_get hrw j lt x h1 h4
    obtain ⟨cur, hc, hroom, hs⟩ := hm.storeR (us := v.cells.toList) (lfs := lfs) (o := o) hxr hη hTe hrow (map_at hi) (by omega) huslen (fun j lf lt u h1 h2 h3 => by
      have hj : j < cs.length := by rw [← hlen]; exact some_lt h1
      have hlt : ((te.lts.drop o).take cs.length)[j]? = some lt := by rw [List.getElem?_take, if_pos hj, List.getElem?_drop]; exact h2
      have hca : cs[j]? = some cs[j] := List.getElem?_eq_getElem hj
      refine toLf_sound (toLfs_at hlf j lf lt _ h1 hlt hca) (hcv.2 j _ u hca h3) (fun e he => ?_)
      subst he
      exact hP.closed _ te hTe e (List.mem_of_getElem? h2))
    refine ⟨_, ?_, hs⟩
    rw [addr_plain, Nat.zero_add]
    exact run_storeVar hP hT hc (by rw [Array.length_toList] at hroom; exact hroom) hvs hone
  · rename_i b o n i
    split at h
    case h_2 => cases h
    rename_i tb vs hb
    split at h
    case isFalse => cases h
    rename_i hon
    cases ha with
    | xptr _ _ _ _ hbl h0 h1 =>
      obtain ⟨cur, hc, hcur⟩ := hm.bx b tb vs hb
      rw [addr_plain]
      split at h
      · rename_i k v'
        split at h
        case h_2 => cases h
        rename_i fs hfs
        cases h
        have e := xptr_put (b := b) (F := AV.int k) (v := v') (intsA_spec hfs) hon h0 h1
        unfold setB putI
        rw [← e]
        simp [cellsA, one] at hcs; subst hcs
        exact ⟨_, run_storeVar hP hT hc (by rw [hvs, ← hsz, ← hcur.1]; simp; omega) hvs hone, hm.setMany hb (by simp; omega) hcv⟩
      · rename_i v'
        split at h
        case h_2 => cases h
        rename_i fs hfs
        cases h
        have e := xptr_put (b := b) (F := AV.bool) (v := v') (boolsA_spec hfs) hon h0 h1
        unfold setB putB
        rw [← e]
        simp [cellsA, one] at hcs; subst hcs
        exact ⟨_, run_storeVar hP hT hc (by rw [hvs, ← hsz, ← hcur.1]; simp; omega) hvs hone, hm.setMany hb (by simp; omega) hcv⟩
      · cases h
  · cases h
end
end Am
