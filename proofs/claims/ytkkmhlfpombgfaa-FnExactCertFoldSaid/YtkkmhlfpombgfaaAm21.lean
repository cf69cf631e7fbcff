/- The abstract machine, part 21: one operation is sound. -/
import Derived.Test.YtkkmhlfpombgfaaAm20
set_option linter.unusedVariables false
set_option linter.unusedSectionVars false
set_option linter.unusedSimpArgs false
namespace Am
open Go
variable {τ : TypeId → Type}
section
variable {T : Tab τ} {P : Program} {by_ : TypeId → Nat} {w w' w2 : World} {m m' m2 : Mem τ} {η η' η2 : Eta} {tm : List (AV τ)} {S : Nat → Prop}
/-- What an operation that calls no function does. -/
def OpR (T : Tab τ) (P : Program) (w : World) (m : Mem τ) (η : Eta) (s : Sem Next) (m' : Mem τ) (r : AV τ) : Prop :=
  ∃ n z w' η', s.run P w = .ok n w' ∧ (n = .value z ∨ (n = .skip ∧ z = undef)) ∧ Step T w m η w' m' η' ∧ VR T (Safe η' m') w' m' η' r z
theorem OpR.val (hm : MR T w η m) {s : Sem Value} {r : AV τ} (h : ∃ z, s.run P w = .ok z w ∧ VR T (Safe η m) w m η r z) : OpR T P w m η (do pure (.value (← s))) m r := by
  obtain ⟨z, h1, h2⟩ := h
  exact ⟨.value z, z, w, η, by simp [h1], .inl rfl, .refl hm, h2⟩
theorem OpR.mem {s : Sem Value} {r : AV τ} (h : ∃ z w' η', s.run P w = .ok z w' ∧ Step T w m η w' m' η' ∧ VR T (Safe η' m') w' m' η' r z) : OpR T P w m η (do pure (.value (← s))) m' r := by
  obtain ⟨z, w', η', h1, h2, h3⟩ := h
  exact ⟨.value z, z, w', η', by simp [h1], .inl rfl, h2, h3⟩
theorem valOnly_some {x : Option (AV τ)} {cs : List Bool} {r : AV τ} (h : valOnly m x = some (cs, r, m')) : x = some r ∧ m' = m := by
  unfold valOnly at h; split at h <;> cases h; exact ⟨rfl, rfl⟩
theorem valC_some {x : Option (List Bool × AV τ)} {cs : List Bool} {r : AV τ} (h : valC m x = some (cs, r, m')) : x = some (cs, r) ∧ m' = m := by
  unfold valC at h; split at h <;> cases h; exact ⟨rfl, rfl⟩
theorem memOnly_some {x : Option (AV τ × Mem τ)} {cs : List Bool} {r : AV τ} (h : memOnly x = some (cs, r, m')) : x = some (r, m') := by
  unfold memOnly at h; split at h <;> cases h; rfl
theorem storeOnly_some {x : Option (Mem τ)} {cs : List Bool} {r : AV τ} (h : storeOnly x = some (cs, r, m')) : x = some m' ∧ r = .bad := by
  unfold storeOnly at h; split at h <;> cases h; exact ⟨rfl, rfl⟩
theorem parts_rel {ts : Array Value} {ds : List Deferred} (ht : TR T w m η tm ts) (parts : Array (Nat × Operand)) :
    (parts.toList.map fun p => (p.1, eA tm p.2)).length = (parts.map fun (i, x) => (i, (⟨ts, ds⟩ : Act).eval x)).toList.length ∧
    ∀ (i : Nat) (p : Nat × AV τ) (q : Nat × Value), (parts.toList.map fun p => (p.1, eA tm p.2))[i]? = some p → (parts.map fun (i, x) => (i, (⟨ts, ds⟩ : Act).eval x)).toList[i]? = some q → p.1 = q.1 ∧ VR T (Safe η m) w m η p.2 q.2 := by
  refine ⟨by simp, fun i p q hp hq => ?_⟩
  rw [List.getElem?_map] at hp
  rw [Array.toList_map, List.getElem?_map] at hq
  cases hx : parts.toList[i]? with
  | none => rw [hx] at hp; simp at hp
  | some x => rw [hx] at hp hq; simp at hp hq; subst hp; subst hq; exact ⟨rfl, ht.eval x.2⟩
theorem sameOp_eq {l c : Operand} (h : sameOp l c = true) : l = c := by
  unfold sameOp at h
  split at h
  · simp at h; rw [h]
  · simp at h; rw [h.1, h.2]
  · cases h
theorem isStrT_some (hP : PQ P T by_) {t : TypeId} (h : isStrT T t = true) : P.underlying t = some .string := by
  unfold isStrT at h
  split at h
  case h_2 => cases h
  rename_i ti hT
  split at h
  · rename_i h1 h2; exact hP.sS t ti hT h1 h2
  · cases h
theorem str_val {s : ByteArray} {v : Value} (h : VR T S w m η (.str s) v) : v = .string s := by cases h; rfl
theorem bytes_eq (a b : ByteArray) : (a.toList == b.toList) = decide (a = b) := by
  by_cases h : a = b
  · subst h; simp
  · rw [decide_eq_false h, beq_eq_false_iff_ne]
    intro e
    rw [ByteArray.toList_eq, ByteArray.toList_eq] at e
    exact h (ByteArray.ext (Array.ext' e))
theorem strOp_sound {op : BinOp} {x y r : AV τ} {cs : List Bool} {u v : Value} (t : TypeId) (ox oy : Operand) (h : strOp op x y = some (cs, r)) (hcs : cs.all id = true) (hx : VR T S w m η x u) (hy : VR T S w m η y v) :
    ∃ z, (do eqGuard op t ox oy u v; binOp op t u v : Sem Value).run P w = .ok z w ∧ VR T S w m η r z := by
  unfold strOp at h
  split at h
  case h_2 => cases h
  rename_i a b
  have e1 := str_val hx
  have e2 := str_val hy
  subst e1; subst e2
  unfold strA at h
  split at h
  · cases h
    simp at hcs
    refine ⟨.string (a ++ b), ?_, .str _⟩
    simp [eqGuard, binOp_string_add, run_string_add_sum w a b (by simpa using hcs)]
  · cases h; refine ⟨.bool (decide (a = b)), ?_, .bool _⟩; simp [eqGuard, binOp, Op.stringOp, bytes_eq]
  · cases h; refine ⟨.bool (!decide (a = b)), ?_, .bool _⟩; simp [eqGuard, binOp, Op.stringOp, bytes_eq]
  · cases h
theorem lenS_sound (hP : PQ P T by_) (hm : MR T w η m) {t : TypeId} {x r : AV τ} {v : Value} (h : lenS T m t x = some r) (hv : VR T (Safe η m) w m η x v) (rest : Array TypeId) (ty : TypeId) :
    ∃ z, (Builtin.len_ #[t] ty #[v]).run P w = .ok z w ∧ VR T (Safe η m) w m η r z := by
  unfold lenS at h
  split at h
  · rename_i s
    cases hs : isStrT T t with
    | false => rw [hs] at h; cases h
    | true =>
    rw [hs] at h; cases h
    have e := str_val hv
    subst e
    exact ⟨_, by simp [Builtin.len_, run_underlying (isStrT_some hP hs)]; rfl, .int _ _⟩
  · exact lenA_sound hP.toPT hm h hv rest ty
theorem valIndexS_sound (hP : PQ P T by_) {t : TypeId} {x i r : AV τ} {cs0 : List Bool} {v u : Value} (h : valIndexS T t x i = some (cs0, r)) (hcs : cs0.all id = true) (hv : VR T S w m η x v) (hi : VR T S w m η i u) :
    ∃ z, (Instr.index t v u).run P w = .ok z w ∧ VR T S w m η r z := by
  unfold valIndexS at h
  split at h
  · rename_i s
    split at h
    case h_2 => cases h
    rename_i k n
    cases hs : isStrT T t with
    | false => rw [hs] at h; cases h
    | true =>
    rw [hs] at h; cases h
    have e := str_val hv
    subst e
    have e2 := hi.int_inv
    subst e2
    simp only [List.all_cons, List.all_nil, Bool.and_true, Bool.and_eq_true, id, decide_eq_true_eq] at hcs
    have hlt : n.toNat < s.size := by omega
    refine ⟨.int .u8 (btA s n), ?_, .int _ _⟩
    simp [Instr.index, run_underlying (isStrT_some hP hs), asIntOf, hcs.1, btA, hlt]
  · exact valIndexC_sound hP.toPT h hcs hv hi
theorem sliceS_sound (hP : PQ P T by_) (hm : MR T w η m) {t : TypeId} {x r : AV τ} {lo hi : Option (AV τ)} {cs : List Bool} {v : Value} {vlo vhi : Option Value} (h : sliceS T m t x lo hi = some (cs, r, m')) (hcs : cs.all id = true)
    (hv : VR T (Safe η m) w m η x v) (hlo : ∀ a, lo = some a → ∃ u, vlo = some u ∧ VR T (Safe η m) w m η a u) (hlo2 : lo = none → vlo = none) (hhi : ∀ a, hi = some a → ∃ u, vhi = some u ∧ VR T (Safe η m) w m η a u) (hhi2 : hi = none → vhi = none) :
    ∃ z η', (Instr.sliceAt t v vlo vhi none).run P w = .ok z w ∧ Step T w m η w m' η' ∧ VR T (Safe η' m') w m' η' r z := by
  unfold sliceS at h
  split at h
  · rename_i s
    cases hs : isStrT T t with
    | false => rw [hs] at h; cases h
    | true =>
    rw [hs] at h
    simp only [cond_true] at h
    obtain ⟨h, rfl⟩ := valC_some h
    have e := str_val hv
    subst e
    have hu := run_underlying (w := w) (isStrT_some hP hs)
    unfold strSl at h
    split at h
    · cases h
      obtain ⟨u, rfl, hq⟩ := hhi _ rfl
      have e2 := hq.int_inv
      subst e2
      rw [hlo2 rfl]
      simp only [List.all_cons, List.all_nil, Bool.and_true, Bool.and_eq_true, id, decide_eq_true_eq] at hcs
      exact ⟨_, η, by simp [Instr.sliceAt, Instr.slice, hu, Instr.sliceBounds, Instr.sliceBound, asIntOf, hcs.1, hcs.2], .refl hm, .str _⟩
    · cases h
      obtain ⟨u, rfl, hq⟩ := hlo _ rfl
      have e2 := hq.int_inv
      subst e2
      rw [hhi2 rfl]
      simp only [List.all_cons, List.all_nil, Bool.and_true, Bool.and_eq_true, id, decide_eq_true_eq] at hcs
      exact ⟨_, η, by simp [Instr.sliceAt, Instr.slice, hu, Instr.sliceBounds, Instr.sliceBound, asIntOf, hcs.1, hcs.2], .refl hm, .str _⟩
    · cases h
      obtain ⟨u, rfl, hq⟩ := hlo _ rfl
      have e2 := hq.int_inv
      subst e2
      obtain ⟨u, rfl, hq⟩ := hhi _ rfl
      have e2 := hq.int_inv
      subst e2
      simp only [List.all_cons, List.all_nil, Bool.and_true, Bool.and_eq_true, id, decide_eq_true_eq] at hcs
      obtain ⟨c1, c2, c3, c4⟩ := hcs
      exact ⟨_, η, by simp [Instr.sliceAt, Instr.slice, hu, Instr.sliceBounds, Instr.sliceBound, asIntOf, c1, c2, c3, c4, Int.max_eq_left c1, Int.max_eq_right c1], .refl hm, .str _⟩
    · cases h
  · exact sliceA_sound hP.toPZ hm h hcs hv hlo hlo2 hhi hhi2
theorem builtinA_sound (hP : PQ P T by_) (hm : MR T w η m) {b : Builtin} {ats : Array TypeId} {args : List (AV τ)} {vs : Array Value} {cs : List Bool} {r : AV τ} (h : builtinA T by_ m b ats args = some (cs, r, m')) (hcs : cs.all id = true)
    (hv : VRs T (Safe η m) w m η args vs.toList) (ty : TypeId) (consts : Array Bool) : OpR T P w m η (builtin b ats ty consts vs) m' r := by
  have one : ∀ (x : AV τ), args = [x] → ∃ v, vs = #[v] ∧ VR T (Safe η m) w m η x v := by
    intro x hx; subst hx
    have hl := hv.1
    match hvl : vs.toList, hl with
    | [v], _ => exact ⟨v, by rw [← Array.toArray_toList (xs := vs), hvl], hv.2 0 x v rfl (by rw [hvl]; rfl)⟩
  have two : ∀ (x y : AV τ), args = [x, y] → ∃ u v, vs = #[u, v] ∧ VR T (Safe η m) w m η x u ∧ VR T (Safe η m) w m η y v := by
    intro x y hx; subst hx
    have hl := hv.1
    match hvl : vs.toList, hl with
    | [u, v], _ => exact ⟨u, v, by rw [← Array.toArray_toList (xs := vs), hvl], hv.2 0 x u rfl (by rw [hvl]; rfl), hv.2 1 y v rfl (by rw [hvl]; rfl)⟩
  unfold builtinA at h
  split at h
  · rename_i t x ht
    obtain ⟨h1, rfl⟩ := valOnly_some h
    obtain ⟨v, rfl, hx⟩ := one x rfl
    have : ats = #[t] := by rw [← Array.toArray_toList (xs := ats), ht]
    subst this
    exact OpR.val hm (lenS_sound hP hm h1 hx #[] ty)
  · rename_i t t' s x ht
    obtain ⟨u, v, rfl, hs, hx⟩ := two s x rfl
    have : ats = #[t, t'] := by rw [← Array.toArray_toList (xs := ats), ht]
    subst this
    split at h
    case isFalse => cases h
    rename_i e; subst e
    exact OpR.mem (appendA_sound hP.toPZ hm (appendC_spec h hcs) hs hx)
  · rename_i t t' d s ht
    obtain ⟨u, v, rfl, hd, hs⟩ := two d s rfl
    have : ats = #[t, t'] := by rw [← Array.toArray_toList (xs := ats), ht]
    subst this
    obtain ⟨z, w', h1, h2, h3⟩ := copyA_sound (ty := ty) (t2 := t') hP.toPZ hm (memOnly_some h) hd hs
    exact OpR.mem ⟨z, w', η, h1, h2, h3⟩
  · rename_i x y
    obtain ⟨u, v, rfl, hx, hy⟩ := two x y rfl
    obtain ⟨h1, rfl⟩ := valOnly_some h
    exact OpR.val hm (minA_sound h1 hx hy ats ty)
  · cases h
theorem opA_sound (hP : PQ P T by_) (hm : MR T w η m) {ts : Array Value} {ds : List Deferred} (ht : TR T w m η tm ts) {o : Oper} {cs : List Bool} {r : AV τ} (h : opA T by_ tm m o.op = some (cs, r, m')) (hcs : cs.all id = true) :
    OpR T P w m η (execOp (⟨ts, ds⟩ : Act).eval o) m' r := by
  obtain ⟨dst, op, type, pos, after, guard⟩ := o
  have ev := fun x => ht.eval (ds := ds) x
  cases op
  case move x => simp only [opA] at h; cases h; exact ⟨_, _, w, η, rfl, .inl rfl, .refl hm, ev x⟩
  case assign x => simp only [opA] at h; cases h; exact ⟨_, _, w, η, rfl, .inl rfl, .refl hm, ev x⟩
  case pick c a b =>
    simp only [opA] at h
    obtain ⟨h1, rfl⟩ := valOnly_some h
    obtain ⟨z, h2, h3⟩ := pickC_sound (P := P) h1 (ev c) (ev a) (ev b)
    exact ⟨.value z, z, w, η, h2, .inl rfl, .refl hm, h3⟩
  case alloc t => simp only [opA] at h; exact OpR.mem (allocA_sound hP.toPZ hm (memOnly_some h) _)
  case box t x => simp only [opA] at h; exact OpR.mem (boxA_sound hm (memOnly_some h) (ev x))
  case build t parts =>
    simp only [opA] at h
    obtain ⟨h1, rfl⟩ := valOnly_some h
    obtain ⟨p1, p2⟩ := parts_rel (ds := ds) ht parts
    exact OpR.val hm (buildA_sound hP.toPZ hm h1 p1 p2)
  case buildSlice t len parts =>
    simp only [opA] at h
    obtain ⟨p1, p2⟩ := parts_rel (ds := ds) ht parts
    exact OpR.mem (buildSliceA_sound hP.toPZ hm (memOnly_some h) p1 p2)
  case load t a =>
    simp only [opA] at h
    obtain ⟨h1, rfl⟩ := valOnly_some h
    exact OpR.val hm (loadAny_sound hP.toPT hm h1 (ev a))
  case store t a x =>
    simp only [opA] at h
    obtain ⟨h1, rfl⟩ := storeOnly_some h
    obtain ⟨w', h2, h3⟩ := storeA_sound hP.toPT hm h1 (ev a) (ev x)
    exact ⟨.skip, undef, w', η, by simp [execOp, h2], .inr ⟨rfl, rfl⟩, h3, .bad _⟩
  case nilCheck x =>
    simp only [opA] at h
    obtain ⟨h1, rfl⟩ := valOnly_some h
    obtain ⟨h2, h3⟩ := nilCheckA_sound h1 (ev x)
    rcases h3 with ⟨a, e⟩ | ⟨f, e⟩
    · refine ⟨.value _, _, w, η, ?_, .inl rfl, .refl hm, h2⟩
      simp only [execOp, e]; rfl
    · refine ⟨.value _, _, w, η, ?_, .inl rfl, .refl hm, h2⟩
      simp only [execOp, e]; rfl
  case binOp op t x y _ =>
    simp only [opA] at h
    split at h
    · obtain ⟨h1, rfl⟩ := valC_some h
      exact OpR.val hm (numA_sound t x y h1 hcs (ev x) (ev y))
    · rename_i hn
      split at h
      · obtain ⟨h1, rfl⟩ := valC_some h
        exact OpR.val hm (strOp_sound t x y h1 hcs (ev x) (ev y))
      · rename_i hs
        obtain ⟨h1, rfl⟩ := valOnly_some h
        exact OpR.val hm (eqOpA_sound hP h1 (ev x) (ev y) (by simpa using hn) (by simpa using hs) x y)
  case unOp op t x =>
    simp only [opA] at h
    obtain ⟨h1, rfl⟩ := valOnly_some h
    exact OpR.val hm (unA_sound (unC_eq .. ▸ h1) (ev x))
  case convert s d x =>
    simp only [opA] at h
    obtain ⟨h1, rfl⟩ := valOnly_some h
    exact OpR.val hm (convA_sound hP (convC_eq .. ▸ h1) (ev x))
  case makeSlice t l c =>
    simp only [opA] at h
    split at h
    case isFalse => cases h
    rename_i hsame
    have e := sameOp_eq hsame
    subst e
    exact OpR.mem (makeSliceA_sound hP.toPZ hm (makeSliceC_spec h hcs) (ev l))
  case slice t x lo hi mx =>
    cases mx with
    | some q => simp [opA] at h
    | none =>
    simp only [opA] at h
    refine OpR.mem ?_
    obtain ⟨z, η', h1, h2, h3⟩ := sliceS_sound (vlo := lo.map (⟨ts, ds⟩ : Act).eval) (vhi := hi.map (⟨ts, ds⟩ : Act).eval) hP hm h hcs (ev x) (fun a ha => by
      cases lo with
      | none => simp at ha
      | some l => simp at ha; subst ha; exact ⟨_, rfl, ev l⟩) (fun ha => by cases lo <;> simp at ha ⊢) (fun a ha => by
      cases hi with
      | none => simp at ha
      | some l => simp at ha; subst ha; exact ⟨_, rfl, ev l⟩) (fun ha => by cases hi <;> simp at ha ⊢)
    exact ⟨z, w, η', h1, h2, h3⟩
  case fieldAddr s x f =>
    simp only [opA] at h
    obtain ⟨h1, rfl⟩ := valOnly_some h
    exact OpR.val hm (fieldA_sound hP.toPT hm h1 (ev x))
  case field s x f =>
    simp only [opA] at h
    obtain ⟨h1, rfl⟩ := valOnly_some h
    exact OpR.val hm (valFieldA_sound hP.toPT h1 (ev x))
  case indexAddr t x i =>
    simp only [opA] at h
    obtain ⟨h1, rfl⟩ := valC_some h
    exact OpR.val hm (indexC_sound hP.toPT hm h1 hcs (ev x) (ev i))
  case index t x i =>
    simp only [opA] at h
    obtain ⟨h1, rfl⟩ := valC_some h
    exact OpR.val hm (valIndexS_sound hP h1 hcs (ev x) (ev i))
  case extract t i =>
    simp only [opA] at h
    obtain ⟨h1, rfl⟩ := valOnly_some h
    exact OpR.val hm (extractA_sound h1 (ev t))
  case call c =>
    simp only [opA] at h
    split at h
    case h_2 => cases h
    rename_i b hb
    have hv : VRs T (Safe η m) w m η (c.args.toList.map (eA tm)) (c.args.map (⟨ts, ds⟩ : Act).eval).toList := by
      refine ⟨by simp, fun i a v ha hv => ?_⟩
      rw [List.getElem?_map] at ha
      rw [Array.toList_map, List.getElem?_map] at hv
      cases hx : c.args.toList[i]? with
      | none => rw [hx] at ha; simp at ha
      | some x => rw [hx] at ha hv; simp at ha hv; subst ha; subst hv; exact ev x
    simp only [execOp, resolve, hb, invoke, pure_bind]
    exact builtinA_sound hP hm h hcs hv type _
  all_goals (simp [opA] at h)
end
end Am
