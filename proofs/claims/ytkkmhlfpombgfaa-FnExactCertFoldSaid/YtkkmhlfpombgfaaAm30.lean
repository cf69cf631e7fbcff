/- The abstract machine, part 30: operations that only read; what they look at. -/
import Derived.Test.YtkkmhlfpombgfaaAm29
import Derived.Orders
set_option linter.unusedVariables false
set_option linter.unusedSectionVars false
set_option linter.unusedSimpArgs false
namespace Am
open Go
variable {τ : TypeId → Type}
/-- Kinds of operations that only read. -/
def isRdK : Op → Bool
  | .move _ | .pick _ _ _ | .build _ _ | .load _ _ | .nilCheck _ | .binOp _ _ _ _ _ | .unOp _ _ _ | .convert _ _ _ | .fieldAddr _ _ _ | .field _ _ _ | .indexAddr _ _ _ | .index _ _ _ | .extract _ _ => true
  | .slice _ _ _ _ none => true
  | .call c => match c.callee with
    | .builtin .len => true
    | .builtin .min => true
    | _ => false
  | _ => false
def isSl : AV τ → Bool | .sl _ _ => true | _ => false
def dropM : Option (List Bool × AV τ × Mem τ) → Option (List Bool × AV τ) | some (cs, v, _) => some (cs, v) | none => none
/-- What such an operation reads. -/
def rdA (T : Tab τ) (by_ : TypeId → Nat) (tm : List (AV τ)) (m : Mem τ) (op : Op) : Option (List Bool × AV τ) :=
  cond (isRdK op) (match op with
    | .slice _ x _ _ _ => cond (isSl (eA tm x) || isStr (eA tm x)) (dropM (opA T by_ tm m op)) none
    | _ => dropM (opA T by_ tm m op)) none
mutual
def refsD : AV τ → List (Bool × Nat)
  | .own r _ => [(false, r)]
  | .optr r _ _ _ => [(false, r)]
  | .ptr b _ => [(true, b)]
  | .xptr b _ _ _ => [(true, b)]
  | .agg vs => refsDs vs
  | .tup vs => refsDs vs
  | _ => []
def refsDs : List (AV τ) → List (Bool × Nat)
  | [] => []
  | a :: as => refsD a ++ refsDs as
end
/-- Two memories hold the same in these places. -/
def SameAt (l : List (Bool × Nat)) (m m2 : Mem τ) : Prop := ∀ p ∈ l, (p.1 = true → m2.bx[p.2]? = m.bx[p.2]?) ∧ (p.1 = false → m2.rw[p.2]? = m.rw[p.2]?)
/-- The same in these rows. -/
def SameR (l : List (Bool × Nat)) (m m2 : Mem τ) : Prop := ∀ r, (false, r) ∈ l → m2.rw[r]? = m.rw[r]?
def rowsOnly : List (Bool × Nat) → List (Bool × Nat)
  | [] => []
  | (true, _) :: l => rowsOnly l
  | (false, r) :: l => (false, r) :: rowsOnly l
theorem rowsOnly_mem {r : Nat} : ∀ {l : List (Bool × Nat)}, (false, r) ∈ l → (false, r) ∈ rowsOnly l
  | (true, b) :: l, h => by
    unfold rowsOnly
    rcases List.mem_cons.1 h with e | h
    · cases e
    · exact rowsOnly_mem h
  | (false, b) :: l, h => by
    unfold rowsOnly
    rcases List.mem_cons.1 h with e | h
    · rw [e]; exact List.mem_cons_self ..
    · exact List.mem_cons_of_mem _ (rowsOnly_mem h)
section
variable {T : Tab τ} {P : Program} {by_ : TypeId → Nat} {w w' w2 : World} {m m' m2 : Mem τ} {η η' η2 : Eta} {tm tm2 : List (AV τ)} {S : Nat → Prop} {l l2 : List (Bool × Nat)}
theorem SameR.mono (h : SameR l m m2) (hl : ∀ p ∈ l2, p ∈ l) : SameR l2 m m2 := fun r hr => h r (hl _ hr)
theorem SameR.valid (h : SameR l m m2) {r g : Nat} (hr : (false, r) ∈ l) : m2.valid r g = m.valid r g := by unfold Mem.valid; rw [h r hr]
theorem SameAt.rows (h : SameAt (rowsOnly l) m m2) : SameR l m m2 := fun r hr => (h _ (rowsOnly_mem hr)).2 rfl
theorem SameAt.mono (h : SameAt l m m2) (hl : ∀ p ∈ l2, p ∈ l) : SameAt l2 m m2 := fun p hp => h p (hl p hp)
theorem SameAt.bx (h : SameAt l m m2) {b : Nat} (hb : (true, b) ∈ l) : m2.bx[b]? = m.bx[b]? := (h _ hb).1 rfl
theorem SameAt.rw (h : SameAt l m m2) {r : Nat} (hr : (false, r) ∈ l) : m2.rw[r]? = m.rw[r]? := (h _ hr).2 rfl
theorem SameAt.valid (h : SameAt l m m2) {r g : Nat} (hr : (false, r) ∈ l) : m2.valid r g = m.valid r g := by unfold Mem.valid; rw [h.rw hr]
theorem one_same {a : AV τ} (h : SameR (refsD a) m m2) : one m2 a = one m a := by
  cases a <;> simp only [one]
  rw [h.valid (by simp [refsD])]
theorem refsDs_mem {a : AV τ} {p : Bool × Nat} : ∀ {as : List (AV τ)}, a ∈ as → p ∈ refsD a → p ∈ refsDs as
  | [], h, _ => by simp at h
  | b :: bs, h, hp => by
    unfold refsDs
    rcases List.mem_cons.1 h with rfl | h
    · exact List.mem_append_left _ hp
    · exact List.mem_append_right _ (refsDs_mem h hp)
theorem cells_same {a : AV τ} (h : SameR (refsD a) m m2) : cellsA m2 a = cellsA m a := by
  unfold cellsA
  split
  · rename_i vs
    have : vs.all (one m2) = vs.all (one m) := by
      rw [List.all_eq, List.all_eq]
      have : ∀ a ∈ vs, one m2 a = one m a := fun a ha => one_same (h.mono fun p hp => by simp only [refsD]; exact refsDs_mem ha hp)
      simp only [decide_eq_decide]
      exact ⟨fun h2 a ha => by rw [← this a ha]; exact h2 a ha, fun h2 a ha => by rw [this a ha]; exact h2 a ha⟩
    rw [this]
  · rw [one_same h]
theorem fill_same {place : Nat → Option (Nat × Nat)} : ∀ (parts : List (Nat × AV τ)) (vs : List (AV τ)), SameR (refsDs (parts.map (·.2))) m m2 → fillA m2 place vs parts = fillA m place vs parts
  | [], vs, _ => rfl
  | (f, a) :: ps, vs, h => by
    unfold fillA
    rw [cells_same (a := a) (h.mono fun p hp => by simp only [List.map_cons, refsDs]; exact List.mem_append_left _ hp)]
    have ih := fun vs => fill_same (place := place) ps vs (h.mono fun p hp => by simp only [List.map_cons, refsDs]; exact List.mem_append_right _ hp)
    simp only [ih]
/-- What is looked at by an operation that only reads. -/
def opRefs (tm : List (AV τ)) (op : Op) : List (Bool × Nat) := match op with
  | .load _ a => refsD (eA tm a)
  | .build _ parts => rowsOnly (refsDs (parts.toList.map fun p => eA tm p.2))
  | .fieldAddr _ x _ => rowsOnly (refsD (eA tm x))
  | .indexAddr _ x _ => rowsOnly (refsD (eA tm x))
  | .call c => rowsOnly (refsDs (c.args.toList.map (eA tm)))
  | _ => []
theorem loadA_same {t : TypeId} {b o : Nat} (h : m2.bx[b]? = m.bx[b]?) : loadA T m2 t (.ptr b o) = loadA T m t (.ptr b o) := by unfold loadA; simp only [h]
theorem loadAny_same {t : TypeId} {a : AV τ} (h : SameAt (refsD a) m m2) : loadAny T m2 t a = loadAny T m t a := by
  cases a <;> simp only [loadAny]
  case ptr b o => exact loadA_same (h.bx (by simp [refsD]))
  case optr r g i o => rw [h.valid (by simp [refsD])]
  case xptr b o n i => rw [h.bx (by simp [refsD])]
theorem lenA_same {t : TypeId} {a : AV τ} (h : SameR (refsD a) m m2) : lenA T m2 t a = lenA T m t a := by
  have hv : ∀ r g, a = .own r g → m2.valid r g = m.valid r g := fun r g e => h.valid (by subst e; simp [refsD])
  unfold lenA
  cases T t with
  | none => rfl
  | some ti =>
    simp only
    cases ti.d <;> cases a <;> first | rfl | (simp only [hv _ _ rfl])
theorem fieldA_same {s : TypeId} {a : AV τ} {f : Nat} (h : SameR (refsD a) m m2) : fieldA T m2 s a f = fieldA T m s a f := by
  have hv : ∀ r g i o, a = .optr r g i o → m2.valid r g = m.valid r g := fun r g i o e => h.valid (by subst e; simp [refsD])
  unfold fieldA
  cases T s with
  | none => rfl
  | some ti =>
    simp only
    cases ti.fields[f]? with
    | none => rfl
    | some p =>
      simp only
      cases T p.2 with
      | none => rfl
      | some tf => cases a <;> first | rfl | (simp only [hv _ _ _ _ rfl])
theorem indexC_same {t : TypeId} {a i : AV τ} (h : SameR (refsD a) m m2) : indexC T m2 t a i = indexC T m t a i := by
  have hv : ∀ r g, a = .own r g → m2.valid r g = m.valid r g := fun r g e => h.valid (by subst e; simp [refsD])
  unfold indexC
  cases T t with
  | none => rfl
  | some ti =>
    cases i <;> try rfl
    simp only
    cases ti.d <;> cases a <;> first | rfl | (simp only [hv _ _ rfl])
theorem sl_same {t : TypeId} {a : AV τ} {lo hi : Option (AV τ)} (ha : isSl a = true) : dropM (sliceA T m2 t a lo hi) = dropM (sliceA T m t a lo hi) := by
  cases a <;> simp [isSl] at ha
  unfold sliceA
  cases T t with
  | none => rfl
  | some ts =>
    simp only
    cases ts.d <;> try rfl
    rename_i e
    simp only
    cases T e with
    | none => rfl
    | some te =>
      simp only
      split <;> try rfl
      · split <;> rfl
      · split <;> rfl
      · rename_i h; cases h
theorem dropM_valC0 {x : Option (List Bool × AV τ)} : dropM (valC m2 x) = dropM (valC m x) := by cases x <;> rfl
theorem slS_same {t : TypeId} {a : AV τ} {lo hi : Option (AV τ)} (ha : (isSl a || isStr a) = true) : dropM (sliceS T m2 t a lo hi) = dropM (sliceS T m t a lo hi) := by
  cases a <;> simp [isSl, isStr] at ha
  · unfold sliceS
    cases isStrT T t with
    | true => exact dropM_valC0
    | false => rfl
  · unfold sliceS; exact sl_same rfl
theorem lenS_same {t : TypeId} {a : AV τ} (h : SameR (refsD a) m m2) : lenS T m2 t a = lenS T m t a := by
  unfold lenS
  split
  · rfl
  · exact lenA_same h
theorem dropM_valOnly {x : Option (AV τ)} : dropM (valOnly m2 x) = dropM (valOnly m x) := by cases x <;> rfl
theorem dropM_valC {x : Option (List Bool × AV τ)} : dropM (valC m2 x) = dropM (valC m x) := by cases x <;> rfl
/-- It reads the same where the places that it looks at are the same. -/
theorem rdA_same {op : Op} (h : SameAt (opRefs tm op) m m2) (ht : ∀ x ∈ op.operands, eA tm2 x = eA tm x) : rdA T by_ tm2 m2 op = rdA T by_ tm m op := by
  unfold rdA
  cases hk : isRdK op with
  | false => rfl
  | true =>
  simp only [cond_true]
  cases op <;> simp [isRdK] at hk <;> simp only [opA] <;> simp only [Op.operands] at ht <;> simp only [opRefs] at h
  case move x => rw [ht x (by simp)]; rfl
  case pick c a b => rw [ht c (by simp), ht a (by simp), ht b (by simp)]; exact dropM_valOnly
  case build t parts =>
    have e : (parts.toList.map fun p => (p.1, eA tm2 p.2)) = parts.toList.map fun p => (p.1, eA tm p.2) := List.map_congr_left fun p hp => by
      rw [ht p.2 (by simp; exact ⟨p.1, by simpa using hp⟩)]
    rw [e]
    have : buildA T m2 t (parts.toList.map fun p => (p.1, eA tm p.2)) = buildA T m t (parts.toList.map fun p => (p.1, eA tm p.2)) := by
      unfold buildA
      have e2 : SameR (refsDs ((parts.toList.map fun p => (p.1, eA tm p.2)).map (·.2))) m m2 := by
        have := h.rows
        rw [List.map_map]
        exact this
      simp only [fill_same _ _ e2]
    rw [this]
    exact dropM_valOnly
  case load t a => rw [ht a (by simp), loadAny_same h]; exact dropM_valOnly
  case nilCheck x => rw [ht x (by simp)]; exact dropM_valOnly
  case binOp o t a b c =>
    rw [ht a (by simp), ht b (by simp)]
    split
    · exact dropM_valC
    · split
      · exact dropM_valC
      · exact dropM_valOnly
  case unOp o t a => rw [ht a (by simp)]; exact dropM_valOnly
  case convert s d x => rw [ht x (by simp)]; exact dropM_valOnly
  case slice t x lo hi mx =>
    cases mx with
    | some q => simp at hk
    | none =>
    have hlo : lo.map (eA tm2) = lo.map (eA tm) := by
      cases lo with
      | none => rfl
      | some q => simp [ht q (by simp)]
    have hhi : hi.map (eA tm2) = hi.map (eA tm) := by
      cases hi with
      | none => rfl
      | some q => simp [ht q (by simp)]
    simp only [opA]
    rw [ht x (by simp), hlo, hhi]
    cases hs : (isSl (eA tm x) || isStr (eA tm x)) with
    | false => rfl
    | true => simp only [cond_true]; exact slS_same hs
  case fieldAddr s x f => rw [ht x (by simp), fieldA_same h.rows]; exact dropM_valOnly
  case field t x f => rw [ht x (by simp)]; exact dropM_valOnly
  case indexAddr t x i => rw [ht x (by simp), ht i (by simp), indexC_same h.rows]; exact dropM_valC
  case extract x i => rw [ht x (by simp)]; exact dropM_valOnly
  case index t x i => rw [ht x (by simp), ht i (by simp)]; exact dropM_valC
  case call c =>
    split at hk <;> first | (cases hk; done) | skip
    all_goals
      rename_i hb
      have hargs : ∀ x ∈ c.args.toList, x ∈ c.operands := fun x hx => by simp [Call.operands, hb]; simpa using hx
      have e : c.args.toList.map (eA tm2) = c.args.toList.map (eA tm) := List.map_congr_left fun x hx => ht x (hargs x hx)
      have e3 : ∀ x ∈ c.args.toList.map (eA tm), SameR (refsD x) m m2 := fun x hx' => h.rows.mono fun p hp => refsDs_mem hx' hp
      rw [e]
      simp only [hb]
      generalize c.args.toList.map (eA tm) = as at e3
      unfold builtinA
      split <;> first
        | rfl
        | (exact dropM_valOnly)
        | (rw [lenS_same (e3 _ (by simp))]; exact dropM_valOnly)
        | (rename_i hne; simp at hne; done)
        | (rename_i h9 _; simp at h9; done)
        | skip
theorem dropM_some {x : Option (List Bool × AV τ × Mem τ)} {cs : List Bool} {r : AV τ} (h : dropM x = some (cs, r)) : ∃ m', x = some (cs, r, m') := by
  match x, h with
  | some (a, b, c), h => simp only [dropM, Option.some.injEq, Prod.mk.injEq] at h; obtain ⟨rfl, rfl⟩ := h; exact ⟨c, rfl⟩
theorem rdA_sound (hP : PQ P T by_) (hm : MR T w η m) {ts : Array Value} {ds : List Deferred} (ht : TR T w m η tm ts) {o : Oper} {cs : List Bool} {r : AV τ} (h : rdA T by_ tm m o.op = some (cs, r)) (hcs : cs.all id = true) :
    ∃ z η', (execOp (⟨ts, ds⟩ : Act).eval o).run P w = .ok (.value z) w ∧ Step T w m η w m η' ∧ VR T (Safe η' m) w m η' r z := by
  have val : ∀ {s : Sem Value}, (∃ z, s.run P w = .ok z w ∧ VR T (Safe η m) w m η r z) → ∃ z η', (do pure (.value (← s)) : Sem Next).run P w = .ok (.value z) w ∧ Step T w m η w m η' ∧ VR T (Safe η' m) w m η' r z := fun ⟨z, h1, h2⟩ => ⟨z, η, by simp [h1], .refl hm, h2⟩
  obtain ⟨dst, op, type, pos, after, guard⟩ := o
  have ev := fun x => ht.eval (ds := ds) x
  unfold rdA at h
  cases hk : isRdK op with
  | false => simp only at h; rw [hk] at h; cases h
  | true =>
  simp only at h
  rw [hk] at h
  simp only [cond_true] at h
  cases op <;> simp [isRdK] at hk
  case slice t x lo hi mx =>
    cases mx with
    | some q => simp at hk
    | none =>
    simp only at h
    cases hs : (isSl (eA tm x) || isStr (eA tm x)) with
    | false => rw [hs] at h; cases h
    | true =>
    rw [hs] at h
    simp only [cond_true] at h
    obtain ⟨m', h⟩ := dropM_some h
    simp only [opA] at h
    have hm' : m' = m := by
      generalize eA tm x = a at h hs
      cases a <;> simp [isSl, isStr] at hs
      · unfold sliceS at h
        cases hst : isStrT T t with
        | false => rw [hst] at h; cases h
        | true => rw [hst] at h; exact (valC_some h).2
      unfold sliceS at h
      simp only at h
      unfold sliceA at h
      split at h <;> try (cases h; done)
      split at h <;> try (cases h; done)
      split at h <;> try (cases h; done)
      split at h <;> first
        | (cases h; done)
        | (split at h <;> first | (cases h; done) | (cases h; rfl))
        | contradiction
        | skip
    subst hm'
    obtain ⟨z, η', h1, h2, h3⟩ := sliceS_sound (vlo := lo.map (⟨ts, ds⟩ : Act).eval) (vhi := hi.map (⟨ts, ds⟩ : Act).eval) hP hm h hcs (ev x) (fun a ha => by
      cases lo with
      | none => simp at ha
      | some l => simp at ha; subst ha; exact ⟨_, rfl, ev l⟩) (fun ha => by cases lo <;> simp at ha ⊢) (fun a ha => by
      cases hi with
      | none => simp at ha
      | some l => simp at ha; subst ha; exact ⟨_, rfl, ev l⟩) (fun ha => by cases hi <;> simp at ha ⊢)
    exact ⟨z, η', by simp [execOp, h1], h2, h3⟩
  all_goals replace h := dropM_some h
  case move x =>
    obtain ⟨m', h⟩ := h; simp only [opA] at h
    cases h; exact ⟨_, η, rfl, .refl hm, ev x⟩
  case pick c a b =>
    obtain ⟨m', h⟩ := h; simp only [opA] at h
    obtain ⟨h1, rfl⟩ := valOnly_some h
    obtain ⟨z, h2, h3⟩ := pickC_sound (P := P) h1 (ev c) (ev a) (ev b)
    exact ⟨z, η, h2, .refl hm, h3⟩
  case build t parts =>
    obtain ⟨m', h⟩ := h; simp only [opA] at h
    obtain ⟨h1, rfl⟩ := valOnly_some h
    obtain ⟨p1, p2⟩ := parts_rel (ds := ds) ht parts
    exact val (buildA_sound hP.toPZ hm h1 p1 p2)
  case load t a =>
    obtain ⟨m', h⟩ := h; simp only [opA] at h
    obtain ⟨h1, rfl⟩ := valOnly_some h
    exact val (loadAny_sound hP.toPT hm h1 (ev a))
  case nilCheck x =>
    obtain ⟨m', h⟩ := h; simp only [opA] at h
    obtain ⟨h1, rfl⟩ := valOnly_some h
    obtain ⟨h2, h3⟩ := nilCheckA_sound h1 (ev x)
    rcases h3 with ⟨a, e⟩ | ⟨f, e⟩
    · refine ⟨_, η, ?_, .refl hm, h2⟩
      simp only [execOp, e]; rfl
    · refine ⟨_, η, ?_, .refl hm, h2⟩
      simp only [execOp, e]; rfl
  case binOp op t x y _ =>
    obtain ⟨m', h⟩ := h; simp only [opA] at h
    split at h
    · obtain ⟨h1, rfl⟩ := valC_some h
      exact val (numA_sound t x y h1 hcs (ev x) (ev y))
    · rename_i hn
      split at h
      · obtain ⟨h1, rfl⟩ := valC_some h
        exact val (strOp_sound t x y h1 hcs (ev x) (ev y))
      · rename_i hs
        obtain ⟨h1, rfl⟩ := valOnly_some h
        exact val (eqOpA_sound hP h1 (ev x) (ev y) (by simpa using hn) (by simpa using hs) x y)
  case unOp op t x =>
    obtain ⟨m', h⟩ := h; simp only [opA] at h
    obtain ⟨h1, rfl⟩ := valOnly_some h
    exact val (unA_sound (unC_eq .. ▸ h1) (ev x))
  case convert s d x =>
    obtain ⟨m', h⟩ := h; simp only [opA] at h
    obtain ⟨h1, rfl⟩ := valOnly_some h
    exact val (convA_sound hP (convC_eq .. ▸ h1) (ev x))
  case fieldAddr s x f =>
    obtain ⟨m', h⟩ := h; simp only [opA] at h
    obtain ⟨h1, rfl⟩ := valOnly_some h
    exact val (fieldA_sound hP.toPT hm h1 (ev x))
  case field s x f =>
    obtain ⟨m', h⟩ := h; simp only [opA] at h
    obtain ⟨h1, rfl⟩ := valOnly_some h
    exact val (valFieldA_sound hP.toPT h1 (ev x))
  case indexAddr t x i =>
    obtain ⟨m', h⟩ := h; simp only [opA] at h
    obtain ⟨h1, rfl⟩ := valC_some h
    exact val (indexC_sound hP.toPT hm h1 hcs (ev x) (ev i))
  case index t x i =>
    obtain ⟨m', h⟩ := h; simp only [opA] at h
    obtain ⟨h1, rfl⟩ := valC_some h
    exact val (valIndexS_sound hP h1 hcs (ev x) (ev i))
  case extract t i =>
    obtain ⟨m', h⟩ := h; simp only [opA] at h
    obtain ⟨h1, rfl⟩ := valOnly_some h
    exact val (extractA_sound h1 (ev t))
  case call c =>
    obtain ⟨m', h⟩ := h; simp only [opA] at h
    split at h
    case h_2 => cases h
    rename_i b hb
    have hv : VRs T (Safe η m) w m η (c.args.toList.map (eA tm)) (c.args.map (⟨ts, ds⟩ : Act).eval).toList := by
      refine ⟨by simp, fun i a v ha hv => ?_⟩
      rw [List.getElem?_map] at ha
      rw [Array.toList_map, List.getElem?_map] at hv
      cases hx : c.args.toList[i]? with
      | none => rw [hx] at ha; simp at ha
      | some x => rw [hx] at ha hv; simp at ha hv; subst ha; subst hv; exact ev x
    simp only [execOp, resolve, hb, invoke, pure_bind]
    have one : ∀ (x : AV τ), c.args.toList.map (eA tm) = [x] → ∃ v, (c.args.map (⟨ts, ds⟩ : Act).eval) = #[v] ∧ VR T (Safe η m) w m η x v := by
      intro x hx; rw [hx] at hv
      have hl := hv.1
      match hvl : (c.args.map (⟨ts, ds⟩ : Act).eval).toList, hl with
      | [v], _ => exact ⟨v, by rw [← Array.toArray_toList (xs := c.args.map (⟨ts, ds⟩ : Act).eval), hvl], hv.2 0 x v rfl (by rw [hvl]; rfl)⟩
    have two : ∀ (x y : AV τ), c.args.toList.map (eA tm) = [x, y] → ∃ u v, (c.args.map (⟨ts, ds⟩ : Act).eval) = #[u, v] ∧ VR T (Safe η m) w m η x u ∧ VR T (Safe η m) w m η y v := by
      intro x y hx; rw [hx] at hv
      have hl := hv.1
      match hvl : (c.args.map (⟨ts, ds⟩ : Act).eval).toList, hl with
      | [u, v], _ => exact ⟨u, v, by rw [← Array.toArray_toList (xs := c.args.map (⟨ts, ds⟩ : Act).eval), hvl], hv.2 0 x u rfl (by rw [hvl]; rfl), hv.2 1 y v rfl (by rw [hvl]; rfl)⟩
    rw [hb] at hk
    unfold builtinA at h
    split at h
    · rename_i t x hat hx
      obtain ⟨h1, rfl⟩ := valOnly_some h
      obtain ⟨v, hv1, hx2⟩ := one x hx
      rw [hv1]
      have : c.argTypes = #[t] := by rw [← Array.toArray_toList (xs := c.argTypes), hat]
      rw [this]
      exact val (lenS_sound hP hm h1 hx2 #[] type)
    · simp at hk
    · simp at hk
    · rename_i x y hx
      obtain ⟨u, v, hv1, hx2, hy2⟩ := two x y hx
      obtain ⟨h1, rfl⟩ := valOnly_some h
      rw [hv1]
      exact val (minA_sound h1 hx2 hy2 c.argTypes type)
    · cases h
end
end Am
