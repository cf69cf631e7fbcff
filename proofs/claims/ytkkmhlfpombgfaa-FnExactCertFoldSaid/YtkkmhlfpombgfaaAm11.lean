/- The abstract machine, part 11: the operations that leave memory as it is. -/
import Derived.Test.YtkkmhlfpombgfaaAm10
set_option linter.unusedVariables false
set_option linter.unusedSectionVars false
set_option linter.unusedSimpArgs false
namespace Am
open Go
variable {τ : TypeId → Type}
def TI.fields (ti : TI) : List (Nat × TypeId) := match ti.d with | .st fs => fs | _ => []
def TI.isSt (ti : TI) : Bool := match ti.d with | .st _ => true | _ => false
def fieldA (T : Tab τ) (m : Mem τ) (s : TypeId) (x : AV τ) (f : Nat) : Option (AV τ) :=
  match T s with
  | none => none
  | some ti => if ti.isSt then
    match ti.fields[f]? with
    | none => none
    | some (off, ft) => match T ft with
      | none => none
      | some tf => if tf.sz = 0 then none else
        match x with
        | .ptr b o => some (.ptr b (o + off))
        | .eptr e rows i o => some (.eptr e rows i (o + off))
        | .optr r g i o => if (m.valid r g).isSome then some (.optr r g i (o + off)) else none
        | _ => none
    else none
def indexA (T : Tab τ) (m : Mem τ) (t : TypeId) (x : AV τ) (i : AV τ) : Option (AV τ) :=
  match T t, i with
  | some ti, .int _ n =>
    match ti.d, x with
    | .sl e, .sl e' rows => if e = e' ∧ (T e).isSome then (if 0 ≤ n then (if n < rows.length then some (.eptr e' rows n 0) else none) else none) else none
    | .sl e, .own r g => match m.valid r g with
      | some y => if e = y.e then (if 0 ≤ n then (if n < y.xs.length then some (.optr r g n 0) else none) else none) else none
      | none => none
    | .arr len e, .ptr b o => match T e with
      | some te => if te.sz = 1 ∧ 2 ≤ len then (if 0 ≤ n then (if n < len then some (.xptr b o len n) else none) else none) else none
      | none => none
    | _, _ => none
  | _, _ => none
def lenA (T : Tab τ) (m : Mem τ) (t : TypeId) (x : AV τ) : Option (AV τ) :=
  match T t with
  | some ti => match ti.d, x with
    | .sl _, .sl _ rows => some (.int .i64 rows.length)
    | .sl _, .nil => some (.int .i64 0)
    | .sl _, .own r g => match m.valid r g with
      | some y => some (.int .i64 y.xs.length)
      | none => none
    | _, _ => none
  | none => none
section
variable {T : Tab τ} {P : Program} {by_ : TypeId → Nat} {w w' w2 : World} {m m' m2 : Mem τ} {η η' η2 : Eta} {tm : List (AV τ)} {S : Nat → Prop}
theorem VR.sl_inv {e : TypeId} {rows : List (τ e)} {v : Value} (h : VR T S w m η (.sl e rows) v) : LR T S w (.sl e) (.l e rows) v := by cases h with | sl _ _ _ h => exact h
theorem VR.len_inv {e : TypeId} {rows : List (τ e)} {v : Value} (h : VR T S w m η (.sl e rows) v) : ∃ A c, v = .slice A rows.length c ∧ rows.length ≤ c ∧ (rows ≠ [] → ∃ ad, A = some ad) := by
  have := h.sl_inv
  cases this with
  | sl _ ti hT _ A c hc vf hA hl h => exact ⟨A, c, rfl, hc, fun hn => let ⟨ad, h1, _⟩ := hA hn; ⟨ad, h1⟩⟩
theorem own_val (hm : MR T w η m) {r g : Nat} {x : Rw τ} {v : Value} (h : VR T (Safe η m) w m η (.own r g) v) (hv : m.valid r g = some x) :
    ∃ A c, v = .slice A x.xs.length c ∧ x.xs.length ≤ c ∧ v = η.r r ∧ (x.xs ≠ [] → ∃ gb, A = some ⟨gb, 0, none⟩) := by
  have e := h.own_inv hv
  obtain ⟨hx, hg⟩ := Mem.valid_some hv
  obtain ⟨ti, inner, hT, ho, hR⟩ := hm.rw r x hx
  rcases ho.2 with ⟨e2, hn⟩ | ⟨gb, cap, cur, e2, _, _, hnc, _⟩
  · refine ⟨none, 0, by rw [e, e2, hn], by omega, e, fun hne => absurd (List.eq_nil_of_length_eq_zero hn) hne⟩
  · exact ⟨_, cap, by rw [e, e2], hnc, e, fun _ => ⟨gb, rfl⟩⟩
theorem VR.eptr_inv {e : TypeId} {rows : List (τ e)} {i : Int} {o : Nat} {v : Value} (h : VR T S w m η (.eptr e rows i o) v) :
    ∃ ti ad c, T e = some ti ∧ LR T S w (.sl e) (.l e rows) (.slice (some ad) rows.length c) ∧ 0 ≤ i ∧ i < rows.length ∧ v = .pointer (some (ad.add (i.toNat * ti.sz + o))) := by
  cases h with | eptr _ _ _ _ ti ad c hT h h0 h1 => exact ⟨ti, ad, c, hT, h, h0, h1, rfl⟩
theorem VR.optr_inv {r g : Nat} {i : Int} {o : Nat} {v : Value} {x : Rw τ} (h : VR T S w m η (.optr r g i o) v) (hv : m.valid r g = some x) :
    r < m.rw.length ∧ ∃ ti gb n c, T x.e = some ti ∧ η.r r = .slice (some ⟨gb, 0, none⟩) n c ∧ 0 ≤ i ∧ i < n ∧ v = .pointer (some ((⟨gb, 0, none⟩ : Addr).add (i.toNat * ti.sz + o))) := by
  obtain ⟨hx, hg⟩ := Mem.valid_some hv
  cases h with | optr _ _ _ _ _ hr h => exact ⟨hr, (h x hx).2 hg⟩
theorem VR.ptr_lt {b o : Nat} {v : Value} (h : VR T S w m η (.ptr b o) v) : b < m.bx.length := by cases h with | ptr _ _ hb => exact hb
theorem VR.optr_mk {r g : Nat} {i : Int} {o : Nat} {x : Rw τ} {ti : TI} {gb n c : Nat} (hv : m.valid r g = some x) (hT : T x.e = some ti) (hη : η.r r = .slice (some ⟨gb, 0, none⟩) n c) (h0 : 0 ≤ i) (h1 : i < n) :
    VR T S w m η (.optr r g i o) (.pointer (some ((⟨gb, 0, none⟩ : Addr).add (i.toNat * ti.sz + o)))) := by
  obtain ⟨hx, hg⟩ := Mem.valid_some hv
  refine .optr r g i o _ (some_lt hx) (fun y hy => ?_)
  rw [hx] at hy; cases hy
  exact ⟨by omega, fun _ => ⟨ti, gb, n, c, hT, hη, h0, h1, rfl⟩⟩
theorem fieldA_sound (hP : PT P T) (hm : MR T w η m) {s : TypeId} {x r : AV τ} {f : Nat} {v : Value} (h : fieldA T m s x f = some r) (hv : VR T (Safe η m) w m η x v) :
    ∃ z, (Instr.fieldAt s v f).run P w = .ok z w ∧ VR T (Safe η m) w m η r z := by
  unfold fieldA at h
  split at h
  · cases h
  rename_i ti hT
  split at h
  case isFalse => cases h
  rename_i hst
  split at h
  · cases h
  rename_i off ft hf
  split at h
  · cases h
  rename_i tf hTf
  split at h
  · cases h
  rename_i hsz
  obtain ⟨fs, hd⟩ : ∃ fs, ti.d = .st fs := by unfold TI.isSt at hst; cases hd : ti.d <;> rw [hd] at hst <;> simp at hst; exact ⟨_, rfl⟩
  obtain ⟨fields, hu, hfs⟩ := hP.st s ti fs hT hd
  have hf' : fs[f]? = some (off, ft) := by unfold TI.fields at hf; rw [hd] at hf; exact hf
  obtain ⟨fd, hfd, e⟩ : ∃ fd, fields[f]? = some fd ∧ (fd.offset, fd.type) = (off, ft) := by
    rw [← hfs, List.getElem?_map] at hf'
    cases hq : fields.toList[f]? with
    | none => rw [hq] at hf'; simp at hf'
    | some fd => rw [hq] at hf'; exact ⟨fd, by simpa using hq, by simpa using hf'⟩
  simp only [Prod.mk.injEq] at e
  obtain ⟨rfl, rfl⟩ := e
  obtain ⟨i, hi, hisz⟩ := hP.info _ tf hTf
  have hz : (Go.sizeOf fd.type).run P w = .ok i.size w := by simp [Go.sizeOf, typeInfo, hi]
  have key : ∀ a : Addr, (Instr.fieldAt s (.pointer (some a)) f).run P w = .ok (.pointer (some (a.add fd.offset))) w := by
    intro a
    unfold Instr.fieldAt
    simp only [Sem.run_bind, run_underlying hu, Result.andThen_ok, hfd]
    simp only [Instr.sureAddr, fieldPlace, Sem.run_bind, Sem.run_pure, Result.andThen_ok, hz, Sem.run_ite]
    rw [if_neg (by rw [hisz]; exact hsz)]
    rfl
  split at h
  · cases h
    rw [hv.ptr_inv, key, addr_plain]
    exact ⟨_, rfl, .ptr _ _ hv.ptr_lt⟩
  · cases h
    obtain ⟨te, ad, c, hTe, hL, h0, h1, rfl⟩ := hv.eptr_inv
    exact ⟨_, key _, by rw [addr_add, Nat.add_assoc]; exact .eptr _ _ _ _ te ad c hTe hL h0 h1⟩
  · split at h
    case isFalse => cases h
    rename_i hval
    cases h
    obtain ⟨x, hx⟩ := Option.isSome_iff_exists.1 hval
    obtain ⟨hr, te, gb, n, c, hTe, hη, h0, h1, rfl⟩ := hv.optr_inv hx
    exact ⟨_, key _, by rw [addr_add, Nat.add_assoc]; exact VR.optr_mk hx hTe hη h0 h1⟩
  · cases h
theorem boundsOk {n : Int} {l : Nat} (h0 : 0 ≤ n) (h1 : n < l) : 0 ≤ n ∧ n < (l : Int) := ⟨h0, h1⟩
theorem indexA_sound (hP : PT P T) (hm : MR T w η m) {t : TypeId} {x i r : AV τ} {v u : Value} (h : indexA T m t x i = some r) (hv : VR T (Safe η m) w m η x v) (hi : VR T (Safe η m) w m η i u) :
    ∃ z, (Instr.indexAt t v u).run P w = .ok z w ∧ VR T (Safe η m) w m η r z := by
  unfold indexA at h
  split at h
  case h_2 => cases h
  rename_i ti k n hT
  have hu := hi.int_inv
  subst hu
  split at h
  · rename_i e e' rows hd
    split at h
    case isFalse => cases h
    rename_i hee
    obtain ⟨rfl, hTe⟩ := hee
    split at h
    case isFalse => cases h
    rename_i h0
    split at h
    case isFalse => cases h
    rename_i h1
    cases h
    obtain ⟨te, hTe⟩ := Option.isSome_iff_exists.1 hTe
    obtain ⟨A, c, rfl, hc, hA⟩ := hv.len_inv
    have hL := hv.sl_inv
    obtain ⟨ad, rfl⟩ := hA (by intro e; subst e; simp at h1; omega)
    obtain ⟨j, hj, hjs⟩ := hP.info e te hTe
    have hz : (Go.sizeOf e).run P w = .ok j.size w := by simp [Go.sizeOf, typeInfo, hj]
    refine ⟨.pointer (some (ad.add (n.toNat * te.sz))), ?_, ?_⟩
    · unfold Instr.indexAt
      simp only [asIntOf, Sem.run_bind, Sem.run_pure, Result.andThen_ok, run_underlying (hP.sl t ti e hT hd), Sem.run_ite, hz]
      rw [if_pos ⟨h0, h1⟩, hjs]
    · have := VR.eptr (T := T) (S := Safe η m) (w := w) (m := m) (η := η) e rows n 0 te ad c hTe hL h0 h1
      simpa using this
  · rename_i e r' g hd
    split at h
    case h_2 => cases h
    rename_i y hy
    split at h
    case isFalse => cases h
    rename_i hee
    split at h
    case isFalse => cases h
    rename_i h0
    split at h
    case isFalse => cases h
    rename_i h1
    cases h
    obtain ⟨A, c, hve, hc, hη, hA⟩ := own_val hm hv hy
    obtain ⟨gb, rfl⟩ := hA (by intro e; rw [e] at h1; simp at h1; omega)
    obtain ⟨hx, hg⟩ := Mem.valid_some hy
    obtain ⟨te, inner, hTe, _⟩ := hm.rw r' y hx
    obtain ⟨j, hj, hjs⟩ := hP.info _ te hTe
    have hz : (Go.sizeOf y.e).run P w = .ok j.size w := by simp [Go.sizeOf, typeInfo, hj]
    refine ⟨.pointer (some ((⟨gb, 0, none⟩ : Addr).add (n.toNat * te.sz))), ?_, ?_⟩
    · subst hve
      unfold Instr.indexAt
      simp only [asIntOf, Sem.run_bind, Sem.run_pure, Result.andThen_ok, run_underlying (hP.sl t ti e hT hd), Sem.run_ite, hee, hz]
      rw [if_pos ⟨h0, h1⟩, hjs]
    · have := VR.optr_mk (T := T) (S := Safe η m) (w := w) (η := η) (i := n) (o := 0) hy hTe (by rw [← hη, hve]) h0 h1
      simpa using this
  · rename_i len e b o hd
    split at h
    case h_2 => cases h
    rename_i te hTe
    split at h
    case isFalse => cases h
    rename_i hsz
    split at h
    case isFalse => cases h
    rename_i h0
    split at h
    case isFalse => cases h
    rename_i h1
    cases h
    have hb := hv.ptr_lt
    have hve := hv.ptr_inv
    subst hve
    obtain ⟨j, hj, hjs⟩ := hP.info _ te hTe
    have hz : (Go.sizeOf e).run P w = .ok j.size w := by simp [Go.sizeOf, typeInfo, hj]
    refine ⟨_, ?_, .xptr b o len n hb h0 h1⟩
    unfold Instr.indexAt
    simp only [asIntOf, Sem.run_bind, Sem.run_pure, Result.andThen_ok, run_underlying (hP.arr t ti len e hT hd), Sem.run_ite, Instr.sureAddr, hz]
    rw [if_pos ⟨h0, h1⟩, hjs, hsz.1, Nat.mul_one]
  · cases h
theorem lenA_sound (hP : PT P T) (hm : MR T w η m) {t : TypeId} {x r : AV τ} {v : Value} (h : lenA T m t x = some r) (hv : VR T (Safe η m) w m η x v) (rest : Array TypeId) (ty : TypeId) :
    ∃ z, (Builtin.len_ #[t] ty #[v]).run P w = .ok z w ∧ VR T (Safe η m) w m η r z := by
  unfold lenA at h
  split at h
  case h_2 => cases h
  rename_i ti hT
  split at h
  · rename_i e e' rows hd
    cases h
    obtain ⟨A, c, rfl, hc, _⟩ := hv.len_inv
    exact ⟨_, by simp [Builtin.len_, run_underlying (hP.sl t ti _ hT hd)]; rfl, .int _ _⟩
  · rename_i e hd
    cases h
    cases hv
    exact ⟨_, by simp [Builtin.len_, run_underlying (hP.sl t ti _ hT hd)]; rfl, .int _ _⟩
  · rename_i e r' g hd
    split at h
    case h_2 => cases h
    rename_i y hy
    cases h
    obtain ⟨A, c, rfl, _, _⟩ := own_val hm hv hy
    exact ⟨_, by simp [Builtin.len_, run_underlying (hP.sl t ti _ hT hd)]; rfl, .int _ _⟩
  · cases h
end
end Am
