/- The abstract machine, part 32: a region whose order is drawn: what is known at each point of any order. -/
import Derived.Test.YtkkmhlfpombgfaaAm31
set_option linter.unusedVariables false
set_option linter.unusedSectionVars false
set_option linter.unusedSimpArgs false
namespace Am
open Go
variable {τ : TypeId → Type}
/-- What must have come up before. -/
inductive Anc (ops : Array Oper) : Nat → Nat → Prop where
  | one {j i : Nat} {o : Oper} (h : ops[j]? = some o) (hi : i ∈ needsA o) : Anc ops j i
  | more {j d i : Nat} {o : Oper} (h : ops[j]? = some o) (hd : d ∈ needsA o) (ha : Anc ops d i) : Anc ops j i
theorem bits_some : ∀ {ds acc : List Nat} {i : Nat}, Nat.testBit (bitsA ds acc) i = true → ∃ d ∈ ds, d = i ∨ Nat.testBit (acc.getD d 0) i = true
  | [], acc, i, h => by simp [bitsA] at h
  | d :: ds, acc, i, h => by
    have h2 : Nat.testBit (((1 <<< d) ||| (acc.getD d 0)) ||| bitsA ds acc) i = true := h
    rw [Nat.testBit_or, Nat.testBit_or, Bool.or_eq_true, Bool.or_eq_true] at h2
    rcases h2 with (h2 | h2) | h2
    · rw [Nat.one_shiftLeft, Nat.testBit_two_pow] at h2
      exact ⟨d, List.mem_cons_self .., .inl (by simpa using h2)⟩
    · exact ⟨d, List.mem_cons_self .., .inr h2⟩
    · obtain ⟨e, he, h3⟩ := bits_some h2; exact ⟨e, List.mem_cons_of_mem _ he, h3⟩
theorem ancs_go {ops : Array Oper} : ∀ (os : List Oper) (acc : List Nat), (∀ i o, os[i]? = some o → ops[acc.length + i]? = some o) → (∀ j i, Nat.testBit (acc.getD j 0) i = true → Anc ops j i) → ∀ j i, Nat.testBit ((ancsA os acc).getD j 0) i = true → Anc ops j i
  | [], acc, _, h => h
  | o :: os, acc, hos, h => by
    unfold ancsA
    refine ancs_go os _ (fun i x hx => ?_) (fun j i hb => ?_)
    · have := hos (i + 1) x (by simpa using hx)
      rw [List.length_append, List.length_singleton, Nat.add_assoc, Nat.add_comm 1 i]; exact this
    · rw [List.getD_eq_getElem?_getD] at hb
      rcases Nat.lt_trichotomy j acc.length with c | c | c
      · rw [List.getElem?_append_left c] at hb; exact h j i (by rw [List.getD_eq_getElem?_getD]; exact hb)
      · subst c
        rw [List.getElem?_append_right (Nat.le_refl _)] at hb
        simp only [Nat.sub_self, List.getElem?_cons_zero, Option.getD_some] at hb
        have ho : ops[acc.length]? = some o := by have := hos 0 o rfl; simpa using this
        obtain ⟨d, hd, h3⟩ := bits_some hb
        rcases h3 with rfl | h3
        · exact .one ho hd
        · exact .more ho hd (h d i h3)
      · rw [List.getElem?_eq_none (by simp; omega)] at hb; simp at hb
theorem ancs_sound {ops : Array Oper} {j i : Nat} (h : Nat.testBit ((ancsA ops.toList []).getD j 0) i = true) : Anc ops j i :=
  ancs_go ops.toList [] (fun i o h => by simpa using h) (fun j i h => by simp at h) j i h
theorem Anc.closed {ops : Array Oper} {S : Nat → Prop} (hS : ∀ i o, ops[i]? = some o → S i → ∀ d ∈ needsA o, S d) {j i : Nat} (h : Anc ops j i) (hj : ∀ o, ops[j]? = some o → ∀ d ∈ needsA o, S d) : S i := by
  induction h with
  | one h hi => exact hj _ h _ hi
  | more h hd ha ih => exact ih (fun o ho d' hd' => hS _ o ho (hj _ h _ hd) d' hd')
theorem memN_iff {x : Nat} {l : List Nat} : memN x l = true ↔ x ∈ l := by
  unfold memN
  cases h : idxA x l with
  | none => simp [idxA_none h]
  | some i => simp; exact List.mem_of_getElem? (idxA_some h)
theorem fresh_at {ops : Array Oper} {ancs : List Nat} {i : Nat} {o : Oper} {d : Nat} : ∀ {xs : List Oper} {k : Nat}, freshA ops ancs i o d k xs = true → ∀ q x, xs[q]? = some x →
    (k + q = i → d ∉ o.looksAt ops) ∧ (k + q ≠ i → x.dst ≠ some d ∧ (d ∈ x.looksAt ops → Nat.testBit (ancs.getD (k + q) 0) i = true))
  | [], k, _, q, x, hx => by simp at hx
  | y :: ys, k, h, q, x, hx => by
    unfold freshA at h
    rw [Bool.and_eq_true] at h
    cases q with
    | zero =>
      simp at hx; subst hx
      rw [Nat.add_zero]
      cases hb : Nat.beq k i with
      | true =>
        rw [hb] at h
        simp only [cond_true, Bool.not_eq_true'] at h
        exact ⟨fun _ hm => (by rw [memN_iff.2 hm] at h; cases h.1), fun hne => absurd (Nat.eq_of_beq_eq_true hb) hne⟩
      | false =>
        rw [hb] at h
        simp only [cond_false, Bool.and_eq_true, Bool.not_eq_true', Bool.or_eq_true] at h
        refine ⟨fun e => (by subst e; rw [Nat.beq_refl] at hb; cases hb), fun _ => ⟨fun e => ?_, fun hm => ?_⟩⟩
        · have := h.1.1; unfold dstIs at this; rw [e] at this; simp [Nat.beq_refl] at this
        · rcases h.1.2 with h2 | h2
          · rw [memN_iff.2 hm] at h2; cases h2
          · exact h2
    | succ q =>
      have := fresh_at h.2 q x (by simpa using hx)
      rw [Nat.add_assoc, Nat.add_comm 1 q] at this
      exact this
/-- What is known of a read that may come up first. -/
theorem rdOk_spec {ops : Array Oper} {i : Nat} {o : Oper} (h : rdOk ops (ancsA ops.toList []) i o = true) : isRdK o.op = true ∧ ∃ d, o.dst = some d ∧ (ops[i]? = some o → d ∉ o.looksAt ops) ∧
    ∀ j x, ops[j]? = some x → j ≠ i → x.dst ≠ some d ∧ (d ∈ x.looksAt ops → Anc ops j i) := by
  unfold rdOk at h
  rw [Bool.and_eq_true] at h
  refine ⟨h.1, ?_⟩
  cases hd : o.dst with
  | none => rw [hd] at h; simp at h
  | some d =>
    rw [hd] at h
    refine ⟨d, rfl, fun ho => ?_, fun j x hx hne => ?_⟩
    · exact (fresh_at h.2 i o (by simpa using ho)).1 (by simp)
    · have := (fresh_at h.2 j x (by simpa using hx)).2 (by simpa using hne)
      rw [Nat.zero_add] at this
      exact ⟨this.1, fun hm => ancs_sound (this.2 hm)⟩
theorem readyB_iff {l : List Bool} {i : Nat} {o : Oper} : readyB l i o = true ↔ l.getD i true = false ∧ ∀ d ∈ needsA o, l.getD d false = true := by
  unfold readyB
  rw [Bool.and_eq_true, Bool.not_eq_true', List.all_eq_true]
theorem firstRd_some {ops : Array Oper} {ancs : List Nat} {l : List Bool} {r : Nat × Oper} : ∀ {os : List Oper} {k : Nat}, firstRd ops ancs l k os = some r → ∃ q, os[q]? = some r.2 ∧ r.1 = k + q ∧ readyB l r.1 r.2 = true ∧ rdOk ops ancs r.1 r.2 = true
  | [], k, h => by cases h
  | o :: os, k, h => by
    unfold firstRd at h
    cases hc : (readyB l k o && rdOk ops ancs k o) with
    | true => rw [hc] at h; simp only [cond_true] at h; cases h; rw [Bool.and_eq_true] at hc; exact ⟨0, rfl, rfl, hc⟩
    | false =>
      rw [hc] at h; simp only [cond_false] at h
      obtain ⟨q, h1, h2, h3⟩ := firstRd_some h
      exact ⟨q + 1, by simpa using h1, by rw [h2]; omega, h3⟩
theorem readyL_mem {l : List Bool} : ∀ {os : List Oper} {k q : Nat} {o : Oper}, os[q]? = some o → readyB l (k + q) o = true → (k + q, o) ∈ readyL l k os
  | [], k, q, o, h, _ => by simp at h
  | x :: xs, k, q, o, h, hr => by
    unfold readyL
    cases q with
    | zero => simp at h; subst h; rw [Nat.add_zero] at hr ⊢; rw [hr]; simp
    | succ q =>
      have := readyL_mem (k := k + 1) (q := q) (o := o) (by simpa using h) (by rw [Nat.add_assoc, Nat.add_comm 1 q]; exact hr)
      rw [Nat.add_assoc, Nat.add_comm 1 q] at this
      cases readyB l k x
      · exact this
      · exact List.mem_cons_of_mem _ this
theorem allW_mem : ∀ {js : List (Nat × Oper)} {f : Nat → Oper → Option Unit}, allW js f = some () → ∀ j o, (j, o) ∈ js → f j o = some ()
  | [], f, h, _, _, hm => by simp at hm
  | [(j, o)], f, h, j', o', hm => by simp at hm; obtain ⟨rfl, rfl⟩ := hm; exact h
  | (j, o) :: p :: js, f, h, j', o', hm => by
    unfold allW andA at h
    split at h
    · rename_i hx
      rcases List.mem_cons.1 hm with e | hm
      · cases e; exact hx
      · exact allW_mem h j' o' hm
    · cases h
/-- Whether an operation is wanted. -/
def wantA (ops : Array Oper) (s : St τ) (o : Oper) : Option Bool := match o.guard with
  | none => some true
  | some (j, want) => match (ops[j]?).bind (·.dst) with
    | some t => match s.tm.getD t .bad with
      | .bool v => some (v == want)
      | .und => some false
      | _ => none
    | none => none
theorem guardA_cases {ops : Array Oper} {o : Oper} {s : St τ} {go skip : St τ → Option Unit} (h : guardA ops o s go skip = some ()) : (wantA ops s o = some true ∧ go s = some ()) ∨ (wantA ops s o = some false ∧ skip s = some ()) := by
  unfold guardA at h
  unfold wantA
  split at h
  · rename_i hg; rw [hg]; exact .inl ⟨rfl, h⟩
  · rename_i j want hg
    rw [hg]
    simp only
    split at h
    case h_2 => cases h
    rename_i t ht
    rw [ht]
    simp only
    split at h
    · rename_i v hv
      rw [hv]
      cases v <;> cases want <;> simp only [brA, cond_true, cond_false, set_same (t := t) hv] at h
      · exact .inl ⟨rfl, h⟩
      · exact .inr ⟨rfl, h⟩
      · exact .inr ⟨rfl, h⟩
      · exact .inl ⟨rfl, h⟩
    · rename_i hv; rw [hv]; exact .inr ⟨rfl, h⟩
    · cases h
theorem looks_op {ops : Array Oper} {o : Oper} {t : Nat} (h : Operand.tmp t ∈ o.op.operands) : t ∈ o.looksAt ops := by
  unfold Oper.looksAt
  exact List.mem_append_left _ (List.mem_filterMap.2 ⟨.tmp t, by simpa using h, rfl⟩)
theorem looks_guard {ops : Array Oper} {o : Oper} {j t : Nat} {want : Bool} (hg : o.guard = some (j, want)) (ht : (ops[j]?).bind (·.dst) = some t) : t ∈ o.looksAt ops := by
  unfold Oper.looksAt
  refine List.mem_append_right _ ?_
  rw [hg]; simp only; rw [ht]; simp
/-- Operands and guard are the same where the temporaries looked at are. -/
theorem want_same {ops : Array Oper} {o : Oper} {s s2 : St τ} (h : ∀ t ∈ o.looksAt ops, s2.tm.getD t .bad = s.tm.getD t .bad) : wantA ops s2 o = wantA ops s o := by
  unfold wantA
  cases hg : o.guard with
  | none => rfl
  | some p =>
    obtain ⟨j, want⟩ := p
    simp only
    cases ht : (ops[j]?).bind (·.dst) with
    | none => rfl
    | some t => simp only; rw [h t (looks_guard hg ht)]
theorem eval_same {ops : Array Oper} {o : Oper} {tm tm2 : List (AV τ)} (h : ∀ t ∈ o.looksAt ops, tm2.getD t .bad = tm.getD t .bad) : ∀ x ∈ o.op.operands, eA tm2 x = eA tm x := fun x hx => by
  cases x with
  | tmp t => exact h t (looks_op hx)
  | _ => rfl
theorem SameAt.refl (l : List (Bool × Nat)) (m : Mem τ) : SameAt l m m := fun p _ => ⟨fun _ => rfl, fun _ => rfl⟩
section
variable {P : Program} {E : Env τ} {C : Ctr τ Unit} {w w' w2 w0 : World} {m m' m2 m0 m1 : Mem τ} {η η' η2 η0 η1 : Eta} {tm : List (AV τ)} {S S' : Nat → Prop} {s : St τ} {ts : Array Value} {nb : NB}
theorem wanted_of {T : Tab τ} {ops : Array Oper} {o : Oper} {b : Bool} (h : At T w0 η0 m0 nb w s ts) (hw : wantA ops s o = some b) : Region.wanted o (yielded ops ts) = b := by
  unfold wantA at hw
  unfold Region.wanted
  cases hg : o.guard with
  | none => rw [hg] at hw; cases hw; rfl
  | some p =>
    obtain ⟨j, want⟩ := p
    rw [hg] at hw
    simp only at hw ⊢
    split at hw
    case h_2 => cases hw
    rename_i t ht
    obtain ⟨y1, y2⟩ := yield_of h ht
    split at hw
    · rename_i v hv
      rw [y1 v hv]
      cases hw
      cases v <;> cases want <;> rfl
    · rename_i hv
      rw [y2 hv]
      cases hw
      cases want <;> rfl
    · cases hw
/-- Less is known of the temporaries. -/
theorem At.weak {T : Tab τ} {tm2 : List (AV τ)} (h : At T w0 η0 m0 nb w s ts) (hl : tm2.length = s.tm.length) (ht : ∀ t, tm2.getD t .bad = s.tm.getD t .bad ∨ tm2.getD t .bad = .bad) : At T w0 η0 m0 nb w ⟨tm2, s.m⟩ ts := by
  obtain ⟨η, h⟩ := h
  refine ⟨η, h.mr, ⟨by rw [hl]; exact h.tr.len, fun i => ?_⟩, h.safe, h.agree, h.x, h.fx, h.bk, h.bl, h.rk, h.rl⟩
  rcases ht i with e | e
  · show VR _ _ _ _ _ (tm2.getD i .bad) _
    rw [e]; exact h.tr.at_ i
  · show VR _ _ _ _ _ (tm2.getD i .bad) _
    rw [e]; exact .bad _
/-- Other values of temporaries of which nothing is known. -/
theorem At.swap {T : Tab τ} {ts2 : Array Value} (h : At T w0 η0 m0 nb w s ts) (hl : ts2.size = ts.size) (ht : ∀ t, s.tm.getD t .bad = .bad ∨ ts2.getD t undef = ts.getD t undef) : At T w0 η0 m0 nb w s ts2 := by
  obtain ⟨η, h⟩ := h
  refine ⟨η, h.mr, ⟨by rw [hl]; exact h.tr.len, fun i => ?_⟩, h.safe, h.agree, h.x, h.fx, h.bk, h.bl, h.rk, h.rl⟩
  rcases ht i with e | e
  · rw [e]; exact .bad _
  · rw [e]; exact h.tr.at_ i
open Classical in
noncomputable def maskD (D : Nat → Prop) : Nat → List (AV τ) → List (AV τ)
  | _, [] => []
  | i, v :: vs => (if D i then .bad else v) :: maskD D (i + 1) vs
theorem maskD_len {D : Nat → Prop} : ∀ (i : Nat) (vs : List (AV τ)), (maskD D i vs).length = vs.length
  | _, [] => rfl
  | i, v :: vs => by simp [maskD, maskD_len (i + 1) vs]
theorem maskD_at {D : Nat → Prop} : ∀ (i : Nat) (vs : List (AV τ)) (t : Nat), (D (i + t) → (maskD D i vs).getD t .bad = .bad) ∧ (¬ D (i + t) → (maskD D i vs).getD t .bad = vs.getD t .bad)
  | _, [], t => by simp [maskD]
  | i, v :: vs, 0 => by
    simp only [maskD, Nat.add_zero]
    refine ⟨fun h => by simp [h], fun h => by simp [h]⟩
  | i, v :: vs, t + 1 => by
    have := maskD_at (D := D) (i + 1) vs t
    rw [show i + 1 + t = i + (t + 1) by omega] at this
    simpa [maskD] using this
theorem maskD_in {D : Nat → Prop} {vs : List (AV τ)} {t : Nat} (h : D t) : (maskD D 0 vs).getD t .bad = .bad := (maskD_at 0 vs t).1 (by rw [Nat.zero_add]; exact h)
theorem maskD_out {D : Nat → Prop} {vs : List (AV τ)} {t : Nat} (h : ¬ D t) : (maskD D 0 vs).getD t .bad = vs.getD t .bad := (maskD_at 0 vs t).2 (by rw [Nat.zero_add]; exact h)
theorem getD_set {l : List (AV τ)} {d t : Nat} {v : AV τ} : (l.set d v).getD t .bad = if d = t then (if d < l.length then v else .bad) else l.getD t .bad := by
  rw [List.getD_eq_getElem?_getD, List.getElem?_set, List.getD_eq_getElem?_getD]
  by_cases h : d = t
  · subst h; rw [if_pos rfl, if_pos rfl]; split <;> rfl
  · rw [if_neg h, if_neg h]
end
end Am
