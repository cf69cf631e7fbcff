/- The abstract machine, part 36: what the program says of types, asked once. -/
import Derived.Test.YtkkmhlfpombgfaaAm35
set_option linter.unusedVariables false
set_option linter.unusedSectionVars false
set_option linter.unusedSimpArgs false
namespace Am
open Go
variable {τ : TypeId → Type}
inductive DV where
  | int (k : IntKind)
  | bool
  | str
  | st (fs : List (Nat × TypeId))
  | arr (n : Nat) (e : TypeId)
  | sl (e : TypeId)
  | oth
def viewD : TypeDesc → DV
  | .int k => .int k
  | .bool => .bool
  | .string => .str
  | .struct fields => cond (fields.toList.all fun f => !(f.name == "_")) (.st (fields.toList.map fun f => (f.offset, f.type))) .oth
  | .array n e => .arr n e
  | .slice e => .sl e
  | _ => .oth
def dvOf (t : TI) : DV := match t.d with
  | .scal => match t.lts with
    | [.int k] => .int k
    | [.bool] => .bool
    | [.str] => .str
    | _ => .oth
  | .st fs => .st fs
  | .arr n e => .arr n e
  | .sl e => .sl e
  | .ptr => .oth
def zeroOf (t : TI) : Value := match t.d with
  | .scal => match t.lts with
    | [lt] => zV lt
    | _ => undef
  | .sl e => zV (.sl e)
  | _ => .agg (t.lts.map zV).toArray
def lookN {α : Type} (t : Nat) : List (Nat × α) → Option α
  | [] => none
  | (u, x) :: l => cond (Nat.beq t u) (some x) (lookN t l)
def lookD {α : Type} (d : α) (t : Nat) : List (Nat × α) → α
  | [] => d
  | (u, x) :: l => cond (Nat.beq t u) x (lookD d t l)
theorem lookN_mem {α : Type} {t : Nat} {x : α} : ∀ {l : List (Nat × α)}, lookN t l = some x → (t, x) ∈ l
  | [], h => by cases h
  | (u, y) :: l, h => by
    unfold lookN at h
    cases hb : Nat.beq t u with
    | true => rw [hb] at h; simp only [cond_true] at h; cases h; rw [Nat.eq_of_beq_eq_true hb]; exact List.mem_cons_self ..
    | false => rw [hb] at h; exact List.mem_cons_of_mem _ (lookN_mem h)
def formOk (by_ : TypeId → Nat) (L : List (TypeId × TI)) (p : TypeId × TI) : Bool :=
  (match p.2.d with | .scal => Nat.beq p.2.lts.length 1 && (match p.2.lts with | [.sl _] => false | _ => true) | .sl e => (match p.2.lts with | [.sl e'] => Nat.beq e e' | _ => false) | .ptr => false | _ => true) &&
  (Nat.blt 0 (by_ p.1) && (Nat.blt 0 p.2.sz && p.2.lts.all fun lt => match lt with | .sl e => (lookN e L).isSome | _ => true))
/-- What is asked of the program, once for all types. -/
structure Asked (P : Program) (by_ : TypeId → Nat) (L : List (TypeId × TI)) : Prop where
  i : L.map (fun p => (P.info? p.1).map fun i => (i.size, i.zero, i.bytes)) = L.map fun p => some (p.2.sz, some (zeroOf p.2), by_ p.1)
  d : L.map (fun p => (P.underlying p.1).map viewD) = L.map fun p => some (dvOf p.2)
  e : L.map (fun p => P.eqGuardType P.depth p.1 || P.stoodInHeld p.1) = L.map fun _ => false
  f : L.all (formOk by_ L) = true
/-- Elements as data. -/
def ElOk (T : Tab τ) (e : TypeId) : Prop := ∀ ti, T e = some ti → (∀ x, wts ti.lts (T.row e x) = true) ∧ ∀ l, wts ti.lts l = true → T.row e (T.of e l) = l
theorem map_at' {α β : Type} {f g : α → β} : ∀ {l : List α}, l.map f = l.map g → ∀ x ∈ l, f x = g x
  | [], _, x, h => by simp at h
  | y :: l, e, x, h => by
    simp only [List.map_cons, List.cons.injEq] at e
    rcases List.mem_cons.1 h with rfl | h
    · exact e.1
    · exact map_at' e.2 x h
theorem vstruct (fields : Array Field) : viewD (.struct fields) = .oth ∨ ∃ fs, viewD (.struct fields) = .st fs := by
  simp only [viewD]
  cases (fields.toList.all fun f => !(f.name == "_")) with
  | true => exact .inr ⟨_, rfl⟩
  | false => exact .inl rfl
theorem pq_of {P : Program} {by_ : TypeId → Nat} {L : List (TypeId × TI)} (h : Asked P by_ L) {T : Tab τ} (hT : T.get = fun t => lookN t L) (hel : ∀ e, T.el e = true → ElOk T e) : PQ P T by_ := by
  have mem : ∀ t ti, T t = some ti → (t, ti) ∈ L := fun t ti ht => lookN_mem (by rw [hT] at ht; exact ht)
  have inf : ∀ t ti, T t = some ti → ∃ i, P.info? t = some i ∧ i.size = ti.sz ∧ i.zero = some (zeroOf ti) ∧ i.bytes = by_ t := fun t ti ht => by
    have := map_at' h.i _ (mem t ti ht)
    simp only at this
    cases hi : P.info? t with
    | none => rw [hi] at this; cases this
    | some i => rw [hi] at this; simp only [Option.map_some, Option.some.injEq, Prod.mk.injEq] at this; exact ⟨i, rfl, this⟩
  have und : ∀ t ti, T t = some ti → ∃ d, P.underlying t = some d ∧ viewD d = dvOf ti := fun t ti ht => by
    have := map_at' h.d _ (mem t ti ht)
    simp only at this
    cases hd : P.underlying t with
    | none => rw [hd] at this; cases this
    | some d => rw [hd] at this; simp only [Option.map_some, Option.some.injEq] at this; exact ⟨d, rfl, this⟩
  have frm : ∀ t ti, T t = some ti → formOk by_ L (t, ti) = true := fun t ti ht => List.all_eq_true.1 h.f _ (mem t ti ht)
  have vst : ∀ d fs, viewD d = .st fs → ∃ fields, d = .struct fields ∧ fields.toList.map (fun f => (f.offset, f.type)) = fs ∧ ∀ f ∈ fields.toList, (f.name == "_") = false := fun d fs hd => by
    cases d <;> simp only [viewD] at hd <;> try (cases hd; done)
    rename_i fields
    cases hc : (fields.toList.all fun f => !(f.name == "_")) with
    | false => rw [hc] at hd; cases hd
    | true =>
      rw [hc] at hd
      simp only [cond_true] at hd
      injection hd with hd
      refine ⟨fields, rfl, hd, fun f hf => ?_⟩
      have := List.all_eq_true.1 hc f hf
      simpa using this
  have one : ∀ t ti, T t = some ti → ti.d = .scal → ∃ lt, ti.lts = [lt] ∧ lt.isSl = false := fun t ti ht hd => by
    have := frm t ti ht
    unfold formOk at this
    rw [Bool.and_eq_true] at this
    have h1 := this.1
    simp only [hd, Bool.and_eq_true] at h1
    have hl := Nat.eq_of_beq_eq_true h1.1
    match hlt : ti.lts, hl with
    | [lt], _ =>
      refine ⟨lt, rfl, ?_⟩
      rw [hlt] at h1
      cases lt <;> simp_all [LT.isSl]
  refine { info := fun t ti ht => ?_, scal := fun t ti ht hd => ?_, st := fun t ti fs ht hd => ?_, arr := fun t ti n e ht hd => ?_, sl := fun t ti e ht hd => ?_, closed := fun t ti ht e he => ?_, row := fun t ti x ht hl => (hel t hl ti ht).1 x, of := fun t ti l ht hl => (hel t hl ti ht).2 l, zero := fun t ti ht hp => ?_, sI := fun t ti k ht hd hl => ?_, sB := fun t ti ht hd hl => ?_, sS := fun t ti ht hd hl => ?_, eqs := fun t ti fs ht hd => ?_ }
  · obtain ⟨i, h1, h2, _⟩ := inf t ti ht; exact ⟨i, h1, h2⟩
  · obtain ⟨d, h1, h2⟩ := und t ti ht
    refine ⟨d, h1, ?_⟩
    cases d <;> try rfl
    · obtain ⟨lt, h3, _⟩ := one t ti ht hd
      unfold dvOf at h2; rw [hd, h3] at h2
      cases lt <;> simp [viewD] at h2
    · obtain ⟨lt, h3, h4⟩ := one t ti ht hd
      unfold dvOf at h2; rw [hd, h3] at h2
      rename_i fields
      simp only [viewD] at h2
      obtain ⟨u1, u2⟩ | hne := Classical.em (lt.isSl = true ∧ True)
      · rw [h4] at u1; cases u1
      · exfalso
        cases hc : (fields.toList.all fun f => !(f.name == "_")) with
        | true => rw [hc] at h2; cases lt <;> simp [LT.isSl] at h4 h2
        | false => rw [hc] at h2; cases lt <;> simp [LT.isSl] at h4 h2
  · obtain ⟨d, h1, h2⟩ := und t ti ht
    unfold dvOf at h2; rw [hd] at h2
    obtain ⟨fields, rfl, h3, _⟩ := vst d fs h2
    exact ⟨fields, h1, h3⟩
  · obtain ⟨d, h1, h2⟩ := und t ti ht
    unfold dvOf at h2; rw [hd] at h2
    cases d <;> first | (simp only [viewD] at h2; cases h2; done) | (simp only [viewD] at h2; cases h2; exact h1) | (rename_i fields; rcases vstruct fields with e | ⟨fs, e⟩ <;> rw [e] at h2 <;> cases h2)
  · obtain ⟨d, h1, h2⟩ := und t ti ht
    unfold dvOf at h2; rw [hd] at h2
    cases d <;> first | (simp only [viewD] at h2; cases h2; done) | (simp only [viewD] at h2; cases h2; exact h1) | (rename_i fields; rcases vstruct fields with e | ⟨fs, e⟩ <;> rw [e] at h2 <;> cases h2)
  · have := frm t ti ht
    unfold formOk at this
    simp only [Bool.and_eq_true] at this
    have h1 := List.all_eq_true.1 this.2.2.2 _ he
    simp only at h1
    rw [hT]; exact h1
  · obtain ⟨i, h1, h2, h3, h4⟩ := inf t ti ht
    have := frm t ti ht
    unfold formOk at this
    simp only [Bool.and_eq_true, Nat.blt_eq] at this
    refine ⟨i, zeroOf ti, h1, h2, h3, ?_, h4, this.2.1, this.2.2.1⟩
    unfold zeroOf
    cases hd : ti.d with
    | scal =>
      obtain ⟨lt, h5, h6⟩ := one t ti ht hd
      rw [h5]; cases lt <;> rfl
    | sl e =>
      have h5 := this.1
      simp only [hd] at h5
      split at h5
      · rename_i e' hl
        rw [hl, Nat.eq_of_beq_eq_true h5]; rfl
      · cases h5
    | ptr => have h5 := this.1; simp only [hd] at h5; cases h5
    | st fs => simp [Value.cells]
    | arr n e => simp [Value.cells]
  · obtain ⟨d, h1, h2⟩ := und t ti ht
    unfold dvOf at h2; rw [hd, hl] at h2
    cases d <;> first | (simp only [viewD] at h2; cases h2; done) | (simp only [viewD] at h2; cases h2; exact h1) | (rename_i fields; rcases vstruct fields with e | ⟨fs, e⟩ <;> rw [e] at h2 <;> cases h2)
  · obtain ⟨d, h1, h2⟩ := und t ti ht
    unfold dvOf at h2; rw [hd, hl] at h2
    cases d <;> first | (simp only [viewD] at h2; cases h2; done) | exact h1 | (rename_i fields; rcases vstruct fields with e | ⟨fs, e⟩ <;> rw [e] at h2 <;> cases h2)
  · obtain ⟨d, h1, h2⟩ := und t ti ht
    unfold dvOf at h2; rw [hd, hl] at h2
    cases d <;> first | (simp only [viewD] at h2; cases h2; done) | exact h1 | (rename_i fields; rcases vstruct fields with e | ⟨fs, e⟩ <;> rw [e] at h2 <;> cases h2)
  · have h1 := map_at' h.e _ (mem t ti ht)
    simp only [Bool.or_eq_false_iff] at h1
    refine ⟨h1.1, h1.2, fun fields hf f hm => ?_⟩
    obtain ⟨d, h2, h3⟩ := und t ti ht
    unfold dvOf at h3; rw [hd] at h3
    obtain ⟨fields', rfl, _, h5⟩ := vst d fs h3
    rw [hf] at h2; cases h2
    exact h5 f hm
end Am
