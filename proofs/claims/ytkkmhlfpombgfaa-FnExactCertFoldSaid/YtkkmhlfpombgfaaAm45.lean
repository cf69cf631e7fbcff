/- The abstract machine, part 45: from one table to another, behind a step made by hand. -/
import Derived.Test.YtkkmhlfpombgfaaAm44
set_option linter.unusedVariables false
set_option linter.unusedSectionVars false
set_option linter.unusedSimpArgs false
namespace Am
open Go
variable {τ : TypeId → Type}
mutual
/-- A value that hangs on no memory that is read; those that are known exactly are of p. -/
def mvA (p : Nat → Bool) : AV τ → Bool
  | .sl _ _ => false
  | .eptr _ _ _ _ => false
  | .opq n => p n
  | .agg vs => mvL p vs
  | .tup vs => mvL p vs
  | _ => true
def mvL (p : Nat → Bool) : List (AV τ) → Bool
  | [] => true
  | a :: as => mvA p a && mvL p as
end
theorem mvL_at {p : Nat → Bool} : ∀ {as : List (AV τ)}, mvL p as = true → ∀ (i : Nat) (a : AV τ), as[i]? = some a → mvA p a = true
  | [], _, i, a, h => by simp at h
  | b :: as, hm, i, a, h => by
    rw [mvL, Bool.and_eq_true] at hm
    cases i with
    | zero => simp at h; subst h; exact hm.1
    | succ i => exact mvL_at hm.2 i a (by simpa using h)
section
variable {T T' : Tab τ} {S S' : Nat → Prop} {w w' w0 : World} {m m0 : Mem τ} {η η0 : Eta} {p : Nat → Bool}
theorem VR.move (hg : T'.get = T.get) (hv : ∀ n, p n = true → T'.val n = T.val n) {a : AV τ} {v : Value} (h : VR T S w m η a v) : mvA p a = true → VR T' S' w' m η a v := by
  induction h with
  | int k n => intro _; exact .int k n
  | bool b => intro _; exact .bool b
  | str s => intro _; exact .str s
  | sl e rows v h => intro ha; rw [mvA] at ha; cases ha
  | own r g v hr h => intro _; exact .own r g v hr h
  | nil => intro _; exact .nil
  | agg vs cs hl h ih => intro ha; rw [mvA] at ha; exact .agg vs cs hl (fun i a c h1 h2 => ih i a c h1 h2 (mvL_at ha i a h1))
  | tup vs cs hl h ih => intro ha; rw [mvA] at ha; exact .tup vs cs hl (fun i a c h1 h2 => ih i a c h1 h2 (mvL_at ha i a h1))
  | ptr b o hb => intro _; exact .ptr b o hb
  | eptr e rows i o ti ad c hT h h0 h1 => intro ha; rw [mvA] at ha; cases ha
  | optr r g i o v hr h =>
    intro _
    refine .optr r g i o v hr (fun x hx => ⟨(h x hx).1, fun e => ?_⟩)
    obtain ⟨ti, gb, n, c, h1, h2⟩ := (h x hx).2 e
    exact ⟨ti, gb, n, c, by rw [hg]; exact h1, h2⟩
  | xptr b o n i hb h0 h1 => intro _; exact .xptr b o n i hb h0 h1
  | fn f => intro _; exact .fn f
  | opq n => intro ha; rw [mvA] at ha; rw [← hv n ha]; exact .opq n
  | und => intro _; exact .und
  | bad v => intro _; exact .bad v
theorem LR.scal {lt : LT} {lf : Lf τ} {v : Value} (h : LR T S w lt lf v) (hn : lt.isSl = false) : LR T' S' w' lt lf v := by
  cases h with
  | int k n => exact .int k n
  | bool b => exact .bool b
  | str s => exact .str s
  | sl => simp [LT.isSl] at hn
def bxOk (p : Nat → Bool) : List (Option (TypeId × List (AV τ))) → Bool
  | [] => true
  | some x :: l => mvL p x.2 && bxOk p l
  | none :: l => bxOk p l
theorem bxOk_at {p : Nat → Bool} : ∀ {l : List (Option (TypeId × List (AV τ)))}, bxOk p l = true → ∀ (b : Nat) (x : TypeId × List (AV τ)), l[b]? = some (some x) → mvL p x.2 = true
  | [], _, b, x, h => by simp at h
  | some y :: l, hm, b, x, h => by
    rw [bxOk, Bool.and_eq_true] at hm
    cases b with
    | zero => simp at h; subst h; exact hm.1
    | succ b => exact bxOk_at hm.2 b x (by simpa using h)
  | none :: l, hm, b, x, h => by
    rw [bxOk] at hm
    cases b with
    | zero => simp at h
    | succ b => exact bxOk_at hm b x (by simpa using h)
theorem MR.move (hg : T'.get = T.get) (hr : T'.row = T.row) (hv : ∀ n, p n = true → T'.val n = T.val n) (h : MR T w η m) (hb : bxOk p m.bx = true) (hn : noSlR T m.rw = true) (hk : ∀ k, Owned η m k → w'.heap[k]? = w.heap[k]?) (hs : w.heap.size ≤ w'.heap.size) (hgl : T'.gl w' (Safe η m)) : MR T' w' η m := by
  refine ⟨fun b t vs h1 => ?_, fun r x hx => ?_, h.bb, h.br, h.rr, h.xb, h.xr, fun k hx => Nat.lt_of_lt_of_le (h.xl k hx) hs, hgl⟩
  · obtain ⟨cs, hc, hl, hh⟩ := h.bx b t vs h1
    exact ⟨cs, by rw [hk _ (.inl (.inl ⟨b, _, h1, rfl⟩))]; exact hc, hl, fun i a c e1 e2 => (hh i a c e1 e2).move hg hv (mvL_at (bxOk_at hb b _ h1) i a e1)⟩
  obtain ⟨ti, inner, hT, ho, hR⟩ := h.rw r x hx
  obtain ⟨ti2, hT2, hsc⟩ := noSlR_at hn r x hx
  have e : ti2 = ti := by rw [hT] at hT2; cases hT2; rfl
  subst e
  refine ⟨ti2, inner, by rw [hg]; exact hT, own_move ho (fun k e => hk k (.inl (.inr ⟨r, x, hx, e⟩))), ?_⟩
  rw [hr]
  refine ⟨hR.1, fun j row o lf lt v h1 h2 h3 h4 => (hR.2 j row o lf lt v h1 h2 h3 h4).scal ?_⟩
  have := List.mem_of_getElem? h3
  cases e : lt.isSl with
  | false => rfl
  | true => rw [List.any_eq_true.2 ⟨lt, this, e⟩] at hsc; cases hsc
/-- Behind a step that leaves what the machine owns, told over another table. -/
theorem AtR.move {nb : NB} {s : St τ} {ts : Array Value} (hg : T'.get = T.get) (hr : T'.row = T.row) (hv : ∀ n, p n = true → T'.val n = T.val n) (h : AtR T w0 η0 m0 nb w s ts η) (hb : bxOk p s.m.bx = true) (hn : noSlR T s.m.rw = true) (hm : mvL p s.tm = true)
    (hk : ∀ k, Owned η s.m k → w'.heap[k]? = w.heap[k]?) (ha : Agree (fun k => k < w0.heap.size) w w') (hgl : T'.gl w' (Safe η s.m)) (hx : ∀ k, ¬ η0.x k) : AtR T' w0 η0 m0 nb w' s ts η := by
  refine ⟨h.mr.move hg hr hv hb hn hk ha.size hgl, ⟨h.tr.len, fun i => ?_⟩, h.safe, ⟨ha.os.trans h.agree.os, ha.tape.trans h.agree.tape, ha.output.trans h.agree.output, Nat.le_trans h.agree.size ha.size, fun k hs hl => ?_⟩, h.x, fun k hk => (hx k hk).elim, h.bk, h.bl, h.rk, h.rl⟩
  · have h1 := h.tr.at_ i
    rw [List.getD_eq_getElem?_getD] at h1 ⊢
    cases hi : s.tm[i]? with
    | none => exact .bad _
    | some a => rw [hi] at h1; exact h1.move hg hv (mvL_at hm i a hi)
  · exact (ha.block k hl (Nat.lt_of_lt_of_le hl h.agree.size)).trans (h.agree.block k hs hl)
theorem AtR.put {nb : NB} {s : St τ} {ts : Array Value} (h : AtR T w0 η0 m0 nb w s ts η) (t : Nat) {a : AV τ} {v : Value} (hv : VR T (Safe η s.m) w s.m η a v) : AtR T w0 η0 m0 nb w ⟨s.tm.set t a, s.m⟩ (ts.setIfInBounds t v) η :=
  ⟨h.mr, h.tr.put t hv, h.safe, h.agree, h.x, h.fx, h.bk, h.bl, h.rk, h.rl⟩
end
mutual
/-- A value in which nothing is known exactly. -/
def noO : AV τ → Bool
  | .opq _ => false
  | .agg vs => noOs vs
  | .tup vs => noOs vs
  | _ => true
def noOs : List (AV τ) → Bool
  | [] => true
  | a :: as => noO a && noOs as
end
def noOB : List (Option (TypeId × List (AV τ))) → Bool
  | [] => true
  | some x :: l => noOs x.2 && noOB l
  | none :: l => noOB l
theorem noOs_at : ∀ {as : List (AV τ)}, noOs as = true → ∀ (i : Nat) (a : AV τ), as[i]? = some a → noO a = true
  | [], _, i, a, h => by simp at h
  | b :: as, hm, i, a, h => by
    rw [noOs, Bool.and_eq_true] at hm
    cases i with
    | zero => simp at h; subst h; exact hm.1
    | succ i => exact noOs_at hm.2 i a (by simpa using h)
theorem noOB_at : ∀ {l : List (Option (TypeId × List (AV τ)))}, noOB l = true → ∀ (b : Nat) (x : TypeId × List (AV τ)), l[b]? = some (some x) → noOs x.2 = true
  | [], _, b, x, h => by simp at h
  | some y :: l, hm, b, x, h => by
    rw [noOB, Bool.and_eq_true] at hm
    cases b with
    | zero => simp at h; subst h; exact hm.1
    | succ b => exact noOB_at hm.2 b x (by simpa using h)
  | none :: l, hm, b, x, h => by
    rw [noOB] at hm
    cases b with
    | zero => simp at h
    | succ b => exact noOB_at hm b x (by simpa using h)
section
variable {T T' : Tab τ} {S : Nat → Prop} {w w' : World} {m : Mem τ} {η : Eta} {P : Program}
theorem VR.other (hg : T'.get = T.get) (hr : T'.row = T.row) {a : AV τ} {v : Value} (h : VR T S w m η a v) : noO a = true → VR T' S w m η a v := by
  induction h with
  | int k n => intro _; exact .int k n
  | bool b => intro _; exact .bool b
  | str s => intro _; exact .str s
  | sl e rows v h => intro _; exact .sl e rows v (h.tab hg hr)
  | own r g v hr h => intro _; exact .own r g v hr h
  | nil => intro _; exact .nil
  | agg vs cs hl h ih => intro ha; rw [noO] at ha; exact .agg vs cs hl (fun i a c h1 h2 => ih i a c h1 h2 (noOs_at ha i a h1))
  | tup vs cs hl h ih => intro ha; rw [noO] at ha; exact .tup vs cs hl (fun i a c h1 h2 => ih i a c h1 h2 (noOs_at ha i a h1))
  | ptr b o hb => intro _; exact .ptr b o hb
  | eptr e rows i o ti ad c hT h h0 h1 => intro _; exact .eptr e rows i o ti ad c (by rw [hg]; exact hT) (h.tab hg hr) h0 h1
  | optr r g i o v hr h =>
    intro _
    refine .optr r g i o v hr (fun x hx => ⟨(h x hx).1, fun e => ?_⟩)
    obtain ⟨ti, gb, n, c, h1, h2⟩ := (h x hx).2 e
    exact ⟨ti, gb, n, c, by rw [hg]; exact h1, h2⟩
  | xptr b o n i hb h0 h1 => intro _; exact .xptr b o n i hb h0 h1
  | fn f => intro _; exact .fn f
  | opq n => intro ha; rw [noO] at ha; cases ha
  | und => intro _; exact .und
  | bad v => intro _; exact .bad v
theorem MR.other (hg : T'.get = T.get) (hr : T'.row = T.row) (h : MR T w η m) (hb : noOB m.bx = true) (hgl : T'.gl w (Safe η m)) : MR T' w η m := by
  refine ⟨fun b t vs h1 => ?_, fun r x hx => ?_, h.bb, h.br, h.rr, h.xb, h.xr, h.xl, hgl⟩
  · obtain ⟨cs, hc, hl, hh⟩ := h.bx b t vs h1
    exact ⟨cs, hc, hl, fun i a c e1 e2 => (hh i a c e1 e2).other hg hr (noOs_at (noOB_at hb b _ h1) i a e1)⟩
  · obtain ⟨ti, inner, hT, ho, hR⟩ := h.rw r x hx
    refine ⟨ti, inner, by rw [hg]; exact hT, ho, ?_⟩
    rw [hr]
    exact ⟨hR.1, fun j row o lf lt v h1 h2 h3 h4 => (hR.2 j row o lf lt v h1 h2 h3 h4).tab hg hr⟩
/-- Contracts over a table in which nothing is known are contracts over one in which something is. -/
def ctrN (C : Ctr τ Unit) : Ctr τ Unit := fun f args m k => cond (noOs args && noOB m.bx) (C f args m fun av m1 => cond (noO av && noOB m1.bx) (k av m1) none) none
theorem ctrN_ok {pn : FuncId → Nat} {C : Ctr τ Unit} (hg : T'.get = T.get) (hr : T'.row = T.row) (hgl : ∀ w S, T.gl w S) (hC : CtrOk P T pn C) : CtrOk P T' pn (ctrN C) := fun f args m k r h => by
  unfold ctrN at h
  cases hc : (noOs args && noOB m.bx) with
  | false => rw [hc] at h; cases h
  | true =>
    rw [hc] at h
    simp only [cond_true] at h
    simp only [Bool.and_eq_true] at hc
    obtain ⟨hen, av, m1, h1, h2⟩ := hC _ _ _ _ _ h
    cases hd : (noO av && noOB m1.bx) with
    | false => rw [hd] at h1; cases h1
    | true =>
      rw [hd] at h1
      simp only [cond_true] at h1
      simp only [Bool.and_eq_true] at hd
      refine ⟨hen, av, m1, h1, fun w η vs hm hv => ?_⟩
      have hm0 : MR T w η m := hm.other hg.symm hr.symm hc.2 (hgl _ _)
      refine (h2 w η vs hm0 ⟨hv.1, fun i a c e1 e2 => (hv.2 i a c e1 e2).other hg.symm hr.symm (noOs_at hc.1 i a e1)⟩).mono fun e w' he => ?_
      obtain ⟨v, η1, he, hcr, hvr⟩ := he
      exact ⟨v, η1, he, ⟨hcr.mr.other hg hr hd.2 (T'.glN w w' _ _ hm.gl hcr.safe hcr.agree), hcr.safe, hcr.agree, hcr.x, hcr.fx, hcr.bk, hcr.bl, hcr.rk⟩, hvr.other hg hr hd.1⟩
end
/-- What is known of the world at a law: a law's table takes it by itself. -/
class Kn where
  G : GI
section
variable {P : Program} {E : Env τ} {w0 : World}
theorem kEnd_true (hP : PQ P E.T E.by_) {fn : Func} (hnb : E.nb.b = 0) : Kok E w0 eta0 (⟨[], []⟩ : Mem τ) [] (kEnd E fn isTrue) (bodyPost P fn (fun e w' => e = .returned (.bool true) ∧ Go.RowKit.Below w0.heap.size w0 w')) := by
  intro e s a' w' h1 h2 h3
  have fin : (match resA E.T s fn.results.toList with | some [v] => endA E v s.m isTrue | some vs => endA E (.tup vs) s.m isTrue | none => none) = some () →
      a'.defers = [] ∧ ∃ v, (results fn a'.tmps).run P w' = .ok v w' ∧ Ending.returned v = .returned (.bool true) ∧ Go.RowKit.Below w0.heap.size w0 w' := by
    intro h4
    obtain ⟨η2, h5⟩ := h2
    have bel : Go.RowKit.Below w0.heap.size w0 w' := ⟨h5.agree.os, h5.agree.tape, h5.agree.output, h5.agree.size, fun k hk => h5.agree.block k (safe0 k) hk⟩
    refine ⟨h3, ?_⟩
    split at h4
    · rename_i v hres
      obtain ⟨us, h6, h7⟩ := resA_run hP.toPT h5.mr h5.tr hres
      match us, h6.1 with
      | [u], _ =>
        obtain ⟨av, m1, η1, a1, a2, a3⟩ := endA_sound h4 h5 (h6.2 0 v u rfl rfl) hnb
        obtain rfl := isTrue_some a1
        refine ⟨u, h7, ?_, bel⟩
        rw [a3.bool_inv]
    · rename_i vs' hne hres
      obtain ⟨us, h6, h7⟩ := resA_run hP.toPT h5.mr h5.tr hres
      obtain ⟨av, m1, η1, a1, a2, a3⟩ := endA_sound (z := .tuple us.toArray) h4 h5 (.tup vs' us h6.1 h6.2) hnb
      obtain rfl := isTrue_some a1
      have := a3.bool_inv
      cases this
    · cases h4
  cases e <;> first | exact fin h1 | cases h1
end
end Am
