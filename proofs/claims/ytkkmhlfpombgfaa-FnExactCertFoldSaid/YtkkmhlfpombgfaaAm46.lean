/- The abstract machine, part 46: regions that are walked by hand. -/
import Derived.Test.YtkkmhlfpombgfaaAm45
import Derived.Test.YtkkmhlfpombgfaaAm40
set_option linter.unusedVariables false
set_option linter.unusedSectionVars false
set_option linter.unusedSimpArgs false
namespace Am
open Go
variable {τ : TypeId → Type}
section
variable {P : Program} {ops : Array Oper} {rest : List Oper} {o : Oper} {a : Act} {w : World} {Q : Exit → Act → World → Prop}
theorem hand_move {x : Operand} (hop : o.op = .move x) (hg : o.guard = none) (h : wpList P ops Q rest (a.put o.dst (a.eval x)) w) : wpList P ops Q (o :: rest) a w := wpList_plain hg fun K hK => by
  have hrun : (execOp a.eval o).run P w = .ok (.value (a.eval x)) w := by
    unfold execOp; simp [hop]
  unfold Oper.wp
  rw [hrun, Oper.upon_value]; exact hK _ _ h
theorem hand_assign {x : Operand} (hop : o.op = .assign x) (hg : o.guard = none) (h : wpList P ops Q rest (a.put o.dst (a.eval x)) w) : wpList P ops Q (o :: rest) a w := wpList_plain hg fun K hK => by
  have hrun : (execOp a.eval o).run P w = .ok (.value (a.eval x)) w := by
    unfold execOp; simp [hop]
  unfold Oper.wp
  rw [hrun, Oper.upon_value]; exact hK _ _ h
theorem hand_call {f : FuncId} {xs : Array Operand} {ts : Array TypeId} (hop : o.op = .call { callee := .value (.func f), args := xs, argTypes := ts }) (hg : o.guard = none) (hen : Enters P f) {R : Value → World → Prop} {vs : Array Value} (hvs : xs.map a.eval = vs)
    (h : Calls P f vs w (fun e w' => ∃ v, e = .returned v ∧ R v w')) (hk : ∀ z w', R z w' → wpList P ops Q rest (a.put o.dst z) w') : wpList P ops Q (o :: rest) a w := wpList_plain hg fun K hK => by
  obtain ⟨fn, hf, hname, hb⟩ := hen
  have h1n : fn.name ≠ "runtime.NumGoroutine" := by simpa using hname
  obtain ⟨code, hcode⟩ := Option.isSome_iff_exists.1 hb
  have hrun : (execOp a.eval o).run P w = .ok (.enter f vs) w := by
    unfold execOp
    simp [hop, resolve, Act.eval, Deferred.ofValue, invoke, callFunc, hf, h1n, hcode]
    exact hvs
  unfold Oper.wp
  rw [hrun, Oper.upon_enter]
  exact h.mono fun e w'' ⟨v, he, hr⟩ => by subst he; exact hK _ _ (hk v w'' hr)
end
/-- At a function's beginning. -/
theorem at_enter {T : Tab τ} {nb : NB} (hb : nb.b = 0) (hr : nb.r = 0) {w : World} (hg : T.gl w (Safe eta0 (⟨[], []⟩ : Mem τ))) {args : List (AV τ)} {vs : Array Value} {n : Nat} (hv : VRs T (Safe eta0 (⟨[], []⟩ : Mem τ)) w ⟨[], []⟩ eta0 args vs.toList) :
    At T w eta0 ⟨[], []⟩ nb w ⟨args ++ unds (n - args.length), ⟨[], []⟩⟩ (vs ++ Array.replicate (n - vs.size) undef) := by
  have hlen : args.length = vs.size := by rw [hv.1, Array.length_toList]
  refine ⟨eta0, mr0 T w hg, ⟨by simp [unds_len, hlen], fun i => ?_⟩, fun _ _ h => h, .refl _ _, rfl, fun _ _ => rfl, fun _ _ => rfl, by rw [hb]; exact Nat.zero_le _, fun r hr x hx => ⟨x, hx, Nat.le_refl _, fun _ => ⟨rfl, rfl⟩⟩, by rw [hr]; exact Nat.zero_le _⟩
  rw [List.getD_eq_getElem?_getD, Array.getD_eq_getD_getElem?]
  rcases Nat.lt_or_ge i args.length with c | c
  · rw [List.getElem?_append_left c, Array.getElem?_append_left (by omega)]
    have h1 : vs.toList[i]? = some vs[i] := by simp
    rw [List.getElem?_eq_getElem c, Array.getElem?_eq_getElem (by omega)]
    exact hv.2 i _ _ (List.getElem?_eq_getElem c) h1
  · rw [List.getElem?_append_right c, Array.getElem?_append_right (by omega), ← hlen]
    have hu := unds_at (τ := τ) (n - args.length) (i - args.length)
    rw [List.getD_eq_getElem?_getD] at hu
    rcases hu with h1 | ⟨h1, h2⟩
    · rw [h1]; exact .bad _
    · rw [h2]
      have : (Array.replicate (n - args.length) undef)[i - args.length]? = some undef := by simp [Array.getElem?_replicate, h1]
      rw [this]; exact .und
/-- What is asked of the rest of a run: it is the state that the piece ends in. -/
noncomputable def knA {ρ : Type} (st : ρ → St τ) (g : ρ → Option Unit) (s : St τ) : Option Unit := open Classical in if ∃ x, s = st x ∧ g x = some () then some () else none
theorem knA_of {ρ : Type} {st : ρ → St τ} {g : ρ → Option Unit} {x : ρ} (h : g x = some ()) : knA st g (st x) = some () := by
  unfold knA; rw [if_pos ⟨x, rfl, h⟩]
theorem knA_some {ρ : Type} {st : ρ → St τ} {g : ρ → Option Unit} {s : St τ} (h : knA st g s = some ()) : ∃ x, s = st x ∧ g x = some () := by
  unfold knA at h
  split at h
  · assumption
  · cases h
theorem lr_pt2 {T : Tab τ} {S : Nat → Prop} {w : World} {lf lf' : Lf τ} {lt lt' : LT} {v v' : Value} (h1 : some lf' = some lf) (h2 : some lt' = some lt) (h3 : some v' = some v) (h : LR T S w lt' lf' v') : LR T S w lt lf v := by cases h1; cases h2; cases h3; exact h
/-- A row told by what each element's cells hold, where its block is of S. -/
theorem lr_of2 {T : Tab τ} {S : Nat → Prop} {w : World} {e : TypeId} {te : TI} (hT : T e = some te) {rows : List (τ e)} {A : Option Addr} {c : Nat} (hS : ∀ ad, A = some ad → S ad.block) (hc : rows.length ≤ c) (hsz : 0 < te.sz)
    (h : ∀ j (hj : j < rows.length), ∃ (ad : Addr) (cs : List Value), A = some ad ∧ cs.length = te.sz ∧ (∀ (o : Nat) (u : Value), cs[o]? = some u → w.cell? (ad.add (j * te.sz + o)) = some u) ∧ (T.row e rows[j]).length = te.sz ∧
      ∀ (o : Nat) (lf : Lf τ) (lt : LT) (v : Value), (T.row e rows[j])[o]? = some lf → te.lts[o]? = some lt → cs[o]? = some v → LR T S w lt lf v) : LR T S w (.sl e) (.l e rows) (.slice A rows.length c) := by
  refine .sl e te hT rows A c hc (fun j o => vfOf w A te.sz j o) (fun hn => ?_) (fun j row hr => ?_) (fun j row o lf lt hr ho hl => ?_)
  · obtain ⟨ad, cs, e1, hl, hcs, _, _⟩ := h 0 (List.length_pos_iff.2 hn)
    refine ⟨ad, e1, hS _ e1, ?_, fun j o hj ho => ?_⟩
    · obtain ⟨u, hu⟩ := Option.isSome_iff_exists.1 (show (cs[0]?).isSome from by simp; omega)
      have := cell_lt (hcs 0 u hu)
      rwa [Am.add_block] at this
    · obtain ⟨ad2, cs2, e2, hl2, hcs2, _, _⟩ := h j hj
      obtain ⟨u, hu⟩ := Option.isSome_iff_exists.1 (show (cs2[o]?).isSome from by simp; omega)
      rw [e1] at e2; cases e2
      rw [vfOf_eq e1 (hcs2 o u hu)]; exact hcs2 o u hu
  · obtain ⟨x, hx, e⟩ := map_of_at hr
    subst e
    obtain ⟨hj, rfl⟩ := List.getElem?_eq_some_iff.1 hx
    obtain ⟨_, _, _, _, _, hl, _⟩ := h j hj
    exact hl
  · obtain ⟨x, hx, e⟩ := map_of_at hr
    subst e
    obtain ⟨hj, rfl⟩ := List.getElem?_eq_some_iff.1 hx
    obtain ⟨ad, cs, e1, hl1, hcs, _, hh⟩ := h j hj
    have hlt : o < te.lts.length := (List.getElem?_eq_some_iff.1 hl).1
    obtain ⟨u, hu⟩ := Option.isSome_iff_exists.1 (show (cs[o]?).isSome from by simp; unfold TI.sz at hl1; omega)
    rw [vfOf_eq e1 (hcs o u hu)]
    exact hh o lf lt u ho hl hu
section
variable {T : Tab τ} {w0 w : World} {η0 η : Eta} {m0 m : Mem τ} {nb : NB} {s : St τ} {ts : Array Value} {S : Nat → Prop}
theorem AtR.mask (h : AtR T w0 η0 m0 nb w s ts η) (keep : List Nat) : AtR T w0 η0 m0 nb w ⟨maskA 0 keep s.tm, s.m⟩ ts η :=
  ⟨h.mr, h.tr.mask keep, h.safe, h.agree, h.x, h.fx, h.bk, h.bl, h.rk, h.rl⟩
theorem AtR.ev {a : Act} (h : AtR T w0 η0 m0 nb w s a.tmps η) (x : Operand) {b : AV τ} (e : eA s.tm x = b) : VR T (Safe η s.m) w s.m η b (a.eval x) := e ▸ h.tr.eval (ds := a.defers) x
theorem VR.opq_inv {n : Nat} {v : Value} (h : VR T S w m η (.opq n) v) : v = T.val n := by cases h; rfl
theorem AtR.below (h : AtR T w0 eta0 (⟨[], []⟩ : Mem τ) nb w s ts η) : Go.RowKit.Below w0.heap.size w0 w := ⟨h.agree.os, h.agree.tape, h.agree.output, h.agree.size, fun k hk => h.agree.block k (safe0 k) hk⟩
end
/-- Known: the law's two arguments (numbers 0 and 2), and what was made by hand (number 1). -/
def valW (v1 x v0 : Value) : Nat → Value
  | 0 => v1
  | 1 => x
  | 2 => v0
  | _ => .nilIface
/-- Known blocks: the world's own; and those from N on in wc. -/
def hpW (w : World) : Nat → Option Obj := fun k => w.heap[k]?
def hpC (w : World) (N : Nat) (wc : World) : Nat → Option Obj := fun k => if k < w.heap.size then w.heap[k]? else if N ≤ k then wc.heap[k]? else none
section
variable {T : Tab τ} {w0 w wb wc : World} {η : Eta} {m : Mem τ} {nb : NB} {s : St τ} {ts : Array Value} {val : Nat → Value}
theorem gl_W (h : AtR T w0 eta0 (⟨[], []⟩ : Mem τ) nb w s ts η) : glG ⟨hpW w0, val⟩ w (Safe η s.m) := fun k o hk => by
  have hl : k < w0.heap.size := (Array.getElem?_eq_some_iff.1 hk).1
  exact ⟨h.safe k hl (safe0 k), Nat.lt_of_lt_of_le hl h.agree.size, (h.agree.block k (safe0 k) hl).trans hk⟩
theorem gl_start : glG ⟨hpW w0, val⟩ w0 (Safe eta0 (⟨[], []⟩ : Mem τ)) := fun k o hk => ⟨safe0 k, (Array.getElem?_eq_some_iff.1 hk).1, hk⟩
/-- Behind a call that only makes: what it made is known. -/
theorem gl_C (h : AtR T w0 eta0 (⟨[], []⟩ : Mem τ) nb wb s ts η) (hb : Go.RowKit.Below wb.heap.size wb wc) : glG ⟨hpC w0 wb.heap.size wc, val⟩ wc (Safe η s.m) := fun k o hk => by
  replace hk : (if k < w0.heap.size then w0.heap[k]? else if wb.heap.size ≤ k then wc.heap[k]? else none) = some o := hk
  split at hk
  · rename_i hl
    have h1 := Nat.lt_of_lt_of_le hl h.agree.size
    exact ⟨h.safe k hl (safe0 k), Nat.lt_of_lt_of_le h1 hb.size, (hb.block k h1).trans ((h.agree.block k (safe0 k) hl).trans hk)⟩
  · split at hk
    · rename_i hl
      exact ⟨fun ho => by have := h.mr.owned_lt ho; omega, (Array.getElem?_eq_some_iff.1 hk).1, hk⟩
    · cases hk
theorem knows_W {G : GI} (hG : G.hp = hpW w) : ∀ k, k < w.heap.size → ∃ o, w.heap[k]? = some o ∧ G.hp k = some o := fun k hk => by
  obtain ⟨o, ho⟩ := Option.isSome_iff_exists.1 (show (w.heap[k]?).isSome from by simp [hk])
  exact ⟨o, ho, by rw [hG]; exact ho⟩
theorem knows_C0 {G : GI} {N : Nat} (hG : G.hp = hpC w N wc) : ∀ k, k < w.heap.size → ∃ o, w.heap[k]? = some o ∧ G.hp k = some o := fun k hk => by
  obtain ⟨o, ho⟩ := Option.isSome_iff_exists.1 (show (w.heap[k]?).isSome from by simp [hk])
  exact ⟨o, ho, by rw [hG]; unfold hpC; rw [if_pos hk]; exact ho⟩
theorem knows_C1 {G : GI} {N : Nat} (hG : G.hp = hpC w N wc) (hN : w.heap.size ≤ N) : ∀ k, N ≤ k → k < wc.heap.size → ∃ o, wc.heap[k]? = some o ∧ G.hp k = some o := fun k hk hl => by
  obtain ⟨o, ho⟩ := Option.isSome_iff_exists.1 (show (wc.heap[k]?).isSome from by simp [hl])
  exact ⟨o, ho, by rw [hG]; unfold hpC; rw [if_neg (by omega), if_pos hk]; exact ho⟩
end
theorem map1_of {f : Operand → Value} {a : Operand} {x : Value} (h : f a = x) : (#[a]).map f = #[x] := by subst h; simp
theorem map2_of {f : Operand → Value} {a b : Operand} {x y : Value} (h1 : f a = x) (h2 : f b = y) : (#[a, b]).map f = #[x, y] := by subst h1; subst h2; simp
/-- The operations of the region that code begins with. -/
def headOps : Code → Array Oper
  | .seq (.region _ ops _) _ => ops
  | _ => #[]
def opNo (c : Code) (i : Nat) : Oper := (headOps c).getD i { dst := none, op := .assign (.tmp 0), type := 0, pos := "", after := #[], guard := none }
section
variable {P : Program} {ops : Array Oper} {rest : List Oper} {o : Oper} {a : Act} {w : World} {Q : Exit → Act → World → Prop}
theorem hand_moveT {x : Operand} {t : Tmp} (hop : o.op = .move x) (hd : o.dst = some t) (hg : o.guard = none) (h : wpList P ops Q rest (a.put (some t) (a.eval x)) w) : wpList P ops Q (o :: rest) a w := hand_move hop hg (by rw [hd]; exact h)
theorem hand_assignT {x : Operand} {t : Tmp} (hop : o.op = .assign x) (hd : o.dst = some t) (hg : o.guard = none) (h : wpList P ops Q rest (a.put (some t) (a.eval x)) w) : wpList P ops Q (o :: rest) a w := hand_assign hop hg (by rw [hd]; exact h)
theorem hand_callT {f : FuncId} {xs : Array Operand} {ts : Array TypeId} {t : Tmp} (hop : o.op = .call { callee := .value (.func f), args := xs, argTypes := ts }) (hd : o.dst = some t) (hg : o.guard = none) (hen : Enters P f) {R : Value → World → Prop} {vs : Array Value} (hvs : xs.map a.eval = vs)
    (h : Calls P f vs w (fun e w' => ∃ v, e = .returned v ∧ R v w')) (hk : ∀ z w', R z w' → wpList P ops Q rest (a.put (some t) z) w') : wpList P ops Q (o :: rest) a w := hand_call hop hg hen hvs h (fun z w' hz => by rw [hd]; exact hk z w' hz)
end
end Am
