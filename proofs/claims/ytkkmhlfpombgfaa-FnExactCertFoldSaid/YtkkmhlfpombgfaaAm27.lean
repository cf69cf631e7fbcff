/- The abstract machine, part 27: regions in order. -/
import Derived.Test.YtkkmhlfpombgfaaAm26
import Derived.Tactics
set_option linter.unusedVariables false
set_option linter.unusedSectionVars false
set_option linter.unusedSimpArgs false
namespace Am
open Go
variable {τ : TypeId → Type}
/-- What a function's walk knows: the types, how functions are called, what is kept where and in which shape, what the results look like. -/
structure Env (τ : TypeId → Type) where
  T : Tab τ
  by_ : TypeId → Nat
  mode : FuncId → Nat
  shp : FuncId → List PS
  keep : Nat → Option (List (Nat × PS))
  res : List PS
  pers : FuncId → List Nat
  pn : FuncId → Nat
  nb : NB
def putA (tm : List (AV τ)) (d : Option Tmp) (v : AV τ) : List (AV τ) := match d with | some d => tm.set d v | none => tm
/-- A choice that shows itself. -/
def brA {α : Type} : Bool → α → α → α
  | true, x, _ => x
  | false, _, y => y
def condsA : List Bool → Option Unit → Option Unit
  | [], k => k
  | c :: cs, k => brA c (condsA cs k) none
def calleeA (tm : List (AV τ)) : Op → Option (FuncId × List Operand)
  | .call c => match c.callee with
    | .value f => match eA tm f with
      | .fn g => some (g, c.args.toList)
      | _ => none
    | _ => none
  | _ => none
def evalsA (tm : List (AV τ)) : List Operand → List (AV τ)
  | [] => []
  | x :: xs => eA tm x :: evalsA tm xs
def frzRs (s : St τ) : List Nat → St τ
  | [] => s
  | r :: rs => frzRs (s.freeze r) rs
/-- The rows that are named are written no more. -/
def frzAll (s : St τ) (as : List (AV τ)) : St τ := frzRs s (addRefs (refsL s.m as) [] []).2
/-- Elements that hold slices. -/
def nestT (T : Tab τ) (e : TypeId) : Bool := match T e with
  | some te => te.lts.any fun l => match l with | .sl _ => true | _ => false
  | none => false
/-- What goes into an element is written no more; a row of rows, or a row whose beginning is left out, is written no more when a part of it is taken. -/
def opPre (T : Tab τ) (s : St τ) : Op → St τ
  | .slice _ x lo _ _ => match eA s.tm x with
    | .own r g => match s.m.valid r g with
      | some y => cond (lo.isSome || nestT T y.e) (frzAll s [.own r g]) s
      | none => s
    | _ => s
  | .buildSlice _ _ parts => frzAll s (parts.toList.map fun p => eA s.tm p.2)
  | .store _ a x => match eA s.tm a with
    | .optr _ _ _ _ => frzAll s [eA s.tm x]
    | _ => s
  | _ => s
def doneA (o : Oper) (s : St τ) (v : AV τ) (m : Mem τ) : St τ := ⟨putA s.tm o.dst v, m⟩
def stepA (E : Env τ) (C : Ctr τ Unit) (o : Oper) (s : St τ) (k : St τ → Option Unit) : Option Unit :=
  match calleeA s.tm o.op with
  | some (f, xs) => match E.mode f with
    | 0 => callS E.T C (E.shp f) (E.pers f) (E.pn f) true f (evalsA s.tm xs) s.m fun v m => k (doneA o s v m)
    | 1 => callS E.T C (E.shp f) (E.pers f) (E.pn f) false f (evalsA s.tm xs) s.m fun v m => k (doneA o s v m)
    | _ => callS E.T C (E.shp f) (E.pers f) (E.pn f) false f (evalsA (frzAll s (evalsA s.tm xs)).tm xs) (frzAll s (evalsA s.tm xs)).m fun v m => k (doneA o (frzAll s (evalsA s.tm xs)) v m)
  | none => match opA E.T E.by_ (opPre E.T s o.op).tm (opPre E.T s o.op).m o.op with
    | some (cs, v, m) => condsA cs (k (doneA o (opPre E.T s o.op) v m))
    | none => none
/-- The operations of a region, one behind the other. -/
def opsA (E : Env τ) (C : Ctr τ Unit) (ops : Array Oper) : List Oper → St τ → (St τ → Option Unit) → Option Unit
  | [], s, k => k s
  | o :: rest, s, k => match o.guard with
    | none => stepA E C o s fun s' => opsA E C ops rest s' k
    | some (j, want) => match (ops[j]?).bind (·.dst) with
      | some t => match s.tm.getD t .bad with
        | .bool v => brA v
            (cond want (stepA E C o ⟨s.tm.set t (.bool true), s.m⟩ fun s' => opsA E C ops rest s' k) (opsA E C ops rest ⟨putA (s.tm.set t (.bool true)) o.dst .und, s.m⟩ k))
            (cond want (opsA E C ops rest ⟨putA (s.tm.set t (.bool false)) o.dst .und, s.m⟩ k) (stepA E C o ⟨s.tm.set t (.bool false), s.m⟩ fun s' => opsA E C ops rest s' k))
        | .und => opsA E C ops rest ⟨putA s.tm o.dst .und, s.m⟩ k
        | _ => none
      | none => none
/-- More is asked of less. -/
def CtrMono (C : Ctr τ Unit) : Prop := ∀ f args m (k k' : AV τ → Mem τ → Option Unit), (∀ av m, k av m = some () → k' av m = some ()) → C f args m k = some () → C f args m k' = some ()
section
variable {P : Program} {E : Env τ} {C : Ctr τ Unit} {w w' w2 w0 : World} {m m' m2 m0 m1 : Mem τ} {η η' η2 η0 η1 : Eta} {tm : List (AV τ)} {S S' : Nat → Prop} {nb : NB} {s : St τ} {ts : Array Value}
theorem condsA_some : ∀ {cs : List Bool} {k : Option Unit}, condsA cs k = some () → cs.all id = true ∧ k = some ()
  | [], k, h => ⟨rfl, h⟩
  | c :: cs, k, h => by
    unfold condsA at h
    cases c with
    | false => simp [brA] at h
    | true => simp only [brA] at h; obtain ⟨h1, h2⟩ := condsA_some h; exact ⟨by simp [h1], h2⟩
theorem condsA_of : ∀ {cs : List Bool} {k : Option Unit}, cs.all id = true → k = some () → condsA cs k = some ()
  | [], k, _, h => h
  | c :: cs, k, h1, h => by
    simp only [List.all_cons, Bool.and_eq_true, id] at h1
    unfold condsA
    rw [h1.1]; exact condsA_of h1.2 h
theorem brA_mono {b : Bool} {x y x' y' : Option Unit} (h1 : x = some () → x' = some ()) (h2 : y = some () → y' = some ()) (h : brA b x y = some ()) : brA b x' y' = some () := by
  cases b
  · exact h2 h
  · exact h1 h
theorem cond_mono {b : Bool} {x y x' y' : Option Unit} (h1 : x = some () → x' = some ()) (h2 : y = some () → y' = some ()) (h : cond b x y = some ()) : cond b x' y' = some () := by
  cases b
  · exact h2 h
  · exact h1 h
theorem callS_mono (hC : CtrMono C) {T : Tab τ} {ps : List PS} {pers : List Nat} {n : Nat} {lend : Bool} {f : FuncId} {args : List (AV τ)} {k k' : AV τ → Mem τ → Option Unit} (hk : ∀ av m, k av m = some () → k' av m = some ()) (h : callS T C ps pers n lend f args m k = some ()) : callS T C ps pers n lend f args m k' = some () := by
  unfold callS at h ⊢
  split at h
  rename_i bs rs h1
  refine cond_mono (fun h => ?_) id h
  exact hC _ _ _ _ _ (fun av m1 h2 => cond_mono (hk _ _) id h2) h
theorem stepA_mono (hC : CtrMono C) {o : Oper} {k k' : St τ → Option Unit} (hk : ∀ s, k s = some () → k' s = some ()) (h : stepA E C o s k = some ()) : stepA E C o s k' = some () := by
  unfold stepA at h ⊢
  split at h
  · rename_i f xs hcal
    split at h <;> exact callS_mono hC (fun _ _ => hk _) h
  · rename_i hcal
    split at h
    case h_2 => cases h
    rename_i cs v m' hop
    obtain ⟨h1, h2⟩ := condsA_some h
    exact condsA_of h1 (hk _ h2)
theorem opsA_mono (hC : CtrMono C) {ops : Array Oper} : ∀ (rest : List Oper) {s : St τ} {k k' : St τ → Option Unit}, (∀ s, k s = some () → k' s = some ()) → opsA E C ops rest s k = some () → opsA E C ops rest s k' = some ()
  | [], s, k, k', hk, h => hk s h
  | o :: rest, s, k, k', hk, h => by
    have ih := fun s => opsA_mono (ops := ops) hC rest (s := s) hk
    unfold opsA at h ⊢
    split at h
    · exact stepA_mono hC ih h
    · rename_i j want hg
      split at h
      case h_2 => cases h
      rename_i t ht
      split at h
      · rename_i v hv
        exact brA_mono (cond_mono (stepA_mono hC ih) (ih _)) (cond_mono (ih _) (stepA_mono hC ih)) h
      · exact ih _ h
      · cases h
theorem frzRs_sound {T : Tab τ} : ∀ (rs : List Nat) {s : St τ}, At T w0 η0 m0 nb w s ts → At T w0 η0 m0 nb w (frzRs s rs) ts
  | [], s, h => h
  | r :: rs, s, h => by
    unfold frzRs
    obtain ⟨η, h⟩ := h
    obtain ⟨h1, h2⟩ := freeze_sound h.mr h.tr r
    exact frzRs_sound rs (At.step h h1 h2)
theorem frzAll_sound {T : Tab τ} (as : List (AV τ)) {s : St τ} (h : At T w0 η0 m0 nb w s ts) : At T w0 η0 m0 nb w (frzAll s as) ts := frzRs_sound _ h
theorem opPre_sound {T : Tab τ} (op : Op) {s : St τ} (h : At T w0 η0 m0 nb w s ts) : At T w0 η0 m0 nb w (opPre T s op) ts := by
  unfold opPre
  split
  · split
    · split
      · rename_i y hy
        generalize (_ || nestT T y.e) = b
        cases b with
        | true => exact frzAll_sound _ h
        | false => exact h
      · exact h
    · exact h
  · exact frzAll_sound _ h
  · split
    · exact frzAll_sound _ h
    · exact h
  · exact h
theorem evalsA_eq (tm : List (AV τ)) : ∀ xs : List Operand, evalsA tm xs = xs.map (eA tm)
  | [] => rfl
  | x :: xs => by unfold evalsA; rw [evalsA_eq tm xs]; rfl
theorem done_sound {T : Tab τ} {a : Act} (h : AtR T w0 η0 m0 nb w s a.tmps η) (k : Step T w s.m η w' m' η') {v : AV τ} {z : Value} (hv : VR T (Safe η' m') w' m' η' v z) (o : Oper) :
    At T w0 η0 m0 nb w' (doneA o s v m') (a.put o.dst z).tmps := by
  unfold doneA Act.put putA
  cases o.dst with
  | none => exact At.step h k (h.tr.next k)
  | some d => exact At.step h k ((h.tr.next k).put d hv)
theorem Act.put_defers' (a : Act) (d : Option Tmp) (z : Value) : (a.put d z).defers = a.defers := by unfold Act.put; cases d <;> rfl
/-- What a call does to the frame that calls. -/
theorem call_wp {T : Tab τ} {a : Act} {o : Oper} {f : FuncId} {xs : List Operand} (hcal : calleeA s.tm o.op = some (f, xs)) (hat : At T w0 η0 m0 nb w s a.tmps) {s' : St τ} (hat' : At T w0 η0 m0 nb w s' a.tmps) (hen : Enters P f) {av : AV τ} {m' : Mem τ}
    (h2 : ∀ (w : World) (η : Eta) (vs : Array Value), MR T w η s'.m → VRs T (Safe η s'.m) w s'.m η (evalsA s'.tm xs) vs.toList → Calls P f vs w (fun e w' => ∃ v η', e = .returned v ∧ Step T w s'.m η w' m' η' ∧ VR T (Safe η' m') w' m' η' av v))
    {next : Act → World → Prop} {Q : Exit → Act → World → Prop} (hk : ∀ z w', At T w0 η0 m0 nb w' (doneA o s' av m') (a.put o.dst z).tmps → next (a.put o.dst z) w') : o.wp P a w next Q := by
  obtain ⟨η, hat'⟩ := hat'
  obtain ⟨fn, hf, hname, hb⟩ := hen
  unfold calleeA at hcal
  split at hcal
  case h_2 => cases hcal
  rename_i c hop
  split at hcal
  case h_2 => cases hcal
  rename_i fo hco
  split at hcal
  case h_2 => cases hcal
  rename_i g hg
  cases hcal
  obtain ⟨η2, hat2⟩ := hat
  have hfv : a.eval fo = .func (.func f) #[] #[] := by
    have h9 := hat2.tr.eval (ds := a.defers) fo
    rw [hg] at h9
    have key : ∀ u, VR T (Safe η2 s.m) w s.m η2 (.fn f) u → u = .func (.func f) #[] #[] := fun u hu => by cases hu; rfl
    exact key _ h9
  have hvs : VRs T (Safe η s'.m) w s'.m η (evalsA s'.tm c.args.toList) (c.args.map a.eval).toList := by
    rw [evalsA_eq]
    refine ⟨by simp, fun i b v hb' hv => ?_⟩
    rw [List.getElem?_map] at hb'
    rw [Array.toList_map, List.getElem?_map] at hv
    cases hx : c.args.toList[i]? with
    | none => rw [hx] at hb'; simp at hb'
    | some x => rw [hx] at hb' hv; simp at hb' hv; subst hb'; subst hv; exact hat'.tr.eval (ds := a.defers) x
  have hcl := h2 w η (c.args.map a.eval) hat'.mr hvs
  have h1n : fn.name ≠ "runtime.NumGoroutine" := by simpa using hname
  obtain ⟨code, hcode⟩ := Option.isSome_iff_exists.1 hb
  have hrun : (execOp a.eval o).run P w = .ok (.enter f (c.args.map a.eval)) w := by
    unfold execOp
    simp [hop, resolve, hco, hfv, Deferred.ofValue, invoke, callFunc, hf, h1n, hcode]
  unfold Oper.wp
  rw [hrun, Oper.upon_enter]
  refine hcl.mono fun e w'' he => ?_
  obtain ⟨v, η', rfl, hst, hv⟩ := he
  exact hk v w'' (done_sound hat' hst hv o)
theorem stepA_sound (hP : PQ P E.T E.by_) (hC : CtrOk P E.T E.pn C) {a : Act} {o : Oper} {k : St τ → Option Unit} (h : stepA E C o s k = some ()) (hat : At E.T w0 η0 m0 nb w s a.tmps) {next : Act → World → Prop} {Q : Exit → Act → World → Prop}
    (hk : ∀ s' z w', k s' = some () → At E.T w0 η0 m0 nb w' s' (a.put o.dst z).tmps → next (a.put o.dst z) w') : o.wp P a w next Q := by
  unfold stepA at h
  split at h
  · rename_i f xs hcal
    have run : ∀ s' : St τ, At E.T w0 η0 m0 nb w s' a.tmps → ∀ lend, callS E.T C (E.shp f) (E.pers f) (E.pn f) lend f (evalsA s'.tm xs) s'.m (fun v m => k (doneA o s' v m)) = some () → o.wp P a w next Q := by
      intro s' hat' lend hcall
      obtain ⟨hen, av, m', h1, _, h2⟩ := callS_sound hC hcall
      exact call_wp hcal hat hat' hen h2 (fun z w' h3 => hk _ z w' h1 h3)
    split at h
    · exact run s hat true h
    · exact run s hat false h
    · exact run _ (frzAll_sound _ hat) false h
  · split at h
    case h_2 => cases h
    rename_i cs v m' hop
    obtain ⟨hcs, hk'⟩ := condsA_some h
    obtain ⟨η, hat⟩ := opPre_sound o.op hat
    obtain ⟨n, z, w', η', h1, h2, h3, h4⟩ := opA_sound (ds := a.defers) hP hat.mr hat.tr hop hcs
    have hev : (⟨a.tmps, a.defers⟩ : Act) = a := by cases a; rfl
    rw [hev] at h1
    unfold Oper.wp
    rw [h1]
    have := hk _ z w' hk' (done_sound hat h3 h4 o)
    rcases h2 with rfl | ⟨rfl, rfl⟩
    · exact this
    · exact this
theorem At.put {T : Tab τ} (h : At T w0 η0 m0 nb w s ts) (d : Nat) {v : AV τ} {z : Value} (hv : ∀ η, VR T (Safe η s.m) w s.m η v z) : At T w0 η0 m0 nb w ⟨s.tm.set d v, s.m⟩ (ts.setIfInBounds d z) := by
  obtain ⟨η, h⟩ := h
  exact ⟨η, h.mr, h.tr.put d (hv η), h.safe, h.agree, h.x, h.fx, h.bk, h.bl, h.rk, h.rl⟩
theorem At.putO {T : Tab τ} {a : Act} (h : At T w0 η0 m0 nb w s a.tmps) (d : Option Tmp) {v : AV τ} {z : Value} (hv : ∀ η, VR T (Safe η s.m) w s.m η v z) : At T w0 η0 m0 nb w ⟨putA s.tm d v, s.m⟩ (a.put d z).tmps := by
  unfold putA Act.put
  cases d with
  | none => exact h
  | some d => exact h.put d hv
/-- A truth that is written where it stands is no change. -/
theorem set_same {t : Nat} {v : AV τ} : ∀ {l : List (AV τ)} {t : Nat}, l.getD t .bad = v → l.set t v = l
  | [], t, h => by simp
  | x :: xs, 0, h => by simp at h; subst h; rfl
  | x :: xs, t + 1, h => by
    simp only [List.set_cons_succ, List.cons.injEq, true_and]
    exact set_same (t := t) (by simpa using h)
theorem yield_of {T : Tab τ} (h : At T w0 η0 m0 nb w s ts) {ops : Array Oper} {j t : Nat} (hj : (ops[j]?).bind (·.dst) = some t) :
    (∀ v, s.tm.getD t .bad = .bool v → yielded ops ts j = some v) ∧ (s.tm.getD t .bad = .und → yielded ops ts j = none) := by
  obtain ⟨η, h⟩ := h
  have h1 := h.tr.at_ t
  unfold yielded
  rw [hj]
  simp only [Option.bind_some]
  refine ⟨fun v hv => ?_, fun hv => ?_⟩
  · rw [hv] at h1
    have h2 := h1.bool_inv
    rw [Array.getD_eq_getD_getElem?] at h2
    cases hx : ts[t]? with
    | none => rw [hx] at h2; cases h2
    | some x => rw [hx] at h2; simp at h2; subst h2; rfl
  · rw [hv] at h1
    have h2 : ts.getD t undef = undef := by
      have key : ∀ u, VR T (Safe η s.m) w s.m η .und u → u = undef := fun u hu => by cases hu; rfl
      exact key _ h1
    rw [Array.getD_eq_getD_getElem?] at h2
    cases hx : ts[t]? with
    | none => rfl
    | some x => rw [hx] at h2; simp at h2; subst h2; rfl
theorem opsA_sound (hP : PQ P E.T E.by_) (hC : CtrOk P E.T E.pn C) {ops : Array Oper} {Q : Exit → Act → World → Prop} : ∀ (rest : List Oper) (s : St τ) (k : St τ → Option Unit) (a : Act) (w : World), opsA E C ops rest s k = some () → At E.T w0 η0 m0 nb w s a.tmps →
    (∀ s' a' w', k s' = some () → At E.T w0 η0 m0 nb w' s' a'.tmps → a'.defers = a.defers → Q .normal a' w') → wpList P ops Q rest a w
  | [], s, k, a, w, h, hat, hk => hk s a w h hat rfl
  | o :: rest, s, k, a, w, h, hat, hk => by
    have take : stepA E C o s (fun s' => opsA E C ops rest s' k) = some () → ∀ K : Act → World → Prop, (∀ a w, wpList P ops Q rest a w → K a w) → o.wp P a w K Q := fun h2 K hK =>
      stepA_sound hP hC h2 hat (fun s' z w' h3 h4 => hK _ _ (opsA_sound hP hC rest s' k _ w' h3 h4 (fun s'' a'' w'' h6 h7 h8 => hk s'' a'' w'' h6 h7 (h8.trans (Act.put_defers' a o.dst z)))))
    have skip : opsA E C ops rest ⟨putA s.tm o.dst .und, s.m⟩ k = some () → wpList P ops Q rest (a.put o.dst undef) w := fun h2 =>
      opsA_sound hP hC rest _ k _ w h2 (hat.putO o.dst (fun η => .und)) (fun s'' a'' w'' h6 h7 h8 => hk s'' a'' w'' h6 h7 (h8.trans (Act.put_defers' a o.dst _)))
    unfold opsA at h
    split at h
    · rename_i hg
      exact wpList_plain hg (take h)
    · rename_i j want hg
      split at h
      case h_2 => cases h
      rename_i t ht
      obtain ⟨y1, y2⟩ := yield_of hat ht
      split at h
      · rename_i v hv
        have hy := y1 v hv
        refine wpList_step fun K hK => ?_
        simp only [Region.wanted, hg, hy]
        cases v <;> cases want <;> simp only [brA, cond_true, cond_false, set_same (t := t) hv] at h
        · rw [if_pos (by decide)]; exact take h K hK
        · rw [if_neg (by decide)]; exact hK _ _ (skip h)
        · rw [if_neg (by decide)]; exact hK _ _ (skip h)
        · rw [if_pos (by decide)]; exact take h K hK
      · rename_i hv
        have hy := y2 hv
        refine wpList_step fun K hK => ?_
        simp only [Region.wanted, hg, hy]
        rw [if_neg (by cases want <;> decide)]
        exact hK _ _ (skip h)
      · cases h
end
end Am
