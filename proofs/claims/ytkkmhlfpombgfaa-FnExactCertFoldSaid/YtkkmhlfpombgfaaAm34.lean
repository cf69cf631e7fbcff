/- The abstract machine, part 34: whatever order is drawn. -/
import Derived.Test.YtkkmhlfpombgfaaAm33
set_option linter.unusedVariables false
set_option linter.unusedSectionVars false
set_option linter.unusedSimpArgs false
namespace Am
open Go
variable {τ : TypeId → Type}
theorem fits_at {ops : Array Oper} {ancs : List Nat} {l : List Bool} {s : St τ} {j : Nat} {o : Oper} {tl : List (Bool × Nat)} : ∀ {xs : List Oper} {i : Nat}, fitsA ops ancs l s j o tl i xs = true → ∀ q x, xs[q]? = some x → l.getD (i + q) false = true → Nat.testBit (ancs.getD j 0) (i + q) = true ∨
    (rangeOk s.m (opRefs s.tm x.op) = true ∧ apartB (opRefs s.tm x.op) tl = true ∧ ∀ d, o.dst = some d → d ∉ x.looksAt ops)
  | [], i, _, q, x, h, _ => by simp at h
  | y :: ys, i, h, q, x, hx, hl => by
    unfold fitsA at h
    rw [Bool.and_eq_true] at h
    cases q with
    | zero =>
      simp at hx; subst hx
      rw [Nat.add_zero] at hl ⊢
      have h1 := h.1
      rw [hl] at h1
      simp only [Bool.not_true, Bool.false_or, Bool.or_eq_true, Bool.and_eq_true] at h1
      rcases h1 with h1 | ⟨h1, h2, h3⟩
      · exact .inl h1
      · refine .inr ⟨h1, h2, fun d hd hm => ?_⟩
        rw [hd] at h3
        simp only [Bool.not_eq_true'] at h3
        rw [memN_iff.2 hm] at h3; cases h3
    | succ q =>
      have := fits_at h.2 q x (by simpa using hx) (by rw [Nat.add_assoc, Nat.add_comm 1 q]; exact hl)
      rw [Nat.add_assoc, Nat.add_comm 1 q] at this
      exact this
/-- What is still to come of the reads that the machine has taken first. -/
def pendD (ops : Array Oper) (l : List Bool) (X : Array Bool) (t : Nat) : Prop := ∃ i o, ops[i]? = some o ∧ l.getD i false = true ∧ X.getD i false = false ∧ o.dst = some t
def PendOk (T : Tab τ) (by_ : TypeId → Nat) (ops : Array Oper) (s : St τ) (o : Oper) : Prop :=
  (wantA ops s o = some true ∧ ∃ cs v d, o.dst = some d ∧ rdA T by_ s.tm s.m o.op = some (cs, v) ∧ cs.all id = true ∧ (s.tm.getD d .bad = v ∨ s.tm.getD d .bad = .bad)) ∨
  (wantA ops s o = some false ∧ ∃ d, o.dst = some d ∧ (s.tm.getD d .bad = .und ∨ s.tm.getD d .bad = .bad))
structure Inv (E : Env τ) (w0 : World) (η0 : Eta) (m0 : Mem τ) (nb : NB) (ops : Array Oper) (l : List Bool) (s : St τ) (X : Array Bool) (a : Act) (w : World) : Prop where
  lx : X.size = ops.size
  ll : l.length = ops.size
  sub : ∀ i, X.getD i false = true → l.getD i false = true
  dx : ∀ i o, ops[i]? = some o → X.getD i false = true → ∀ d ∈ needsA o, X.getD d false = true
  dl : ∀ i o, ops[i]? = some o → l.getD i false = true → ∀ d ∈ needsA o, l.getD d false = true
  pend : ∀ i o, ops[i]? = some o → l.getD i false = true → X.getD i false = false → rdOk ops (ancsA ops.toList []) i o = true ∧ PendOk E.T E.by_ ops s o
  at_ : At E.T w0 η0 m0 nb w ⟨maskD (pendD ops l X) 0 s.tm, s.m⟩ a.tmps
theorem getD_setT {X : Array Bool} {i j : Nat} (hi : i < X.size) : (X.setIfInBounds i true).getD j false = true ↔ (j = i ∨ X.getD j false = true) := by
  rw [Array.getD_eq_getD_getElem?, Array.getElem?_setIfInBounds, Array.getD_eq_getD_getElem?]
  by_cases h : i = j
  · subst h; simp [hi]
  · rw [if_neg h]; simp [Ne.symm h]
theorem getD_setL {l : List Bool} {i j : Nat} (hi : i < l.length) : (l.set i true).getD j false = true ↔ (j = i ∨ l.getD j false = true) := by
  rw [List.getD_eq_getElem?_getD, List.getElem?_set, List.getD_eq_getElem?_getD]
  by_cases h : i = j
  · subst h; simp [hi]
  · rw [if_neg h]; simp [Ne.symm h]
theorem getD_tf {l : List Bool} {i : Nat} (h : l.getD i true = false) : i < l.length ∧ l.getD i false = false := by
  rw [List.getD_eq_getElem?_getD] at h ⊢
  cases hx : l[i]? with
  | none => rw [hx] at h; cases h
  | some x => rw [hx] at h; simp at h; subst h; exact ⟨some_lt hx, rfl⟩
theorem getD_tfA {l : Array Bool} {i : Nat} (h : l.getD i true = false) : i < l.size ∧ l.getD i false = false := by
  rw [Array.getD_eq_getD_getElem?] at h ⊢
  cases hx : l[i]? with
  | none => rw [hx] at h; cases h
  | some x => rw [hx] at h; simp at h; subst h; exact ⟨(Array.getElem?_eq_some_iff.1 hx).1, rfl⟩
theorem ready_iff {ops : Array Oper} {X : Array Bool} {j : Nat} : j ∈ Region.ready .any ops X ↔ X.getD j true = false ∧ ∃ o, ops[j]? = some o ∧ ∀ d ∈ needsA o, X.getD d false = true := by
  rw [mem_ready]
  refine ⟨fun ⟨h0, o, h1, h2⟩ => ⟨h0, o, h1, fun d hd => ?_⟩, fun ⟨h0, o, h1, h2⟩ => ⟨h0, o, h1, fun e he hb => h2 e.on ?_⟩⟩
  · unfold needsA at hd
    obtain ⟨e, he, rfl⟩ := List.mem_map.1 hd
    rw [List.mem_filter] at he
    exact h2 e (by simpa using he.1) he.2
  · unfold needsA
    exact List.mem_map.2 ⟨e, List.mem_filter.2 ⟨by simpa using he, hb⟩, rfl⟩
theorem back_at {n : Nat} : ∀ {os : List Oper} {i : Nat}, backOk n i os = true → ∀ q o, os[q]? = some o → ∀ d ∈ needsA o, d < i + q
  | [], i, _, q, o, h => by simp at h
  | x :: xs, i, h, q, o, hx => by
    unfold backOk at h
    rw [Bool.and_eq_true] at h
    cases q with
    | zero =>
      simp at hx; subst hx
      intro d hd
      have := List.all_eq_true.1 h.1 d hd
      rw [Nat.blt_eq] at this
      exact this
    | succ q =>
      intro d hd
      have := back_at h.2 q o (by simpa using hx) d hd
      omega
section
variable {P : Program} {E : Env τ} {C : Ctr τ Unit} {w w' w2 w0 : World} {m m' m2 m0 m1 : Mem τ} {η η' η2 η0 η1 : Eta} {s s2 : St τ} {ts : Array Value} {nb : NB} {ops : Array Oper} {l : List Bool} {X : Array Bool} {a b : Act}
/-- What an operation that may come up looks at is known. -/
theorem Inv.known (h : Inv E w0 η0 m0 nb ops l s X a w) {i : Nat} {o : Oper} (ho : ops[i]? = some o) (hn : ∀ d ∈ needsA o, X.getD d false = true) : ∀ t ∈ o.looksAt ops, ¬ pendD ops l X t := by
  rintro t ht ⟨i', o', ho', hl', hX', hd'⟩
  obtain ⟨hr, _⟩ := h.pend i' o' ho' hl' hX'
  obtain ⟨_, d, hd, h1, h2⟩ := rdOk_spec hr
  rw [hd'] at hd; cases hd
  by_cases e : i = i'
  · subst e; rw [ho] at ho'; cases ho'; exact h1 ho ht
  · have ha := (h2 i o ho e).2 ht
    have := ha.closed (S := fun i => X.getD i false = true) h.dx (fun o2 ho2 => by rw [ho] at ho2; cases ho2; exact hn)
    rw [hX'] at this; cases this
theorem Inv.masked (h : Inv E w0 η0 m0 nb ops l s X a w) {i : Nat} {o : Oper} (ho : ops[i]? = some o) (hn : ∀ d ∈ needsA o, X.getD d false = true) : ∀ t ∈ o.looksAt ops, (maskD (pendD ops l X) 0 s.tm).getD t .bad = s.tm.getD t .bad := fun t ht => maskD_out (h.known ho hn t ht)
theorem PendOk.same {T : Tab τ} {by_ : TypeId → Nat} {o : Oper} (h : PendOk T by_ ops s o) (ht : ∀ t ∈ o.looksAt ops, s2.tm.getD t .bad = s.tm.getD t .bad) (hm : SameAt (opRefs s.tm o.op) s.m s2.m) (hd : ∀ d, o.dst = some d → s2.tm.getD d .bad = s.tm.getD d .bad) : PendOk T by_ ops s2 o := by
  have h1 := want_same (ops := ops) (o := o) ht
  have h2 := rdA_same (T := T) (by_ := by_) (op := o.op) hm (eval_same ht)
  rcases h with ⟨hw, cs, v, d, a1, a2, a3, a4⟩ | ⟨hw, d, a1, a2⟩
  · exact .inl ⟨h1.trans hw, cs, v, d, a1, h2.trans a2, a3, by rw [hd d a1]; exact a4⟩
  · exact .inr ⟨h1.trans hw, d, a1, by rw [hd d a1]; exact a2⟩
/-- A read that the machine has taken first comes up. -/
theorem Inv.takeE (hP : PQ P E.T E.by_) (h : Inv E w0 η0 m0 nb ops l s X a w) {i : Nat} {o : Oper} (ho : ops[i]? = some o) (hX : X.getD i true = false) (hn : ∀ d ∈ needsA o, X.getD d false = true) (hl : l.getD i false = true) :
    ∃ z, Inv E w0 η0 m0 nb ops l s (X.setIfInBounds i true) (a.put o.dst z) w ∧ ((Region.wanted o (yielded ops a.tmps) = true ∧ (execOp a.eval o).run P w = .ok (.value z) w) ∨ (Region.wanted o (yielded ops a.tmps) = false ∧ z = undef)) := by
  obtain ⟨hlt, hXf⟩ := getD_tfA hX
  obtain ⟨hr, hp⟩ := h.pend i o ho hl hXf
  obtain ⟨_, d, hd, hself, hoth⟩ := rdOk_spec hr
  have hmask := h.masked ho hn
  -- what is known behind it
  have next : ∀ (v : AV τ) (z : Value), (s.tm.getD d .bad = v ∨ s.tm.getD d .bad = .bad) → (∃ η, AtR E.T w0 η0 m0 nb w ⟨maskD (pendD ops l X) 0 s.tm, s.m⟩ a.tmps η ∧ VR E.T (Safe η s.m) w s.m η v z) → Inv E w0 η0 m0 nb ops l s (X.setIfInBounds i true) (a.put o.dst z) w := by
    rintro v z hv ⟨η, hat, hvz⟩
    have hXi : ∀ j, (X.setIfInBounds i true).getD j false = true ↔ (j = i ∨ X.getD j false = true) := fun j => getD_setT hlt
    refine ⟨by simpa using h.lx, h.ll, fun j hj => ?_, fun j oj hoj hj e he => ?_, h.dl, fun j oj hoj hlj hj => ?_, ?_⟩
    · rcases (hXi j).1 hj with rfl | hj
      · exact hl
      · exact h.sub j hj
    · rcases (hXi j).1 hj with rfl | hj
      · rw [ho] at hoj; cases hoj; exact (hXi e).2 (.inr (hn e he))
      · exact (hXi e).2 (.inr (h.dx j oj hoj hj e he))
    · refine h.pend j oj hoj hlj ?_
      cases hb : X.getD j false with
      | false => rfl
      | true => rw [(hXi j).2 (.inr hb)] at hj; cases hj
    · refine ⟨η, hat.mr, ⟨?_, fun t => ?_⟩, hat.safe, hat.agree, hat.x, hat.fx, hat.bk, hat.bl, hat.rk, hat.rl⟩
      · have := hat.tr.len
        rw [maskD_len] at this ⊢
        unfold Act.put; rw [hd]; simpa using this
      · have hsz := hat.tr.len
        rw [maskD_len] at hsz
        by_cases hD : pendD ops l (X.setIfInBounds i true) t
        · show VR _ _ _ _ _ ((maskD _ 0 s.tm).getD t .bad) _
          rw [maskD_in hD]; exact .bad _
        · show VR _ _ _ _ _ ((maskD _ 0 s.tm).getD t .bad) _
          rw [maskD_out hD]
          unfold Act.put
          rw [hd]
          simp only
          rw [Array.getD_eq_getD_getElem?, Array.getElem?_setIfInBounds]
          by_cases e : d = t
          · subst e
            rw [if_pos rfl]
            rcases hv with hv | hv
            · rw [hv]
              by_cases c : d < a.tmps.size
              · rw [if_pos c]; exact hvz
              · rw [← hv, List.getD_eq_getElem?_getD, List.getElem?_eq_none (Nat.le_trans hsz (Nat.not_lt.1 c))]; exact .bad _
            · rw [hv]; exact .bad _
          · rw [if_neg e, ← Array.getD_eq_getD_getElem?]
            have hnD : ¬ pendD ops l X t := by
              rintro ⟨j, oj, hoj, hlj, hXj, hdj⟩
              refine hD ⟨j, oj, hoj, hlj, ?_, hdj⟩
              cases hb : (X.setIfInBounds i true).getD j false with
              | false => rfl
              | true =>
                rcases (hXi j).1 hb with rfl | hb
                · rw [ho] at hoj; cases hoj; rw [hd] at hdj; cases hdj; exact absurd rfl e
                · rw [hXj] at hb; cases hb
            have := hat.tr.at_ t
            rw [maskD_out hnD] at this
            exact this
  have hwm : wantA ops ⟨maskD (pendD ops l X) 0 s.tm, s.m⟩ o = wantA ops s o := want_same hmask
  rcases hp with ⟨hw, cs, v, d', a1, a2, a3, a4⟩ | ⟨hw, d', a1, a2⟩
  · rw [hd] at a1; cases a1
    have hwt := wanted_of h.at_ (hwm.trans hw)
    obtain ⟨η, hat⟩ := h.at_
    have hrd : rdA E.T E.by_ (maskD (pendD ops l X) 0 s.tm) s.m o.op = some (cs, v) := (rdA_same (SameAt.refl _ _) (eval_same hmask)).trans a2
    obtain ⟨z, η', h1, h2, h3⟩ := rdA_sound (ds := a.defers) hP hat.mr hat.tr hrd a3
    have hev : (⟨a.tmps, a.defers⟩ : Act) = a := by cases a; rfl
    rw [hev] at h1
    refine ⟨z, next v z a4 ?_, .inl ⟨hwt, h1⟩⟩
    exact ⟨η', hat.step h2 (hat.tr.next h2), h3⟩
  · rw [hd] at a1; cases a1
    have hwt := wanted_of h.at_ (hwm.trans hw)
    obtain ⟨η, hat⟩ := h.at_
    exact ⟨undef, next .und undef a2 ⟨η, hat, .und⟩, .inr ⟨hwt, rfl⟩⟩
theorem Inv.take (hP : PQ P E.T E.by_) (h : Inv E w0 η0 m0 nb ops l s X a w) {i : Nat} {o : Oper} (ho : ops[i]? = some o) (hX : X.getD i true = false) (hn : ∀ d ∈ needsA o, X.getD d false = true) (hl : l.getD i false = true) {K : Act → World → Prop} {Q : Exit → Act → World → Prop}
    (hK : ∀ b, Inv E w0 η0 m0 nb ops l s (X.setIfInBounds i true) b w → b.defers = a.defers → K b w) : wpOp P ops Q i K a w := by
  obtain ⟨z, h1, h2⟩ := h.takeE hP ho hX hn hl
  have h3 := hK _ h1 (Act.put_defers' a o.dst z)
  unfold wpOp
  rw [ho]
  simp only
  rcases h2 with ⟨hw, hrun⟩ | ⟨hw, rfl⟩
  · rw [hw, if_pos rfl]
    left
    unfold Oper.wp
    rw [hrun]
    exact h3
  · rw [hw, if_neg (by decide)]
    exact h3
/-- The machine takes a read first. -/
theorem Inv.first (h : Inv E w0 η0 m0 nb ops l s X a w) {i : Nat} {o : Oper} (ho : ops[i]? = some o) (hr : readyB l i o = true) (hok : rdOk ops (ancsA ops.toList []) i o = true) {v : AV τ}
    (hv : (wantA ops s o = some true ∧ ∃ cs, rdA E.T E.by_ s.tm s.m o.op = some (cs, v) ∧ cs.all id = true) ∨ (wantA ops s o = some false ∧ v = .und)) : Inv E w0 η0 m0 nb ops (l.set i true) ⟨putA s.tm o.dst v, s.m⟩ X a w := by
  obtain ⟨hlf, hn⟩ := readyB_iff.1 hr
  obtain ⟨hlt, hlf'⟩ := getD_tf hlf
  obtain ⟨_, d, hd, hself, hoth⟩ := rdOk_spec hok
  have hli : ∀ j, (l.set i true).getD j false = true ↔ (j = i ∨ l.getD j false = true) := fun j => getD_setL hlt
  have hput : putA s.tm o.dst v = s.tm.set d v := by unfold putA; rw [hd]
  rw [hput]
  have hXi : X.getD i false = false := by
    cases hb : X.getD i false with
    | false => rfl
    | true => rw [h.sub i hb] at hlf'; cases hlf'
  refine ⟨h.lx, by simpa using h.ll, fun j hj => (hli j).2 (.inr (h.sub j hj)), h.dx, fun j oj hoj hj e he => ?_, fun j oj hoj hlj hXj => ?_, ?_⟩
  · rcases (hli j).1 hj with rfl | hj
    · rw [ho] at hoj; cases hoj; exact (hli e).2 (.inr (hn e he))
    · exact (hli e).2 (.inr (h.dl j oj hoj hj e he))
  · rcases (hli j).1 hlj with rfl | hlj2
    · rw [ho] at hoj; cases hoj
      refine ⟨hok, ?_⟩
      have ht : ∀ t ∈ o.looksAt ops, (s.tm.set d v).getD t .bad = s.tm.getD t .bad := fun t ht => by
        rw [getD_set, if_neg (fun e => by subst e; exact hself ho ht)]
      have hdv : (s.tm.set d v).getD d .bad = v ∨ (s.tm.set d v).getD d .bad = .bad := by
        rw [getD_set, if_pos rfl]; split
        · exact .inl rfl
        · exact .inr rfl
      rcases hv with ⟨hw, cs, h1, h2⟩ | ⟨hw, rfl⟩
      · exact .inl ⟨(want_same (s2 := ⟨s.tm.set d v, s.m⟩) ht).trans hw, cs, v, d, hd, (rdA_same (SameAt.refl _ _) (eval_same ht)).trans h1, h2, hdv⟩
      · exact .inr ⟨(want_same (s2 := ⟨s.tm.set d .und, s.m⟩) ht).trans hw, d, hd, hdv⟩
    · obtain ⟨h1, h2⟩ := h.pend j oj hoj hlj2 hXj
      refine ⟨h1, ?_⟩
      have hne : j ≠ i := fun e => by subst e; rw [hlj2] at hlf'; cases hlf'
      refine h2.same (fun t ht => ?_) (SameAt.refl _ _) (fun dj hdj => ?_)
      · show (s.tm.set d v).getD t .bad = _
        rw [getD_set, if_neg]
        rintro rfl
        have ha := (hoth j oj hoj hne).2 ht
        have := ha.closed (S := fun i => l.getD i false = true) h.dl (fun o2 ho2 => by rw [hoj] at ho2; cases ho2; exact h.dl j oj hoj hlj2)
        rw [hlf'] at this; cases this
      · show (s.tm.set d v).getD dj .bad = _
        rw [getD_set, if_neg]
        rintro rfl
        exact (hoth j oj hoj hne).1 hdj
  · refine h.at_.weak (tm2 := maskD (pendD ops (l.set i true) X) 0 (s.tm.set d v)) (by rw [maskD_len, maskD_len, List.length_set]) (fun t => ?_)
    by_cases hD : pendD ops (l.set i true) X t
    · exact .inr (maskD_in hD)
    · left
      rw [maskD_out hD]
      show _ = (maskD (pendD ops l X) 0 s.tm).getD t .bad
      have hnD : ¬ pendD ops l X t := by
        rintro ⟨j, oj, hoj, hlj, hXj, hdj⟩
        exact hD ⟨j, oj, hoj, (hli j).2 (.inr hlj), hXj, hdj⟩
      rw [maskD_out hnD, getD_set, if_neg]
      rintro rfl
      exact hD ⟨i, o, ho, (hli i).2 (.inl rfl), hXi, hd⟩
end
end Am
