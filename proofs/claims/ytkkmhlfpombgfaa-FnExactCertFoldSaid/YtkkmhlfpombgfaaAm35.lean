/- The abstract machine, part 35: drawn regions are sound. -/
import Derived.Test.YtkkmhlfpombgfaaAm34
set_option linter.unusedVariables false
set_option linter.unusedSectionVars false
set_option linter.unusedSimpArgs false
namespace Am
open Go
variable {τ : TypeId → Type}
section
variable {P : Program} {E : Env τ} {C : Ctr τ Unit} {w w' w2 w0 : World} {m m' m2 m0 m1 : Mem τ} {η η' η2 η0 η1 : Eta} {s s2 : St τ} {ts : Array Value} {nb : NB} {ops : Array Oper} {l : List Bool} {X : Array Bool} {a b : Act}
/-- How many have not come up. -/
def leftN (X : Array Bool) : Nat := X.toList.count false
theorem leftN_set {i : Nat} (h : X.getD i true = false) : leftN (X.setIfInBounds i true) + 1 = leftN X := by
  obtain ⟨hlt, hf⟩ := getD_tfA h
  unfold leftN
  rw [Array.toList_setIfInBounds, List.count_set (by simpa using hlt)]
  have h1 : X.toList[i]'(by simpa using hlt) = false := by
    rw [Array.getD_eq_getD_getElem?, Array.getElem?_eq_getElem hlt] at hf
    simpa using hf
  have h2 : 0 < X.toList.count false := List.count_pos_iff.2 (List.mem_iff_getElem.2 ⟨i, by simpa using hlt, h1⟩)
  rw [h1]
  simp only [beq_self_eq_true, if_true]
  rw [if_neg (by decide)]
  omega
theorem leftN_zero (h : leftN X = 0) (i : Nat) : X.getD i true = true := by
  unfold leftN at h
  rw [List.count_eq_zero] at h
  rw [Array.getD_eq_getD_getElem?]
  cases hx : X[i]? with
  | none => rfl
  | some x =>
    cases x with
    | true => rfl
    | false => exact absurd (List.mem_of_getElem? (i := i) (by simpa using hx)) h
/-- What waits for nothing comes up; so all comes up. -/
theorem all_up (hb : backOk ops.size 0 ops.toList = true) (hlx : X.size = ops.size) (h : ∀ i o, ops[i]? = some o → X.getD i true = false → ¬ ∀ d ∈ needsA o, X.getD d false = true) : ∀ i, X.getD i true = true := by
  intro i
  induction i using Nat.strongRecOn with
  | _ i ih =>
    cases hx : X.getD i true with
    | true => rfl
    | false =>
      obtain ⟨hlt, _⟩ := getD_tfA hx
      have ho : ops[i]? = some ops[i] := Array.getElem?_eq_getElem (by rw [← hlx]; exact hlt)
      refine absurd (fun d hd => ?_) (h i _ ho hx)
      have hd2 := back_at hb i ops[i] (by simp) d hd
      rw [Nat.zero_add] at hd2
      have := ih d hd2
      rw [Array.getD_eq_getD_getElem?] at this ⊢
      rw [Array.getElem?_eq_getElem (Nat.lt_trans hd2 hlt)] at this ⊢
      simpa using this
/-- The frame in which all reads that the machine has taken have come up. -/
theorem Inv.virtual (hP : PQ P E.T E.by_) (hbk : backOk ops.size 0 ops.toList = true) : ∀ (c : Nat) {X : Array Bool} {a : Act}, leftN X ≤ c → Inv E w0 η0 m0 nb ops l s X a w →
    ∃ b : Act, At E.T w0 η0 m0 nb w s b.tmps ∧ b.defers = a.defers ∧ b.tmps.size = a.tmps.size ∧ ∀ t, ¬ pendD ops l X t → b.tmps.getD t undef = a.tmps.getD t undef := by
  intro c
  induction c with
  | zero =>
    intro X a hc h
    refine ⟨a, ?_, rfl, rfl, fun _ _ => rfl⟩
    have hn : ∀ t, ¬ pendD ops l X t := by
      rintro t ⟨i, o, ho, hl, hX, _⟩
      have h1 := leftN_zero (by omega) i (X := X)
      have hlt : i < X.size := by rw [h.lx]; exact (Array.getElem?_eq_some_iff.1 ho).1
      rw [Array.getD_eq_getD_getElem?, Array.getElem?_eq_getElem hlt] at h1 hX
      simp at h1 hX; rw [h1] at hX; cases hX
    have := h.at_.weak (tm2 := s.tm) (by rw [maskD_len]) (fun t => .inl (by show _ = (maskD _ 0 s.tm).getD t .bad; rw [maskD_out (hn t)]))
    exact this
  | succ c ih =>
    intro X a hc h
    by_cases hex : ∃ i o, ops[i]? = some o ∧ l.getD i false = true ∧ X.getD i true = false ∧ ∀ d ∈ needsA o, X.getD d false = true
    · obtain ⟨i, o, ho, hl, hX, hn⟩ := hex
      obtain ⟨z, h1, _⟩ := h.takeE hP ho hX hn hl
      obtain ⟨hlt, hXf⟩ := getD_tfA hX
      obtain ⟨b, b1, b2, b3, b4⟩ := ih (by have := leftN_set hX; omega) h1
      refine ⟨b, b1, b2.trans (Act.put_defers' a o.dst z), b3.trans (by unfold Act.put; cases o.dst <;> simp), fun t ht => ?_⟩
      rw [b4 t]
      · unfold Act.put
        cases hd : o.dst with
        | none => rfl
        | some d =>
          simp only
          have hne : d ≠ t := fun e => ht ⟨i, o, ho, hl, hXf, by rw [hd, e]⟩
          rw [Array.getD_eq_getD_getElem?, Array.getElem?_setIfInBounds_ne hne, ← Array.getD_eq_getD_getElem?]
      · rintro ⟨j, oj, hoj, hlj, hXj, hdj⟩
        refine ht ⟨j, oj, hoj, hlj, ?_, hdj⟩
        cases hb : X.getD j false with
        | false => rfl
        | true => rw [(getD_setT hlt).2 (.inr hb)] at hXj; cases hXj
    · refine ⟨a, ?_, rfl, rfl, fun _ _ => rfl⟩
      -- what is taken has come up
      have hup : ∀ i, l.getD i false = true → X.getD i true = true := by
        intro i
        induction i using Nat.strongRecOn with
        | _ i ih2 =>
          intro hl
          cases hx : X.getD i true with
          | true => rfl
          | false =>
            obtain ⟨hlt, _⟩ := getD_tfA hx
            have ho : ops[i]? = some (ops[i]'(by rw [← h.lx]; exact hlt)) := Array.getElem?_eq_getElem _
            refine absurd ⟨i, _, ho, hl, hx, fun d hd => ?_⟩ hex
            have hd2 := back_at hbk i _ (by simp) d hd
            rw [Nat.zero_add] at hd2
            have := ih2 d hd2 (h.dl i _ ho hl d hd)
            rw [Array.getD_eq_getD_getElem?] at this ⊢
            rw [Array.getElem?_eq_getElem (Nat.lt_trans hd2 hlt)] at this ⊢
            simpa using this
      have hn : ∀ t, ¬ pendD ops l X t := by
        rintro t ⟨i, o, ho, hl, hX, _⟩
        have h1 := hup i hl
        have hlt : i < X.size := by rw [h.lx]; exact (Array.getElem?_eq_some_iff.1 ho).1
        rw [Array.getD_eq_getD_getElem?, Array.getElem?_eq_getElem hlt] at h1 hX
        simp at h1 hX; rw [h1] at hX; cases hX
      have := h.at_.weak (tm2 := s.tm) (by rw [maskD_len]) (fun t => .inl (by show _ = (maskD _ 0 s.tm).getD t .bad; rw [maskD_out (hn t)]))
      exact this
/-- A write comes up. -/
theorem Inv.wrote (h : Inv E w0 η0 m0 nb ops l s X a w) {j : Nat} {o : Oper} (ho : ops[j]? = some o) (hX : X.getD j true = false) (hn : ∀ d ∈ needsA o, X.getD d false = true) (hlj : l.getD j false = false) {tl : List (Bool × Nat)} (hfit : fitsA ops (ancsA ops.toList []) l s j o tl 0 ops.toList = true)
    {v : AV τ} {z : Value} {m' : Mem τ} (hfr : Frame s.m tl m') (hat : At E.T w0 η0 m0 nb w' ⟨putA s.tm o.dst v, m'⟩ (b.put o.dst z).tmps) (hbs : b.tmps.size = a.tmps.size) (hba : ∀ t, ¬ pendD ops l X t → b.tmps.getD t undef = a.tmps.getD t undef) :
    Inv E w0 η0 m0 nb ops (l.set j true) ⟨putA s.tm o.dst v, m'⟩ (X.setIfInBounds j true) (a.put o.dst z) w' := by
  obtain ⟨hlt, hXf⟩ := getD_tfA hX
  have hlt2 : j < l.length := by rw [h.ll, ← h.lx]; exact hlt
  have hXi : ∀ i, (X.setIfInBounds j true).getD i false = true ↔ (i = j ∨ X.getD i false = true) := fun i => getD_setT hlt
  have hli : ∀ i, (l.set j true).getD i false = true ↔ (i = j ∨ l.getD i false = true) := fun i => getD_setL hlt2
  have hD : ∀ t, pendD ops (l.set j true) (X.setIfInBounds j true) t ↔ pendD ops l X t := by
    intro t
    constructor
    · rintro ⟨i, oi, h1, h2, h3, h4⟩
      have hne : i ≠ j := fun e => by subst e; rw [(hXi i).2 (.inl rfl)] at h3; cases h3
      refine ⟨i, oi, h1, ((hli i).1 h2).resolve_left hne, ?_, h4⟩
      cases hb : X.getD i false with
      | false => rfl
      | true => rw [(hXi i).2 (.inr hb)] at h3; cases h3
    · rintro ⟨i, oi, h1, h2, h3, h4⟩
      have hne : i ≠ j := fun e => by subst e; rw [hlj] at h2; cases h2
      refine ⟨i, oi, h1, (hli i).2 (.inr h2), ?_, h4⟩
      cases hb : (X.setIfInBounds j true).getD i false with
      | false => rfl
      | true => rcases (hXi i).1 hb with e | hb
                · exact absurd e hne
                · rw [h3] at hb; cases hb
  refine ⟨by simpa using h.lx, by simpa using h.ll, fun i hi => ?_, fun i oi hoi hi e he => ?_, fun i oi hoi hi e he => ?_, fun i oi hoi hi hXi' => ?_, ?_⟩
  · rcases (hXi i).1 hi with rfl | hi
    · exact (hli i).2 (.inl rfl)
    · exact (hli i).2 (.inr (h.sub i hi))
  · rcases (hXi i).1 hi with rfl | hi
    · rw [ho] at hoi; cases hoi; exact (hXi e).2 (.inr (hn e he))
    · exact (hXi e).2 (.inr (h.dx i oi hoi hi e he))
  · rcases (hli i).1 hi with rfl | hi
    · rw [ho] at hoi; cases hoi; exact (hli e).2 (.inr (h.sub e (hn e he)))
    · exact (hli e).2 (.inr (h.dl i oi hoi hi e he))
  · have hne : i ≠ j := fun e => by subst e; rw [(hXi i).2 (.inl rfl)] at hXi'; cases hXi'
    have hl2 := ((hli i).1 hi).resolve_left hne
    have hX2 : X.getD i false = false := by
      cases hb : X.getD i false with
      | false => rfl
      | true => rw [(hXi i).2 (.inr hb)] at hXi'; cases hXi'
    obtain ⟨h1, h2⟩ := h.pend i oi hoi hl2 hX2
    refine ⟨h1, ?_⟩
    obtain ⟨_, d, hd, hself, hoth⟩ := rdOk_spec h1
    rcases fits_at hfit i oi (by simpa using hoi) (by rw [Nat.zero_add]; exact hl2) with hf | ⟨f1, f2, f3⟩
    · rw [Nat.zero_add] at hf
      have := (ancs_sound hf).closed (S := fun i => X.getD i false = true) h.dx (fun o2 ho2 => by rw [ho] at ho2; cases ho2; exact hn)
      rw [hX2] at this; cases this
    · refine h2.same (fun t ht => ?_) (hfr.same f1 f2) (fun di hdi => ?_)
      · show (putA s.tm o.dst v).getD t .bad = _
        unfold putA
        cases hod : o.dst with
        | none => rfl
        | some dj => simp only; rw [getD_set, if_neg (fun e => by subst e; exact f3 dj hod ht)]
      · show (putA s.tm o.dst v).getD di .bad = _
        unfold putA
        cases hod : o.dst with
        | none => rfl
        | some dj =>
          simp only
          rw [getD_set, if_neg]
          rintro rfl
          rw [hdi] at hd; cases hd
          exact (hoth j o ho (Ne.symm hne)).1 hod
  · have h1 := hat.weak (tm2 := maskD (pendD ops (l.set j true) (X.setIfInBounds j true)) 0 (putA s.tm o.dst v)) (maskD_len _ _) (fun t => by
      by_cases hDt : pendD ops (l.set j true) (X.setIfInBounds j true) t
      · exact .inr (maskD_in hDt)
      · exact .inl (maskD_out hDt))
    refine h1.swap (by unfold Act.put; cases o.dst <;> simp [hbs]) (fun t => ?_)
    by_cases hDt : pendD ops (l.set j true) (X.setIfInBounds j true) t
    · exact .inl (maskD_in hDt)
    · right
      have := hba t (fun hp => hDt ((hD t).2 hp))
      unfold Act.put
      cases hod : o.dst with
      | none => exact this.symm
      | some d =>
        simp only
        rw [Array.getD_eq_getD_getElem?, Array.getD_eq_getD_getElem?, Array.getElem?_setIfInBounds, Array.getElem?_setIfInBounds]
        by_cases e : d = t
        · rw [if_pos e, if_pos e, hbs]
        · rw [if_neg e, if_neg e, ← Array.getD_eq_getD_getElem?, ← Array.getD_eq_getD_getElem?]; exact this.symm
theorem noSel {o : Oper} {tl : List (Bool × Nat)} (h : touchA E s o = some tl) : ∀ cs b, o.op ≠ .select cs b := by
  intro cs b e
  unfold touchA at h
  rw [e] at h
  simp [calleeA] at h
/-- Whatever comes up next, the machine has walked it. -/
theorem dr_sound (hP : PQ P E.T E.by_) (hC : CtrOk P E.T E.pn C) (hbk : backOk ops.size 0 ops.toList = true) {k : St τ → Option Unit} {Q : Exit → Act → World → Prop} {ds : List Deferred}
    (hk : ∀ s' a' w', k s' = some () → At E.T w0 η0 m0 nb w' s' a'.tmps → a'.defers = ds → Q .normal a' w') :
    ∀ (n fuel : Nat) (l : List Bool) (s : St τ) (X : Array Bool) (a : Act) (w : World), drA E C ops k fuel l s = some () → Inv E w0 η0 m0 nb ops l s X a w → a.defers = ds → leftN X ≤ n → wpAny P .any ops Q n X a w := by
  -- when all has come up
  have fin : ∀ (fuel : Nat) (l : List Bool) (s : St τ) (X : Array Bool) (a : Act) (w : World), drA E C ops k fuel l s = some () → Inv E w0 η0 m0 nb ops l s X a w → a.defers = ds → Region.ready .any ops X = [] → Q .normal a w := by
    intro fuel l s X a w hd h hds hr
    have hall : ∀ i, X.getD i true = true := all_up hbk h.lx (fun i o ho hX hn => by
      have : i ∈ Region.ready .any ops X := ready_iff.2 ⟨hX, o, ho, hn⟩
      rw [hr] at this; cases this)
    have hl : ∀ i, i < ops.size → l.getD i false = true := fun i hi => h.sub i (by
      have := hall i
      rw [Array.getD_eq_getD_getElem?, Array.getElem?_eq_getElem (by rw [h.lx]; exact hi)] at this ⊢
      simpa using this)
    have hlall : l.all id = true := by
      rw [List.all_eq_true]
      intro x hx
      obtain ⟨i, hi, rfl⟩ := List.mem_iff_getElem.1 hx
      have := hl i (by rw [← h.ll]; exact hi)
      rw [List.getD_eq_getElem?_getD, List.getElem?_eq_getElem hi] at this
      simpa using this
    have hks : k s = some () := by
      cases fuel with
      | zero => unfold drA at hd; rw [hlall] at hd; exact hd
      | succ fuel =>
        unfold drA at hd
        split at hd
        · rename_i i o hf
          obtain ⟨q, h1, h2, h3, _⟩ := firstRd_some hf
          obtain ⟨h4, _⟩ := readyB_iff.1 h3
          obtain ⟨h5, h6⟩ := getD_tf h4
          rw [hl i (by rw [← h.ll]; exact h5)] at h6; cases h6
        · rw [hlall] at hd; exact hd
    have hn : ∀ t, ¬ pendD ops l X t := by
      rintro t ⟨i, o, ho, _, hX, _⟩
      have h1 := hall i
      have hlt : i < X.size := by rw [h.lx]; exact (Array.getElem?_eq_some_iff.1 ho).1
      rw [Array.getD_eq_getD_getElem?, Array.getElem?_eq_getElem hlt] at h1 hX
      simp at h1 hX; rw [h1] at hX; cases hX
    have := h.at_.weak (tm2 := s.tm) (by rw [maskD_len]) (fun t => .inl (by show _ = (maskD _ 0 s.tm).getD t .bad; rw [maskD_out (hn t)]))
    exact hk s a w hks this hds
  intro n
  induction n with
  | zero =>
    intro fuel l s X a w hd h hds hc
    have hr : Region.ready .any ops X = [] := by
      rw [List.eq_nil_iff_forall_not_mem]
      intro j hj
      have := (ready_iff.1 hj).1
      rw [leftN_zero (by omega) j] at this; cases this
    exact ⟨hr, fin fuel l s X a w hd h hds hr⟩
  | succ n ih =>
    intro fuel l s X a w hd h hds hc
    refine ⟨fun hr => fin fuel l s X a w hd h hds hr, fun i hi => ?_⟩
    obtain ⟨hX, o, ho, hn⟩ := ready_iff.1 hi
    have hcnt : leftN (X.setIfInBounds i true) ≤ n := by have := leftN_set hX; omega
    -- the machine goes on until it has walked what comes up
    revert l s
    induction fuel with
    | zero =>
      intro l s hd h
      unfold drA at hd
      cases hall : l.all id with
      | false => rw [hall] at hd; cases hd
      | true =>
        have hlt : i < l.length := by rw [h.ll]; exact (Array.getElem?_eq_some_iff.1 ho).1
        have hl : l.getD i false = true := by
          rw [List.getD_eq_getElem?_getD, List.getElem?_eq_getElem hlt]
          exact List.all_eq_true.1 hall _ (List.getElem_mem hlt)
        exact h.take (Q := Q) hP ho hX hn hl (fun b h1 h2 => ih 0 l s _ b w (by unfold drA; rw [hall] at hd ⊢; exact hd) h1 (h2.trans hds) hcnt)
    | succ fuel ihf =>
      intro l s hd h
      cases hl : l.getD i false with
      | true => exact h.take (Q := Q) hP ho hX hn hl (fun b h1 h2 => ih (fuel + 1) l s _ b w hd h1 (h2.trans hds) hcnt)
      | false =>
        have hd0 := hd
        unfold drA at hd
        split at hd
        · rename_i i' o' hf
          obtain ⟨q, h1, h2, h3, h4⟩ := firstRd_some hf
          simp only at h1 h2 h3 h4
          rw [Nat.zero_add] at h2; subst h2
          have ho' : ops[i']? = some o' := by simpa using h1
          rcases guardA_cases hd with ⟨hw, hgo⟩ | ⟨hw, hsk⟩
          · split at hgo
            case h_2 => cases hgo
            rename_i cs v hrd
            obtain ⟨hcs, hgo⟩ := condsA_some hgo
            exact ihf _ _ hgo (h.first ho' h3 h4 (.inl ⟨hw, cs, hrd, hcs⟩))
          · exact ihf _ _ hsk (h.first ho' h3 h4 (.inr ⟨hw, rfl⟩))
        · rename_i hf
          cases hall : l.all id with
          | true =>
            have hlt : i < l.length := by rw [h.ll]; exact (Array.getElem?_eq_some_iff.1 ho).1
            have : l.getD i false = true := by
              rw [List.getD_eq_getElem?_getD, List.getElem?_eq_getElem hlt]
              exact List.all_eq_true.1 hall _ (List.getElem_mem hlt)
            rw [hl] at this; cases this
          | false =>
            rw [hall] at hd
            simp only [cond_false] at hd
            have hlt : i < l.length := by rw [h.ll]; exact (Array.getElem?_eq_some_iff.1 ho).1
            have hlt' : l.getD i true = false := by
              rw [List.getD_eq_getElem?_getD, List.getElem?_eq_getElem hlt] at hl ⊢
              simpa using hl
            have hmem : (i, o) ∈ readyL l 0 ops.toList := by
              have := readyL_mem (l := l) (k := 0) (q := i) (o := o) (os := ops.toList) (by simpa using ho) (readyB_iff.2 ⟨by rw [Nat.zero_add]; exact hlt', fun d hd => h.sub d (hn d hd)⟩)
              rwa [Nat.zero_add] at this
            have hb := allW_mem hd i o hmem
            obtain ⟨b, b1, b2, b3, b4⟩ := h.virtual hP hbk _ (Nat.le_refl _)
            have hmask := h.masked ho hn
            have hwm : wantA ops ⟨maskD (pendD ops l X) 0 s.tm, s.m⟩ o = wantA ops s o := want_same hmask
            have hev : ∀ x ∈ o.op.operands, a.eval x = b.eval x := fun x hx => by
              cases x with
              | tmp t => exact (b4 t (h.known ho hn t (looks_op hx))).symm
              | _ => rfl
            unfold wpOp
            rw [ho]
            simp only
            rcases guardA_cases hb with ⟨hw, hgo⟩ | ⟨hw, hsk⟩
            · rw [wanted_of h.at_ (hwm.trans hw), if_pos rfl]
              left
              split at hgo
              case h_2 => cases hgo
              rename_i tl htl
              cases hfit : fitsA ops (ancsA ops.toList []) l s i o tl 0 ops.toList with
              | false => rw [hfit] at hgo; cases hgo
              | true =>
              rw [hfit] at hgo
              simp only [cond_true] at hgo
              refine stepD_sound hP hC htl hgo b1 (execOp_congr o (noSel htl) hev) (fun v m' z w' h1 h2 h3 => ?_)
              exact ih fuel _ _ _ _ w' h1 (h.wrote ho hX hn hl hfit h3 h2 b3 b4) ((Act.put_defers' a o.dst z).trans hds) hcnt
            · rw [wanted_of h.at_ (hwm.trans hw), if_neg (by decide)]
              cases hfit : fitsA ops (ancsA ops.toList []) l s i o [] 0 ops.toList with
              | false => rw [hfit] at hsk; cases hsk
              | true =>
              rw [hfit] at hsk
              simp only [cond_true] at hsk
              exact ih fuel _ _ _ _ w hsk (h.wrote ho hX hn hl hfit (.refl _ _) (b1.putO o.dst (fun η => .und)) b3 b4) ((Act.put_defers' a o.dst _).trans hds) hcnt
theorem drawA_ok (hP : PQ P E.T E.by_) (hC : CtrOk P E.T E.pn C) (hmix : P.follows .mixedOrders = true) : DrOk P E w0 η0 m0 (drawA E C) := by
  intro ops id s k a w Q h hat hk
  unfold drawA at h
  cases hbk : backOk ops.size 0 ops.toList with
  | false => rw [hbk] at h; cases h
  | true =>
  rw [hbk] at h
  simp only [cond_true] at h
  refine wp_region_any hm_ ?_
  refine dr_sound hP hC hbk (nb := E.nb) (ds := a.defers) (fun s' a' w' h1 h2 h3 => hk s' a' w' h1 h2 h3) _ _ _ _ _ _ _ h ?_ rfl ?_
  · have hf : ∀ i, (List.replicate ops.size false).getD i false = false := fun i => by
      rw [List.getD_eq_getElem?_getD, List.getElem?_replicate]; split <;> rfl
    have hfX : ∀ i, (Array.replicate ops.size false).getD i false = false := fun i => by
      rw [Array.getD_eq_getD_getElem?, Array.getElem?_replicate]; split <;> rfl
    refine ⟨by simp, by simp, fun i hi => ?_, fun i o ho hi => ?_, fun i o ho hi => ?_, fun i o ho hi => ?_, ?_⟩
    · rw [hfX] at hi; cases hi
    · rw [hfX] at hi; cases hi
    · rw [hf] at hi; cases hi
    · rw [hf] at hi; cases hi
    · refine (hat.drew (w.drawn + 1)).weak (maskD_len _ _) (fun t => .inl (maskD_out ?_))
      rintro ⟨i, o, _, hi, _⟩
      rw [hf] at hi; cases hi
  · unfold leftN
    refine Nat.le_trans (List.count_le_length ..) (by simp)
where hm_ : P.follows .mixedOrders = true := hmix
theorem guardA_mono {o : Oper} {go go' skip skip' : St τ → Option Unit} (h1 : ∀ s, go s = some () → go' s = some ()) (h2 : ∀ s, skip s = some () → skip' s = some ()) (h : guardA ops o s go skip = some ()) : guardA ops o s go' skip' = some () := by
  unfold guardA at h ⊢
  split at h
  · exact h1 _ h
  · split at h
    case h_2 => cases h
    split at h
    · exact brA_mono (cond_mono (h1 _) (h2 _)) (cond_mono (h2 _) (h1 _)) h
    · exact h2 _ h
    · cases h
theorem allW_mono : ∀ {js : List (Nat × Oper)} {f f' : Nat → Oper → Option Unit}, (∀ j o, f j o = some () → f' j o = some ()) → allW js f = some () → allW js f' = some ()
  | [], f, f', _, h => h
  | [(j, o)], f, f', hf, h => hf j o h
  | (j, o) :: p :: js, f, f', hf, h => by
    unfold allW andA at h ⊢
    split at h
    · rename_i hx
      rw [hf j o hx]
      exact allW_mono hf h
    · cases h
theorem drA_mono (hC : CtrMono C) {k k' : St τ → Option Unit} (hk : ∀ s, k s = some () → k' s = some ()) : ∀ (n : Nat) (l : List Bool) (s : St τ), drA E C ops k n l s = some () → drA E C ops k' n l s = some ()
  | 0, l, s, h => by unfold drA at h ⊢; exact cond_mono (hk _) id h
  | n + 1, l, s, h => by
    have ih := drA_mono hC hk n
    unfold drA at h ⊢
    split at h
    · refine guardA_mono (fun s' h => ?_) (fun s' h => ih _ _ h) h
      split at h
      · obtain ⟨h1, h2⟩ := condsA_some h
        exact condsA_of h1 (ih _ _ h2)
      · cases h
    · refine cond_mono (hk _) (fun h => allW_mono (fun j o h => guardA_mono (fun s' h => ?_) (fun s' h => cond_mono (ih _ _) id h) h) h) h
      split at h
      · exact cond_mono (stepA_mono hC (fun s => ih _ s)) id h
      · cases h
theorem drawA_mono (hC : CtrMono C) : DrMono (drawA E C) := fun ops s k k' hk h => by
  unfold drawA at h ⊢
  exact cond_mono (drA_mono hC hk _ _ _) id h
end
end Am
