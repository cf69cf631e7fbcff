/- The abstract machine, part 33: a region whose order is drawn is sound. -/
import Derived.Test.YtkkmhlfpombgfaaAm32
set_option linter.unusedVariables false
set_option linter.unusedSectionVars false
set_option linter.unusedSimpArgs false
namespace Am
open Go
variable {τ : TypeId → Type}
section
variable {P : Program} {E : Env τ} {C : Ctr τ Unit} {w w' w2 w0 : World} {m m' m2 m0 m1 : Mem τ} {η η' η2 η0 η1 : Eta} {tm : List (AV τ)} {S S' : Nat → Prop} {s : St τ} {ts : Array Value} {nb : NB}
theorem rangeOk_mem : ∀ {l : List (Bool × Nat)}, rangeOk m l = true → ∀ p ∈ l, (p.1 = true → p.2 < m.bx.length) ∧ (p.1 = false → p.2 < m.rw.length)
  | [], _, p, hp => by simp at hp
  | (true, b) :: l, h, p, hp => by
    simp only [rangeOk, Bool.and_eq_true, Nat.blt_eq] at h
    rcases List.mem_cons.1 hp with rfl | hp
    · exact ⟨fun _ => h.1, fun e => by cases e⟩
    · exact rangeOk_mem h.2 p hp
  | (false, b) :: l, h, p, hp => by
    simp only [rangeOk, Bool.and_eq_true, Nat.blt_eq] at h
    rcases List.mem_cons.1 hp with rfl | hp
    · exact ⟨fun e => (by cases e), fun _ => h.1⟩
    · exact rangeOk_mem h.2 p hp
theorem apartB_mem : ∀ {l tl : List (Bool × Nat)}, apartB l tl = true → ∀ p ∈ l, p ∉ tl
  | [], tl, _, p, hp => by simp at hp
  | (t, x) :: l, tl, h, p, hp => by
    simp only [apartB, Bool.and_eq_true, Bool.not_eq_true'] at h
    rcases List.mem_cons.1 hp with rfl | hp
    · intro hm
      have := List.any_eq_false.1 h.1 _ hm
      simp [Nat.beq_refl] at this
    · exact apartB_mem h.2 p hp
/-- What an operation leaves as it is. -/
def Frame (m : Mem τ) (tl : List (Bool × Nat)) (m' : Mem τ) : Prop := (∀ b, b < m.bx.length → (true, b) ∉ tl → m'.bx[b]? = m.bx[b]?) ∧ (∀ r, r < m.rw.length → (false, r) ∉ tl → m'.rw[r]? = m.rw[r]?)
theorem Frame.same {tl l : List (Bool × Nat)} (h : Frame m tl m') (h1 : rangeOk m l = true) (h2 : apartB l tl = true) : SameAt l m m' := fun p hp => by
  have := rangeOk_mem h1 p hp
  have h3 := apartB_mem h2 p hp
  obtain ⟨t, x⟩ := p
  exact ⟨fun e => (by cases e; exact h.1 x (this.1 rfl) h3), fun e => (by cases e; exact h.2 x (this.2 rfl) h3)⟩
theorem Frame.refl (m : Mem τ) (tl : List (Bool × Nat)) : Frame m tl m := ⟨fun _ _ _ => rfl, fun _ _ _ => rfl⟩
theorem Frame.snocB (m : Mem τ) (tl : List (Bool × Nat)) (x : List (Option (TypeId × List (AV τ)))) : Frame m tl { m with bx := m.bx ++ x } := ⟨fun b hb _ => List.getElem?_append_left hb, fun _ _ _ => rfl⟩
theorem Frame.snocR (m : Mem τ) (tl : List (Bool × Nat)) (x : List (Option (Rw τ))) : Frame m tl { m with rw := m.rw ++ x } := ⟨fun _ _ _ => rfl, fun b hb _ => List.getElem?_append_left hb⟩
theorem Frame.setB (m : Mem τ) {tl : List (Bool × Nat)} {b : Nat} (x : Option (TypeId × List (AV τ))) (h : (true, b) ∈ tl) : Frame m tl { m with bx := m.bx.set b x } :=
  ⟨fun c _ hn => List.getElem?_set_ne (fun e => hn (by rw [← e]; exact h)), fun _ _ _ => rfl⟩
theorem Frame.setR (m : Mem τ) {tl : List (Bool × Nat)} {r : Nat} (x : Option (Rw τ)) (h : (false, r) ∈ tl) : Frame m tl { m with rw := m.rw.set r x } :=
  ⟨fun _ _ _ => rfl, fun c _ hn => List.getElem?_set_ne (fun e => hn (by rw [← e]; exact h))⟩
theorem noRows_frz {as : List (AV τ)} (h : noRows (refsDs as) = true) (s : St τ) : frzAll s as = s := by
  have key : ∀ (l : List (Bool × Nat)) (bs rs : List Nat), noRows l = true → (addRefs l bs rs).2 = rs := by
    intro l
    induction l with
    | nil => intros; rfl
    | cons p l ih =>
      intro bs rs h
      obtain ⟨t, x⟩ := p
      cases t with
      | true => exact ih _ _ (by simpa [noRows] using h)
      | false => simp [noRows] at h
  have app : ∀ (a b : List (Bool × Nat)), noRows (a ++ b) = (noRows a && noRows b) := by
    intro a
    induction a with
    | nil => intro b; simp [noRows]
    | cons p a ih => intro b; obtain ⟨t, x⟩ := p; cases t <;> simp [noRows, ih]
  have sub : (∀ a : AV τ, noRows (refsD a) = true → noRows (refsV s.m a) = true) := by
    intro a
    refine AV.rec (motive_1 := fun a => noRows (refsD a) = true → noRows (refsV s.m a) = true) (motive_2 := fun as => noRows (refsDs as) = true → noRows (refsL s.m as) = true) ?_ ?_ ?_ ?_ ?_ ?_ ?_ ?_ ?_ ?_ ?_ ?_ ?_ ?_ ?_ ?_ ?_ ?_ a
    all_goals intros
    all_goals first
      | (simp_all [refsD, refsV, noRows]; done)
      | (simp_all [refsD, refsV, refsDs, refsL, noRows, app]; done)
  have subs : ∀ as : List (AV τ), noRows (refsDs as) = true → noRows (refsL s.m as) = true := by
    intro as
    induction as with
    | nil => intro _; rfl
    | cons a as ih =>
      intro h
      unfold refsDs at h
      unfold refsL
      rw [app, Bool.and_eq_true] at h ⊢
      exact ⟨sub a h.1, ih h.2⟩
  unfold frzAll
  rw [key _ _ _ (subs as h)]; rfl
theorem refsDs_one (a : AV τ) : refsDs [a] = refsD a := by simp [refsDs]
theorem pairB_mem {b : Nat} : ∀ {bs : List Nat}, b ∈ bs → (true, b) ∈ pairB bs
  | c :: bs, h => by
    unfold pairB
    rcases List.mem_cons.1 h with rfl | h
    · exact List.mem_cons_self ..
    · exact List.mem_cons_of_mem _ (pairB_mem h)
theorem pairR_mem {b : Nat} : ∀ {bs : List Nat}, b ∈ bs → (false, b) ∈ pairR bs
  | c :: bs, h => by
    unfold pairR
    rcases List.mem_cons.1 h with rfl | h
    · exact List.mem_cons_self ..
    · exact List.mem_cons_of_mem _ (pairR_mem h)
theorem putBx_out {m : Mem τ} {bs0 rs : List Nat} {n : Nat} : ∀ {bs : List Nat} {xs l : List (Option (TypeId × List (AV τ)))} {b : Nat}, b ∉ bs → (putBx m bs0 rs n l bs xs)[b]? = l[b]?
  | [], xs, l, b, _ => by cases xs <;> simp [putBx]
  | c :: bs, [], l, b, _ => by simp [putBx]
  | c :: bs, some (t, vs) :: xs, l, b, h => by
    unfold putBx
    rw [putBx_out (fun hm => h (List.mem_cons_of_mem _ hm)), List.getElem?_set_ne (fun e => h (by rw [e]; exact List.mem_cons_self ..))]
  | c :: bs, none :: xs, l, b, h => by
    unfold putBx
    rw [putBx_out (fun hm => h (List.mem_cons_of_mem _ hm)), List.getElem?_set_ne (fun e => h (by rw [e]; exact List.mem_cons_self ..))]
theorem putR_out {m1 : List (Option (Rw τ))} {n : Nat} : ∀ {rs : List Nat} {i : Nat} {l : List (Option (Rw τ))} {r : Nat}, r ∉ rs → (putR m1 n i l rs)[r]? = l[r]?
  | [], i, l, r, _ => rfl
  | c :: rs, i, l, r, h => by
    unfold putR
    rw [putR_out (fun hm => h (List.mem_cons_of_mem _ hm)), List.getElem?_set_ne (fun e => h (by rw [e]; exact List.mem_cons_self ..))]
theorem merge_frame {bs rs : List Nat} {n : Nat} : Frame m (pairB bs ++ pairR rs) (mergeM m bs rs n m1) := by
  refine ⟨fun b hb hn => ?_, fun r hr hn => ?_⟩
  · simp only [mergeM]
    rw [List.getElem?_append_left (by rw [putBx_len]; exact hb)]
    exact putBx_out fun hm => hn (List.mem_append_left _ (pairB_mem hm))
  · simp only [mergeM]
    rw [List.getElem?_append_left (by rw [putR_len]; exact hr)]
    exact putR_out fun hm => hn (List.mem_append_right _ (pairR_mem hm))
/-- A write, carried out in a frame in which not all reads have come up. -/
theorem stepD_sound (hP : PQ P E.T E.by_) (hC : CtrOk P E.T E.pn C) {a b : Act} {o : Oper} {tl : List (Bool × Nat)} (htl : touchA E s o = some tl) {k : St τ → Option Unit} (h : stepA E C o s k = some ()) (hat : At E.T w0 η0 m0 nb w s b.tmps) (hab : execOp a.eval o = execOp b.eval o) {next : Act → World → Prop} {Q : Exit → Act → World → Prop}
    (hk : ∀ v m' z w', k (doneA o s v m') = some () → At E.T w0 η0 m0 nb w' (doneA o s v m') (b.put o.dst z).tmps → Frame s.m tl m' → next (a.put o.dst z) w') : o.wp P a w next Q := by
  unfold stepA at h
  unfold touchA at htl
  split at h
  · rename_i f xs hcal
    rw [hcal] at htl
    simp only at htl
    have run : ∀ lend, callS E.T C (E.shp f) (E.pers f) (E.pn f) lend f (evalsA s.tm xs) s.m (fun v m => k (doneA o s v m)) = some () → (∀ bs rs, handA s.m (E.pers f) lend (evalsA s.tm xs) = (bs, rs) → tl = pairB bs ++ pairR rs) → o.wp P a w next Q := by
      intro lend hcall htl
      obtain ⟨hen, av, m', h1, ⟨bs, rs, m1, h2, h3⟩, h4⟩ := callS_sound hC hcall
      have hfr : Frame s.m tl m' := by rw [htl bs rs h2, h3]; exact merge_frame
      -- the call, as in any frame
      have hwp : o.wp P b w (fun b' w' => ∃ z, b' = b.put o.dst z ∧ At E.T w0 η0 m0 nb w' (doneA o s av m') (b.put o.dst z).tmps) (fun _ _ _ => False) := call_wp hcal hat hat hen h4 (fun z w' h5 => ⟨z, rfl, h5⟩)
      unfold Oper.wp at hwp ⊢
      rw [hab]
      obtain ⟨fn, hf, hname, hb⟩ := hen
      obtain ⟨η, hat2⟩ := hat
      have hcal' := hcal
      unfold calleeA at hcal
      split at hcal
      case h_2 => cases hcal
      rename_i c hop
      split at hcal
      case h_2 => cases hcal
      rename_i fo hco
      split at hcal
      case h_2 => cases hcal
      rename_i g hg
      cases hcal
      have hfv : b.eval fo = .func (.func f) #[] #[] := by
        have h9 := hat2.tr.eval (ds := b.defers) fo
        rw [hg] at h9
        have key : ∀ u, VR E.T (Safe η s.m) w s.m η (.fn f) u → u = .func (.func f) #[] #[] := fun u hu => by cases hu; rfl
        exact key _ h9
      have h1n : fn.name ≠ "runtime.NumGoroutine" := by simpa using hname
      obtain ⟨code, hcode⟩ := Option.isSome_iff_exists.1 hb
      have hrun : (execOp b.eval o).run P w = .ok (.enter f (c.args.map b.eval)) w := by
        unfold execOp
        simp [hop, resolve, hco, hfv, Deferred.ofValue, invoke, callFunc, hf, h1n, hcode]
      rw [hrun, Oper.upon_enter] at hwp ⊢
      refine hwp.mono fun e w'' he => ?_
      cases e with
      | returned v =>
        obtain ⟨z, e1, e2⟩ := he
        refine hk av m' v w'' h1 ?_ hfr
        rw [show (b.put o.dst v).tmps = (b.put o.dst z).tmps by rw [e1]]
        exact e2
      | panicked ch => exact he.elim
      | outgrown => obtain ⟨_, _, h9⟩ := he; exact h9.elim
    split at h
    · rename_i he
      rw [he] at htl
      exact run true h (fun bs rs h2 => by simp only at htl; rw [h2] at htl; simp only at htl; exact (Option.some.inj htl).symm)
    · rename_i he
      rw [he] at htl
      exact run false h (fun bs rs h2 => by simp only at htl; rw [h2] at htl; simp only at htl; exact (Option.some.inj htl).symm)
    · rename_i h0 h1
      split at htl
      · rename_i e; exact absurd e (by simpa using h0)
      · rename_i e; exact absurd e (by simpa using h1)
      · cases htl
  · rename_i hcal
    rw [hcal] at htl
    simp only at htl
    split at h
    case h_2 => cases h
    rename_i cs v m' hop
    obtain ⟨hcs, hk'⟩ := condsA_some h
    have hpre : opPre E.T s o.op = s ∧ (∀ cs v m', opA E.T E.by_ s.tm s.m o.op = some (cs, v, m') → Frame s.m tl m') := by
      generalize o.op = op at htl
      cases op <;> simp only at htl <;> first | (cases htl; done) | skip
      case move x => cases htl; exact ⟨rfl, fun cs v m' h => by simp only [opA] at h; cases h; exact .refl _ _⟩
      case assign x => cases htl; exact ⟨rfl, fun cs v m' h => by simp only [opA] at h; cases h; exact .refl _ _⟩
      case alloc t =>
        cases htl
        refine ⟨rfl, fun cs v m' h => ?_⟩
        simp only [opA] at h
        have h := memOnly_some h
        unfold allocA at h
        repeat' (split at h <;> try (cases h; done))
        all_goals (cases h; exact .snocB _ _ _)
      case box t x =>
        cases htl
        refine ⟨rfl, fun cs v m' h => ?_⟩
        simp only [opA] at h
        have h := memOnly_some h
        unfold boxA at h
        split at h <;> cases h
        exact .snocB _ _ _
      case makeSlice t l c =>
        cases htl
        refine ⟨rfl, fun cs v m' h => ?_⟩
        simp only [opA] at h
        split at h
        case isFalse => cases h
        unfold makeSliceC at h
        split at h <;> try (cases h; done)
        split at h <;> try (cases h; done)
        split at h <;> try (cases h; done)
        split at h <;> cases h
        exact .snocR _ _ _
      case buildSlice t len parts =>
        cases hn : noRows (refsDs (parts.toList.map fun p => eA s.tm p.2)) with
        | false => rw [hn] at htl; cases htl
        | true =>
        rw [hn] at htl; cases htl
        refine ⟨noRows_frz hn s, fun cs v m' h => ?_⟩
        simp only [opA] at h
        have h := memOnly_some h
        unfold buildSliceA at h
        repeat' (split at h <;> try (cases h; done))
        all_goals (cases h; exact .snocR _ _ _)
      case store t a x =>
        refine ⟨?_, fun cs v m' h => ?_⟩
        · unfold opPre
          simp only
          split
          · rename_i r g i q he
            rw [he] at htl
            simp only at htl
            cases hn : noRows (refsD (eA s.tm x)) with
            | false => rw [hn] at htl; cases htl
            | true => exact noRows_frz (by rw [refsDs_one]; exact hn) s
          · rfl
        · simp only [opA] at h
          obtain ⟨h, rfl⟩ := storeOnly_some h
          generalize eA s.tm a = av at h htl
          unfold storeA at h
          split at h
          case h_2 => cases h
          split at h
          case isFalse => cases h
          cases av <;> simp only at h htl <;> try (cases h; done)
          case ptr b q =>
            cases htl
            split at h <;> try (cases h; done)
            split at h <;> cases h
            exact .setB _ _ (by simp)
          case optr r g i q =>
            cases hn : noRows (refsD (eA s.tm x)) with
            | false => rw [hn] at htl; cases htl
            | true =>
            rw [hn] at htl; cases htl
            repeat' (split at h <;> try (cases h; done))
            all_goals (cases h; exact .setR _ _ (by simp))
          case xptr b q n i =>
            cases htl
            repeat' (split at h <;> try (cases h; done))
            all_goals (cases h; exact .setB _ _ (by simp))
      case call c =>
        refine ⟨rfl, fun cs v m' h => ?_⟩
        simp only [opA] at h
        split at h
        case h_2 => cases h
        rename_i bi hb
        rw [hb] at htl
        generalize c.args.toList.map (eA s.tm) = as at h htl
        unfold builtinA at h
        split at h <;> (try simp only at htl) <;> try (first | (cases htl; done) | (cases h; done))
        rename_i t t' sv x _
        split at h
        case isFalse => cases h
        cases sv <;> simp only at htl <;> try (cases htl; done)
        · cases htl
          unfold appendC at h
          simp only at h
          repeat' (split at h <;> try (cases h; done))
          all_goals (cases h; exact .setR _ _ (by simp))
        · cases htl
          unfold appendC at h
          simp only at h
          repeat' (split at h <;> try (cases h; done))
          all_goals (cases h; exact .snocR _ _ _)
    rw [hpre.1] at hop hk'
    obtain ⟨η, hat⟩ := hat
    obtain ⟨n, z, w', η', h1, h2, h3, h4⟩ := opA_sound (ds := b.defers) hP hat.mr hat.tr hop hcs
    have hev : (⟨b.tmps, b.defers⟩ : Act) = b := by cases b; rfl
    rw [hev, ← hab] at h1
    unfold Oper.wp
    rw [h1]
    have := hk v m' z w' hk' (done_sound hat h3 h4 o) (hpre.2 _ _ _ hop)
    rcases h2 with rfl | ⟨rfl, rfl⟩
    · exact this
    · exact this
end
end Am
