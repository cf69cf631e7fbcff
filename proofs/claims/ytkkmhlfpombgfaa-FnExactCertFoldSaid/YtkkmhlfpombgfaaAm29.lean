/- The abstract machine, part 29: a function's run, and its contract. -/
import Derived.Test.YtkkmhlfpombgfaaAm28
set_option linter.unusedVariables false
set_option linter.unusedSectionVars false
set_option linter.unusedSimpArgs false
namespace Am
open Go
variable {τ : TypeId → Type}
def resA (T : Tab τ) (s : St τ) : List ResultVar → Option (List (AV τ))
  | [] => some []
  | .tmp t :: rs => match resA T s rs with
    | some vs => some (s.tm.getD t .bad :: vs)
    | none => none
  | .cell a t :: rs => match s.tm.getD a .bad with
    | .ptr b o => match loadA T s.m t (.ptr b o), resA T s rs with
      | some v, some vs => some (v :: vs)
      | _, _ => none
    | _ => none
def unds : Nat → List (AV τ)
  | 0 => []
  | n + 1 => .und :: unds n
def endA (E : Env τ) (v : AV τ) (m : Mem τ) (k : AV τ → Mem τ → Option Unit) : Option Unit :=
  k ((normA E.nb [0] ⟨[(prepR E.T E.res v m).1], (prepR E.T E.res v m).2⟩).tm.getD 0 .bad) (normA E.nb [0] ⟨[(prepR E.T E.res v m).1], (prepR E.T E.res v m).2⟩).m
def kEnd (E : Env τ) (fn : Func) (k : AV τ → Mem τ → Option Unit) : Kon τ := fun e s => match e with
  | .normal | .ret => match resA E.T s fn.results.toList with
    | some [v] => endA E v s.m k
    | some vs => endA E (.tup vs) s.m k
    | none => none
  | _ => none
/-- A function's run. -/
noncomputable def fnA (E : Env τ) (C : Ctr τ Unit) (dr : Drw τ) (fn : Func) (body : Code) (args : List (AV τ)) (m : Mem τ) (k : AV τ → Mem τ → Option Unit) : Option Unit :=
  codeA E C dr body (kEnd E fn k) ⟨args ++ unds (fn.ntmps - args.length), m⟩
section
variable {P : Program} {E : Env τ} {w w' w2 w0 : World} {m m' m2 m0 m1 : Mem τ} {η η' η2 η0 η1 : Eta} {tm : List (AV τ)} {S S' : Nat → Prop} {s : St τ} {ts : Array Value}
theorem resA_sound {T : Tab τ} (hP : PT P T) (hm : MR T w η s.m) (ht : TR T w s.m η s.tm ts) : ∀ (rs : List ResultVar) (vs : List (AV τ)), resA T s rs = some vs →
    ∃ us : List Value, (rs.mapM fun | .tmp t => pure (ts.getD t undef) | .cell a t => do loadVar t (← asAddr (ts.getD a undef)) : Sem (List Value)).run P w = .ok us w ∧ VRs T (Safe η s.m) w s.m η vs us
  | [], vs, h => by simp [resA] at h; subst h; exact ⟨[], by simp, ⟨rfl, fun i a c h => by simp at h⟩⟩
  | .tmp t :: rs, vs, h => by
    unfold resA at h
    split at h
    case h_2 => cases h
    rename_i vs' hvs
    cases h
    obtain ⟨us, h1, h2⟩ := resA_sound hP hm ht rs vs' hvs
    refine ⟨ts.getD t undef :: us, by rw [List.mapM_cons]; simp only [Sem.run_bind, Sem.run_pure, h1, Result.andThen_ok], by simp [h2.1], fun i a c ha hc => ?_⟩
    cases i with
    | zero => simp at ha hc; subst ha; subst hc; simpa using ht.at_ t
    | succ i => simp at ha hc; exact h2.2 i a c ha hc
  | .cell a t :: rs, vs, h => by
    unfold resA at h
    split at h
    case h_2 => cases h
    rename_i b o hb
    split at h
    case h_2 => cases h
    rename_i v vs' hv hvs
    cases h
    obtain ⟨us, h1, h2⟩ := resA_sound hP hm ht rs vs' hvs
    have hp := ht.at_ a
    rw [hb] at hp
    have e := hp.ptr_inv
    obtain ⟨z, h3, h4⟩ := loadA_ptr hP hm hv
    have h5 : (loadVar t ⟨η.b b, o, none⟩).run P w = .ok z w := by simpa [Instr.loadAt, Instr.sureAddr] using h3
    have h6 : (asAddr (ts.getD a undef)).run P w = .ok ⟨η.b b, o, none⟩ w := by rw [e]; rfl
    refine ⟨z :: us, by rw [List.mapM_cons]; simp only [Sem.run_bind, Sem.run_pure, h6, h1, h5, Result.andThen_ok], by simp [h2.1], fun i x c ha hc => ?_⟩
    cases i with
    | zero => simp at ha hc; subst ha; subst hc; exact h4
    | succ i => simp at ha hc; exact h2.2 i x c ha hc
theorem resA_run {T : Tab τ} (hP : PT P T) (hm : MR T w η s.m) (ht : TR T w s.m η s.tm ts) {fn : Func} {vs : List (AV τ)} (h : resA T s fn.results.toList = some vs) :
    ∃ us : List Value, VRs T (Safe η s.m) w s.m η vs us ∧ (results fn ts).run P w = .ok (match us with | [u] => u | us => .tuple us.toArray) w := by
  obtain ⟨us, h1, h2⟩ := resA_sound hP hm ht _ _ h
  refine ⟨us, h2, ?_⟩
  unfold results
  rw [Array.mapM_eq_mapM_toList]
  simp only [Sem.run_bind, Sem.run_map]
  erw [h1]
  simp only [Result.andThen_ok, Sem.run_pure]
  match us with
  | [] => rfl
  | [u] => rfl
  | u :: v :: us => rfl
theorem unds_at : ∀ (n i : Nat), (unds (τ := τ) n).getD i .bad = .bad ∨ (i < n ∧ (unds (τ := τ) n).getD i .bad = .und)
  | 0, i => .inl (by simp [unds])
  | n + 1, 0 => .inr ⟨by omega, rfl⟩
  | n + 1, i + 1 => by
    rcases unds_at n i with h | ⟨h1, h2⟩
    · left; simpa [unds] using h
    · right; exact ⟨by omega, by simpa [unds] using h2⟩
theorem unds_len : ∀ n : Nat, (unds (τ := τ) n).length = n
  | 0 => rfl
  | n + 1 => by simp [unds, unds_len n]
theorem endA_sound {v : AV τ} {k : AV τ → Mem τ → Option Unit} {z : Value} (h : endA E v s.m k = some ()) (hat : AtR E.T w0 η0 m0 E.nb w s ts η) (hv : VR E.T (Safe η s.m) w s.m η v z) (hnb : E.nb.b = m0.bx.length) :
    ∃ av m1 η1, k av m1 = some () ∧ CallR E.T E.nb.r w0 m0 η0 w m1 η1 ∧ VR E.T (Safe η1 m1) w m1 η1 av z := by
  obtain ⟨η2, st, v2, b2⟩ := prepR_sound (ps := E.res) hat.mr hv
  have h0 : At E.T w0 η0 m0 E.nb w ⟨[(prepR E.T E.res v s.m).1], (prepR E.T E.res v s.m).2⟩ #[z] := ⟨η2, At.prep (ts' := #[z]) hat st b2 ⟨by simp, fun i => by
    cases i with
    | zero => simpa using v2
    | succ i => simp; exact .bad _⟩⟩
  obtain ⟨η1, h1⟩ := normA_sound h0 [0]
  unfold endA at h
  refine ⟨_, _, η1, h, ⟨h1.mr, h1.safe, h1.agree, h1.x, h1.fx, fun b hb => h1.bk b (by rw [hnb]; exact hb), Nat.le_trans (Nat.le_of_eq hnb.symm) h1.bl, h1.rk⟩, ?_⟩
  have := h1.tr.at_ 0
  simpa using this
/-- A function's run is sound. -/
theorem fnA_sound (hP : PQ P E.T E.by_) {C : Ctr τ Unit} (hC : CtrOk P E.T E.pn C) {dr : Drw τ} (hdr : ∀ w0 η0 m0, DrOk P E w0 η0 m0 dr) {f : FuncId} {fn : Func} {body : Code} (hf : P.funcs[f]? = some fn) (hb : fn.body = some body)
    {args : List (AV τ)} {m : Mem τ} {k : AV τ → Mem τ → Option Unit} (hnb : E.nb.b = m.bx.length) (hnr : E.nb.r ≤ m.rw.length) (h : fnA E C dr fn body args m k = some ()) {η : Eta} {vs : Array Value} (hm : MR E.T w η m) (hv : VRs E.T (Safe η m) w m η args vs.toList) :
    Calls P f vs w (fun e w' => ∃ v η1 av m1, e = .returned v ∧ k av m1 = some () ∧ CallR E.T E.nb.r w m η w' m1 η1 ∧ VR E.T (Safe η1 m1) w' m1 η1 av v) := by
  have hlen : args.length = vs.size := by rw [hv.1, Array.length_toList]
  have hat : At E.T w η m E.nb w ⟨args ++ unds (fn.ntmps - args.length), m⟩ (vs ++ Array.replicate (fn.ntmps - vs.size) undef) := by
    refine ⟨η, hm, ⟨by simp [unds_len, hlen], fun i => ?_⟩, fun _ _ h => h, .refl _ _, rfl, fun _ _ => rfl, fun _ _ => rfl, by rw [hnb]; exact Nat.le_refl _, fun r hr x hx => ⟨x, hx, Nat.le_refl _, fun _ => ⟨rfl, rfl⟩⟩, hnr⟩
    rw [List.getD_eq_getElem?_getD, Array.getD_eq_getD_getElem?]
    rcases Nat.lt_or_ge i args.length with c | c
    · rw [List.getElem?_append_left c, Array.getElem?_append_left (by omega)]
      have h1 : vs.toList[i]? = some vs[i] := by simp
      rw [List.getElem?_eq_getElem c, Array.getElem?_eq_getElem (by omega)]
      exact hv.2 i _ _ (List.getElem?_eq_getElem c) h1
    · rw [List.getElem?_append_right c, Array.getElem?_append_right (by omega), ← hlen]
      have hu := unds_at (τ := τ) (fn.ntmps - args.length) (i - args.length)
      rw [List.getD_eq_getElem?_getD] at hu
      rcases hu with h1 | ⟨h1, h2⟩
      · rw [h1]; exact .bad _
      · rw [h2]
        have : (Array.replicate (fn.ntmps - args.length) undef)[i - args.length]? = some undef := by simp [Array.getElem?_replicate, h1]
        rw [this]; exact .und
  refine calls_of_wp hf hb (codeA_sound hP hC (hdr w η m) body _ _ _ w _ h hat (fun e s a' w' h1 h2 h3 => ?_))
  have fin : (match resA E.T s fn.results.toList with | some [v] => endA E v s.m k | some vs => endA E (.tup vs) s.m k | none => none) = some () →
      a'.defers = [] ∧ ∃ v, (results fn a'.tmps).run P w' = .ok v w' ∧ ∃ v2 η1 av m1, Ending.returned v = .returned v2 ∧ k av m1 = some () ∧ CallR E.T E.nb.r w m η w' m1 η1 ∧ VR E.T (Safe η1 m1) w' m1 η1 av v2 := by
    intro h4
    obtain ⟨η2, h5⟩ := h2
    refine ⟨h3, ?_⟩
    split at h4
    · rename_i v hres
      obtain ⟨us, h6, h7⟩ := resA_run hP.toPT h5.mr h5.tr hres
      match us, h6.1 with
      | [u], _ =>
        obtain ⟨av, m1, η1, a1, a2, a3⟩ := endA_sound h4 h5 (h6.2 0 v u rfl rfl) hnb
        exact ⟨u, h7, u, η1, av, m1, rfl, a1, a2, a3⟩
    · rename_i vs' hne hres
      obtain ⟨us, h6, h7⟩ := resA_run hP.toPT h5.mr h5.tr hres
      have hnot : ∀ u, us ≠ [u] := fun u e => by
        subst e
        have hl := h6.1
        match vs', hl with
        | [v], _ => exact hne v rfl
      obtain ⟨av, m1, η1, a1, a2, a3⟩ := endA_sound (z := .tuple us.toArray) h4 h5 (.tup vs' us h6.1 h6.2) hnb
      refine ⟨.tuple us.toArray, ?_, _, η1, av, m1, rfl, a1, a2, a3⟩
      rw [h7]
      match us with
      | [] => rfl
      | [u] => exact absurd rfl (hnot u)
      | u :: v :: us => rfl
    · cases h4
  cases e <;> first | exact fin h1 | cases h1
end
/-- What a call does, told as data. -/
def ToldA (P : Program) (T : Tab τ) (n : Nat) (f : FuncId) (args : List (AV τ)) (m : Mem τ) (av : AV τ) (m1 : Mem τ) : Prop :=
  Enters P f ∧ ∀ (w : World) (η : Eta) (vs : Array Value), MR T w η m → VRs T (Safe η m) w m η args vs.toList →
    Calls P f vs w (fun e w' => ∃ v η1, e = .returned v ∧ CallR T n w m η w' m1 η1 ∧ VR T (Safe η1 m1) w' m1 η1 av v)
section
variable {P : Program} {E : Env τ}
open Classical in
/-- The run goes on with av and m1 whatever follows: so the call leaves these. -/
theorem told_of_run (hP : PQ P E.T E.by_) {C : Ctr τ Unit} (hC : CtrOk P E.T E.pn C) {dr : Drw τ} (hdr : ∀ w0 η0 m0, DrOk P E w0 η0 m0 dr) {f : FuncId} {fn : Func} {body : Code} (hf : P.funcs[f]? = some fn) (hb : fn.body = some body) (hname : (fn.name == "runtime.NumGoroutine") = false)
    {args : List (AV τ)} {m : Mem τ} (hnb : E.nb.b = m.bx.length) (hnr : E.nb.r ≤ m.rw.length) {av : AV τ} {m1 : Mem τ} (h : ∀ k : AV τ → Mem τ → Option Unit, k av m1 = some () → fnA E C dr fn body args m k = some ()) : ToldA P E.T E.nb.r f args m av m1 := by
  refine ⟨⟨fn, hf, hname, by rw [hb]; rfl⟩, fun w η vs hm hv => ?_⟩
  have hrun := h (fun a b => if a = av ∧ b = m1 then some () else none) (by simp)
  refine (fnA_sound hP hC hdr hf hb hnb hnr hrun hm hv).mono fun e w' he => ?_
  obtain ⟨v, η1, a, b, h1, h2, h3, h4⟩ := he
  split at h2
  · rename_i hab
    obtain ⟨rfl, rfl⟩ := hab
    exact ⟨v, η1, h1, h3, h4⟩
  · cases h2
/-- Contracts: none at first, then one more. -/
def ctr0 : Ctr τ Unit := fun _ _ _ _ => none
def ctrS (f : FuncId) (c : List (AV τ) → Mem τ → (AV τ → Mem τ → Option Unit) → Option Unit) (C : Ctr τ Unit) : Ctr τ Unit := fun g args m k => cond (Nat.beq g f) (c args m k) (C g args m k)
open Classical in
/-- A call told by a function of numbers and lists: there are rounds enough, and what follows holds of what comes out. -/
noncomputable def callX {ρ : Type} (p : Nat → Option ρ) (q : ρ → Option Unit) : Option Unit := if ∃ n t, p n = some t ∧ q t = some () then some () else none
theorem callX_some {ρ : Type} {p : Nat → Option ρ} {q : ρ → Option Unit} (h : callX p q = some ()) : ∃ n t, p n = some t ∧ q t = some () := by
  unfold callX at h
  split at h
  · assumption
  · cases h
theorem callX_of {ρ : Type} {p : Nat → Option ρ} {q : ρ → Option Unit} {n : Nat} {t : ρ} (h1 : p n = some t) (h2 : q t = some ()) : callX p q = some () := by
  unfold callX; rw [if_pos ⟨n, t, h1, h2⟩]
theorem ctr0_ok {T : Tab τ} {pn : FuncId → Nat} : CtrOk P T pn (ctr0 : Ctr τ Unit) := fun f args m k r h => by cases h
theorem ctr0_mono : CtrMono (ctr0 : Ctr τ Unit) := fun f args m k k' _ h => by cases h
theorem ctrS_ok {T : Tab τ} {pn : FuncId → Nat} {f : FuncId} {c : List (AV τ) → Mem τ → (AV τ → Mem τ → Option Unit) → Option Unit} {C : Ctr τ Unit} (hC : CtrOk P T pn C) (h : ∀ args m k, c args m k = some () → ∃ av m1, k av m1 = some () ∧ ToldA P T (pn f) f args m av m1) : CtrOk P T pn (ctrS f c C) := fun g args m k r hr => by
  unfold ctrS at hr
  cases hb : Nat.beq g f with
  | false => rw [hb] at hr; exact hC g args m k r hr
  | true =>
    rw [hb] at hr
    have := Nat.eq_of_beq_eq_true hb
    subst this
    obtain ⟨av, m1, h1, h2, h3⟩ := h args m k hr
    exact ⟨h2, av, m1, h1, h3⟩
theorem ctrS_mono {f : FuncId} {c : List (AV τ) → Mem τ → (AV τ → Mem τ → Option Unit) → Option Unit} {C : Ctr τ Unit} (hC : CtrMono C) (h : ∀ args m (k k' : AV τ → Mem τ → Option Unit), (∀ av m, k av m = some () → k' av m = some ()) → c args m k = some () → c args m k' = some ()) : CtrMono (ctrS f c C) := fun g args m k k' hk hr => by
  unfold ctrS at hr ⊢
  exact cond_mono (h args m k k' hk) (hC g args m k k' hk) hr
end
end Am
