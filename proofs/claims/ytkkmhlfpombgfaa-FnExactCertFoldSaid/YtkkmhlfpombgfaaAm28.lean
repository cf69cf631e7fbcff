/- The abstract machine, part 28: code. -/
import Derived.Test.YtkkmhlfpombgfaaAm27
set_option linter.unusedVariables false
set_option linter.unusedSectionVars false
set_option linter.unusedSimpArgs false
namespace Am
open Go
variable {τ : TypeId → Type}
/-- The number of the first region. -/
def firstReg : Code → Option Nat
  | .region id _ _ => some id
  | .seq a _ => firstReg a
  | .block _ b => firstReg b
  | .loop b => firstReg b
  | _ => none
def raiseT (T : Tab τ) : List (Nat × PS) → St τ → St τ
  | [], s => s
  | (t, p) :: ks, s => match prepA T p (s.tm.getD t .bad) s.m with
    | (a, m) => raiseT T ks ⟨s.tm.set t a, m⟩
def ownShp : LT → Shp
  | .sl e => .own e
  | _ => .any
/-- Slices that are nothing, in variables: rows of one's own. -/
def raiseB (T : Tab τ) : Nat → Nat → Mem τ → Mem τ
  | 0, _, m => m
  | n + 1, b, m => match m.bx[b]? with
    | some (some (t, vs)) => match T t with
      | some ti => match prepL T (ti.lts.map ownShp) vs m with
        | (vs', m') => raiseB T n (b + 1) { m' with bx := m'.bx.set b (some (t, vs')) }
      | none => raiseB T n (b + 1) m
    | _ => raiseB T n (b + 1) m
def keys : List (Nat × PS) → List Nat
  | [] => []
  | (t, _) :: ks => t :: keys ks
def nrmA (E : Env τ) (c : Code) (s : St τ) : St τ :=
  match firstReg c with
  | some id => match E.keep id with
    | some ks => normA E.nb (keys ks) ⟨(raiseT E.T ks s).tm, raiseB E.T (raiseT E.T ks s).m.bx.length 0 (raiseT E.T ks s).m⟩
    | none => s
  | none => s
abbrev Kon (τ : TypeId → Type) := Exit → St τ → Option Unit
abbrev Drw (τ : TypeId → Type) := Array Oper → St τ → (St τ → Option Unit) → Option Unit
def kSeq (f : St τ → Option Unit) (K : Kon τ) : Kon τ := fun e s => match e with
  | .normal => f s
  | e => K e s
def kBlock (id : Nat) (K : Kon τ) : Kon τ := fun e s => match e with
  | .exit i => cond (Nat.beq i id) (K .normal s) (K (.exit i) s)
  | e => K e s
open Classical in
/-- The least that is closed under a round. -/
noncomputable def lfpA (G : (St τ → Option Unit) → St τ → Option Unit) (s : St τ) : Option Unit := if ∀ F : St τ → Option Unit, (∀ s, G F s = some () → F s = some ()) → F s = some () then some () else none
noncomputable def loopA (E : Env τ) (body : Kon τ → St τ → Option Unit) (b : Code) (K : Kon τ) (s : St τ) : Option Unit := lfpA (fun F => body (kSeq (fun s' => F (nrmA E b s')) K)) s
noncomputable def codeA (E : Env τ) (C : Ctr τ Unit) (dr : Drw τ) (c : Code) : Kon τ → St τ → Option Unit :=
  Code.rec (motive := fun _ => Kon τ → St τ → Option Unit)
    (fun K s => K .normal s)
    (fun _ ops draw K s => match draw with
      | true => dr ops s (K .normal)
      | false => opsA E C ops ops.toList s (K .normal))
    (fun _ b iha ihb K s => iha (kSeq (fun s' => ihb K (nrmA E b s')) K) s)
    (fun c _ _ ihx ihy K s => match eA s.tm c with
      | .bool v => brA v (ihx K s) (ihy K s)
      | _ => none)
    (fun id _ ih K s => ih (kBlock id K) s)
    (fun b ih K s => loopA E ih b K (nrmA E b s))
    (fun _ _ _ _ _ _ _ _ => none)
    (fun id K s => K (.exit id) s)
    (fun _ _ _ _ => none)
    (fun _ _ _ => none)
    (fun _ _ _ => none)
    (fun K s => K .ret s)
    (fun _ _ _ => none) c
/-- What follows behind the first of two; what follows behind a round. -/
noncomputable def kS (E : Env τ) (C : Ctr τ Unit) (dr : Drw τ) (b : Code) (K : Kon τ) : Kon τ := kSeq (fun s' => codeA E C dr b K (nrmA E b s')) K
noncomputable def kL (E : Env τ) (C : Ctr τ Unit) (dr : Drw τ) (b : Code) (K : Kon τ) : Kon τ := kSeq (fun s' => loopA E (codeA E C dr b) b K (nrmA E b s')) K
section
variable {P : Program} {E : Env τ} {C : Ctr τ Unit} {dr : Drw τ} {w w' w2 w0 : World} {m m' m2 m0 m1 : Mem τ} {η η' η2 η0 η1 : Eta} {tm : List (AV τ)} {S S' : Nat → Prop} {s : St τ} {ts : Array Value}
theorem At.prep {T : Tab τ} {nb : NB} {η : Eta} (h : AtR T w0 η0 m0 nb w s ts η) {m' : Mem τ} {η' : Eta} (k : Step T w s.m η w m' η') (hb : η'.b = η.b) {tm' : List (AV τ)} {ts' : Array Value} (ht : TR T w m' η' tm' ts') : AtR T w0 η0 m0 nb w ⟨tm', m'⟩ ts' η' :=
  ⟨k.mr, ht, fun b h1 h2 => k.safe b (Nat.lt_of_lt_of_le h1 h.agree.size) (h.safe b h1 h2), h.agree, k.x.trans h.x, h.fx, fun b h1 => by rw [hb]; exact h.bk b h1, Nat.le_trans h.bl k.later.bl, fun r hr x' hx' => by
    obtain ⟨y, e1, e2, e3⟩ := k.later.r r (Nat.lt_of_lt_of_le hr h.rl) x' hx'
    obtain ⟨x, a1, a2, a3⟩ := h.rk r hr y e1
    refine ⟨x, a1, Nat.le_trans a2 e2, fun e => ?_⟩
    obtain ⟨b1, b2⟩ := e3 (by omega)
    obtain ⟨c1, c2⟩ := a3 (by omega)
    exact ⟨b1.trans c1, b2.trans c2⟩, Nat.le_trans h.rl k.later.rl⟩
theorem raiseT_sound {T : Tab τ} {nb : NB} : ∀ (ks : List (Nat × PS)) {s : St τ}, At T w0 η0 m0 nb w s ts → At T w0 η0 m0 nb w (raiseT T ks s) ts
  | [], s, h => h
  | (t, p) :: ks, s, h => by
    unfold raiseT
    obtain ⟨η, h⟩ := h
    obtain ⟨η', h1, h2, h3⟩ := prepA_sound (p := p) h.mr (h.tr.at_ t)
    refine raiseT_sound ks ⟨η', At.prep h h1 h3 ?_⟩
    have h4 := (h.tr.next h1).put t h2
    have e : ts.setIfInBounds t (ts.getD t undef) = ts := by
      apply Array.ext_getElem?
      intro i
      rw [Array.getElem?_setIfInBounds]
      split
      · rename_i hti; subst hti
        split
        · rename_i hlt; simp [hlt]
        · rename_i hlt; rw [Array.getElem?_eq_none (by omega)]
      · rfl
    rw [e] at h4
    exact h4
/-- A variable's cells, told in other words. -/
theorem MR.reword {T : Tab τ} (h : MR T w η m) {b : Nat} {t : TypeId} {vs vs' : List (AV τ)} (hb : m.bx[b]? = some (some (t, vs))) (hv : ∀ cs, w.heap[η.b b]? = some (.cells cs.toArray t (0, 0)) → VRs T (Safe η m) w m η vs cs → VRs T (Safe η m) w m η vs' cs) :
    Step T w m η w { m with bx := m.bx.set b (some (t, vs')) } η := by
  have live : ∀ (b' : Nat) (x : TypeId × List (AV τ)), (m.bx.set b (some (t, vs')))[b']? = some (some x) → ∃ x' : TypeId × List (AV τ), m.bx[b']? = some (some x') := by
    intro b' x hx
    rcases getElem?_set' hx with ⟨rfl, _, _⟩ | ⟨_, hx⟩
    · exact ⟨_, hb⟩
    · exact ⟨x, hx⟩
  have hsafe : ∀ k, k < w.heap.size → Safe η m k → Safe η { m with bx := m.bx.set b (some (t, vs')) } k := by
    rintro k _ hs ((⟨b', x, hx, e⟩ | hr) | hx)
    · obtain ⟨x', hx'⟩ := live b' x hx; exact hs (.inl (.inl ⟨b', x', hx', e⟩))
    · exact hs (.inl (.inr hr))
    · exact hs (.inr hx)
  have hlat : Later m η { m with bx := m.bx.set b (some (t, vs')) } η := .of_rw (by simp) rfl
  refine ⟨h.next hlat hsafe (.refl _ _) (fun b' t' us hb' => ?_) (fun r x hr => .inl ⟨some_lt hr, hr, rfl, fun _ _ => rfl⟩) ?_ ?_ h.rr rfl (fun b' x' hb' => ?_) h.xr, hlat, hsafe, .refl _ _, rfl, fun _ _ => rfl⟩
  · rcases getElem?_set' hb' with ⟨rfl, he, _⟩ | ⟨hne, hb'⟩
    · cases he
      obtain ⟨cs, hc, hcv⟩ := h.bx b t vs hb
      exact .inr ⟨cs, hc, (hv cs hc hcv).next hlat hsafe (.refl _ _)⟩
    · exact .inl ⟨some_lt hb', hb', rfl⟩
  · intro b1 b2 x1 x2 h1 h2 e
    obtain ⟨y1, hy1⟩ := live b1 x1 h1
    obtain ⟨y2, hy2⟩ := live b2 x2 h2
    exact h.bb b1 b2 _ _ hy1 hy2 e
  · intro b1 r x y h1 h2
    obtain ⟨y1, hy1⟩ := live b1 x h1
    exact h.br b1 r _ _ hy1 h2
  · obtain ⟨y, hy⟩ := live b' x' hb'; exact h.xb b' _ hy
theorem prep1_bx (T : Tab τ) (s : Shp) (a : AV τ) (m : Mem τ) : (prep1 T s a m).2.bx = m.bx := by
  unfold prep1
  split
  · split <;> rfl
  · split <;> rfl
  · rfl
theorem prepL_bx (T : Tab τ) : ∀ (ss : List Shp) (as : List (AV τ)) (m : Mem τ), (prepL T ss as m).2.bx = m.bx
  | [], as, m => by cases as <;> rfl
  | s :: ss, [], m => rfl
  | s :: ss, a :: as, m => by
    show (prepL T ss as (prep1 T s a m).2).2.bx = m.bx
    rw [prepL_bx T ss as, prep1_bx]
theorem raiseB_sound {T : Tab τ} {nb : NB} {tm : List (AV τ)} : ∀ (n b : Nat) {m : Mem τ}, At T w0 η0 m0 nb w ⟨tm, m⟩ ts → At T w0 η0 m0 nb w ⟨tm, raiseB T n b m⟩ ts
  | 0, b, m, h => h
  | n + 1, b, m, h => by
    unfold raiseB
    split
    · rename_i t vs hb
      split
      · rename_i ti hT
        obtain ⟨η, h⟩ := h
        obtain ⟨cs, hc, hv⟩ := h.mr.bx b t vs hb
        obtain ⟨η', h1, h2, h3⟩ := prepL_sound (ti.lts.map ownShp) vs cs m η h.mr hv
        have hb' : (prepL T (ti.lts.map ownShp) vs m).2.bx[b]? = some (some (t, vs)) := by rw [prepL_bx]; exact hb
        have h4 := h1.mr.reword (vs' := (prepL T (ti.lts.map ownShp) vs m).1) hb' (fun cs' hc' _ => by
          rw [h3] at hc'
          rw [hc] at hc'
          injection hc' with hc'; injection hc' with hc'
          have : cs = cs' := by simpa using hc'
          rw [← this]; exact h2)
        refine raiseB_sound n (b + 1) ⟨η', ?_⟩
        exact At.prep h (h1.trans h4) h3 ((h.tr.next h1).next h4)
      · exact raiseB_sound n (b + 1) h
    · exact raiseB_sound n (b + 1) h
theorem nrmA_sound (h : At E.T w0 η0 m0 E.nb w s ts) (c : Code) : At E.T w0 η0 m0 E.nb w (nrmA E c s) ts := by
  unfold nrmA
  split
  · split
    · exact normA_sound (raiseB_sound _ _ (raiseT_sound _ h)) _
    · exact h
  · exact h
theorem kSeq_mono {f f' : St τ → Option Unit} {K K' : Kon τ} (hf : ∀ s, f s = some () → f' s = some ()) (hK : ∀ e s, K e s = some () → K' e s = some ()) : ∀ e s, kSeq f K e s = some () → kSeq f' K' e s = some () := by
  intro e s h
  cases e <;> first | exact hf _ h | exact hK _ _ h
theorem kBlock_mono {id : Nat} {K K' : Kon τ} (hK : ∀ e s, K e s = some () → K' e s = some ()) : ∀ e s, kBlock id K e s = some () → kBlock id K' e s = some () := by
  intro e s h
  cases e <;> first | exact hK _ _ h | exact cond_mono (hK _ _) (hK _ _) h
theorem lfpA_mono {G G' : (St τ → Option Unit) → St τ → Option Unit} (h : ∀ F s, G F s = some () → G' F s = some ()) {s : St τ} (hs : lfpA G s = some ()) : lfpA G' s = some () := by
  unfold lfpA at hs ⊢
  split at hs
  · rename_i h1
    rw [if_pos fun F hF => h1 F fun s hs => hF s (h F s hs)]
  · cases hs
theorem lfpA_fold {G : (St τ → Option Unit) → St τ → Option Unit} (hG : ∀ F F' : St τ → Option Unit, (∀ s, F s = some () → F' s = some ()) → ∀ s, G F s = some () → G F' s = some ()) {s : St τ} (h : G (lfpA G) s = some ()) : lfpA G s = some () := by
  unfold lfpA
  rw [if_pos]
  intro F hF
  refine hF s (hG _ F (fun s hs => ?_) s h)
  unfold lfpA at hs
  split at hs
  · rename_i h1; exact h1 F hF
  · cases hs
def DrMono (dr : Drw τ) : Prop := ∀ ops s (k k' : St τ → Option Unit), (∀ s, k s = some () → k' s = some ()) → dr ops s k = some () → dr ops s k' = some ()
theorem codeA_mono (hC : CtrMono C) (hdr : DrMono dr) : ∀ (c : Code) (K K' : Kon τ) (s : St τ), (∀ e s, K e s = some () → K' e s = some ()) → codeA E C dr c K s = some () → codeA E C dr c K' s = some () := by
  intro c
  induction c with
  | skip => intro K K' s hK h; exact hK _ _ h
  | region id ops draw =>
    intro K K' s hK h
    cases draw with
    | true => exact hdr _ _ _ _ (fun s => hK _ s) h
    | false => exact opsA_mono hC _ (fun s => hK _ s) h
  | seq x y ihx ihy => intro K K' s hK h; exact ihx _ _ s (kSeq_mono (fun s => ihy _ _ _ hK) hK) h
  | cond c x y ihx ihy =>
    intro K K' s hK h
    show (match eA s.tm c with | .bool v => brA v (codeA E C dr x K' s) (codeA E C dr y K' s) | _ => none) = some ()
    replace h : (match eA s.tm c with | .bool v => brA v (codeA E C dr x K s) (codeA E C dr y K s) | _ => none) = some () := h
    split at h
    · exact brA_mono (ihx _ _ _ hK) (ihy _ _ _ hK) h
    · cases h
  | block id b ih => intro K K' s hK h; exact ih _ _ s (kBlock_mono hK) h
  | loop b ih => intro K K' s hK h; exact lfpA_mono (fun F s => ih _ _ _ (kSeq_mono (fun _ h => h) hK)) h
  | exit id => intro K K' s hK h; exact hK _ _ h
  | ret => intro K K' s hK h; exact hK _ _ h
  | rangeFunc => intro K K' s hK h; cases h
  | scope => intro K K' s hK h; cases h
  | label => intro K K' s hK h; cases h
  | goto => intro K K' s hK h; cases h
  | refuse => intro K K' s hK h; cases h
/-- One round of a loop. -/
theorem loop_fold (hC : CtrMono C) (hdr : DrMono dr) {b : Code} {K : Kon τ} (h : codeA E C dr b (kL E C dr b K) s = some ()) : loopA E (codeA E C dr b) b K s = some () :=
  lfpA_fold (G := fun F => codeA E C dr b (kSeq (fun s' => F (nrmA E b s')) K)) (fun F F' hF s => codeA_mono hC hdr b _ _ s (kSeq_mono (fun s => hF _) (fun _ _ h => h))) h
/-- What is asked behind code: of each way out that the machine has. -/
def Kok (E : Env τ) (w0 : World) (η0 : Eta) (m0 : Mem τ) (ds : List Deferred) (K : Kon τ) (Q : Exit → Act → World → Prop) : Prop :=
  ∀ e s a w, K e s = some () → At E.T w0 η0 m0 E.nb w s a.tmps → a.defers = ds → Q e a w
def DrOk (P : Program) (E : Env τ) (w0 : World) (η0 : Eta) (m0 : Mem τ) (dr : Drw τ) : Prop :=
  ∀ ops id s k a w (Q : Exit → Act → World → Prop), dr ops s k = some () → At E.T w0 η0 m0 E.nb w s a.tmps →
    (∀ s' a' w', k s' = some () → At E.T w0 η0 m0 E.nb w' s' a'.tmps → a'.defers = a.defers → Q .normal a' w') → (Code.region id ops true).wp P Q a w
/-- In the midst of a loop. -/
def wpL (P : Program) (b : Code) (Q : Exit → Act → World → Prop) (a : Act) (w : World) : Prop := ∀ (fr : Frame) (k : List Item) (cs : List Frame), ∃ e a' w', Q e a' w' ∧ Arrives P (lone (fr.at a (.code b :: .inLoop b :: k)) cs w) fr k cs e a' w'
theorem wpL_round {b : Code} {Q : Exit → Act → World → Prop} {a : Act} {w : World} (h : b.wp P (Exit.then (wpL P b Q) Q) a w) : wpL P b Q a w := by
  intro fr k cs
  obtain ⟨e, a₁, w₁, hq, harr⟩ := h fr (.inLoop b :: k) cs
  cases e with
  | normal =>
    obtain ⟨e₂, a₂, w₂, hq₂, harr₂⟩ := hq fr k cs
    exact ⟨e₂, a₂, w₂, hq₂, .of_steps (Steps.trans harr (.one step_inLoop)) harr₂⟩
  | exit id => exact ⟨_, a₁, w₁, hq, .pass (x := .inLoop b) rfl (fun _ _ => .inl (by simp)) harr⟩
  | goto l => exact ⟨_, a₁, w₁, hq, .pass (x := .inLoop b) rfl (fun _ _ => .inl (by simp)) harr⟩
  | ret => exact ⟨_, a₁, w₁, hq, .pass (x := .inLoop b) rfl (fun _ _ => .inl (by simp)) harr⟩
  | panic ch => exact ⟨_, a₁, w₁, hq, .pass (x := .inLoop b) rfl (fun _ _ => .inl (by simp)) harr⟩
  | outgrown => exact ⟨_, a₁, w₁, hq, .pass (x := .inLoop b) rfl (fun _ _ => .inl (by simp)) harr⟩
theorem wp_of_wpL {b : Code} {Q : Exit → Act → World → Prop} {a : Act} {w : World} (h : wpL P b Q a w) : (Code.loop b).wp P Q a w := by
  intro fr k cs
  obtain ⟨e, a', w', hq, harr⟩ := h fr k cs
  exact ⟨e, a', w', hq, .of_steps (.one step_loop) harr⟩
theorem codeA_sound (hP : PQ P E.T E.by_) (hC : CtrOk P E.T E.pn C) (hdr : DrOk P E w0 η0 m0 dr) :
    ∀ (c : Code) (K : Kon τ) (s : St τ) (a : Act) (w : World) (Q : Exit → Act → World → Prop), codeA E C dr c K s = some () → At E.T w0 η0 m0 E.nb w s a.tmps → Kok E w0 η0 m0 a.defers K Q → c.wp P Q a w := by
  intro c
  induction c with
  | skip => intro K s a w Q h hat hK; exact wp_skip (hK _ _ _ _ h hat rfl)
  | region id ops draw =>
    intro K s a w Q h hat hK
    cases draw with
    | true => exact hdr ops id s _ a w Q h hat (fun s' a' w' h1 h2 h3 => hK _ _ _ _ h1 h2 h3)
    | false => exact wp_region_list (opsA_sound hP hC _ _ _ _ _ h hat (fun s' a' w' h1 h2 h3 => hK _ _ _ _ h1 h2 h3))
  | seq x y ihx ihy =>
    intro K s a w Q h hat hK
    refine wp_seq (ihx _ s a w _ h hat (fun e s' a' w' h1 h2 h3 => ?_))
    cases e <;> first
      | exact ihy K _ a' w' Q h1 (nrmA_sound h2 y) (by rw [h3]; exact hK)
      | exact hK _ _ _ _ h1 h2 h3
  | cond c x y ihx ihy =>
    intro K s a w Q h hat hK
    replace h : (match eA s.tm c with | .bool v => brA v (codeA E C dr x K s) (codeA E C dr y K s) | _ => none) = some () := h
    split at h
    · rename_i v hv
      have hc : a.eval c = .bool v := by
        obtain ⟨η, hat⟩ := hat
        have := hat.tr.eval (ds := a.defers) c
        rw [hv] at this
        exact this.bool_inv
      refine wp_cond hc ?_
      cases v with
      | true => exact ihx K s a w Q h hat hK
      | false => exact ihy K s a w Q h hat hK
    · cases h
  | block id b ih =>
    intro K s a w Q h hat hK
    refine wp_block (ih _ s a w _ h hat (fun e s' a' w' h1 h2 h3 => ?_))
    cases e <;> simp only [kBlock] at h1 <;> first
      | (rename_i i
         show (if i = id then Q .normal a' w' else Q (.exit i) a' w')
         cases hb : Nat.beq i id with
         | true => rw [hb] at h1; rw [if_pos (Nat.eq_of_beq_eq_true hb)]; exact hK _ _ _ _ h1 h2 h3
         | false => rw [hb] at h1; rw [if_neg (fun e => by subst e; rw [Nat.beq_refl] at hb; cases hb)]; exact hK _ _ _ _ h1 h2 h3)
      | exact hK _ _ _ _ h1 h2 h3
  | loop b ih =>
    intro K s a w Q h hat hK
    refine wp_of_wpL ?_
    replace h : lfpA (fun F => codeA E C dr b (kSeq (fun s' => F (nrmA E b s')) K)) (nrmA E b s) = some () := h
    unfold lfpA at h
    split at h
    case isFalse => cases h
    rename_i hall
    classical
    have := hall (fun s => if ∀ (a' : Act) (w' : World), At E.T w0 η0 m0 E.nb w' s a'.tmps → a'.defers = a.defers → wpL P b Q a' w' then some () else none) (fun s' hs' => ?_)
    · by_cases hc : ∀ (a' : Act) (w' : World), At E.T w0 η0 m0 E.nb w' (nrmA E b s) a'.tmps → a'.defers = a.defers → wpL P b Q a' w'
      · exact hc a w (nrmA_sound hat b) rfl
      · rw [if_neg hc] at this; cases this
    · rw [if_pos]
      intro a' w' hat' hd
      refine wpL_round (ih _ s' a' w' _ hs' hat' (fun e s2 a2 w2 h1 h2 h3 => ?_))
      cases e <;> first
        | (replace h1 : (if ∀ (a' : Act) (w' : World), At E.T w0 η0 m0 E.nb w' (nrmA E b s2) a'.tmps → a'.defers = a.defers → wpL P b Q a' w' then some () else none) = some () := h1
           split at h1
           · rename_i hc; exact hc a2 w2 (nrmA_sound h2 b) (h3.trans hd)
           · cases h1)
        | exact hK _ _ _ _ h1 h2 (h3.trans hd)
  | exit id => intro K s a w Q h hat hK; exact wp_exit (hK _ _ _ _ h hat rfl)
  | ret => intro K s a w Q h hat hK; exact wp_ret (hK _ _ _ _ h hat rfl)
  | rangeFunc => intro K s a w Q h; cases h
  | scope => intro K s a w Q h; cases h
  | label => intro K s a w Q h; cases h
  | goto => intro K s a w Q h; cases h
  | refuse => intro K s a w Q h; cases h
end
end Am
