/- The abstract machine, part 44: a run in pieces; what is known of blocks. -/
import Derived.Test.YtkkmhlfpombgfaaAm40
set_option linter.unusedVariables false
set_option linter.unusedSectionVars false
set_option linter.unusedSimpArgs false
namespace Am
open Go
variable {τ : TypeId → Type}
/-- Code behind its first pieces. -/
def dropC : Nat → Code → Code
  | 0, c => c
  | n + 1, .seq _ b => dropC n b
  | _ + 1, c => c
/-- The first pieces of code, then kn. -/
noncomputable def codeT (E : Env τ) (C : Ctr τ Unit) (dr : Drw τ) : Nat → Code → (St τ → Option Unit) → Kon τ → St τ → Option Unit
  | 0, _, kn, _, s => kn s
  | n + 1, .seq a b, kn, K, s => codeA E C dr a (kSeq (fun s' => codeT E C dr n b kn K (nrmA E b s')) K) s
  | _ + 1, _, _, _, _ => none
theorem codeT_sound {P : Program} {E : Env τ} {C : Ctr τ Unit} {dr : Drw τ} {w0 : World} {η0 : Eta} {m0 : Mem τ} (hP : PQ P E.T E.by_) (hC : CtrOk P E.T E.pn C) (hdr : DrOk P E w0 η0 m0 dr) {Q : Exit → Act → World → Prop} {ds : List Deferred} {K : Kon τ} {kn : St τ → Option Unit} (hK : Kok E w0 η0 m0 ds K Q) :
    ∀ (n : Nat) (c : Code) (s : St τ) (a : Act) (w : World), codeT E C dr n c kn K s = some () → At E.T w0 η0 m0 E.nb w s a.tmps → a.defers = ds →
    (∀ s' a' w', kn s' = some () → At E.T w0 η0 m0 E.nb w' s' a'.tmps → a'.defers = ds → (dropC n c).wp P Q a' w') → c.wp P Q a w
  | 0, c, s, a, w, h, hat, hd, hk => hk s a w h hat hd
  | n + 1, .seq x y, s, a, w, h, hat, hd, hk => by
    refine wp_seq (codeA_sound hP hC hdr x _ s a w _ h hat (fun e s' a' w' h1 h2 h3 => ?_))
    cases e <;> first
      | exact codeT_sound hP hC hdr hK n y _ a' w' h1 (nrmA_sound h2 y) (h3.trans hd) hk
      | exact hK _ _ _ _ h1 h2 (h3.trans hd)
  | n + 1, .skip, s, a, w, h, _, _, _ => by cases h
  | n + 1, .region .., s, a, w, h, _, _, _ => by cases h
  | n + 1, .cond .., s, a, w, h, _, _, _ => by cases h
  | n + 1, .block .., s, a, w, h, _, _, _ => by cases h
  | n + 1, .loop _, s, a, w, h, _, _, _ => by cases h
  | n + 1, .rangeFunc .., s, a, w, h, _, _, _ => by cases h
  | n + 1, .exit _, s, a, w, h, _, _, _ => by cases h
  | n + 1, .scope .., s, a, w, h, _, _, _ => by cases h
  | n + 1, .label .., s, a, w, h, _, _, _ => by cases h
  | n + 1, .goto _, s, a, w, h, _, _, _ => by cases h
  | n + 1, .ret, s, a, w, h, _, _, _ => by cases h
  | n + 1, .refuse .., s, a, w, h, _, _, _ => by cases h
/-- What is known: which blocks hold what, and which values are which. -/
structure GI where
  hp : Nat → Option Obj
  val : Nat → Value
instance : Inhabited GI := ⟨⟨fun _ => none, fun _ => .nilIface⟩⟩
def glG (G : GI) (w : World) (S : Nat → Prop) : Prop := ∀ k o, G.hp k = some o → S k ∧ k < w.heap.size ∧ w.heap[k]? = some o
theorem glG_next (G : GI) (w w' : World) (S S' : Nat → Prop) (h : glG G w S) (hs : ∀ k, k < w.heap.size → S k → S' k) (ha : Agree S w w') : glG G w' S' := fun k o hk => by
  obtain ⟨h1, h2, h3⟩ := h k o hk
  exact ⟨hs k h2 h1, Nat.lt_of_lt_of_le h2 ha.size, by rw [ha.block k h1 h2]; exact h3⟩
section
variable {T T' : Tab τ} {P : Program} {S : Nat → Prop} {w : World} {m : Mem τ} {η : Eta}
/-- A table that differs in what is known alone. -/
theorem LR.tab (hg : T'.get = T.get) (hr : T'.row = T.row) {lt : LT} {lf : Lf τ} {v : Value} (h : LR T S w lt lf v) : LR T' S w lt lf v := by
  induction h with
  | int k n => exact .int k n
  | bool b => exact .bool b
  | str s => exact .str s
  | sl e ti hT rows A c hc vf hA hl h ih => exact .sl e ti (by rw [hg]; exact hT) rows A c hc vf hA (by rw [hr]; exact hl) (by rw [hr]; exact ih)
/-- A call whose arguments are known exactly, by whatever is told of it. -/
theorem call_any {T : Tab τ} {nb : NB} {w0 : World} {η0 : Eta} {m0 : Mem τ} {s : St τ} {a : Act} {o : Oper} {f : FuncId} {xs : List Operand} (hcal : calleeA s.tm o.op = some (f, xs)) (hat : At T w0 η0 m0 nb w s a.tmps) (hen : Enters P f) {vs : List Value} (hvs : xs.map a.eval = vs)
    {R : Value → World → Prop} (h : Calls P f vs.toArray w (fun e w' => ∃ v, e = .returned v ∧ R v w')) {next : Act → World → Prop} {Q : Exit → Act → World → Prop} (hk : ∀ z w', R z w' → next (a.put o.dst z) w') : o.wp P a w next Q := by
  obtain ⟨fn, hf, hname, hb⟩ := hen
  unfold calleeA at hcal
  split at hcal
  case h_2 => cases hcal
  rename_i c hop
  split at hcal
  case h_2 => cases hcal
  rename_i fo hco
  split at hcal
  case h_2 => cases hcal
  rename_i g hg
  cases hcal
  obtain ⟨η2, hat2⟩ := hat
  have hfv : a.eval fo = .func (.func f) #[] #[] := by
    have h9 := hat2.tr.eval (ds := a.defers) fo
    rw [hg] at h9
    have key : ∀ u, VR T (Safe η2 s.m) w s.m η2 (.fn f) u → u = .func (.func f) #[] #[] := fun u hu => by cases hu; rfl
    exact key _ h9
  have hargs : c.args.map a.eval = vs.toArray := by
    apply Array.toList_inj.1
    rw [Array.toList_map, hvs]
  have h1n : fn.name ≠ "runtime.NumGoroutine" := by simpa using hname
  obtain ⟨code, hcode⟩ := Option.isSome_iff_exists.1 hb
  have hrun : (execOp a.eval o).run P w = .ok (.enter f vs.toArray) w := by
    unfold execOp
    simp [hop, resolve, hco, hfv, Deferred.ofValue, invoke, callFunc, hf, h1n, hcode, hargs]
  unfold Oper.wp
  rw [hrun, Oper.upon_enter]
  exact h.mono fun e w'' ⟨v, he, hr⟩ => by subst he; exact hk v w'' hr
theorem LR.heap {w' : World} (hs : w.heap.size ≤ w'.heap.size) (hb : ∀ k, S k → k < w.heap.size → w'.heap[k]? = w.heap[k]?) {lt : LT} {lf : Lf τ} {v : Value} (h : LR T S w lt lf v) : LR T S w' lt lf v := by
  induction h with
  | int k n => exact .int k n
  | bool b => exact .bool b
  | str s => exact .str s
  | sl e ti hT rows A c hc vf hA hl h ih =>
    refine .sl e ti hT rows A c hc vf (fun hne => ?_) hl ih
    obtain ⟨ad, rfl, hS, hlt, hcell⟩ := hA hne
    refine ⟨ad, rfl, hS, Nat.lt_of_lt_of_le hlt hs, fun j o hj ho => ?_⟩
    have h1 := hcell j o hj ho
    unfold World.cell? at h1 ⊢
    rw [hb _ (by rw [add_block]; exact hS) (by rw [add_block]; exact hlt)]; exact h1
/-- What stands in blocks that are known can be read wherever these are known. -/
theorem LR.known {G : GI} {w0 : World} {S0 : Nat → Prop} (hG : ∀ k, S0 k → k < w0.heap.size → ∃ o, w0.heap[k]? = some o ∧ G.hp k = some o) {lt : LT} {lf : Lf τ} {v : Value} (h : LR T S0 w0 lt lf v) {w : World} {S : Nat → Prop} (hg : glG G w S) : LR T S w lt lf v := by
  induction h with
  | int k n => exact .int k n
  | bool b => exact .bool b
  | str s => exact .str s
  | sl e ti hT rows A c hc vf hA hl h ih =>
    refine .sl e ti hT rows A c hc vf (fun hne => ?_) hl ih
    obtain ⟨ad, rfl, hS, hlt, hcell⟩ := hA hne
    obtain ⟨o, ho, hk⟩ := hG _ hS hlt
    obtain ⟨h1, h2, h3⟩ := hg _ _ hk
    refine ⟨ad, rfl, h1, h2, fun j q hj hq => ?_⟩
    have hc1 := hcell j q hj hq
    unfold World.cell? at hc1 ⊢
    rw [add_block] at hc1 ⊢
    rw [h3]; rw [ho] at hc1; exact hc1
/-- Contracts that take a value known exactly for what it is read as. -/
def unO (ρ : Nat → AV τ) : AV τ → AV τ
  | .opq n => ρ n
  | a => a
def unOs (ρ : Nat → AV τ) : List (AV τ) → List (AV τ)
  | [] => []
  | a :: as => unO ρ a :: unOs ρ as
theorem unOs_eq (ρ : Nat → AV τ) : ∀ as : List (AV τ), unOs ρ as = as.map (unO ρ)
  | [] => rfl
  | a :: as => by rw [unOs, unOs_eq ρ as]; rfl
def ctrO (ρ : Nat → AV τ) (C : Ctr τ Unit) : Ctr τ Unit := fun f args m k => C f (unOs ρ args) m k
theorem ctrO_ok {pn : FuncId → Nat} {C : Ctr τ Unit} {ρ : Nat → AV τ} (hρ : ∀ (w : World) (η : Eta) (m : Mem τ), MR T w η m → ∀ n, VR T (Safe η m) w m η (ρ n) (T.val n)) (hC : CtrOk P T pn C) : CtrOk P T pn (ctrO ρ C) := fun f args m k r h => by
  obtain ⟨h1, av, m1, h2, h3⟩ := hC f _ m k r h
  refine ⟨h1, av, m1, h2, fun w η vs hm hv => h3 w η vs hm ?_⟩
  rw [unOs_eq]
  refine ⟨by rw [List.length_map]; exact hv.1, fun i a c ha hc => ?_⟩
  rw [List.getElem?_map] at ha
  cases hx : args[i]? with
  | none => rw [hx] at ha; simp at ha
  | some b =>
    rw [hx] at ha
    simp at ha; subst ha
    have hb := hv.2 i b c hx hc
    cases b <;> first
      | exact hb
      | (rename_i n
         have e : c = T.val n := by cases hb; rfl
         rw [e]; exact hρ w η m hm n)
theorem ctrO_mono {C : Ctr τ Unit} {ρ : Nat → AV τ} (hC : CtrMono C) : CtrMono (ctrO ρ C) := fun f args m k k' hk h => hC f _ m k k' hk h
end
end Am
