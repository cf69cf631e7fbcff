/- The abstract machine, part 26: what is handed over is brought into one shape; calls, told of a contract. -/
import Derived.Test.YtkkmhlfpombgfaaAm25
set_option linter.unusedVariables false
set_option linter.unusedSectionVars false
set_option linter.unusedSimpArgs false
namespace Am
open Go
variable {τ : TypeId → Type}
/-- How a cell is asked for: as it is, as a slice that is read, as a row of one's own. -/
inductive Shp where
  | any
  | sl (e : TypeId)
  | own (e : TypeId)
inductive PS where
  | one (s : Shp)
  | agg (ss : List Shp)
def prep1 (T : Tab τ) : Shp → AV τ → Mem τ → AV τ × Mem τ
  | .sl e, .nil, m => match T e with
    | some _ => (.sl e [], m)
    | none => (.nil, m)
  | .own e, .nil, m => match T e with
    | some _ => (.own m.rw.length 0, m.addRw e [])
    | none => (.nil, m)
  | _, a, m => (a, m)
def prepL (T : Tab τ) : List Shp → List (AV τ) → Mem τ → List (AV τ) × Mem τ
  | s :: ss, a :: as, m => match prep1 T s a m with
    | (a', m') => match prepL T ss as m' with
      | (as', m'') => (a' :: as', m'')
  | _, as, m => (as, m)
def prepA (T : Tab τ) : PS → AV τ → Mem τ → AV τ × Mem τ
  | .one s, a, m => prep1 T s a m
  | .agg ss, .agg vs, m => match prepL T ss vs m with
    | (vs', m') => (.agg vs', m')
  | _, a, m => (a, m)
def prepAs (T : Tab τ) : List PS → List (AV τ) → Mem τ → List (AV τ) × Mem τ
  | s :: ss, a :: as, m => match prepA T s a m with
    | (a', m') => match prepAs T ss as m' with
      | (as', m'') => (a' :: as', m'')
  | _, as, m => (as, m)
def prepR (T : Tab τ) (ps : List PS) : AV τ → Mem τ → AV τ × Mem τ
  | .tup vs, m => match prepAs T ps vs m with
    | (vs', m') => (.tup vs', m')
  | a, m => match ps with
    | p :: _ => prepA T p a m
    | [] => (a, m)
section
variable {T : Tab τ} {P : Program} {by_ : TypeId → Nat} {w w' w2 w0 : World} {m m' m2 m0 m1 : Mem τ} {η η' η2 η0 η1 : Eta} {tm : List (AV τ)} {S S' : Nat → Prop} {nb : NB} {s : St τ} {ts : Array Value}
theorem VR.nil_inv {S : Nat → Prop} {v : Value} (h : VR T S w m η .nil v) : v = .slice none 0 0 := by cases h; rfl
theorem prep1_sound (hm : MR T w η m) {s : Shp} {a : AV τ} {v : Value} (hv : VR T (Safe η m) w m η a v) :
    ∃ η', Step T w m η w (prep1 T s a m).2 η' ∧ VR T (Safe η' (prep1 T s a m).2) w (prep1 T s a m).2 η' (prep1 T s a m).1 v ∧ η'.b = η.b := by
  unfold prep1
  split
  · rename_i e
    have e0 := hv.nil_inv; subst e0
    split
    · rename_i ti hT
      exact ⟨η, .refl hm, .sl e [] _ (.sl e ti hT [] none 0 (Nat.le_refl _) (fun _ _ => default) (fun h => absurd rfl h) (fun j row h => by simp at h) (fun j row o lf lt h => by simp at h)), rfl⟩
    · exact ⟨η, .refl hm, hv, rfl⟩
  · rename_i e
    have e0 := hv.nil_inv; subst e0
    split
    · rename_i ti hT
      have h1 := hm.addR (w' := w) (e := e) (xs := []) (ti := ti) (inner := []) (v := .slice none 0 0) hT (.refl _ _) ⟨by simp, .inl ⟨rfl, by simp⟩⟩ (fun k h => by simp [Value.ownBlock] at h) ⟨by simp, fun j row o lf lt v h => by simp at h⟩
      refine ⟨_, h1, .own _ 0 _ (by simp [Mem.addRw]) (fun x hx => ?_), rfl⟩
      simp [Mem.addRw] at hx
      subst hx
      exact ⟨Nat.le_refl _, fun _ => by simp [Eta.addR]⟩
    · exact ⟨η, .refl hm, hv, rfl⟩
  · exact ⟨η, .refl hm, hv, rfl⟩
theorem VRs.cons {S : Nat → Prop} {a : AV τ} {as : List (AV τ)} {v : Value} {vs : List Value} (h : VR T S w m η a v) (hs : VRs T S w m η as vs) : VRs T S w m η (a :: as) (v :: vs) := by
  refine ⟨by simp [hs.1], fun i b c hb hc => ?_⟩
  cases i with
  | zero => simp at hb hc; subst hb; subst hc; exact h
  | succ i => simp at hb hc; exact hs.2 i b c hb hc
theorem VRs.cons_inv {S : Nat → Prop} {a : AV τ} {as : List (AV τ)} {vs : List Value} (h : VRs T S w m η (a :: as) vs) : ∃ v vs', vs = v :: vs' ∧ VR T S w m η a v ∧ VRs T S w m η as vs' := by
  obtain ⟨h1, h2⟩ := h
  cases vs with
  | nil => simp at h1
  | cons v vs => exact ⟨v, vs, rfl, h2 0 a v rfl rfl, by simpa using h1, fun i b c hb hc => h2 (i + 1) b c (by simpa using hb) (by simpa using hc)⟩
theorem Step.vrs (s : Step T w m η w' m' η') {as : List (AV τ)} {vs : List Value} (h : VRs T (Safe η m) w m η as vs) : VRs T (Safe η' m') w' m' η' as vs := ⟨h.1, fun i a c x y => s.vr (h.2 i a c x y)⟩
theorem prepL_sound : ∀ (ss : List Shp) (as : List (AV τ)) (vs : List Value) (m : Mem τ) (η : Eta), MR T w η m → VRs T (Safe η m) w m η as vs →
    ∃ η', Step T w m η w (prepL T ss as m).2 η' ∧ VRs T (Safe η' (prepL T ss as m).2) w (prepL T ss as m).2 η' (prepL T ss as m).1 vs ∧ η'.b = η.b
  | [], as, vs, m, η, hm, hv => by cases as <;> exact ⟨η, .refl hm, hv, rfl⟩
  | s :: ss, [], vs, m, η, hm, hv => ⟨η, .refl hm, hv, rfl⟩
  | s :: ss, a :: as, vs, m, η, hm, hv => by
    obtain ⟨v, vs, rfl, h1, h2⟩ := hv.cons_inv
    obtain ⟨η1, s1, v1, b1⟩ := prep1_sound (s := s) hm h1
    obtain ⟨η2, s2, v2, b2⟩ := prepL_sound ss as vs _ η1 s1.mr (s1.vrs h2)
    exact ⟨η2, s1.trans s2, VRs.cons (s2.vr v1) v2, b2.trans b1⟩
theorem prepA_sound (hm : MR T w η m) {p : PS} {a : AV τ} {v : Value} (hv : VR T (Safe η m) w m η a v) :
    ∃ η', Step T w m η w (prepA T p a m).2 η' ∧ VR T (Safe η' (prepA T p a m).2) w (prepA T p a m).2 η' (prepA T p a m).1 v ∧ η'.b = η.b := by
  unfold prepA
  split
  · exact prep1_sound hm hv
  · rename_i ss vs
    obtain ⟨cs, rfl, h⟩ := hv.agg_inv
    obtain ⟨η1, s1, v1, b1⟩ := prepL_sound ss vs cs _ η hm h
    exact ⟨η1, s1, .agg _ cs v1.1 v1.2, b1⟩
  · exact ⟨η, .refl hm, hv, rfl⟩
theorem prepAs_sound : ∀ (ss : List PS) (as : List (AV τ)) (vs : List Value) (m : Mem τ) (η : Eta), MR T w η m → VRs T (Safe η m) w m η as vs →
    ∃ η', Step T w m η w (prepAs T ss as m).2 η' ∧ VRs T (Safe η' (prepAs T ss as m).2) w (prepAs T ss as m).2 η' (prepAs T ss as m).1 vs ∧ η'.b = η.b
  | [], as, vs, m, η, hm, hv => by cases as <;> exact ⟨η, .refl hm, hv, rfl⟩
  | s :: ss, [], vs, m, η, hm, hv => ⟨η, .refl hm, hv, rfl⟩
  | s :: ss, a :: as, vs, m, η, hm, hv => by
    obtain ⟨v, vs, rfl, h1, h2⟩ := hv.cons_inv
    obtain ⟨η1, s1, v1, b1⟩ := prepA_sound (p := s) hm h1
    obtain ⟨η2, s2, v2, b2⟩ := prepAs_sound ss as vs _ η1 s1.mr (s1.vrs h2)
    exact ⟨η2, s1.trans s2, VRs.cons (s2.vr v1) v2, b2.trans b1⟩
theorem VR.tup_inv {S : Nat → Prop} {vs : List (AV τ)} {v : Value} (h : VR T S w m η (.tup vs) v) : ∃ cs : List Value, v = .tuple cs.toArray ∧ VRs T S w m η vs cs := by
  cases h with | tup _ cs hl h => exact ⟨cs, rfl, hl, h⟩
theorem prepR_sound (hm : MR T w η m) {ps : List PS} {a : AV τ} {v : Value} (hv : VR T (Safe η m) w m η a v) :
    ∃ η', Step T w m η w (prepR T ps a m).2 η' ∧ VR T (Safe η' (prepR T ps a m).2) w (prepR T ps a m).2 η' (prepR T ps a m).1 v ∧ η'.b = η.b := by
  unfold prepR
  split
  · rename_i vs
    obtain ⟨cs, rfl, h⟩ := hv.tup_inv
    obtain ⟨η1, s1, v1, b1⟩ := prepAs_sound ps vs cs _ η hm h
    exact ⟨η1, s1, .tup _ cs v1.1 v1.2, b1⟩
  · split
    · exact prepA_sound hm hv
    · exact ⟨η, .refl hm, hv, rfl⟩
theorem CallR.of_step {n : Nat} (hn : n ≤ m.rw.length) (s : Step T w m η w m' η') (hb : η'.b = η.b) (c : CallR T n w m' η' w' m1 η1) : CallR T n w m η w' m1 η1 :=
  ⟨c.mr, fun k hk hs => c.safe k hk (s.safe k hk hs), ⟨c.agree.os, c.agree.tape, c.agree.output, c.agree.size, fun k hk hl => c.agree.block k (s.safe k hl hk) hl⟩, c.x.trans s.x, fun k hk => c.fx k (by rw [s.x]; exact hk),
    fun b hb' => by rw [c.bk b (Nat.lt_of_lt_of_le hb' s.later.bl), hb], Nat.le_trans s.later.bl c.bl, fun r hr x' hx' => by
      obtain ⟨y, e1, e2, e3⟩ := c.rk r hr x' hx'
      obtain ⟨x, a1, a2, a3⟩ := s.later.r r (Nat.lt_of_lt_of_le hr hn) y e1
      refine ⟨x, a1, Nat.le_trans a2 e2, fun e => ?_⟩
      obtain ⟨b1, b2⟩ := e3 (by omega)
      obtain ⟨c1, c2⟩ := a3 (by omega)
      exact ⟨b1.trans c1, b2.trans c2⟩⟩
def pickAs : List Nat → List (AV τ) → List (AV τ)
  | [], _ => []
  | i :: l, as => as.getD i .bad :: pickAs l as
/-- What is handed over: the rows that come back in their places first. -/
def handA (m : Mem τ) (pers : List Nat) (lend : Bool) (args : List (AV τ)) : List Nat × List Nat :=
  closeA m 64 0 (addRefs (cond lend (onlyB (refsL m args)) (refsL m args)) (addRefs (refsL m (pickAs pers args)) [] []).1 (addRefs (refsL m (pickAs pers args)) [] []).2).1 (addRefs (cond lend (onlyB (refsL m args)) (refsL m args)) (addRefs (refsL m (pickAs pers args)) [] []).1 (addRefs (refsL m (pickAs pers args)) [] []).2).2
/-- A call: the part of memory that it may write, handed over in the shape that it asks for; what it leaves, taken back. -/
def callS {R : Type} (T : Tab τ) (C : Ctr τ R) (ps : List PS) (pers : List Nat) (n : Nat) (lend : Bool) (f : FuncId) (args : List (AV τ)) (m : Mem τ) (k : AV τ → Mem τ → Option R) : Option R :=
  match handA m pers lend args with
    | (bs, rs) => cond (nodupA bs && (nodupA rs && (liveB m bs && Nat.ble n rs.length)))
        (C f (prepAs T ps (AV.rens m bs rs lend args) (m.view bs rs lend)).1 (prepAs T ps (AV.rens m bs rs lend args) (m.view bs rs lend)).2 fun av m1 =>
          cond (!lend || (noSl av && (noSlB m1.bx && noSlR T m1.rw))) (k (backV m bs rs n av) (mergeM m bs rs n m1)) none)
        none
theorem callS_sound {R : Type} {C : Ctr τ R} {pn : FuncId → Nat} (hC : CtrOk P T pn C) {ps : List PS} {pers : List Nat} {lend : Bool} {f : FuncId} {args : List (AV τ)} {k : AV τ → Mem τ → Option R} {r : R} (h : callS T C ps pers (pn f) lend f args m k = some r) :
    Enters P f ∧ ∃ av m', k av m' = some r ∧ (∃ bs rs m1, handA m pers lend args = (bs, rs) ∧ m' = mergeM m bs rs (pn f) m1) ∧
      ∀ (w : World) (η : Eta) (vs : Array Value), MR T w η m → VRs T (Safe η m) w m η args vs.toList →
      Calls P f vs w (fun e w' => ∃ v η', e = .returned v ∧ Step T w m η w' m' η' ∧ VR T (Safe η' m') w' m' η' av v) := by
  unfold callS at h
  split at h
  rename_i bs rs h0
  cases hc : (nodupA bs && (nodupA rs && (liveB m bs && Nat.ble (pn f) rs.length))) with
  | false => rw [hc] at h; simp at h
  | true =>
    rw [hc] at h
    simp only [cond_true] at h
    simp only [Bool.and_eq_true] at hc
    obtain ⟨hb, hr, hlive, hnn⟩ := hc
    replace hnn := Nat.le_of_ble_eq_true hnn
    obtain ⟨hen, av, m1, h1, h2⟩ := hC _ _ _ _ _ h
    cases hok : (!lend || (noSl av && (noSlB m1.bx && noSlR T m1.rw))) with
    | false => rw [hok] at h1; simp at h1
    | true =>
      rw [hok] at h1
      simp only [cond_true] at h1
      refine ⟨hen, _, _, h1, ⟨bs, rs, m1, h0, rfl⟩, fun w η vs hm hv => ?_⟩
      have hok' : lend = false ∨ (noSl av = true ∧ noSlB m1.bx = true ∧ noSlR T m1.rw = true) := by
        cases lend
        · exact .inl rfl
        · right; simpa using hok
      have hS : ∀ k, k < w.heap.size → Safe η m k → Safe (η.view bs rs (restX η m bs rs lend)) (m.view bs rs lend) k := fun k _ hs ho => by
        rcases view_owned hm ho with ⟨b, y, _, h1, h2⟩ | ⟨r, y, _, h1, h2⟩ | hx
        · exact hs (.inl (.inl ⟨b, y, h1, h2⟩))
        · exact hs (.inl (.inr ⟨r, y, h1, h2⟩))
        · exact hs (restX_owned hx)
      have hL : lend = true → ∀ r y k, m.rw[r]? = some (some y) → r ∉ rs → (η.r r).ownBlock = some k → Safe (η.view bs rs (restX η m bs rs lend)) (m.view bs rs lend) k := fun hl r y k h1 hn h2 ho => by
        rcases view_owned hm ho with ⟨b, z, _, h3, h4⟩ | ⟨r', z, hr', h3, h4⟩ | ⟨b, z, _, h3, h4⟩ | ⟨hf, _⟩ | hx
        · subst h4; exact hm.br b r _ _ h3 h1 h2
        · exact hn (hm.rr r' r _ _ k h3 h1 h4 h2 ▸ hr')
        · subst h4; exact hm.br b r _ _ h3 h1 h2
        · rw [hl] at hf; cases hf
        · exact hm.xr r _ k h1 h2 hx
      have hview : MR T w (η.view bs rs (restX η m bs rs lend)) (m.view bs rs lend) := by
        refine hm.view hb hr hS hL (fun b y hbm h1 hx => ?_) (fun r y k hrm h1 h2 hx => ?_) (fun k hk => hm.owned_lt (restX_owned hk))
        · rcases hx with ⟨b', z, hn, h3, h4⟩ | ⟨_, r, z, _, h3, h4⟩ | hx
          · exact hn (hm.bb b' b _ _ h3 h1 h4 ▸ hbm)
          · exact hm.br b r _ _ h1 h3 h4
          · exact hm.xb b _ h1 hx
        · rcases hx with ⟨b', z, hn, h3, h4⟩ | ⟨_, r', z, hn, h3, h4⟩ | hx
          · subst h4; exact hm.br b' r _ _ h3 h1 h2
          · exact hn (hm.rr r' r _ _ k h3 h1 h4 h2 ▸ hrm)
          · exact hm.xr r _ k h1 h2 hx
      have hargs : VRs T (Safe (η.view bs rs (restX η m bs rs lend)) (m.view bs rs lend)) w (m.view bs rs lend) (η.view bs rs (restX η m bs rs lend)) (AV.rens m bs rs lend args) vs.toList := by
        rw [AV.rens_eq]
        refine ⟨by simpa using hv.1, fun i a c ha hcc => ?_⟩
        rw [List.getElem?_map] at ha
        cases hu : args[i]? with
        | none => rw [hu] at ha; simp at ha
        | some u => rw [hu] at ha; simp at ha; subst ha; exact (hv.2 i u c hu hcc).ren hm hS hL
      obtain ⟨η2, st2, v2, b2⟩ := prepAs_sound ps _ _ _ _ hview hargs
      refine (h2 w _ vs st2.mr v2).mono fun e w' he => ?_
      obtain ⟨v, η1, rfl, hcr, hvr⟩ := he
      obtain ⟨hst, hvv⟩ := call_back hm hnn hb hr hlive (hcr.of_step (by simp only [Mem.view]; rw [viewR_len]; exact hnn) st2 b2) hvr hok'
      exact ⟨v, _, rfl, hst, hvv⟩
end
end Am
