/- The abstract machine, part 25: a call is sound. -/
import Derived.Test.YtkkmhlfpombgfaaAm24
set_option linter.unusedVariables false
set_option linter.unusedSectionVars false
set_option linter.unusedSimpArgs false
namespace Am
open Go
variable {τ : TypeId → Type}
section
variable {T : Tab τ} {P : Program} {by_ : TypeId → Nat} {w w' w2 w0 : World} {m m' m2 m0 m1 : Mem τ} {η η' η2 η0 η1 : Eta} {tm : List (AV τ)} {S S' : Nat → Prop} {nb : NB} {s : St τ} {ts : Array Value}
/-- The blocks that are not handed over. -/
def restX (η : Eta) (m : Mem τ) (bs rs : List Nat) (lend : Bool) (k : Nat) : Prop :=
  (∃ b y, b ∉ bs ∧ m.bx[b]? = some (some y) ∧ η.b b = k) ∨ (lend = false ∧ ∃ r y, r ∉ rs ∧ m.rw[r]? = some (some y) ∧ (η.r r).ownBlock = some k) ∨ η.x k
def backE (η η1 : Eta) (nb k n : Nat) : Eta := ⟨fun b => if b < nb then η.b b else η1.b (k + (b - nb)), fun r => if r < n then η.r r else η1.r (r - n), η.x⟩
theorem restX_owned {bs rs : List Nat} {lend : Bool} {k : Nat} (h : restX η m bs rs lend k) : Owned η m k := by
  rcases h with ⟨b, y, _, h1, h2⟩ | ⟨_, r, y, _, h1, h2⟩ | hx
  · exact .inl (.inl ⟨b, y, h1, h2⟩)
  · exact .inl (.inr ⟨r, y, h1, h2⟩)
  · exact .inr hx
theorem homeA_some {rs : List Nat} {n i g : Nat} {p : Nat × Nat} (h : homeA m rs n i g = some p) : (i < n ∧ g = 0 ∧ ∃ x, rs[i]? = some p.1 ∧ m.rw[p.1]? = some (some x) ∧ p.2 = x.g) ∨ (n ≤ i ∧ p = (m.rw.length + i, g)) := by
  unfold homeA at h
  cases hb : Nat.blt i n with
  | true =>
    rw [hb] at h
    simp only [cond_true] at h
    rw [Nat.blt_eq] at hb
    split at h
    case h_2 => cases h
    rename_i g' r hr
    split at h
    case h_2 => cases h
    rename_i x hx
    cases h
    exact .inl ⟨hb, rfl, x, hr, hx, rfl⟩
  | false =>
    rw [hb] at h
    simp only [cond_false] at h
    cases h
    right
    refine ⟨?_, rfl⟩
    rcases Nat.lt_or_ge i n with c | c
    · rw [← Nat.blt_eq] at c; rw [c] at hb; cases hb
    · exact c
theorem call_back (hm : MR T w η m) {bs rs : List Nat} {lend : Bool} {n : Nat} (hnn : n ≤ rs.length) (hnb : nodupA bs = true) (hnr : nodupA rs = true) (hlive : liveB m bs = true)
    (hc : CallR T n w (m.view bs rs lend) (η.view bs rs (restX η m bs rs lend)) w' m1 η1) {a : AV τ} {v : Value} (hv : VR T (Safe η1 m1) w' m1 η1 a v)
    (hok : lend = false ∨ (noSl a = true ∧ noSlB m1.bx = true ∧ noSlR T m1.rw = true)) :
    Step T w m η w' (mergeM m bs rs n m1) (backE η η1 m.bx.length bs.length m.rw.length) ∧ VR T (Safe (backE η η1 m.bx.length bs.length m.rw.length) (mergeM m bs rs n m1)) w' (mergeM m bs rs n m1) (backE η η1 m.bx.length bs.length m.rw.length) (backV m bs rs n a) v := by
  have hlv := liveB_at hlive
  have hbl : bs.length ≤ m1.bx.length := by have := hc.bl; simp only [Mem.view, viewB_len] at this; exact this
  have hvl : (m.view bs rs lend).bx.length = bs.length := by simp [Mem.view, viewB_len]
  -- where handed boxes stand
  have ebk : ∀ i b, bs[i]? = some b → η1.b i = η.b b := fun i b h => by
    rw [hc.bk i (by rw [hvl]; exact some_lt h)]
    show η.b (bs.getD i 0) = _
    rw [getD_of_some h]
  have hS0 : ∀ k, Safe η m k → Safe (η.view bs rs (restX η m bs rs lend)) (m.view bs rs lend) k := fun k hs ho => by
    rcases view_owned hm ho with ⟨b, y, _, h1, h2⟩ | ⟨r, y, _, h1, h2⟩ | hx
    · exact hs (.inl (.inl ⟨b, y, h1, h2⟩))
    · exact hs (.inl (.inr ⟨r, y, h1, h2⟩))
    · exact hs (restX_owned hx)
  have hL0 : lend = true → ∀ r y k, m.rw[r]? = some (some y) → r ∉ rs → (η.r r).ownBlock = some k → Safe (η.view bs rs (restX η m bs rs lend)) (m.view bs rs lend) k := fun hl r y k h1 hn h2 ho => by
    rcases view_owned hm ho with ⟨b, z, _, h3, h4⟩ | ⟨r', z, hr', h3, h4⟩ | ⟨b, z, _, h3, h4⟩ | ⟨hf, _⟩ | hx
    · subst h4; exact hm.br b r _ _ h3 h1 h2
    · exact hn (hm.rr r' r _ _ k h3 h1 h4 h2 ▸ hr')
    · subst h4; exact hm.br b r _ _ h3 h1 h2
    · rw [hl] at hf; cases hf
    · exact hm.xr r _ k h1 h2 hx
  have hSlt : ∀ k, Owned η m k → k < w.heap.size := fun k hk => hm.owned_lt hk
  -- owned by the rest: owned by what the call left
  have hX1 : ∀ k, restX η m bs rs lend k → η1.x k := fun k hk => by rw [hc.x]; exact hk
  -- a persisting row's place
  have pers : ∀ i z, i < n → m1.rw[i]? = some (some z) → z.g = 0 → ∃ r y, rs[i]? = some r ∧ m.rw[r]? = some (some y) ∧ z.e = y.e ∧ η1.r i = η.r r := fun i z hi hz hg => by
    obtain ⟨x, e1, e2, e3⟩ := hc.rk i hi z hz
    obtain ⟨r, y, f1, f2, f3⟩ := viewR_at (m := m) (l := rs) e1
    subst f3
    obtain ⟨g1, g2⟩ := e3 (by simpa using hg)
    refine ⟨r, y, f1, f2, g1, ?_⟩
    rw [g2]; show η.r (rs.getD i 0) = _; rw [getD_of_some f1]
  have hrw' : ∀ (r : Nat) (x : Rw τ), (mergeM m bs rs n m1).rw[r]? = some (some x) → (r < m.rw.length ∧ r ∉ rs ∧ m.rw[r]? = some (some x)) ∨ (r < m.rw.length ∧ ∃ i y z, i < n ∧ rs[i]? = some r ∧ m.rw[r]? = some (some y) ∧ m1.rw[i]? = some (some z) ∧ z.g = 0 ∧ x = ⟨z.e, z.xs, y.g⟩ ∧ z.e = y.e ∧ η1.r i = η.r r) ∨ (m.rw.length ≤ r ∧ n ≤ r - m.rw.length ∧ m1.rw[r - m.rw.length]? = some (some x)) := fun r x h => by
    simp only [mergeM] at h
    rcases Nat.lt_or_ge r m.rw.length with c | c
    · rw [List.getElem?_append_left (by rw [putR_len]; exact c)] at h
      rcases putR_at hnr h with ⟨h1, h2⟩ | ⟨j, y, z, h1, h2, h3, h4, h5, h6⟩
      · exact .inl ⟨c, h1, h2⟩
      · rw [Nat.zero_add] at h2 h4
        obtain ⟨r', y', e1, e2, e3, e4⟩ := pers j z h2 h4 h5
        rw [h1] at e1; cases e1
        rw [h3] at e2; cases e2
        exact .inr (.inl ⟨c, j, y, z, h2, h1, h3, h4, h5, h6, e3, e4⟩)
    · rw [List.getElem?_append_right (by rw [putR_len]; exact c), putR_len] at h
      obtain ⟨h1, h2⟩ := hideR_at h
      exact .inr (.inr ⟨c, h1, h2⟩)
  have eB : ∀ b, b < m.bx.length → (backE η η1 m.bx.length bs.length m.rw.length).b b = η.b b := fun b h => by simp [backE, h]
  have eB' : ∀ b, m.bx.length ≤ b → (backE η η1 m.bx.length bs.length m.rw.length).b b = η1.b (bs.length + (b - m.bx.length)) := fun b h => by simp [backE, Nat.not_lt.2 h]
  have hmlen : (mergeM m bs rs n m1).bx.length = m.bx.length + (m1.bx.length - bs.length) := by simp only [mergeM]; rw [List.length_append, putBx_len, newBx_len, List.length_drop]
  -- where the callee's variables are
  have home : ∀ i, i < m1.bx.length → homeB m bs i < (mergeM m bs rs n m1).bx.length ∧ (backE η η1 m.bx.length bs.length m.rw.length).b (homeB m bs i) = η1.b i := fun i hi => by
    unfold homeB
    cases hb : bs[i]? with
    | some c =>
      simp only
      obtain ⟨y, hy⟩ := hlv c (List.mem_of_getElem? hb)
      have hcl := some_lt hy
      exact ⟨by rw [hmlen]; omega, by rw [eB c hcl, ebk i c hb]⟩
    | none =>
      simp only
      have hge : bs.length ≤ i := by simpa using hb
      refine ⟨by rw [hmlen]; omega, ?_⟩
      rw [eB' _ (Nat.le_add_right _ _), Nat.add_sub_cancel_left]
      congr 1; omega
  have hbx' : ∀ (b : Nat) (y : TypeId × List (AV τ)), (mergeM m bs rs n m1).bx[b]? = some (some y) → (∃ (i : Nat) (p : TypeId × List (AV τ)), homeB m bs i = b ∧ (backE η η1 m.bx.length bs.length m.rw.length).b b = η1.b i ∧ m1.bx[i]? = some (some p) ∧ y = (p.1, p.2.map (backV m bs rs n))) ∨ (b < m.bx.length ∧ b ∉ bs ∧ m.bx[b]? = some (some y)) := fun b y h => by
    simp only [mergeM] at h
    rcases Nat.lt_or_ge b m.bx.length with c | c
    · rw [List.getElem?_append_left (by rw [putBx_len]; exact c)] at h
      rcases putBx_at hbl h with ⟨i, p, h1, h2, h3⟩ | ⟨h1, h2⟩
      · exact .inl ⟨i, p, by unfold homeB; rw [h1], by rw [eB b c, ebk i b h1], h2, h3⟩
      · exact .inr ⟨c, h1, h2⟩
    · rw [List.getElem?_append_right (by rw [putBx_len]; exact c), putBx_len] at h
      obtain ⟨p, h1, h2⟩ := newBx_at h
      rw [List.getElem?_drop] at h1
      refine .inl ⟨bs.length + (b - m.bx.length), p, ?_, eB' b c, h1, h2⟩
      unfold homeB
      rw [List.getElem?_eq_none (by omega)]
      simp only
      omega
  have eR : ∀ r, r < m.rw.length → (backE η η1 m.bx.length bs.length m.rw.length).r r = η.r r := fun r h => by simp [backE, h]
  have eR' : ∀ r, m.rw.length ≤ r → (backE η η1 m.bx.length bs.length m.rw.length).r r = η1.r (r - m.rw.length) := fun r h => by simp [backE, Nat.not_lt.2 h]
  have hlater : Later m η (mergeM m bs rs n m1) (backE η η1 m.bx.length bs.length m.rw.length) := by
    refine ⟨by rw [hmlen]; omega, by simp only [mergeM]; rw [List.length_append, putR_len]; omega, eB, fun r hr x hx => ?_⟩
    rcases hrw' r x hx with ⟨_, _, h1⟩ | ⟨_, i, y, z, _, _, h1, _, _, rfl, h2, _⟩ | ⟨h1, _⟩
    · exact ⟨x, h1, Nat.le_refl _, fun _ => ⟨rfl, eR r hr⟩⟩
    · exact ⟨y, h1, Nat.le_refl _, fun _ => ⟨h2, eR r hr⟩⟩
    · omega
  -- what is safe
  have own' : ∀ k, Owned (backE η η1 m.bx.length bs.length m.rw.length) (mergeM m bs rs n m1) k → Owned η1 m1 k ∨ (∃ r y, r ∉ rs ∧ m.rw[r]? = some (some y) ∧ (η.r r).ownBlock = some k) ∨ restX η m bs rs lend k := fun k hk => by
    rcases hk with (⟨b, y, h1, h2⟩ | ⟨r, y, h1, h2⟩) | hx
    · rcases hbx' b y h1 with ⟨i, p, _, h3, h4, _⟩ | ⟨hlt, hn, h3⟩
      · exact .inl (.inl (.inl ⟨i, p, h4, by rw [← h3]; exact h2⟩))
      · exact .inr (.inr (.inl ⟨b, y, hn, h3, by rw [← eB b hlt]; exact h2⟩))
    · rcases hrw' r y h1 with ⟨h3, h4, h5⟩ | ⟨h3, i, y', z, _, _, _, h4, _, _, _, h5⟩ | ⟨h3, _, h4⟩
      · rw [eR r h3] at h2; exact .inr (.inl ⟨r, y, h4, h5, h2⟩)
      · rw [eR r h3, ← h5] at h2; exact .inl (.inl (.inr ⟨i, z, h4, h2⟩))
      · rw [eR' r h3] at h2; exact .inl (.inl (.inr ⟨_, y, h4, h2⟩))
    · exact .inr (.inr (.inr (.inr hx)))
  have hsafe : ∀ k, k < w.heap.size → Safe η m k → Safe (backE η η1 m.bx.length bs.length m.rw.length) (mergeM m bs rs n m1) k := fun k hk hs ho => by
    rcases own' k ho with h1 | ⟨r, y, _, h2, h3⟩ | h1
    · exact hc.safe k hk (hS0 k hs) h1
    · exact hs (.inl (.inr ⟨r, y, h2, h3⟩))
    · exact hs (restX_owned h1)
  have hsafe1 : lend = false → ∀ k, Safe η1 m1 k → Safe (backE η η1 m.bx.length bs.length m.rw.length) (mergeM m bs rs n m1) k := fun hl k hs ho => by
    rcases own' k ho with h1 | ⟨r, y, hn, h2, h3⟩ | h1
    · exact hs h1
    · exact hs (.inr (hX1 k (.inr (.inl ⟨hl, r, y, hn, h2, h3⟩))))
    · exact hs (.inr (hX1 k h1))
  have hagree : Agree (Safe η m) w w' := ⟨hc.agree.os, hc.agree.tape, hc.agree.output, hc.agree.size, fun k hk hl => hc.agree.block k (hS0 k hk) hl⟩
  -- values back
  have back : ∀ {a : AV τ} {v : Value}, VR T (Safe η1 m1) w' m1 η1 a v → (lend = false ∨ noSl a = true) → VR T (Safe (backE η η1 m.bx.length bs.length m.rw.length) (mergeM m bs rs n m1)) w' (mergeM m bs rs n m1) (backE η η1 m.bx.length bs.length m.rw.length) (backV m bs rs n a) v := by
    intro a v h
    induction h with
    | int k n => intro _; exact .int k n
    | bool b => intro _; exact .bool b
    | str s => intro _; exact .str s
    | sl e rows v h =>
      intro ho
      rcases ho with hl | ho
      · exact .sl e rows v (h.mono fun k _ hk => hsafe1 hl k hk)
      · simp [noSl] at ho
    | own r g v hr h =>
      intro _
      unfold backV
      split
      case h_2 => exact .bad _
      rename_i r' g' hh
      rcases homeA_some hh with ⟨c1, rfl, y, c2, c3, c4⟩ | ⟨c1, c2⟩
      · simp only at c2 c3 c4
        subst c4
        have hrl := some_lt c3
        refine .own _ _ v (by simp only [mergeM]; rw [List.length_append, putR_len]; omega) (fun x hx => ?_)
        rcases hrw' _ x hx with ⟨_, h4, _⟩ | ⟨_, i, y', z, h3, h4, h5, h6, h7, rfl, _, h8⟩ | ⟨h3, _⟩
        · exact absurd (List.mem_of_getElem? c2) h4
        · rw [c3] at h5; cases h5
          have := nodupA_inj hnr _ _ _ c2 h4
          subst this
          refine ⟨Nat.le_refl _, fun _ => ?_⟩
          rw [eR _ hrl, ← h8]
          exact (h z h6).2 h7
        · omega
      · cases c2
        refine .own _ g v (by simp only [mergeM]; rw [List.length_append, putR_len, hideR_len]; omega) (fun x hx => ?_)
        rcases hrw' _ x hx with ⟨h3, _, _⟩ | ⟨h3, _⟩ | ⟨_, _, h4⟩
        · omega
        · omega
        · rw [Nat.add_sub_cancel_left] at h4
          obtain ⟨h5, h6⟩ := h x h4
          exact ⟨h5, fun e => by rw [eR' _ (Nat.le_add_right _ _), Nat.add_sub_cancel_left]; exact h6 e⟩
    | nil => intro _; exact .nil
    | agg vs cs hl h ih =>
      intro ho
      unfold backV
      rw [backL_eq]
      refine .agg _ cs (by simpa using hl) (fun i a c ha hcc => ?_)
      rw [List.getElem?_map] at ha
      cases hv : vs[i]? with
      | none => rw [hv] at ha; simp at ha
      | some b =>
        rw [hv] at ha; simp at ha; subst ha
        refine ih i b c hv hcc (ho.imp id fun h9 => ?_)
        simp only [noSl] at h9; rw [noSls_all] at h9
        exact List.all_eq_true.1 h9 b (List.mem_of_getElem? hv)
    | tup vs cs hl h ih =>
      intro ho
      unfold backV
      rw [backL_eq]
      refine .tup _ cs (by simpa using hl) (fun i a c ha hcc => ?_)
      rw [List.getElem?_map] at ha
      cases hv : vs[i]? with
      | none => rw [hv] at ha; simp at ha
      | some b =>
        rw [hv] at ha; simp at ha; subst ha
        refine ih i b c hv hcc (ho.imp id fun h9 => ?_)
        simp only [noSl] at h9; rw [noSls_all] at h9
        exact List.all_eq_true.1 h9 b (List.mem_of_getElem? hv)
    | ptr b o hb =>
      intro _
      unfold backV
      obtain ⟨h1, h2⟩ := home b hb
      rw [← h2]
      exact .ptr _ o h1
    | eptr e rows i o ti ad c hT h h0 h1 =>
      intro ho
      rcases ho with hl | ho
      · exact .eptr e rows i o ti ad c hT (h.mono fun k _ hk => hsafe1 hl k hk) h0 h1
      · simp [noSl] at ho
    | optr r g i o v hr h =>
      intro _
      unfold backV
      split
      case h_2 => exact .bad _
      rename_i r' g' hh
      rcases homeA_some hh with ⟨c1, rfl, y, c2, c3, c4⟩ | ⟨c1, c2⟩
      · simp only at c2 c3 c4
        subst c4
        have hrl := some_lt c3
        refine .optr _ _ i o v (by simp only [mergeM]; rw [List.length_append, putR_len]; omega) (fun x hx => ?_)
        rcases hrw' _ x hx with ⟨_, h4, _⟩ | ⟨_, i', y', z, h3, h4, h5, h6, h7, rfl, h10, h8⟩ | ⟨h3, _⟩
        · exact absurd (List.mem_of_getElem? c2) h4
        · rw [c3] at h5; cases h5
          have := nodupA_inj hnr _ _ _ c2 h4
          subst this
          refine ⟨Nat.le_refl _, fun _ => ?_⟩
          obtain ⟨ti, gb, n', c, h11, h12, h13⟩ := (h z h6).2 h7
          exact ⟨ti, gb, n', c, h11, by rw [eR _ hrl, ← h8]; exact h12, h13⟩
        · omega
      · cases c2
        refine .optr _ g i o v (by simp only [mergeM]; rw [List.length_append, putR_len, hideR_len]; omega) (fun x hx => ?_)
        rcases hrw' _ x hx with ⟨h3, _, _⟩ | ⟨h3, _⟩ | ⟨_, _, h4⟩
        · omega
        · omega
        · rw [Nat.add_sub_cancel_left] at h4
          obtain ⟨h5, h6⟩ := h x h4
          refine ⟨h5, fun e => ?_⟩
          obtain ⟨ti, gb, n', c, h7, h8, h9⟩ := h6 e
          exact ⟨ti, gb, n', c, h7, by rw [eR' _ (Nat.le_add_right _ _), Nat.add_sub_cancel_left]; exact h8, h9⟩
    | xptr b o q i hb h0 h1 =>
      intro _
      unfold backV
      obtain ⟨h2, h3⟩ := home b hb
      rw [← h3]
      exact .xptr _ o q i h2 h0 h1
    | fn f => intro _; exact .fn f
    | opq n => intro _; exact .opq n
    | und => intro _; exact .und
    | bad v => intro _; exact .bad v
  have hb1 : lend = false ∨ noSlB m1.bx = true := hok.imp id fun h => h.2.1
  have hr1 : lend = false ∨ noSlR T m1.rw = true := hok.imp id fun h => h.2.2
  refine ⟨⟨hm.next hlater hsafe hagree (fun b t vs hb => ?_) (fun r x hr => ?_) ?_ ?_ ?_ rfl ?_ ?_, hlater, hsafe, hagree, rfl, fun k hk => hc.fx k (.inr (.inr hk))⟩, back hv (hok.imp id fun h => h.1)⟩
  · rcases hbx' b (t, vs) hb with ⟨i, p, _, h1, h2, h3⟩ | ⟨hlt, hn, h1⟩
    · cases h3
      obtain ⟨cs, hcs, hvs⟩ := hc.mr.bx i p.1 p.2 h2
      right
      refine ⟨cs, by rw [h1]; exact hcs, by simpa using hvs.1, fun j a c ha hcc => ?_⟩
      rw [List.getElem?_map] at ha
      cases hu : p.2[j]? with
      | none => rw [hu] at ha; simp at ha
      | some u =>
        rw [hu] at ha; simp at ha; subst ha
        exact back (hvs.2 j u c hu hcc) (hb1.imp id fun h9 => noSlB_at h9 i p h2 u (List.mem_of_getElem? hu))
    · exact .inl ⟨hlt, h1, hc.fx _ (.inl ⟨b, _, hn, h1, rfl⟩)⟩
  · have rowOf : ∀ (i : Nat) (x : Rw τ), m1.rw[i]? = some (some x) → ∃ ti inner, T x.e = some ti ∧ w'.ownsRow 0 x.e ti.sz (η1.r i) x.xs.length inner ∧ RowR T (Safe (backE η η1 m.bx.length bs.length m.rw.length) (mergeM m bs rs n m1)) w' ti (x.xs.map (T.row x.e)) inner := fun i x h2 => by
      obtain ⟨ti, inner, hT, ho, hR⟩ := hc.mr.rw _ x h2
      refine ⟨ti, inner, hT, ho, ?_⟩
      rcases hr1 with hl | h9
      · exact hR.mono fun k _ hk => hsafe1 hl k hk
      · obtain ⟨ti', hT', h10⟩ := noSlR_at h9 _ x h2
        rw [hT] at hT'; cases hT'
        refine ⟨hR.1, fun j row o lf lt v a b c d => (hR.2 j row o lf lt v a b c d).any ?_⟩
        cases hq : lt.isSl with
        | false => rfl
        | true => exact absurd (List.any_eq_true.2 ⟨lt, List.mem_of_getElem? c, hq⟩) (by rw [h10]; simp)
    rcases hrw' r x hr with ⟨h1, h2, h3⟩ | ⟨h1, i, y, z, _, _, _, h2, _, rfl, _, h3⟩ | ⟨h1, _, h2⟩
    · refine .inl ⟨h1, h3, eR r h1, fun k hk => ?_⟩
      cases hl : lend with
      | false => exact hc.fx k (.inr (.inl ⟨hl, r, x, h2, h3, hk⟩))
      | true => exact hc.agree.block k (hL0 hl r x k h3 h2 hk) (hSlt k (.inl (.inr ⟨r, x, h3, hk⟩)))
    · obtain ⟨ti, inner, hT, ho, hR⟩ := rowOf i z h2
      exact .inr ⟨ti, inner, hT, by rw [eR r h1, ← h3]; exact ho, hR⟩
    · obtain ⟨ti, inner, hT, ho, hR⟩ := rowOf _ x h2
      exact .inr ⟨ti, inner, hT, by rw [eR' r h1]; exact ho, hR⟩
  · intro b b' x x' h1 h2 e
    rcases hbx' b x h1 with ⟨i, p, a1, a2, a3, _⟩ | ⟨a1, a2, a3⟩ <;> rcases hbx' b' x' h2 with ⟨i', p', b1, b2, b3, _⟩ | ⟨b1, b2, b3⟩
    · rw [a2, b2] at e
      have := hc.mr.bb i i' _ _ a3 b3 e
      subst this
      exact a1.symm.trans b1
    · rw [a2, eB b' b1] at e
      exact absurd (hX1 _ (.inl ⟨b', _, b2, b3, rfl⟩)) (by rw [← e]; exact hc.mr.xb i _ a3)
    · rw [eB b a1, b2] at e
      exact absurd (hX1 _ (.inl ⟨b, _, a2, a3, rfl⟩)) (by rw [e]; exact hc.mr.xb i' _ b3)
    · rw [eB b a1, eB b' b1] at e
      exact hm.bb b b' _ _ a3 b3 e
  · intro b r x y h1 h2 e
    rcases hbx' b x h1 with ⟨i, p, a1, a2, a3, _⟩ | ⟨a1, a2, a3⟩
    · rw [a2] at e
      rcases hrw' r y h2 with ⟨h3, h4, h5⟩ | ⟨h3, i', y', z, _, _, _, h5, _, _, _, h6⟩ | ⟨h3, _, h4⟩
      · rw [eR r h3] at e
        cases hl : lend with
        | false => exact hc.mr.xb i _ a3 (hX1 _ (.inr (.inl ⟨hl, r, y, h4, h5, e⟩)))
        | true => exact hc.safe _ (hSlt _ (.inl (.inr ⟨r, y, h5, e⟩))) (hL0 hl r y _ h5 h4 e) (.inl (.inl ⟨i, _, a3, rfl⟩))
      · rw [eR r h3, ← h6] at e
        exact hc.mr.br i i' _ _ a3 h5 e
      · rw [eR' r h3] at e
        exact hc.mr.br i _ _ _ a3 h4 e
    · rw [eB b a1] at e
      rcases hrw' r y h2 with ⟨h3, h4, h5⟩ | ⟨h3, _, y', _, _, _, h5, _⟩ | ⟨h3, _, h4⟩
      · rw [eR r h3] at e; exact hm.br b r _ _ a3 h5 e
      · rw [eR r h3] at e; exact hm.br b r _ _ a3 h5 e
      · rw [eR' r h3] at e
        exact hc.mr.xr _ _ _ h4 e (hX1 _ (.inl ⟨b, _, a2, a3, rfl⟩))
  · have mix : ∀ (r r' : Nat) (x x' : Rw τ) (k : Nat), r < m.rw.length → r ∉ rs → m.rw[r]? = some (some x) → m1.rw[r']? = some (some x') → (η.r r).ownBlock = some k → (η1.r r').ownBlock = some k → False := fun r r' x x' k h1 h2 h3 h4 h5 h6 => by
      cases hl : lend with
      | false => exact hc.mr.xr _ _ k h4 h6 (hX1 k (.inr (.inl ⟨hl, r, x, h2, h3, h5⟩)))
      | true => exact hc.safe k (hSlt k (.inl (.inr ⟨r, x, h3, h5⟩))) (hL0 hl r x k h3 h2 h5) (.inl (.inr ⟨r', x', h4, h6⟩))
    intro r r' x x' k h1 h2 e1 e2
    rcases hrw' r x h1 with ⟨a1, a2, a3⟩ | ⟨a1, ia, ya, za, a4, a5, a3, a6, _, _, _, a7⟩ | ⟨a1, a4, a2⟩ <;> rcases hrw' r' x' h2 with ⟨b1, b2, b3⟩ | ⟨b1, ib, yb, zb, b4, b5, b3, b6, _, _, _, b7⟩ | ⟨b1, b4, b2⟩
    · rw [eR r a1] at e1; rw [eR r' b1] at e2; exact hm.rr r r' _ _ k a3 b3 e1 e2
    · rw [eR r a1] at e1; rw [eR r' b1] at e2; exact hm.rr r r' _ _ k a3 b3 e1 e2
    · rw [eR r a1] at e1; rw [eR' r' b1] at e2; exact (mix r _ x x' k a1 a2 a3 b2 e1 e2).elim
    · rw [eR r a1] at e1; rw [eR r' b1] at e2; exact hm.rr r r' _ _ k a3 b3 e1 e2
    · rw [eR r a1] at e1; rw [eR r' b1] at e2; exact hm.rr r r' _ _ k a3 b3 e1 e2
    · rw [eR r a1, ← a7] at e1; rw [eR' r' b1] at e2; have := hc.mr.rr _ _ _ _ k a6 b2 e1 e2; omega
    · rw [eR' r a1] at e1; rw [eR r' b1] at e2; exact (mix r' _ x' x k b1 b2 b3 a2 e2 e1).elim
    · rw [eR' r a1] at e1; rw [eR r' b1, ← b7] at e2; have := hc.mr.rr _ _ _ _ k a2 b6 e1 e2; omega
    · rw [eR' r a1] at e1; rw [eR' r' b1] at e2; have := hc.mr.rr _ _ _ _ k a2 b2 e1 e2; omega
  · intro b x h1
    rcases hbx' b x h1 with ⟨i, p, a1, a2, a3, _⟩ | ⟨a1, a2, a3⟩
    · rw [a2]
      exact fun hx => hc.mr.xb i _ a3 (hX1 _ (.inr (.inr hx)))
    · rw [eB b a1]; exact hm.xb b _ a3
  · intro r x k h1 e
    rcases hrw' r x h1 with ⟨a1, a2, a3⟩ | ⟨a1, _, y', _, _, _, a3, _⟩ | ⟨a1, _, a2⟩
    · rw [eR r a1] at e; exact hm.xr r _ k a3 e
    · rw [eR r a1] at e; exact hm.xr r _ k a3 e
    · rw [eR' r a1] at e; intro hx; exact hc.mr.xr _ _ k a2 e (hX1 k (.inr (.inr hx)))
end
end Am
