/- The abstract machine, part 23: what is known at a place of a function; forgetting. -/
import Derived.Test.YtkkmhlfpombgfaaAm22
set_option linter.unusedVariables false
set_option linter.unusedSectionVars false
set_option linter.unusedSimpArgs false
namespace Am
open Go
variable {τ : TypeId → Type}
/-- How many variables and rows were handed in, to stand where they stand. -/
structure NB where
  b : Nat
  r : Nat
/-- What a state of the machine is, in a function that was entered in w0 with the memory m0, of which the first variables and rows were handed in. -/
structure AtR (T : Tab τ) (w0 : World) (η0 : Eta) (m0 : Mem τ) (nb : NB) (w : World) (s : St τ) (ts : Array Value) (η : Eta) : Prop where
  mr : MR T w η s.m
  tr : TR T w s.m η s.tm ts
  safe : ∀ k, k < w0.heap.size → Safe η0 m0 k → Safe η s.m k
  agree : Agree (Safe η0 m0) w0 w
  x : η.x = η0.x
  fx : ∀ k, η0.x k → w.heap[k]? = w0.heap[k]?
  bk : ∀ b, b < nb.b → η.b b = η0.b b
  bl : nb.b ≤ s.m.bx.length
  rk : ∀ r, r < nb.r → ∀ x', s.m.rw[r]? = some (some x') → ∃ x, m0.rw[r]? = some (some x) ∧ x.g ≤ x'.g ∧ (x'.g = x.g → x'.e = x.e ∧ η.r r = η0.r r)
  rl : nb.r ≤ s.m.rw.length
def At (T : Tab τ) (w0 : World) (η0 : Eta) (m0 : Mem τ) (nb : NB) (w : World) (s : St τ) (ts : Array Value) : Prop := ∃ η, AtR T w0 η0 m0 nb w s ts η
def maskA : Nat → List Nat → List (AV τ) → List (AV τ)
  | _, _, [] => []
  | i, [], _ :: vs => .bad :: maskA (i + 1) [] vs
  | i, k :: ks, v :: vs => cond (Nat.beq i k) (v :: maskA (i + 1) ks vs) (.bad :: maskA (i + 1) (k :: ks) vs)
mutual
def refsV (m : Mem τ) : AV τ → List (Bool × Nat)
  | .own r g => match m.valid r g with | some _ => [(false, r)] | none => []
  | .optr r g _ _ => match m.valid r g with | some _ => [(false, r)] | none => []
  | .ptr b _ => [(true, b)]
  | .xptr b _ _ _ => [(true, b)]
  | .agg vs => refsL m vs
  | .tup vs => refsL m vs
  | _ => []
def refsL (m : Mem τ) : List (AV τ) → List (Bool × Nat)
  | [] => []
  | a :: as => refsV m a ++ refsL m as
end
def addId (l : List Nat) (x : Nat) : List Nat := cond (idxA x l).isSome l (l ++ [x])
def addRefs : List (Bool × Nat) → List Nat → List Nat → List Nat × List Nat
  | [], bs, rs => (bs, rs)
  | (true, b) :: l, bs, rs => addRefs l (addId bs b) rs
  | (false, r) :: l, bs, rs => addRefs l bs (addId rs r)
def closeA (m : Mem τ) : Nat → Nat → List Nat → List Nat → List Nat × List Nat
  | 0, _, bs, rs => (bs, rs)
  | f + 1, i, bs, rs => match bs[i]? with
    | none => (bs, rs)
    | some b => match m.bx[b]? with
      | some (some (_, vs)) => match addRefs (refsL m vs) bs rs with
        | (bs', rs') => closeA m f (i + 1) bs' rs'
      | _ => closeA m f (i + 1) bs rs
def rangeA : Nat → Nat → List Nat → Bool
  | _, 0, _ => true
  | i, n + 1, b :: bs => cond (Nat.beq b i) (rangeA (i + 1) n bs) false
  | _, _ + 1, [] => false
def upto : Nat → Nat → List Nat
  | _, 0 => []
  | i, n + 1 => i :: upto (i + 1) n
/-- What is not looked at again is forgotten; variables and rows are counted anew. -/
def zeroG : Nat → List (Option (Rw τ)) → Bool
  | 0, _ => true
  | n + 1, some x :: l => Nat.beq x.g 0 && zeroG n l
  | n + 1, none :: l => zeroG n l
  | _ + 1, [] => true
def normA (nb : NB) (keep : List Nat) (s : St τ) : St τ :=
  match addRefs (refsL s.m (maskA 0 keep s.tm)) (upto 0 nb.b) (upto 0 nb.r) with
  | (bs0, rs0) => match closeA s.m 64 0 bs0 rs0 with
    | (bs, rs) => cond (nodupA bs && (nodupA rs && (rangeA 0 nb.b bs && (rangeA 0 nb.r rs && zeroG nb.r s.m.rw)))) ⟨AV.rens s.m bs rs false (maskA 0 keep s.tm), s.m.view bs rs false⟩ ⟨maskA 0 keep s.tm, s.m⟩
section
variable {T : Tab τ} {P : Program} {by_ : TypeId → Nat} {w w' w2 w0 : World} {m m' m2 m0 : Mem τ} {η η' η2 η0 : Eta} {tm : List (AV τ)} {S S' : Nat → Prop} {nb : NB} {s : St τ} {ts : Array Value}
theorem maskA_len : ∀ (i : Nat) (ks : List Nat) (vs : List (AV τ)), (maskA i ks vs).length = vs.length
  | _, _, [] => rfl
  | i, [], _ :: vs => by simp [maskA, maskA_len (i + 1) [] vs]
  | i, k :: ks, v :: vs => by
    unfold maskA
    cases Nat.beq i k <;> simp [maskA_len (i + 1) _ vs]
theorem maskA_at : ∀ (i : Nat) (ks : List Nat) (vs : List (AV τ)) (j : Nat), (maskA i ks vs).getD j .bad = .bad ∨ (maskA i ks vs).getD j .bad = vs.getD j .bad
  | _, _, [], j => .inl (by simp [maskA])
  | i, [], v :: vs, j => by
    unfold maskA
    cases j with
    | zero => left; rfl
    | succ j => simpa using maskA_at (i + 1) [] vs j
  | i, k :: ks, v :: vs, j => by
    unfold maskA
    cases Nat.beq i k <;> cases j
    · left; rfl
    · simpa using maskA_at (i + 1) (k :: ks) vs _
    · right; rfl
    · simpa using maskA_at (i + 1) ks vs _
theorem TR.mask (h : TR T w m η tm ts) (keep : List Nat) : TR T w m η (maskA 0 keep tm) ts := by
  refine ⟨by rw [maskA_len]; exact h.len, fun i => ?_⟩
  rcases maskA_at 0 keep tm i with e | e
  · rw [e]; exact .bad _
  · rw [e]; exact h.at_ i
theorem rangeA_at : ∀ {n i : Nat} {l : List Nat}, rangeA i n l = true → ∀ j, j < n → l[j]? = some (i + j)
  | 0, _, _, _, j, h => by omega
  | n + 1, i, [], h, _, _ => by simp [rangeA] at h
  | n + 1, i, b :: bs, h, j, hj => by
    unfold rangeA at h
    cases hb : Nat.beq b i with
    | false => rw [hb] at h; simp at h
    | true =>
      rw [hb] at h; simp only [cond_true] at h
      have := Nat.eq_of_beq_eq_true hb
      cases j with
      | zero => simp [this]
      | succ j => have := rangeA_at h j (by omega); simp [this]; omega
theorem zeroG_at : ∀ {n : Nat} {l : List (Option (Rw τ))}, zeroG n l = true → ∀ r x, r < n → l[r]? = some (some x) → x.g = 0
  | 0, _, _, r, x, h, _ => by omega
  | n + 1, [], _, r, x, _, h => by simp at h
  | n + 1, some y :: l, hz, r, x, hr, hx => by
    simp only [zeroG, Bool.and_eq_true] at hz
    cases r with
    | zero => simp at hx; subst hx; exact Nat.eq_of_beq_eq_true hz.1
    | succ r => exact zeroG_at hz.2 r x (by omega) (by simpa using hx)
  | n + 1, none :: l, hz, r, x, hr, hx => by
    simp only [zeroG] at hz
    cases r with
    | zero => simp at hx
    | succ r => exact zeroG_at hz r x (by omega) (by simpa using hx)
theorem normA_sound (h : At T w0 η0 m0 nb w s ts) (keep : List Nat) : At T w0 η0 m0 nb w (normA nb keep s) ts := by
  obtain ⟨η, h⟩ := h
  have htr := h.tr.mask keep
  unfold normA
  split
  split
  rename_i bs rs _
  cases hc : (nodupA bs && (nodupA rs && (rangeA 0 nb.b bs && (rangeA 0 nb.r rs && zeroG nb.r s.m.rw)))) with
  | false => exact ⟨η, h.mr, htr, h.safe, h.agree, h.x, h.fx, h.bk, h.bl, h.rk, h.rl⟩
  | true =>
    simp only [Bool.and_eq_true] at hc
    obtain ⟨hb, hr, hn, hn2, hz⟩ := hc
    have hS : ∀ k, k < w.heap.size → Safe η s.m k → Safe (η.view bs rs η.x) (s.m.view bs rs false) k := fun k _ hs ho => by
      rcases view_owned h.mr ho with ⟨b, y, _, h1, h2⟩ | ⟨r, y, _, h1, h2⟩ | hx
      · exact hs (.inl (.inl ⟨b, y, h1, h2⟩))
      · exact hs (.inl (.inr ⟨r, y, h1, h2⟩))
      · exact hs (.inr hx)
    have hlf : (false = true) → ∀ (r : Nat) (y : Rw τ) (k : Nat), s.m.rw[r]? = some (some y) → r ∉ rs → (η.r r).ownBlock = some k → Safe (η.view bs rs η.x) (s.m.view bs rs false) k := fun e => by cases e
    rw [cond_true]
    refine ⟨η.view bs rs η.x, ?_, ⟨?_, fun i => ?_⟩, fun k hk hs => ?_, h.agree, h.x, h.fx, fun b hb' => ?_, ?_, fun r hr' x' hx' => ?_, ?_⟩
    · exact h.mr.view hb hr hS hlf (fun b y _ h1 => h.mr.xb b y h1) (fun r y k _ h1 h2 => h.mr.xr r y k h1 h2) h.mr.xl
    · rw [AV.rens_eq, List.length_map]; exact htr.len
    · have := (htr.at_ i).ren (bs := bs) (rs := rs) (lend := false) (x := η.x) h.mr hS hlf
      rw [AV.rens_eq]
      rw [List.getD_eq_getElem?_getD] at this ⊢
      rw [List.getElem?_map]
      cases hi : (maskA 0 keep s.tm)[i]? with
      | none => exact .bad _
      | some a => rw [hi] at this; simpa using this
    · exact hS k (Nat.lt_of_lt_of_le hk h.agree.size) (h.safe k hk hs)
    · show η.b (bs.getD b 0) = _
      have := rangeA_at hn b hb'
      rw [Nat.zero_add] at this
      rw [getD_of_some this]; exact h.bk b hb'
    · show nb.b ≤ (viewB s.m bs rs false bs).length
      rw [viewB_len]
      rcases Nat.eq_zero_or_pos nb.b with h0 | h0
      · omega
      · have := some_lt (rangeA_at hn (nb.b - 1) (by omega)); omega
    · obtain ⟨r', y, e1, e2, e3⟩ := viewR_at (m := s.m) (l := rs) hx'
      have hr2 := rangeA_at hn2 r hr'
      rw [Nat.zero_add] at hr2
      rw [hr2] at e1; cases e1
      have hg := zeroG_at hz r y hr' e2
      obtain ⟨x, a1, a2, a3⟩ := h.rk r hr' y e2
      subst e3
      refine ⟨x, a1, by omega, fun e => ?_⟩
      obtain ⟨b1, b2⟩ := a3 (by simp only at e; omega)
      refine ⟨b1, ?_⟩
      show η.r (rs.getD r 0) = _
      rw [getD_of_some hr2]; exact b2
    · show nb.r ≤ (viewR s.m rs).length
      rw [viewR_len]
      rcases Nat.eq_zero_or_pos nb.r with h0 | h0
      · omega
      · have := some_lt (rangeA_at hn2 (nb.r - 1) (by omega)); omega
/-- A step of memory, at a place. -/
theorem AtR.step {η : Eta} (h : AtR T w0 η0 m0 nb w s ts η) (k : Step T w s.m η w' m' η') {tm' : List (AV τ)} {ts' : Array Value} (ht : TR T w' m' η' tm' ts') : AtR T w0 η0 m0 nb w' ⟨tm', m'⟩ ts' η' := by
  refine ⟨k.mr, ht, fun b hb hs => k.safe b (Nat.lt_of_lt_of_le hb h.agree.size) (h.safe b hb hs), ?_, k.x.trans h.x, fun b hb => ?_, fun b hb => ?_, Nat.le_trans h.bl k.later.bl, fun r hr x' hx' => ?_, Nat.le_trans h.rl k.later.rl⟩
  · refine ⟨k.agree.os.trans h.agree.os, k.agree.tape.trans h.agree.tape, k.agree.output.trans h.agree.output, Nat.le_trans h.agree.size k.agree.size, fun b hs hl => ?_⟩
    rw [k.agree.block b (h.safe b hl hs) (Nat.lt_of_lt_of_le hl h.agree.size), h.agree.block b hs hl]
  · rw [k.fx b (by rw [h.x]; exact hb), h.fx b hb]
  · rw [k.later.b b (Nat.lt_of_lt_of_le hb h.bl), h.bk b hb]
  · obtain ⟨y, e1, e2, e3⟩ := k.later.r r (Nat.lt_of_lt_of_le hr h.rl) x' hx'
    obtain ⟨x, a1, a2, a3⟩ := h.rk r hr y e1
    refine ⟨x, a1, Nat.le_trans a2 e2, fun e => ?_⟩
    obtain ⟨b1, b2⟩ := e3 (by omega)
    obtain ⟨c1, c2⟩ := a3 (by omega)
    exact ⟨b1.trans c1, b2.trans c2⟩
theorem At.step {η : Eta} (h : AtR T w0 η0 m0 nb w s ts η) (k : Step T w s.m η w' m' η') {tm' : List (AV τ)} {ts' : Array Value} (ht : TR T w' m' η' tm' ts') : At T w0 η0 m0 nb w' ⟨tm', m'⟩ ts' := ⟨η', h.step k ht⟩
/-- A draw changes nothing of it. -/
theorem At.drew (h : At T w0 η0 m0 nb w s ts) (n : Nat) : At T w0 η0 m0 nb { w with drawn := n } s ts := by
  obtain ⟨η, h⟩ := h
  have ha : Agree (fun _ => True) w { w with drawn := n } := ⟨rfl, rfl, rfl, Nat.le_refl _, fun _ _ _ => rfl⟩
  refine ⟨η, h.mr.agree ha, ⟨h.tr.len, fun i => (h.tr.at_ i).agree (ha.mono fun _ _ => trivial)⟩, h.safe, ⟨h.agree.os, h.agree.tape, h.agree.output, h.agree.size, h.agree.block⟩, h.x, h.fx, h.bk, h.bl, h.rk, h.rl⟩
end
end Am
