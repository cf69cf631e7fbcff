/- The abstract machine, part 24: calls. -/
import Derived.Test.YtkkmhlfpombgfaaAm23
set_option linter.unusedVariables false
set_option linter.unusedSectionVars false
set_option linter.unusedSimpArgs false
namespace Am
open Go
variable {τ : TypeId → Type}
/-- What a call leaves. -/
structure CallR (T : Tab τ) (n : Nat) (w : World) (m : Mem τ) (η : Eta) (w' : World) (m1 : Mem τ) (η1 : Eta) : Prop where
  mr : MR T w' η1 m1
  safe : ∀ k, k < w.heap.size → Safe η m k → Safe η1 m1 k
  agree : Agree (Safe η m) w w'
  x : η1.x = η.x
  fx : ∀ k, η.x k → w'.heap[k]? = w.heap[k]?
  bk : ∀ b, b < m.bx.length → η1.b b = η.b b
  bl : m.bx.length ≤ m1.bx.length
  rk : ∀ r, r < n → ∀ x', m1.rw[r]? = some (some x') → ∃ x, m.rw[r]? = some (some x) ∧ x.g ≤ x'.g ∧ (x'.g = x.g → x'.e = x.e ∧ η1.r r = η.r r)
abbrev Ctr (τ : TypeId → Type) (R : Type) := FuncId → List (AV τ) → Mem τ → (AV τ → Mem τ → Option R) → Option R
/-- A function of the program that is entered when it is called. -/
def Enters (P : Program) (f : FuncId) : Prop := ∃ fn, P.funcs[f]? = some fn ∧ (fn.name == "runtime.NumGoroutine") = false ∧ fn.body.isSome = true
/-- Contracts that hold. -/
def CtrOk (P : Program) (T : Tab τ) (pn : FuncId → Nat) {R : Type} (C : Ctr τ R) : Prop :=
  ∀ f args m k r, C f args m k = some r → Enters P f ∧ ∃ av m1, k av m1 = some r ∧ ∀ (w : World) (η : Eta) (vs : Array Value), MR T w η m → VRs T (Safe η m) w m η args vs.toList →
    Calls P f vs w (fun e w' => ∃ v η1, e = .returned v ∧ CallR T (pn f) w m η w' m1 η1 ∧ VR T (Safe η1 m1) w' m1 η1 av v)
/-- Where a row of the callee's is the caller's: one that stands where it stood, or a new one. -/
def homeA (m : Mem τ) (rs : List Nat) (n i g : Nat) : Option (Nat × Nat) := cond (Nat.blt i n)
  (match g, rs[i]? with
    | 0, some r => match m.rw[r]? with
      | some (some x) => some (r, x.g)
      | _ => none
    | _, _ => none)
  (some (m.rw.length + i, g))
/-- Where a variable of the callee's is the caller's. -/
def homeB (m : Mem τ) (bs : List Nat) (i : Nat) : Nat := match bs[i]? with
  | some c => c
  | none => m.bx.length + (i - bs.length)
mutual
def backV (m : Mem τ) (bs rs : List Nat) (n : Nat) : AV τ → AV τ
  | .own r g => match homeA m rs n r g with | some (r', g') => .own r' g' | none => .bad
  | .ptr b o => .ptr (homeB m bs b) o
  | .optr r g i o => match homeA m rs n r g with | some (r', g') => .optr r' g' i o | none => .bad
  | .xptr b o l i => .xptr (homeB m bs b) o l i
  | .agg vs => .agg (backL m bs rs n vs)
  | .tup vs => .tup (backL m bs rs n vs)
  | a => a
def backL (m : Mem τ) (bs rs : List Nat) (n : Nat) : List (AV τ) → List (AV τ)
  | [] => []
  | a :: as => backV m bs rs n a :: backL m bs rs n as
end
theorem backL_eq (m : Mem τ) (bs rs : List Nat) (n : Nat) : ∀ as : List (AV τ), backL m bs rs n as = as.map (backV m bs rs n)
  | [] => rfl
  | a :: as => by rw [backL, backL_eq m bs rs n as]; rfl
mutual
def noSl : AV τ → Bool
  | .sl _ _ => false
  | .eptr _ _ _ _ => false
  | .agg vs => noSls vs
  | .tup vs => noSls vs
  | _ => true
def noSls : List (AV τ) → Bool
  | [] => true
  | a :: as => noSl a && noSls as
end
theorem noSls_all : ∀ as : List (AV τ), noSls as = as.all noSl
  | [] => rfl
  | a :: as => by rw [noSls, noSls_all as]; rfl
def LT.isSl : LT → Bool | .sl _ => true | _ => false
def noSlB : List (Option (TypeId × List (AV τ))) → Bool
  | [] => true
  | some (_, vs) :: l => noSls vs && noSlB l
  | none :: l => noSlB l
def noSlR (T : Tab τ) : List (Option (Rw τ)) → Bool
  | [] => true
  | some x :: l => (match T x.e with | some ti => !ti.lts.any LT.isSl | none => false) && noSlR T l
  | none :: l => noSlR T l
def putBx (m : Mem τ) (bs0 rs : List Nat) (n : Nat) : List (Option (TypeId × List (AV τ))) → List Nat → List (Option (TypeId × List (AV τ))) → List (Option (TypeId × List (AV τ)))
  | l, b :: bs, some (t, vs) :: xs => putBx m bs0 rs n (l.set b (some (t, backL m bs0 rs n vs))) bs xs
  | l, b :: bs, none :: xs => putBx m bs0 rs n (l.set b none) bs xs
  | l, _, _ => l
/-- A row that stands where it stood: what stands in it now. -/
def stayR (old new : Option (Option (Rw τ))) : Option (Rw τ) := match old, new with
  | some (some y), some (some z) => cond (Nat.beq z.g 0) (some ⟨z.e, z.xs, y.g⟩) none
  | _, _ => none
def putR (m1 : List (Option (Rw τ))) (n : Nat) : Nat → List (Option (Rw τ)) → List Nat → List (Option (Rw τ))
  | _, l, [] => l
  | i, l, r :: rs => putR m1 n (i + 1) (l.set r (cond (Nat.blt i n) (stayR l[r]? m1[i]?) none)) rs
def hideR : Nat → List (Option (Rw τ)) → List (Option (Rw τ))
  | 0, l => l
  | n + 1, _ :: l => none :: hideR n l
  | _ + 1, [] => []
def liveB (m : Mem τ) : List Nat → Bool
  | [] => true
  | b :: bs => match m.bx[b]? with | some (some _) => liveB m bs | _ => false
def newBx (m : Mem τ) (bs rs : List Nat) (n : Nat) : List (Option (TypeId × List (AV τ))) → List (Option (TypeId × List (AV τ)))
  | [] => []
  | some (t, vs) :: l => some (t, backL m bs rs n vs) :: newBx m bs rs n l
  | none :: l => none :: newBx m bs rs n l
def mergeM (m : Mem τ) (bs rs : List Nat) (n : Nat) (m1 : Mem τ) : Mem τ := ⟨putBx m bs rs n m.bx bs m1.bx ++ newBx m bs rs n (m1.bx.drop bs.length), putR m1.rw n 0 m.rw rs ++ hideR n m1.rw⟩
def onlyB : List (Bool × Nat) → List (Bool × Nat)
  | [] => []
  | (true, b) :: l => (true, b) :: onlyB l
  | (false, _) :: l => onlyB l
section
variable {T : Tab τ} {P : Program} {by_ : TypeId → Nat} {w w' w2 w0 : World} {m m' m2 m0 m1 : Mem τ} {η η' η2 η0 η1 : Eta} {tm : List (AV τ)} {S S' : Nat → Prop} {nb : NB} {s : St τ} {ts : Array Value}
theorem putBx_at {m : Mem τ} {bs0 rs : List Nat} {n : Nat} : ∀ {bs : List Nat} {xs l : List (Option (TypeId × List (AV τ)))} {b : Nat} {y : TypeId × List (AV τ)}, bs.length ≤ xs.length → (putBx m bs0 rs n l bs xs)[b]? = some (some y) →
    (∃ (i : Nat) (p : TypeId × List (AV τ)), bs[i]? = some b ∧ xs[i]? = some (some p) ∧ y = (p.1, p.2.map (backV m bs0 rs n))) ∨ (b ∉ bs ∧ l[b]? = some (some y))
  | [], xs, l, b, y, hl, h => by
    right
    refine ⟨by simp, ?_⟩
    cases xs <;> simpa [putBx] using h
  | c :: bs, [], l, b, y, hl, h => by simp at hl
  | c :: bs, some (t, vs) :: xs, l, b, y, hl, h => by
    unfold putBx at h
    rcases putBx_at (by simpa using hl) h with ⟨i, p, h1, h2, h3⟩ | ⟨h1, h2⟩
    · exact .inl ⟨i + 1, p, by simpa using h1, by simpa using h2, h3⟩
    · rcases getElem?_set' h2 with ⟨rfl, e, _⟩ | ⟨hne, h2⟩
      · cases e; exact .inl ⟨0, (t, vs), rfl, rfl, by rw [backL_eq]⟩
      · exact .inr ⟨by simp [Ne.symm hne, h1], h2⟩
  | c :: bs, none :: xs, l, b, y, hl, h => by
    unfold putBx at h
    rcases putBx_at (by simpa using hl) h with ⟨i, p, h1, h2, h3⟩ | ⟨h1, h2⟩
    · exact .inl ⟨i + 1, p, by simpa using h1, by simpa using h2, h3⟩
    · rcases getElem?_set' h2 with ⟨rfl, e, _⟩ | ⟨hne, h2⟩
      · cases e
      · exact .inr ⟨by simp [Ne.symm hne, h1], h2⟩
theorem putBx_len {m : Mem τ} {bs0 rs : List Nat} {n : Nat} : ∀ (bs : List Nat) (xs l : List (Option (TypeId × List (AV τ)))), (putBx m bs0 rs n l bs xs).length = l.length
  | [], xs, l => by cases xs <;> simp [putBx]
  | c :: bs, [], l => by simp [putBx]
  | c :: bs, some (t, vs) :: xs, l => by unfold putBx; rw [putBx_len bs xs]; simp
  | c :: bs, none :: xs, l => by unfold putBx; rw [putBx_len bs xs]; simp
theorem newBx_at {m : Mem τ} {bs rs : List Nat} {n : Nat} : ∀ {l : List (Option (TypeId × List (AV τ)))} {b : Nat} {y : TypeId × List (AV τ)}, (newBx m bs rs n l)[b]? = some (some y) → ∃ p : TypeId × List (AV τ), l[b]? = some (some p) ∧ y = (p.1, p.2.map (backV m bs rs n))
  | [], b, y, h => by simp [newBx] at h
  | some (t, vs) :: l, b, y, h => by
    unfold newBx at h
    cases b with
    | zero => simp at h; subst h; exact ⟨(t, vs), rfl, by rw [backL_eq]⟩
    | succ b => obtain ⟨p, h1, h2⟩ := newBx_at (l := l) (b := b) (by simpa using h); exact ⟨p, by simpa using h1, h2⟩
  | none :: l, b, y, h => by
    unfold newBx at h
    cases b with
    | zero => simp at h
    | succ b => obtain ⟨p, h1, h2⟩ := newBx_at (l := l) (b := b) (by simpa using h); exact ⟨p, by simpa using h1, h2⟩
theorem newBx_len {m : Mem τ} {bs rs : List Nat} {n : Nat} : ∀ (l : List (Option (TypeId × List (AV τ)))), (newBx m bs rs n l).length = l.length
  | [] => rfl
  | some (t, vs) :: l => by simp [newBx, newBx_len l]
  | none :: l => by simp [newBx, newBx_len l]
theorem putR_len {m1 : List (Option (Rw τ))} {n : Nat} : ∀ (rs : List Nat) (i : Nat) (l : List (Option (Rw τ))), (putR m1 n i l rs).length = l.length
  | [], i, l => rfl
  | c :: rs, i, l => by unfold putR; rw [putR_len rs]; simp
theorem putR_at {m1 : List (Option (Rw τ))} {n : Nat} : ∀ {rs : List Nat} {i : Nat} {l : List (Option (Rw τ))} {r : Nat} {x : Rw τ}, nodupA rs = true → (putR m1 n i l rs)[r]? = some (some x) →
    (r ∉ rs ∧ l[r]? = some (some x)) ∨ (∃ j y z, rs[j]? = some r ∧ i + j < n ∧ l[r]? = some (some y) ∧ m1[i + j]? = some (some z) ∧ z.g = 0 ∧ x = ⟨z.e, z.xs, y.g⟩)
  | [], i, l, r, x, _, h => .inl ⟨by simp, h⟩
  | c :: rs, i, l, r, x, hn, h => by
    unfold putR at h
    have hn2 : nodupA rs = true ∧ c ∉ rs := by
      unfold nodupA at hn
      cases hs : (idxA c rs).isSome with
      | true => rw [hs] at hn; simp at hn
      | false => rw [hs] at hn; exact ⟨by simpa using hn, idxA_none (by simpa using hs)⟩
    rcases putR_at hn2.1 h with ⟨h1, h2⟩ | ⟨j, y, z, h1, h2, h3, h4, h5, h6⟩
    · rcases getElem?_set' h2 with ⟨rfl, e, _⟩ | ⟨hne, h2⟩
      · cases hb : Nat.blt i n with
        | false => rw [hb] at e; cases e
        | true =>
          rw [hb] at e
          simp only [cond_true] at e
          unfold stayR at e
          split at e
          · rename_i y z hy hz
            cases hg : Nat.beq z.g 0 with
            | false => rw [hg] at e; cases e
            | true =>
              rw [hg] at e
              simp only [cond_true] at e
              cases e
              rw [Nat.blt_eq] at hb
              exact .inr ⟨0, y, z, rfl, hb, hy, hz, Nat.eq_of_beq_eq_true hg, rfl⟩
          · cases e
      · exact .inl ⟨by simp [Ne.symm hne, h1], h2⟩
    · have hr : r ∈ rs := List.mem_of_getElem? h1
      have hne : c ≠ r := fun e => hn2.2 (e ▸ hr)
      rw [List.getElem?_set_ne hne] at h3
      rw [Nat.add_assoc, Nat.add_comm 1 j] at h2 h4
      exact .inr ⟨j + 1, y, z, by simpa using h1, h2, h3, h4, h5, h6⟩
theorem hideR_at : ∀ {n : Nat} {l : List (Option (Rw τ))} {r : Nat} {x : Rw τ}, (hideR n l)[r]? = some (some x) → n ≤ r ∧ l[r]? = some (some x)
  | 0, l, r, x, h => ⟨Nat.zero_le _, h⟩
  | n + 1, [], r, x, h => by simp [hideR] at h
  | n + 1, y :: l, r, x, h => by
    unfold hideR at h
    cases r with
    | zero => simp at h
    | succ r => obtain ⟨h1, h2⟩ := hideR_at (by simpa using h); exact ⟨by omega, by simpa using h2⟩
theorem hideR_len : ∀ (n : Nat) (l : List (Option (Rw τ))), (hideR n l).length = l.length
  | 0, l => rfl
  | n + 1, [] => rfl
  | n + 1, y :: l => by simp [hideR, hideR_len n l]
theorem liveB_at : ∀ {bs : List Nat}, liveB m bs = true → ∀ b ∈ bs, ∃ y, m.bx[b]? = some (some y)
  | [], _, b, hb => by simp at hb
  | c :: bs, h, b, hb => by
    unfold liveB at h
    split at h
    · rename_i y hy
      rcases List.mem_cons.1 hb with rfl | hb
      · exact ⟨y, hy⟩
      · exact liveB_at h b hb
    · cases h
theorem noSlB_at : ∀ {l : List (Option (TypeId × List (AV τ)))}, noSlB l = true → ∀ (i : Nat) (p : TypeId × List (AV τ)), l[i]? = some (some p) → ∀ a ∈ p.2, noSl a = true
  | [], _, i, p, h, _, _ => by simp at h
  | some (t, vs) :: l, hn, i, p, h, a, ha => by
    simp only [noSlB, Bool.and_eq_true] at hn
    cases i with
    | zero => simp at h; subst h; rw [noSls_all] at hn; exact List.all_eq_true.1 hn.1 a ha
    | succ i => exact noSlB_at hn.2 i p (by simpa using h) a ha
  | none :: l, hn, i, p, h, a, ha => by
    simp only [noSlB] at hn
    cases i with
    | zero => simp at h
    | succ i => exact noSlB_at hn i p (by simpa using h) a ha
theorem noSlR_at : ∀ {l : List (Option (Rw τ))}, noSlR T l = true → ∀ (i : Nat) (x : Rw τ), l[i]? = some (some x) → ∃ ti, T x.e = some ti ∧ ti.lts.any LT.isSl = false
  | [], _, i, x, h => by simp at h
  | some y :: l, hn, i, x, h => by
    simp only [noSlR, Bool.and_eq_true] at hn
    cases i with
    | zero =>
      simp at h; subst h
      split at hn
      · rename_i ti hT; exact ⟨ti, hT, by simpa using hn.1⟩
      · simp at hn
    | succ i => exact noSlR_at hn.2 i x (by simpa using h)
  | none :: l, hn, i, x, h => by
    simp only [noSlR] at hn
    cases i with
    | zero => simp at h
    | succ i => exact noSlR_at hn i x (by simpa using h)
/-- A cell that is no slice is what it is whatever is written. -/
theorem LR.any {lt : LT} {lf : Lf τ} {v : Value} (h : LR T S w lt lf v) (hn : lt.isSl = false) : LR T S' w lt lf v := by
  cases h with
  | int k n => exact .int k n
  | bool b => exact .bool b
  | str s => exact .str s
  | sl => simp [LT.isSl] at hn
end
end Am
