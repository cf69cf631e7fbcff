/- The pure law of FnExactCertFold: what the law's function of numbers and lists answers is true, for every input. Its condition: none but what the row says. -/
import Derived.Test.YtkkmhlfpombgfaaPFnExactCertFoldx4
namespace Go.Proofs.Ytkkmhlfpombgfaa.Pure
open Go.RowKit Go.Proofs.Ytkkmhlfpombgfaa.PFnExactCertFold Go.Proofs.YtkkmhlfpombgfaaW.PrintWords Go.Proofs.YtkkmhlfpombgfaaW.PrintLast
set_option linter.unusedVariables false
set_option linter.unusedSimpArgs false
set_option linter.unusedSectionVars false

theorem wrap_succ {i n : Nat} (h : i < n) (hn : n ≤ 9223372036854775807) : wrap64 ((i : Int) + 1) = ((i + 1 : Nat) : Int) := by unfold wrap64; omega
theorem wrap_id {a : Int} (h0 : -9223372036854775808 ≤ a) (h1 : a ≤ 9223372036854775807) : wrap64 a = a := by unfold wrap64; omega
theorem ev_pos {α : Type} {c : Prop} [Decidable c] {f g : Nat → Option α} {r : α} (h : c) (e : Ev f r) : Ev (fun k => if c then f k else g k) r := by
  simp only [if_pos h]; exact e
theorem ev_neg {α : Type} {c : Prop} [Decidable c] {f g : Nat → Option α} {r : α} (h : ¬ c) (e : Ev g r) : Ev (fun k => if c then f k else g k) r := by
  simp only [if_neg h]; exact e
theorem ev_ite {α : Type} {c : Prop} [Decidable c] {f g : Nat → Option α} {r : α} (h1 : c → Ev f r) (h2 : ¬ c → Ev g r) : Ev (fun k => if c then f k else g k) r := by
  by_cases h : c
  · exact ev_pos h (h1 h)
  · exact ev_neg h (h2 h)
theorem ev_now {α : Type} (r : α) : Ev (fun _ => some r) r := Ev.now r
theorem ev_get {α β : Type} {g : Option α} {f : Nat → α → Option β} {a : α} {r : β} (h : g = some a) (k : Ev (fun n => f n a) r) : Ev (fun n => g.bind (f n)) r := by
  subst h; exact k
/-- A loop over 0 .. n - 1: what it answers from i on. -/
theorem ev_loop {α : Type} (n : Nat) (F : Nat → Nat → Option α) (v : Nat → α) (step : ∀ i, i < n → Ev (F (i + 1)) (v (i + 1)) → Ev (F i) (v i)) (last : Ev (F n) (v n)) : ∀ i, i ≤ n → Ev (F i) (v i) := by
  have key : ∀ d i, i + d = n → Ev (F i) (v i) := by
    intro d
    induction d with
    | zero => intro i h; obtain rfl : i = n := by omega
              exact last
    | succ d ih => intro i h; exact step i (by omega) (ih (i + 1) (by omega))
  exact fun i hi => key (n - i) i (by omega)
theorem lt_cast {i n : Nat} (h : i < n) : (i : Int) < (n : Int) := Int.ofNat_lt.2 h
theorem nn_cast (i : Nat) : (0 : Int) ≤ (i : Int) := Int.natCast_nonneg i
theorem set_state {α : Type} (xs : List α) (z : α) (i : Nat) (h : i < xs.length) : (xs.take i ++ List.replicate (xs.length - i) z).set i xs[i] = xs.take (i + 1) ++ List.replicate (xs.length - (i + 1)) z := by
  rw [List.take_succ_eq_append_getElem h, List.append_assoc, List.set_append_right _ _ (by rw [List.length_take]; omega)]
  congr 1
  rw [List.length_take, Nat.min_eq_left (by omega), Nat.sub_self, show xs.length - i = (xs.length - (i + 1)) + 1 by omega, List.replicate_succ]
  rfl
theorem state_len {α : Type} (xs : List α) (z : α) (i : Nat) (h : i ≤ xs.length) : (xs.take i ++ List.replicate (xs.length - i) z).length = xs.length := by
  rw [List.length_append, List.length_take, List.length_replicate]; omega
theorem drop_eq {α : Type} {x y : List α} (hl : x.length = y.length) {i : Nat} (h : i < x.length) : (x.drop i = y.drop i) ↔ (x[i] = y[i]'(hl ▸ h) ∧ x.drop (i + 1) = y.drop (i + 1)) := by
  have h2 : i < y.length := hl ▸ h
  rw [List.drop_eq_getElem_cons h, List.drop_eq_getElem_cons h2, List.cons.injEq]
theorem mem_split {α : Type} {p : α → Prop} {l : List α} {i : Nat} (h : i < l.length) : (∀ b ∈ l.drop i, p b) ↔ p l[i] ∧ ∀ b ∈ l.drop (i + 1), p b := by
  rw [List.drop_eq_getElem_cons h]
  simp only [List.mem_cons, forall_eq_or_imp]
/-- A call in a run, whose answer is known. -/
theorem cx {ρ : Type} {p : Nat → Option ρ} {q : ρ → Option Unit} {t : ρ} (h : Ev p t) (hq : q t = some ()) : Am.callX p q = some () := by
  obtain ⟨K, hK⟩ := h
  exact Am.callX_of (hK K (Nat.le_refl _)) hq
theorem ext_Done {a b : S84} (h0 : a.f0.f0 = b.f0.f0) (h1 : a.f0.f1 = b.f0.f1) (h2 : a.f1 = b.f1) (h3 : a.f2 = b.f2) : a = b := by
  obtain ⟨⟨a0_, a1_⟩, a2_, a3_⟩ := a; obtain ⟨⟨b0_, b1_⟩, b2_, b3_⟩ := b; simp_all
theorem rdi_Done {l : List S84} {i : Nat} (h : i < l.length) : rd_T84 l (i : Int) = l[i] := by
  unfold rd_T84
  rw [Int.toNat_natCast, List.getD_eq_getElem?_getD, List.getElem?_eq_getElem h]
  rfl

def reqIn (a b : Int) : Prop := (0 ≤ a ∧ a ≤ 2) ∧ (1 ≤ b ∧ b ≤ 1000)
instance (a b : Int) : Decidable (reqIn a b) := by unfold reqIn; infer_instance

/-- Boxes, as the document has them. -/
def boxIn (b : S37) : Prop := 0 ≤ b.f0 ∧ b.f0 ≤ 1000000 ∧ -1000000 ≤ b.f1 ∧ b.f1 ≤ 1000000
def boxOk (l : List S37) : Prop := l.length = 4 ∧ ∀ b ∈ l, boxIn b
theorem rd_box {l : List S37} {i : Nat} (h : i < l.length) : rd_T37 l (i : Int) = l[i] := by
  unfold rd_T37
  rw [Int.toNat_natCast, List.getD_eq_getElem?_getD, List.getElem?_eq_getElem h]
  rfl
def dGood (d : S84) : Prop := reqIn d.f0.f0 d.f0.f1 ∧ (0 ≤ d.f1 ∧ d.f1 ≤ 2) ∧ (-1000000 ≤ d.f2 ∧ d.f2 ≤ 1000000) ∧ (d.f1 ≠ 0 → d.f2 = 0)
/-- From place i on: each is good, and its node stands behind the one ahead of it. -/
def donesFrom (l : List S84) (i : Nat) : Prop := ∀ j (h : j < l.length), i ≤ j → dGood l[j] ∧ ∀ (h0 : 0 < j), (l[j - 1]'(by omega)).f0.f0 < (l[j]).f0.f0
theorem donesFrom_step (l : List S84) {i : Nat} (h : i < l.length) : donesFrom l i ↔ (dGood l[i] ∧ ∀ (h0 : 0 < i), (l[i - 1]'(by omega)).f0.f0 < (l[i]).f0.f0) ∧ donesFrom l (i + 1) := by
  constructor
  · intro g
    exact ⟨g i h (Nat.le_refl _), fun j hj hij => g j hj (by omega)⟩
  · rintro ⟨a, b⟩ j hj hij
    by_cases e : j = i
    · subst e; exact a
    · exact b j hj (by omega)
theorem donesFrom_end (l : List S84) : donesFrom l l.length := fun j hj hij => absurd hij (by omega)
/-- A state that is right. -/
def stateOk (a : Int) (x : List S37) (y : List S84) : Prop := (0 ≤ a ∧ a ≤ 40) ∧ boxOk x ∧ donesFrom y 0

/-- From place i on: each names a box, is good, and names none that stands ahead of it. -/
def okFrom {α : Type} (key : α → Int) (good : α → Prop) (l : List α) (i : Nat) : Prop := ∀ j (h : j < l.length), i ≤ j → (0 ≤ key l[j] ∧ key l[j] ≤ 3) ∧ good l[j] ∧ key l[j] ∉ (l.take j).map key
theorem okFrom_step {α : Type} (key : α → Int) (good : α → Prop) (l : List α) {i : Nat} (h : i < l.length) :
    okFrom key good l i ↔ ((0 ≤ key l[i] ∧ key l[i] ≤ 3) ∧ good l[i] ∧ key l[i] ∉ (l.take i).map key) ∧ okFrom key good l (i + 1) := by
  constructor
  · intro g
    exact ⟨g i h (Nat.le_refl _), fun j hj hij => g j hj (by omega)⟩
  · rintro ⟨a, b⟩ j hj hij
    by_cases e : j = i
    · subst e; exact a
    · exact b j hj (by omega)
theorem okFrom_end {α : Type} (key : α → Int) (good : α → Prop) (l : List α) : okFrom key good l l.length := fun j hj hij => absurd hij (by omega)
/-- Which boxes are named in the first i. -/
noncomputable def namedIn {α : Type} (key : α → Int) (l : List α) (i : Nat) (b : Int) : Bool := @decide (b ∈ (l.take i).map key) (Classical.propDecidable _)
theorem namedIn_iff {α : Type} (key : α → Int) (l : List α) (i : Nat) (b : Int) : namedIn key l i b = true ↔ b ∈ (l.take i).map key := by
  unfold namedIn
  exact @decide_eq_true_iff _ (Classical.propDecidable _)
theorem namedIn_zero {α : Type} (key : α → Int) (l : List α) (b : Int) : namedIn key l 0 b = false := by
  rw [Bool.eq_false_iff]
  intro h
  rw [namedIn_iff] at h
  simp at h
theorem namedIn_succ {α : Type} (key : α → Int) (l : List α) {i : Nat} (h : i < l.length) (b : Int) : ixB (key l[i]) b true (namedIn key l i b) = namedIn key l (i + 1) b := by
  rw [Bool.eq_iff_iff, namedIn_iff, List.take_succ_eq_append_getElem h]
  unfold ixB
  simp only [List.map_append, List.mem_append, List.map_cons, List.map_nil, List.mem_singleton]
  by_cases e : key l[i] = b
  · rw [if_pos e]; exact ⟨fun _ => .inr e.symm, fun _ => rfl⟩
  · rw [if_neg e, namedIn_iff]
    exact ⟨fun g => .inl g, fun g => g.elim id (fun g => absurd g.symm e)⟩
theorem rd_four (F : Int → Bool) (a : Int) (h0 : 0 ≤ a) (h1 : a ≤ 3) : rdOf false [F 0, F 1, F 2, F 3] a = F a := by
  have : a = 0 ∨ a = 1 ∨ a = 2 ∨ a = 3 := by omega
  rcases this with rfl | rfl | rfl | rfl <;> rfl

theorem ext_Read {a b : S39} (h0 : a.f0 = b.f0) (h1 : a.f1 = b.f1) : a = b := by
  obtain ⟨a0_, a1_⟩ := a; obtain ⟨b0_, b1_⟩ := b; simp_all
theorem rdi_Read {l : List S39} {i : Nat} (h : i < l.length) : rd_T39 l (i : Int) = l[i] := by
  unfold rd_T39
  rw [Int.toNat_natCast, List.getD_eq_getElem?_getD, List.getElem?_eq_getElem h]
  rfl

theorem ext_Put {a b : S82} (h0 : a.f0 = b.f0) (h1 : a.f1 = b.f1) : a = b := by
  obtain ⟨a0_, a1_⟩ := a; obtain ⟨b0_, b1_⟩ := b; simp_all
theorem rdi_Put {l : List S82} {i : Nat} (h : i < l.length) : rd_T82 l (i : Int) = l[i] := by
  unfold rd_T82
  rw [Int.toNat_natCast, List.getD_eq_getElem?_getD, List.getElem?_eq_getElem h]
  rfl

def rGood (x : S39) : Prop := 0 ≤ x.f1 ∧ x.f1 ≤ 1000000
def pGood (x : S82) : Prop := -1000000 ≤ x.f1 ∧ x.f1 ≤ 1000000
def rKey (x : S39) : Int := x.f0
def pKey (x : S82) : Int := x.f0
/-- A run that is right. -/
def runOk (x : List S39) (y : List S82) (a b : Int) : Prop :=
  (0 ≤ b ∧ b ≤ 3) ∧ (-1000000 ≤ a ∧ a ≤ 1000000) ∧ (b ≠ 0 → a = 0 ∧ ¬ (y.length : Int) > 0) ∧ (b = 3 → ¬ (x.length : Int) > 0) ∧ okFrom rKey rGood x 0 ∧ okFrom pKey pGood y 0

def freshOk (l : List S37) (x : List S39) (y : List S82) (a b : Int) : Prop := boxOk l ∧ runOk x y a b ∧ ∀ r ∈ x, (rd_T37 l r.f0).f0 = r.f1
theorem runOk_reads {x : List S39} {y : List S82} {a b : Int} (h : runOk x y a b) (i : Nat) (hi : i < x.length) : 0 ≤ (x[i]).f0 ∧ (x[i]).f0 ≤ 3 := (h.2.2.2.2.1 i hi (Nat.zero_le _)).1
theorem runOk_puts {x : List S39} {y : List S82} {a b : Int} (h : runOk x y a b) (i : Nat) (hi : i < y.length) : 0 ≤ (y[i]).f0 ∧ (y[i]).f0 ≤ 3 := (h.2.2.2.2.2 i hi (Nat.zero_le _)).1

/-- What a put makes of the boxes. -/
def put1 (l : List S37) (p : S82) : List S37 := l.set p.f0.toNat ⟨mn 1000000 (wrap64 ((rd_T37 l p.f0).f0 + 1)), p.f1⟩
theorem put1_len (l : List S37) (p : S82) : (put1 l p).length = l.length := by unfold put1; rw [List.length_set]
theorem puts_len (y : List S82) : ∀ l : List S37, (y.foldl put1 l).length = l.length := by
  induction y with
  | nil => intro l; rfl
  | cons p y ih => intro l; rw [List.foldl_cons, ih, put1_len]
open Classical in
/-- What a run makes of the boxes; none, if boxes or run are not right. -/
noncomputable def doneBy (l : List S37) (x : List S39) (y : List S82) (a b : Int) : List S37 := if boxOk l ∧ runOk x y a b then y.foldl put1 l else []
/-- The last request of somebody, kept: it stands ahead of the first whose node is not ahead of his; his own go. -/
def putD (d : S84) : Bool → List S84 → List S84
  | b, [] => if b = true then [] else [d]
  | b, q :: r => (if b = false ∧ d.f0.f0 ≤ q.f0.f0 then [d] else []) ++ ((if q.f0.f0 = d.f0.f0 then [] else [q]) ++ putD d (b || decide (d.f0.f0 ≤ q.f0.f0)) r)
theorem putD_len (d : S84) : ∀ (l : List S84) (b : Bool), (putD d b l).length ≤ l.length + (if b = true then 0 else 1) := by
  intro l
  induction l with
  | nil => intro b; cases b <;> simp [putD]
  | cons q r ih =>
    intro b
    unfold putD
    simp only [List.length_append, List.length_cons]
    have h := ih (b || decide (d.f0.f0 ≤ q.f0.f0))
    cases b
    · by_cases c : d.f0.f0 ≤ q.f0.f0
      · simp only [c, and_self, if_true, decide_true, Bool.or_true, List.length_singleton] at h ⊢
        split <;> simp <;> omega
      · simp only [c, and_false, if_false, decide_false, Bool.or_false, List.length_nil] at h ⊢
        simp only [Bool.false_eq_true, if_false] at h ⊢
        split <;> simp <;> omega
    · simp only [Bool.true_or, if_true, Bool.true_eq_false, false_and, if_false, List.length_nil] at h ⊢
      split <;> simp <;> omega
/-- The last request of somebody. -/
def lastD (y : List S84) (w : Int) : Option S84 := y.find? (fun d => decide (d.f0.f0 = w))
theorem putD_mem {d z : S84} : ∀ {y : List S84} {b : Bool}, z ∈ putD d b y → (z = d ∧ b = false) ∨ (z ∈ y ∧ z.f0.f0 ≠ d.f0.f0) := by
  intro y
  induction y with
  | nil =>
    intro b h
    unfold putD at h
    cases b
    · simp at h; exact .inl ⟨h, rfl⟩
    · simp at h
  | cons q r ih =>
    intro b h
    unfold putD at h
    rw [List.mem_append, List.mem_append] at h
    rcases h with h | h | h
    · split at h
      · rename_i c; rw [List.mem_singleton] at h; exact .inl ⟨h, c.1⟩
      · simp at h
    · split at h
      · simp at h
      · rename_i c; rw [List.mem_singleton] at h; subst h; exact .inr ⟨List.mem_cons_self .., c⟩
    · rcases ih h with ⟨h1, h2⟩ | ⟨h1, h2⟩
      · simp only [Bool.or_eq_false_iff] at h2; exact .inl ⟨h1, h2.1⟩
      · exact .inr ⟨List.mem_cons_of_mem _ h1, h2⟩

open Classical in
/-- What a new entry makes of the state: its code, the boxes, and what is kept of it. -/
noncomputable def apNew (a : Int) (x : List S37) (y : List S84) (p q : Int) (rx : List S39) (ry : List S82) (v c : Int) : Int × List S37 × List S84 × Int :=
  if freshOk x rx ry v c then (if c = 0 then (a, ry.foldl put1 x, putD ⟨⟨p, q⟩, 0, v⟩ false y, 0) else (a, x, putD ⟨⟨p, q⟩, 2, 0⟩ false y, 2)) else (a, x, putD ⟨⟨p, q⟩, 1, 0⟩ false y, 1)
/-- What an entry makes of the state; a is the state's number behind it. -/
noncomputable def apOf (a : Int) (x : List S37) (y : List S84) (e : Bool) (p q : Int) (rx : List S39) (ry : List S82) (v c : Int) : Int × List S37 × List S84 × Int :=
  if e = true then (a, x, y, 5) else match lastD y p with
    | some d => if d.f0.f1 = q then (a, x, y, 3) else if q < d.f0.f1 then (a, x, y, 4) else apNew a x y p q rx ry v c
    | none => apNew a x y p q rx ry v c
theorem lastD_who {y : List S84} {w : Int} {d : S84} (h : lastD y w = some d) : d.f0.f0 = w := by
  unfold lastD at h
  have := List.find?_some h
  simpa using this

theorem l1Num_some (a : Int) : ∃ v, spec_l1Num.f a = some v ∧ (v = true ↔ -1000000 ≤ a ∧ a ≤ 1000000) := by
  unfold spec_l1Num.f
  by_cases h : a ≥ -1000000
  · exact ⟨decide (a ≤ 1000000), by simp [h], by simp; omega⟩
  · exact ⟨false, by simp [h], by simp; omega⟩
theorem spec_BoxOk_ev (l : List S37) (hn : l.length ≤ 9223372036854775807) : ∃ v, Ev (fun k => spec_BoxOk.f k l) v ∧ (v = true ↔ boxOk l) := by
  classical
  by_cases h4 : l.length = 4
  · have key := ev_loop l.length (fun i k => spec_BoxOk.l0 k l (i : Int)) (fun i => decide (∀ b ∈ l.drop i, boxIn b)) (fun i hi ih => by
      refine Ev.step (fun k => by rw [spec_BoxOk.l0]) ?_
      refine ev_pos (lt_cast hi) (ev_pos (nn_cast i) ?_)
      rw [rd_box hi, wrap_succ hi hn]
      obtain ⟨v, hv, hvi⟩ := l1Num_some (l[i]).f1
      have hs := mem_split (p := boxIn) hi
      by_cases h0 : (l[i]).f0 < 0
      · have : ¬ boxIn l[i] := by unfold boxIn; omega
        simp only [hs, this, false_and, decide_false]
        exact ev_pos h0 (ev_now _)
      refine ev_neg h0 ?_
      by_cases h1 : (l[i]).f0 > 1000000
      · have : ¬ boxIn l[i] := by unfold boxIn; omega
        simp only [hs, this, false_and, decide_false]
        exact ev_pos h1 (ev_now _)
      refine ev_neg h1 (ev_get hv ?_)
      by_cases h2 : v = true
      · have : boxIn l[i] := by have := hvi.1 h2; unfold boxIn; omega
        simp only [hs, this, true_and]
        exact ev_pos h2 ih
      · have : ¬ boxIn l[i] := fun h => h2 (hvi.2 (by unfold boxIn at h; omega))
        simp only [hs, this, false_and, decide_false]
        exact ev_neg h2 (ev_now _)) (by
      refine Ev.step (fun k => by rw [spec_BoxOk.l0]) ?_
      refine ev_neg (by omega) ?_
      simp only [List.drop_length, List.not_mem_nil, false_implies, implies_true, decide_true]
      exact ev_now _) 0 (Nat.zero_le _)
    exact ⟨_, Ev.congr (fun k => by unfold spec_BoxOk.f; exact if_pos (by omega)) key, by simp [boxOk, h4]⟩
  · refine ⟨false, ?_, by simp [boxOk, h4]⟩
    unfold spec_BoxOk.f
    exact ev_neg (by omega) (ev_now _)

theorem l2Box_some (a : Int) : spec_l2Box.f a = some (decide (0 ≤ a ∧ a ≤ 3)) := by
  unfold spec_l2Box.f
  by_cases h : a ≥ 0
  · rw [if_pos h]; congr 1; rw [Bool.eq_iff_iff]; simp; omega
  · rw [if_neg h]; congr 1; rw [Bool.eq_iff_iff]; simp; omega

theorem l1Num_dec (a : Int) : spec_l1Num.f a = some (decide (-1000000 ≤ a ∧ a ≤ 1000000)) := by
  unfold spec_l1Num.f
  by_cases h : a ≥ -1000000
  · rw [if_pos h]; congr 1; rw [Bool.eq_iff_iff]; simp; omega
  · rw [if_neg h]; congr 1; rw [Bool.eq_iff_iff]; simp; omega

theorem in_some (a b c : Int) : ∃ v, impl_in.f a b c = some v ∧ (v = true ↔ b ≤ a ∧ a ≤ c) := by
  unfold impl_in.f
  by_cases h : a ≥ b
  · exact ⟨decide (a ≤ c), by simp [h], by simp; omega⟩
  · exact ⟨false, by simp [h], by simp; omega⟩
theorem impl_BoxOk_ev (l : List S37) (hn : l.length ≤ 9223372036854775807) : ∃ v, Ev (fun k => impl_BoxOk.f k l) v ∧ (v = true ↔ boxOk l) := by
  classical
  have key := ev_loop l.length (fun i k => impl_BoxOk.l0 k l l (l.length : Int) (i : Int)) (fun i => decide ((∀ b ∈ l.drop i, boxIn b) ∧ l.length = 4)) (fun i hi ih => by
      refine Ev.step (fun k => by rw [impl_BoxOk.l0]) ?_
      refine ev_pos (lt_cast hi) (ev_pos (nn_cast i) (ev_pos (lt_cast hi) ?_))
      rw [rd_box hi, wrap_succ hi hn]
      obtain ⟨v, hv, hvi⟩ := in_some (l[i]).f0 0 1000000
      obtain ⟨u, hu, hui⟩ := in_some (l[i]).f1 (-1000000) 1000000
      have hs := mem_split (p := boxIn) hi
      refine ev_get hv ?_
      by_cases h1 : v = true
      · refine ev_pos h1 (ev_get hu ?_)
        by_cases h2 : u = true
        · have : boxIn l[i] := by have := hvi.1 h1; have := hui.1 h2; unfold boxIn; omega
          simp only [hs, this, true_and]
          exact ev_pos h2 ih
        · have : ¬ boxIn l[i] := fun h => h2 (hui.2 (by unfold boxIn at h; omega))
          simp only [hs, this, false_and, decide_false]
          exact ev_neg h2 (ev_now _)
      · have : ¬ boxIn l[i] := fun h => h1 (hvi.2 (by unfold boxIn at h; omega))
        simp only [hs, this, false_and, decide_false]
        exact ev_neg h1 (ev_now _)) (by
      refine Ev.step (fun k => by rw [impl_BoxOk.l0]) ?_
      refine ev_neg (by omega) ?_
      have : ((l.length : Int) == 4) = decide ((∀ b ∈ l.drop l.length, boxIn b) ∧ l.length = 4) := by
        rw [List.drop_length]
        by_cases h : l.length = 4
        · simp [h]
        · have : (l.length : Int) ≠ 4 := by omega
          simp [h, this]
      rw [← this]
      exact ev_now _) 0 (Nat.zero_le _)
  exact ⟨_, Ev.congr (fun k => by unfold impl_BoxOk.f; exact rfl) key, by simp [boxOk, and_comm]⟩

theorem in_dec (a b c : Int) : impl_in.f a b c = some (decide (b ≤ a ∧ a ≤ c)) := by
  unfold impl_in.f
  by_cases h : a ≥ b
  · rw [if_pos h]; congr 1; rw [Bool.eq_iff_iff]; simp; omega
  · rw [if_neg h]; congr 1; rw [Bool.eq_iff_iff]; simp; omega

theorem okFrom_iff {α : Type} (key : α → Int) (good : α → Prop) (l : List α) : okFrom key good l 0 ↔ (∀ e ∈ l, (0 ≤ key e ∧ key e ≤ 3) ∧ good e) ∧ (l.map key).Nodup := by
  constructor
  · intro h
    refine ⟨fun e he => ?_, ?_⟩
    · obtain ⟨j, hj, rfl⟩ := List.mem_iff_getElem.1 he
      have := h j hj (Nat.zero_le _)
      exact ⟨this.1, this.2.1⟩
    · rw [List.nodup_iff_pairwise_ne, List.pairwise_iff_getElem]
      intro i j hi hj hij
      simp only [List.length_map] at hi hj
      simp only [List.getElem_map]
      intro e
      refine (h j hj (Nat.zero_le _)).2.2 ?_
      rw [← e]
      exact List.mem_map.2 ⟨l[i], List.mem_take_iff_getElem.2 ⟨i, by omega, rfl⟩, rfl⟩
  · rintro ⟨h, hn⟩ j hj _
    have := h _ (List.getElem_mem hj)
    refine ⟨this.1, this.2, fun hm => ?_⟩
    obtain ⟨e, he, hk⟩ := List.mem_map.1 hm
    obtain ⟨i, hi, rfl⟩ := List.mem_take_iff_getElem.1 he
    rw [List.nodup_iff_pairwise_ne, List.pairwise_iff_getElem] at hn
    have := hn i j (by simp; omega) (by simpa using hj) (by omega)
    simp only [List.getElem_map] at this
    exact this hk
def putsIn (y : List S82) : Prop := (∀ e ∈ y, (0 ≤ pKey e ∧ pKey e ≤ 3) ∧ pGood e) ∧ (y.map pKey).Nodup
theorem mn_cases (a b : Int) : (b ≤ a ∧ mn a b = b) ∨ (a ≤ b ∧ mn a b = a) := by unfold mn; split <;> omega
theorem box_rd {l : List S37} (h : boxOk l) {b : Int} (b0 : 0 ≤ b) (b3 : b ≤ 3) : boxIn (rd_T37 l b) := by
  have h4 := h.1
  obtain ⟨n, rfl⟩ : ∃ n : Nat, b = (n : Int) := ⟨b.toNat, by omega⟩
  rw [rd_box (by omega)]
  exact h.2 _ (List.getElem_mem _)
theorem put1_ok {l : List S37} {p : S82} (hl : boxOk l) (h0 : 0 ≤ p.f0) (h3 : p.f0 ≤ 3) (hg : pGood p) : boxOk (put1 l p) := by
  refine ⟨by rw [put1_len]; exact hl.1, fun b hb => ?_⟩
  unfold put1 at hb
  rcases List.mem_or_eq_of_mem_set hb with h | h
  · exact hl.2 b h
  · have hr := box_rd hl h0 h3
    rw [h]
    unfold boxIn at hr ⊢
    unfold pGood at hg
    have hw : wrap64 ((rd_T37 l p.f0).f0 + 1) = (rd_T37 l p.f0).f0 + 1 := wrap_id (by omega) (by omega)
    simp only
    rw [hw]
    clear hw
    rcases mn_cases 1000000 ((rd_T37 l p.f0).f0 + 1) with ⟨_, e⟩ | ⟨_, e⟩ <;> rw [e] <;> omega
theorem puts_ok : ∀ (y : List S82) (l : List S37), boxOk l → (∀ e ∈ y, (0 ≤ pKey e ∧ pKey e ≤ 3) ∧ pGood e) → boxOk (y.foldl put1 l) := by
  intro y
  induction y with
  | nil => intro l h _; exact h
  | cons p r ih =>
    intro l h hy
    have hp := hy p (by simp)
    unfold pKey at hp
    rw [List.foldl_cons]
    exact ih _ (put1_ok h hp.1.1 hp.1.2 hp.2) (fun e he => hy e (by simp [he]))
theorem runOk_putsIn {x : List S39} {y : List S82} {a b : Int} (h : runOk x y a b) : putsIn y := (okFrom_iff _ _ _).1 h.2.2.2.2.2
theorem capply_l1 (y : List S84) (a : Int) (x : List S37) (p q c v : Int) (hn : y.length ≤ 1000000000000) : ∀ (d i : Nat) (o : List S84) (b : Bool), i + d = y.length → o.length + 2 * d + 1 ≤ 3000000000000 →
    Ev (fun k => impl_CertApply.l1 k o b y (y.length : Int) (i : Int) a x p q c v) (a, x, o ++ putD ⟨⟨p, q⟩, c, v⟩ b (y.drop i), c) := by
  intro d
  induction d with
  | zero =>
    intro i o b hi ho
    obtain rfl : i = y.length := by omega
    refine Ev.step (fun k => by rw [impl_CertApply.l1]) ?_
    refine ev_neg (by omega) ?_
    rw [List.drop_length]
    cases b
    · refine ev_neg (by simp) (ev_pos (by omega) (ev_get (if_pos (by simp only [List.length_append, List.length_singleton]; omega)) ?_))
      simp only [putD, Bool.false_eq_true, if_false]; exact ev_now _
    · refine ev_pos rfl (ev_get (if_pos (by omega)) ?_)
      simp only [putD, if_true, List.append_nil]; exact ev_now _
  | succ d ih =>
    intro i o b hd ho
    have hi : i < y.length := by omega
    have hw := wrap_succ hi (n := y.length) (by omega)
    rw [List.drop_eq_getElem_cons hi]
    have tail : ∀ (o : List S84) (b b' : Bool), b' = b → o.length + 2 * d + 2 ≤ 3000000000000 → Ev (fun k => impl_CertApply.j5 k o b y (y.length : Int) (i : Int) false a x p q c v (y[i]).f0.f0 (y[i]).f0.f1 (y[i]).f1 (y[i]).f2) (a, x, o ++ ((if (y[i]).f0.f0 = p then [] else [y[i]]) ++ putD ⟨⟨p, q⟩, c, v⟩ b' (y.drop (i + 1))), c) := by
      intro o b b' hb' ho
      subst hb'
      refine Ev.step (fun k => by rw [impl_CertApply.j5]) ?_
      refine ev_neg (by simp) ?_
      rw [hw]
      refine ev_ite (fun e => ?_) (fun e => ?_)
      · rw [if_pos e, List.nil_append]; exact ih (i + 1) o _ (by omega) (by omega)
      · rw [if_neg e, ← List.append_assoc]
        exact ev_pos (by omega) (ih (i + 1) (o ++ [y[i]]) _ (by omega) (by simp only [List.length_append, List.length_singleton]; omega))
    refine Ev.step (fun k => by rw [impl_CertApply.l1]) ?_
    refine ev_pos (lt_cast hi) (ev_pos (nn_cast i) (ev_pos (lt_cast hi) ?_))
    rw [rdi_Done hi]
    unfold putD
    cases b with
    | true =>
      refine ev_pos rfl ?_
      have := tail o true true rfl (by omega)
      simpa using this
    | false =>
      refine ev_neg (by simp) ?_
      by_cases c1 : p ≤ (y[i]).f0.f0
      · have e1 : decide ((y[i]).f0.f0 ≥ p) = true := decide_eq_true c1
        rw [e1]
        refine Ev.step (fun k => by rw [impl_CertApply.j5]) ?_
        refine ev_pos rfl (ev_pos (by omega) (ev_get rfl ?_))
        rw [hw]
        simp only [c1, and_self, if_true, decide_true, Bool.or_true]
        refine ev_ite (fun e => ?_) (fun e => ?_)
        · rw [if_pos e, List.nil_append, ← List.append_assoc]; exact ih (i + 1) (o ++ [⟨⟨p, q⟩, c, v⟩]) true (by omega) (by simp only [List.length_append, List.length_singleton]; omega)
        · rw [if_neg e, ← List.append_assoc, ← List.append_assoc]
          refine ev_pos (by simp only [List.length_append, List.length_singleton]; omega) ?_
          exact ih (i + 1) (o ++ [⟨⟨p, q⟩, c, v⟩] ++ [y[i]]) true (by omega) (by simp only [List.length_append, List.length_singleton]; omega)
      · have e1 : decide ((y[i]).f0.f0 ≥ p) = false := decide_eq_false c1
        rw [e1]
        have := tail o false false rfl (by omega)
        simpa [c1] using this

theorem ExecOk_l1 (y : List S82) (hm : y.length ≤ 9223372036854775807) : ∃ v, Ev (fun k => impl_ExecOk.l1 k y (y.length : Int) 0 false false false false) v ∧ (v = true ↔ okFrom pKey pGood y 0) := by
  classical
  have key := ev_loop y.length (fun i k => impl_ExecOk.l1 k y (y.length : Int) (i : Int) (namedIn pKey y i 0) (namedIn pKey y i 1) (namedIn pKey y i 2) (namedIn pKey y i 3)) (fun i => decide (okFrom pKey pGood y i)) (fun i hi ih => by
      refine Ev.step (fun k => by rw [impl_ExecOk.l1]) ?_
      refine ev_pos (lt_cast hi) (ev_pos (nn_cast i) (ev_pos (lt_cast hi) ?_))
      rw [rdi_Put hi, wrap_succ hi hm]
      simp only [okFrom_step pKey pGood y hi]
      refine ev_get (in_dec _ _ _) ?_
      by_cases h1 : 0 ≤ (y[i]).f0 ∧ (y[i]).f0 ≤ 3
      case neg =>
        have : ¬ (0 ≤ pKey y[i] ∧ pKey y[i] ≤ 3) := h1
        simp only [this, false_and, decide_false]
        exact ev_neg (by simpa using h1) (ev_now _)
      refine ev_pos (by simpa using h1) (ev_pos h1.1 (ev_pos (by omega) ?_))
      rw [rd_four (namedIn pKey y i) _ h1.1 h1.2]
      refine ev_ite (fun c => ?_) (fun c => ev_get (in_dec _ _ _) ?_)
      · rw [namedIn_iff] at c
        have c2 : pKey y[i] ∈ (y.take i).map pKey := c
        simp only [c2, not_true, and_false, false_and, decide_false]
        exact ev_now _
      · rw [namedIn_iff] at c
        have c2 : ¬ pKey y[i] ∈ (y.take i).map pKey := c
        have h2 : 0 ≤ pKey y[i] ∧ pKey y[i] ≤ 3 := h1
        by_cases g : pGood y[i]
        · simp only [h2, g, c2, not_false_eq_true, and_self, true_and]
          refine ev_pos (by simpa [pGood] using g) ?_
          have e : ∀ b, ixB (y[i]).f0 b true (namedIn pKey y i b) = namedIn pKey y (i + 1) b := namedIn_succ pKey y hi
          rw [e, e, e, e]
          exact ih
        · simp only [g, false_and, and_false, decide_false]
          exact ev_neg (by simpa [pGood] using g) (ev_now _)) (by
      refine Ev.step (fun k => by rw [impl_ExecOk.l1]) ?_
      refine ev_neg (by omega) ?_
      simp only [okFrom_end pKey pGood y, decide_true]
      exact ev_now _) 0 (Nat.zero_le _)
  simp only [namedIn_zero] at key
  exact ⟨_, key, by simp⟩
theorem ExecOk_l0 (x : List S39) (y : List S82) (a b : Int) (hn : x.length ≤ 9223372036854775807) (hm : y.length ≤ 9223372036854775807) :
    ∃ v, Ev (fun k => impl_ExecOk.l0 k x (x.length : Int) 0 x y a b false false false false false false false false) v ∧ (v = true ↔ okFrom rKey rGood x 0 ∧ okFrom pKey pGood y 0) := by
  classical
  obtain ⟨u, hu, hui⟩ := ExecOk_l1 y hm
  have key := ev_loop x.length (fun i k => impl_ExecOk.l0 k x (x.length : Int) (i : Int) x y a b (namedIn rKey x i 0) (namedIn rKey x i 1) (namedIn rKey x i 2) (namedIn rKey x i 3) false false false false) (fun i => decide (okFrom rKey rGood x i ∧ okFrom pKey pGood y 0)) (fun i hi ih => by
      refine Ev.step (fun k => by rw [impl_ExecOk.l0]) ?_
      refine ev_pos (lt_cast hi) (ev_pos (nn_cast i) (ev_pos (lt_cast hi) ?_))
      rw [rdi_Read hi, wrap_succ hi hn]
      simp only [okFrom_step rKey rGood x hi]
      refine ev_get (in_dec _ _ _) ?_
      by_cases h1 : 0 ≤ (x[i]).f0 ∧ (x[i]).f0 ≤ 3
      case neg =>
        have : ¬ (0 ≤ rKey x[i] ∧ rKey x[i] ≤ 3) := h1
        simp only [this, false_and, decide_false]
        exact ev_neg (by simpa using h1) (ev_now _)
      refine ev_pos (by simpa using h1) (ev_pos h1.1 (ev_pos (by omega) ?_))
      rw [rd_four (namedIn rKey x i) _ h1.1 h1.2]
      refine ev_ite (fun c => ?_) (fun c => ev_get (in_dec _ _ _) ?_)
      · rw [namedIn_iff] at c
        have c2 : rKey x[i] ∈ (x.take i).map rKey := c
        simp only [c2, not_true, and_false, false_and, decide_false]
        exact ev_now _
      · rw [namedIn_iff] at c
        have c2 : ¬ rKey x[i] ∈ (x.take i).map rKey := c
        have h2 : 0 ≤ rKey x[i] ∧ rKey x[i] ≤ 3 := h1
        by_cases g : rGood x[i]
        · simp only [h2, g, c2, not_false_eq_true, and_self, true_and]
          refine ev_pos (by simpa [rGood] using g) ?_
          have e : ∀ b, ixB (x[i]).f0 b true (namedIn rKey x i b) = namedIn rKey x (i + 1) b := namedIn_succ rKey x hi
          rw [e, e, e, e]
          exact ih
        · simp only [g, false_and, and_false, decide_false]
          exact ev_neg (by simpa [rGood] using g) (ev_now _)) (by
      refine Ev.step (fun k => by rw [impl_ExecOk.l0]) ?_
      refine ev_neg (by omega) ?_
      simp only [okFrom_end rKey rGood x, true_and]
      rw [show decide (okFrom pKey pGood y 0) = u from Bool.eq_iff_iff.2 (by rw [hui]; simp)]
      exact hu) 0 (Nat.zero_le _)
  simp only [namedIn_zero] at key
  exact ⟨_, key, by simp⟩
theorem impl_ExecOk_ev (x : List S39) (y : List S82) (a b : Int) (hn : x.length ≤ 9223372036854775807) (hm : y.length ≤ 9223372036854775807) : ∃ v, Ev (fun k => impl_ExecOk.f k x y a b) v ∧ (v = true ↔ runOk x y a b) := by
  obtain ⟨u, hu, hui⟩ := ExecOk_l0 x y a b hn hm
  have yes : Ev (fun k => impl_ExecOk.j0 k true x y a b) false := by
    refine Ev.step (fun k => by rw [impl_ExecOk.j0]) ?_
    exact ev_pos rfl (ev_now _)
  have no : Ev (fun k => impl_ExecOk.j0 k false x y a b) u := by
    refine Ev.step (fun k => by rw [impl_ExecOk.j0]) ?_
    exact ev_neg (by simp) hu
  unfold impl_ExecOk.f runOk
  rw [← hui]
  simp only [in_dec, Option.bind_some, decide_eq_true_eq]
  by_cases h1 : 0 ≤ b ∧ b ≤ 3
  case neg => exact ⟨false, ev_neg h1 yes, by simp [h1]⟩
  by_cases h2 : -1000000 ≤ a ∧ a ≤ 1000000
  case neg => exact ⟨false, ev_pos h1 (ev_neg h2 yes), by simp [h2]⟩
  have g3 : ∀ c : Bool, c = decide ((x.length : Int) > 0) → Ev (fun k => impl_ExecOk.j0 k c x y a b) (!c && u) := by
    intro c _
    cases c with
    | true => exact yes
    | false => exact no
  by_cases h3 : b = 0
  · have h4 : ¬ b = 3 := by omega
    exact ⟨u, ev_pos h1 (ev_pos h2 (ev_pos h3 (ev_neg h4 no))), by simp [h1, h2, h3, h4]⟩
  by_cases h5 : a = 0
  case neg => exact ⟨false, ev_pos h1 (ev_pos h2 (ev_neg h3 (ev_neg h5 yes))), by simp [h3, h5]⟩
  by_cases h6 : (y.length : Int) > 0
  · exact ⟨false, ev_pos h1 (ev_pos h2 (ev_neg h3 (ev_pos h5 (ev_pos h6 yes)))), by simp only [Bool.false_eq_true, false_iff]; intro hh; exact (hh.2.2.1 h3).2 h6⟩
  by_cases h4 : b = 3
  · refine ⟨_, ev_pos h1 (ev_pos h2 (ev_neg h3 (ev_pos h5 (ev_neg h6 (ev_pos h4 (g3 _ rfl)))))), ?_⟩
    by_cases h7 : (x.length : Int) > 0
    · simp only [h7, decide_true, Bool.not_true, Bool.false_and, Bool.false_eq_true, false_iff]
      intro hh; exact hh.2.2.2.1 h4 trivial
    · simp only [h7, decide_false, Bool.not_false, Bool.true_and]
      exact ⟨fun hh => ⟨h1, h2, fun _ => ⟨h5, h6⟩, fun _ => fun h => h, hh⟩, fun hh => hh.2.2.2.2⟩
  · exact ⟨u, ev_pos h1 (ev_pos h2 (ev_neg h3 (ev_pos h5 (ev_neg h6 (ev_neg h4 no))))), ⟨fun hh => ⟨h1, h2, fun _ => ⟨h5, h6⟩, fun h => absurd h h4, hh⟩, fun hh => hh.2.2.2.2⟩⟩

theorem impl_ExecFresh_ev (l : List S37) (x : List S39) (y : List S82) (a b : Int) (hl : l.length ≤ 9223372036854775807) (hn : x.length ≤ 9223372036854775807) (hm : y.length ≤ 9223372036854775807) :
    ∃ v, Ev (fun k => impl_ExecFresh.f k l x y a b) v ∧ (v = true ↔ freshOk l x y a b) := by
  classical
  obtain ⟨u, hu, hui⟩ := impl_BoxOk_ev l hl
  obtain ⟨w, hw, hwi⟩ := impl_ExecOk_ev x y a b hn hm
  have yes : Ev (fun k => impl_ExecFresh.j0 k l true x y a b) false := by
    refine Ev.step (fun k => by rw [impl_ExecFresh.j0]) ?_
    exact ev_pos rfl (ev_now _)
  unfold impl_ExecFresh.f
  by_cases h1 : u = true
  case neg => exact ⟨false, hu.bind (ev_neg h1 yes), by simp only [Bool.false_eq_true, false_iff]; exact fun h => h1 (hui.2 h.1)⟩
  cases w with
  | false => exact ⟨false, hu.bind (ev_pos h1 (hw.bind yes)), by simp only [Bool.false_eq_true, false_iff]; exact fun h => by have := hwi.2 h.2.1; cases this⟩
  | true =>
    have hb := hui.1 h1
    have hr := hwi.1 rfl
    have key := ev_loop x.length (fun i k => impl_ExecFresh.l0 k l x (x.length : Int) (i : Int)) (fun i => decide (∀ r ∈ x.drop i, (rd_T37 l r.f0).f0 = r.f1)) (fun i hi ih => by
      have hx := runOk_reads hr i hi
      refine Ev.step (fun k => by rw [impl_ExecFresh.l0]) ?_
      refine ev_pos (lt_cast hi) (ev_pos (nn_cast i) (ev_pos (lt_cast hi) ?_))
      rw [rdi_Read hi, wrap_succ hi hn]
      have hs := mem_split (p := fun r : S39 => (rd_T37 l r.f0).f0 = r.f1) hi
      simp only [hs]
      refine ev_pos hx.1 (ev_pos (by have := hb.1; omega) (ev_ite (fun c => ?_) (fun c => ?_)))
      · simp only [c, true_and]; exact ih
      · simp only [c, false_and, decide_false]; exact ev_now _) (by
      refine Ev.step (fun k => by rw [impl_ExecFresh.l0]) ?_
      refine ev_neg (by omega) ?_
      simp only [List.drop_length, List.not_mem_nil, false_implies, implies_true, decide_true]
      exact ev_now _) 0 (Nat.zero_le _)
    refine ⟨decide (∀ r ∈ x.drop 0, (rd_T37 l r.f0).f0 = r.f1), hu.bind (ev_pos h1 (hw.bind ?_)), ?_⟩
    · refine Ev.step (fun k => by rw [impl_ExecFresh.j0]) ?_
      exact ev_neg (by simp) key
    · rw [decide_eq_true_iff]
      exact ⟨fun h => ⟨hb, hr, h⟩, fun h => h.2.2⟩

theorem impl_ExecDo_ev (l : List S37) (x : List S39) (y : List S82) (a b : Int) (hl : l.length ≤ 1048576) (hn : x.length ≤ 9223372036854775807) (hm : y.length ≤ 9223372036854775807) :
    Ev (fun k => impl_ExecDo.f k l x y a b) (doneBy l x y a b) := by
  obtain ⟨u, hu, hui⟩ := impl_BoxOk_ev l (by omega)
  obtain ⟨w, hw, hwi⟩ := impl_ExecOk_ev x y a b hn hm
  have yes : Ev (fun k => impl_ExecDo.j0 k l true x y a b) [] := by
    refine Ev.step (fun k => by rw [impl_ExecDo.j0]) ?_
    exact ev_pos rfl (ev_now _)
  unfold impl_ExecDo.f doneBy
  rw [← hui, ← hwi]
  cases u with
  | false => rw [if_neg (by simp)]; exact hu.bind (ev_neg (by simp) yes)
  | true =>
    cases w with
    | false => rw [if_neg (by simp)]; exact hu.bind (ev_pos rfl (hw.bind yes))
    | true =>
      rw [if_pos ⟨rfl, rfl⟩]
      have hr := hwi.1 rfl
      have key : ∀ d i (l : List S37), i + d = y.length → l.length = 4 → Ev (fun k => impl_ExecDo.l0 k l y (y.length : Int) (i : Int)) ((y.drop i).foldl put1 l) := by
        intro d
        induction d with
        | zero =>
          intro i l hi h4
          obtain rfl : i = y.length := by omega
          refine Ev.step (fun k => by rw [impl_ExecDo.l0]) ?_
          refine ev_neg (by omega) ?_
          rw [List.drop_length]
          exact ev_now _
        | succ d ih =>
          intro i l hd h4
          have hi : i < y.length := by omega
          have hp := runOk_puts hr i hi
          refine Ev.step (fun k => by rw [impl_ExecDo.l0]) ?_
          refine ev_pos (lt_cast hi) (ev_pos (nn_cast i) (ev_pos (lt_cast hi) ?_))
          rw [rdi_Put hi, wrap_succ hi hm, List.drop_eq_getElem_cons hi, List.foldl_cons]
          refine ev_pos hp.1 (ev_pos (by omega) ?_)
          exact ih (i + 1) _ (by omega) (by rw [List.length_set]; exact h4)
      refine hu.bind (ev_pos rfl (hw.bind ?_))
      refine Ev.step (fun k => by rw [impl_ExecDo.j0]) ?_
      refine ev_neg (by simp) (ev_get (a := l) ?_ ?_)
      · unfold impl_copied_impl_Box.f
        exact if_pos (by omega)
      · simpa using key y.length 0 l (by omega) (hui.1 rfl).1

theorem reqOk_dec (a b : Int) : impl_reqOk.f a b = some (decide (reqIn a b)) := by
  unfold impl_reqOk.f
  simp only [in_dec, Option.bind_some, decide_eq_true_eq]
  repeat' split
  all_goals (congr 1; rw [Bool.eq_iff_iff]; simp only [decide_eq_true_eq, Bool.false_eq_true]; simp only [reqIn]; constructor <;> intro hh_ <;> first | exact hh_.elim | omega)

theorem impl_CertOk_ev (a : Int) (x : List S37) (y : List S84) (hn : x.length ≤ 9223372036854775807) (hm : y.length ≤ 9223372036854775807) : ∃ v, Ev (fun k => impl_CertOk.f k a x y) v ∧ (v = true ↔ stateOk a x y) := by
  classical
  obtain ⟨w, hw, hwi⟩ := impl_BoxOk_ev x hn
  have key := ev_loop y.length (fun i k => impl_CertOk.l0 k y (y.length : Int) (i : Int) a x y) (fun i => decide ((0 ≤ a ∧ a ≤ 40) ∧ boxOk x ∧ donesFrom y i)) (fun i hi ih => by
      refine Ev.step (fun k => by rw [impl_CertOk.l0]) ?_
      refine ev_pos (lt_cast hi) (ev_pos (nn_cast i) (ev_pos (lt_cast hi) ?_))
      rw [rdi_Done hi]
      simp only [donesFrom_step y hi]
      have yes : ¬ (dGood y[i] ∧ ∀ (h0 : 0 < i), (y[i - 1]'(by omega)).f0.f0 < (y[i]).f0.f0) → Ev (fun k => impl_CertOk.j1 k y (y.length : Int) (i : Int) true a x y) (decide ((0 ≤ a ∧ a ≤ 40) ∧ boxOk x ∧ (dGood y[i] ∧ ∀ (h0 : 0 < i), (y[i - 1]'(by omega)).f0.f0 < (y[i]).f0.f0) ∧ donesFrom y (i + 1))) := by
        intro h
        simp only [h, false_and, and_false, decide_false]
        refine Ev.step (fun k => by rw [impl_CertOk.j1]) ?_
        exact ev_pos rfl (ev_now _)
      have no : (dGood y[i] ∧ ∀ (h0 : 0 < i), (y[i - 1]'(by omega)).f0.f0 < (y[i]).f0.f0) → Ev (fun k => impl_CertOk.j1 k y (y.length : Int) (i : Int) false a x y) (decide ((0 ≤ a ∧ a ≤ 40) ∧ boxOk x ∧ (dGood y[i] ∧ ∀ (h0 : 0 < i), (y[i - 1]'(by omega)).f0.f0 < (y[i]).f0.f0) ∧ donesFrom y (i + 1))) := by
        intro h
        have e : decide ((0 ≤ a ∧ a ≤ 40) ∧ boxOk x ∧ (dGood y[i] ∧ ∀ (h0 : 0 < i), (y[i - 1]'(by omega)).f0.f0 < (y[i]).f0.f0) ∧ donesFrom y (i + 1)) = decide ((0 ≤ a ∧ a ≤ 40) ∧ boxOk x ∧ donesFrom y (i + 1)) := by
          rw [decide_eq_decide]; exact ⟨fun g => ⟨g.1, g.2.1, g.2.2.2⟩, fun g => ⟨g.1, g.2.1, h, g.2.2⟩⟩
        rw [e]
        refine Ev.step (fun k => by rw [impl_CertOk.j1]) ?_
        rw [wrap_succ hi hm]
        exact ev_neg (by simp) ih
      have tail : (∀ (h0 : 0 < i), (y[i - 1]'(by omega)).f0.f0 < (y[i]).f0.f0) → Ev (fun k => (impl_reqOk.f ((y[i]).f0.f0) ((y[i]).f0.f1)).bind fun t181 => (if t181 = true then ((impl_in.f ((y[i]).f1) 0 2).bind fun t182 => (if t182 = true then ((impl_in.f ((y[i]).f2) (-1000000) 1000000).bind fun t183 => (if t183 = true then (if ((y[i]).f1) = 0 then (impl_CertOk.j1 k y (y.length : Int) (i : Int) false a x y) else (impl_CertOk.j1 k y (y.length : Int) (i : Int) (((y[i]).f2) != 0) a x y)) else (impl_CertOk.j1 k y (y.length : Int) (i : Int) true a x y))) else (impl_CertOk.j1 k y (y.length : Int) (i : Int) true a x y))) else (impl_CertOk.j1 k y (y.length : Int) (i : Int) true a x y))) (decide ((0 ≤ a ∧ a ≤ 40) ∧ boxOk x ∧ (dGood y[i] ∧ ∀ (h0 : 0 < i), (y[i - 1]'(by omega)).f0.f0 < (y[i]).f0.f0) ∧ donesFrom y (i + 1))) := by
        intro hlt
        refine ev_get (reqOk_dec _ _) ?_
        by_cases h1 : reqIn (y[i]).f0.f0 (y[i]).f0.f1
        case neg => exact ev_neg (by simpa using h1) (yes (fun h => h1 h.1.1))
        refine ev_pos (by simpa using h1) (ev_get (in_dec _ _ _) ?_)
        by_cases h2 : 0 ≤ (y[i]).f1 ∧ (y[i]).f1 ≤ 2
        case neg => exact ev_neg (by simpa using h2) (yes (fun h => h2 h.1.2.1))
        refine ev_pos (by simpa using h2) (ev_get (in_dec _ _ _) ?_)
        by_cases h3 : -1000000 ≤ (y[i]).f2 ∧ (y[i]).f2 ≤ 1000000
        case neg => exact ev_neg (by simpa using h3) (yes (fun h => h3 h.1.2.2.1))
        refine ev_pos (by simpa using h3) (ev_ite (fun c => no ⟨⟨h1, h2, h3, fun h => absurd c h⟩, hlt⟩) (fun c => ?_))
        by_cases c2 : (y[i]).f2 = 0
        · have e : ((y[i]).f2 != 0) = false := by simp [c2]
          rw [e]
          exact no ⟨⟨h1, h2, h3, fun _ => c2⟩, hlt⟩
        · have e : ((y[i]).f2 != 0) = true := by simp [c2]
          rw [e]
          exact yes (fun h => c2 (h.1.2.2.2 c))
      by_cases hi0 : 0 < i
      case neg => exact ev_neg (by omega) (tail (fun h0 => absurd h0 hi0))
      have hw : wrap64 ((i : Int) - 1) = ((i - 1 : Nat) : Int) := by rw [wrap_id (by omega) (by omega)]; omega
      have hi1 : i - 1 < y.length := by omega
      rw [hw, rdi_Done hi1]
      refine ev_pos (by omega) (ev_pos (nn_cast _) (ev_pos (lt_cast hi1) ?_))
      by_cases c : (y[i - 1]).f0.f0 ≥ (y[i]).f0.f0
      · exact ev_pos c (yes (fun h => absurd (h.2 hi0) (by omega)))
      · exact ev_neg c (tail (fun _ => by omega))) (by
      refine Ev.step (fun k => by rw [impl_CertOk.l0]) ?_
      refine ev_neg (by omega) (ev_get (in_dec _ _ _) ?_)
      simp only [donesFrom_end y, and_true]
      by_cases h1 : 0 ≤ a ∧ a ≤ 40
      case neg =>
        simp only [h1, false_and, decide_false]
        exact ev_neg (by simp) (ev_now _)
      simp only [h1, and_self, true_and, decide_true]
      refine ev_pos trivial (hw.bind ?_)
      rw [show decide (boxOk x) = w from Bool.eq_iff_iff.2 (by rw [hwi]; simp)]
      exact ev_now _) 0 (Nat.zero_le _)
  refine ⟨decide ((0 ≤ a ∧ a ≤ 40) ∧ boxOk x ∧ donesFrom y 0), ?_, ?_⟩
  · unfold impl_CertOk.f
    exact key
  · unfold stateOk
    exact decide_eq_true_iff

theorem sameRead_ev (x y : List S39) (hn : x.length ≤ 9223372036854775807) : ∃ v, Ev (fun k => impl_same_impl_Read.f k x y) v ∧ (v = true ↔ x = y) := by
  classical
  by_cases hl : x.length = y.length
  · have key := ev_loop x.length (fun i k => impl_same_impl_Read.l0 k x y (x.length : Int) (i : Int)) (fun i => decide (x.drop i = y.drop i)) (fun i hi ih => by
      refine Ev.step (fun k => by rw [impl_same_impl_Read.l0]) ?_
      refine ev_pos (lt_cast hi) (ev_pos (nn_cast i) (ev_pos (lt_cast hi) (ev_pos (lt_cast (hl ▸ hi)) ?_)))
      rw [rdi_Read hi, rdi_Read (hl ▸ hi), wrap_succ hi hn]
      simp only [drop_eq hl hi]
      by_cases h1 : x[i] = y[i]'(hl ▸ hi)
      · simp only [h1, true_and]
        exact ev_neg (by simp) ih
      · simp only [h1, false_and, decide_false]
        refine ev_pos ?_ (ev_now _)
        generalize x[i] = a at h1 ⊢
        generalize y[i]'(hl ▸ hi) = b at h1 ⊢
        obtain ⟨a0_, a1_⟩ := a; obtain ⟨b0_, b1_⟩ := b
        simp only [S39.mk.injEq, not_and] at h1
        simp
        omega) (by
      refine Ev.step (fun k => by rw [impl_same_impl_Read.l0]) ?_
      refine ev_neg (by omega) ?_
      rw [List.drop_length, hl, List.drop_length]
      simp only [decide_true]
      exact ev_now _) 0 (Nat.zero_le _)
    exact ⟨_, Ev.congr (fun k => by unfold impl_same_impl_Read.f; exact if_pos (by omega)) key, by simp⟩
  · refine ⟨false, ?_, by simp; exact fun h => hl (by rw [h])⟩
    unfold impl_same_impl_Read.f
    exact ev_neg (by omega) (ev_now _)

theorem samePut_ev (x y : List S82) (hn : x.length ≤ 9223372036854775807) : ∃ v, Ev (fun k => impl_same_impl_Put.f k x y) v ∧ (v = true ↔ x = y) := by
  classical
  by_cases hl : x.length = y.length
  · have key := ev_loop x.length (fun i k => impl_same_impl_Put.l0 k x y (x.length : Int) (i : Int)) (fun i => decide (x.drop i = y.drop i)) (fun i hi ih => by
      refine Ev.step (fun k => by rw [impl_same_impl_Put.l0]) ?_
      refine ev_pos (lt_cast hi) (ev_pos (nn_cast i) (ev_pos (lt_cast hi) (ev_pos (lt_cast (hl ▸ hi)) ?_)))
      rw [rdi_Put hi, rdi_Put (hl ▸ hi), wrap_succ hi hn]
      simp only [drop_eq hl hi]
      by_cases h1 : x[i] = y[i]'(hl ▸ hi)
      · simp only [h1, true_and]
        exact ev_neg (by simp) ih
      · simp only [h1, false_and, decide_false]
        refine ev_pos ?_ (ev_now _)
        generalize x[i] = a at h1 ⊢
        generalize y[i]'(hl ▸ hi) = b at h1 ⊢
        obtain ⟨a0_, a1_⟩ := a; obtain ⟨b0_, b1_⟩ := b
        simp only [S82.mk.injEq, not_and] at h1
        simp
        omega) (by
      refine Ev.step (fun k => by rw [impl_same_impl_Put.l0]) ?_
      refine ev_neg (by omega) ?_
      rw [List.drop_length, hl, List.drop_length]
      simp only [decide_true]
      exact ev_now _) 0 (Nat.zero_le _)
    exact ⟨_, Ev.congr (fun k => by unfold impl_same_impl_Put.f; exact if_pos (by omega)) key, by simp⟩
  · refine ⟨false, ?_, by simp; exact fun h => hl (by rw [h])⟩
    unfold impl_same_impl_Put.f
    exact ev_neg (by omega) (ev_now _)

theorem impl_ExecSame_ev (x0 : List S39) (x1 : List S82) (a b : Int) (y0 : List S39) (y1 : List S82) (c d : Int) (hn : x0.length ≤ 9223372036854775807) (hm : x1.length ≤ 9223372036854775807) :
    ∃ v, Ev (fun k => impl_ExecSame.f k x0 x1 a b y0 y1 c d) v ∧ (v = true ↔ x0 = y0 ∧ x1 = y1 ∧ a = c ∧ b = d) := by
  obtain ⟨u, hu, hui⟩ := sameRead_ev x0 y0 hn
  obtain ⟨v, hv, hvi⟩ := samePut_ev x1 y1 hm
  unfold impl_ExecSame.f
  by_cases h1 : u = true
  case neg => exact ⟨false, hu.bind (ev_neg h1 (ev_now _)), by simp; intro h; exact absurd (hui.2 h) h1⟩
  by_cases h2 : v = true
  case neg => exact ⟨false, hu.bind (ev_pos h1 (hv.bind (ev_neg h2 (ev_now _)))), by simp; intro _ h; exact absurd (hvi.2 h) h2⟩
  have e1 := hui.1 h1
  have e2 := hvi.1 h2
  by_cases h3 : a = c
  case neg => exact ⟨false, hu.bind (ev_pos h1 (hv.bind (ev_pos h2 (ev_neg h3 (ev_now _))))), by simp [h3]⟩
  exact ⟨b == d, hu.bind (ev_pos h1 (hv.bind (ev_pos h2 (ev_pos h3 (ev_now _))))), by simp [e1, e2, h3]⟩

theorem impl_CertLike_ev (e : Bool) (p q : Int) (x0 : List S39) (x1 : List S82) (a b : Int) (f : Bool) (r s : Int) (y0 : List S39) (y1 : List S82) (c d : Int) (hn : x0.length ≤ 9223372036854775807) (hm : x1.length ≤ 9223372036854775807) :
    ∃ v, Ev (fun k => impl_CertLike.f k e p q x0 x1 a b f r s y0 y1 c d) v ∧ (v = true ↔ e = f ∧ (p = r ∧ q = s) ∧ x0 = y0 ∧ x1 = y1 ∧ a = c ∧ b = d) := by
  obtain ⟨u, hu, hui⟩ := impl_ExecSame_ev x0 x1 a b y0 y1 c d hn hm
  unfold impl_CertLike.f
  rw [← hui]
  by_cases h1 : e = f
  case neg => exact ⟨false, ev_neg (by simpa using h1) (ev_now _), by simp [h1]⟩
  by_cases h2 : p = r ∧ q = s
  case neg => exact ⟨false, ev_pos (by simpa using h1) (ev_neg (by simpa using h2) (ev_now _)), by simp [h2]⟩
  exact ⟨u, ev_pos (by simpa using h1) (ev_pos (by simpa using h2) (hu.bind (ev_now _))), by simp [h1, h2]⟩

/-- Two runs compared by the document. -/
theorem spec_ExecSame_ev (x0 : List S39) (x1 : List S82) (a b : Int) (y0 : List S39) (y1 : List S82) (c d : Int) (hn : x0.length ≤ 9223372036854775807) (hm : x1.length ≤ 9223372036854775807) :
    ∃ v, Ev (fun k => spec_ExecSame.f k x0 x1 a b y0 y1 c d) v ∧ (v = true ↔ x0 = y0 ∧ x1 = y1 ∧ a = c ∧ b = d) := by
  classical
  have no : Ev (fun k => spec_ExecSame.j0 k true x0 x1 a b y0 y1 c d) false := by
    refine Ev.step (fun k => by rw [spec_ExecSame.j0]) ?_
    exact ev_pos rfl (ev_now _)
  unfold spec_ExecSame.f
  by_cases ha : a = c
  case neg => exact ⟨false, ev_neg ha no, by simp [ha]⟩
  by_cases hb : b = d
  case neg => exact ⟨false, ev_pos ha (ev_neg hb no), by simp [hb]⟩
  by_cases hl : x0.length = y0.length
  case neg => exact ⟨false, ev_pos ha (ev_pos hb (ev_neg (by omega) no)), by simp; intro h; exact absurd (by rw [h]) hl⟩
  by_cases hl2 : x1.length = y1.length
  case neg =>
    have e1 : ((x1.length : Int) != (y1.length : Int)) = true := by simp; omega
    exact ⟨false, ev_pos ha (ev_pos hb (ev_pos (by omega) (by rw [e1]; exact no))), by simp; intro _ h; exact absurd (by rw [h]) hl2⟩
  have e1 : ((x1.length : Int) != (y1.length : Int)) = false := by simp; omega
  have k1 := ev_loop x1.length (fun i k => spec_ExecSame.l1 k (i : Int) x0 x1 a b y0 y1 c d) (fun i => decide (x1.drop i = y1.drop i)) (fun i hi ih => by
      refine Ev.step (fun k => by rw [spec_ExecSame.l1]) ?_
      refine ev_pos (lt_cast hi) (ev_pos (nn_cast i) (ev_pos (lt_cast (hl2 ▸ hi)) ?_))
      rw [rdi_Put hi, rdi_Put (hl2 ▸ hi), wrap_succ hi hm]
      simp only [drop_eq hl2 hi]
      by_cases h1 : x1[i] = y1[i]'(hl2 ▸ hi)
      · simp only [h1, true_and]
        exact ev_neg (by simp) ih
      · simp only [h1, false_and, decide_false]
        refine ev_pos ?_ (ev_now _)
        generalize x1[i] = u at h1 ⊢
        generalize y1[i]'(hl2 ▸ hi) = v at h1 ⊢
        cases u; cases v
        simp only [S82.mk.injEq, not_and] at h1
        simp
        omega) (by
      refine Ev.step (fun k => by rw [spec_ExecSame.l1]) ?_
      refine ev_neg (by omega) ?_
      rw [List.drop_length, hl2, List.drop_length]
      simp only [decide_true]
      exact ev_now _) 0 (Nat.zero_le _)
  simp only [List.drop_zero] at k1
  have k0 := ev_loop x0.length (fun i k => spec_ExecSame.l0 k (i : Int) x0 x1 a b y0 y1 c d) (fun i => decide (x0.drop i = y0.drop i ∧ x1 = y1)) (fun i hi ih => by
      refine Ev.step (fun k => by rw [spec_ExecSame.l0]) ?_
      refine ev_pos (lt_cast hi) (ev_pos (nn_cast i) (ev_pos (lt_cast (hl ▸ hi)) ?_))
      rw [rdi_Read hi, rdi_Read (hl ▸ hi), wrap_succ hi hn]
      simp only [drop_eq hl hi]
      by_cases h1 : x0[i] = y0[i]'(hl ▸ hi)
      · simp only [h1, true_and]
        exact ev_neg (by simp) ih
      · simp only [h1, false_and, decide_false]
        refine ev_pos ?_ (ev_now _)
        generalize x0[i] = u at h1 ⊢
        generalize y0[i]'(hl ▸ hi) = v at h1 ⊢
        cases u; cases v
        simp only [S39.mk.injEq, not_and] at h1
        simp
        omega) (by
      refine Ev.step (fun k => by rw [spec_ExecSame.l0]) ?_
      refine ev_neg (by omega) ?_
      rw [List.drop_length, hl, List.drop_length]
      simp only [true_and]
      exact k1) 0 (Nat.zero_le _)
  refine ⟨decide (x0.drop 0 = y0.drop 0 ∧ x1 = y1), ev_pos ha (ev_pos hb (ev_pos (by omega) ?_)), ?_⟩
  · rw [e1]
    refine Ev.step (fun k => by rw [spec_ExecSame.j0]) ?_
    exact ev_neg (by simp) k0
  · simp [ha, hb]

theorem l3Saw_ev (x : List S39) (b : Int) (hn : x.length ≤ 9223372036854775807) : ∃ v, Ev (fun k => spec_l3Saw.f k x b) v ∧ (v = true ↔ b ∈ x.map rKey) := by
  classical
  have key := ev_loop x.length (fun i k => spec_l3Saw.l0 k x b (i : Int)) (fun i => decide (b ∈ (x.drop i).map rKey)) (fun i hi ih => by
      refine Ev.step (fun k => by rw [spec_l3Saw.l0]) ?_
      refine ev_pos (lt_cast hi) (ev_pos (nn_cast i) ?_)
      rw [rdi_Read hi, wrap_succ hi hn]
      have e : b ∈ (x.drop i).map rKey ↔ b = (x[i]).f0 ∨ b ∈ (x.drop (i + 1)).map rKey := by rw [List.drop_eq_getElem_cons hi]; simp only [List.map_cons, List.mem_cons]; exact Iff.rfl
      simp only [e]
      refine ev_ite (fun c => ?_) (fun c => ?_)
      · simp only [c.symm, true_or, decide_true]; exact ev_now _
      · have c2 : ¬ b = (x[i]).f0 := fun h => c h.symm
        simp only [c2, false_or]; exact ih) (by
      refine Ev.step (fun k => by rw [spec_l3Saw.l0]) ?_
      refine ev_neg (by omega) ?_
      simp only [List.drop_length, List.map_nil, List.not_mem_nil, decide_false]
      exact ev_now _) 0 (Nat.zero_le _)
  exact ⟨_, key, by simp⟩
/-- Where a box stands in what was put. -/
theorem l3At_ev (x : List S82) (b : Int) (hn : x.length ≤ 9223372036854775807) : ∃ v, Ev (fun k => spec_l3At.f k x b) v ∧ (0 ≤ v ↔ b ∈ x.map pKey) := by
  classical
  have key : ∀ d i, i + d = x.length → ∃ v, Ev (fun k => spec_l3At.l0 k x b (i : Int)) v ∧ (0 ≤ v ↔ b ∈ (x.drop i).map pKey) := by
    intro d
    induction d with
    | zero =>
      intro i hi
      obtain rfl : i = x.length := by omega
      refine ⟨-1, ?_, by simp⟩
      refine Ev.step (fun k => by rw [spec_l3At.l0]) ?_
      exact ev_neg (by omega) (ev_now _)
    | succ d ih =>
      intro i hd
      have hi : i < x.length := by omega
      have e : b ∈ (x.drop i).map pKey ↔ b = (x[i]).f0 ∨ b ∈ (x.drop (i + 1)).map pKey := by rw [List.drop_eq_getElem_cons hi]; simp only [List.map_cons, List.mem_cons]; exact Iff.rfl
      by_cases c : (x[i]).f0 = b
      · refine ⟨(i : Int), ?_, by rw [e]; simp [c]⟩
        refine Ev.step (fun k => by rw [spec_l3At.l0]) ?_
        refine ev_pos (lt_cast hi) (ev_pos (nn_cast i) ?_)
        rw [rdi_Put hi]
        exact ev_pos c (ev_now _)
      · obtain ⟨v, hv, hvi⟩ := ih (i + 1) (by omega)
        have c2 : ¬ b = (x[i]).f0 := fun h => c h.symm
        refine ⟨v, ?_, by rw [e, hvi]; simp [c2]⟩
        refine Ev.step (fun k => by rw [spec_l3At.l0]) ?_
        refine ev_pos (lt_cast hi) (ev_pos (nn_cast i) ?_)
        rw [rdi_Put hi, wrap_succ hi hn]
        exact ev_neg c hv
  obtain ⟨v, hv, hvi⟩ := key x.length 0 (by omega)
  exact ⟨v, hv, by simpa using hvi⟩
theorem sExecOk_l1 (x : List S39) (y : List S82) (a b : Int) (hm : y.length ≤ 9223372036854775807) : ∃ v, Ev (fun k => spec_ExecOk.l1 k 0 x y a b) v ∧ (v = true ↔ okFrom pKey pGood y 0) := by
  classical
  have key := ev_loop y.length (fun i k => spec_ExecOk.l1 k (i : Int) x y a b) (fun i => decide (okFrom pKey pGood y i)) (fun i hi ih => by
      refine Ev.step (fun k => by rw [spec_ExecOk.l1]) ?_
      refine ev_pos (lt_cast hi) (ev_pos (nn_cast i) ?_)
      rw [rdi_Put hi, wrap_succ hi hm, Int.toNat_natCast]
      simp only [okFrom_step pKey pGood y hi]
      refine ev_get (l2Box_some _) ?_
      by_cases h1 : 0 ≤ (y[i]).f0 ∧ (y[i]).f0 ≤ 3
      case neg =>
        have : ¬ (0 ≤ pKey y[i] ∧ pKey y[i] ≤ 3) := h1
        simp only [this, false_and, decide_false]
        exact ev_neg (by simpa using h1) (ev_now _)
      refine ev_pos (by simpa using h1) (ev_get (l1Num_dec _) ?_)
      have h2 : 0 ≤ pKey y[i] ∧ pKey y[i] ≤ 3 := h1
      by_cases g : pGood y[i]
      case neg =>
        simp only [g, false_and, and_false, decide_false]
        exact ev_neg (by simpa [pGood] using g) (ev_now _)
      obtain ⟨v, hv, hvi⟩ := l3At_ev (y.take i) (y[i]).f0 (by rw [List.length_take]; omega)
      refine ev_pos (by simpa [pGood] using g) (ev_pos (by omega) (hv.bind ?_))
      refine ev_ite (fun c => ?_) (fun c => ?_)
      · have c2 : pKey y[i] ∈ (y.take i).map pKey := hvi.1 c
        simp only [c2, not_true, and_false, false_and, decide_false]
        exact ev_now _
      · have c2 : ¬ pKey y[i] ∈ (y.take i).map pKey := fun h => c (hvi.2 h)
        simp only [h2, g, c2, not_false_eq_true, and_self, true_and]
        exact ih) (by
      refine Ev.step (fun k => by rw [spec_ExecOk.l1]) ?_
      refine ev_neg (by omega) ?_
      simp only [okFrom_end pKey pGood y, decide_true]
      exact ev_now _) 0 (Nat.zero_le _)
  exact ⟨_, key, by simp⟩
theorem sExecOk_l0 (x : List S39) (y : List S82) (a b : Int) (hn : x.length ≤ 9223372036854775807) (hm : y.length ≤ 9223372036854775807) :
    ∃ v, Ev (fun k => spec_ExecOk.l0 k 0 x y a b) v ∧ (v = true ↔ okFrom rKey rGood x 0 ∧ okFrom pKey pGood y 0) := by
  classical
  obtain ⟨u, hu, hui⟩ := sExecOk_l1 x y a b hm
  have key := ev_loop x.length (fun i k => spec_ExecOk.l0 k (i : Int) x y a b) (fun i => decide (okFrom rKey rGood x i ∧ okFrom pKey pGood y 0)) (fun i hi ih => by
      refine Ev.step (fun k => by rw [spec_ExecOk.l0]) ?_
      refine ev_pos (lt_cast hi) (ev_pos (nn_cast i) ?_)
      rw [rdi_Read hi, wrap_succ hi hn, Int.toNat_natCast]
      simp only [okFrom_step rKey rGood x hi]
      refine ev_get (l2Box_some _) ?_
      by_cases h1 : 0 ≤ (x[i]).f0 ∧ (x[i]).f0 ≤ 3
      case neg =>
        have : ¬ (0 ≤ rKey x[i] ∧ rKey x[i] ≤ 3) := h1
        simp only [this, false_and, decide_false]
        exact ev_neg (by simpa using h1) (ev_now _)
      refine ev_pos (by simpa using h1) ?_
      have h2 : 0 ≤ rKey x[i] ∧ rKey x[i] ≤ 3 := h1
      by_cases g1 : (x[i]).f1 < 0
      · have g : ¬ rGood x[i] := by unfold rGood; omega
        simp only [g, false_and, and_false, decide_false]
        exact ev_pos g1 (ev_now _)
      by_cases g2 : (x[i]).f1 > 1000000
      · have g : ¬ rGood x[i] := by unfold rGood; omega
        simp only [g, false_and, and_false, decide_false]
        exact ev_neg g1 (ev_pos g2 (ev_now _))
      have g : rGood x[i] := by unfold rGood; omega
      obtain ⟨v, hv, hvi⟩ := l3Saw_ev (x.take i) (x[i]).f0 (by rw [List.length_take]; omega)
      refine ev_neg g1 (ev_neg g2 (ev_pos (by omega) (hv.bind ?_)))
      refine ev_ite (fun c => ?_) (fun c => ?_)
      · have c2 : rKey x[i] ∈ (x.take i).map rKey := hvi.1 c
        simp only [c2, not_true, and_false, false_and, decide_false]
        exact ev_now _
      · have c2 : ¬ rKey x[i] ∈ (x.take i).map rKey := fun h => c (hvi.2 h)
        simp only [h2, g, c2, not_false_eq_true, and_self, true_and]
        exact ih) (by
      refine Ev.step (fun k => by rw [spec_ExecOk.l0]) ?_
      refine ev_neg (by omega) ?_
      simp only [okFrom_end rKey rGood x, true_and]
      rw [show decide (okFrom pKey pGood y 0) = u from Bool.eq_iff_iff.2 (by rw [hui]; simp)]
      exact hu) 0 (Nat.zero_le _)
  exact ⟨_, key, by simp⟩
theorem spec_ExecOk_ev (x : List S39) (y : List S82) (a b : Int) (hn : x.length ≤ 9223372036854775807) (hm : y.length ≤ 9223372036854775807) : ∃ v, Ev (fun k => spec_ExecOk.f k x y a b) v ∧ (v = true ↔ runOk x y a b) := by
  obtain ⟨u, hu, hui⟩ := sExecOk_l0 x y a b hn hm
  have yes : Ev (fun k => spec_ExecOk.j0 k true x y a b) false := by
    refine Ev.step (fun k => by rw [spec_ExecOk.j0]) ?_
    exact ev_pos rfl (ev_now _)
  have no : Ev (fun k => spec_ExecOk.j0 k false x y a b) u := by
    refine Ev.step (fun k => by rw [spec_ExecOk.j0]) ?_
    exact ev_neg (by simp) hu
  unfold spec_ExecOk.f runOk
  rw [← hui]
  simp only [l1Num_dec, Option.bind_some, decide_eq_true_eq]
  by_cases k1 : b < 0
  · exact ⟨false, ev_pos k1 yes, by simp; omega⟩
  by_cases k2 : b > 3
  · exact ⟨false, ev_neg k1 (ev_pos k2 yes), by simp; omega⟩
  have h1 : 0 ≤ b ∧ b ≤ 3 := by omega
  by_cases h2 : -1000000 ≤ a ∧ a ≤ 1000000
  case neg => exact ⟨false, ev_neg k1 (ev_neg k2 (ev_neg h2 yes)), by simp [h2]⟩
  have g3 : ∀ c : Bool, c = decide ((x.length : Int) > 0) → Ev (fun k => spec_ExecOk.j0 k c x y a b) (!c && u) := by
    intro c _
    cases c with
    | true => exact yes
    | false => exact no
  by_cases h3 : b = 0
  · have h4 : ¬ b = 3 := by omega
    exact ⟨u, ev_neg k1 (ev_neg k2 (ev_pos h2 (ev_pos h3 (ev_neg h4 no)))), by simp [h1, h2, h3, h4]⟩
  by_cases h5 : a = 0
  case neg => exact ⟨false, ev_neg k1 (ev_neg k2 (ev_pos h2 (ev_neg h3 (ev_neg h5 yes)))), by simp [h3, h5]⟩
  by_cases h6 : (y.length : Int) > 0
  · exact ⟨false, ev_neg k1 (ev_neg k2 (ev_pos h2 (ev_neg h3 (ev_pos h5 (ev_pos h6 yes))))), by simp only [Bool.false_eq_true, false_iff]; intro hh; exact (hh.2.2.1 h3).2 h6⟩
  by_cases h4 : b = 3
  · refine ⟨_, ev_neg k1 (ev_neg k2 (ev_pos h2 (ev_neg h3 (ev_pos h5 (ev_neg h6 (ev_pos h4 (g3 _ rfl))))))), ?_⟩
    by_cases h7 : (x.length : Int) > 0
    · simp only [h7, decide_true, Bool.not_true, Bool.false_and, Bool.false_eq_true, false_iff]
      intro hh; exact hh.2.2.2.1 h4 trivial
    · simp only [h7, decide_false, Bool.not_false, Bool.true_and]
      exact ⟨fun hh => ⟨h1, h2, fun _ => ⟨h5, h6⟩, fun _ => fun h => h, hh⟩, fun hh => hh.2.2.2.2⟩
  · exact ⟨u, ev_neg k1 (ev_neg k2 (ev_pos h2 (ev_neg h3 (ev_pos h5 (ev_neg h6 (ev_neg h4 no)))))), ⟨fun hh => ⟨h1, h2, fun _ => ⟨h5, h6⟩, fun h => absurd h h4, hh⟩, fun hh => hh.2.2.2.2⟩⟩

theorem l5Req_dec (a b : Int) : spec_l5Req.f a b = some (decide (reqIn a b)) := by
  unfold spec_l5Req.f
  repeat' split
  all_goals (congr 1; rw [Bool.eq_iff_iff]; simp only [decide_eq_true_eq, Bool.false_eq_true]; simp only [reqIn]; constructor <;> intro hh_ <;> first | exact hh_.elim | omega)

def entryOk (e : Bool) (p q : Int) (x0 : List S39) (x1 : List S82) (a b : Int) : Prop :=
  if e = true then (p = 0 ∧ q = 0) ∧ x0 = [] ∧ x1 = [] ∧ a = 0 ∧ b = 0 else reqIn p q ∧ runOk x0 x1 a b ∧ b ≠ 3
theorem spec_CertEntry_ev (e : Bool) (p q : Int) (x0 : List S39) (x1 : List S82) (a b : Int) (hn : x0.length ≤ 9223372036854775807) (hm : x1.length ≤ 9223372036854775807) :
    ∃ v, Ev (fun k => spec_CertEntry.f k e p q x0 x1 a b) v ∧ (v = true ↔ entryOk e p q x0 x1 a b) := by
  obtain ⟨u, hu, hui⟩ := spec_ExecSame_ev x0 x1 a b [] [] 0 0 hn hm
  obtain ⟨w, hw, hwi⟩ := spec_ExecOk_ev x0 x1 a b hn hm
  unfold spec_CertEntry.f entryOk
  by_cases h1 : e = true
  · rw [if_pos h1]
    by_cases h2 : p = 0 ∧ q = 0
    case neg => exact ⟨false, ev_pos h1 (ev_neg (by simpa using h2) (ev_now _)), by simp [h2]⟩
    exact ⟨u, ev_pos h1 (ev_pos (by simpa using h2) (hu.bind (ev_now _))), by simp [h2, hui]⟩
  · rw [if_neg h1, ← hwi]
    by_cases h2 : reqIn p q
    case neg => exact ⟨false, ev_neg h1 (ev_get (l5Req_dec p q) (ev_neg (by simpa using h2) (ev_now _))), by simp [h2]⟩
    by_cases h3 : w = true
    case neg => exact ⟨false, ev_neg h1 (ev_get (l5Req_dec p q) (ev_pos (by simpa using h2) (hw.bind (ev_neg h3 (ev_now _))))), by simp [h3]⟩
    exact ⟨b != 3, ev_neg h1 (ev_get (l5Req_dec p q) (ev_pos (by simpa using h2) (hw.bind (ev_pos h3 (ev_now _))))), by simp [h2, h3]⟩

theorem impl_CertEntry_ev (e : Bool) (p q : Int) (x0 : List S39) (x1 : List S82) (a b : Int) (hn : x0.length ≤ 9223372036854775807) (hm : x1.length ≤ 9223372036854775807) :
    ∃ v, Ev (fun k => impl_CertEntry.f k e p q x0 x1 a b) v ∧ (v = true ↔ entryOk e p q x0 x1 a b) := by
  obtain ⟨u, hu, hui⟩ := impl_CertLike_ev e p q x0 x1 a b true 0 0 [] [] 0 0 hn hm
  obtain ⟨w, hw, hwi⟩ := impl_ExecOk_ev x0 x1 a b hn hm
  unfold impl_CertEntry.f entryOk
  by_cases h1 : e = true
  · rw [if_pos h1]
    exact ⟨u, ev_pos h1 (hu.bind (ev_now _)), by rw [hui]; simp [h1]⟩
  · rw [if_neg h1, ← hwi]
    by_cases h2 : reqIn p q
    case neg => exact ⟨false, ev_neg h1 (ev_get (reqOk_dec p q) (ev_neg (by simpa using h2) (ev_now _))), by simp [h2]⟩
    by_cases h3 : w = true
    case neg => exact ⟨false, ev_neg h1 (ev_get (reqOk_dec p q) (ev_pos (by simpa using h2) (hw.bind (ev_neg h3 (ev_now _))))), by simp [h3]⟩
    exact ⟨b != 3, ev_neg h1 (ev_get (reqOk_dec p q) (ev_pos (by simpa using h2) (hw.bind (ev_pos h3 (ev_now _))))), by simp [h2, h3]⟩

theorem sorted_of {y : List S84} (h : donesFrom y 0) : y.Pairwise (fun a b => a.f0.f0 < b.f0.f0) := by
  rw [List.pairwise_iff_getElem]
  intro i j hi hj hij
  have step : ∀ d, ∀ (hd : i + d + 1 < y.length), (y[i]).f0.f0 < (y[i + d + 1]).f0.f0 := by
    intro d
    induction d with
    | zero => intro hd; exact (h (i + 1) hd (Nat.zero_le _)).2 (by omega)
    | succ d ih =>
      intro hd
      have a := ih (by omega)
      have b := (h (i + (d + 1) + 1) hd (Nat.zero_le _)).2 (by omega)
      exact Int.lt_trans a b
  have := step (j - i - 1) (by omega)
  have e : i + (j - i - 1) + 1 = j := by omega
  simpa only [e] using this
theorem find_ge {q p : Int} : ∀ {y : List S84}, y.Pairwise (fun a b => a.f0.f0 < b.f0.f0) →
    y.find? (fun d => decide (d.f0.f0 = p) && decide (q ≤ d.f0.f1)) = (lastD y p).bind fun d => if q ≤ d.f0.f1 then some d else none := by
  intro y
  induction y with
  | nil => intro _; rfl
  | cons d r ih =>
    intro h
    rw [List.pairwise_cons] at h
    unfold lastD at ih ⊢
    rw [List.find?_cons, List.find?_cons]
    by_cases e : d.f0.f0 = p
    · rw [decide_eq_true e]
      simp only [Bool.true_and, Option.bind_some]
      by_cases g : q ≤ d.f0.f1
      · rw [decide_eq_true g, if_pos g]
      · rw [decide_eq_false g, if_neg g]
        rw [List.find?_eq_none]
        intro z hz
        have := h.1 z hz
        simp only [Bool.and_eq_true, decide_eq_true_eq, not_and]
        intro e2; omega
    · rw [decide_eq_false e]
      simp only [Bool.false_and]
      exact ih h.2
theorem cNew_ev (y0 : List S84) (a : Int) (x : List S37) (y : List S84) (p q : Int) (rx : List S39) (ry : List S82) (v c a1 : Int) (e : Bool) (hx : x.length ≤ 2000000) (hy : y.length ≤ 1000000000000) (hr : rx.length ≤ 1000000000000) (hp : ry.length ≤ 1000000000000) :
    Ev (fun k => (impl_ExecFresh.f k x rx ry v c).bind fun t => (if t = true then (if c = 0 then ((impl_ExecDo.f k x rx ry v c).bind fun t2 => (impl_CertApply.j3 k a x y a1 t2 p q 0 v)) else (impl_CertApply.j3 k a x y a1 x p q 2 0)) else (impl_CertApply.j3 k a x y a1 x p q 1 0))) (apNew a1 x y p q rx ry v c) := by
  obtain ⟨u, hu, hui⟩ := impl_ExecFresh_ev x rx ry v c (by omega) (by omega) (by omega)
  have put : ∀ x2 c2 v2, Ev (fun k => impl_CertApply.j3 k a x y a1 x2 p q c2 v2) (a1, x2, putD ⟨⟨p, q⟩, c2, v2⟩ false y, c2) := fun x2 c2 v2 => by
    refine Ev.step (fun k => by rw [impl_CertApply.j3]) ?_
    simpa using capply_l1 y a1 x2 p q c2 v2 hy y.length 0 [] false (by omega) (by simp; omega)
  unfold apNew
  refine hu.bind (ev_ite (fun h => ?_) (fun h => ?_))
  · have hf := hui.1 h
    rw [if_pos hf]
    refine ev_ite (fun hc => ?_) (fun hc => ?_)
    · rw [if_pos hc]
      have hd := impl_ExecDo_ev x rx ry v c (by have := hf.1.1; omega) (by omega) (by omega)
      have e2 : doneBy x rx ry v c = ry.foldl put1 x := by unfold doneBy; rw [if_pos ⟨hf.1, hf.2.1⟩]
      rw [e2] at hd
      exact hd.bind (put _ 0 v)
    · rw [if_neg hc]; exact put x 2 0
  · rw [if_neg (fun g => h (hui.2 g))]
    exact put x 1 0
open Classical in
/-- What the machine makes of a state and an entry. -/
noncomputable def certAp (a : Int) (x : List S37) (y : List S84) (e : Bool) (p q : Int) (rx : List S39) (ry : List S82) (v c : Int) : Int × List S37 × List S84 × Int :=
  if stateOk a x y ∧ entryOk e p q rx ry v c ∧ a ≠ 40 then apOf (a + 1) x y e p q rx ry v c else (0, [], [], -1)
theorem impl_CertApply_ev (a : Int) (x : List S37) (y : List S84) (e : Bool) (p q : Int) (rx : List S39) (ry : List S82) (v c : Int) (hx : x.length ≤ 2000000) (hy : y.length ≤ 2000000) (hr : rx.length ≤ 2000000) (hp : ry.length ≤ 2000000) :
    Ev (fun k => impl_CertApply.f k a x y e p q rx ry v c) (certAp a x y e p q rx ry v c) := by
  obtain ⟨u, hu, hui⟩ := impl_CertOk_ev a x y (by omega) (by omega)
  obtain ⟨w, hw, hwi⟩ := impl_CertEntry_ev e p q rx ry v c (by omega) (by omega)
  unfold impl_CertApply.f certAp
  have no : Ev (fun k => impl_CertApply.j0 k true a x y e p q rx ry v c) (0, [], [], -1) := Ev.step (fun k => by rw [impl_CertApply.j0]) (ev_pos rfl (ev_now _))
  refine hu.bind (ev_ite (fun h1 => ?_) (fun h1 => ?_))
  case refine_2 => rw [if_neg (fun g => h1 (hui.2 g.1))]; exact no
  refine hw.bind (ev_ite (fun h2 => ?_) (fun h2 => ?_))
  case refine_2 => rw [if_neg (fun g => h2 (hwi.2 g.2.1))]; exact no
  by_cases h3 : a = 40
  · rw [if_neg (fun g => g.2.2 h3)]
    have e1 : (a == 40) = true := by simp [h3]
    rw [e1]; exact no
  have hs := hui.1 h1
  rw [if_pos ⟨hs, hwi.1 h2, h3⟩]
  have e1 : (a == 40) = false := by simp [h3]
  rw [e1]
  have hwr : wrap64 (a + 1) = a + 1 := by have := hs.1; exact wrap_id (by omega) (by omega)
  refine Ev.step (fun k => by rw [impl_CertApply.j0]) ?_
  refine ev_neg (by simp) (ev_get (if_pos (by omega)) ?_)
  rw [hwr]
  unfold apOf
  refine ev_ite (fun h4 => ?_) (fun h4 => ?_)
  · rw [if_pos h4]; exact ev_get (if_pos (by omega)) (ev_now _)
  rw [if_neg h4]
  have loop : ∀ (d i : Nat), i + d = y.length → Ev (fun k => impl_CertApply.l0 k y (y.length : Int) (i : Int) a x y e p q rx ry v c (a + 1) x)
      (match (y.drop i).find? (fun d => decide (d.f0.f0 = p) && decide (q ≤ d.f0.f1)) with | some d => if d.f0.f1 = q then (a + 1, x, y, 3) else (a + 1, x, y, 4) | none => apNew (a + 1) x y p q rx ry v c) := by
    intro d
    induction d with
    | zero =>
      intro i hi
      obtain rfl : i = y.length := by omega
      rw [List.drop_length]
      refine Ev.step (fun k => by rw [impl_CertApply.l0]) (ev_neg (by omega) ?_)
      exact cNew_ev y a x y p q rx ry v c (a + 1) e hx (by omega) (by omega) (by omega)
    | succ d ih =>
      intro i hd
      have hi : i < y.length := by omega
      rw [List.drop_eq_getElem_cons hi, List.find?_cons]
      refine Ev.step (fun k => by rw [impl_CertApply.l0]) ?_
      refine ev_pos (lt_cast hi) (ev_pos (nn_cast i) (ev_pos (lt_cast hi) ?_))
      rw [rdi_Done hi]
      have next : Ev (fun k => impl_CertApply.j2 k y (y.length : Int) (i : Int) false a x y e p q rx ry v c (a + 1) x (y[i]).f0.f0 (y[i]).f0.f1 (y[i]).f1 (y[i]).f2) _ :=
        Ev.step (fun k => by rw [impl_CertApply.j2]) (ev_neg (by simp) (by rw [wrap_succ hi (n := y.length) (by omega)]; exact ih (i + 1) (by omega)))
      refine ev_ite (fun c1 => ?_) (fun c1 => ?_)
      · rw [decide_eq_true c1]
        by_cases c2 : q ≤ (y[i]).f0.f1
        · have e2 : decide ((y[i]).f0.f1 ≥ q) = true := decide_eq_true c2
          rw [e2]
          refine Ev.step (fun k => by rw [impl_CertApply.j2]) ?_
          refine ev_pos rfl (ev_get (if_pos (by omega)) ?_)
          simp only [Bool.and_self]
          exact ev_ite (fun c3 => by rw [if_pos c3]; exact ev_now _) (fun c3 => by rw [if_neg c3]; exact ev_now _)
        · have e2 : decide ((y[i]).f0.f1 ≥ q) = false := decide_eq_false c2
          rw [e2]
          exact next
      · rw [decide_eq_false c1]; exact next
  have key := loop y.length 0 (by omega)
  rw [List.drop_zero, find_ge (sorted_of hs.2.2)] at key
  have e3 : (match (lastD y p).bind fun d => if q ≤ d.f0.f1 then some d else none with | some d => if d.f0.f1 = q then (a + 1, x, y, 3) else (a + 1, x, y, 4) | none => apNew (a + 1) x y p q rx ry v c) =
      (match lastD y p with | some d => if d.f0.f1 = q then (a + 1, x, y, 3) else if q < d.f0.f1 then (a + 1, x, y, 4) else apNew (a + 1) x y p q rx ry v c | none => apNew (a + 1) x y p q rx ry v c) := by
    cases lastD y p with
    | none => rfl
    | some d =>
      simp only [Option.bind_some]
      by_cases g : q ≤ d.f0.f1
      · rw [if_pos g]
        simp only
        by_cases g2 : d.f0.f1 = q
        · rw [if_pos g2, if_pos g2]
        · rw [if_neg g2, if_neg g2, if_pos (by omega)]
      · rw [if_neg g]
        simp only
        rw [if_neg (by omega), if_neg (by omega)]
  rw [e3] at key
  exact key

theorem donesFrom_iff {y : List S84} : donesFrom y 0 ↔ (∀ d ∈ y, dGood d) ∧ y.Pairwise (fun a b => a.f0.f0 < b.f0.f0) := by
  constructor
  · intro h
    refine ⟨fun d hd => ?_, sorted_of h⟩
    obtain ⟨i, hi, rfl⟩ := List.mem_iff_getElem.1 hd
    exact (h i hi (Nat.zero_le _)).1
  · rintro ⟨h1, h2⟩ j hj _
    refine ⟨h1 _ (List.getElem_mem hj), fun h0 => ?_⟩
    exact List.pairwise_iff_getElem.1 h2 (j - 1) j (by omega) hj (by omega)
theorem putD_sorted {d : S84} : ∀ {y : List S84} {b : Bool}, y.Pairwise (fun a b => a.f0.f0 < b.f0.f0) → (putD d b y).Pairwise (fun a b => a.f0.f0 < b.f0.f0) := by
  intro y
  induction y with
  | nil => intro b _; unfold putD; cases b <;> simp
  | cons q r ih =>
    intro b h
    rw [List.pairwise_cons] at h
    have hr := @ih (b || decide (d.f0.f0 ≤ q.f0.f0)) h.2
    have mid : ((if q.f0.f0 = d.f0.f0 then [] else [q]) ++ putD d (b || decide (d.f0.f0 ≤ q.f0.f0)) r).Pairwise (fun a b => a.f0.f0 < b.f0.f0) := by
      split
      · simpa using hr
      · rename_i c
        rw [List.singleton_append, List.pairwise_cons]
        refine ⟨fun z hz => ?_, hr⟩
        rcases putD_mem hz with ⟨rfl, h2⟩ | ⟨h1, h2⟩
        · simp only [Bool.or_eq_false_iff, decide_eq_false_iff_not] at h2; omega
        · exact h.1 z h1
    unfold putD
    split
    · rename_i c
      rw [List.singleton_append, List.pairwise_cons]
      refine ⟨fun z hz => ?_, mid⟩
      rw [List.mem_append] at hz
      rcases hz with hz | hz
      · split at hz
        · simp at hz
        · rename_i c2; rw [List.mem_singleton] at hz; subst hz; omega
      · rcases putD_mem hz with ⟨_, h2⟩ | ⟨h1, h2⟩
        · simp only [Bool.or_eq_false_iff, decide_eq_false_iff_not] at h2; omega
        · have := h.1 z h1; omega
    · rw [List.nil_append]; exact mid
theorem apNew_ok {a : Int} {x : List S37} {y : List S84} {p q : Int} {rx : List S39} {ry : List S82} {v c : Int} (ha : 0 ≤ a ∧ a ≤ 40) (hx : boxOk x) (hy : donesFrom y 0) (hq : reqIn p q) (hr : runOk rx ry v c) :
    stateOk (apNew a x y p q rx ry v c).1 (apNew a x y p q rx ry v c).2.1 (apNew a x y p q rx ry v c).2.2.1 := by
  have put : ∀ c2 v2, (0 ≤ c2 ∧ c2 ≤ 2) → (-1000000 ≤ v2 ∧ v2 ≤ 1000000) → (c2 ≠ 0 → v2 = 0) → donesFrom (putD ⟨⟨p, q⟩, c2, v2⟩ false y) 0 := by
    intro c2 v2 h1 h2 h3
    have h := donesFrom_iff.1 hy
    refine donesFrom_iff.2 ⟨fun z hz => ?_, putD_sorted h.2⟩
    rcases putD_mem hz with ⟨rfl, _⟩ | ⟨h1, _⟩
    · exact ⟨hq, h1, h2, h3⟩
    · exact h.1 z h1
  unfold apNew
  split
  · split
    · rename_i hc
      refine ⟨ha, puts_ok ry x hx (fun e he => (runOk_putsIn hr).1 e he), put 0 v (by omega) hr.2.1 (by omega)⟩
    · exact ⟨ha, hx, put 2 0 (by omega) (by omega) (by omega)⟩
  · exact ⟨ha, hx, put 1 0 (by omega) (by omega) (by omega)⟩
theorem apOf_ok {a : Int} {x : List S37} {y : List S84} {e : Bool} {p q : Int} {rx : List S39} {ry : List S82} {v c : Int} (ha : 0 ≤ a ∧ a ≤ 40) (hx : boxOk x) (hy : donesFrom y 0) (he : entryOk e p q rx ry v c) :
    stateOk (apOf a x y e p q rx ry v c).1 (apOf a x y e p q rx ry v c).2.1 (apOf a x y e p q rx ry v c).2.2.1 := by
  unfold apOf
  split
  · exact ⟨ha, hx, hy⟩
  rename_i h
  unfold entryOk at he
  rw [if_neg h] at he
  have n := apNew_ok ha hx hy he.1 he.2.1
  split
  · split
    · exact ⟨ha, hx, hy⟩
    · split
      · exact ⟨ha, hx, hy⟩
      · exact n
  · exact n

theorem apNew_len (a : Int) (x : List S37) (y : List S84) (p q : Int) (rx : List S39) (ry : List S82) (v c : Int) :
    (apNew a x y p q rx ry v c).1 = a ∧ (apNew a x y p q rx ry v c).2.1.length = x.length ∧ (apNew a x y p q rx ry v c).2.2.1.length ≤ y.length + 1 ∧ 0 ≤ (apNew a x y p q rx ry v c).2.2.2 ∧ (apNew a x y p q rx ry v c).2.2.2 ≤ 2 := by
  have h := fun d => putD_len d y false
  simp only [Bool.false_eq_true, if_false] at h
  unfold apNew
  split
  · split
    · exact ⟨rfl, puts_len _ _, h _, by simp, by simp⟩
    · exact ⟨rfl, rfl, h _, by simp, by simp⟩
  · exact ⟨rfl, rfl, h _, by simp, by simp⟩
theorem apOf_len (a : Int) (x : List S37) (y : List S84) (e : Bool) (p q : Int) (rx : List S39) (ry : List S82) (v c : Int) :
    (apOf a x y e p q rx ry v c).1 = a ∧ (apOf a x y e p q rx ry v c).2.1.length = x.length ∧ (apOf a x y e p q rx ry v c).2.2.1.length ≤ y.length + 1 ∧ 0 ≤ (apOf a x y e p q rx ry v c).2.2.2 ∧ (apOf a x y e p q rx ry v c).2.2.2 ≤ 5 := by
  have n := apNew_len a x y p q rx ry v c
  unfold apOf
  split
  · exact ⟨rfl, rfl, by simp, by simp, by simp⟩
  split
  · split
    · exact ⟨rfl, rfl, by simp, by simp, by simp⟩
    · split
      · exact ⟨rfl, rfl, by simp, by simp, by simp⟩
      · exact ⟨n.1, n.2.1, n.2.2.1, n.2.2.2.1, by omega⟩
  · exact ⟨n.1, n.2.1, n.2.2.1, n.2.2.2.1, by omega⟩
theorem rdi_Entry {l : List S77} {i : Nat} (h : i < l.length) : rd_T77 l (i : Int) = l[i] := by
  unfold rd_T77
  rw [Int.toNat_natCast, List.getD_eq_getElem?_getD, List.getElem?_eq_getElem h]
  rfl
abbrev StT := Int × List S37 × List S84
def entOk (t : S77) : Prop := entryOk t.f0 t.f1.f0 t.f1.f1 t.f2.f0 t.f2.f1 t.f2.f2 t.f2.f3
def entLen (t : S77) : Prop := t.f2.f0.length ≤ 2000000 ∧ t.f2.f1.length ≤ 2000000
noncomputable def apT (s : StT) (t : S77) : Int × List S37 × List S84 × Int := apOf (s.1 + 1) s.2.1 s.2.2 t.f0 t.f1.f0 t.f1.f1 t.f2.f0 t.f2.f1 t.f2.f2 t.f2.f3
noncomputable def stepS (s : StT) (t : S77) : StT := ((apT s t).1, (apT s t).2.1, (apT s t).2.2.1)
noncomputable def foldS (s : StT) (l : List S77) : StT := l.foldl stepS s
def open0 : StT := (0, List.replicate 4 z37, [])
open Classical in
/-- The state behind a list of entries. -/
noncomputable def foldOf (l : List S77) : StT := if (∀ t ∈ l, entOk t) ∧ l.length ≤ 40 then foldS open0 l else (0, [], [])
def stOk (s : StT) : Prop := stateOk s.1 s.2.1 s.2.2
theorem stepS_ok {s : StT} {t : S77} (h : stOk s) (h40 : s.1 < 40) (ht : entOk t) : stOk (stepS s t) := apOf_ok (by have := h.1; omega) h.2.1 h.2.2 ht
theorem stepS_at (s : StT) (t : S77) : (stepS s t).1 = s.1 + 1 := (apOf_len _ _ _ _ _ _ _ _ _ _).1
theorem stepS_len (s : StT) (t : S77) : (stepS s t).2.1.length = s.2.1.length ∧ (stepS s t).2.2.length ≤ s.2.2.length + 1 := ⟨(apOf_len _ _ _ _ _ _ _ _ _ _).2.1, (apOf_len _ _ _ _ _ _ _ _ _ _).2.2.1⟩
theorem open0_ok : stOk open0 := by
  refine ⟨⟨Int.le_refl _, by decide⟩, ⟨by simp [open0], fun b hb => ?_⟩, fun j hj => by simp [open0] at hj⟩
  rw [List.eq_of_mem_replicate hb]
  unfold boxIn z37
  simp only
  omega
theorem foldS_len : ∀ (l : List S77) (s : StT), (foldS s l).2.1.length = s.2.1.length ∧ (foldS s l).2.2.length ≤ s.2.2.length + l.length := by
  intro l
  induction l with
  | nil => intro s; exact ⟨rfl, Nat.le_refl _⟩
  | cons t r ih =>
    intro s
    have h := ih (stepS s t)
    have g := stepS_len s t
    refine ⟨h.1.trans g.1, ?_⟩
    have := h.2
    show (foldS (stepS s t) r).2.2.length ≤ _
    simp only [List.length_cons]; omega
theorem foldOf_len (l : List S77) : (foldOf l).2.1.length ≤ 4 ∧ (foldOf l).2.2.length ≤ 40 := by
  unfold foldOf
  split
  · rename_i h
    have := foldS_len l open0
    simp only [open0, List.length_replicate, List.length_nil] at this
    exact ⟨by show (foldS open0 l).2.1.length ≤ 4; unfold open0; omega, by show (foldS open0 l).2.2.length ≤ 40; unfold open0; omega⟩
  · exact ⟨by simp, by simp⟩

theorem impl_listOk_ev (l : List S77) (hn : l.length ≤ 2000000) (hl : ∀ t ∈ l, entLen t) : ∃ v, Ev (fun k => impl_listOk.f k l) v ∧ (v = true ↔ (∀ t ∈ l, entOk t) ∧ l.length ≤ 40) := by
  have key : ∀ (d i : Nat), i + d = l.length → ∃ v, Ev (fun k => impl_listOk.l0 k l l (l.length : Int) (i : Int)) v ∧ (v = true ↔ (∀ t ∈ l.drop i, entOk t) ∧ l.length ≤ 40) := by
    intro d
    induction d with
    | zero =>
      intro i hi
      obtain rfl : i = l.length := by omega
      refine ⟨decide ((l.length : Int) ≤ 40), Ev.step (fun k => by rw [impl_listOk.l0]) (ev_neg (by omega) (ev_now _)), ?_⟩
      rw [List.drop_length, decide_eq_true_iff]
      exact ⟨fun h => ⟨fun t ht => by simp at ht, by omega⟩, fun h => by omega⟩
    | succ d ih =>
      intro i hd
      have hi : i < l.length := by omega
      obtain ⟨w, hw, hwi⟩ := ih (i + 1) (by omega)
      obtain ⟨u, hu, hui⟩ := impl_CertEntry_ev (l[i]).f0 (l[i]).f1.f0 (l[i]).f1.f1 (l[i]).f2.f0 (l[i]).f2.f1 (l[i]).f2.f2 (l[i]).f2.f3 (by have := (hl _ (List.getElem_mem hi)).1; omega) (by have := (hl _ (List.getElem_mem hi)).2; omega)
      have hs := mem_split (p := entOk) hi
      refine ⟨u && w, Ev.step (fun k => by rw [impl_listOk.l0]) ?_, ?_⟩
      · refine ev_pos (lt_cast hi) (ev_pos (nn_cast i) (ev_pos (lt_cast hi) ?_))
        rw [rdi_Entry hi, wrap_succ hi (n := l.length) (by omega)]
        cases u
        · exact hu.bind (ev_neg (by simp) (ev_now _))
        · exact hu.bind (ev_pos rfl hw)
      · rw [Bool.and_eq_true, hs]
        exact ⟨fun h => ⟨⟨hui.1 h.1, (hwi.1 h.2).1⟩, (hwi.1 h.2).2⟩, fun h => ⟨hui.2 h.1.1, hwi.2 ⟨h.1.2, h.2⟩⟩⟩
  obtain ⟨v, hv, hvi⟩ := key l.length 0 (by omega)
  unfold impl_listOk.f
  exact ⟨v, hv, by rw [hvi, List.drop_zero]⟩
theorem openI : impl_CertOpen.f = some (0, List.replicate 4 z37, []) := by unfold impl_CertOpen.f impl_BoxOpen.f; rw [if_pos (by omega)]; rfl
theorem folded_l0 (l : List S77) (hn : l.length ≤ 40) (hl : ∀ t ∈ l, entLen t) (hk : ∀ t ∈ l, entOk t) : ∀ (d i : Nat) (o : List Int) (s : StT), i + d = l.length → o.length + d ≤ 1000 → stOk s → s.1 + d ≤ 40 → s.2.1.length ≤ 4 → s.2.2.length + d ≤ 1000 →
    ∃ c, Ev (fun k => impl_folded.l0 k o l (l.length : Int) (i : Int) s.1 s.2.1 s.2.2) ((foldS s (l.drop i)).1, (foldS s (l.drop i)).2.1, (foldS s (l.drop i)).2.2, c) := by
  intro d
  induction d with
  | zero =>
    intro i o s hi _ _ _ _ _
    obtain rfl : i = l.length := by omega
    refine ⟨o, Ev.step (fun k => by rw [impl_folded.l0]) ?_⟩
    refine ev_neg (by omega) ?_
    rw [List.drop_length]; exact ev_now _
  | succ d ih =>
    intro i o s hd ho hs h1 h2 h3
    have hi : i < l.length := by omega
    have hm := List.getElem_mem hi
    have hL := hl _ hm
    unfold entLen at hL
    have e1 := impl_CertApply_ev s.1 s.2.1 s.2.2 (l[i]).f0 (l[i]).f1.f0 (l[i]).f1.f1 (l[i]).f2.f0 (l[i]).f2.f1 (l[i]).f2.f2 (l[i]).f2.f3 (by omega) (by omega) (by omega) (by omega)
    have e2 : certAp s.1 s.2.1 s.2.2 (l[i]).f0 (l[i]).f1.f0 (l[i]).f1.f1 (l[i]).f2.f0 (l[i]).f2.f1 (l[i]).f2.f2 (l[i]).f2.f3 = apT s l[i] := if_pos ⟨hs, hk _ hm, by omega⟩
    rw [e2] at e1
    have g := stepS_len s l[i]
    have ga := stepS_at s l[i]
    obtain ⟨c, hc⟩ := ih (i + 1) (o ++ [(apT s l[i]).2.2.2]) (stepS s l[i]) (by omega) (by simp only [List.length_append, List.length_singleton]; omega) (stepS_ok hs (by omega) (hk _ hm)) (by omega) (by omega) (by omega)
    refine ⟨c, Ev.step (fun k => by rw [impl_folded.l0]) ?_⟩
    refine ev_pos (lt_cast hi) (ev_pos (nn_cast i) (ev_pos (lt_cast hi) ?_))
    rw [rdi_Entry hi, wrap_succ hi (n := l.length) (by omega), List.drop_eq_getElem_cons hi]
    exact e1.bind (ev_pos (by omega) hc)
theorem impl_CertFold_ev (l : List S77) (hn : l.length ≤ 2000000) (hl : ∀ t ∈ l, entLen t) : Ev (fun k => impl_CertFold.f k l) (foldOf l) := by
  obtain ⟨u, hu, hui⟩ := impl_listOk_ev l hn hl
  unfold impl_CertFold.f foldOf
  refine hu.bind (ev_ite (fun c => ?_) (fun c => ?_))
  · have h := hui.1 c
    rw [if_pos h]
    obtain ⟨cs, hc⟩ := folded_l0 l h.2 hl h.1 l.length 0 [] open0 (by omega) (by simp; omega) open0_ok (by simp [open0]; omega) (by simp [open0]) (by simp [open0]; omega)
    have hf : Ev (fun k => impl_folded.f k l) ((foldS open0 l).1, (foldS open0 l).2.1, (foldS open0 l).2.2, cs) := by
      unfold impl_folded.f
      exact ev_get openI (by rw [List.drop_zero] at hc; exact hc)
    exact hf.bind (ev_now _)
  · rw [if_neg (fun h => c (hui.2 h))]; exact ev_now _

theorem l5Put_l0 (y : List S84) (p q c v : Int) (hn : y.length ≤ 1000000000000) : ∀ (d i : Nat) (o : List S84) (b : Bool), i + d = y.length → o.length + 2 * d + 1 ≤ 3000000000000 →
    Ev (fun k => spec_l5Put.l0 k y o b (i : Int) p q c v) (o ++ putD ⟨⟨p, q⟩, c, v⟩ b (y.drop i)) := by
  intro d
  induction d with
  | zero =>
    intro i o b hi ho
    obtain rfl : i = y.length := by omega
    refine Ev.step (fun k => by rw [spec_l5Put.l0]) ?_
    refine ev_neg (by omega) ?_
    rw [List.drop_length]
    cases b
    · exact ev_neg (by simp) (ev_pos (by omega) (by simp only [putD, Bool.false_eq_true, if_false]; exact ev_now _))
    · exact ev_pos rfl (by simp only [putD, if_true, List.append_nil]; exact ev_now _)
  | succ d ih =>
    intro i o b hd ho
    have hi : i < y.length := by omega
    have hw := wrap_succ hi (n := y.length) (by omega)
    rw [List.drop_eq_getElem_cons hi]
    have tail : ∀ (o : List S84) (b b' : Bool), (b = false → ¬ p ≤ (y[i]).f0.f0) → b' = b → o.length + 2 * d + 2 ≤ 3000000000000 → Ev (fun k => spec_l5Put.j1 k y o b (i : Int) false p q c v) (o ++ ((if (y[i]).f0.f0 = p then [] else [y[i]]) ++ putD ⟨⟨p, q⟩, c, v⟩ b' (y.drop (i + 1)))) := by
      intro o b b' hb hb' ho
      subst hb'
      refine Ev.step (fun k => by rw [spec_l5Put.j1]) ?_
      refine ev_neg (by simp) (ev_pos (nn_cast i) (ev_pos (lt_cast hi) ?_))
      rw [rdi_Done hi, hw]
      refine ev_ite (fun e => ?_) (fun e => ?_)
      · rw [if_pos e, List.nil_append]; exact ih (i + 1) o _ (by omega) (by omega)
      · rw [if_neg e, ← List.append_assoc]
        exact ev_pos (by omega) (ih (i + 1) (o ++ [y[i]]) _ (by omega) (by simp only [List.length_append, List.length_singleton]; omega))
    refine Ev.step (fun k => by rw [spec_l5Put.l0]) ?_
    refine ev_pos (lt_cast hi) ?_
    unfold putD
    cases b with
    | true =>
      refine ev_pos rfl ?_
      have := tail o true true (by simp) rfl (by omega)
      simpa using this
    | false =>
      refine ev_neg (by simp) (ev_pos (nn_cast i) ?_)
      rw [rdi_Done hi]
      by_cases c1 : p ≤ (y[i]).f0.f0
      · have e1 : decide ((y[i]).f0.f0 ≥ p) = true := decide_eq_true c1
        rw [e1]
        refine Ev.step (fun k => by rw [spec_l5Put.j1]) ?_
        refine ev_pos rfl (ev_pos (by omega) (ev_get rfl (ev_pos (nn_cast i) (ev_pos (lt_cast hi) ?_))))
        rw [rdi_Done hi, hw]
        simp only [c1, and_self, if_true, decide_true, Bool.or_true]
        refine ev_ite (fun e => ?_) (fun e => ?_)
        · rw [if_pos e, List.nil_append, ← List.append_assoc]; exact ih (i + 1) (o ++ [⟨⟨p, q⟩, c, v⟩]) true (by omega) (by simp only [List.length_append, List.length_singleton]; omega)
        · rw [if_neg e, ← List.append_assoc, ← List.append_assoc]
          refine ev_pos (by simp only [List.length_append, List.length_singleton]; omega) ?_
          exact ih (i + 1) (o ++ [⟨⟨p, q⟩, c, v⟩] ++ [y[i]]) true (by omega) (by simp only [List.length_append, List.length_singleton]; omega)
      · have e1 : decide ((y[i]).f0.f0 ≥ p) = false := decide_eq_false c1
        rw [e1]
        have := tail o false false (fun _ => c1) rfl (by omega)
        simpa [c1] using this
theorem l5Put_ev (y : List S84) (p q c v : Int) (hn : y.length ≤ 1000000000000) : Ev (fun k => spec_l5Put.f k y p q c v) (putD ⟨⟨p, q⟩, c, v⟩ false y) := by
  unfold spec_l5Put.f
  simpa using l5Put_l0 y p q c v hn y.length 0 [] false (by omega) (by simp; omega)
def lastT (o : Option S84) : Int × Int × Int × Int × Bool := match o with | some d => (d.f0.f0, d.f0.f1, d.f1, d.f2, true) | none => (0, 0, 0, 0, false)
theorem l5Last_ev (a w : Int) (x : List S37) (y : List S84) (hn : y.length ≤ 1000000000000) : Ev (fun k => spec_l5Last.f k a x y w) (lastT (lastD y w)) := by
  have key : ∀ (d i : Nat), i + d = y.length → Ev (fun k => spec_l5Last.l0 k w (i : Int) a x y) (lastT (lastD (y.drop i) w)) := by
    intro d
    induction d with
    | zero =>
      intro i hi
      obtain rfl : i = y.length := by omega
      refine Ev.step (fun k => by rw [spec_l5Last.l0]) ?_
      rw [List.drop_length]
      exact ev_neg (by omega) (ev_now _)
    | succ d ih =>
      intro i hd
      have hi : i < y.length := by omega
      refine Ev.step (fun k => by rw [spec_l5Last.l0]) ?_
      refine ev_pos (lt_cast hi) (ev_pos (nn_cast i) ?_)
      rw [rdi_Done hi, wrap_succ hi (by omega), List.drop_eq_getElem_cons hi]
      unfold lastD
      rw [List.find?_cons]
      refine ev_ite (fun e => ?_) (fun e => ?_)
      · rw [decide_eq_true e]; exact ev_now _
      · rw [decide_eq_false e]; exact ih (i + 1) (by omega)
  unfold spec_l5Last.f
  simpa using key y.length 0 (by omega)

theorem spec_ExecFresh_ev (l : List S37) (x : List S39) (y : List S82) (a b : Int) (hl : l.length ≤ 9223372036854775807) (hn : x.length ≤ 9223372036854775807) (hm : y.length ≤ 9223372036854775807) :
    ∃ v, Ev (fun k => spec_ExecFresh.f k l x y a b) v ∧ (v = true ↔ freshOk l x y a b) := by
  classical
  obtain ⟨u, hu, hui⟩ := spec_BoxOk_ev l hl
  obtain ⟨w, hw, hwi⟩ := spec_ExecOk_ev x y a b hn hm
  have yes : Ev (fun k => spec_ExecFresh.j0 k l true x y a b) false := by
    refine Ev.step (fun k => by rw [spec_ExecFresh.j0]) ?_
    exact ev_pos rfl (ev_now _)
  unfold spec_ExecFresh.f
  by_cases h1 : u = true
  case neg => exact ⟨false, hu.bind (ev_neg h1 yes), by simp only [Bool.false_eq_true, false_iff]; exact fun h => h1 (hui.2 h.1)⟩
  cases w with
  | false => exact ⟨false, hu.bind (ev_pos h1 (hw.bind yes)), by simp only [Bool.false_eq_true, false_iff]; exact fun h => by have := hwi.2 h.2.1; cases this⟩
  | true =>
    have hb := hui.1 h1
    have hr := hwi.1 rfl
    have key := ev_loop x.length (fun i k => spec_ExecFresh.l0 k l (i : Int) x y a b) (fun i => decide (∀ r ∈ x.drop i, (rd_T37 l r.f0).f0 = r.f1)) (fun i hi ih => by
      have hx := runOk_reads hr i hi
      refine Ev.step (fun k => by rw [spec_ExecFresh.l0]) ?_
      refine ev_pos (lt_cast hi) (ev_pos (nn_cast i) ?_)
      rw [rdi_Read hi, wrap_succ hi hn]
      have hs := mem_split (p := fun r : S39 => (rd_T37 l r.f0).f0 = r.f1) hi
      simp only [hs]
      refine ev_pos hx.1 (ev_pos (by have := hb.1; omega) (ev_ite (fun c => ?_) (fun c => ?_)))
      · simp only [c, true_and]; exact ih
      · simp only [c, false_and, decide_false]; exact ev_now _) (by
      refine Ev.step (fun k => by rw [spec_ExecFresh.l0]) ?_
      refine ev_neg (by omega) ?_
      simp only [List.drop_length, List.not_mem_nil, false_implies, implies_true, decide_true]
      exact ev_now _) 0 (Nat.zero_le _)
    refine ⟨decide (∀ r ∈ x.drop 0, (rd_T37 l r.f0).f0 = r.f1), hu.bind (ev_pos h1 (hw.bind ?_)), ?_⟩
    · refine Ev.step (fun k => by rw [spec_ExecFresh.j0]) ?_
      exact ev_neg (by simp) key
    · rw [decide_eq_true_iff]
      exact ⟨fun h => ⟨hb, hr, h⟩, fun h => h.2.2⟩

theorem l1Min_some (a b : Int) : spec_l1Min.f a b = some (mn a b) := by
  unfold spec_l1Min.f mn
  by_cases h : a < b
  · rw [if_pos h, if_neg (by omega)]
  · rw [if_neg h]
    by_cases g : b < a
    · rw [if_pos g]
    · rw [if_neg g]; congr 1; omega
theorem l3Do_ev (x : List S39) (y : List S82) (a b : Int) (hr : runOk x y a b) (hm : y.length ≤ 9223372036854775807) (l : List S37) (hl : l.length = 4) : Ev (fun k => spec_l3Do.f k l x y a b) (y.foldl put1 l) := by
  have key : ∀ d i (l : List S37), i + d = y.length → l.length = 4 → Ev (fun k => spec_l3Do.l0 k l (i : Int) x y a b) ((y.drop i).foldl put1 l) := by
    intro d
    induction d with
    | zero =>
      intro i l hi h4
      obtain rfl : i = y.length := by omega
      refine Ev.step (fun k => by rw [spec_l3Do.l0]) ?_
      refine ev_neg (by omega) ?_
      rw [List.drop_length]
      exact ev_now _
    | succ d ih =>
      intro i l hd h4
      have hi : i < y.length := by omega
      have hp := runOk_puts hr i hi
      refine Ev.step (fun k => by rw [spec_l3Do.l0]) ?_
      refine ev_pos (lt_cast hi) (ev_pos (nn_cast i) ?_)
      rw [rdi_Put hi, wrap_succ hi hm, List.drop_eq_getElem_cons hi, List.foldl_cons]
      refine ev_pos hp.1 (ev_pos (by omega) (ev_get (l1Min_some _ _) ?_))
      exact ih (i + 1) _ (by omega) (by rw [List.length_set]; exact h4)
  unfold spec_l3Do.f
  simpa using key y.length 0 l (by omega) hl

theorem l5New_ev (a : Int) (x : List S37) (y : List S84) (e : Bool) (p q : Int) (rx : List S39) (ry : List S82) (v c : Int) (hx : x.length ≤ 1000000000000) (hy : y.length ≤ 1000000000000) (hr : rx.length ≤ 1000000000000) (hp : ry.length ≤ 1000000000000) :
    Ev (fun k => spec_l5Apply.j1 k a x y e p q rx ry v c) (apNew a x y p q rx ry v c) := by
  obtain ⟨u, hu, hui⟩ := spec_ExecFresh_ev x rx ry v c (by omega) (by omega) (by omega)
  refine Ev.step (fun k => by rw [spec_l5Apply.j1]) (hu.bind ?_)
  have put : ∀ c2 v2, Ev (fun k => spec_l5Apply.j3 k false a x y e p q rx ry v c p q c2 v2) (a, x, putD ⟨⟨p, q⟩, c2, v2⟩ false y, c2) := fun c2 v2 => by
    refine Ev.step (fun k => by rw [spec_l5Apply.j3]) (ev_neg (by simp) ((l5Put_ev y p q c2 v2 hy).bind (ev_now _)))
  unfold apNew
  refine ev_ite (fun h => ?_) (fun h => ?_)
  · have hf := hui.1 h
    rw [if_pos hf]
    refine Ev.step (fun k => by rw [spec_l5Apply.j2]) (ev_pos rfl ?_)
    by_cases hc : c = 0
    · rw [if_pos hc]
      have e1 : (c == 0) = true := by simp [hc]
      rw [e1]
      refine Ev.step (fun k => by rw [spec_l5Apply.j3]) (ev_pos rfl ((l3Do_ev rx ry v c hf.2.1 (by omega) x hf.1.1).bind ?_))
      exact (l5Put_ev y p q 0 v hy).bind (ev_now _)
    · rw [if_neg hc]
      have e1 : (c == 0) = false := by simp [hc]
      rw [e1]; exact put 2 0
  · rw [if_neg (fun g => h (hui.2 g))]
    exact Ev.step (fun k => by rw [spec_l5Apply.j2]) (ev_neg (by omega) (put 1 0))
theorem l5Apply_ev (a : Int) (x : List S37) (y : List S84) (e : Bool) (p q : Int) (rx : List S39) (ry : List S82) (v c : Int) (a0 : -1000000000000 ≤ a) (a1 : a ≤ 1000000000000) (hx : x.length ≤ 1000000000000) (hy : y.length ≤ 1000000000000) (hr : rx.length ≤ 1000000000000) (hp : ry.length ≤ 1000000000000) :
    Ev (fun k => spec_l5Apply.f k a x y e p q rx ry v c) (apOf (a + 1) x y e p q rx ry v c) := by
  unfold spec_l5Apply.f apOf
  have hw : wrap64 (a + 1) = a + 1 := wrap_id (by omega) (by omega)
  rw [hw]
  refine ev_ite (fun h => ?_) (fun h => ?_)
  · rw [if_pos h]; exact ev_now _
  rw [if_neg h]
  refine (l5Last_ev (a + 1) p x y hy).bind ?_
  cases hd : lastD y p with
  | none =>
    refine ev_neg (by simp [lastT]) ?_
    refine Ev.step (fun k => by rw [spec_l5Apply.j0]) (ev_neg (by simp) (ev_neg (by simp [lastT]) ?_))
    exact l5New_ev (a + 1) x y e p q rx ry v c hx hy hr hp
  | some d =>
    have ep := lastD_who hd
    simp only [lastT]
    refine ev_pos (by simp) ?_
    have e1 : (d.f0.f0 == p && (d.f0.f1 == q)) = decide (d.f0.f1 = q) := by simp [ep]; rfl
    rw [e1]
    refine Ev.step (fun k => by rw [spec_l5Apply.j0]) ?_
    by_cases c1 : d.f0.f1 = q
    · rw [if_pos c1]; exact ev_pos (decide_eq_true c1) (ev_now _)
    · rw [if_neg c1]
      refine ev_neg (by simp [c1]) (ev_pos (by simp) (ev_ite (fun c2 => ?_) (fun c2 => ?_)))
      · rw [if_pos c2]; exact ev_now _
      · rw [if_neg (show ¬ q < d.f0.f1 from c2)]; exact l5New_ev (a + 1) x y e p q rx ry v c hx hy hr hp

theorem openS : spec_CertOpen.f = some (0, List.replicate 4 z37, []) := by unfold spec_CertOpen.f spec_BoxOpen.f; rw [if_pos (by omega)]; rfl
theorem spec_CertFold_ev (l : List S77) (hn : l.length ≤ 2000000) (hl : ∀ t ∈ l, entLen t) : Ev (fun k => spec_CertFold.f k l) (foldOf l) := by
  classical
  have key : ∀ (d i : Nat) (s : StT), i + d = l.length → 0 ≤ s.1 → s.1 + d ≤ 1000 → s.2.1.length ≤ 4 → s.2.2.length + d ≤ 1000 →
      Ev (fun k => spec_CertFold.l0 k l (i : Int) s.1 s.2.1 s.2.2) (if ∀ t ∈ l.drop i, entOk t then foldS s (l.drop i) else (0, [], [])) := by
    intro d
    induction d with
    | zero =>
      intro i s hi _ _ _ _
      obtain rfl : i = l.length := by omega
      refine Ev.step (fun k => by rw [spec_CertFold.l0]) ?_
      refine ev_neg (by omega) ?_
      rw [List.drop_length, if_pos (fun t ht => by simp at ht)]; exact ev_now _
    | succ d ih =>
      intro i s hd h0 h1 h2 h3
      have hi : i < l.length := by omega
      have hL := hl _ (List.getElem_mem hi)
      unfold entLen at hL
      obtain ⟨u, hu, hui⟩ := spec_CertEntry_ev (l[i]).f0 (l[i]).f1.f0 (l[i]).f1.f1 (l[i]).f2.f0 (l[i]).f2.f1 (l[i]).f2.f2 (l[i]).f2.f3 (by omega) (by omega)
      have e1 := l5Apply_ev s.1 s.2.1 s.2.2 (l[i]).f0 (l[i]).f1.f0 (l[i]).f1.f1 (l[i]).f2.f0 (l[i]).f2.f1 (l[i]).f2.f2 (l[i]).f2.f3 (by omega) (by omega) (by omega) (by omega) (by omega) (by omega)
      have g := stepS_len s l[i]
      have ga := stepS_at s l[i]
      refine Ev.step (fun k => by rw [spec_CertFold.l0]) ?_
      refine ev_pos (lt_cast hi) (ev_pos (nn_cast i) ?_)
      rw [rdi_Entry hi, wrap_succ hi (n := l.length) (by omega)]
      have hs := mem_split (p := entOk) hi
      simp only [hs]
      refine hu.bind (ev_ite (fun c => ?_) (fun c => ?_))
      · have h := ih (i + 1) (stepS s l[i]) (by omega) (by omega) (by omega) (by omega) (by omega)
        refine e1.bind ?_
        rw [List.drop_eq_getElem_cons hi]
        by_cases c2 : ∀ t ∈ l.drop (i + 1), entOk t
        · rw [if_pos ⟨hui.1 c, c2⟩]; rw [if_pos c2] at h; exact h
        · rw [if_neg (fun h => c2 h.2)]; rw [if_neg c2] at h; exact h
      · rw [if_neg (fun h => c (hui.2 h.1))]; exact ev_now _
  unfold spec_CertFold.f foldOf
  refine ev_get openS ?_
  refine ev_ite (fun c => ?_) (fun c => ?_)
  · rw [if_neg (fun h => by omega)]; exact ev_now _
  · have h := key l.length 0 open0 (by omega) (by simp [open0]) (by simp [open0]; omega) (by simp [open0]) (by simp [open0]; omega)
    rw [List.drop_zero] at h
    by_cases c2 : ∀ t ∈ l, entOk t
    · rw [if_pos ⟨c2, by omega⟩]; rw [if_pos c2] at h; exact h
    · rw [if_neg (fun h => c2 h.1)]; rw [if_neg c2] at h; exact h

theorem ext_Box {a b : S37} (h0 : a.f0 = b.f0) (h1 : a.f1 = b.f1) : a = b := by
  obtain ⟨a0_, a1_⟩ := a; obtain ⟨b0_, b1_⟩ := b; simp_all
theorem rdi_Box {l : List S37} {i : Nat} (h : i < l.length) : rd_T37 l (i : Int) = l[i] := by
  unfold rd_T37
  rw [Int.toNat_natCast, List.getD_eq_getElem?_getD, List.getElem?_eq_getElem h]
  rfl

theorem eqBox_some (a b : S37) : ∃ v, laws_eqBox.f a.f0 a.f1 b.f0 b.f1 = some v ∧ (v = true ↔ a = b) := by
  unfold laws_eqBox.f
  by_cases h0 : a.f0 = b.f0
  case neg => exact ⟨false, by simp [h0], by simp; intro h; exact h0 (by rw [h])⟩
  by_cases h1 : a.f1 = b.f1
  case neg => exact ⟨false, by simp [h0, h1], by simp; intro h; exact h1 (by rw [h])⟩
  exact ⟨true, by simp [h0, h1], by simp; exact ext_Box h0 h1⟩
theorem eqBoxS_ev (x y : List S37) (hn : x.length ≤ 9223372036854775807) : ∃ v, Ev (fun k => laws_eqBoxS.f k x y) v ∧ (v = true ↔ x = y) := by
  classical
  by_cases hl : x.length = y.length
  · have key := ev_loop x.length (fun i k => laws_eqBoxS.l0 k x y (i : Int)) (fun i => decide (x.drop i = y.drop i)) (fun i hi ih => by
      refine Ev.step (fun k => by rw [laws_eqBoxS.l0]) ?_
      refine ev_pos (lt_cast hi) (ev_pos (nn_cast i) (ev_pos (lt_cast (hl ▸ hi)) ?_))
      rw [rdi_Box hi, rdi_Box (hl ▸ hi), wrap_succ hi hn]
      obtain ⟨v, hv, hvi⟩ := eqBox_some x[i] (y[i]'(hl ▸ hi))
      refine ev_get hv ?_
      simp only [drop_eq hl hi]
      by_cases h1 : v = true
      · simp only [hvi.1 h1, true_and]
        exact ev_pos h1 ih
      · simp only [show ¬ (x[i] = y[i]'(hl ▸ hi)) from fun h => h1 (hvi.2 h), false_and, decide_false]
        exact ev_neg h1 (ev_now _)) (by
      refine Ev.step (fun k => by rw [laws_eqBoxS.l0]) ?_
      refine ev_neg (by omega) ?_
      rw [List.drop_length, hl, List.drop_length]
      simp only [decide_true]
      exact ev_now _) 0 (Nat.zero_le _)
    exact ⟨_, Ev.congr (fun k => by unfold laws_eqBoxS.f; exact if_pos (by omega)) key, by simp⟩
  · refine ⟨false, ?_, by simp; exact fun h => hl (by rw [h])⟩
    unfold laws_eqBoxS.f
    exact ev_neg (by omega) (ev_now _)

theorem eqDone_some (a b : S84) : ∃ v, laws_eqDone.f a.f0.f0 a.f0.f1 a.f1 a.f2 b.f0.f0 b.f0.f1 b.f1 b.f2 = some v ∧ (v = true ↔ a = b) := by
  unfold laws_eqDone.f laws_eqReq.f
  by_cases h0 : a.f0.f0 = b.f0.f0
  case neg => exact ⟨false, by simp [h0], by simp; intro h; exact h0 (by rw [h])⟩
  by_cases h1 : a.f0.f1 = b.f0.f1
  case neg => exact ⟨false, by simp [h0, h1], by simp; intro h; exact h1 (by rw [h])⟩
  by_cases h2 : a.f1 = b.f1
  case neg => exact ⟨false, by simp [h0, h1, h2], by simp; intro h; exact h2 (by rw [h])⟩
  by_cases h3 : a.f2 = b.f2
  case neg => exact ⟨false, by simp [h0, h1, h2, h3], by simp; intro h; exact h3 (by rw [h])⟩
  exact ⟨true, by simp [h0, h1, h2, h3], by simp; exact ext_Done h0 h1 h2 h3⟩
theorem eqDoneS_ev (x y : List S84) (hn : x.length ≤ 9223372036854775807) : ∃ v, Ev (fun k => laws_eqDoneS.f k x y) v ∧ (v = true ↔ x = y) := by
  classical
  by_cases hl : x.length = y.length
  · have key := ev_loop x.length (fun i k => laws_eqDoneS.l0 k x y (i : Int)) (fun i => decide (x.drop i = y.drop i)) (fun i hi ih => by
      refine Ev.step (fun k => by rw [laws_eqDoneS.l0]) ?_
      refine ev_pos (lt_cast hi) (ev_pos (nn_cast i) (ev_pos (lt_cast (hl ▸ hi)) ?_))
      rw [rdi_Done hi, rdi_Done (hl ▸ hi), wrap_succ hi hn]
      obtain ⟨v, hv, hvi⟩ := eqDone_some x[i] (y[i]'(hl ▸ hi))
      refine ev_get hv ?_
      simp only [drop_eq hl hi]
      by_cases h1 : v = true
      · simp only [hvi.1 h1, true_and]
        exact ev_pos h1 ih
      · simp only [show ¬ (x[i] = y[i]'(hl ▸ hi)) from fun h => h1 (hvi.2 h), false_and, decide_false]
        exact ev_neg h1 (ev_now _)) (by
      refine Ev.step (fun k => by rw [laws_eqDoneS.l0]) ?_
      refine ev_neg (by omega) ?_
      rw [List.drop_length, hl, List.drop_length]
      simp only [decide_true]
      exact ev_now _) 0 (Nat.zero_le _)
    exact ⟨_, Ev.congr (fun k => by unfold laws_eqDoneS.f; exact if_pos (by omega)) key, by simp⟩
  · refine ⟨false, ?_, by simp; exact fun h => hl (by rw [h])⟩
    unfold laws_eqDoneS.f
    exact ev_neg (by omega) (ev_now _)

theorem eqState_self (a : Int) (x : List S37) (y : List S84) (hn : x.length ≤ 9223372036854775807) (hm : y.length ≤ 9223372036854775807) : Ev (fun k => laws_eqState.f k a x y a x y) true := by
  unfold laws_eqState.f
  obtain ⟨u, hu, hui⟩ := eqBoxS_ev x x hn
  obtain ⟨v, hv, hvi⟩ := eqDoneS_ev y y hm
  obtain rfl := hui.2 rfl
  obtain rfl := hvi.2 rfl
  exact ev_pos rfl (hu.bind (ev_pos rfl (hv.bind (ev_pos rfl (ev_now _)))))

/-- The numbers a, a + 1, .. laid into all fields of m elements. -/
def numbBox (a : Int) : Nat → List S37
  | 0 => []
  | m + 1 => ⟨a, a + 1⟩ :: numbBox (a + 1 + 1) m
theorem setmid_Box (p r : List S37) (x v : S37) : (p ++ x :: r).set (p.length : Int).toNat v = p ++ v :: r := by
  rw [Int.toNat_natCast, List.set_append_right _ _ (Nat.le_refl _), Nat.sub_self]; rfl
theorem rdmid_Box (p r : List S37) (x : S37) : rd_T37 (p ++ x :: r) (p.length : Int) = x := by
  rw [rdi_Box (by simp)]; simp
theorem markBoxS_ev (l : List S37) (a : Int) (h0 : 0 ≤ a) (h1 : a ≤ 1000000000) (hn : l.length ≤ 100000000) : Ev (fun k => laws_markBoxS.f k l a) (a + 2 * l.length, numbBox a l.length) := by
  have key : ∀ (r p : List S37) (b : Int), 0 ≤ b → b + 2 * r.length ≤ 5000000000 → p.length + r.length ≤ 100000000 → Ev (fun k => laws_markBoxS.l0 k (p ++ r) b (p.length : Int)) (b + 2 * r.length, p ++ numbBox b r.length) := by
    intro r
    induction r with
    | nil =>
      intro p b _ _ _
      refine Ev.step (fun k => by rw [laws_markBoxS.l0]) ?_
      refine ev_neg (by simp) ?_
      simpa [numbBox] using ev_now _
    | cons x r ih =>
      intro p b hb hb2 hl
      simp only [List.length_cons] at hb2 hl
      refine Ev.step (fun k => by rw [laws_markBoxS.l0]) ?_
      refine ev_pos (by simp; omega) (ev_pos (nn_cast _) ?_)
      have w1 : wrap64 (b + 1) = b + 1 := wrap_id (by omega) (by omega)
      have w2 : wrap64 (b + 1 + 1) = b + 1 + 1 := wrap_id (by omega) (by omega)
      have wi : wrap64 ((p.length : Int) + 1) = ((p.length + 1 : Nat) : Int) := wrap_succ (n := p.length + 1) (by omega) (by omega)
      simp only [Option.bind_some, setmid_Box, rdmid_Box, w1, w2, wi]
      have ih2 := ih (p ++ [⟨b, b + 1⟩]) (b + 1 + 1) (by omega) (by omega) (by simp; omega)
      simp only [List.append_assoc, List.singleton_append, List.length_append, List.length_singleton] at ih2
      rw [show b + 2 * ((x :: r).length : Int) = b + 1 + 1 + 2 * (r.length : Int) by simp only [List.length_cons]; omega]
      simpa [numbBox] using ih2
  unfold laws_markBoxS.f
  simpa using key l [] a h0 (by omega) (by simpa using hn)

theorem heldBoxS_ev (a : Int) (m : Nat) (h0 : 0 ≤ a) (h1 : a ≤ 1000000000) (hn : m ≤ 100000000) : Ev (fun k => laws_heldBoxS.f k (numbBox a m) a) (a + 2 * m) := by
  have key : ∀ (m : Nat) (p : List S37) (b : Int), 0 ≤ b → b + 2 * m ≤ 5000000000 → p.length + m ≤ 100000000 → Ev (fun k => laws_heldBoxS.l0 k (p ++ numbBox b m) b (p.length : Int)) (b + 2 * m) := by
    intro m
    induction m with
    | zero =>
      intro p b _ _ _
      refine Ev.step (fun k => by rw [laws_heldBoxS.l0]) ?_
      refine ev_neg (by simp [numbBox]) ?_
      simpa using ev_now _
    | succ m ih =>
      intro p b hb hb2 hl
      refine Ev.step (fun k => by rw [laws_heldBoxS.l0]) ?_
      refine ev_pos (by simp [numbBox]; omega) (ev_pos (nn_cast _) ?_)
      have w1 : wrap64 (b + 1) = b + 1 := wrap_id (by omega) (by omega)
      have w2 : wrap64 (b + 1 + 1) = b + 1 + 1 := wrap_id (by omega) (by omega)
      have wi : wrap64 ((p.length : Int) + 1) = ((p.length + 1 : Nat) : Int) := wrap_succ (n := p.length + 1) (by omega) (by omega)
      simp only [numbBox, rdmid_Box, w1, w2, wi]
      refine ev_pos (by trivial) (ev_pos (by trivial) ?_)
      have ih2 := ih (p ++ [⟨b, b + 1⟩]) (b + 1 + 1) (by omega) (by omega) (by simp; omega)
      simp only [List.append_assoc, List.singleton_append, List.length_append, List.length_singleton] at ih2
      rw [show b + 2 * ((m + 1 : Nat) : Int) = b + 1 + 1 + 2 * (m : Int) by omega]
      exact ih2
  unfold laws_heldBoxS.f
  simpa using key m [] a h0 (by omega) (by simpa using hn)

/-- The numbers a, a + 1, .. laid into all fields of m elements. -/
def numbDone (a : Int) : Nat → List S84
  | 0 => []
  | m + 1 => ⟨(⟨a, a + 1⟩ : S75), a + 1 + 1, a + 1 + 1 + 1⟩ :: numbDone (a + 1 + 1 + 1 + 1) m
theorem setmid_Done (p r : List S84) (x v : S84) : (p ++ x :: r).set (p.length : Int).toNat v = p ++ v :: r := by
  rw [Int.toNat_natCast, List.set_append_right _ _ (Nat.le_refl _), Nat.sub_self]; rfl
theorem rdmid_Done (p r : List S84) (x : S84) : rd_T84 (p ++ x :: r) (p.length : Int) = x := by
  rw [rdi_Done (by simp)]; simp
theorem markDoneS_ev (l : List S84) (a : Int) (h0 : 0 ≤ a) (h1 : a ≤ 1000000000) (hn : l.length ≤ 100000000) : Ev (fun k => laws_markDoneS.f k l a) (a + 4 * l.length, numbDone a l.length) := by
  have key : ∀ (r p : List S84) (b : Int), 0 ≤ b → b + 4 * r.length ≤ 5000000000 → p.length + r.length ≤ 100000000 → Ev (fun k => laws_markDoneS.l0 k (p ++ r) b (p.length : Int)) (b + 4 * r.length, p ++ numbDone b r.length) := by
    intro r
    induction r with
    | nil =>
      intro p b _ _ _
      refine Ev.step (fun k => by rw [laws_markDoneS.l0]) ?_
      refine ev_neg (by simp) ?_
      simpa [numbDone] using ev_now _
    | cons x r ih =>
      intro p b hb hb2 hl
      simp only [List.length_cons] at hb2 hl
      refine Ev.step (fun k => by rw [laws_markDoneS.l0]) ?_
      refine ev_pos (by simp; omega) (ev_pos (nn_cast _) ?_)
      have w1 : wrap64 (b + 1) = b + 1 := wrap_id (by omega) (by omega)
      have w2 : wrap64 (b + 1 + 1) = b + 1 + 1 := wrap_id (by omega) (by omega)
      have w3 : wrap64 (b + 1 + 1 + 1) = b + 1 + 1 + 1 := wrap_id (by omega) (by omega)
      have w4 : wrap64 (b + 1 + 1 + 1 + 1) = b + 1 + 1 + 1 + 1 := wrap_id (by omega) (by omega)
      have wi : wrap64 ((p.length : Int) + 1) = ((p.length + 1 : Nat) : Int) := wrap_succ (n := p.length + 1) (by omega) (by omega)
      simp only [Option.bind_some, setmid_Done, rdmid_Done, w1, w2, w3, w4, wi]
      have ih2 := ih (p ++ [⟨(⟨b, b + 1⟩ : S75), b + 1 + 1, b + 1 + 1 + 1⟩]) (b + 1 + 1 + 1 + 1) (by omega) (by omega) (by simp; omega)
      simp only [List.append_assoc, List.singleton_append, List.length_append, List.length_singleton] at ih2
      rw [show b + 4 * ((x :: r).length : Int) = b + 1 + 1 + 1 + 1 + 4 * (r.length : Int) by simp only [List.length_cons]; omega]
      simpa [numbDone] using ih2
  unfold laws_markDoneS.f
  simpa using key l [] a h0 (by omega) (by simpa using hn)

theorem heldDoneS_ev (a : Int) (m : Nat) (h0 : 0 ≤ a) (h1 : a ≤ 1000000000) (hn : m ≤ 100000000) : Ev (fun k => laws_heldDoneS.f k (numbDone a m) a) (a + 4 * m) := by
  have key : ∀ (m : Nat) (p : List S84) (b : Int), 0 ≤ b → b + 4 * m ≤ 5000000000 → p.length + m ≤ 100000000 → Ev (fun k => laws_heldDoneS.l0 k (p ++ numbDone b m) b (p.length : Int)) (b + 4 * m) := by
    intro m
    induction m with
    | zero =>
      intro p b _ _ _
      refine Ev.step (fun k => by rw [laws_heldDoneS.l0]) ?_
      refine ev_neg (by simp [numbDone]) ?_
      simpa using ev_now _
    | succ m ih =>
      intro p b hb hb2 hl
      refine Ev.step (fun k => by rw [laws_heldDoneS.l0]) ?_
      refine ev_pos (by simp [numbDone]; omega) (ev_pos (nn_cast _) ?_)
      have w1 : wrap64 (b + 1) = b + 1 := wrap_id (by omega) (by omega)
      have w2 : wrap64 (b + 1 + 1) = b + 1 + 1 := wrap_id (by omega) (by omega)
      have w3 : wrap64 (b + 1 + 1 + 1) = b + 1 + 1 + 1 := wrap_id (by omega) (by omega)
      have w4 : wrap64 (b + 1 + 1 + 1 + 1) = b + 1 + 1 + 1 + 1 := wrap_id (by omega) (by omega)
      have wi : wrap64 ((p.length : Int) + 1) = ((p.length + 1 : Nat) : Int) := wrap_succ (n := p.length + 1) (by omega) (by omega)
      simp only [numbDone, rdmid_Done, w1, w2, w3, w4, wi]
      refine ev_pos (by trivial) (ev_pos (by trivial) (ev_pos (by trivial) (ev_pos (by trivial) ?_)))
      have ih2 := ih (p ++ [⟨(⟨b, b + 1⟩ : S75), b + 1 + 1, b + 1 + 1 + 1⟩]) (b + 1 + 1 + 1 + 1) (by omega) (by omega) (by simp; omega)
      simp only [List.append_assoc, List.singleton_append, List.length_append, List.length_singleton] at ih2
      rw [show b + 4 * ((m + 1 : Nat) : Int) = b + 1 + 1 + 1 + 1 + 4 * (m : Int) by omega]
      exact ih2
  unfold laws_heldDoneS.f
  simpa using key m [] a h0 (by omega) (by simpa using hn)

theorem markState_ev (a : Int) (x : List S37) (y : List S84) (c : Int) (h0 : 0 ≤ c) (h1 : c ≤ 100000000) (hn : x.length ≤ 2000000) (hm : y.length ≤ 2000000) :
    Ev (fun k => laws_markState.f k a x y c) (c + 2 * x.length + 4 * y.length, numbBox c x.length, numbDone (c + 2 * x.length) y.length) := by
  unfold laws_markState.f
  exact (markBoxS_ev x c h0 (by omega) (by omega)).bind ((markDoneS_ev y (c + 2 * x.length) (by omega) (by omega) (by omega)).bind (ev_now _))
theorem heldState_ev (a c : Int) (n m : Nat) (h0 : 0 ≤ c) (h1 : c ≤ 100000000) (hn : n ≤ 2000000) (hm : m ≤ 2000000) :
    Ev (fun k => laws_heldState.f k a (numbBox c n) (numbDone (c + 2 * n) m) c) (c + 2 * n + 4 * m) := by
  unfold laws_heldState.f
  exact (heldBoxS_ev c n h0 (by omega) (by omega)).bind (ev_neg (by omega) ((heldDoneS_ev (c + 2 * n) m (by omega) (by omega) (by omega)).bind (ev_neg (by omega) (ev_now _))))

theorem szReadS_some (l : List S196) (a : Int) (hn : l.length ≤ 9223372036854775807) (h0 : 0 ≤ a) (h1 : a ≤ 1048576) : laws_szReadS.f l a = some (if a < l.length then -1 else a - l.length) := by
  unfold laws_szReadS.f
  have hw : wrap64 (a - (l.length : Int)) = a - l.length := wrap_id (by omega) (by omega)
  rw [hw]
  by_cases h : a < l.length
  · rw [if_pos (by omega), if_pos h]
  · rw [if_neg (by omega), if_neg h]

theorem szPutS_some (l : List S198) (a : Int) (hn : l.length ≤ 9223372036854775807) (h0 : 0 ≤ a) (h1 : a ≤ 1048576) : laws_szPutS.f l a = some (if a < l.length then -1 else a - l.length) := by
  unfold laws_szPutS.f
  have hw : wrap64 (a - (l.length : Int)) = a - l.length := wrap_id (by omega) (by omega)
  rw [hw]
  by_cases h : a < l.length
  · rw [if_pos (by omega), if_pos h]
  · rw [if_neg (by omega), if_neg h]

theorem rdl_Read {l : List S196} {i : Nat} (h : i < l.length) : rd_T196 l (i : Int) = l[i] := by
  unfold rd_T196
  rw [Int.toNat_natCast, List.getD_eq_getElem?_getD, List.getElem?_eq_getElem h]
  rfl

def toRead (x : S196) : S39 := ⟨x.f0, x.f1⟩
theorem toReadS_ev (l : List S196) (hn : l.length ≤ 8796093022208) : Ev (fun k => laws_toReadS.f k l) (l.map toRead) := by
  unfold laws_toReadS.f
  refine ev_pos (nn_cast _) (ev_pos (by rw [Int.toNat_natCast]; omega) ?_)
  rw [Int.toNat_natCast]
  have hm : (l.map toRead).length = l.length := List.length_map _
  have key := ev_loop l.length (fun i k => laws_toReadS.l0 k l ((l.map toRead).take i ++ List.replicate ((l.map toRead).length - i) z39) (i : Int)) (fun _ => l.map toRead) (fun i hi ih => by
      refine Ev.step (fun k => by rw [laws_toReadS.l0]) ?_
      refine ev_pos (lt_cast hi) (ev_pos (nn_cast i) ?_)
      rw [rdl_Read hi, wrap_succ hi (by omega)]
      refine ev_get (a := ((l[i]).f0, (l[i]).f1)) rfl ?_
      refine ev_pos (by rw [state_len _ _ _ (by omega), hm]; exact lt_cast hi) ?_
      have hs := set_state (l.map toRead) z39 i (by rw [hm]; exact hi)
      rw [List.getElem_map] at hs
      rw [Int.toNat_natCast]
      simp only [toRead] at hs ⊢ ih
      rw [hs]
      exact ih) (by
      refine Ev.step (fun k => by rw [laws_toReadS.l0]) ?_
      refine ev_neg (by omega) ?_
      rw [hm, Nat.sub_self, List.replicate_zero, List.append_nil, ← hm, List.take_length]
      exact ev_now _) 0 (Nat.zero_le _)
  simpa [hm] using key

theorem rdl_Put {l : List S198} {i : Nat} (h : i < l.length) : rd_T198 l (i : Int) = l[i] := by
  unfold rd_T198
  rw [Int.toNat_natCast, List.getD_eq_getElem?_getD, List.getElem?_eq_getElem h]
  rfl

def toPut (x : S198) : S82 := ⟨x.f0, x.f1⟩
theorem toPutS_ev (l : List S198) (hn : l.length ≤ 8796093022208) : Ev (fun k => laws_toPutS.f k l) (l.map toPut) := by
  unfold laws_toPutS.f
  refine ev_pos (nn_cast _) (ev_pos (by rw [Int.toNat_natCast]; omega) ?_)
  rw [Int.toNat_natCast]
  have hm : (l.map toPut).length = l.length := List.length_map _
  have key := ev_loop l.length (fun i k => laws_toPutS.l0 k l ((l.map toPut).take i ++ List.replicate ((l.map toPut).length - i) z82) (i : Int)) (fun _ => l.map toPut) (fun i hi ih => by
      refine Ev.step (fun k => by rw [laws_toPutS.l0]) ?_
      refine ev_pos (lt_cast hi) (ev_pos (nn_cast i) ?_)
      rw [rdl_Put hi, wrap_succ hi (by omega)]
      refine ev_get (a := ((l[i]).f0, (l[i]).f1)) rfl ?_
      refine ev_pos (by rw [state_len _ _ _ (by omega), hm]; exact lt_cast hi) ?_
      have hs := set_state (l.map toPut) z82 i (by rw [hm]; exact hi)
      rw [List.getElem_map] at hs
      rw [Int.toNat_natCast]
      simp only [toPut] at hs ⊢ ih
      rw [hs]
      exact ih) (by
      refine Ev.step (fun k => by rw [laws_toPutS.l0]) ?_
      refine ev_neg (by omega) ?_
      rw [hm, Nat.sub_self, List.replicate_zero, List.append_nil, ← hm, List.take_length]
      exact ev_now _) 0 (Nat.zero_le _)
  simpa [hm] using key

theorem toRun_ev (x : S107) (h0 : x.f0.length ≤ 1048576) (h1 : x.f1.length ≤ 1048576) : Ev (fun k => laws_toRun.f k x.f0 x.f1 x.f2 x.f3) (x.f0.map toRead, x.f1.map toPut, x.f2, x.f3) := by
  unfold laws_toRun.f
  exact (toReadS_ev x.f0 (by omega)).bind ((toPutS_ev x.f1 (by omega)).bind (ev_now _))
theorem toEntry_ev (x : S109) (h0 : x.f2.f0.length ≤ 1048576) (h1 : x.f2.f1.length ≤ 1048576) :
    Ev (fun k => laws_toEntry.f k x.f0 x.f1.f0 x.f1.f1 x.f2.f0 x.f2.f1 x.f2.f2 x.f2.f3) (x.f0, x.f1.f0, x.f1.f1, x.f2.f0.map toRead, x.f2.f1.map toPut, x.f2.f2, x.f2.f3) := by
  unfold laws_toEntry.f
  refine ev_get (a := (x.f1.f0, x.f1.f1)) rfl ?_
  exact (toRun_ev x.f2 h0 h1).bind (ev_now _)
theorem eqRead_some (a b : S39) : ∃ v, laws_eqRead.f a.f0 a.f1 b.f0 b.f1 = some v ∧ (v = true ↔ a = b) := by
  unfold laws_eqRead.f
  by_cases h0 : a.f0 = b.f0
  case neg => exact ⟨false, by simp [h0], by simp; intro h; exact h0 (by rw [h])⟩
  by_cases h1 : a.f1 = b.f1
  case neg => exact ⟨false, by simp [h0, h1], by simp; intro h; exact h1 (by rw [h])⟩
  exact ⟨true, by simp [h0, h1], by simp; exact ext_Read h0 h1⟩
theorem eqReadS_ev (x y : List S39) (hn : x.length ≤ 9223372036854775807) : ∃ v, Ev (fun k => laws_eqReadS.f k x y) v ∧ (v = true ↔ x = y) := by
  classical
  by_cases hl : x.length = y.length
  · have key := ev_loop x.length (fun i k => laws_eqReadS.l0 k x y (i : Int)) (fun i => decide (x.drop i = y.drop i)) (fun i hi ih => by
      refine Ev.step (fun k => by rw [laws_eqReadS.l0]) ?_
      refine ev_pos (lt_cast hi) (ev_pos (nn_cast i) (ev_pos (lt_cast (hl ▸ hi)) ?_))
      rw [rdi_Read hi, rdi_Read (hl ▸ hi), wrap_succ hi hn]
      obtain ⟨v, hv, hvi⟩ := eqRead_some x[i] (y[i]'(hl ▸ hi))
      refine ev_get hv ?_
      simp only [drop_eq hl hi]
      by_cases h1 : v = true
      · simp only [hvi.1 h1, true_and]
        exact ev_pos h1 ih
      · simp only [show ¬ (x[i] = y[i]'(hl ▸ hi)) from fun h => h1 (hvi.2 h), false_and, decide_false]
        exact ev_neg h1 (ev_now _)) (by
      refine Ev.step (fun k => by rw [laws_eqReadS.l0]) ?_
      refine ev_neg (by omega) ?_
      rw [List.drop_length, hl, List.drop_length]
      simp only [decide_true]
      exact ev_now _) 0 (Nat.zero_le _)
    exact ⟨_, Ev.congr (fun k => by unfold laws_eqReadS.f; exact if_pos (by omega)) key, by simp⟩
  · refine ⟨false, ?_, by simp; exact fun h => hl (by rw [h])⟩
    unfold laws_eqReadS.f
    exact ev_neg (by omega) (ev_now _)

theorem eqPut_some (a b : S82) : ∃ v, laws_eqPut.f a.f0 a.f1 b.f0 b.f1 = some v ∧ (v = true ↔ a = b) := by
  unfold laws_eqPut.f
  by_cases h0 : a.f0 = b.f0
  case neg => exact ⟨false, by simp [h0], by simp; intro h; exact h0 (by rw [h])⟩
  by_cases h1 : a.f1 = b.f1
  case neg => exact ⟨false, by simp [h0, h1], by simp; intro h; exact h1 (by rw [h])⟩
  exact ⟨true, by simp [h0, h1], by simp; exact ext_Put h0 h1⟩
theorem eqPutS_ev (x y : List S82) (hn : x.length ≤ 9223372036854775807) : ∃ v, Ev (fun k => laws_eqPutS.f k x y) v ∧ (v = true ↔ x = y) := by
  classical
  by_cases hl : x.length = y.length
  · have key := ev_loop x.length (fun i k => laws_eqPutS.l0 k x y (i : Int)) (fun i => decide (x.drop i = y.drop i)) (fun i hi ih => by
      refine Ev.step (fun k => by rw [laws_eqPutS.l0]) ?_
      refine ev_pos (lt_cast hi) (ev_pos (nn_cast i) (ev_pos (lt_cast (hl ▸ hi)) ?_))
      rw [rdi_Put hi, rdi_Put (hl ▸ hi), wrap_succ hi hn]
      obtain ⟨v, hv, hvi⟩ := eqPut_some x[i] (y[i]'(hl ▸ hi))
      refine ev_get hv ?_
      simp only [drop_eq hl hi]
      by_cases h1 : v = true
      · simp only [hvi.1 h1, true_and]
        exact ev_pos h1 ih
      · simp only [show ¬ (x[i] = y[i]'(hl ▸ hi)) from fun h => h1 (hvi.2 h), false_and, decide_false]
        exact ev_neg h1 (ev_now _)) (by
      refine Ev.step (fun k => by rw [laws_eqPutS.l0]) ?_
      refine ev_neg (by omega) ?_
      rw [List.drop_length, hl, List.drop_length]
      simp only [decide_true]
      exact ev_now _) 0 (Nat.zero_le _)
    exact ⟨_, Ev.congr (fun k => by unfold laws_eqPutS.f; exact if_pos (by omega)) key, by simp⟩
  · refine ⟨false, ?_, by simp; exact fun h => hl (by rw [h])⟩
    unfold laws_eqPutS.f
    exact ev_neg (by omega) (ev_now _)

theorem eqRun_self (x0 : List S39) (x1 : List S82) (a b : Int) (hn : x0.length ≤ 9223372036854775807) (hm : x1.length ≤ 9223372036854775807) : Ev (fun k => laws_eqRun.f k x0 x1 a b x0 x1 a b) true := by
  unfold laws_eqRun.f
  obtain ⟨u, hu, hui⟩ := eqReadS_ev x0 x0 hn
  obtain ⟨v, hv, hvi⟩ := eqPutS_ev x1 x1 hm
  obtain rfl := hui.2 rfl
  obtain rfl := hvi.2 rfl
  exact hu.bind (ev_pos rfl (hv.bind (ev_pos rfl (ev_pos rfl (ev_pos rfl (ev_now _))))))

theorem eqEntry_self (e : Bool) (p q : Int) (x0 : List S39) (x1 : List S82) (a b : Int) (hn : x0.length ≤ 9223372036854775807) (hm : x1.length ≤ 9223372036854775807) : Ev (fun k => laws_eqEntry.f k e p q x0 x1 a b e p q x0 x1 a b) true := by
  unfold laws_eqEntry.f
  refine ev_neg (by simp) (ev_get (a := true) (by unfold laws_eqReq.f; simp) (ev_pos rfl ((eqRun_self x0 x1 a b hn hm).bind (ev_pos rfl (ev_now _)))))

/-- The numbers a, a + 1, .. laid into all fields of m elements. -/
def numbRead (a : Int) : Nat → List S39
  | 0 => []
  | m + 1 => ⟨a, a + 1⟩ :: numbRead (a + 1 + 1) m
theorem setmid_Read (p r : List S39) (x v : S39) : (p ++ x :: r).set (p.length : Int).toNat v = p ++ v :: r := by
  rw [Int.toNat_natCast, List.set_append_right _ _ (Nat.le_refl _), Nat.sub_self]; rfl
theorem rdmid_Read (p r : List S39) (x : S39) : rd_T39 (p ++ x :: r) (p.length : Int) = x := by
  rw [rdi_Read (by simp)]; simp
theorem markReadS_ev (l : List S39) (a : Int) (h0 : 0 ≤ a) (h1 : a ≤ 1000000000) (hn : l.length ≤ 100000000) : Ev (fun k => laws_markReadS.f k l a) (a + 2 * l.length, numbRead a l.length) := by
  have key : ∀ (r p : List S39) (b : Int), 0 ≤ b → b + 2 * r.length ≤ 5000000000 → p.length + r.length ≤ 100000000 → Ev (fun k => laws_markReadS.l0 k (p ++ r) b (p.length : Int)) (b + 2 * r.length, p ++ numbRead b r.length) := by
    intro r
    induction r with
    | nil =>
      intro p b _ _ _
      refine Ev.step (fun k => by rw [laws_markReadS.l0]) ?_
      refine ev_neg (by simp) ?_
      simpa [numbRead] using ev_now _
    | cons x r ih =>
      intro p b hb hb2 hl
      simp only [List.length_cons] at hb2 hl
      refine Ev.step (fun k => by rw [laws_markReadS.l0]) ?_
      refine ev_pos (by simp; omega) (ev_pos (nn_cast _) ?_)
      have w1 : wrap64 (b + 1) = b + 1 := wrap_id (by omega) (by omega)
      have w2 : wrap64 (b + 1 + 1) = b + 1 + 1 := wrap_id (by omega) (by omega)
      have wi : wrap64 ((p.length : Int) + 1) = ((p.length + 1 : Nat) : Int) := wrap_succ (n := p.length + 1) (by omega) (by omega)
      simp only [Option.bind_some, setmid_Read, rdmid_Read, w1, w2, wi]
      have ih2 := ih (p ++ [⟨b, b + 1⟩]) (b + 1 + 1) (by omega) (by omega) (by simp; omega)
      simp only [List.append_assoc, List.singleton_append, List.length_append, List.length_singleton] at ih2
      rw [show b + 2 * ((x :: r).length : Int) = b + 1 + 1 + 2 * (r.length : Int) by simp only [List.length_cons]; omega]
      simpa [numbRead] using ih2
  unfold laws_markReadS.f
  simpa using key l [] a h0 (by omega) (by simpa using hn)

/-- The numbers a, a + 1, .. laid into all fields of m elements. -/
def numbPut (a : Int) : Nat → List S82
  | 0 => []
  | m + 1 => ⟨a, a + 1⟩ :: numbPut (a + 1 + 1) m
theorem setmid_Put (p r : List S82) (x v : S82) : (p ++ x :: r).set (p.length : Int).toNat v = p ++ v :: r := by
  rw [Int.toNat_natCast, List.set_append_right _ _ (Nat.le_refl _), Nat.sub_self]; rfl
theorem rdmid_Put (p r : List S82) (x : S82) : rd_T82 (p ++ x :: r) (p.length : Int) = x := by
  rw [rdi_Put (by simp)]; simp
theorem markPutS_ev (l : List S82) (a : Int) (h0 : 0 ≤ a) (h1 : a ≤ 1000000000) (hn : l.length ≤ 100000000) : Ev (fun k => laws_markPutS.f k l a) (a + 2 * l.length, numbPut a l.length) := by
  have key : ∀ (r p : List S82) (b : Int), 0 ≤ b → b + 2 * r.length ≤ 5000000000 → p.length + r.length ≤ 100000000 → Ev (fun k => laws_markPutS.l0 k (p ++ r) b (p.length : Int)) (b + 2 * r.length, p ++ numbPut b r.length) := by
    intro r
    induction r with
    | nil =>
      intro p b _ _ _
      refine Ev.step (fun k => by rw [laws_markPutS.l0]) ?_
      refine ev_neg (by simp) ?_
      simpa [numbPut] using ev_now _
    | cons x r ih =>
      intro p b hb hb2 hl
      simp only [List.length_cons] at hb2 hl
      refine Ev.step (fun k => by rw [laws_markPutS.l0]) ?_
      refine ev_pos (by simp; omega) (ev_pos (nn_cast _) ?_)
      have w1 : wrap64 (b + 1) = b + 1 := wrap_id (by omega) (by omega)
      have w2 : wrap64 (b + 1 + 1) = b + 1 + 1 := wrap_id (by omega) (by omega)
      have wi : wrap64 ((p.length : Int) + 1) = ((p.length + 1 : Nat) : Int) := wrap_succ (n := p.length + 1) (by omega) (by omega)
      simp only [Option.bind_some, setmid_Put, rdmid_Put, w1, w2, wi]
      have ih2 := ih (p ++ [⟨b, b + 1⟩]) (b + 1 + 1) (by omega) (by omega) (by simp; omega)
      simp only [List.append_assoc, List.singleton_append, List.length_append, List.length_singleton] at ih2
      rw [show b + 2 * ((x :: r).length : Int) = b + 1 + 1 + 2 * (r.length : Int) by simp only [List.length_cons]; omega]
      simpa [numbPut] using ih2
  unfold laws_markPutS.f
  simpa using key l [] a h0 (by omega) (by simpa using hn)

def toEnt (x : S109) : S77 := ⟨x.f0, ⟨x.f1.f0, x.f1.f1⟩, ⟨x.f2.f0.map toRead, x.f2.f1.map toPut, x.f2.f2, x.f2.f3⟩⟩
/-- How many reads and puts stand in entries, all together. -/
def totE : List S77 → Nat
  | [] => 0
  | t :: l => t.f2.f0.length + t.f2.f1.length + totE l
def totL : List S109 → Nat
  | [] => 0
  | t :: l => t.f2.f0.length + t.f2.f1.length + totL l
theorem totE_map : ∀ l : List S109, totE (l.map toEnt) = totL l
  | [] => rfl
  | t :: l => by simp only [List.map_cons, totE, totL, toEnt, List.length_map, totE_map l]
theorem totL_get : ∀ {l : List S109} {t : S109}, t ∈ l → t.f2.f0.length + t.f2.f1.length ≤ totL l
  | [], t, h => by simp at h
  | u :: l, t, h => by
    rcases List.mem_cons.1 h with rfl | h
    · unfold totL; omega
    · have := totL_get h; unfold totL; omega
theorem totE_get : ∀ {l : List S77} {t : S77}, t ∈ l → t.f2.f0.length + t.f2.f1.length ≤ totE l
  | [], t, h => by simp at h
  | u :: l, t, h => by
    rcases List.mem_cons.1 h with rfl | h
    · unfold totE; omega
    · have := totE_get h; unfold totE; omega
theorem rdl_Entry {l : List S109} {i : Nat} (h : i < l.length) : rd_T109 l (i : Int) = l[i] := by
  unfold rd_T109
  rw [Int.toNat_natCast, List.getD_eq_getElem?_getD, List.getElem?_eq_getElem h]
  rfl
theorem szEntry_sum (x : S109) (a : Int) (h0 : 0 ≤ a) (h1 : a ≤ 1048576) (hn : x.f2.f0.length ≤ 9223372036854775807) (hm : x.f2.f1.length ≤ 9223372036854775807) :
    ∃ v, laws_szEntry.f x.f0 x.f1.f0 x.f1.f1 x.f2.f0 x.f2.f1 x.f2.f2 x.f2.f3 a = some v ∧ (¬ v < 0 → v + x.f2.f0.length + x.f2.f1.length = a) := by
  unfold laws_szEntry.f laws_szRun.f
  rw [szReadS_some x.f2.f0 a hn h0 h1, Option.bind_some]
  by_cases h : a < x.f2.f0.length
  · exact ⟨-1, by rw [if_pos h]; rfl, fun h => absurd (show (-1 : Int) < 0 by omega) h⟩
  rw [if_neg h, if_neg (by omega), szPutS_some x.f2.f1 _ hm (by omega) (by omega), Option.bind_some]
  by_cases h2 : a - x.f2.f0.length < x.f2.f1.length
  · exact ⟨-1, by rw [if_pos h2]; rfl, fun h => absurd (show (-1 : Int) < 0 by omega) h⟩
  rw [if_neg h2, if_neg (by omega)]
  refine ⟨a - x.f2.f0.length - x.f2.f1.length, ?_, by omega⟩
  rw [Option.bind_some, if_neg (by omega)]
theorem szEntryS_some (l : List S109) (a : Int) (hn : l.length ≤ 9223372036854775807) (hp : ∀ x ∈ l, x.f2.f0.length ≤ 9223372036854775807 ∧ x.f2.f1.length ≤ 9223372036854775807) (h0 : 0 ≤ a) (h1 : a ≤ 1048576) :
    ∃ v, Ev (fun k => laws_szEntryS.f k l a) v ∧ (¬ v < 0 → (l.length : Int) + totL l ≤ a) := by
  have key : ∀ (d i : Nat) (a : Int), i + d = l.length → 0 ≤ a → a ≤ 1048576 → ∃ v, Ev (fun k => laws_szEntryS.l0 k l a (i : Int)) v ∧ (¬ v < 0 → (totL (l.drop i) : Int) ≤ a) := by
    intro d
    induction d with
    | zero =>
      intro i a hi h0 _
      refine ⟨a, Ev.step (fun k => by rw [laws_szEntryS.l0]) (ev_neg (by omega) (ev_now _)), fun _ => ?_⟩
      rw [show i = l.length by omega, List.drop_length]; simp [totL, h0]
    | succ d ih =>
      intro i a hd h0 h1
      have hi : i < l.length := by omega
      have hg := hp _ (List.getElem_mem hi)
      obtain ⟨z, hz, hzi⟩ := szEntry_sum l[i] a h0 h1 hg.1 hg.2
      by_cases hs : z < 0
      · refine ⟨-1, Ev.step (fun k => by rw [laws_szEntryS.l0]) (ev_pos (lt_cast hi) (ev_pos (nn_cast i) ?_)), fun h => absurd (show (-1 : Int) < 0 by omega) h⟩
        rw [rdl_Entry hi]
        exact ev_get hz (ev_pos hs (ev_now _))
      · have hs2 := hzi hs
        obtain ⟨v, hv, hvi⟩ := ih (i + 1) z (by omega) (by omega) (by omega)
        refine ⟨v, Ev.step (fun k => by rw [laws_szEntryS.l0]) (ev_pos (lt_cast hi) (ev_pos (nn_cast i) ?_)), fun h => ?_⟩
        · rw [rdl_Entry hi, wrap_succ hi hn]
          exact ev_get hz (ev_neg hs hv)
        · have := hvi h
          rw [List.drop_eq_getElem_cons hi]; simp only [totL]; omega
  unfold laws_szEntryS.f
  have hw : wrap64 (a - (l.length : Int)) = a - l.length := wrap_id (by omega) (by omega)
  rw [hw]
  by_cases hs : a - (l.length : Int) < 0
  · exact ⟨-1, ev_pos hs (ev_now _), fun h => absurd (show (-1 : Int) < 0 by omega) h⟩
  · obtain ⟨v, hv, hvi⟩ := key l.length 0 (a - l.length) (by omega) (by omega) (by omega)
    refine ⟨v, ev_neg hs hv, fun h => ?_⟩
    have := hvi h
    simp only [List.drop_zero] at this; omega
theorem toEntryS_ev (l : List S109) (hn : l.length ≤ 1048576) (hp : ∀ x ∈ l, x.f2.f0.length ≤ 1048576 ∧ x.f2.f1.length ≤ 1048576) : Ev (fun k => laws_toEntryS.f k l) (l.map toEnt) := by
  unfold laws_toEntryS.f
  refine ev_pos (nn_cast _) (ev_pos (by rw [Int.toNat_natCast]; omega) ?_)
  rw [Int.toNat_natCast]
  have hm : (l.map toEnt).length = l.length := List.length_map _
  have key := ev_loop l.length (fun i k => laws_toEntryS.l0 k l ((l.map toEnt).take i ++ List.replicate ((l.map toEnt).length - i) z77) (i : Int)) (fun _ => l.map toEnt) (fun i hi ih => by
      refine Ev.step (fun k => by rw [laws_toEntryS.l0]) ?_
      refine ev_pos (lt_cast hi) (ev_pos (nn_cast i) ?_)
      rw [rdl_Entry hi, wrap_succ hi (by omega)]
      have hg := hp _ (List.getElem_mem hi)
      refine (toEntry_ev l[i] hg.1 hg.2).bind ?_
      refine ev_pos (by rw [state_len _ _ _ (by omega), hm]; exact lt_cast hi) ?_
      have hs := set_state (l.map toEnt) z77 i (by rw [hm]; exact hi)
      rw [List.getElem_map] at hs
      rw [Int.toNat_natCast]
      simp only [toEnt] at hs ⊢ ih
      rw [hs]
      exact ih) (by
      refine Ev.step (fun k => by rw [laws_toEntryS.l0]) ?_
      refine ev_neg (by omega) ?_
      rw [hm, Nat.sub_self, List.replicate_zero, List.append_nil, ← hm, List.take_length]
      exact ev_now _) 0 (Nat.zero_le _)
  simpa [hm] using key
theorem eqEntryS_self (l : List S77) (hn : l.length ≤ 9223372036854775807) (hp : ∀ x ∈ l, x.f2.f0.length ≤ 9223372036854775807 ∧ x.f2.f1.length ≤ 9223372036854775807) : Ev (fun k => laws_eqEntryS.f k l l) true := by
  have key := ev_loop l.length (fun i k => laws_eqEntryS.l0 k l l (i : Int)) (fun _ => true) (fun i hi ih => by
    refine Ev.step (fun k => by rw [laws_eqEntryS.l0]) ?_
    refine ev_pos (lt_cast hi) (ev_pos (nn_cast i) (ev_pos (lt_cast hi) ?_))
    rw [rdi_Entry hi, wrap_succ hi hn]
    have hg := hp _ (List.getElem_mem hi)
    exact (eqEntry_self _ _ _ _ _ _ _ hg.1 hg.2).bind (ev_pos rfl ih)) (by
    refine Ev.step (fun k => by rw [laws_eqEntryS.l0]) ?_
    exact ev_neg (by omega) (ev_now _)) 0 (Nat.zero_le _)
  exact Ev.congr (fun k => by unfold laws_eqEntryS.f; exact if_pos rfl) key
theorem markEntryS_ev (l : List S77) (a : Int) (h0 : 0 ≤ a) (h1 : a ≤ 10000000) (hn : l.length ≤ 10000000) (ht : totE l ≤ 10000000) : Ev (fun k => laws_markEntryS.f k l a) (a + 5 * l.length + 2 * totE l) := by
  have key : ∀ (d i : Nat) (b : Int), i + d = l.length → 0 ≤ b → b + 5 * d + 2 * totE (l.drop i) ≤ 190000000 → Ev (fun k => laws_markEntryS.l0 k l b (i : Int)) (b + 5 * d + 2 * totE (l.drop i)) := by
    intro d
    induction d with
    | zero =>
      intro i b hi _ _
      refine Ev.step (fun k => by rw [laws_markEntryS.l0]) ?_
      refine ev_neg (by omega) ?_
      rw [show i = l.length by omega, List.drop_length]
      simpa [totE] using ev_now _
    | succ d ih =>
      intro i b hd hb hb2
      have hi : i < l.length := by omega
      rw [List.drop_eq_getElem_cons hi] at hb2 ⊢
      simp only [totE] at hb2 ⊢
      refine Ev.step (fun k => by rw [laws_markEntryS.l0]) ?_
      refine ev_pos (lt_cast hi) (ev_pos (nn_cast i) ?_)
      have w1 : wrap64 (b + 1) = b + 1 := wrap_id (by omega) (by omega)
      have w2 : wrap64 (b + 1 + 1) = b + 1 + 1 := wrap_id (by omega) (by omega)
      have w3 : wrap64 (b + 1 + 1 + 1) = b + 1 + 1 + 1 := wrap_id (by omega) (by omega)
      rw [rdi_Entry hi, wrap_succ hi (by omega), w1, w2, w3]
      refine (markReadS_ev (l[i]).f2.f0 (b + 1 + 1 + 1) (by omega) (by omega) (by omega)).bind ?_
      refine (markPutS_ev (l[i]).f2.f1 (b + 1 + 1 + 1 + 2 * (l[i]).f2.f0.length) (by omega) (by omega) (by omega)).bind ?_
      have w4 : wrap64 (b + 1 + 1 + 1 + 2 * ((l[i]).f2.f0.length : Int) + 2 * ((l[i]).f2.f1.length : Int) + 1) = b + 1 + 1 + 1 + 2 * ((l[i]).f2.f0.length : Int) + 2 * ((l[i]).f2.f1.length : Int) + 1 := wrap_id (by omega) (by omega)
      have w5 : wrap64 (b + 1 + 1 + 1 + 2 * ((l[i]).f2.f0.length : Int) + 2 * ((l[i]).f2.f1.length : Int) + 1 + 1) = b + 1 + 1 + 1 + 2 * ((l[i]).f2.f0.length : Int) + 2 * ((l[i]).f2.f1.length : Int) + 1 + 1 := wrap_id (by omega) (by omega)
      simp only [w4, w5]
      have ih2 := ih (i + 1) (b + 1 + 1 + 1 + 2 * ((l[i]).f2.f0.length : Int) + 2 * ((l[i]).f2.f1.length : Int) + 1 + 1) (by omega) (by omega) (by omega)
      rw [show b + 5 * ((d + 1 : Nat) : Int) + 2 * (((l[i]).f2.f0.length + (l[i]).f2.f1.length + totE (l.drop (i + 1)) : Nat) : Int) = b + 1 + 1 + 1 + 2 * ((l[i]).f2.f0.length : Int) + 2 * ((l[i]).f2.f1.length : Int) + 1 + 1 + 5 * (d : Int) + 2 * (totE (l.drop (i + 1)) : Int) by omega]
      exact ih2
  unfold laws_markEntryS.f
  have := key l.length 0 a (by omega) h0 (by rw [List.drop_zero]; omega)
  rwa [List.drop_zero] at this

theorem FnExactCertFold : laws_FnExactCertFold.Pure := by
  intro l ⟨hl, hl2⟩
  unfold RES1
  obtain ⟨v, hv, hvi⟩ := szEntryS_some l 1048576 hl (fun x hx => ⟨(hl2 x hx).2.2.1.1, (hl2 x hx).2.2.2.1.1⟩) (by omega) (by omega)
  refine cx hv ?_
  by_cases hs : v < 0
  · exact Am.br_t (by simpa using hs) (Am.isTrue_true _)
  refine Am.br_f (by simpa using hs) ?_
  have ht := hvi hs
  have hg : ∀ x ∈ l, x.f2.f0.length ≤ 1048576 ∧ x.f2.f1.length ≤ 1048576 := fun x hx => by have := totL_get hx; omega
  have hi := toEntryS_ev l (by omega) hg
  have li : (l.map toEnt).length = l.length := List.length_map _
  have lt : totE (l.map toEnt) = totL l := totE_map _
  generalize l.map toEnt = q at *
  have hq : ∀ t ∈ q, entLen t := fun t h => by have := totE_get h; unfold entLen; omega
  have hu := impl_CertFold_ev q (by omega) hq
  have hw := spec_CertFold_ev q (by omega) hq
  have hlen := foldOf_len q
  generalize foldOf q = r at hu hw hlen
  obtain ⟨a, x, y⟩ := r
  simp only at hlen
  have q2 := eqState_self a x y (by omega) (by omega)
  have qe := eqEntryS_self q (by omega) (fun t h => by have := totE_get h; omega)
  have me := markEntryS_ev q 1 (by omega) (by omega) (by omega) (by omega)
  have m2 := markState_ev a x y 1 (by omega) (by omega) (by omega) (by omega)
  have h2 := heldState_ev a 1 x.length y.length (by omega) (by omega) (by omega) (by omega)
  refine cx hi (cx hw (cx hi (Am.br_t (by simp; omega) ?_)))
  unfold RES2
  refine cx hu (cx q2 (Am.br_f rfl (cx hi (cx qe (Am.br_f rfl (cx me ?_))))))
  unfold RES3
  refine Am.br_f (by simp; omega) (cx q2 (Am.br_f rfl (cx m2 (cx h2 (Am.br_f (by simp; omega) (Am.br_f (by simp) ?_))))))
  exact cx hi (cx hu (cx q2 (Am.br_f rfl (cx h2 (Am.br_f (by simp; omega) (Am.br_f (by simp) (Am.isTrue_true _)))))))

end Go.Proofs.Ytkkmhlfpombgfaa.Pure
