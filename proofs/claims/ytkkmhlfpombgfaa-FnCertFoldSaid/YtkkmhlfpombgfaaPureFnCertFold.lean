/- The pure law of FnCertFold: what the law's function of numbers and lists answers is true, for every input. Its condition: none but what the row says. -/
import Derived.Test.YtkkmhlfpombgfaaPFnCertFoldx3
namespace Go.Proofs.Ytkkmhlfpombgfaa.Pure
open Go.RowKit Go.Proofs.Ytkkmhlfpombgfaa.PFnCertFold Go.Proofs.YtkkmhlfpombgfaaW.PrintWords Go.Proofs.YtkkmhlfpombgfaaW.PrintLast
set_option linter.unusedVariables false
set_option linter.unusedSimpArgs false
set_option linter.unusedSectionVars false

theorem wrap_succ {i n : Nat} (h : i < n) (hn : n ≤ 9223372036854775807) : wrap64 ((i : Int) + 1) = ((i + 1 : Nat) : Int) := by unfold wrap64; omega
theorem wrap_id {a : Int} (h0 : -9223372036854775808 ≤ a) (h1 : a ≤ 9223372036854775807) : wrap64 a = a := by unfold wrap64; omega
theorem ev_pos {α : Type} {c : Prop} [Decidable c] {f g : Nat → Option α} {r : α} (h : c) (e : Ev f r) : Ev (fun k => if c then f k else g k) r := by
  simp only [if_pos h]; exact e
theorem ev_neg {α : Type} {c : Prop} [Decidable c] {f g : Nat → Option α} {r : α} (h : ¬ c) (e : Ev g r) : Ev (fun k => if c then f k else g k) r := by
  simp only [if_neg h]; exact e
theorem ev_ite {α : Type} {c : Prop} [Decidable c] {f g : Nat → Option α} {r : α} (h1 : c → Ev f r) (h2 : ¬ c → Ev g r) : Ev (fun k => if c then f k else g k) r := by
  by_cases h : c
  · exact ev_pos h (h1 h)
  · exact ev_neg h (h2 h)
theorem ev_now {α : Type} (r : α) : Ev (fun _ => some r) r := Ev.now r
theorem ev_get {α β : Type} {g : Option α} {f : Nat → α → Option β} {a : α} {r : β} (h : g = some a) (k : Ev (fun n => f n a) r) : Ev (fun n => g.bind (f n)) r := by
  subst h; exact k
/-- A loop over 0 .. n - 1: what it answers from i on. -/
theorem ev_loop {α : Type} (n : Nat) (F : Nat → Nat → Option α) (v : Nat → α) (step : ∀ i, i < n → Ev (F (i + 1)) (v (i + 1)) → Ev (F i) (v i)) (last : Ev (F n) (v n)) : ∀ i, i ≤ n → Ev (F i) (v i) := by
  have key : ∀ d i, i + d = n → Ev (F i) (v i) := by
    intro d
    induction d with
    | zero => intro i h; obtain rfl : i = n := by omega
              exact last
    | succ d ih => intro i h; exact step i (by omega) (ih (i + 1) (by omega))
  exact fun i hi => key (n - i) i (by omega)
theorem lt_cast {i n : Nat} (h : i < n) : (i : Int) < (n : Int) := Int.ofNat_lt.2 h
theorem nn_cast (i : Nat) : (0 : Int) ≤ (i : Int) := Int.natCast_nonneg i
theorem drop_eq {α : Type} {x y : List α} (hl : x.length = y.length) {i : Nat} (h : i < x.length) : (x.drop i = y.drop i) ↔ (x[i] = y[i]'(hl ▸ h) ∧ x.drop (i + 1) = y.drop (i + 1)) := by
  have h2 : i < y.length := hl ▸ h
  rw [List.drop_eq_getElem_cons h, List.drop_eq_getElem_cons h2, List.cons.injEq]
theorem mem_split {α : Type} {p : α → Prop} {l : List α} {i : Nat} (h : i < l.length) : (∀ b ∈ l.drop i, p b) ↔ p l[i] ∧ ∀ b ∈ l.drop (i + 1), p b := by
  rw [List.drop_eq_getElem_cons h]
  simp only [List.mem_cons, forall_eq_or_imp]
theorem ev_const {α : Type} {X : Option α} {r : α} (h : X = some r) : Ev (fun _ => X) r := ⟨0, fun _ _ => h⟩

theorem rdi_Done {l : List S84} {i : Nat} (h : i < l.length) : rd_T84 l (i : Int) = l[i] := by
  unfold rd_T84
  rw [Int.toNat_natCast, List.getD_eq_getElem?_getD, List.getElem?_eq_getElem h]
  rfl

def reqIn (a b : Int) : Prop := (0 ≤ a ∧ a ≤ 2) ∧ (1 ≤ b ∧ b ≤ 1000)
instance (a b : Int) : Decidable (reqIn a b) := by unfold reqIn; infer_instance

/-- Boxes, as the document has them. -/
def boxIn (b : S37) : Prop := 0 ≤ b.f0 ∧ b.f0 ≤ 1000000 ∧ -1000000 ≤ b.f1 ∧ b.f1 ≤ 1000000
def boxOk (l : List S37) : Prop := l.length = 4 ∧ ∀ b ∈ l, boxIn b
theorem rd_box {l : List S37} {i : Nat} (h : i < l.length) : rd_T37 l (i : Int) = l[i] := by
  unfold rd_T37
  rw [Int.toNat_natCast, List.getD_eq_getElem?_getD, List.getElem?_eq_getElem h]
  rfl
def dGood (d : S84) : Prop := reqIn d.f0.f0 d.f0.f1 ∧ (0 ≤ d.f1 ∧ d.f1 ≤ 2) ∧ (-1000000 ≤ d.f2 ∧ d.f2 ≤ 1000000) ∧ (d.f1 ≠ 0 → d.f2 = 0)
/-- From place i on: each is good, and its node stands behind the one ahead of it. -/
def donesFrom (l : List S84) (i : Nat) : Prop := ∀ j (h : j < l.length), i ≤ j → dGood l[j] ∧ ∀ (h0 : 0 < j), (l[j - 1]'(by omega)).f0.f0 < (l[j]).f0.f0
theorem donesFrom_step (l : List S84) {i : Nat} (h : i < l.length) : donesFrom l i ↔ (dGood l[i] ∧ ∀ (h0 : 0 < i), (l[i - 1]'(by omega)).f0.f0 < (l[i]).f0.f0) ∧ donesFrom l (i + 1) := by
  constructor
  · intro g
    exact ⟨g i h (Nat.le_refl _), fun j hj hij => g j hj (by omega)⟩
  · rintro ⟨a, b⟩ j hj hij
    by_cases e : j = i
    · subst e; exact a
    · exact b j hj (by omega)
theorem donesFrom_end (l : List S84) : donesFrom l l.length := fun j hj hij => absurd hij (by omega)
/-- A state that is right. -/
def stateOk (a : Int) (x : List S37) (y : List S84) : Prop := (0 ≤ a ∧ a ≤ 40) ∧ boxOk x ∧ donesFrom y 0

theorem rd_i {l : List Int} {i : Nat} (h : i < l.length) : rd l (i : Int) = l[i] := by
  unfold rd
  rw [Int.toNat_natCast, List.getD_eq_getElem?_getD, List.getElem?_eq_getElem h]
  rfl

/-- From place i on: each names a box, is good, and names none that stands ahead of it. -/
def okFrom {α : Type} (key : α → Int) (good : α → Prop) (l : List α) (i : Nat) : Prop := ∀ j (h : j < l.length), i ≤ j → (0 ≤ key l[j] ∧ key l[j] ≤ 3) ∧ good l[j] ∧ key l[j] ∉ (l.take j).map key
theorem okFrom_step {α : Type} (key : α → Int) (good : α → Prop) (l : List α) {i : Nat} (h : i < l.length) :
    okFrom key good l i ↔ ((0 ≤ key l[i] ∧ key l[i] ≤ 3) ∧ good l[i] ∧ key l[i] ∉ (l.take i).map key) ∧ okFrom key good l (i + 1) := by
  constructor
  · intro g
    exact ⟨g i h (Nat.le_refl _), fun j hj hij => g j hj (by omega)⟩
  · rintro ⟨a, b⟩ j hj hij
    by_cases e : j = i
    · subst e; exact a
    · exact b j hj (by omega)
theorem okFrom_end {α : Type} (key : α → Int) (good : α → Prop) (l : List α) : okFrom key good l l.length := fun j hj hij => absurd hij (by omega)
/-- Which boxes are named in the first i. -/
noncomputable def namedIn {α : Type} (key : α → Int) (l : List α) (i : Nat) (b : Int) : Bool := @decide (b ∈ (l.take i).map key) (Classical.propDecidable _)
theorem namedIn_iff {α : Type} (key : α → Int) (l : List α) (i : Nat) (b : Int) : namedIn key l i b = true ↔ b ∈ (l.take i).map key := by
  unfold namedIn
  exact @decide_eq_true_iff _ (Classical.propDecidable _)
theorem namedIn_zero {α : Type} (key : α → Int) (l : List α) (b : Int) : namedIn key l 0 b = false := by
  rw [Bool.eq_false_iff]
  intro h
  rw [namedIn_iff] at h
  simp at h
theorem namedIn_succ {α : Type} (key : α → Int) (l : List α) {i : Nat} (h : i < l.length) (b : Int) : ixB (key l[i]) b true (namedIn key l i b) = namedIn key l (i + 1) b := by
  rw [Bool.eq_iff_iff, namedIn_iff, List.take_succ_eq_append_getElem h]
  unfold ixB
  simp only [List.map_append, List.mem_append, List.map_cons, List.map_nil, List.mem_singleton]
  by_cases e : key l[i] = b
  · rw [if_pos e]; exact ⟨fun _ => .inr e.symm, fun _ => rfl⟩
  · rw [if_neg e, namedIn_iff]
    exact ⟨fun g => .inl g, fun g => g.elim id (fun g => absurd g.symm e)⟩
theorem rd_four (F : Int → Bool) (a : Int) (h0 : 0 ≤ a) (h1 : a ≤ 3) : rdOf false [F 0, F 1, F 2, F 3] a = F a := by
  have : a = 0 ∨ a = 1 ∨ a = 2 ∨ a = 3 := by omega
  rcases this with rfl | rfl | rfl | rfl <;> rfl

theorem rdi_Read {l : List S39} {i : Nat} (h : i < l.length) : rd_T39 l (i : Int) = l[i] := by
  unfold rd_T39
  rw [Int.toNat_natCast, List.getD_eq_getElem?_getD, List.getElem?_eq_getElem h]
  rfl

theorem rdi_Put {l : List S82} {i : Nat} (h : i < l.length) : rd_T82 l (i : Int) = l[i] := by
  unfold rd_T82
  rw [Int.toNat_natCast, List.getD_eq_getElem?_getD, List.getElem?_eq_getElem h]
  rfl

def rGood (x : S39) : Prop := 0 ≤ x.f1 ∧ x.f1 ≤ 1000000
def pGood (x : S82) : Prop := -1000000 ≤ x.f1 ∧ x.f1 ≤ 1000000
def rKey (x : S39) : Int := x.f0
def pKey (x : S82) : Int := x.f0
/-- A run that is right. -/
def runOk (x : List S39) (y : List S82) (a b : Int) : Prop :=
  (0 ≤ b ∧ b ≤ 3) ∧ (-1000000 ≤ a ∧ a ≤ 1000000) ∧ (b ≠ 0 → a = 0 ∧ ¬ (y.length : Int) > 0) ∧ (b = 3 → ¬ (x.length : Int) > 0) ∧ okFrom rKey rGood x 0 ∧ okFrom pKey pGood y 0

def freshOk (l : List S37) (x : List S39) (y : List S82) (a b : Int) : Prop := boxOk l ∧ runOk x y a b ∧ ∀ r ∈ x, (rd_T37 l r.f0).f0 = r.f1
theorem runOk_reads {x : List S39} {y : List S82} {a b : Int} (h : runOk x y a b) (i : Nat) (hi : i < x.length) : 0 ≤ (x[i]).f0 ∧ (x[i]).f0 ≤ 3 := (h.2.2.2.2.1 i hi (Nat.zero_le _)).1
theorem runOk_puts {x : List S39} {y : List S82} {a b : Int} (h : runOk x y a b) (i : Nat) (hi : i < y.length) : 0 ≤ (y[i]).f0 ∧ (y[i]).f0 ≤ 3 := (h.2.2.2.2.2 i hi (Nat.zero_le _)).1

/-- What a put makes of the boxes. -/
def put1 (l : List S37) (p : S82) : List S37 := l.set p.f0.toNat ⟨mn 1000000 (wrap64 ((rd_T37 l p.f0).f0 + 1)), p.f1⟩
theorem put1_len (l : List S37) (p : S82) : (put1 l p).length = l.length := by unfold put1; rw [List.length_set]
theorem puts_len (y : List S82) : ∀ l : List S37, (y.foldl put1 l).length = l.length := by
  induction y with
  | nil => intro l; rfl
  | cons p y ih => intro l; rw [List.foldl_cons, ih, put1_len]
open Classical in
/-- What a run makes of the boxes; none, if boxes or run are not right. -/
noncomputable def doneBy (l : List S37) (x : List S39) (y : List S82) (a b : Int) : List S37 := if boxOk l ∧ runOk x y a b then y.foldl put1 l else []
/-- The last request of somebody, kept: it stands ahead of the first whose node is not ahead of his; his own go. -/
def putD (d : S84) : Bool → List S84 → List S84
  | b, [] => if b = true then [] else [d]
  | b, q :: r => (if b = false ∧ d.f0.f0 ≤ q.f0.f0 then [d] else []) ++ ((if q.f0.f0 = d.f0.f0 then [] else [q]) ++ putD d (b || decide (d.f0.f0 ≤ q.f0.f0)) r)
theorem putD_len (d : S84) : ∀ (l : List S84) (b : Bool), (putD d b l).length ≤ l.length + (if b = true then 0 else 1) := by
  intro l
  induction l with
  | nil => intro b; cases b <;> simp [putD]
  | cons q r ih =>
    intro b
    unfold putD
    simp only [List.length_append, List.length_cons]
    have h := ih (b || decide (d.f0.f0 ≤ q.f0.f0))
    cases b
    · by_cases c : d.f0.f0 ≤ q.f0.f0
      · simp only [c, and_self, if_true, decide_true, Bool.or_true, List.length_singleton] at h ⊢
        split <;> simp <;> omega
      · simp only [c, and_false, if_false, decide_false, Bool.or_false, List.length_nil] at h ⊢
        simp only [Bool.false_eq_true, if_false] at h ⊢
        split <;> simp <;> omega
    · simp only [Bool.true_or, if_true, Bool.true_eq_false, false_and, if_false, List.length_nil] at h ⊢
      split <;> simp <;> omega
/-- The last request of somebody. -/
def lastD (y : List S84) (w : Int) : Option S84 := y.find? (fun d => decide (d.f0.f0 = w))
theorem putD_mem {d z : S84} : ∀ {y : List S84} {b : Bool}, z ∈ putD d b y → (z = d ∧ b = false) ∨ (z ∈ y ∧ z.f0.f0 ≠ d.f0.f0) := by
  intro y
  induction y with
  | nil =>
    intro b h
    unfold putD at h
    cases b
    · simp at h; exact .inl ⟨h, rfl⟩
    · simp at h
  | cons q r ih =>
    intro b h
    unfold putD at h
    rw [List.mem_append, List.mem_append] at h
    rcases h with h | h | h
    · split at h
      · rename_i c; rw [List.mem_singleton] at h; exact .inl ⟨h, c.1⟩
      · simp at h
    · split at h
      · simp at h
      · rename_i c; rw [List.mem_singleton] at h; subst h; exact .inr ⟨List.mem_cons_self .., c⟩
    · rcases ih h with ⟨h1, h2⟩ | ⟨h1, h2⟩
      · simp only [Bool.or_eq_false_iff] at h2; exact .inl ⟨h1, h2.1⟩
      · exact .inr ⟨List.mem_cons_of_mem _ h1, h2⟩

open Classical in
/-- What a new entry makes of the state: its code, the boxes, and what is kept of it. -/
noncomputable def apNew (a : Int) (x : List S37) (y : List S84) (p q : Int) (rx : List S39) (ry : List S82) (v c : Int) : Int × List S37 × List S84 × Int :=
  if freshOk x rx ry v c then (if c = 0 then (a, ry.foldl put1 x, putD ⟨⟨p, q⟩, 0, v⟩ false y, 0) else (a, x, putD ⟨⟨p, q⟩, 2, 0⟩ false y, 2)) else (a, x, putD ⟨⟨p, q⟩, 1, 0⟩ false y, 1)
/-- What an entry makes of the state; a is the state's number behind it. -/
noncomputable def apOf (a : Int) (x : List S37) (y : List S84) (e : Bool) (p q : Int) (rx : List S39) (ry : List S82) (v c : Int) : Int × List S37 × List S84 × Int :=
  if e = true then (a, x, y, 5) else match lastD y p with
    | some d => if d.f0.f1 = q then (a, x, y, 3) else if q < d.f0.f1 then (a, x, y, 4) else apNew a x y p q rx ry v c
    | none => apNew a x y p q rx ry v c
theorem lastD_who {y : List S84} {w : Int} {d : S84} (h : lastD y w = some d) : d.f0.f0 = w := by
  unfold lastD at h
  have := List.find?_some h
  simpa using this

theorem rdi_Ins {l : List S95} {i : Nat} (h : i < l.length) : rd_T95 l (i : Int) = l[i] := by
  unfold rd_T95
  rw [Int.toNat_natCast, List.getD_eq_getElem?_getD, List.getElem?_eq_getElem h]
  rfl

/-- An instruction that is right. -/
def insIn (x : S95) : Prop :=
  (x.f0 = 1 ∧ 0 ≤ x.f1 ∧ x.f1 ≤ 3 ∧ 0 ≤ x.f2 ∧ x.f2 ≤ 3 ∧ x.f3 = 0) ∨ (x.f0 = 2 ∧ 0 ≤ x.f1 ∧ x.f1 ≤ 3 ∧ 0 ≤ x.f2 ∧ x.f2 ≤ 3 ∧ x.f3 = 0) ∨
  (x.f0 = 3 ∧ 0 ≤ x.f1 ∧ x.f1 ≤ 3 ∧ x.f2 = 0 ∧ -1000000 ≤ x.f3 ∧ x.f3 ≤ 1000000) ∨ ((x.f0 = 4 ∨ x.f0 = 5) ∧ 0 ≤ x.f1 ∧ x.f1 ≤ 3 ∧ 0 ≤ x.f2 ∧ x.f2 ≤ 3 ∧ x.f3 = 0) ∨
  (x.f0 = 6 ∧ 0 ≤ x.f1 ∧ x.f1 ≤ 3 ∧ 0 ≤ x.f2 ∧ x.f2 ≤ 3 ∧ 1 ≤ x.f3 ∧ x.f3 ≤ 10) ∨ (x.f0 = 7 ∧ x.f1 = 0 ∧ x.f2 = 0 ∧ x.f3 = 0)
instance (x : S95) : Decidable (insIn x) := by unfold insIn; infer_instance
def progOk (l : List S95) : Prop := l.length ≤ 10 ∧ ∀ x ∈ l, insIn x

/-- Where a box stands among what is put, or -1. -/
def atP (b : Int) : List S82 → Int → Int
  | [], _ => -1
  | p :: r, i => if p.f0 = b then i else atP b r (i + 1)
def atR (b : Int) : List S39 → Int → Int
  | [], _ => -1
  | p :: r, i => if p.f0 = b then i else atR b r (i + 1)
theorem atP_prop (b : Int) : ∀ (l : List S82) (i : Int), 0 ≤ i → (atP b l i = -1 ∧ ∀ p ∈ l, p.f0 ≠ b) ∨ (∃ j : Nat, ∃ h : j < l.length, atP b l i = i + j ∧ (l[j]).f0 = b) := by
  intro l
  induction l with
  | nil => intro i _; exact .inl ⟨rfl, by simp⟩
  | cons p r ih =>
    intro i hi
    unfold atP
    by_cases c : p.f0 = b
    · rw [if_pos c]; exact .inr ⟨0, by simp, by simp, by simpa using c⟩
    · rw [if_neg c]
      rcases ih (i + 1) (by omega) with ⟨e, h⟩ | ⟨j, hj, e, h⟩
      · refine .inl ⟨e, ?_⟩
        intro q hq
        rcases List.mem_cons.1 hq with rfl | h2
        · exact c
        · exact h q h2
      · refine .inr ⟨j + 1, by simpa using hj, by rw [e]; omega, by simpa using h⟩
theorem atP_lt (b : Int) (l : List S82) (h : 0 ≤ atP b l 0) : atP b l 0 < l.length := by
  rcases atP_prop b l 0 (by omega) with ⟨e, _⟩ | ⟨j, hj, e, _⟩
  · omega
  · omega
/-- What a box holds for a run, and what was looked into then. -/
def look (l : List S37) (x : List S39) (y : List S82) (b : Int) : Int × List S39 :=
  if 0 ≤ atP b y 0 then ((rd_T82 y (atP b y 0)).f1, x) else ((rd_T37 l b).f1, if 0 ≤ atR b x 0 then x else x ++ [⟨b, (rd_T37 l b).f0⟩])
def putP (y : List S82) (b v : Int) : List S82 := if 0 ≤ atP b y 0 then y.set (atP b y 0).toNat ⟨(rd_T82 y (atP b y 0)).f0, v⟩ else y ++ [⟨b, v⟩]
/-- What a run is: looked into, put, value, code. -/
abbrev RunT := List S39 × List S82 × Int × Int
def inR (v : Int) : Prop := -1000000 ≤ v ∧ v ≤ 1000000
instance (v : Int) : Decidable (inR v) := by unfold inR; infer_instance
/-- A run from place i on, with so much fuel. -/
def runP (l : List S37) (p : List S95) : Nat → Nat → List Int → List S39 → List S82 → RunT
  | 0, _, g, x, y => (x, y, rd g 0, 0)
  | f + 1, i, g, x, y =>
    if i < p.length then
      let s := rd_T95 p (i : Int)
      if s.f0 = 1 then runP l p f (i + 1) (g.set s.f1.toNat (look l x y s.f2).1) (look l x y s.f2).2 y
      else if s.f0 = 2 then runP l p f (i + 1) g x (putP y s.f1 (rd g s.f2))
      else if s.f0 = 3 then runP l p f (i + 1) (g.set s.f1.toNat s.f3) x y
      else if s.f0 = 4 then if inR (rd g s.f1 + rd g s.f2) then runP l p f (i + 1) (g.set s.f1.toNat (rd g s.f1 + rd g s.f2)) x y else (x, [], 0, 2)
      else if s.f0 = 5 then if inR (rd g s.f1 - rd g s.f2) then runP l p f (i + 1) (g.set s.f1.toNat (rd g s.f1 - rd g s.f2)) x y else (x, [], 0, 2)
      else if s.f0 = 6 then runP l p f (if rd g s.f1 < rd g s.f2 then i + s.f3.toNat + 1 else i + 1) g x y
      else (x, [], 0, 1)
    else (x, y, rd g 0, 0)
/-- What holds in the midst of a run. -/
structure Mid (i : Nat) (g : List Int) (x : List S39) (y : List S82) : Prop where
  len : g.length = 4
  reg : ∀ v ∈ g, inR v
  put : ∀ p ∈ y, inR p.f1
  xl : x.length ≤ i
  yl : y.length ≤ i
theorem inR_set {g : List Int} {i : Nat} {v : Int} (h : ∀ u ∈ g, inR u) (hv : inR v) : ∀ u ∈ g.set i v, inR u := by
  intro b hb
  rcases List.mem_or_eq_of_mem_set hb with h1 | h1
  · exact h b h1
  · rw [h1]; exact hv
theorem rd_inR {g : List Int} (h : ∀ u ∈ g, inR u) (i : Int) : inR (rd g i) := by
  unfold rd
  rw [List.getD_eq_getElem?_getD]
  cases e : g[i.toNat]? with
  | none => simp [inR]
  | some x => exact h x (List.mem_of_getElem? e)
theorem box_inR {l : List S37} (h : boxOk l) (i : Int) : inR (rd_T37 l i).f1 := by
  unfold rd_T37
  rw [List.getD_eq_getElem?_getD]
  cases e : l[i.toNat]? with
  | none => simp [inR, z37]
  | some x => have := h.2 x (List.mem_of_getElem? e); unfold boxIn at this; unfold inR; simp only [Option.getD_some]; omega
theorem put_inR {y : List S82} (h : ∀ p ∈ y, inR p.f1) (i : Int) : inR (rd_T82 y i).f1 := by
  unfold rd_T82
  rw [List.getD_eq_getElem?_getD]
  cases e : y[i.toNat]? with
  | none => simp [inR, z82]
  | some x => exact h x (List.mem_of_getElem? e)
theorem look_inR {l : List S37} (hl : boxOk l) (x : List S39) {y : List S82} (h : ∀ p ∈ y, inR p.f1) (b : Int) : inR (look l x y b).1 := by
  unfold look
  by_cases c : 0 ≤ atP b y 0
  · rw [if_pos c]; exact put_inR h _
  · rw [if_neg c]; exact box_inR hl _
theorem look_len (l : List S37) (x : List S39) (y : List S82) (b : Int) : (look l x y b).2.length ≤ x.length + 1 := by
  unfold look
  by_cases c : 0 ≤ atP b y 0
  · rw [if_pos c]; simp
  · rw [if_neg c]
    by_cases d : 0 ≤ atR b x 0
    · simp [d]
    · simp [d]
theorem putP_len (y : List S82) (b v : Int) : (putP y b v).length ≤ y.length + 1 := by
  unfold putP
  by_cases c : 0 ≤ atP b y 0
  · rw [if_pos c]; simp
  · rw [if_neg c]; simp
theorem putP_inR {y : List S82} (h : ∀ p ∈ y, inR p.f1) (b : Int) {v : Int} (hv : inR v) : ∀ p ∈ putP y b v, inR p.f1 := by
  unfold putP
  by_cases c : 0 ≤ atP b y 0
  · rw [if_pos c]
    intro p hp
    rcases List.mem_or_eq_of_mem_set hp with h1 | h1
    · exact h p h1
    · rw [h1]; exact hv
  · rw [if_neg c]
    intro p hp
    rcases List.mem_append.1 hp with h1 | h1
    · exact h p h1
    · rw [List.mem_singleton.1 h1]; exact hv

theorem l1Num_some (a : Int) : ∃ v, spec_l1Num.f a = some v ∧ (v = true ↔ -1000000 ≤ a ∧ a ≤ 1000000) := by
  unfold spec_l1Num.f
  by_cases h : a ≥ -1000000
  · exact ⟨decide (a ≤ 1000000), by simp [h], by simp; omega⟩
  · exact ⟨false, by simp [h], by simp; omega⟩
theorem spec_BoxOk_ev (l : List S37) (hn : l.length ≤ 9223372036854775807) : ∃ v, Ev (fun k => spec_BoxOk.f k l) v ∧ (v = true ↔ boxOk l) := by
  classical
  by_cases h4 : l.length = 4
  · have key := ev_loop l.length (fun i k => spec_BoxOk.l0 k l (i : Int)) (fun i => decide (∀ b ∈ l.drop i, boxIn b)) (fun i hi ih => by
      refine Ev.step (fun k => by rw [spec_BoxOk.l0]) ?_
      refine ev_pos (lt_cast hi) (ev_pos (nn_cast i) ?_)
      rw [rd_box hi, wrap_succ hi hn]
      obtain ⟨v, hv, hvi⟩ := l1Num_some (l[i]).f1
      have hs := mem_split (p := boxIn) hi
      by_cases h0 : (l[i]).f0 < 0
      · have : ¬ boxIn l[i] := by unfold boxIn; omega
        simp only [hs, this, false_and, decide_false]
        exact ev_pos h0 (ev_now _)
      refine ev_neg h0 ?_
      by_cases h1 : (l[i]).f0 > 1000000
      · have : ¬ boxIn l[i] := by unfold boxIn; omega
        simp only [hs, this, false_and, decide_false]
        exact ev_pos h1 (ev_now _)
      refine ev_neg h1 (ev_get hv ?_)
      by_cases h2 : v = true
      · have : boxIn l[i] := by have := hvi.1 h2; unfold boxIn; omega
        simp only [hs, this, true_and]
        exact ev_pos h2 ih
      · have : ¬ boxIn l[i] := fun h => h2 (hvi.2 (by unfold boxIn at h; omega))
        simp only [hs, this, false_and, decide_false]
        exact ev_neg h2 (ev_now _)) (by
      refine Ev.step (fun k => by rw [spec_BoxOk.l0]) ?_
      refine ev_neg (by omega) ?_
      simp only [List.drop_length, List.not_mem_nil, false_implies, implies_true, decide_true]
      exact ev_now _) 0 (Nat.zero_le _)
    exact ⟨_, Ev.congr (fun k => by unfold spec_BoxOk.f; exact if_pos (by omega)) key, by simp [boxOk, h4]⟩
  · refine ⟨false, ?_, by simp [boxOk, h4]⟩
    unfold spec_BoxOk.f
    exact ev_neg (by omega) (ev_now _)

theorem l2Box_some (a : Int) : spec_l2Box.f a = some (decide (0 ≤ a ∧ a ≤ 3)) := by
  unfold spec_l2Box.f
  by_cases h : a ≥ 0
  · rw [if_pos h]; congr 1; rw [Bool.eq_iff_iff]; simp; omega
  · rw [if_neg h]; congr 1; rw [Bool.eq_iff_iff]; simp; omega

theorem l1Num_dec (a : Int) : spec_l1Num.f a = some (decide (-1000000 ≤ a ∧ a ≤ 1000000)) := by
  unfold spec_l1Num.f
  by_cases h : a ≥ -1000000
  · rw [if_pos h]; congr 1; rw [Bool.eq_iff_iff]; simp; omega
  · rw [if_neg h]; congr 1; rw [Bool.eq_iff_iff]; simp; omega

theorem l2Reg_some (a : Int) : spec_l2Reg.f a = some (decide (0 ≤ a ∧ a ≤ 3)) := by
  unfold spec_l2Reg.f
  by_cases h : a ≥ 0
  · rw [if_pos h]; congr 1; rw [Bool.eq_iff_iff]; simp; omega
  · rw [if_neg h]; congr 1; rw [Bool.eq_iff_iff]; simp; omega
theorem l2Ins_ev (x : S95) : Ev (fun k => spec_l2Ins.f k x.f0 x.f1 x.f2 x.f3) (decide (insIn x)) := by
  obtain ⟨kd, a, b, n⟩ := x
  unfold spec_l2Ins.f
  simp only [l2Reg_some, l2Box_some, l1Num_dec, Option.bind_some, decide_eq_true_eq]
  have fin : ∀ {X : Option Bool}, X = some (decide (insIn ⟨kd, a, b, n⟩)) → Ev (fun _ => X) (decide (insIn ⟨kd, a, b, n⟩)) := fun h => ev_const h
  refine ev_ite (fun h => fin ?_) (fun h1 => ev_ite (fun h => fin ?_) (fun h2 => ev_ite (fun h => fin ?_) (fun h3 => ?_)))
  · repeat' split
    all_goals (congr 1; rw [Bool.eq_iff_iff]; simp only [decide_eq_true_eq, beq_iff_eq, Bool.false_eq_true]; simp only [insIn]; constructor <;> intro hh_ <;> first | exact hh_.elim | omega)
  · repeat' split
    all_goals (congr 1; rw [Bool.eq_iff_iff]; simp only [decide_eq_true_eq, beq_iff_eq, Bool.false_eq_true]; simp only [insIn]; constructor <;> intro hh_ <;> first | exact hh_.elim | omega)
  · repeat' split
    all_goals (congr 1; rw [Bool.eq_iff_iff]; simp only [decide_eq_true_eq, beq_iff_eq, Bool.false_eq_true]; simp only [insIn]; constructor <;> intro hh_ <;> first | exact hh_.elim | omega)
  · have key : ∀ t : Bool, (t = true ↔ kd = 4 ∨ kd = 5) → Ev (fun k => spec_l2Ins.j0 k kd t kd a b n) (decide (insIn ⟨kd, a, b, n⟩)) := by
      intro t ht
      refine Ev.step (fun k => by rw [spec_l2Ins.j0]) ?_
      simp only [l2Reg_some, l2Box_some, l1Num_dec, Option.bind_some, decide_eq_true_eq]
      refine fin ?_
      by_cases h4 : t = true
      · have := ht.1 h4
        rw [if_pos h4]
        repeat' split
        all_goals (congr 1; rw [Bool.eq_iff_iff]; simp only [decide_eq_true_eq, beq_iff_eq, Bool.false_eq_true]; simp only [insIn]; constructor <;> intro hh_ <;> first | exact hh_.elim | omega)
      · have : ¬ (kd = 4 ∨ kd = 5) := fun h => h4 (ht.2 h)
        rw [if_neg h4]
        repeat' split
        all_goals (congr 1; rw [Bool.eq_iff_iff]; simp only [decide_eq_true_eq, beq_iff_eq, Bool.false_eq_true]; simp only [insIn]; constructor <;> intro hh_ <;> first | exact hh_.elim | omega)
    refine ev_ite (fun h4 => key _ (by simp [h4])) (fun h4 => key _ (by simp [h4]))
theorem spec_ProgOk_ev (l : List S95) (hn : l.length ≤ 9223372036854775807) : ∃ v, Ev (fun k => spec_ProgOk.f k l) v ∧ (v = true ↔ progOk l) := by
  by_cases h10 : l.length ≤ 10
  · have key := ev_loop l.length (fun i k => spec_ProgOk.l0 k l (i : Int)) (fun i => decide (∀ b ∈ l.drop i, insIn b)) (fun i hi ih => by
      refine Ev.step (fun k => by rw [spec_ProgOk.l0]) ?_
      refine ev_pos (lt_cast hi) (ev_pos (nn_cast i) ?_)
      rw [rdi_Ins hi, wrap_succ hi hn]
      refine (l2Ins_ev l[i]).bind ?_
      have hs : (∀ b ∈ l.drop i, insIn b) ↔ insIn l[i] ∧ ∀ b ∈ l.drop (i + 1), insIn b := mem_split (p := insIn) hi
      simp only [hs, decide_eq_true_eq]
      by_cases h1 : insIn l[i]
      · simp only [h1, true_and]
        exact ev_pos trivial ih
      · simp only [h1, false_and, decide_false]
        exact ev_neg (fun h => h) (ev_now _)) (by
      refine Ev.step (fun k => by rw [spec_ProgOk.l0]) ?_
      refine ev_neg (by omega) ?_
      simp only [List.drop_length, List.not_mem_nil, false_implies, implies_true, decide_true]
      exact ev_now _) 0 (Nat.zero_le _)
    exact ⟨_, Ev.congr (fun k => by unfold spec_ProgOk.f; exact if_neg (by omega)) key, by simp [progOk, h10]⟩
  · refine ⟨false, ?_, by simp [progOk]; omega⟩
    unfold spec_ProgOk.f
    exact ev_pos (by omega) (ev_now _)

theorem l3At_at (b : Int) (y : List S82) (hn : y.length ≤ 9223372036854775807) : Ev (fun k => spec_l3At.f k y b) (atP b y 0) := by
  have key : ∀ d i, i + d = y.length → Ev (fun k => spec_l3At.l0 k y b (i : Int)) (atP b (y.drop i) (i : Int)) := by
    intro d
    induction d with
    | zero =>
      intro i hi
      obtain rfl : i = y.length := by omega
      rw [List.drop_length]
      refine Ev.step (fun k => by rw [spec_l3At.l0]) ?_
      exact ev_neg (by omega) (ev_now _)
    | succ d ih =>
      intro i hd
      have hi : i < y.length := by omega
      rw [List.drop_eq_getElem_cons hi]
      unfold atP
      refine Ev.step (fun k => by rw [spec_l3At.l0]) ?_
      refine ev_pos (lt_cast hi) (ev_pos (nn_cast i) ?_)
      rw [rdi_Put hi, wrap_succ hi hn]
      by_cases c : (y[i]).f0 = b
      · rw [if_pos c]; exact ev_pos c (ev_now _)
      · rw [if_neg c]; exact ev_neg c (ih (i + 1) (by omega))
  unfold spec_l3At.f
  simpa using key y.length 0 (by omega)
theorem l3Saw_at (b : Int) (x : List S39) (hn : x.length ≤ 9223372036854775807) : Ev (fun k => spec_l3Saw.f k x b) (decide (0 ≤ atR b x 0)) := by
  have key : ∀ d i, i + d = x.length → Ev (fun k => spec_l3Saw.l0 k x b (i : Int)) (decide (0 ≤ atR b (x.drop i) (i : Int))) := by
    intro d
    induction d with
    | zero =>
      intro i hi
      obtain rfl : i = x.length := by omega
      rw [List.drop_length]
      refine Ev.step (fun k => by rw [spec_l3Saw.l0]) ?_
      exact ev_neg (by omega) (ev_now _)
    | succ d ih =>
      intro i hd
      have hi : i < x.length := by omega
      rw [List.drop_eq_getElem_cons hi]
      unfold atR
      refine Ev.step (fun k => by rw [spec_l3Saw.l0]) ?_
      refine ev_pos (lt_cast hi) (ev_pos (nn_cast i) ?_)
      rw [rdi_Read hi, wrap_succ hi hn]
      by_cases c : (x[i]).f0 = b
      · rw [if_pos c]; simp only [nn_cast, decide_true]; exact ev_pos c (ev_now _)
      · rw [if_neg c]; exact ev_neg c (ih (i + 1) (by omega))
  unfold spec_l3Saw.f
  simpa using key x.length 0 (by omega)
theorem l3Look_ev (l : List S37) (x : List S39) (y : List S82) (a c b : Int) (hl : l.length = 4) (h0 : 0 ≤ b) (h3 : b ≤ 3) (hx : x.length ≤ 1000) (hy : y.length ≤ 1000) :
    Ev (fun k => spec_l3Look.f k l x y a c b) ((look l x y b).1, (look l x y b).2, y, a, c) := by
  unfold spec_l3Look.f
  refine (l3At_at b y (by omega)).bind ?_
  by_cases e : 0 ≤ atP b y 0
  · have hL : look l x y b = ((rd_T82 y (atP b y 0)).f1, x) := by unfold look; rw [if_pos e]
    rw [hL]
    exact ev_pos e (ev_pos e (ev_pos (atP_lt b y e) (ev_now _)))
  · refine ev_neg e ((l3Saw_at b x (by omega)).bind ?_)
    by_cases d : 0 ≤ atR b x 0
    · have hL : look l x y b = ((rd_T37 l b).f1, x) := by unfold look; rw [if_neg e, if_pos d]
      rw [hL]
      exact ev_pos (by simpa using d) (ev_pos h0 (ev_pos (by omega) (ev_now _)))
    · have hL : look l x y b = ((rd_T37 l b).f1, x ++ [⟨b, (rd_T37 l b).f0⟩]) := by unfold look; rw [if_neg e, if_neg d]
      rw [hL]
      exact ev_neg (by simpa using d) (ev_pos h0 (ev_pos (by omega) (ev_pos (by omega) (ev_now _))))
theorem l3Put_ev (x : List S39) (y : List S82) (a c b v : Int) (hy : y.length ≤ 1000) : Ev (fun k => spec_l3Put.f k x y a c b v) (x, putP y b v, a, c) := by
  unfold spec_l3Put.f
  refine (l3At_at b y (by omega)).bind ?_
  by_cases e : 0 ≤ atP b y 0
  · have hL : putP y b v = y.set (atP b y 0).toNat ⟨(rd_T82 y (atP b y 0)).f0, v⟩ := by unfold putP; rw [if_pos e]
    rw [hL]
    exact ev_pos e (ev_pos e (ev_pos (atP_lt b y e) (ev_now _)))
  · have hL : putP y b v = y ++ [⟨b, v⟩] := by unfold putP; rw [if_neg e]
    rw [hL]
    exact ev_neg e (ev_pos (by omega) (ev_now _))
/-- A run that has ended with a code gives no puts. -/
theorem sRun_end (l : List S37) (p : List S95) (g : List Int) (i : Int) (x : List S39) (y : List S82) (a c : Int) (hc : c ≠ 0) : Ev (fun k => spec_ExecRun.l0 k l p g i x y a c) (x, [], a, c) := by
  have j2 : Ev (fun k => spec_ExecRun.j2 k l p g i false x y a c) (x, [], a, c) := by
    refine Ev.step (fun k => by rw [spec_ExecRun.j2]) ?_
    exact ev_neg (by simp) (ev_neg hc (ev_now _))
  refine Ev.step (fun k => by rw [spec_ExecRun.l0]) ?_
  refine ev_ite (fun _ => ?_) (fun _ => j2)
  have e : (c == 0) = false := by simpa using hc
  rw [e]; exact j2
theorem sRun_ev (l : List S37) (p : List S95) (hl : boxOk l) (hp : progOk p) : ∀ (f i : Nat) (g : List Int) (x : List S39) (y : List S82), Mid i g x y → i ≤ 30 → p.length < i + f →
    Ev (fun k => spec_ExecRun.l0 k l p g (i : Int) x y 0 0) (runP l p f i g x y) := by
  intro f
  induction f with
  | zero =>
    intro i g x y hM hi hf
    refine Ev.step (fun k => by rw [spec_ExecRun.l0]) ?_
    refine ev_neg (by omega) ?_
    refine Ev.step (fun k => by rw [spec_ExecRun.j2]) ?_
    exact ev_neg (by simp) (ev_pos rfl (ev_pos (by have := hM.len; omega) (ev_now _)))
  | succ f ih =>
    intro i g x y hM hi hf
    unfold runP
    refine Ev.step (fun k => by rw [spec_ExecRun.l0]) ?_
    by_cases hin : i < p.length
    case neg =>
      rw [if_neg hin]
      refine ev_neg (by omega) ?_
      refine Ev.step (fun k => by rw [spec_ExecRun.j2]) ?_
      exact ev_neg (by simp) (ev_pos rfl (ev_pos (by have := hM.len; omega) (ev_now _)))
    rw [if_pos hin]
    refine ev_pos (lt_cast hin) ?_
    refine Ev.step (fun k => by rw [spec_ExecRun.j2]) ?_
    refine ev_pos (by simp) (ev_pos (nn_cast i) (ev_pos (lt_cast hin) ?_))
    have hs := hp.2 _ (List.getElem_mem hin)
    rw [← rdi_Ins hin] at hs
    have hw : wrap64 ((i : Int) + 1) = ((i + 1 : Nat) : Int) := wrap_succ hin (by have := hp.1; omega)
    rw [hw]
    generalize rd_T95 p (i : Int) = s at hs
    simp only
    have h10 := hp.1
    unfold insIn at hs
    have g4 := hM.len
    -- a step that is no ProgLess: what it leaves, and its check
    have chk : ∀ (g' : List Int) (x' : List S39) (y' : List S82), g'.length = 4 → (s.f0 ≠ 2 → 0 ≤ s.f1 ∧ s.f1 ≤ 3) → (s.f0 ≠ 2 → inR (rd g' s.f1)) → Ev (fun k => spec_l3Step.j0 k g' x' y' 0 0 s.f0 s.f1 s.f2 s.f3) (x', y', 0, 0, g') := by
      intro g' x' y' hg hr hin
      refine Ev.step (fun k => by rw [spec_l3Step.j0]) ?_
      refine ev_ite (fun _ => ev_now _) (fun c => ?_)
      obtain ⟨r0, r1⟩ := hr c
      refine ev_pos r0 (ev_pos (by omega) (ev_get (l1Num_dec _) ?_))
      exact ev_pos (by simpa [inR] using hin c) (ev_now _)
    have bad : ∀ (g' : List Int) (c : Int), g'.length = 4 → s.f0 ≠ 2 → (0 ≤ s.f1 ∧ s.f1 ≤ 3) → ¬ inR (rd g' s.f1) → Ev (fun k => spec_l3Step.j0 k g' x y 0 c s.f0 s.f1 s.f2 s.f3) (x, y, 0, 2, g') := by
      intro g' c hg h2 hr hin
      refine Ev.step (fun k => by rw [spec_l3Step.j0]) ?_
      refine ev_neg h2 (ev_pos hr.1 (ev_pos (by omega) (ev_get (l1Num_dec _) ?_)))
      exact ev_neg (by simpa [inR] using hin) (ev_now _)
    have rset : ∀ v, 0 ≤ s.f1 → s.f1 ≤ 3 → rd (g.set s.f1.toNat v) s.f1 = v := by
      intro v a b
      unfold rd
      rw [List.getD_eq_getElem?_getD, List.getElem?_set_self (by omega)]
      rfl
    have go : ∀ (g' : List Int) (x' : List S39) (y' : List S82), g'.length = 4 → (∀ v ∈ g', inR v) → (∀ q ∈ y', inR q.f1) → x'.length ≤ i + 1 → y'.length ≤ i + 1 → Ev (fun k => spec_ExecRun.l0 k l p g' ((i + 1 : Nat) : Int) x' y' 0 0) (runP l p f (i + 1) g' x' y') :=
      fun _ _ _ a b c d e => ih (i + 1) _ _ _ ⟨a, b, c, d, e⟩ (by omega) (by omega)
    have xl := hM.xl
    have yl := hM.yl
    by_cases k6 : s.f0 = 6
    · rw [if_neg (by omega), if_neg (by omega), if_neg (by omega), if_neg (by omega), if_neg (by omega), if_pos k6]
      refine ev_pos k6 (ev_pos (by omega) (ev_pos (by omega) (ev_pos (by omega) (ev_pos (by omega) ?_))))
      by_cases c : rd g s.f1 < rd g s.f2
      · rw [if_pos c]
        have hw2 : wrap64 (wrap64 ((i : Int) + s.f3) + 1) = ((i + s.f3.toNat + 1 : Nat) : Int) := by
          rw [wrap_id (a := (i : Int) + s.f3) (by omega) (by omega), wrap_id (by omega) (by omega)]; omega
        refine ev_pos c ?_
        rw [hw2]
        exact ih _ _ _ _ ⟨g4, hM.reg, hM.put, by omega, by omega⟩ (by omega) (by omega)
      · rw [if_neg c]
        exact ev_neg c (ih _ _ _ _ ⟨g4, hM.reg, hM.put, by omega, by omega⟩ (by omega) (by omega))
    refine ev_neg k6 ?_
    unfold spec_l3Step.f
    by_cases k1 : s.f0 = 1
    · rw [if_pos k1]
      have hlk := look_inR hl x hM.put s.f2
      refine (ev_pos k1 ((l3Look_ev l x y 0 0 s.f2 hl.1 (by omega) (by omega) (by omega) (by omega)).bind (ev_pos (by omega) (ev_pos (by omega) (chk (g.set s.f1.toNat (look l x y s.f2).1) (look l x y s.f2).2 y (by rw [List.length_set]; exact g4) (fun _ => by omega) (fun _ => by rw [rset _ (by omega) (by omega)]; exact hlk)))))).bind ?_
      exact go (g.set s.f1.toNat (look l x y s.f2).1) (look l x y s.f2).2 y (by rw [List.length_set]; exact g4) (inR_set hM.reg hlk) hM.put (by have := look_len l x y s.f2; omega) (by omega)
    rw [if_neg k1]
    by_cases k2 : s.f0 = 2
    · rw [if_pos k2]
      refine (ev_neg k1 (ev_pos k2 (ev_pos (by omega) (ev_pos (by omega) ((l3Put_ev x y 0 0 s.f1 (rd g s.f2) (by omega)).bind (chk g x (putP y s.f1 (rd g s.f2)) g4 (fun h => absurd k2 h) (fun h => absurd k2 h))))))).bind ?_
      exact go g x (putP y s.f1 (rd g s.f2)) g4 hM.reg (putP_inR hM.put _ (rd_inR hM.reg _)) (by omega) (by have := putP_len y s.f1 (rd g s.f2); omega)
    rw [if_neg k2]
    by_cases k3 : s.f0 = 3
    · rw [if_pos k3]
      have hv : inR s.f3 := by unfold inR; omega
      refine (ev_neg k1 (ev_neg k2 (ev_pos k3 (ev_pos (by omega) (ev_pos (by omega) (chk (g.set s.f1.toNat s.f3) x y (by rw [List.length_set]; exact g4) (fun _ => by omega) (fun _ => by rw [rset _ (by omega) (by omega)]; exact hv))))))).bind ?_
      exact go (g.set s.f1.toNat s.f3) x y (by rw [List.length_set]; exact g4) (inR_set hM.reg hv) hM.put (by omega) (by omega)
    rw [if_neg k3]
    have ra := rd_inR hM.reg s.f1
    have rb := rd_inR hM.reg s.f2
    unfold inR at ra rb
    by_cases k4 : s.f0 = 4
    · rw [if_pos k4]
      have hw3 : wrap64 (rd g s.f1 + rd g s.f2) = rd g s.f1 + rd g s.f2 := wrap_id (by omega) (by omega)
      rw [hw3]
      by_cases hv : inR (rd g s.f1 + rd g s.f2)
      · rw [if_pos hv]
        refine (ev_neg k1 (ev_neg k2 (ev_neg k3 (ev_pos k4 (ev_pos (by omega) (ev_pos (by omega) (ev_pos (by omega) (ev_pos (by omega) (chk (g.set s.f1.toNat (rd g s.f1 + rd g s.f2)) x y (by rw [List.length_set]; exact g4) (fun _ => by omega) (fun _ => by rw [rset _ (by omega) (by omega)]; exact hv)))))))))).bind ?_
        exact go (g.set s.f1.toNat (rd g s.f1 + rd g s.f2)) x y (by rw [List.length_set]; exact g4) (inR_set hM.reg hv) hM.put (by omega) (by omega)
      · rw [if_neg hv]
        refine (ev_neg k1 (ev_neg k2 (ev_neg k3 (ev_pos k4 (ev_pos (by omega) (ev_pos (by omega) (ev_pos (by omega) (ev_pos (by omega) (bad (g.set s.f1.toNat (rd g s.f1 + rd g s.f2)) 0 (by rw [List.length_set]; exact g4) k2 (by omega) (by rw [rset _ (by omega) (by omega)]; exact hv)))))))))).bind ?_
        exact sRun_end l p _ _ x y 0 2 (by omega)
    rw [if_neg k4]
    by_cases k5 : s.f0 = 5
    · rw [if_pos k5]
      have hw3 : wrap64 (rd g s.f1 - rd g s.f2) = rd g s.f1 - rd g s.f2 := wrap_id (by omega) (by omega)
      rw [hw3]
      by_cases hv : inR (rd g s.f1 - rd g s.f2)
      · rw [if_pos hv]
        refine (ev_neg k1 (ev_neg k2 (ev_neg k3 (ev_neg k4 (ev_pos k5 (ev_pos (by omega) (ev_pos (by omega) (ev_pos (by omega) (ev_pos (by omega) (chk (g.set s.f1.toNat (rd g s.f1 - rd g s.f2)) x y (by rw [List.length_set]; exact g4) (fun _ => by omega) (fun _ => by rw [rset _ (by omega) (by omega)]; exact hv))))))))))).bind ?_
        exact go (g.set s.f1.toNat (rd g s.f1 - rd g s.f2)) x y (by rw [List.length_set]; exact g4) (inR_set hM.reg hv) hM.put (by omega) (by omega)
      · rw [if_neg hv]
        refine (ev_neg k1 (ev_neg k2 (ev_neg k3 (ev_neg k4 (ev_pos k5 (ev_pos (by omega) (ev_pos (by omega) (ev_pos (by omega) (ev_pos (by omega) (bad (g.set s.f1.toNat (rd g s.f1 - rd g s.f2)) 0 (by rw [List.length_set]; exact g4) k2 (by omega) (by rw [rset _ (by omega) (by omega)]; exact hv))))))))))).bind ?_
        exact sRun_end l p _ _ x y 0 2 (by omega)
    rw [if_neg k5, if_neg k6]
    have k7 : s.f0 = 7 := by omega
    have fin : Ev (fun k => spec_l3Step.j0 k g x y 0 1 s.f0 s.f1 s.f2 s.f3) (x, y, 0, 1, g) := by
      refine Ev.step (fun k => by rw [spec_l3Step.j0]) ?_
      refine ev_neg k2 (ev_pos (by omega) (ev_pos (by omega) (ev_get (l1Num_dec _) ?_)))
      exact ev_pos (by simpa using ra) (ev_now _)
    refine (ev_neg k1 (ev_neg k2 (ev_neg k3 (ev_neg k4 (ev_neg k5 (ev_pos k7 fin)))))).bind ?_
    exact sRun_end l p _ _ x y 0 1 (by omega)

theorem in_some (a b c : Int) : ∃ v, impl_in.f a b c = some v ∧ (v = true ↔ b ≤ a ∧ a ≤ c) := by
  unfold impl_in.f
  by_cases h : a ≥ b
  · exact ⟨decide (a ≤ c), by simp [h], by simp; omega⟩
  · exact ⟨false, by simp [h], by simp; omega⟩
theorem impl_BoxOk_ev (l : List S37) (hn : l.length ≤ 9223372036854775807) : ∃ v, Ev (fun k => impl_BoxOk.f k l) v ∧ (v = true ↔ boxOk l) := by
  classical
  have key := ev_loop l.length (fun i k => impl_BoxOk.l0 k l l (l.length : Int) (i : Int)) (fun i => decide ((∀ b ∈ l.drop i, boxIn b) ∧ l.length = 4)) (fun i hi ih => by
      refine Ev.step (fun k => by rw [impl_BoxOk.l0]) ?_
      refine ev_pos (lt_cast hi) (ev_pos (nn_cast i) (ev_pos (lt_cast hi) ?_))
      rw [rd_box hi, wrap_succ hi hn]
      obtain ⟨v, hv, hvi⟩ := in_some (l[i]).f0 0 1000000
      obtain ⟨u, hu, hui⟩ := in_some (l[i]).f1 (-1000000) 1000000
      have hs := mem_split (p := boxIn) hi
      refine ev_get hv ?_
      by_cases h1 : v = true
      · refine ev_pos h1 (ev_get hu ?_)
        by_cases h2 : u = true
        · have : boxIn l[i] := by have := hvi.1 h1; have := hui.1 h2; unfold boxIn; omega
          simp only [hs, this, true_and]
          exact ev_pos h2 ih
        · have : ¬ boxIn l[i] := fun h => h2 (hui.2 (by unfold boxIn at h; omega))
          simp only [hs, this, false_and, decide_false]
          exact ev_neg h2 (ev_now _)
      · have : ¬ boxIn l[i] := fun h => h1 (hvi.2 (by unfold boxIn at h; omega))
        simp only [hs, this, false_and, decide_false]
        exact ev_neg h1 (ev_now _)) (by
      refine Ev.step (fun k => by rw [impl_BoxOk.l0]) ?_
      refine ev_neg (by omega) ?_
      have : ((l.length : Int) == 4) = decide ((∀ b ∈ l.drop l.length, boxIn b) ∧ l.length = 4) := by
        rw [List.drop_length]
        by_cases h : l.length = 4
        · simp [h]
        · have : (l.length : Int) ≠ 4 := by omega
          simp [h, this]
      rw [← this]
      exact ev_now _) 0 (Nat.zero_le _)
  exact ⟨_, Ev.congr (fun k => by unfold impl_BoxOk.f; exact rfl) key, by simp [boxOk, and_comm]⟩

theorem in_dec (a b c : Int) : impl_in.f a b c = some (decide (b ≤ a ∧ a ≤ c)) := by
  unfold impl_in.f
  by_cases h : a ≥ b
  · rw [if_pos h]; congr 1; rw [Bool.eq_iff_iff]; simp; omega
  · rw [if_neg h]; congr 1; rw [Bool.eq_iff_iff]; simp; omega

open Classical in
/-- What a program does on boxes. -/
noncomputable def runOf (l : List S37) (p : List S95) : RunT := if boxOk l ∧ progOk p then runP l p 12 0 [0, 0, 0, 0] [] [] else ([], [], 0, 3)
theorem mid0 : Mid 0 [0, 0, 0, 0] ([] : List S39) ([] : List S82) := ⟨rfl, by simp [inR], by simp, by simp, by simp⟩
theorem spec_ExecRun_ev (l : List S37) (p : List S95) (hl : l.length ≤ 9223372036854775807) (hp : p.length ≤ 9223372036854775807) : Ev (fun k => spec_ExecRun.f k l p) (runOf l p) := by
  obtain ⟨u, hu, hui⟩ := spec_BoxOk_ev l hl
  obtain ⟨w, hw, hwi⟩ := spec_ProgOk_ev p hp
  have yes : Ev (fun k => spec_ExecRun.j0 k l p true) ([], [], 0, 3) := by
    refine Ev.step (fun k => by rw [spec_ExecRun.j0]) ?_
    exact ev_pos rfl (ev_now _)
  unfold spec_ExecRun.f runOf
  rw [← hui, ← hwi]
  cases u with
  | false => rw [if_neg (by simp)]; exact hu.bind (ev_neg (by simp) yes)
  | true =>
    cases w with
    | false => rw [if_neg (by simp)]; exact hu.bind (ev_pos rfl (hw.bind yes))
    | true =>
      rw [if_pos ⟨rfl, rfl⟩]
      refine hu.bind (ev_pos rfl (hw.bind ?_))
      refine Ev.step (fun k => by rw [spec_ExecRun.j0]) ?_
      refine ev_neg (by simp) (ev_pos (by omega) ?_)
      exact sRun_ev l p (hui.1 rfl) (hwi.1 rfl) 12 0 _ _ _ mid0 (by omega) (by have := (hwi.1 rfl).1; omega)
theorem okFrom_iff {α : Type} (key : α → Int) (good : α → Prop) (l : List α) : okFrom key good l 0 ↔ (∀ e ∈ l, (0 ≤ key e ∧ key e ≤ 3) ∧ good e) ∧ (l.map key).Nodup := by
  constructor
  · intro h
    refine ⟨fun e he => ?_, ?_⟩
    · obtain ⟨j, hj, rfl⟩ := List.mem_iff_getElem.1 he
      have := h j hj (Nat.zero_le _)
      exact ⟨this.1, this.2.1⟩
    · rw [List.nodup_iff_pairwise_ne, List.pairwise_iff_getElem]
      intro i j hi hj hij
      simp only [List.length_map] at hi hj
      simp only [List.getElem_map]
      intro e
      refine (h j hj (Nat.zero_le _)).2.2 ?_
      rw [← e]
      exact List.mem_map.2 ⟨l[i], List.mem_take_iff_getElem.2 ⟨i, by omega, rfl⟩, rfl⟩
  · rintro ⟨h, hn⟩ j hj _
    have := h _ (List.getElem_mem hj)
    refine ⟨this.1, this.2, fun hm => ?_⟩
    obtain ⟨e, he, hk⟩ := List.mem_map.1 hm
    obtain ⟨i, hi, rfl⟩ := List.mem_take_iff_getElem.1 he
    rw [List.nodup_iff_pairwise_ne, List.pairwise_iff_getElem] at hn
    have := hn i j (by simp; omega) (by simpa using hj) (by omega)
    simp only [List.getElem_map] at this
    exact this hk
def putsIn (y : List S82) : Prop := (∀ e ∈ y, (0 ≤ pKey e ∧ pKey e ≤ 3) ∧ pGood e) ∧ (y.map pKey).Nodup
theorem mn_cases (a b : Int) : (b ≤ a ∧ mn a b = b) ∨ (a ≤ b ∧ mn a b = a) := by unfold mn; split <;> omega
theorem box_rd {l : List S37} (h : boxOk l) {b : Int} (b0 : 0 ≤ b) (b3 : b ≤ 3) : boxIn (rd_T37 l b) := by
  have h4 := h.1
  obtain ⟨n, rfl⟩ : ∃ n : Nat, b = (n : Int) := ⟨b.toNat, by omega⟩
  rw [rd_box (by omega)]
  exact h.2 _ (List.getElem_mem _)
theorem put1_ok {l : List S37} {p : S82} (hl : boxOk l) (h0 : 0 ≤ p.f0) (h3 : p.f0 ≤ 3) (hg : pGood p) : boxOk (put1 l p) := by
  refine ⟨by rw [put1_len]; exact hl.1, fun b hb => ?_⟩
  unfold put1 at hb
  rcases List.mem_or_eq_of_mem_set hb with h | h
  · exact hl.2 b h
  · have hr := box_rd hl h0 h3
    rw [h]
    unfold boxIn at hr ⊢
    unfold pGood at hg
    have hw : wrap64 ((rd_T37 l p.f0).f0 + 1) = (rd_T37 l p.f0).f0 + 1 := wrap_id (by omega) (by omega)
    simp only
    rw [hw]
    clear hw
    rcases mn_cases 1000000 ((rd_T37 l p.f0).f0 + 1) with ⟨_, e⟩ | ⟨_, e⟩ <;> rw [e] <;> omega
theorem puts_ok : ∀ (y : List S82) (l : List S37), boxOk l → (∀ e ∈ y, (0 ≤ pKey e ∧ pKey e ≤ 3) ∧ pGood e) → boxOk (y.foldl put1 l) := by
  intro y
  induction y with
  | nil => intro l h _; exact h
  | cons p r ih =>
    intro l h hy
    have hp := hy p (by simp)
    unfold pKey at hp
    rw [List.foldl_cons]
    exact ih _ (put1_ok h hp.1.1 hp.1.2 hp.2) (fun e he => hy e (by simp [he]))
theorem runOk_putsIn {x : List S39} {y : List S82} {a b : Int} (h : runOk x y a b) : putsIn y := (okFrom_iff _ _ _).1 h.2.2.2.2.2
theorem capply_l1 (y : List S84) (a : Int) (x : List S37) (p q c v : Int) (hn : y.length ≤ 1000000000000) : ∀ (d i : Nat) (o : List S84) (b : Bool), i + d = y.length → o.length + 2 * d + 1 ≤ 3000000000000 →
    Ev (fun k => impl_CertApply.l1 k o b y (y.length : Int) (i : Int) a x p q c v) (a, x, o ++ putD ⟨⟨p, q⟩, c, v⟩ b (y.drop i), c) := by
  intro d
  induction d with
  | zero =>
    intro i o b hi ho
    obtain rfl : i = y.length := by omega
    refine Ev.step (fun k => by rw [impl_CertApply.l1]) ?_
    refine ev_neg (by omega) ?_
    rw [List.drop_length]
    cases b
    · refine ev_neg (by simp) (ev_pos (by omega) (ev_get (if_pos (by simp only [List.length_append, List.length_singleton]; omega)) ?_))
      simp only [putD, Bool.false_eq_true, if_false]; exact ev_now _
    · refine ev_pos rfl (ev_get (if_pos (by omega)) ?_)
      simp only [putD, if_true, List.append_nil]; exact ev_now _
  | succ d ih =>
    intro i o b hd ho
    have hi : i < y.length := by omega
    have hw := wrap_succ hi (n := y.length) (by omega)
    rw [List.drop_eq_getElem_cons hi]
    have tail : ∀ (o : List S84) (b b' : Bool), b' = b → o.length + 2 * d + 2 ≤ 3000000000000 → Ev (fun k => impl_CertApply.j5 k o b y (y.length : Int) (i : Int) false a x p q c v (y[i]).f0.f0 (y[i]).f0.f1 (y[i]).f1 (y[i]).f2) (a, x, o ++ ((if (y[i]).f0.f0 = p then [] else [y[i]]) ++ putD ⟨⟨p, q⟩, c, v⟩ b' (y.drop (i + 1))), c) := by
      intro o b b' hb' ho
      subst hb'
      refine Ev.step (fun k => by rw [impl_CertApply.j5]) ?_
      refine ev_neg (by simp) ?_
      rw [hw]
      refine ev_ite (fun e => ?_) (fun e => ?_)
      · rw [if_pos e, List.nil_append]; exact ih (i + 1) o _ (by omega) (by omega)
      · rw [if_neg e, ← List.append_assoc]
        exact ev_pos (by omega) (ih (i + 1) (o ++ [y[i]]) _ (by omega) (by simp only [List.length_append, List.length_singleton]; omega))
    refine Ev.step (fun k => by rw [impl_CertApply.l1]) ?_
    refine ev_pos (lt_cast hi) (ev_pos (nn_cast i) (ev_pos (lt_cast hi) ?_))
    rw [rdi_Done hi]
    unfold putD
    cases b with
    | true =>
      refine ev_pos rfl ?_
      have := tail o true true rfl (by omega)
      simpa using this
    | false =>
      refine ev_neg (by simp) ?_
      by_cases c1 : p ≤ (y[i]).f0.f0
      · have e1 : decide ((y[i]).f0.f0 ≥ p) = true := decide_eq_true c1
        rw [e1]
        refine Ev.step (fun k => by rw [impl_CertApply.j5]) ?_
        refine ev_pos rfl (ev_pos (by omega) (ev_get rfl ?_))
        rw [hw]
        simp only [c1, and_self, if_true, decide_true, Bool.or_true]
        refine ev_ite (fun e => ?_) (fun e => ?_)
        · rw [if_pos e, List.nil_append, ← List.append_assoc]; exact ih (i + 1) (o ++ [⟨⟨p, q⟩, c, v⟩]) true (by omega) (by simp only [List.length_append, List.length_singleton]; omega)
        · rw [if_neg e, ← List.append_assoc, ← List.append_assoc]
          refine ev_pos (by simp only [List.length_append, List.length_singleton]; omega) ?_
          exact ih (i + 1) (o ++ [⟨⟨p, q⟩, c, v⟩] ++ [y[i]]) true (by omega) (by simp only [List.length_append, List.length_singleton]; omega)
      · have e1 : decide ((y[i]).f0.f0 ≥ p) = false := decide_eq_false c1
        rw [e1]
        have := tail o false false rfl (by omega)
        simpa [c1] using this

theorem ExecOk_l1 (y : List S82) (hm : y.length ≤ 9223372036854775807) : ∃ v, Ev (fun k => impl_ExecOk.l1 k y (y.length : Int) 0 false false false false) v ∧ (v = true ↔ okFrom pKey pGood y 0) := by
  classical
  have key := ev_loop y.length (fun i k => impl_ExecOk.l1 k y (y.length : Int) (i : Int) (namedIn pKey y i 0) (namedIn pKey y i 1) (namedIn pKey y i 2) (namedIn pKey y i 3)) (fun i => decide (okFrom pKey pGood y i)) (fun i hi ih => by
      refine Ev.step (fun k => by rw [impl_ExecOk.l1]) ?_
      refine ev_pos (lt_cast hi) (ev_pos (nn_cast i) (ev_pos (lt_cast hi) ?_))
      rw [rdi_Put hi, wrap_succ hi hm]
      simp only [okFrom_step pKey pGood y hi]
      refine ev_get (in_dec _ _ _) ?_
      by_cases h1 : 0 ≤ (y[i]).f0 ∧ (y[i]).f0 ≤ 3
      case neg =>
        have : ¬ (0 ≤ pKey y[i] ∧ pKey y[i] ≤ 3) := h1
        simp only [this, false_and, decide_false]
        exact ev_neg (by simpa using h1) (ev_now _)
      refine ev_pos (by simpa using h1) (ev_pos h1.1 (ev_pos (by omega) ?_))
      rw [rd_four (namedIn pKey y i) _ h1.1 h1.2]
      refine ev_ite (fun c => ?_) (fun c => ev_get (in_dec _ _ _) ?_)
      · rw [namedIn_iff] at c
        have c2 : pKey y[i] ∈ (y.take i).map pKey := c
        simp only [c2, not_true, and_false, false_and, decide_false]
        exact ev_now _
      · rw [namedIn_iff] at c
        have c2 : ¬ pKey y[i] ∈ (y.take i).map pKey := c
        have h2 : 0 ≤ pKey y[i] ∧ pKey y[i] ≤ 3 := h1
        by_cases g : pGood y[i]
        · simp only [h2, g, c2, not_false_eq_true, and_self, true_and]
          refine ev_pos (by simpa [pGood] using g) ?_
          have e : ∀ b, ixB (y[i]).f0 b true (namedIn pKey y i b) = namedIn pKey y (i + 1) b := namedIn_succ pKey y hi
          rw [e, e, e, e]
          exact ih
        · simp only [g, false_and, and_false, decide_false]
          exact ev_neg (by simpa [pGood] using g) (ev_now _)) (by
      refine Ev.step (fun k => by rw [impl_ExecOk.l1]) ?_
      refine ev_neg (by omega) ?_
      simp only [okFrom_end pKey pGood y, decide_true]
      exact ev_now _) 0 (Nat.zero_le _)
  simp only [namedIn_zero] at key
  exact ⟨_, key, by simp⟩
theorem ExecOk_l0 (x : List S39) (y : List S82) (a b : Int) (hn : x.length ≤ 9223372036854775807) (hm : y.length ≤ 9223372036854775807) :
    ∃ v, Ev (fun k => impl_ExecOk.l0 k x (x.length : Int) 0 x y a b false false false false false false false false) v ∧ (v = true ↔ okFrom rKey rGood x 0 ∧ okFrom pKey pGood y 0) := by
  classical
  obtain ⟨u, hu, hui⟩ := ExecOk_l1 y hm
  have key := ev_loop x.length (fun i k => impl_ExecOk.l0 k x (x.length : Int) (i : Int) x y a b (namedIn rKey x i 0) (namedIn rKey x i 1) (namedIn rKey x i 2) (namedIn rKey x i 3) false false false false) (fun i => decide (okFrom rKey rGood x i ∧ okFrom pKey pGood y 0)) (fun i hi ih => by
      refine Ev.step (fun k => by rw [impl_ExecOk.l0]) ?_
      refine ev_pos (lt_cast hi) (ev_pos (nn_cast i) (ev_pos (lt_cast hi) ?_))
      rw [rdi_Read hi, wrap_succ hi hn]
      simp only [okFrom_step rKey rGood x hi]
      refine ev_get (in_dec _ _ _) ?_
      by_cases h1 : 0 ≤ (x[i]).f0 ∧ (x[i]).f0 ≤ 3
      case neg =>
        have : ¬ (0 ≤ rKey x[i] ∧ rKey x[i] ≤ 3) := h1
        simp only [this, false_and, decide_false]
        exact ev_neg (by simpa using h1) (ev_now _)
      refine ev_pos (by simpa using h1) (ev_pos h1.1 (ev_pos (by omega) ?_))
      rw [rd_four (namedIn rKey x i) _ h1.1 h1.2]
      refine ev_ite (fun c => ?_) (fun c => ev_get (in_dec _ _ _) ?_)
      · rw [namedIn_iff] at c
        have c2 : rKey x[i] ∈ (x.take i).map rKey := c
        simp only [c2, not_true, and_false, false_and, decide_false]
        exact ev_now _
      · rw [namedIn_iff] at c
        have c2 : ¬ rKey x[i] ∈ (x.take i).map rKey := c
        have h2 : 0 ≤ rKey x[i] ∧ rKey x[i] ≤ 3 := h1
        by_cases g : rGood x[i]
        · simp only [h2, g, c2, not_false_eq_true, and_self, true_and]
          refine ev_pos (by simpa [rGood] using g) ?_
          have e : ∀ b, ixB (x[i]).f0 b true (namedIn rKey x i b) = namedIn rKey x (i + 1) b := namedIn_succ rKey x hi
          rw [e, e, e, e]
          exact ih
        · simp only [g, false_and, and_false, decide_false]
          exact ev_neg (by simpa [rGood] using g) (ev_now _)) (by
      refine Ev.step (fun k => by rw [impl_ExecOk.l0]) ?_
      refine ev_neg (by omega) ?_
      simp only [okFrom_end rKey rGood x, true_and]
      rw [show decide (okFrom pKey pGood y 0) = u from Bool.eq_iff_iff.2 (by rw [hui]; simp)]
      exact hu) 0 (Nat.zero_le _)
  simp only [namedIn_zero] at key
  exact ⟨_, key, by simp⟩
theorem impl_ExecOk_ev (x : List S39) (y : List S82) (a b : Int) (hn : x.length ≤ 9223372036854775807) (hm : y.length ≤ 9223372036854775807) : ∃ v, Ev (fun k => impl_ExecOk.f k x y a b) v ∧ (v = true ↔ runOk x y a b) := by
  obtain ⟨u, hu, hui⟩ := ExecOk_l0 x y a b hn hm
  have yes : Ev (fun k => impl_ExecOk.j0 k true x y a b) false := by
    refine Ev.step (fun k => by rw [impl_ExecOk.j0]) ?_
    exact ev_pos rfl (ev_now _)
  have no : Ev (fun k => impl_ExecOk.j0 k false x y a b) u := by
    refine Ev.step (fun k => by rw [impl_ExecOk.j0]) ?_
    exact ev_neg (by simp) hu
  unfold impl_ExecOk.f runOk
  rw [← hui]
  simp only [in_dec, Option.bind_some, decide_eq_true_eq]
  by_cases h1 : 0 ≤ b ∧ b ≤ 3
  case neg => exact ⟨false, ev_neg h1 yes, by simp [h1]⟩
  by_cases h2 : -1000000 ≤ a ∧ a ≤ 1000000
  case neg => exact ⟨false, ev_pos h1 (ev_neg h2 yes), by simp [h2]⟩
  have g3 : ∀ c : Bool, c = decide ((x.length : Int) > 0) → Ev (fun k => impl_ExecOk.j0 k c x y a b) (!c && u) := by
    intro c _
    cases c with
    | true => exact yes
    | false => exact no
  by_cases h3 : b = 0
  · have h4 : ¬ b = 3 := by omega
    exact ⟨u, ev_pos h1 (ev_pos h2 (ev_pos h3 (ev_neg h4 no))), by simp [h1, h2, h3, h4]⟩
  by_cases h5 : a = 0
  case neg => exact ⟨false, ev_pos h1 (ev_pos h2 (ev_neg h3 (ev_neg h5 yes))), by simp [h3, h5]⟩
  by_cases h6 : (y.length : Int) > 0
  · exact ⟨false, ev_pos h1 (ev_pos h2 (ev_neg h3 (ev_pos h5 (ev_pos h6 yes)))), by simp only [Bool.false_eq_true, false_iff]; intro hh; exact (hh.2.2.1 h3).2 h6⟩
  by_cases h4 : b = 3
  · refine ⟨_, ev_pos h1 (ev_pos h2 (ev_neg h3 (ev_pos h5 (ev_neg h6 (ev_pos h4 (g3 _ rfl)))))), ?_⟩
    by_cases h7 : (x.length : Int) > 0
    · simp only [h7, decide_true, Bool.not_true, Bool.false_and, Bool.false_eq_true, false_iff]
      intro hh; exact hh.2.2.2.1 h4 trivial
    · simp only [h7, decide_false, Bool.not_false, Bool.true_and]
      exact ⟨fun hh => ⟨h1, h2, fun _ => ⟨h5, h6⟩, fun _ => fun h => h, hh⟩, fun hh => hh.2.2.2.2⟩
  · exact ⟨u, ev_pos h1 (ev_pos h2 (ev_neg h3 (ev_pos h5 (ev_neg h6 (ev_neg h4 no))))), ⟨fun hh => ⟨h1, h2, fun _ => ⟨h5, h6⟩, fun h => absurd h h4, hh⟩, fun hh => hh.2.2.2.2⟩⟩

theorem impl_ExecFresh_ev (l : List S37) (x : List S39) (y : List S82) (a b : Int) (hl : l.length ≤ 9223372036854775807) (hn : x.length ≤ 9223372036854775807) (hm : y.length ≤ 9223372036854775807) :
    ∃ v, Ev (fun k => impl_ExecFresh.f k l x y a b) v ∧ (v = true ↔ freshOk l x y a b) := by
  classical
  obtain ⟨u, hu, hui⟩ := impl_BoxOk_ev l hl
  obtain ⟨w, hw, hwi⟩ := impl_ExecOk_ev x y a b hn hm
  have yes : Ev (fun k => impl_ExecFresh.j0 k l true x y a b) false := by
    refine Ev.step (fun k => by rw [impl_ExecFresh.j0]) ?_
    exact ev_pos rfl (ev_now _)
  unfold impl_ExecFresh.f
  by_cases h1 : u = true
  case neg => exact ⟨false, hu.bind (ev_neg h1 yes), by simp only [Bool.false_eq_true, false_iff]; exact fun h => h1 (hui.2 h.1)⟩
  cases w with
  | false => exact ⟨false, hu.bind (ev_pos h1 (hw.bind yes)), by simp only [Bool.false_eq_true, false_iff]; exact fun h => by have := hwi.2 h.2.1; cases this⟩
  | true =>
    have hb := hui.1 h1
    have hr := hwi.1 rfl
    have key := ev_loop x.length (fun i k => impl_ExecFresh.l0 k l x (x.length : Int) (i : Int)) (fun i => decide (∀ r ∈ x.drop i, (rd_T37 l r.f0).f0 = r.f1)) (fun i hi ih => by
      have hx := runOk_reads hr i hi
      refine Ev.step (fun k => by rw [impl_ExecFresh.l0]) ?_
      refine ev_pos (lt_cast hi) (ev_pos (nn_cast i) (ev_pos (lt_cast hi) ?_))
      rw [rdi_Read hi, wrap_succ hi hn]
      have hs := mem_split (p := fun r : S39 => (rd_T37 l r.f0).f0 = r.f1) hi
      simp only [hs]
      refine ev_pos hx.1 (ev_pos (by have := hb.1; omega) (ev_ite (fun c => ?_) (fun c => ?_)))
      · simp only [c, true_and]; exact ih
      · simp only [c, false_and, decide_false]; exact ev_now _) (by
      refine Ev.step (fun k => by rw [impl_ExecFresh.l0]) ?_
      refine ev_neg (by omega) ?_
      simp only [List.drop_length, List.not_mem_nil, false_implies, implies_true, decide_true]
      exact ev_now _) 0 (Nat.zero_le _)
    refine ⟨decide (∀ r ∈ x.drop 0, (rd_T37 l r.f0).f0 = r.f1), hu.bind (ev_pos h1 (hw.bind ?_)), ?_⟩
    · refine Ev.step (fun k => by rw [impl_ExecFresh.j0]) ?_
      exact ev_neg (by simp) key
    · rw [decide_eq_true_iff]
      exact ⟨fun h => ⟨hb, hr, h⟩, fun h => h.2.2⟩

theorem impl_ExecDo_ev (l : List S37) (x : List S39) (y : List S82) (a b : Int) (hl : l.length ≤ 1048576) (hn : x.length ≤ 9223372036854775807) (hm : y.length ≤ 9223372036854775807) :
    Ev (fun k => impl_ExecDo.f k l x y a b) (doneBy l x y a b) := by
  obtain ⟨u, hu, hui⟩ := impl_BoxOk_ev l (by omega)
  obtain ⟨w, hw, hwi⟩ := impl_ExecOk_ev x y a b hn hm
  have yes : Ev (fun k => impl_ExecDo.j0 k l true x y a b) [] := by
    refine Ev.step (fun k => by rw [impl_ExecDo.j0]) ?_
    exact ev_pos rfl (ev_now _)
  unfold impl_ExecDo.f doneBy
  rw [← hui, ← hwi]
  cases u with
  | false => rw [if_neg (by simp)]; exact hu.bind (ev_neg (by simp) yes)
  | true =>
    cases w with
    | false => rw [if_neg (by simp)]; exact hu.bind (ev_pos rfl (hw.bind yes))
    | true =>
      rw [if_pos ⟨rfl, rfl⟩]
      have hr := hwi.1 rfl
      have key : ∀ d i (l : List S37), i + d = y.length → l.length = 4 → Ev (fun k => impl_ExecDo.l0 k l y (y.length : Int) (i : Int)) ((y.drop i).foldl put1 l) := by
        intro d
        induction d with
        | zero =>
          intro i l hi h4
          obtain rfl : i = y.length := by omega
          refine Ev.step (fun k => by rw [impl_ExecDo.l0]) ?_
          refine ev_neg (by omega) ?_
          rw [List.drop_length]
          exact ev_now _
        | succ d ih =>
          intro i l hd h4
          have hi : i < y.length := by omega
          have hp := runOk_puts hr i hi
          refine Ev.step (fun k => by rw [impl_ExecDo.l0]) ?_
          refine ev_pos (lt_cast hi) (ev_pos (nn_cast i) (ev_pos (lt_cast hi) ?_))
          rw [rdi_Put hi, wrap_succ hi hm, List.drop_eq_getElem_cons hi, List.foldl_cons]
          refine ev_pos hp.1 (ev_pos (by omega) ?_)
          exact ih (i + 1) _ (by omega) (by rw [List.length_set]; exact h4)
      refine hu.bind (ev_pos rfl (hw.bind ?_))
      refine Ev.step (fun k => by rw [impl_ExecDo.j0]) ?_
      refine ev_neg (by simp) (ev_get (a := l) ?_ ?_)
      · unfold impl_copied_impl_Box.f
        exact if_pos (by omega)
      · simpa using key y.length 0 l (by omega) (hui.1 rfl).1

theorem reqOk_dec (a b : Int) : impl_reqOk.f a b = some (decide (reqIn a b)) := by
  unfold impl_reqOk.f
  simp only [in_dec, Option.bind_some, decide_eq_true_eq]
  repeat' split
  all_goals (congr 1; rw [Bool.eq_iff_iff]; simp only [decide_eq_true_eq, Bool.false_eq_true]; simp only [reqIn]; constructor <;> intro hh_ <;> first | exact hh_.elim | omega)

theorem impl_CertOk_ev (a : Int) (x : List S37) (y : List S84) (hn : x.length ≤ 9223372036854775807) (hm : y.length ≤ 9223372036854775807) : ∃ v, Ev (fun k => impl_CertOk.f k a x y) v ∧ (v = true ↔ stateOk a x y) := by
  classical
  obtain ⟨w, hw, hwi⟩ := impl_BoxOk_ev x hn
  have key := ev_loop y.length (fun i k => impl_CertOk.l0 k y (y.length : Int) (i : Int) a x y) (fun i => decide ((0 ≤ a ∧ a ≤ 40) ∧ boxOk x ∧ donesFrom y i)) (fun i hi ih => by
      refine Ev.step (fun k => by rw [impl_CertOk.l0]) ?_
      refine ev_pos (lt_cast hi) (ev_pos (nn_cast i) (ev_pos (lt_cast hi) ?_))
      rw [rdi_Done hi]
      simp only [donesFrom_step y hi]
      have yes : ¬ (dGood y[i] ∧ ∀ (h0 : 0 < i), (y[i - 1]'(by omega)).f0.f0 < (y[i]).f0.f0) → Ev (fun k => impl_CertOk.j1 k y (y.length : Int) (i : Int) true a x y) (decide ((0 ≤ a ∧ a ≤ 40) ∧ boxOk x ∧ (dGood y[i] ∧ ∀ (h0 : 0 < i), (y[i - 1]'(by omega)).f0.f0 < (y[i]).f0.f0) ∧ donesFrom y (i + 1))) := by
        intro h
        simp only [h, false_and, and_false, decide_false]
        refine Ev.step (fun k => by rw [impl_CertOk.j1]) ?_
        exact ev_pos rfl (ev_now _)
      have no : (dGood y[i] ∧ ∀ (h0 : 0 < i), (y[i - 1]'(by omega)).f0.f0 < (y[i]).f0.f0) → Ev (fun k => impl_CertOk.j1 k y (y.length : Int) (i : Int) false a x y) (decide ((0 ≤ a ∧ a ≤ 40) ∧ boxOk x ∧ (dGood y[i] ∧ ∀ (h0 : 0 < i), (y[i - 1]'(by omega)).f0.f0 < (y[i]).f0.f0) ∧ donesFrom y (i + 1))) := by
        intro h
        have e : decide ((0 ≤ a ∧ a ≤ 40) ∧ boxOk x ∧ (dGood y[i] ∧ ∀ (h0 : 0 < i), (y[i - 1]'(by omega)).f0.f0 < (y[i]).f0.f0) ∧ donesFrom y (i + 1)) = decide ((0 ≤ a ∧ a ≤ 40) ∧ boxOk x ∧ donesFrom y (i + 1)) := by
          rw [decide_eq_decide]; exact ⟨fun g => ⟨g.1, g.2.1, g.2.2.2⟩, fun g => ⟨g.1, g.2.1, h, g.2.2⟩⟩
        rw [e]
        refine Ev.step (fun k => by rw [impl_CertOk.j1]) ?_
        rw [wrap_succ hi hm]
        exact ev_neg (by simp) ih
      have tail : (∀ (h0 : 0 < i), (y[i - 1]'(by omega)).f0.f0 < (y[i]).f0.f0) → Ev (fun k => (impl_reqOk.f ((y[i]).f0.f0) ((y[i]).f0.f1)).bind fun t181 => (if t181 = true then ((impl_in.f ((y[i]).f1) 0 2).bind fun t182 => (if t182 = true then ((impl_in.f ((y[i]).f2) (-1000000) 1000000).bind fun t183 => (if t183 = true then (if ((y[i]).f1) = 0 then (impl_CertOk.j1 k y (y.length : Int) (i : Int) false a x y) else (impl_CertOk.j1 k y (y.length : Int) (i : Int) (((y[i]).f2) != 0) a x y)) else (impl_CertOk.j1 k y (y.length : Int) (i : Int) true a x y))) else (impl_CertOk.j1 k y (y.length : Int) (i : Int) true a x y))) else (impl_CertOk.j1 k y (y.length : Int) (i : Int) true a x y))) (decide ((0 ≤ a ∧ a ≤ 40) ∧ boxOk x ∧ (dGood y[i] ∧ ∀ (h0 : 0 < i), (y[i - 1]'(by omega)).f0.f0 < (y[i]).f0.f0) ∧ donesFrom y (i + 1))) := by
        intro hlt
        refine ev_get (reqOk_dec _ _) ?_
        by_cases h1 : reqIn (y[i]).f0.f0 (y[i]).f0.f1
        case neg => exact ev_neg (by simpa using h1) (yes (fun h => h1 h.1.1))
        refine ev_pos (by simpa using h1) (ev_get (in_dec _ _ _) ?_)
        by_cases h2 : 0 ≤ (y[i]).f1 ∧ (y[i]).f1 ≤ 2
        case neg => exact ev_neg (by simpa using h2) (yes (fun h => h2 h.1.2.1))
        refine ev_pos (by simpa using h2) (ev_get (in_dec _ _ _) ?_)
        by_cases h3 : -1000000 ≤ (y[i]).f2 ∧ (y[i]).f2 ≤ 1000000
        case neg => exact ev_neg (by simpa using h3) (yes (fun h => h3 h.1.2.2.1))
        refine ev_pos (by simpa using h3) (ev_ite (fun c => no ⟨⟨h1, h2, h3, fun h => absurd c h⟩, hlt⟩) (fun c => ?_))
        by_cases c2 : (y[i]).f2 = 0
        · have e : ((y[i]).f2 != 0) = false := by simp [c2]
          rw [e]
          exact no ⟨⟨h1, h2, h3, fun _ => c2⟩, hlt⟩
        · have e : ((y[i]).f2 != 0) = true := by simp [c2]
          rw [e]
          exact yes (fun h => c2 (h.1.2.2.2 c))
      by_cases hi0 : 0 < i
      case neg => exact ev_neg (by omega) (tail (fun h0 => absurd h0 hi0))
      have hw : wrap64 ((i : Int) - 1) = ((i - 1 : Nat) : Int) := by rw [wrap_id (by omega) (by omega)]; omega
      have hi1 : i - 1 < y.length := by omega
      rw [hw, rdi_Done hi1]
      refine ev_pos (by omega) (ev_pos (nn_cast _) (ev_pos (lt_cast hi1) ?_))
      by_cases c : (y[i - 1]).f0.f0 ≥ (y[i]).f0.f0
      · exact ev_pos c (yes (fun h => absurd (h.2 hi0) (by omega)))
      · exact ev_neg c (tail (fun _ => by omega))) (by
      refine Ev.step (fun k => by rw [impl_CertOk.l0]) ?_
      refine ev_neg (by omega) (ev_get (in_dec _ _ _) ?_)
      simp only [donesFrom_end y, and_true]
      by_cases h1 : 0 ≤ a ∧ a ≤ 40
      case neg =>
        simp only [h1, false_and, decide_false]
        exact ev_neg (by simp) (ev_now _)
      simp only [h1, and_self, true_and, decide_true]
      refine ev_pos trivial (hw.bind ?_)
      rw [show decide (boxOk x) = w from Bool.eq_iff_iff.2 (by rw [hwi]; simp)]
      exact ev_now _) 0 (Nat.zero_le _)
  refine ⟨decide ((0 ≤ a ∧ a ≤ 40) ∧ boxOk x ∧ donesFrom y 0), ?_, ?_⟩
  · unfold impl_CertOk.f
    exact key
  · unfold stateOk
    exact decide_eq_true_iff

theorem sameRead_ev (x y : List S39) (hn : x.length ≤ 9223372036854775807) : ∃ v, Ev (fun k => impl_same_impl_Read.f k x y) v ∧ (v = true ↔ x = y) := by
  classical
  by_cases hl : x.length = y.length
  · have key := ev_loop x.length (fun i k => impl_same_impl_Read.l0 k x y (x.length : Int) (i : Int)) (fun i => decide (x.drop i = y.drop i)) (fun i hi ih => by
      refine Ev.step (fun k => by rw [impl_same_impl_Read.l0]) ?_
      refine ev_pos (lt_cast hi) (ev_pos (nn_cast i) (ev_pos (lt_cast hi) (ev_pos (lt_cast (hl ▸ hi)) ?_)))
      rw [rdi_Read hi, rdi_Read (hl ▸ hi), wrap_succ hi hn]
      simp only [drop_eq hl hi]
      by_cases h1 : x[i] = y[i]'(hl ▸ hi)
      · simp only [h1, true_and]
        exact ev_neg (by simp) ih
      · simp only [h1, false_and, decide_false]
        refine ev_pos ?_ (ev_now _)
        generalize x[i] = a at h1 ⊢
        generalize y[i]'(hl ▸ hi) = b at h1 ⊢
        obtain ⟨a0_, a1_⟩ := a; obtain ⟨b0_, b1_⟩ := b
        simp only [S39.mk.injEq, not_and] at h1
        simp
        omega) (by
      refine Ev.step (fun k => by rw [impl_same_impl_Read.l0]) ?_
      refine ev_neg (by omega) ?_
      rw [List.drop_length, hl, List.drop_length]
      simp only [decide_true]
      exact ev_now _) 0 (Nat.zero_le _)
    exact ⟨_, Ev.congr (fun k => by unfold impl_same_impl_Read.f; exact if_pos (by omega)) key, by simp⟩
  · refine ⟨false, ?_, by simp; exact fun h => hl (by rw [h])⟩
    unfold impl_same_impl_Read.f
    exact ev_neg (by omega) (ev_now _)

theorem samePut_ev (x y : List S82) (hn : x.length ≤ 9223372036854775807) : ∃ v, Ev (fun k => impl_same_impl_Put.f k x y) v ∧ (v = true ↔ x = y) := by
  classical
  by_cases hl : x.length = y.length
  · have key := ev_loop x.length (fun i k => impl_same_impl_Put.l0 k x y (x.length : Int) (i : Int)) (fun i => decide (x.drop i = y.drop i)) (fun i hi ih => by
      refine Ev.step (fun k => by rw [impl_same_impl_Put.l0]) ?_
      refine ev_pos (lt_cast hi) (ev_pos (nn_cast i) (ev_pos (lt_cast hi) (ev_pos (lt_cast (hl ▸ hi)) ?_)))
      rw [rdi_Put hi, rdi_Put (hl ▸ hi), wrap_succ hi hn]
      simp only [drop_eq hl hi]
      by_cases h1 : x[i] = y[i]'(hl ▸ hi)
      · simp only [h1, true_and]
        exact ev_neg (by simp) ih
      · simp only [h1, false_and, decide_false]
        refine ev_pos ?_ (ev_now _)
        generalize x[i] = a at h1 ⊢
        generalize y[i]'(hl ▸ hi) = b at h1 ⊢
        obtain ⟨a0_, a1_⟩ := a; obtain ⟨b0_, b1_⟩ := b
        simp only [S82.mk.injEq, not_and] at h1
        simp
        omega) (by
      refine Ev.step (fun k => by rw [impl_same_impl_Put.l0]) ?_
      refine ev_neg (by omega) ?_
      rw [List.drop_length, hl, List.drop_length]
      simp only [decide_true]
      exact ev_now _) 0 (Nat.zero_le _)
    exact ⟨_, Ev.congr (fun k => by unfold impl_same_impl_Put.f; exact if_pos (by omega)) key, by simp⟩
  · refine ⟨false, ?_, by simp; exact fun h => hl (by rw [h])⟩
    unfold impl_same_impl_Put.f
    exact ev_neg (by omega) (ev_now _)

theorem impl_ExecSame_ev (x0 : List S39) (x1 : List S82) (a b : Int) (y0 : List S39) (y1 : List S82) (c d : Int) (hn : x0.length ≤ 9223372036854775807) (hm : x1.length ≤ 9223372036854775807) :
    ∃ v, Ev (fun k => impl_ExecSame.f k x0 x1 a b y0 y1 c d) v ∧ (v = true ↔ x0 = y0 ∧ x1 = y1 ∧ a = c ∧ b = d) := by
  obtain ⟨u, hu, hui⟩ := sameRead_ev x0 y0 hn
  obtain ⟨v, hv, hvi⟩ := samePut_ev x1 y1 hm
  unfold impl_ExecSame.f
  by_cases h1 : u = true
  case neg => exact ⟨false, hu.bind (ev_neg h1 (ev_now _)), by simp; intro h; exact absurd (hui.2 h) h1⟩
  by_cases h2 : v = true
  case neg => exact ⟨false, hu.bind (ev_pos h1 (hv.bind (ev_neg h2 (ev_now _)))), by simp; intro _ h; exact absurd (hvi.2 h) h2⟩
  have e1 := hui.1 h1
  have e2 := hvi.1 h2
  by_cases h3 : a = c
  case neg => exact ⟨false, hu.bind (ev_pos h1 (hv.bind (ev_pos h2 (ev_neg h3 (ev_now _))))), by simp [h3]⟩
  exact ⟨b == d, hu.bind (ev_pos h1 (hv.bind (ev_pos h2 (ev_pos h3 (ev_now _))))), by simp [e1, e2, h3]⟩

theorem impl_CertLike_ev (e : Bool) (p q : Int) (x0 : List S39) (x1 : List S82) (a b : Int) (f : Bool) (r s : Int) (y0 : List S39) (y1 : List S82) (c d : Int) (hn : x0.length ≤ 9223372036854775807) (hm : x1.length ≤ 9223372036854775807) :
    ∃ v, Ev (fun k => impl_CertLike.f k e p q x0 x1 a b f r s y0 y1 c d) v ∧ (v = true ↔ e = f ∧ (p = r ∧ q = s) ∧ x0 = y0 ∧ x1 = y1 ∧ a = c ∧ b = d) := by
  obtain ⟨u, hu, hui⟩ := impl_ExecSame_ev x0 x1 a b y0 y1 c d hn hm
  unfold impl_CertLike.f
  rw [← hui]
  by_cases h1 : e = f
  case neg => exact ⟨false, ev_neg (by simpa using h1) (ev_now _), by simp [h1]⟩
  by_cases h2 : p = r ∧ q = s
  case neg => exact ⟨false, ev_pos (by simpa using h1) (ev_neg (by simpa using h2) (ev_now _)), by simp [h2]⟩
  exact ⟨u, ev_pos (by simpa using h1) (ev_pos (by simpa using h2) (hu.bind (ev_now _))), by simp [h1, h2]⟩

/-- Two runs compared by the document. -/
theorem spec_ExecSame_ev (x0 : List S39) (x1 : List S82) (a b : Int) (y0 : List S39) (y1 : List S82) (c d : Int) (hn : x0.length ≤ 9223372036854775807) (hm : x1.length ≤ 9223372036854775807) :
    ∃ v, Ev (fun k => spec_ExecSame.f k x0 x1 a b y0 y1 c d) v ∧ (v = true ↔ x0 = y0 ∧ x1 = y1 ∧ a = c ∧ b = d) := by
  classical
  have no : Ev (fun k => spec_ExecSame.j0 k true x0 x1 a b y0 y1 c d) false := by
    refine Ev.step (fun k => by rw [spec_ExecSame.j0]) ?_
    exact ev_pos rfl (ev_now _)
  unfold spec_ExecSame.f
  by_cases ha : a = c
  case neg => exact ⟨false, ev_neg ha no, by simp [ha]⟩
  by_cases hb : b = d
  case neg => exact ⟨false, ev_pos ha (ev_neg hb no), by simp [hb]⟩
  by_cases hl : x0.length = y0.length
  case neg => exact ⟨false, ev_pos ha (ev_pos hb (ev_neg (by omega) no)), by simp; intro h; exact absurd (by rw [h]) hl⟩
  by_cases hl2 : x1.length = y1.length
  case neg =>
    have e1 : ((x1.length : Int) != (y1.length : Int)) = true := by simp; omega
    exact ⟨false, ev_pos ha (ev_pos hb (ev_pos (by omega) (by rw [e1]; exact no))), by simp; intro _ h; exact absurd (by rw [h]) hl2⟩
  have e1 : ((x1.length : Int) != (y1.length : Int)) = false := by simp; omega
  have k1 := ev_loop x1.length (fun i k => spec_ExecSame.l1 k (i : Int) x0 x1 a b y0 y1 c d) (fun i => decide (x1.drop i = y1.drop i)) (fun i hi ih => by
      refine Ev.step (fun k => by rw [spec_ExecSame.l1]) ?_
      refine ev_pos (lt_cast hi) (ev_pos (nn_cast i) (ev_pos (lt_cast (hl2 ▸ hi)) ?_))
      rw [rdi_Put hi, rdi_Put (hl2 ▸ hi), wrap_succ hi hm]
      simp only [drop_eq hl2 hi]
      by_cases h1 : x1[i] = y1[i]'(hl2 ▸ hi)
      · simp only [h1, true_and]
        exact ev_neg (by simp) ih
      · simp only [h1, false_and, decide_false]
        refine ev_pos ?_ (ev_now _)
        generalize x1[i] = u at h1 ⊢
        generalize y1[i]'(hl2 ▸ hi) = v at h1 ⊢
        cases u; cases v
        simp only [S82.mk.injEq, not_and] at h1
        simp
        omega) (by
      refine Ev.step (fun k => by rw [spec_ExecSame.l1]) ?_
      refine ev_neg (by omega) ?_
      rw [List.drop_length, hl2, List.drop_length]
      simp only [decide_true]
      exact ev_now _) 0 (Nat.zero_le _)
  simp only [List.drop_zero] at k1
  have k0 := ev_loop x0.length (fun i k => spec_ExecSame.l0 k (i : Int) x0 x1 a b y0 y1 c d) (fun i => decide (x0.drop i = y0.drop i ∧ x1 = y1)) (fun i hi ih => by
      refine Ev.step (fun k => by rw [spec_ExecSame.l0]) ?_
      refine ev_pos (lt_cast hi) (ev_pos (nn_cast i) (ev_pos (lt_cast (hl ▸ hi)) ?_))
      rw [rdi_Read hi, rdi_Read (hl ▸ hi), wrap_succ hi hn]
      simp only [drop_eq hl hi]
      by_cases h1 : x0[i] = y0[i]'(hl ▸ hi)
      · simp only [h1, true_and]
        exact ev_neg (by simp) ih
      · simp only [h1, false_and, decide_false]
        refine ev_pos ?_ (ev_now _)
        generalize x0[i] = u at h1 ⊢
        generalize y0[i]'(hl ▸ hi) = v at h1 ⊢
        cases u; cases v
        simp only [S39.mk.injEq, not_and] at h1
        simp
        omega) (by
      refine Ev.step (fun k => by rw [spec_ExecSame.l0]) ?_
      refine ev_neg (by omega) ?_
      rw [List.drop_length, hl, List.drop_length]
      simp only [true_and]
      exact k1) 0 (Nat.zero_le _)
  refine ⟨decide (x0.drop 0 = y0.drop 0 ∧ x1 = y1), ev_pos ha (ev_pos hb (ev_pos (by omega) ?_)), ?_⟩
  · rw [e1]
    refine Ev.step (fun k => by rw [spec_ExecSame.j0]) ?_
    exact ev_neg (by simp) k0
  · simp [ha, hb]

theorem l3Saw_ev (x : List S39) (b : Int) (hn : x.length ≤ 9223372036854775807) : ∃ v, Ev (fun k => spec_l3Saw.f k x b) v ∧ (v = true ↔ b ∈ x.map rKey) := by
  classical
  have key := ev_loop x.length (fun i k => spec_l3Saw.l0 k x b (i : Int)) (fun i => decide (b ∈ (x.drop i).map rKey)) (fun i hi ih => by
      refine Ev.step (fun k => by rw [spec_l3Saw.l0]) ?_
      refine ev_pos (lt_cast hi) (ev_pos (nn_cast i) ?_)
      rw [rdi_Read hi, wrap_succ hi hn]
      have e : b ∈ (x.drop i).map rKey ↔ b = (x[i]).f0 ∨ b ∈ (x.drop (i + 1)).map rKey := by rw [List.drop_eq_getElem_cons hi]; simp only [List.map_cons, List.mem_cons]; exact Iff.rfl
      simp only [e]
      refine ev_ite (fun c => ?_) (fun c => ?_)
      · simp only [c.symm, true_or, decide_true]; exact ev_now _
      · have c2 : ¬ b = (x[i]).f0 := fun h => c h.symm
        simp only [c2, false_or]; exact ih) (by
      refine Ev.step (fun k => by rw [spec_l3Saw.l0]) ?_
      refine ev_neg (by omega) ?_
      simp only [List.drop_length, List.map_nil, List.not_mem_nil, decide_false]
      exact ev_now _) 0 (Nat.zero_le _)
  exact ⟨_, key, by simp⟩
/-- Where a box stands in what was put. -/
theorem l3At_ev (x : List S82) (b : Int) (hn : x.length ≤ 9223372036854775807) : ∃ v, Ev (fun k => spec_l3At.f k x b) v ∧ (0 ≤ v ↔ b ∈ x.map pKey) := by
  classical
  have key : ∀ d i, i + d = x.length → ∃ v, Ev (fun k => spec_l3At.l0 k x b (i : Int)) v ∧ (0 ≤ v ↔ b ∈ (x.drop i).map pKey) := by
    intro d
    induction d with
    | zero =>
      intro i hi
      obtain rfl : i = x.length := by omega
      refine ⟨-1, ?_, by simp⟩
      refine Ev.step (fun k => by rw [spec_l3At.l0]) ?_
      exact ev_neg (by omega) (ev_now _)
    | succ d ih =>
      intro i hd
      have hi : i < x.length := by omega
      have e : b ∈ (x.drop i).map pKey ↔ b = (x[i]).f0 ∨ b ∈ (x.drop (i + 1)).map pKey := by rw [List.drop_eq_getElem_cons hi]; simp only [List.map_cons, List.mem_cons]; exact Iff.rfl
      by_cases c : (x[i]).f0 = b
      · refine ⟨(i : Int), ?_, by rw [e]; simp [c]⟩
        refine Ev.step (fun k => by rw [spec_l3At.l0]) ?_
        refine ev_pos (lt_cast hi) (ev_pos (nn_cast i) ?_)
        rw [rdi_Put hi]
        exact ev_pos c (ev_now _)
      · obtain ⟨v, hv, hvi⟩ := ih (i + 1) (by omega)
        have c2 : ¬ b = (x[i]).f0 := fun h => c h.symm
        refine ⟨v, ?_, by rw [e, hvi]; simp [c2]⟩
        refine Ev.step (fun k => by rw [spec_l3At.l0]) ?_
        refine ev_pos (lt_cast hi) (ev_pos (nn_cast i) ?_)
        rw [rdi_Put hi, wrap_succ hi hn]
        exact ev_neg c hv
  obtain ⟨v, hv, hvi⟩ := key x.length 0 (by omega)
  exact ⟨v, hv, by simpa using hvi⟩
theorem sExecOk_l1 (x : List S39) (y : List S82) (a b : Int) (hm : y.length ≤ 9223372036854775807) : ∃ v, Ev (fun k => spec_ExecOk.l1 k 0 x y a b) v ∧ (v = true ↔ okFrom pKey pGood y 0) := by
  classical
  have key := ev_loop y.length (fun i k => spec_ExecOk.l1 k (i : Int) x y a b) (fun i => decide (okFrom pKey pGood y i)) (fun i hi ih => by
      refine Ev.step (fun k => by rw [spec_ExecOk.l1]) ?_
      refine ev_pos (lt_cast hi) (ev_pos (nn_cast i) ?_)
      rw [rdi_Put hi, wrap_succ hi hm, Int.toNat_natCast]
      simp only [okFrom_step pKey pGood y hi]
      refine ev_get (l2Box_some _) ?_
      by_cases h1 : 0 ≤ (y[i]).f0 ∧ (y[i]).f0 ≤ 3
      case neg =>
        have : ¬ (0 ≤ pKey y[i] ∧ pKey y[i] ≤ 3) := h1
        simp only [this, false_and, decide_false]
        exact ev_neg (by simpa using h1) (ev_now _)
      refine ev_pos (by simpa using h1) (ev_get (l1Num_dec _) ?_)
      have h2 : 0 ≤ pKey y[i] ∧ pKey y[i] ≤ 3 := h1
      by_cases g : pGood y[i]
      case neg =>
        simp only [g, false_and, and_false, decide_false]
        exact ev_neg (by simpa [pGood] using g) (ev_now _)
      obtain ⟨v, hv, hvi⟩ := l3At_ev (y.take i) (y[i]).f0 (by rw [List.length_take]; omega)
      refine ev_pos (by simpa [pGood] using g) (ev_pos (by omega) (hv.bind ?_))
      refine ev_ite (fun c => ?_) (fun c => ?_)
      · have c2 : pKey y[i] ∈ (y.take i).map pKey := hvi.1 c
        simp only [c2, not_true, and_false, false_and, decide_false]
        exact ev_now _
      · have c2 : ¬ pKey y[i] ∈ (y.take i).map pKey := fun h => c (hvi.2 h)
        simp only [h2, g, c2, not_false_eq_true, and_self, true_and]
        exact ih) (by
      refine Ev.step (fun k => by rw [spec_ExecOk.l1]) ?_
      refine ev_neg (by omega) ?_
      simp only [okFrom_end pKey pGood y, decide_true]
      exact ev_now _) 0 (Nat.zero_le _)
  exact ⟨_, key, by simp⟩
theorem sExecOk_l0 (x : List S39) (y : List S82) (a b : Int) (hn : x.length ≤ 9223372036854775807) (hm : y.length ≤ 9223372036854775807) :
    ∃ v, Ev (fun k => spec_ExecOk.l0 k 0 x y a b) v ∧ (v = true ↔ okFrom rKey rGood x 0 ∧ okFrom pKey pGood y 0) := by
  classical
  obtain ⟨u, hu, hui⟩ := sExecOk_l1 x y a b hm
  have key := ev_loop x.length (fun i k => spec_ExecOk.l0 k (i : Int) x y a b) (fun i => decide (okFrom rKey rGood x i ∧ okFrom pKey pGood y 0)) (fun i hi ih => by
      refine Ev.step (fun k => by rw [spec_ExecOk.l0]) ?_
      refine ev_pos (lt_cast hi) (ev_pos (nn_cast i) ?_)
      rw [rdi_Read hi, wrap_succ hi hn, Int.toNat_natCast]
      simp only [okFrom_step rKey rGood x hi]
      refine ev_get (l2Box_some _) ?_
      by_cases h1 : 0 ≤ (x[i]).f0 ∧ (x[i]).f0 ≤ 3
      case neg =>
        have : ¬ (0 ≤ rKey x[i] ∧ rKey x[i] ≤ 3) := h1
        simp only [this, false_and, decide_false]
        exact ev_neg (by simpa using h1) (ev_now _)
      refine ev_pos (by simpa using h1) ?_
      have h2 : 0 ≤ rKey x[i] ∧ rKey x[i] ≤ 3 := h1
      by_cases g1 : (x[i]).f1 < 0
      · have g : ¬ rGood x[i] := by unfold rGood; omega
        simp only [g, false_and, and_false, decide_false]
        exact ev_pos g1 (ev_now _)
      by_cases g2 : (x[i]).f1 > 1000000
      · have g : ¬ rGood x[i] := by unfold rGood; omega
        simp only [g, false_and, and_false, decide_false]
        exact ev_neg g1 (ev_pos g2 (ev_now _))
      have g : rGood x[i] := by unfold rGood; omega
      obtain ⟨v, hv, hvi⟩ := l3Saw_ev (x.take i) (x[i]).f0 (by rw [List.length_take]; omega)
      refine ev_neg g1 (ev_neg g2 (ev_pos (by omega) (hv.bind ?_)))
      refine ev_ite (fun c => ?_) (fun c => ?_)
      · have c2 : rKey x[i] ∈ (x.take i).map rKey := hvi.1 c
        simp only [c2, not_true, and_false, false_and, decide_false]
        exact ev_now _
      · have c2 : ¬ rKey x[i] ∈ (x.take i).map rKey := fun h => c (hvi.2 h)
        simp only [h2, g, c2, not_false_eq_true, and_self, true_and]
        exact ih) (by
      refine Ev.step (fun k => by rw [spec_ExecOk.l0]) ?_
      refine ev_neg (by omega) ?_
      simp only [okFrom_end rKey rGood x, true_and]
      rw [show decide (okFrom pKey pGood y 0) = u from Bool.eq_iff_iff.2 (by rw [hui]; simp)]
      exact hu) 0 (Nat.zero_le _)
  exact ⟨_, key, by simp⟩
theorem spec_ExecOk_ev (x : List S39) (y : List S82) (a b : Int) (hn : x.length ≤ 9223372036854775807) (hm : y.length ≤ 9223372036854775807) : ∃ v, Ev (fun k => spec_ExecOk.f k x y a b) v ∧ (v = true ↔ runOk x y a b) := by
  obtain ⟨u, hu, hui⟩ := sExecOk_l0 x y a b hn hm
  have yes : Ev (fun k => spec_ExecOk.j0 k true x y a b) false := by
    refine Ev.step (fun k => by rw [spec_ExecOk.j0]) ?_
    exact ev_pos rfl (ev_now _)
  have no : Ev (fun k => spec_ExecOk.j0 k false x y a b) u := by
    refine Ev.step (fun k => by rw [spec_ExecOk.j0]) ?_
    exact ev_neg (by simp) hu
  unfold spec_ExecOk.f runOk
  rw [← hui]
  simp only [l1Num_dec, Option.bind_some, decide_eq_true_eq]
  by_cases k1 : b < 0
  · exact ⟨false, ev_pos k1 yes, by simp; omega⟩
  by_cases k2 : b > 3
  · exact ⟨false, ev_neg k1 (ev_pos k2 yes), by simp; omega⟩
  have h1 : 0 ≤ b ∧ b ≤ 3 := by omega
  by_cases h2 : -1000000 ≤ a ∧ a ≤ 1000000
  case neg => exact ⟨false, ev_neg k1 (ev_neg k2 (ev_neg h2 yes)), by simp [h2]⟩
  have g3 : ∀ c : Bool, c = decide ((x.length : Int) > 0) → Ev (fun k => spec_ExecOk.j0 k c x y a b) (!c && u) := by
    intro c _
    cases c with
    | true => exact yes
    | false => exact no
  by_cases h3 : b = 0
  · have h4 : ¬ b = 3 := by omega
    exact ⟨u, ev_neg k1 (ev_neg k2 (ev_pos h2 (ev_pos h3 (ev_neg h4 no)))), by simp [h1, h2, h3, h4]⟩
  by_cases h5 : a = 0
  case neg => exact ⟨false, ev_neg k1 (ev_neg k2 (ev_pos h2 (ev_neg h3 (ev_neg h5 yes)))), by simp [h3, h5]⟩
  by_cases h6 : (y.length : Int) > 0
  · exact ⟨false, ev_neg k1 (ev_neg k2 (ev_pos h2 (ev_neg h3 (ev_pos h5 (ev_pos h6 yes))))), by simp only [Bool.false_eq_true, false_iff]; intro hh; exact (hh.2.2.1 h3).2 h6⟩
  by_cases h4 : b = 3
  · refine ⟨_, ev_neg k1 (ev_neg k2 (ev_pos h2 (ev_neg h3 (ev_pos h5 (ev_neg h6 (ev_pos h4 (g3 _ rfl))))))), ?_⟩
    by_cases h7 : (x.length : Int) > 0
    · simp only [h7, decide_true, Bool.not_true, Bool.false_and, Bool.false_eq_true, false_iff]
      intro hh; exact hh.2.2.2.1 h4 trivial
    · simp only [h7, decide_false, Bool.not_false, Bool.true_and]
      exact ⟨fun hh => ⟨h1, h2, fun _ => ⟨h5, h6⟩, fun _ => fun h => h, hh⟩, fun hh => hh.2.2.2.2⟩
  · exact ⟨u, ev_neg k1 (ev_neg k2 (ev_pos h2 (ev_neg h3 (ev_pos h5 (ev_neg h6 (ev_neg h4 no)))))), ⟨fun hh => ⟨h1, h2, fun _ => ⟨h5, h6⟩, fun h => absurd h h4, hh⟩, fun hh => hh.2.2.2.2⟩⟩

theorem l5Req_dec (a b : Int) : spec_l5Req.f a b = some (decide (reqIn a b)) := by
  unfold spec_l5Req.f
  repeat' split
  all_goals (congr 1; rw [Bool.eq_iff_iff]; simp only [decide_eq_true_eq, Bool.false_eq_true]; simp only [reqIn]; constructor <;> intro hh_ <;> first | exact hh_.elim | omega)

def entryOk (e : Bool) (p q : Int) (x0 : List S39) (x1 : List S82) (a b : Int) : Prop :=
  if e = true then (p = 0 ∧ q = 0) ∧ x0 = [] ∧ x1 = [] ∧ a = 0 ∧ b = 0 else reqIn p q ∧ runOk x0 x1 a b ∧ b ≠ 3
theorem spec_CertEntry_ev (e : Bool) (p q : Int) (x0 : List S39) (x1 : List S82) (a b : Int) (hn : x0.length ≤ 9223372036854775807) (hm : x1.length ≤ 9223372036854775807) :
    ∃ v, Ev (fun k => spec_CertEntry.f k e p q x0 x1 a b) v ∧ (v = true ↔ entryOk e p q x0 x1 a b) := by
  obtain ⟨u, hu, hui⟩ := spec_ExecSame_ev x0 x1 a b [] [] 0 0 hn hm
  obtain ⟨w, hw, hwi⟩ := spec_ExecOk_ev x0 x1 a b hn hm
  unfold spec_CertEntry.f entryOk
  by_cases h1 : e = true
  · rw [if_pos h1]
    by_cases h2 : p = 0 ∧ q = 0
    case neg => exact ⟨false, ev_pos h1 (ev_neg (by simpa using h2) (ev_now _)), by simp [h2]⟩
    exact ⟨u, ev_pos h1 (ev_pos (by simpa using h2) (hu.bind (ev_now _))), by simp [h2, hui]⟩
  · rw [if_neg h1, ← hwi]
    by_cases h2 : reqIn p q
    case neg => exact ⟨false, ev_neg h1 (ev_get (l5Req_dec p q) (ev_neg (by simpa using h2) (ev_now _))), by simp [h2]⟩
    by_cases h3 : w = true
    case neg => exact ⟨false, ev_neg h1 (ev_get (l5Req_dec p q) (ev_pos (by simpa using h2) (hw.bind (ev_neg h3 (ev_now _))))), by simp [h3]⟩
    exact ⟨b != 3, ev_neg h1 (ev_get (l5Req_dec p q) (ev_pos (by simpa using h2) (hw.bind (ev_pos h3 (ev_now _))))), by simp [h2, h3]⟩

theorem impl_CertEntry_ev (e : Bool) (p q : Int) (x0 : List S39) (x1 : List S82) (a b : Int) (hn : x0.length ≤ 9223372036854775807) (hm : x1.length ≤ 9223372036854775807) :
    ∃ v, Ev (fun k => impl_CertEntry.f k e p q x0 x1 a b) v ∧ (v = true ↔ entryOk e p q x0 x1 a b) := by
  obtain ⟨u, hu, hui⟩ := impl_CertLike_ev e p q x0 x1 a b true 0 0 [] [] 0 0 hn hm
  obtain ⟨w, hw, hwi⟩ := impl_ExecOk_ev x0 x1 a b hn hm
  unfold impl_CertEntry.f entryOk
  by_cases h1 : e = true
  · rw [if_pos h1]
    exact ⟨u, ev_pos h1 (hu.bind (ev_now _)), by rw [hui]; simp [h1]⟩
  · rw [if_neg h1, ← hwi]
    by_cases h2 : reqIn p q
    case neg => exact ⟨false, ev_neg h1 (ev_get (reqOk_dec p q) (ev_neg (by simpa using h2) (ev_now _))), by simp [h2]⟩
    by_cases h3 : w = true
    case neg => exact ⟨false, ev_neg h1 (ev_get (reqOk_dec p q) (ev_pos (by simpa using h2) (hw.bind (ev_neg h3 (ev_now _))))), by simp [h3]⟩
    exact ⟨b != 3, ev_neg h1 (ev_get (reqOk_dec p q) (ev_pos (by simpa using h2) (hw.bind (ev_pos h3 (ev_now _))))), by simp [h2, h3]⟩

theorem sorted_of {y : List S84} (h : donesFrom y 0) : y.Pairwise (fun a b => a.f0.f0 < b.f0.f0) := by
  rw [List.pairwise_iff_getElem]
  intro i j hi hj hij
  have step : ∀ d, ∀ (hd : i + d + 1 < y.length), (y[i]).f0.f0 < (y[i + d + 1]).f0.f0 := by
    intro d
    induction d with
    | zero => intro hd; exact (h (i + 1) hd (Nat.zero_le _)).2 (by omega)
    | succ d ih =>
      intro hd
      have a := ih (by omega)
      have b := (h (i + (d + 1) + 1) hd (Nat.zero_le _)).2 (by omega)
      exact Int.lt_trans a b
  have := step (j - i - 1) (by omega)
  have e : i + (j - i - 1) + 1 = j := by omega
  simpa only [e] using this
theorem find_ge {q p : Int} : ∀ {y : List S84}, y.Pairwise (fun a b => a.f0.f0 < b.f0.f0) →
    y.find? (fun d => decide (d.f0.f0 = p) && decide (q ≤ d.f0.f1)) = (lastD y p).bind fun d => if q ≤ d.f0.f1 then some d else none := by
  intro y
  induction y with
  | nil => intro _; rfl
  | cons d r ih =>
    intro h
    rw [List.pairwise_cons] at h
    unfold lastD at ih ⊢
    rw [List.find?_cons, List.find?_cons]
    by_cases e : d.f0.f0 = p
    · rw [decide_eq_true e]
      simp only [Bool.true_and, Option.bind_some]
      by_cases g : q ≤ d.f0.f1
      · rw [decide_eq_true g, if_pos g]
      · rw [decide_eq_false g, if_neg g]
        rw [List.find?_eq_none]
        intro z hz
        have := h.1 z hz
        simp only [Bool.and_eq_true, decide_eq_true_eq, not_and]
        intro e2; omega
    · rw [decide_eq_false e]
      simp only [Bool.false_and]
      exact ih h.2
theorem cNew_ev (y0 : List S84) (a : Int) (x : List S37) (y : List S84) (p q : Int) (rx : List S39) (ry : List S82) (v c a1 : Int) (e : Bool) (hx : x.length ≤ 1000000) (hy : y.length ≤ 1000000000000) (hr : rx.length ≤ 1000000000000) (hp : ry.length ≤ 1000000000000) :
    Ev (fun k => (impl_ExecFresh.f k x rx ry v c).bind fun t => (if t = true then (if c = 0 then ((impl_ExecDo.f k x rx ry v c).bind fun t2 => (impl_CertApply.j3 k a x y a1 t2 p q 0 v)) else (impl_CertApply.j3 k a x y a1 x p q 2 0)) else (impl_CertApply.j3 k a x y a1 x p q 1 0))) (apNew a1 x y p q rx ry v c) := by
  obtain ⟨u, hu, hui⟩ := impl_ExecFresh_ev x rx ry v c (by omega) (by omega) (by omega)
  have put : ∀ x2 c2 v2, Ev (fun k => impl_CertApply.j3 k a x y a1 x2 p q c2 v2) (a1, x2, putD ⟨⟨p, q⟩, c2, v2⟩ false y, c2) := fun x2 c2 v2 => by
    refine Ev.step (fun k => by rw [impl_CertApply.j3]) ?_
    simpa using capply_l1 y a1 x2 p q c2 v2 hy y.length 0 [] false (by omega) (by simp; omega)
  unfold apNew
  refine hu.bind (ev_ite (fun h => ?_) (fun h => ?_))
  · have hf := hui.1 h
    rw [if_pos hf]
    refine ev_ite (fun hc => ?_) (fun hc => ?_)
    · rw [if_pos hc]
      have hd := impl_ExecDo_ev x rx ry v c (by omega) (by omega) (by omega)
      have e2 : doneBy x rx ry v c = ry.foldl put1 x := by unfold doneBy; rw [if_pos ⟨hf.1, hf.2.1⟩]
      rw [e2] at hd
      exact hd.bind (put _ 0 v)
    · rw [if_neg hc]; exact put x 2 0
  · rw [if_neg (fun g => h (hui.2 g))]
    exact put x 1 0
open Classical in
/-- What the machine makes of a state and an entry. -/
noncomputable def certAp (a : Int) (x : List S37) (y : List S84) (e : Bool) (p q : Int) (rx : List S39) (ry : List S82) (v c : Int) : Int × List S37 × List S84 × Int :=
  if stateOk a x y ∧ entryOk e p q rx ry v c ∧ a ≠ 40 then apOf (a + 1) x y e p q rx ry v c else (0, [], [], -1)
theorem impl_CertApply_ev (a : Int) (x : List S37) (y : List S84) (e : Bool) (p q : Int) (rx : List S39) (ry : List S82) (v c : Int) (hx : x.length ≤ 1000000) (hy : y.length ≤ 1000000) (hr : rx.length ≤ 1000000) (hp : ry.length ≤ 1000000) :
    Ev (fun k => impl_CertApply.f k a x y e p q rx ry v c) (certAp a x y e p q rx ry v c) := by
  obtain ⟨u, hu, hui⟩ := impl_CertOk_ev a x y (by omega) (by omega)
  obtain ⟨w, hw, hwi⟩ := impl_CertEntry_ev e p q rx ry v c (by omega) (by omega)
  unfold impl_CertApply.f certAp
  have no : Ev (fun k => impl_CertApply.j0 k true a x y e p q rx ry v c) (0, [], [], -1) := Ev.step (fun k => by rw [impl_CertApply.j0]) (ev_pos rfl (ev_now _))
  refine hu.bind (ev_ite (fun h1 => ?_) (fun h1 => ?_))
  case refine_2 => rw [if_neg (fun g => h1 (hui.2 g.1))]; exact no
  refine hw.bind (ev_ite (fun h2 => ?_) (fun h2 => ?_))
  case refine_2 => rw [if_neg (fun g => h2 (hwi.2 g.2.1))]; exact no
  by_cases h3 : a = 40
  · rw [if_neg (fun g => g.2.2 h3)]
    have e1 : (a == 40) = true := by simp [h3]
    rw [e1]; exact no
  have hs := hui.1 h1
  rw [if_pos ⟨hs, hwi.1 h2, h3⟩]
  have e1 : (a == 40) = false := by simp [h3]
  rw [e1]
  have hwr : wrap64 (a + 1) = a + 1 := by have := hs.1; exact wrap_id (by omega) (by omega)
  refine Ev.step (fun k => by rw [impl_CertApply.j0]) ?_
  refine ev_neg (by simp) (ev_get (if_pos (by omega)) ?_)
  rw [hwr]
  unfold apOf
  refine ev_ite (fun h4 => ?_) (fun h4 => ?_)
  · rw [if_pos h4]; exact ev_get (if_pos (by omega)) (ev_now _)
  rw [if_neg h4]
  have loop : ∀ (d i : Nat), i + d = y.length → Ev (fun k => impl_CertApply.l0 k y (y.length : Int) (i : Int) a x y e p q rx ry v c (a + 1) x)
      (match (y.drop i).find? (fun d => decide (d.f0.f0 = p) && decide (q ≤ d.f0.f1)) with | some d => if d.f0.f1 = q then (a + 1, x, y, 3) else (a + 1, x, y, 4) | none => apNew (a + 1) x y p q rx ry v c) := by
    intro d
    induction d with
    | zero =>
      intro i hi
      obtain rfl : i = y.length := by omega
      rw [List.drop_length]
      refine Ev.step (fun k => by rw [impl_CertApply.l0]) (ev_neg (by omega) ?_)
      exact cNew_ev y a x y p q rx ry v c (a + 1) e hx (by omega) (by omega) (by omega)
    | succ d ih =>
      intro i hd
      have hi : i < y.length := by omega
      rw [List.drop_eq_getElem_cons hi, List.find?_cons]
      refine Ev.step (fun k => by rw [impl_CertApply.l0]) ?_
      refine ev_pos (lt_cast hi) (ev_pos (nn_cast i) (ev_pos (lt_cast hi) ?_))
      rw [rdi_Done hi]
      have next : Ev (fun k => impl_CertApply.j2 k y (y.length : Int) (i : Int) false a x y e p q rx ry v c (a + 1) x (y[i]).f0.f0 (y[i]).f0.f1 (y[i]).f1 (y[i]).f2) _ :=
        Ev.step (fun k => by rw [impl_CertApply.j2]) (ev_neg (by simp) (by rw [wrap_succ hi (n := y.length) (by omega)]; exact ih (i + 1) (by omega)))
      refine ev_ite (fun c1 => ?_) (fun c1 => ?_)
      · rw [decide_eq_true c1]
        by_cases c2 : q ≤ (y[i]).f0.f1
        · have e2 : decide ((y[i]).f0.f1 ≥ q) = true := decide_eq_true c2
          rw [e2]
          refine Ev.step (fun k => by rw [impl_CertApply.j2]) ?_
          refine ev_pos rfl (ev_get (if_pos (by omega)) ?_)
          simp only [Bool.and_self]
          exact ev_ite (fun c3 => by rw [if_pos c3]; exact ev_now _) (fun c3 => by rw [if_neg c3]; exact ev_now _)
        · have e2 : decide ((y[i]).f0.f1 ≥ q) = false := decide_eq_false c2
          rw [e2]
          exact next
      · rw [decide_eq_false c1]; exact next
  have key := loop y.length 0 (by omega)
  rw [List.drop_zero, find_ge (sorted_of hs.2.2)] at key
  have e3 : (match (lastD y p).bind fun d => if q ≤ d.f0.f1 then some d else none with | some d => if d.f0.f1 = q then (a + 1, x, y, 3) else (a + 1, x, y, 4) | none => apNew (a + 1) x y p q rx ry v c) =
      (match lastD y p with | some d => if d.f0.f1 = q then (a + 1, x, y, 3) else if q < d.f0.f1 then (a + 1, x, y, 4) else apNew (a + 1) x y p q rx ry v c | none => apNew (a + 1) x y p q rx ry v c) := by
    cases lastD y p with
    | none => rfl
    | some d =>
      simp only [Option.bind_some]
      by_cases g : q ≤ d.f0.f1
      · rw [if_pos g]
        simp only
        by_cases g2 : d.f0.f1 = q
        · rw [if_pos g2, if_pos g2]
        · rw [if_neg g2, if_neg g2, if_pos (by omega)]
      · rw [if_neg g]
        simp only
        rw [if_neg (by omega), if_neg (by omega)]
  rw [e3] at key
  exact key

theorem donesFrom_iff {y : List S84} : donesFrom y 0 ↔ (∀ d ∈ y, dGood d) ∧ y.Pairwise (fun a b => a.f0.f0 < b.f0.f0) := by
  constructor
  · intro h
    refine ⟨fun d hd => ?_, sorted_of h⟩
    obtain ⟨i, hi, rfl⟩ := List.mem_iff_getElem.1 hd
    exact (h i hi (Nat.zero_le _)).1
  · rintro ⟨h1, h2⟩ j hj _
    refine ⟨h1 _ (List.getElem_mem hj), fun h0 => ?_⟩
    exact List.pairwise_iff_getElem.1 h2 (j - 1) j (by omega) hj (by omega)
theorem putD_sorted {d : S84} : ∀ {y : List S84} {b : Bool}, y.Pairwise (fun a b => a.f0.f0 < b.f0.f0) → (putD d b y).Pairwise (fun a b => a.f0.f0 < b.f0.f0) := by
  intro y
  induction y with
  | nil => intro b _; unfold putD; cases b <;> simp
  | cons q r ih =>
    intro b h
    rw [List.pairwise_cons] at h
    have hr := @ih (b || decide (d.f0.f0 ≤ q.f0.f0)) h.2
    have mid : ((if q.f0.f0 = d.f0.f0 then [] else [q]) ++ putD d (b || decide (d.f0.f0 ≤ q.f0.f0)) r).Pairwise (fun a b => a.f0.f0 < b.f0.f0) := by
      split
      · simpa using hr
      · rename_i c
        rw [List.singleton_append, List.pairwise_cons]
        refine ⟨fun z hz => ?_, hr⟩
        rcases putD_mem hz with ⟨rfl, h2⟩ | ⟨h1, h2⟩
        · simp only [Bool.or_eq_false_iff, decide_eq_false_iff_not] at h2; omega
        · exact h.1 z h1
    unfold putD
    split
    · rename_i c
      rw [List.singleton_append, List.pairwise_cons]
      refine ⟨fun z hz => ?_, mid⟩
      rw [List.mem_append] at hz
      rcases hz with hz | hz
      · split at hz
        · simp at hz
        · rename_i c2; rw [List.mem_singleton] at hz; subst hz; omega
      · rcases putD_mem hz with ⟨_, h2⟩ | ⟨h1, h2⟩
        · simp only [Bool.or_eq_false_iff, decide_eq_false_iff_not] at h2; omega
        · have := h.1 z h1; omega
    · rw [List.nil_append]; exact mid
theorem apNew_ok {a : Int} {x : List S37} {y : List S84} {p q : Int} {rx : List S39} {ry : List S82} {v c : Int} (ha : 0 ≤ a ∧ a ≤ 40) (hx : boxOk x) (hy : donesFrom y 0) (hq : reqIn p q) (hr : runOk rx ry v c) :
    stateOk (apNew a x y p q rx ry v c).1 (apNew a x y p q rx ry v c).2.1 (apNew a x y p q rx ry v c).2.2.1 := by
  have put : ∀ c2 v2, (0 ≤ c2 ∧ c2 ≤ 2) → (-1000000 ≤ v2 ∧ v2 ≤ 1000000) → (c2 ≠ 0 → v2 = 0) → donesFrom (putD ⟨⟨p, q⟩, c2, v2⟩ false y) 0 := by
    intro c2 v2 h1 h2 h3
    have h := donesFrom_iff.1 hy
    refine donesFrom_iff.2 ⟨fun z hz => ?_, putD_sorted h.2⟩
    rcases putD_mem hz with ⟨rfl, _⟩ | ⟨h1, _⟩
    · exact ⟨hq, h1, h2, h3⟩
    · exact h.1 z h1
  unfold apNew
  split
  · split
    · rename_i hc
      refine ⟨ha, puts_ok ry x hx (fun e he => (runOk_putsIn hr).1 e he), put 0 v (by omega) hr.2.1 (by omega)⟩
    · exact ⟨ha, hx, put 2 0 (by omega) (by omega) (by omega)⟩
  · exact ⟨ha, hx, put 1 0 (by omega) (by omega) (by omega)⟩
theorem apOf_ok {a : Int} {x : List S37} {y : List S84} {e : Bool} {p q : Int} {rx : List S39} {ry : List S82} {v c : Int} (ha : 0 ≤ a ∧ a ≤ 40) (hx : boxOk x) (hy : donesFrom y 0) (he : entryOk e p q rx ry v c) :
    stateOk (apOf a x y e p q rx ry v c).1 (apOf a x y e p q rx ry v c).2.1 (apOf a x y e p q rx ry v c).2.2.1 := by
  unfold apOf
  split
  · exact ⟨ha, hx, hy⟩
  rename_i h
  unfold entryOk at he
  rw [if_neg h] at he
  have n := apNew_ok ha hx hy he.1 he.2.1
  split
  · split
    · exact ⟨ha, hx, hy⟩
    · split
      · exact ⟨ha, hx, hy⟩
      · exact n
  · exact n

theorem apNew_len (a : Int) (x : List S37) (y : List S84) (p q : Int) (rx : List S39) (ry : List S82) (v c : Int) :
    (apNew a x y p q rx ry v c).1 = a ∧ (apNew a x y p q rx ry v c).2.1.length = x.length ∧ (apNew a x y p q rx ry v c).2.2.1.length ≤ y.length + 1 ∧ 0 ≤ (apNew a x y p q rx ry v c).2.2.2 ∧ (apNew a x y p q rx ry v c).2.2.2 ≤ 2 := by
  have h := fun d => putD_len d y false
  simp only [Bool.false_eq_true, if_false] at h
  unfold apNew
  split
  · split
    · exact ⟨rfl, puts_len _ _, h _, by simp, by simp⟩
    · exact ⟨rfl, rfl, h _, by simp, by simp⟩
  · exact ⟨rfl, rfl, h _, by simp, by simp⟩
theorem apOf_len (a : Int) (x : List S37) (y : List S84) (e : Bool) (p q : Int) (rx : List S39) (ry : List S82) (v c : Int) :
    (apOf a x y e p q rx ry v c).1 = a ∧ (apOf a x y e p q rx ry v c).2.1.length = x.length ∧ (apOf a x y e p q rx ry v c).2.2.1.length ≤ y.length + 1 ∧ 0 ≤ (apOf a x y e p q rx ry v c).2.2.2 ∧ (apOf a x y e p q rx ry v c).2.2.2 ≤ 5 := by
  have n := apNew_len a x y p q rx ry v c
  unfold apOf
  split
  · exact ⟨rfl, rfl, by simp, by simp, by simp⟩
  split
  · split
    · exact ⟨rfl, rfl, by simp, by simp, by simp⟩
    · split
      · exact ⟨rfl, rfl, by simp, by simp, by simp⟩
      · exact ⟨n.1, n.2.1, n.2.2.1, n.2.2.2.1, by omega⟩
  · exact ⟨n.1, n.2.1, n.2.2.1, n.2.2.2.1, by omega⟩
theorem rdi_Entry {l : List S77} {i : Nat} (h : i < l.length) : rd_T77 l (i : Int) = l[i] := by
  unfold rd_T77
  rw [Int.toNat_natCast, List.getD_eq_getElem?_getD, List.getElem?_eq_getElem h]
  rfl
abbrev StT := Int × List S37 × List S84
def entOk (t : S77) : Prop := entryOk t.f0 t.f1.f0 t.f1.f1 t.f2.f0 t.f2.f1 t.f2.f2 t.f2.f3
def entLen (t : S77) : Prop := t.f2.f0.length ≤ 100000 ∧ t.f2.f1.length ≤ 100000
noncomputable def apT (s : StT) (t : S77) : Int × List S37 × List S84 × Int := apOf (s.1 + 1) s.2.1 s.2.2 t.f0 t.f1.f0 t.f1.f1 t.f2.f0 t.f2.f1 t.f2.f2 t.f2.f3
noncomputable def stepS (s : StT) (t : S77) : StT := ((apT s t).1, (apT s t).2.1, (apT s t).2.2.1)
noncomputable def foldS (s : StT) (l : List S77) : StT := l.foldl stepS s
def open0 : StT := (0, List.replicate 4 z37, [])
open Classical in
/-- The state behind a list of entries. -/
noncomputable def foldOf (l : List S77) : StT := if (∀ t ∈ l, entOk t) ∧ l.length ≤ 40 then foldS open0 l else (0, [], [])
def stOk (s : StT) : Prop := stateOk s.1 s.2.1 s.2.2
theorem stepS_ok {s : StT} {t : S77} (h : stOk s) (h40 : s.1 < 40) (ht : entOk t) : stOk (stepS s t) := apOf_ok (by have := h.1; omega) h.2.1 h.2.2 ht
theorem stepS_at (s : StT) (t : S77) : (stepS s t).1 = s.1 + 1 := (apOf_len _ _ _ _ _ _ _ _ _ _).1
theorem stepS_len (s : StT) (t : S77) : (stepS s t).2.1.length = s.2.1.length ∧ (stepS s t).2.2.length ≤ s.2.2.length + 1 := ⟨(apOf_len _ _ _ _ _ _ _ _ _ _).2.1, (apOf_len _ _ _ _ _ _ _ _ _ _).2.2.1⟩
theorem open0_ok : stOk open0 := by
  refine ⟨⟨Int.le_refl _, by decide⟩, ⟨by simp [open0], fun b hb => ?_⟩, fun j hj => by simp [open0] at hj⟩
  rw [List.eq_of_mem_replicate hb]
  unfold boxIn z37
  simp only
  omega
theorem foldS_ok : ∀ (l : List S77) (s : StT), stOk s → s.1 + l.length ≤ 40 → (∀ t ∈ l, entOk t) → stOk (foldS s l) ∧ (foldS s l).1 = s.1 + l.length := by
  intro l
  induction l with
  | nil => intro s h _ _; exact ⟨h, by simp [foldS]⟩
  | cons t r ih =>
    intro s h h1 h2
    simp only [List.length_cons, Int.natCast_add] at h1
    have := ih (stepS s t) (stepS_ok h (by omega) (h2 t (List.mem_cons_self ..))) (by rw [stepS_at]; omega) (fun u hu => h2 u (List.mem_cons_of_mem _ hu))
    rw [stepS_at] at this
    exact ⟨this.1, by show (foldS (stepS s t) r).1 = _; rw [this.2]; simp only [List.length_cons, Int.natCast_add]; omega⟩
theorem foldS_len : ∀ (l : List S77) (s : StT), (foldS s l).2.1.length = s.2.1.length ∧ (foldS s l).2.2.length ≤ s.2.2.length + l.length := by
  intro l
  induction l with
  | nil => intro s; exact ⟨rfl, Nat.le_refl _⟩
  | cons t r ih =>
    intro s
    have h := ih (stepS s t)
    have g := stepS_len s t
    refine ⟨h.1.trans g.1, ?_⟩
    have := h.2
    show (foldS (stepS s t) r).2.2.length ≤ _
    simp only [List.length_cons]; omega
theorem foldOf_len (l : List S77) : (foldOf l).2.1.length ≤ 4 ∧ (foldOf l).2.2.length ≤ 40 := by
  unfold foldOf
  split
  · rename_i h
    have := foldS_len l open0
    simp only [open0, List.length_replicate, List.length_nil] at this
    exact ⟨by show (foldS open0 l).2.1.length ≤ 4; unfold open0; omega, by show (foldS open0 l).2.2.length ≤ 40; unfold open0; omega⟩
  · exact ⟨by simp, by simp⟩

theorem rdi_Box {l : List S37} {i : Nat} (h : i < l.length) : rd_T37 l (i : Int) = l[i] := by
  unfold rd_T37
  rw [Int.toNat_natCast, List.getD_eq_getElem?_getD, List.getElem?_eq_getElem h]
  rfl

theorem sameBox_ev (x y : List S37) (hn : x.length ≤ 9223372036854775807) : ∃ v, Ev (fun k => impl_same_impl_Box.f k x y) v ∧ (v = true ↔ x = y) := by
  classical
  by_cases hl : x.length = y.length
  · have key := ev_loop x.length (fun i k => impl_same_impl_Box.l0 k x y (x.length : Int) (i : Int)) (fun i => decide (x.drop i = y.drop i)) (fun i hi ih => by
      refine Ev.step (fun k => by rw [impl_same_impl_Box.l0]) ?_
      refine ev_pos (lt_cast hi) (ev_pos (nn_cast i) (ev_pos (lt_cast hi) (ev_pos (lt_cast (hl ▸ hi)) ?_)))
      rw [rdi_Box hi, rdi_Box (hl ▸ hi), wrap_succ hi hn]
      simp only [drop_eq hl hi]
      by_cases h1 : x[i] = y[i]'(hl ▸ hi)
      · simp only [h1, true_and]
        exact ev_neg (by simp) ih
      · simp only [h1, false_and, decide_false]
        refine ev_pos ?_ (ev_now _)
        generalize x[i] = a at h1 ⊢
        generalize y[i]'(hl ▸ hi) = b at h1 ⊢
        obtain ⟨a0_, a1_⟩ := a; obtain ⟨b0_, b1_⟩ := b
        simp only [S37.mk.injEq, not_and] at h1
        simp
        omega) (by
      refine Ev.step (fun k => by rw [impl_same_impl_Box.l0]) ?_
      refine ev_neg (by omega) ?_
      rw [List.drop_length, hl, List.drop_length]
      simp only [decide_true]
      exact ev_now _) 0 (Nat.zero_le _)
    exact ⟨_, Ev.congr (fun k => by unfold impl_same_impl_Box.f; exact if_pos (by omega)) key, by simp⟩
  · refine ⟨false, ?_, by simp; exact fun h => hl (by rw [h])⟩
    unfold impl_same_impl_Box.f
    exact ev_neg (by omega) (ev_now _)

theorem sameDone_ev (x y : List S84) (hn : x.length ≤ 9223372036854775807) : ∃ v, Ev (fun k => impl_same_impl_Done.f k x y) v ∧ (v = true ↔ x = y) := by
  classical
  by_cases hl : x.length = y.length
  · have key := ev_loop x.length (fun i k => impl_same_impl_Done.l0 k x y (x.length : Int) (i : Int)) (fun i => decide (x.drop i = y.drop i)) (fun i hi ih => by
      refine Ev.step (fun k => by rw [impl_same_impl_Done.l0]) ?_
      refine ev_pos (lt_cast hi) (ev_pos (nn_cast i) (ev_pos (lt_cast hi) (ev_pos (lt_cast (hl ▸ hi)) ?_)))
      rw [rdi_Done hi, rdi_Done (hl ▸ hi), wrap_succ hi hn]
      simp only [drop_eq hl hi]
      by_cases h1 : x[i] = y[i]'(hl ▸ hi)
      · simp only [h1, true_and]
        exact ev_neg (by simp) ih
      · simp only [h1, false_and, decide_false]
        refine ev_pos ?_ (ev_now _)
        generalize x[i] = a at h1 ⊢
        generalize y[i]'(hl ▸ hi) = b at h1 ⊢
        obtain ⟨⟨a0_, a1_⟩, a2_, a3_⟩ := a; obtain ⟨⟨b0_, b1_⟩, b2_, b3_⟩ := b
        simp only [S84.mk.injEq, S75.mk.injEq, not_and] at h1
        simp
        omega) (by
      refine Ev.step (fun k => by rw [impl_same_impl_Done.l0]) ?_
      refine ev_neg (by omega) ?_
      rw [List.drop_length, hl, List.drop_length]
      simp only [decide_true]
      exact ev_now _) 0 (Nat.zero_le _)
    exact ⟨_, Ev.congr (fun k => by unfold impl_same_impl_Done.f; exact if_pos (by omega)) key, by simp⟩
  · refine ⟨false, ?_, by simp; exact fun h => hl (by rw [h])⟩
    unfold impl_same_impl_Done.f
    exact ev_neg (by omega) (ev_now _)

theorem impl_CertSame_ev (a : Int) (x : List S37) (y : List S84) (b : Int) (u : List S37) (v : List S84) (hn : x.length ≤ 9223372036854775807) (hm : y.length ≤ 9223372036854775807) :
    ∃ r, Ev (fun k => impl_CertSame.f k a x y b u v) r ∧ (r = true ↔ a = b ∧ x = u ∧ y = v) := by
  obtain ⟨p, hp, hpi⟩ := sameBox_ev x u hn
  obtain ⟨q, hq, hqi⟩ := sameDone_ev y v hm
  have hb : Ev (fun k => impl_BoxSame.f k x u) p := by unfold impl_BoxSame.f; exact hp.bind (ev_now _)
  unfold impl_CertSame.f
  by_cases h0 : a = b
  case neg => exact ⟨false, ev_neg h0 (ev_now _), by simp [h0]⟩
  by_cases h1 : p = true
  case neg => exact ⟨false, ev_pos h0 (hb.bind (ev_neg h1 (ev_now _))), by simp; intro _ h; exact absurd (hpi.2 h) h1⟩
  exact ⟨q, ev_pos h0 (hb.bind (ev_pos h1 (hq.bind (ev_now _)))), by simp [h0, hpi.1 h1, hqi]⟩
theorem foldSame_ev (s : StT) (h : s.2.1.length ≤ 1000) (h2 : s.2.2.length ≤ 1000) : Ev (fun k => impl_CertSame.f k s.1 s.2.1 s.2.2 s.1 s.2.1 s.2.2) true := by
  obtain ⟨u, hu, hui⟩ := impl_CertSame_ev s.1 s.2.1 s.2.2 s.1 s.2.1 s.2.2 (by omega) (by omega)
  obtain rfl : u = true := hui.2 ⟨rfl, rfl, rfl⟩
  exact hu

/-- The bytes a draw reads, and the numbers it picks. -/
def bytesOk (s : List Int) : Prop := ∀ x ∈ s, 0 ≤ x ∧ x ≤ 255
theorem rd_byte {s : List Int} (h : bytesOk s) (i : Int) : 0 ≤ rd s i ∧ rd s i ≤ 255 := by
  unfold rd
  rw [List.getD_eq_getElem?_getD]
  cases e : s[i.toNat]? with
  | none => simp
  | some x => exact h x (List.mem_of_getElem? e)
theorem xor_nn (a b : Int) (ha : 0 ≤ a) (ha2 : a < 4611686018427387904) (hb : 0 ≤ b) (hb2 : b < 4611686018427387904) : 0 ≤ Go.bits .xor .i64 a b := by
  obtain ⟨m, rfl⟩ := Int.eq_ofNat_of_zero_le ha
  obtain ⟨n, rfl⟩ := Int.eq_ofNat_of_zero_le hb
  have hm : m < 2 ^ 62 := by omega
  have hn : n < 2 ^ 62 := by omega
  have hx := Nat.xor_lt_two_pow hm hn
  have h1 : m % 2 ^ 64 = m := by omega
  have h2 : n % 2 ^ 64 = n := by omega
  have e : (BitVec.ofNat 64 m ^^^ BitVec.ofNat 64 n).toNat = m ^^^ n := by rw [BitVec.toNat_xor, BitVec.toNat_ofNat, BitVec.toNat_ofNat, h1, h2]
  have e2 : Go.bits .xor .i64 (m : Int) (n : Int) = IntKind.i64.wrap (((BitVec.ofInt 64 (m : Int) ^^^ BitVec.ofInt 64 (n : Int)).toNat : Nat) : Int) := rfl
  rw [e2, BitVec.ofInt_natCast, BitVec.ofInt_natCast, e, IntKind.wrap_i64]
  omega
theorem tmod_in {a n : Int} (ha : 0 ≤ a) (hn : 1 ≤ n) : 0 ≤ Int.tmod a n ∧ Int.tmod a n < n := ⟨Int.tmod_nonneg _ ha, Int.tmod_lt_of_pos _ (by omega)⟩
theorem tdiv_in {a n : Int} (ha : 0 ≤ a) (hn : 1 ≤ n) : 0 ≤ Int.tdiv a n ∧ Int.tdiv a n ≤ a := by
  rw [Int.tdiv_eq_ediv_of_nonneg ha]
  exact ⟨Int.ediv_nonneg ha (by omega), Int.ediv_le_self _ ha⟩
theorem pick_ev {s : List Int} (hs : bytesOk s) (p n : Int) (hp : 0 ≤ p) (hp2 : p ≤ 1000000000000) (hl : s.length ≤ 9223372036854775807) :
    ∃ v, Ev (fun k => spec_l15Rd_pick.f k s p n) (v, p + 1) ∧ 0 ≤ v ∧ (1 ≤ n → v < n) := by
  have wp : wrap64 (p + 1) = p + 1 := wrap_id (by omega) (by omega)
  have wq : wrap64 ((p + 1) - 1) = p := by rw [Int.add_sub_cancel]; exact wrap_id (by omega) (by omega)
  unfold spec_l15Rd_pick.f
  rw [wp]
  by_cases h1 : n < 1
  · refine ⟨0, ev_pos h1 (Ev.step (fun k => by rw [spec_l15Rd_pick.j0]) ?_), by omega, by omega⟩
    exact ev_pos rfl (ev_now _)
  by_cases h2 : s.length = 0
  · refine ⟨0, ev_neg h1 (Ev.step (fun k => by rw [spec_l15Rd_pick.j0]) ?_), by omega, by omega⟩
    exact ev_pos (by simp [h2]) (ev_now _)
  have hf : ¬ (((s.length : Int) == 0) = true) := by simp; intro h; exact h2 (by rw [h]; rfl)
  by_cases h3 : p < s.length
  · have hb := rd_byte hs p
    have wv : wrap64 (rd s p) = rd s p := wrap_id (by omega) (by omega)
    have ht := tmod_in (a := rd s p) (n := n) hb.1 (by omega)
    refine ⟨Int.tmod (rd s p) n, ev_neg h1 (Ev.step (fun k => by rw [spec_l15Rd_pick.j0]) ?_), ht.1, fun _ => ht.2⟩
    rw [wq, wv]
    exact ev_neg hf (ev_pos h3 (ev_pos hp (ev_neg (by omega) (ev_now _))))
  have q1 := tmod_in (a := p) (n := s.length) hp (by omega)
  have w7 : wrap64 (p * 7) = p * 7 := wrap_id (by omega) (by omega)
  have w8 : wrap64 (p * 7 + 3) = p * 7 + 3 := wrap_id (by omega) (by omega)
  have q2 := tmod_in (a := p * 7 + 3) (n := s.length) (by omega) (by omega)
  have b1 := rd_byte hs (Int.tmod p s.length)
  have b2 := rd_byte hs (Int.tmod (p * 7 + 3) s.length)
  have d1 := tdiv_in (a := p) (n := s.length) hp (by omega)
  generalize hx : rd s (Int.tmod p s.length) = x at b1
  generalize hy : rd s (Int.tmod (p * 7 + 3) s.length) = y at b2
  generalize hd : Int.tdiv p s.length = d at d1
  have v1 : wrap64 x = x := wrap_id (by omega) (by omega)
  have v2 : wrap64 (x * 131) = x * 131 := wrap_id (by omega) (by omega)
  have v3 : wrap64 y = y := wrap_id (by omega) (by omega)
  have v4 : wrap64 (y * 1117) = y * 1117 := wrap_id (by omega) (by omega)
  have v5 : wrap64 (x * 131 + y * 1117) = x * 131 + y * 1117 := wrap_id (by omega) (by omega)
  have v6 : wrap64 (p * 29) = p * 29 := wrap_id (by omega) (by omega)
  have v7 : wrap64 (x * 131 + y * 1117 + p * 29) = x * 131 + y * 1117 + p * 29 := wrap_id (by omega) (by omega)
  have v8 : wrap64 d = d := wrap_id (by omega) (by omega)
  have v9 : wrap64 (d * 53) = d * 53 := wrap_id (by omega) (by omega)
  have v10 : wrap64 (x * 131 + y * 1117 + p * 29 + d * 53) = x * 131 + y * 1117 + p * 29 + d * 53 := wrap_id (by omega) (by omega)
  generalize hz : x * 131 + y * 1117 + p * 29 + d * 53 = z at v10
  have z0 : 0 ≤ z := by omega
  have z1 : z < 4611686018427387904 := by omega
  have d2 := tdiv_in (a := z) (n := 64) z0 (by omega)
  have v11 : wrap64 (Int.tdiv z 64) = Int.tdiv z 64 := wrap_id (by omega) (by omega)
  have hxo := xor_nn z (Int.tdiv z 64) z0 z1 d2.1 (by omega)
  have ht := tmod_in (a := Go.bits .xor .i64 z (Int.tdiv z 64)) (n := n) hxo (by omega)
  refine ⟨Int.tmod (Go.bits .xor .i64 z (Int.tdiv z 64)) n, ev_neg h1 (Ev.step (fun k => by rw [spec_l15Rd_pick.j0]) ?_), ht.1, fun _ => ht.2⟩
  rw [wq, w7, w8, hx, hy, hd, v1, v2, v3, v4, v5, v6, v7, v8, v9, hz, v10, v11]
  exact ev_neg hf (ev_neg h3 (ev_neg (by omega) (ev_pos q1.1 (ev_pos q1.2 (ev_pos q2.1 (ev_pos q2.2 (ev_neg (by omega) (ev_now _))))))))
theorem open_some (l : List Int) (hl : bytesOk l) : ∃ s, spec_l15Open.f l = some (s, 0) ∧ bytesOk s ∧ s.length ≤ 2000 := by
  unfold spec_l15Open.f
  by_cases h : (l.length : Int) > 2000
  · refine ⟨l.take 2000, by rw [if_pos h, if_pos (by omega)], fun x hx => hl x (List.mem_of_mem_take hx), by rw [List.length_take]; omega⟩
  · exact ⟨l, by rw [if_neg h], hl, by omega⟩
theorem bytes_wf {l : List Int} (h : ∀ x ∈ l, (Lit.int .u8 x).wf = true) : bytesOk l := by
  intro x hx
  have := h x hx
  simp [Lit.wf, IntKind.min, IntKind.max, IntKind.bits, IntKind.signed] at this
  omega

/-- What comes of a reckoning, told by a property. -/
def Dr {α : Type} (F : Nat → Option α) (Q : α → Prop) : Prop := ∃ v, Ev F v ∧ Q v
theorem Dr.bind {α β : Type} {F : Nat → Option α} {G : Nat → α → Option β} {Q : α → Prop} {R : β → Prop} (h : Dr F Q) (k : ∀ v, Q v → Dr (fun n => G n v) R) : Dr (fun n => (F n).bind (G n)) R := by
  obtain ⟨v, hv, q⟩ := h
  obtain ⟨u, hu, r⟩ := k v q
  exact ⟨u, hv.bind hu, r⟩
theorem Dr.now {α : Type} {R : α → Prop} {v : α} (h : R v) : Dr (fun _ => some v) R := ⟨v, ev_now v, h⟩
theorem Dr.pos {α : Type} {c : Prop} [Decidable c] {f g : Nat → Option α} {R : α → Prop} (h : c) (d : Dr f R) : Dr (fun k => if c then f k else g k) R := by
  obtain ⟨v, hv, q⟩ := d; exact ⟨v, ev_pos h hv, q⟩
theorem Dr.neg {α : Type} {c : Prop} [Decidable c] {f g : Nat → Option α} {R : α → Prop} (h : ¬ c) (d : Dr g R) : Dr (fun k => if c then f k else g k) R := by
  obtain ⟨v, hv, q⟩ := d; exact ⟨v, ev_neg h hv, q⟩
theorem Dr.ite {α : Type} {c : Prop} [Decidable c] {f g : Nat → Option α} {R : α → Prop} (h1 : c → Dr f R) (h2 : ¬ c → Dr g R) : Dr (fun k => if c then f k else g k) R := by
  by_cases h : c
  · exact Dr.pos h (h1 h)
  · exact Dr.neg h (h2 h)
theorem Dr.mono {α : Type} {F : Nat → Option α} {Q R : α → Prop} (h : Dr F Q) (k : ∀ v, Q v → R v) : Dr F R := by
  obtain ⟨v, hv, q⟩ := h; exact ⟨v, hv, k v q⟩
theorem Dr.step {α : Type} {F G : Nat → Option α} {R : α → Prop} (h : ∀ k, F (k + 1) = G k) (d : Dr G R) : Dr F R := by
  obtain ⟨v, hv, q⟩ := d; exact ⟨v, Ev.step h hv, q⟩
theorem Dr.of {α : Type} {g : Option α} {a : α} {R : α → Prop} (h : g = some a) (r : R a) : Dr (fun _ => g) R := ⟨a, ev_const h, r⟩
theorem pick_dr {s : List Int} (hs : bytesOk s) (p n : Int) (hp : 0 ≤ p) (hp2 : p ≤ 1000000000000) (hl : s.length ≤ 9223372036854775807) :
    Dr (fun k => spec_l15Rd_pick.f k s p n) (fun r => 0 ≤ r.1 ∧ (1 ≤ n → r.1 < n) ∧ r.2 = p + 1) := by
  obtain ⟨v, hv, h0, h1⟩ := pick_ev hs p n hp hp2 hl
  exact ⟨_, hv, h0, h1, rfl⟩

theorem num_ev {s : List Int} (hs : bytesOk s) (p : Int) (l : List Int) (hp : 0 ≤ p) (hp2 : p ≤ 1000000000000) (hl : s.length ≤ 9223372036854775807) (h0 : 0 < l.length) (h1 : l.length ≤ 1000000) :
    ∃ v, Ev (fun k => spec_l15Rd_num.f k s p l) (v, p + 1) ∧ v ∈ l := by
  obtain ⟨i, hi, i0, i1⟩ := pick_ev hs p l.length hp hp2 hl
  obtain ⟨j, rfl⟩ := Int.eq_ofNat_of_zero_le i0
  have hj : j < l.length := by have := i1 (by omega); omega
  refine ⟨l[j], ?_, List.getElem_mem hj⟩
  unfold spec_l15Rd_num.f
  refine hi.bind (ev_pos i0 (ev_pos (lt_cast hj) ?_))
  rw [rd_i hj]
  exact ev_now _

theorem num_dr {s : List Int} (hs : bytesOk s) (p : Int) (l : List Int) (hp : 0 ≤ p) (hp2 : p ≤ 1000000000000) (hl : s.length ≤ 9223372036854775807) (h0 : 0 < l.length) (h1 : l.length ≤ 1000000) :
    Dr (fun k => spec_l15Rd_num.f k s p l) (fun r => r.1 ∈ l ∧ r.2 = p + 1) := by
  obtain ⟨v, hv, h⟩ := num_ev hs p l hp hp2 hl h0 h1
  exact ⟨_, hv, h, rfl⟩

def insSmall (b : S95) : Prop := -2000000 ≤ b.f0 ∧ b.f0 ≤ 2000000 ∧ -2000000 ≤ b.f1 ∧ b.f1 ≤ 2000000 ∧ -2000000 ≤ b.f2 ∧ b.f2 ≤ 2000000 ∧ -2000000 ≤ b.f3 ∧ b.f3 ≤ 2000000
theorem l2Any_dr {s : List Int} (hs : bytesOk s) (p : Int) (hp : 0 ≤ p) (hp2 : p ≤ 100000000000) (hl : s.length ≤ 9223372036854775807) :
    Dr (fun k => spec_l2Any.f k s p) (fun r => insSmall ⟨r.1, r.2.1, r.2.2.1, r.2.2.2.1⟩ ∧ p ≤ r.2.2.2.2 ∧ r.2.2.2.2 ≤ p + 6) := by
  unfold spec_l2Any.f
  refine (num_dr hs p _ hp (by omega) hl (by simp) (by simp)).bind fun r1 h1 => ?_
  obtain ⟨h1, e1⟩ := h1
  simp only [List.mem_cons, List.not_mem_nil, or_false] at h1
  refine (pick_dr hs r1.2 _ (by omega) (by omega) hl).bind fun r2 h2 => ?_
  refine (pick_dr hs r2.2 _ (by omega) (by omega) hl).bind fun r3 h3 => ?_
  refine Dr.ite (fun c => ?_) (fun c => Dr.ite (fun d => ?_) (fun d => Dr.ite (fun e => ?_) (fun e => ?_)))
  · refine (num_dr hs r3.2 _ (by omega) (by omega) hl (by simp) (by simp)).bind fun r4 h4 => Dr.now ?_
    obtain ⟨h4, e4⟩ := h4
    simp only [List.mem_cons, List.not_mem_nil, or_false] at h4
    unfold insSmall; simp only; omega
  · refine (pick_dr hs r3.2 _ (by omega) (by omega) hl).bind fun r4 h4 => Dr.now ?_
    have : wrap64 (1 + r4.1) = 1 + r4.1 := wrap_id (by omega) (by omega)
    unfold insSmall; simp only [this]; omega
  · refine (pick_dr hs r3.2 _ (by omega) (by omega) hl).bind fun r4 h4 => Dr.ite (fun f => ?_) (fun f => Dr.now ?_)
    · refine (pick_dr hs r4.2 _ (by omega) (by omega) hl).bind fun r5 h5 => ?_
      refine (pick_dr hs r5.2 _ (by omega) (by omega) hl).bind fun r6 h6 => Dr.now ?_
      unfold insSmall; simp only; omega
    · unfold insSmall; simp only; omega
  · refine Dr.now ?_
    unfold insSmall; simp only; omega
theorem l2Prog_l0 {s : List Int} (hs : bytesOk s) (hl : s.length ≤ 9223372036854775807) : ∀ (d : Nat) (l : List S95) (p : Int), d ≤ 100 → l.length + d ≤ 1000 → (∀ b ∈ l, insSmall b) → 0 ≤ p → p + 6 * d ≤ 90000000000 →
    Dr (fun k => spec_l2Prog.l0 k l d s p) (fun r => r.1.length = l.length + d ∧ (∀ b ∈ r.1, insSmall b) ∧ p ≤ r.2 ∧ r.2 ≤ p + 6 * d) := by
  intro d
  induction d with
  | zero =>
    intro l p _ _ hb _ _
    refine Dr.step (fun k => by rw [spec_l2Prog.l0]) ?_
    exact Dr.neg (by omega) (Dr.now ⟨by simp, hb, by simp, by simp⟩)
  | succ d ih =>
    intro l p hd hn hb h0 h1
    refine Dr.step (fun k => by rw [spec_l2Prog.l0]) ?_
    refine Dr.pos (by omega) ((l2Any_dr hs p h0 (by omega) hl).bind fun r hr => Dr.pos (by omega) ?_)
    have hw : wrap64 (((d + 1 : Nat) : Int) - 1) = (d : Int) := by
      rw [show ((d + 1 : Nat) : Int) - 1 = (d : Int) by omega]
      exact wrap_id (by omega) (by omega)
    rw [hw]
    refine (ih (l ++ [(⟨r.1, r.2.1, r.2.2.1, r.2.2.2.1⟩ : S95)]) r.2.2.2.2 (by omega) (by simp; omega) ?_ (by omega) (by omega)).mono fun v hv => ⟨by rw [hv.1]; simp; omega, hv.2.1, by omega, by omega⟩
    intro b hb2
    rcases List.mem_append.1 hb2 with h | h
    · exact hb b h
    · rw [List.mem_singleton.1 h]; exact hr.1
theorem l2Prog_dr {s : List Int} (hs : bytesOk s) (p : Int) (hp : 0 ≤ p) (hp2 : p ≤ 10000000000) (hl : s.length ≤ 9223372036854775807) :
    Dr (fun k => spec_l2Prog.f k s p) (fun r => r.1.length ≤ 7 ∧ (∀ b ∈ r.1, insSmall b) ∧ p ≤ r.2 ∧ r.2 ≤ p + 50) := by
  unfold spec_l2Prog.f
  refine (pick_dr hs p _ hp (by omega) hl).bind fun r1 h1 => Dr.ite (fun c => ?_) (fun c => ?_)
  · refine (pick_dr hs r1.2 _ (by omega) (by omega) hl).bind fun r2 h2 => ?_
    refine (pick_dr hs r2.2 _ (by omega) (by omega) hl).bind fun r3 h3 => ?_
    refine (pick_dr hs r3.2 _ (by omega) (by omega) hl).bind fun r4 h4 => Dr.now ?_
    have hw : wrap64 (1 + r4.1) = 1 + r4.1 := wrap_id (by omega) (by omega)
    refine ⟨by simp, ?_, by omega, by omega⟩
    intro b hb
    simp only [List.mem_cons, List.not_mem_nil, or_false, hw] at hb
    rcases hb with rfl | rfl | rfl | rfl <;> (unfold insSmall; simp only; omega)
  · refine (pick_dr hs r1.2 _ (by omega) (by omega) hl).bind fun r2 h2 => ?_
    have h3 := h2.2.1 (by omega)
    obtain ⟨d, hd⟩ := Int.eq_ofNat_of_zero_le h2.1
    rw [hd] at h3 ⊢
    refine (l2Prog_l0 hs hl d [] r2.2 (by omega) (by simp; omega) (by simp) (by omega) (by omega)).mono fun v hv => ⟨by rw [hv.1]; simp; omega, hv.2.1, by omega, by omega⟩
theorem runP_len (l : List S37) (p : List S95) : ∀ (f i : Nat) (g : List Int) (x : List S39) (y : List S82), (runP l p f i g x y).1.length ≤ x.length + f ∧ (runP l p f i g x y).2.1.length ≤ y.length + f := by
  intro f
  induction f with
  | zero => intro i g x y; exact ⟨Nat.le_refl _, Nat.le_refl _⟩
  | succ f ih =>
    intro i g x y
    have done : ∀ (c : Int), ((x, [], 0, c) : RunT).1.length ≤ x.length + (f + 1) ∧ ((x, [], 0, c) : RunT).2.1.length ≤ y.length + (f + 1) := by
      intro c; simp
    have go : ∀ i' g' (x' : List S39) (y' : List S82), x'.length ≤ x.length + 1 → y'.length ≤ y.length + 1 → (runP l p f i' g' x' y').1.length ≤ x.length + (f + 1) ∧ (runP l p f i' g' x' y').2.1.length ≤ y.length + (f + 1) := by
      intro i' g' x' y' h1 h2
      have := ih i' g' x' y'
      omega
    unfold runP
    by_cases hin : i < p.length
    case neg => rw [if_neg hin]; simp
    rw [if_pos hin]
    simp only
    split
    · exact go _ _ _ _ (look_len _ _ _ _) (by omega)
    split
    · exact go _ _ _ _ (by omega) (putP_len _ _ _)
    split
    · exact go _ _ _ _ (by omega) (by omega)
    split
    · split
      · exact go _ _ _ _ (by omega) (by omega)
      · exact done 2
    split
    · split
      · exact go _ _ _ _ (by omega) (by omega)
      · exact done 2
    split
    · exact go _ _ _ _ (by omega) (by omega)
    · exact done 1
theorem runOf_len (l : List S37) (p : List S95) : (runOf l p).1.length ≤ 12 ∧ (runOf l p).2.1.length ≤ 12 := by
  unfold runOf
  by_cases h : boxOk l ∧ progOk p
  · rw [if_pos h]
    have := runP_len l p 12 0 [0, 0, 0, 0] [] []
    simpa using this
  · rw [if_neg h]; simp

theorem l5Any_dr {s : List Int} (hs : bytesOk s) (p : Int) (l : List S37) (hp : 0 ≤ p) (hp2 : p ≤ 100000000) (hl : s.length ≤ 9223372036854775807) (hx : l.length ≤ 1000000) :
    Dr (fun k => spec_l5Any.f k s p l) (fun r => r.2.2.2.1.length ≤ 12 ∧ r.2.2.2.2.1.length ≤ 12 ∧ p ≤ r.2.2.2.2.2.2.2 ∧ r.2.2.2.2.2.2.2 ≤ p + 60 ∧ ((0 ≤ r.2.2.1 ∧ r.2.2.1 ≤ 6) ∨ r.2.2.1 = 1001)) := by
  unfold spec_l5Any.f
  refine (pick_dr hs p 8 (by omega) (by omega) hl).bind fun r1 h1 => Dr.ite (fun _ => Dr.now ⟨by simp, by simp, by simp only; omega, by simp only; omega, by simp⟩) (fun _ => ?_)
  refine (pick_dr hs r1.2 3 (by omega) (by omega) hl).bind fun r2 h2 => ?_
  refine (pick_dr hs r2.2 6 (by omega) (by omega) hl).bind fun r3 h3 => ?_
  refine (l2Prog_dr hs r3.2 (by omega) (by omega) hl).bind fun r4 h4 => ?_
  have hu := spec_ExecRun_ev l r4.1 (by omega) (by omega)
  have hlen := runOf_len l r4.1
  generalize runOf l r4.1 = u at hu hlen
  refine Dr.bind (Q := fun r => r = u) ⟨_, hu, rfl⟩ fun r5 h5 => ?_
  subst h5
  refine (pick_dr hs r4.2 40 (by omega) (by omega) hl).bind fun r6 h6 => ?_
  refine Dr.ite (fun _ => ?_) (fun _ => Dr.ite (fun _ => ?_) (fun _ => Dr.ite (fun _ => ?_) (fun _ => ?_)))
  · exact (num_dr hs r6.2 _ (by omega) (by omega) hl (by simp) (by simp)).bind fun r7 h7 => Dr.now ⟨hlen.1, hlen.2, by simp only; omega, by simp only; omega, by
      have h8 : r7.1 = 0 ∨ r7.1 = 1001 := by simpa using h7.1
      simp only; omega⟩
  · exact Dr.now ⟨hlen.1, hlen.2, by simp only; omega, by simp only; omega, .inl (by have e := wrap_id (a := 1 + r3.1) (by omega) (by omega); simp only; rw [e]; omega)⟩
  · exact Dr.now ⟨hlen.1, hlen.2, by simp only; omega, by simp only; omega, .inl (by have e := wrap_id (a := 1 + r3.1) (by omega) (by omega); simp only; rw [e]; omega)⟩
  · exact Dr.now ⟨hlen.1, hlen.2, by simp only; omega, by simp only; omega, .inl (by have e := wrap_id (a := 1 + r3.1) (by omega) (by omega); simp only; rw [e]; omega)⟩
theorem l5Put_l0 (y : List S84) (p q c v : Int) (hn : y.length ≤ 1000000000000) : ∀ (d i : Nat) (o : List S84) (b : Bool), i + d = y.length → o.length + 2 * d + 1 ≤ 3000000000000 →
    Ev (fun k => spec_l5Put.l0 k y o b (i : Int) p q c v) (o ++ putD ⟨⟨p, q⟩, c, v⟩ b (y.drop i)) := by
  intro d
  induction d with
  | zero =>
    intro i o b hi ho
    obtain rfl : i = y.length := by omega
    refine Ev.step (fun k => by rw [spec_l5Put.l0]) ?_
    refine ev_neg (by omega) ?_
    rw [List.drop_length]
    cases b
    · exact ev_neg (by simp) (ev_pos (by omega) (by simp only [putD, Bool.false_eq_true, if_false]; exact ev_now _))
    · exact ev_pos rfl (by simp only [putD, if_true, List.append_nil]; exact ev_now _)
  | succ d ih =>
    intro i o b hd ho
    have hi : i < y.length := by omega
    have hw := wrap_succ hi (n := y.length) (by omega)
    rw [List.drop_eq_getElem_cons hi]
    have tail : ∀ (o : List S84) (b b' : Bool), (b = false → ¬ p ≤ (y[i]).f0.f0) → b' = b → o.length + 2 * d + 2 ≤ 3000000000000 → Ev (fun k => spec_l5Put.j1 k y o b (i : Int) false p q c v) (o ++ ((if (y[i]).f0.f0 = p then [] else [y[i]]) ++ putD ⟨⟨p, q⟩, c, v⟩ b' (y.drop (i + 1)))) := by
      intro o b b' hb hb' ho
      subst hb'
      refine Ev.step (fun k => by rw [spec_l5Put.j1]) ?_
      refine ev_neg (by simp) (ev_pos (nn_cast i) (ev_pos (lt_cast hi) ?_))
      rw [rdi_Done hi, hw]
      refine ev_ite (fun e => ?_) (fun e => ?_)
      · rw [if_pos e, List.nil_append]; exact ih (i + 1) o _ (by omega) (by omega)
      · rw [if_neg e, ← List.append_assoc]
        exact ev_pos (by omega) (ih (i + 1) (o ++ [y[i]]) _ (by omega) (by simp only [List.length_append, List.length_singleton]; omega))
    refine Ev.step (fun k => by rw [spec_l5Put.l0]) ?_
    refine ev_pos (lt_cast hi) ?_
    unfold putD
    cases b with
    | true =>
      refine ev_pos rfl ?_
      have := tail o true true (by simp) rfl (by omega)
      simpa using this
    | false =>
      refine ev_neg (by simp) (ev_pos (nn_cast i) ?_)
      rw [rdi_Done hi]
      by_cases c1 : p ≤ (y[i]).f0.f0
      · have e1 : decide ((y[i]).f0.f0 ≥ p) = true := decide_eq_true c1
        rw [e1]
        refine Ev.step (fun k => by rw [spec_l5Put.j1]) ?_
        refine ev_pos rfl (ev_pos (by omega) (ev_get rfl (ev_pos (nn_cast i) (ev_pos (lt_cast hi) ?_))))
        rw [rdi_Done hi, hw]
        simp only [c1, and_self, if_true, decide_true, Bool.or_true]
        refine ev_ite (fun e => ?_) (fun e => ?_)
        · rw [if_pos e, List.nil_append, ← List.append_assoc]; exact ih (i + 1) (o ++ [⟨⟨p, q⟩, c, v⟩]) true (by omega) (by simp only [List.length_append, List.length_singleton]; omega)
        · rw [if_neg e, ← List.append_assoc, ← List.append_assoc]
          refine ev_pos (by simp only [List.length_append, List.length_singleton]; omega) ?_
          exact ih (i + 1) (o ++ [⟨⟨p, q⟩, c, v⟩] ++ [y[i]]) true (by omega) (by simp only [List.length_append, List.length_singleton]; omega)
      · have e1 : decide ((y[i]).f0.f0 ≥ p) = false := decide_eq_false c1
        rw [e1]
        have := tail o false false (fun _ => c1) rfl (by omega)
        simpa [c1] using this
theorem l5Put_ev (y : List S84) (p q c v : Int) (hn : y.length ≤ 1000000000000) : Ev (fun k => spec_l5Put.f k y p q c v) (putD ⟨⟨p, q⟩, c, v⟩ false y) := by
  unfold spec_l5Put.f
  simpa using l5Put_l0 y p q c v hn y.length 0 [] false (by omega) (by simp; omega)
def lastT (o : Option S84) : Int × Int × Int × Int × Bool := match o with | some d => (d.f0.f0, d.f0.f1, d.f1, d.f2, true) | none => (0, 0, 0, 0, false)
theorem l5Last_ev (a w : Int) (x : List S37) (y : List S84) (hn : y.length ≤ 1000000000000) : Ev (fun k => spec_l5Last.f k a x y w) (lastT (lastD y w)) := by
  have key : ∀ (d i : Nat), i + d = y.length → Ev (fun k => spec_l5Last.l0 k w (i : Int) a x y) (lastT (lastD (y.drop i) w)) := by
    intro d
    induction d with
    | zero =>
      intro i hi
      obtain rfl : i = y.length := by omega
      refine Ev.step (fun k => by rw [spec_l5Last.l0]) ?_
      rw [List.drop_length]
      exact ev_neg (by omega) (ev_now _)
    | succ d ih =>
      intro i hd
      have hi : i < y.length := by omega
      refine Ev.step (fun k => by rw [spec_l5Last.l0]) ?_
      refine ev_pos (lt_cast hi) (ev_pos (nn_cast i) ?_)
      rw [rdi_Done hi, wrap_succ hi (by omega), List.drop_eq_getElem_cons hi]
      unfold lastD
      rw [List.find?_cons]
      refine ev_ite (fun e => ?_) (fun e => ?_)
      · rw [decide_eq_true e]; exact ev_now _
      · rw [decide_eq_false e]; exact ih (i + 1) (by omega)
  unfold spec_l5Last.f
  simpa using key y.length 0 (by omega)

theorem spec_ExecFresh_ev (l : List S37) (x : List S39) (y : List S82) (a b : Int) (hl : l.length ≤ 9223372036854775807) (hn : x.length ≤ 9223372036854775807) (hm : y.length ≤ 9223372036854775807) :
    ∃ v, Ev (fun k => spec_ExecFresh.f k l x y a b) v ∧ (v = true ↔ freshOk l x y a b) := by
  classical
  obtain ⟨u, hu, hui⟩ := spec_BoxOk_ev l hl
  obtain ⟨w, hw, hwi⟩ := spec_ExecOk_ev x y a b hn hm
  have yes : Ev (fun k => spec_ExecFresh.j0 k l true x y a b) false := by
    refine Ev.step (fun k => by rw [spec_ExecFresh.j0]) ?_
    exact ev_pos rfl (ev_now _)
  unfold spec_ExecFresh.f
  by_cases h1 : u = true
  case neg => exact ⟨false, hu.bind (ev_neg h1 yes), by simp only [Bool.false_eq_true, false_iff]; exact fun h => h1 (hui.2 h.1)⟩
  cases w with
  | false => exact ⟨false, hu.bind (ev_pos h1 (hw.bind yes)), by simp only [Bool.false_eq_true, false_iff]; exact fun h => by have := hwi.2 h.2.1; cases this⟩
  | true =>
    have hb := hui.1 h1
    have hr := hwi.1 rfl
    have key := ev_loop x.length (fun i k => spec_ExecFresh.l0 k l (i : Int) x y a b) (fun i => decide (∀ r ∈ x.drop i, (rd_T37 l r.f0).f0 = r.f1)) (fun i hi ih => by
      have hx := runOk_reads hr i hi
      refine Ev.step (fun k => by rw [spec_ExecFresh.l0]) ?_
      refine ev_pos (lt_cast hi) (ev_pos (nn_cast i) ?_)
      rw [rdi_Read hi, wrap_succ hi hn]
      have hs := mem_split (p := fun r : S39 => (rd_T37 l r.f0).f0 = r.f1) hi
      simp only [hs]
      refine ev_pos hx.1 (ev_pos (by have := hb.1; omega) (ev_ite (fun c => ?_) (fun c => ?_)))
      · simp only [c, true_and]; exact ih
      · simp only [c, false_and, decide_false]; exact ev_now _) (by
      refine Ev.step (fun k => by rw [spec_ExecFresh.l0]) ?_
      refine ev_neg (by omega) ?_
      simp only [List.drop_length, List.not_mem_nil, false_implies, implies_true, decide_true]
      exact ev_now _) 0 (Nat.zero_le _)
    refine ⟨decide (∀ r ∈ x.drop 0, (rd_T37 l r.f0).f0 = r.f1), hu.bind (ev_pos h1 (hw.bind ?_)), ?_⟩
    · refine Ev.step (fun k => by rw [spec_ExecFresh.j0]) ?_
      exact ev_neg (by simp) key
    · rw [decide_eq_true_iff]
      exact ⟨fun h => ⟨hb, hr, h⟩, fun h => h.2.2⟩

theorem l1Min_some (a b : Int) : spec_l1Min.f a b = some (mn a b) := by
  unfold spec_l1Min.f mn
  by_cases h : a < b
  · rw [if_pos h, if_neg (by omega)]
  · rw [if_neg h]
    by_cases g : b < a
    · rw [if_pos g]
    · rw [if_neg g]; congr 1; omega
theorem l3Do_ev (x : List S39) (y : List S82) (a b : Int) (hr : runOk x y a b) (hm : y.length ≤ 9223372036854775807) (l : List S37) (hl : l.length = 4) : Ev (fun k => spec_l3Do.f k l x y a b) (y.foldl put1 l) := by
  have key : ∀ d i (l : List S37), i + d = y.length → l.length = 4 → Ev (fun k => spec_l3Do.l0 k l (i : Int) x y a b) ((y.drop i).foldl put1 l) := by
    intro d
    induction d with
    | zero =>
      intro i l hi h4
      obtain rfl : i = y.length := by omega
      refine Ev.step (fun k => by rw [spec_l3Do.l0]) ?_
      refine ev_neg (by omega) ?_
      rw [List.drop_length]
      exact ev_now _
    | succ d ih =>
      intro i l hd h4
      have hi : i < y.length := by omega
      have hp := runOk_puts hr i hi
      refine Ev.step (fun k => by rw [spec_l3Do.l0]) ?_
      refine ev_pos (lt_cast hi) (ev_pos (nn_cast i) ?_)
      rw [rdi_Put hi, wrap_succ hi hm, List.drop_eq_getElem_cons hi, List.foldl_cons]
      refine ev_pos hp.1 (ev_pos (by omega) (ev_get (l1Min_some _ _) ?_))
      exact ih (i + 1) _ (by omega) (by rw [List.length_set]; exact h4)
  unfold spec_l3Do.f
  simpa using key y.length 0 l (by omega) hl

theorem l5New_ev (a : Int) (x : List S37) (y : List S84) (e : Bool) (p q : Int) (rx : List S39) (ry : List S82) (v c : Int) (hx : x.length ≤ 1000000000000) (hy : y.length ≤ 1000000000000) (hr : rx.length ≤ 1000000000000) (hp : ry.length ≤ 1000000000000) :
    Ev (fun k => spec_l5Apply.j1 k a x y e p q rx ry v c) (apNew a x y p q rx ry v c) := by
  obtain ⟨u, hu, hui⟩ := spec_ExecFresh_ev x rx ry v c (by omega) (by omega) (by omega)
  refine Ev.step (fun k => by rw [spec_l5Apply.j1]) (hu.bind ?_)
  have put : ∀ c2 v2, Ev (fun k => spec_l5Apply.j3 k false a x y e p q rx ry v c p q c2 v2) (a, x, putD ⟨⟨p, q⟩, c2, v2⟩ false y, c2) := fun c2 v2 => by
    refine Ev.step (fun k => by rw [spec_l5Apply.j3]) (ev_neg (by simp) ((l5Put_ev y p q c2 v2 hy).bind (ev_now _)))
  unfold apNew
  refine ev_ite (fun h => ?_) (fun h => ?_)
  · have hf := hui.1 h
    rw [if_pos hf]
    refine Ev.step (fun k => by rw [spec_l5Apply.j2]) (ev_pos rfl ?_)
    by_cases hc : c = 0
    · rw [if_pos hc]
      have e1 : (c == 0) = true := by simp [hc]
      rw [e1]
      refine Ev.step (fun k => by rw [spec_l5Apply.j3]) (ev_pos rfl ((l3Do_ev rx ry v c hf.2.1 (by omega) x hf.1.1).bind ?_))
      exact (l5Put_ev y p q 0 v hy).bind (ev_now _)
    · rw [if_neg hc]
      have e1 : (c == 0) = false := by simp [hc]
      rw [e1]; exact put 2 0
  · rw [if_neg (fun g => h (hui.2 g))]
    exact Ev.step (fun k => by rw [spec_l5Apply.j2]) (ev_neg (by omega) (put 1 0))
theorem l5Apply_ev (a : Int) (x : List S37) (y : List S84) (e : Bool) (p q : Int) (rx : List S39) (ry : List S82) (v c : Int) (a0 : -1000000000000 ≤ a) (a1 : a ≤ 1000000000000) (hx : x.length ≤ 1000000000000) (hy : y.length ≤ 1000000000000) (hr : rx.length ≤ 1000000000000) (hp : ry.length ≤ 1000000000000) :
    Ev (fun k => spec_l5Apply.f k a x y e p q rx ry v c) (apOf (a + 1) x y e p q rx ry v c) := by
  unfold spec_l5Apply.f apOf
  have hw : wrap64 (a + 1) = a + 1 := wrap_id (by omega) (by omega)
  rw [hw]
  refine ev_ite (fun h => ?_) (fun h => ?_)
  · rw [if_pos h]; exact ev_now _
  rw [if_neg h]
  refine (l5Last_ev (a + 1) p x y hy).bind ?_
  cases hd : lastD y p with
  | none =>
    refine ev_neg (by simp [lastT]) ?_
    refine Ev.step (fun k => by rw [spec_l5Apply.j0]) (ev_neg (by simp) (ev_neg (by simp [lastT]) ?_))
    exact l5New_ev (a + 1) x y e p q rx ry v c hx hy hr hp
  | some d =>
    have ep := lastD_who hd
    simp only [lastT]
    refine ev_pos (by simp) ?_
    have e1 : (d.f0.f0 == p && (d.f0.f1 == q)) = decide (d.f0.f1 = q) := by simp [ep]; rfl
    rw [e1]
    refine Ev.step (fun k => by rw [spec_l5Apply.j0]) ?_
    by_cases c1 : d.f0.f1 = q
    · rw [if_pos c1]; exact ev_pos (decide_eq_true c1) (ev_now _)
    · rw [if_neg c1]
      refine ev_neg (by simp [c1]) (ev_pos (by simp) (ev_ite (fun c2 => ?_) (fun c2 => ?_)))
      · rw [if_pos c2]; exact ev_now _
      · rw [if_neg (show ¬ q < d.f0.f1 from c2)]; exact l5New_ev (a + 1) x y e p q rx ry v c hx hy hr hp

theorem openS : spec_CertOpen.f = some (0, List.replicate 4 z37, []) := by unfold spec_CertOpen.f spec_BoxOpen.f; rw [if_pos (by omega)]; rfl
theorem spec_CertFold_ev (l : List S77) (hn : l.length ≤ 1000000) (hl : ∀ t ∈ l, entLen t) : Ev (fun k => spec_CertFold.f k l) (foldOf l) := by
  classical
  have key : ∀ (d i : Nat) (s : StT), i + d = l.length → 0 ≤ s.1 → s.1 + d ≤ 1000 → s.2.1.length ≤ 4 → s.2.2.length + d ≤ 1000 →
      Ev (fun k => spec_CertFold.l0 k l (i : Int) s.1 s.2.1 s.2.2) (if ∀ t ∈ l.drop i, entOk t then foldS s (l.drop i) else (0, [], [])) := by
    intro d
    induction d with
    | zero =>
      intro i s hi _ _ _ _
      obtain rfl : i = l.length := by omega
      refine Ev.step (fun k => by rw [spec_CertFold.l0]) ?_
      refine ev_neg (by omega) ?_
      rw [List.drop_length, if_pos (fun t ht => by simp at ht)]; exact ev_now _
    | succ d ih =>
      intro i s hd h0 h1 h2 h3
      have hi : i < l.length := by omega
      have hL := hl _ (List.getElem_mem hi)
      unfold entLen at hL
      obtain ⟨u, hu, hui⟩ := spec_CertEntry_ev (l[i]).f0 (l[i]).f1.f0 (l[i]).f1.f1 (l[i]).f2.f0 (l[i]).f2.f1 (l[i]).f2.f2 (l[i]).f2.f3 (by omega) (by omega)
      have e1 := l5Apply_ev s.1 s.2.1 s.2.2 (l[i]).f0 (l[i]).f1.f0 (l[i]).f1.f1 (l[i]).f2.f0 (l[i]).f2.f1 (l[i]).f2.f2 (l[i]).f2.f3 (by omega) (by omega) (by omega) (by omega) (by omega) (by omega)
      have g := stepS_len s l[i]
      have ga := stepS_at s l[i]
      refine Ev.step (fun k => by rw [spec_CertFold.l0]) ?_
      refine ev_pos (lt_cast hi) (ev_pos (nn_cast i) ?_)
      rw [rdi_Entry hi, wrap_succ hi (n := l.length) (by omega)]
      have hs := mem_split (p := entOk) hi
      simp only [hs]
      refine hu.bind (ev_ite (fun c => ?_) (fun c => ?_))
      · have h := ih (i + 1) (stepS s l[i]) (by omega) (by omega) (by omega) (by omega) (by omega)
        refine e1.bind ?_
        rw [List.drop_eq_getElem_cons hi]
        by_cases c2 : ∀ t ∈ l.drop (i + 1), entOk t
        · rw [if_pos ⟨hui.1 c, c2⟩]; rw [if_pos c2] at h; exact h
        · rw [if_neg (fun h => c2 h.2)]; rw [if_neg c2] at h; exact h
      · rw [if_neg (fun h => c (hui.2 h.1))]; exact ev_now _
  unfold spec_CertFold.f foldOf
  refine ev_get openS ?_
  refine ev_ite (fun c => ?_) (fun c => ?_)
  · rw [if_neg (fun h => by omega)]; exact ev_now _
  · have h := key l.length 0 open0 (by omega) (by simp [open0]) (by simp [open0]; omega) (by simp [open0]) (by simp [open0]; omega)
    rw [List.drop_zero] at h
    by_cases c2 : ∀ t ∈ l, entOk t
    · rw [if_pos ⟨c2, by omega⟩]; rw [if_pos c2] at h; exact h
    · rw [if_neg (fun h => c2 h.1)]; rw [if_neg c2] at h; exact h

/-- What a drawn entry's number may be. -/
def entSeq (t : S77) : Prop := t.f1.f1 ≤ 6 ∨ t.f1.f1 = 1001
def entDr (t : S77) : Prop := entLen t ∧ entSeq t
theorem l5List_l1 {s : List Int} (p : Int) : ∀ (d : Nat) (o : List S77), o.length ≤ 41 → o.length + d = 41 → (∀ t ∈ o, entDr t) →
    Dr (fun k => spec_l5List.l1 k o s p) (fun r => r.1.length ≤ 41 ∧ ∀ t ∈ r.1, entDr t) := by
  intro d
  induction d with
  | zero => intro o h1 h2 h; exact Dr.step (fun k => by rw [spec_l5List.l1]) (Dr.neg (by omega) (Dr.now ⟨h1, h⟩))
  | succ d ih =>
    intro o h1 h2 h
    refine Dr.step (fun k => by rw [spec_l5List.l1]) (Dr.pos (by omega) (Dr.pos (by omega) ?_))
    refine ih _ (by simp only [List.length_append, List.length_singleton]; omega) (by simp only [List.length_append, List.length_singleton]; omega) (fun t ht => ?_)
    rcases List.mem_append.1 ht with g | g
    · exact h t g
    · rw [List.mem_singleton.1 g]; exact ⟨⟨by simp, by simp⟩, .inl (by simp)⟩
theorem l5List_l0 {s : List Int} (hs : bytesOk s) (hl : s.length ≤ 9223372036854775807) : ∀ (d : Nat) (o : List S77) (p a : Int) (x : List S37) (y : List S84), d ≤ 20 → o.length + d ≤ 20 → (∀ t ∈ o, entDr t) → 0 ≤ p → p + 100 * d ≤ 10000000 → 0 ≤ a → a + d ≤ 100 → x.length = 4 → y.length + d ≤ 100 →
    Dr (fun k => spec_l5List.l0 k o (d : Int) s p a x y) (fun r => r.1.length ≤ 41 ∧ ∀ t ∈ r.1, entDr t) := by
  intro d
  induction d with
  | zero =>
    intro o p a x y _ ho hz p0 p1 a0 a1 hx hy
    refine Dr.step (fun k => by rw [spec_l5List.l0]) (Dr.neg (by omega) ?_)
    refine (pick_dr hs p 30 (by omega) (by omega) hl).bind fun r1 h1 => ?_
    exact Dr.ite (fun _ => l5List_l1 r1.2 (41 - o.length) o (by omega) (by omega) hz) (fun _ => Dr.now ⟨by simp only; omega, hz⟩)
  | succ d ih =>
    intro o p a x y hd ho hz p0 p1 a0 a1 hx hy
    have hw : wrap64 (((d + 1 : Nat) : Int) - 1) = (d : Int) := by rw [wrap_id (by omega) (by omega)]; omega
    refine Dr.step (fun k => by rw [spec_l5List.l0]) (Dr.pos (by omega) ?_)
    rw [hw]
    refine (l5Any_dr hs p x (by omega) (by omega) hl (by omega)).bind fun r1 h1 => ?_
    obtain ⟨e, w, q, rx, ry, v, c, pos⟩ := r1
    simp only at h1
    obtain ⟨h1, h2, h3, h4, h9⟩ := h1
    refine Dr.pos (by omega) ?_
    refine (Dr.of rfl (R := fun r => r = o ++ [⟨e, ⟨w, q⟩, ⟨rx, ry, v, c⟩⟩]) rfl).bind fun o2 ho2 => ?_
    have hz2 : ∀ t ∈ o2, entDr t := by
      intro t ht
      rw [ho2] at ht
      rcases List.mem_append.1 ht with g | g
      · exact hz t g
      · rw [List.mem_singleton.1 g]; exact ⟨⟨by simp only; omega, by simp only; omega⟩, by unfold entSeq; simp only; omega⟩
    have hl2 : o2.length = o.length + 1 := by rw [ho2]; simp
    obtain ⟨u, hu, hui⟩ := spec_CertEntry_ev e w q rx ry v c (by omega) (by omega)
    refine Dr.bind (Q := fun r => r = u) ⟨_, hu, rfl⟩ fun r2 h5 => ?_
    refine Dr.ite (fun _ => ?_) (fun _ => ih o2 pos a x y (by omega) (by omega) hz2 (by omega) (by omega) (by omega) (by omega) (by omega) (by omega))
    refine (pick_dr hs pos 3 (by omega) (by omega) hl).bind fun r3 h6 => ?_
    refine Dr.ite (fun _ => ?_) (fun _ => ih o2 r3.2 a x y (by omega) (by omega) hz2 (by omega) (by omega) (by omega) (by omega) (by omega) (by omega))
    have ha := l5Apply_ev a x y e w q rx ry v c (by omega) (by omega) (by omega) (by omega) (by omega) (by omega)
    have hlen := apOf_len (a + 1) x y e w q rx ry v c
    generalize apOf (a + 1) x y e w q rx ry v c = r at ha hlen
    refine Dr.bind (Q := fun z => z = r) ⟨_, ha, rfl⟩ fun r5 h8 => ?_
    subst h8
    obtain ⟨g1, g2, g3, g4, g5⟩ := hlen
    exact ih o2 r3.2 r5.1 r5.2.1 r5.2.2.1 (by omega) (by omega) hz2 (by omega) (by omega) (by omega) (by omega) (by omega) (by omega)
theorem DrawCertFold_dr (l : List Int) (hl : bytesOk l) : Dr (fun k => spec_DrawCertFold.f k l) (fun r => r.length ≤ 41 ∧ (∀ t ∈ r, entLen t) ∧ ∀ t ∈ r, entSeq t) := by
  obtain ⟨s, hs, hb, hn⟩ := open_some l hl
  unfold spec_DrawCertFold.f
  refine (Dr.of hs (R := fun r => r = (s, 0)) rfl).bind fun v hv => ?_
  subst hv
  have h : Dr (fun k => spec_l5List.f k s 0) (fun r => r.1.length ≤ 41 ∧ ∀ t ∈ r.1, entDr t) := by
    unfold spec_l5List.f
    refine (Dr.of openS (R := fun r => r = (0, List.replicate 4 z37, [])) rfl).bind fun r h => ?_
    subst h
    refine (num_dr hb 0 _ (by omega) (by omega) (by omega) (by simp) (by simp)).bind fun r1 h1 => ?_
    have h3 : r1.1 = 0 ∨ r1.1 = 3 ∨ r1.1 = 8 ∨ r1.1 = 12 := by simpa using h1.1
    have hd : r1.1 = ((r1.1.toNat : Nat) : Int) := by omega
    rw [hd]
    exact l5List_l0 hb (by omega) r1.1.toNat [] r1.2 0 _ [] (by omega) (by simp; omega) (by simp) (by omega) (by omega) (by omega) (by omega) (by simp) (by simp; omega)
  exact h.bind fun r hr => Dr.now ⟨hr.1, fun t ht => (hr.2 t ht).1, fun t ht => (hr.2 t ht).2⟩

theorem impl_listOk_ev (l : List S77) (hn : l.length ≤ 1000000) (hl : ∀ t ∈ l, entLen t) : ∃ v, Ev (fun k => impl_listOk.f k l) v ∧ (v = true ↔ (∀ t ∈ l, entOk t) ∧ l.length ≤ 40) := by
  have key : ∀ (d i : Nat), i + d = l.length → ∃ v, Ev (fun k => impl_listOk.l0 k l l (l.length : Int) (i : Int)) v ∧ (v = true ↔ (∀ t ∈ l.drop i, entOk t) ∧ l.length ≤ 40) := by
    intro d
    induction d with
    | zero =>
      intro i hi
      obtain rfl : i = l.length := by omega
      refine ⟨decide ((l.length : Int) ≤ 40), Ev.step (fun k => by rw [impl_listOk.l0]) (ev_neg (by omega) (ev_now _)), ?_⟩
      rw [List.drop_length, decide_eq_true_iff]
      exact ⟨fun h => ⟨fun t ht => by simp at ht, by omega⟩, fun h => by omega⟩
    | succ d ih =>
      intro i hd
      have hi : i < l.length := by omega
      obtain ⟨w, hw, hwi⟩ := ih (i + 1) (by omega)
      obtain ⟨u, hu, hui⟩ := impl_CertEntry_ev (l[i]).f0 (l[i]).f1.f0 (l[i]).f1.f1 (l[i]).f2.f0 (l[i]).f2.f1 (l[i]).f2.f2 (l[i]).f2.f3 (by have := (hl _ (List.getElem_mem hi)).1; omega) (by have := (hl _ (List.getElem_mem hi)).2; omega)
      have hs := mem_split (p := entOk) hi
      refine ⟨u && w, Ev.step (fun k => by rw [impl_listOk.l0]) ?_, ?_⟩
      · refine ev_pos (lt_cast hi) (ev_pos (nn_cast i) (ev_pos (lt_cast hi) ?_))
        rw [rdi_Entry hi, wrap_succ hi (n := l.length) (by omega)]
        cases u
        · exact hu.bind (ev_neg (by simp) (ev_now _))
        · exact hu.bind (ev_pos rfl hw)
      · rw [Bool.and_eq_true, hs]
        exact ⟨fun h => ⟨⟨hui.1 h.1, (hwi.1 h.2).1⟩, (hwi.1 h.2).2⟩, fun h => ⟨hui.2 h.1.1, hwi.2 ⟨h.1.2, h.2⟩⟩⟩
  obtain ⟨v, hv, hvi⟩ := key l.length 0 (by omega)
  unfold impl_listOk.f
  exact ⟨v, hv, by rw [hvi, List.drop_zero]⟩
theorem openI : impl_CertOpen.f = some (0, List.replicate 4 z37, []) := by unfold impl_CertOpen.f impl_BoxOpen.f; rw [if_pos (by omega)]; rfl
theorem folded_l0 (l : List S77) (hn : l.length ≤ 40) (hl : ∀ t ∈ l, entLen t) (hk : ∀ t ∈ l, entOk t) : ∀ (d i : Nat) (o : List Int) (s : StT), i + d = l.length → o.length + d ≤ 1000 → stOk s → s.1 + d ≤ 40 → s.2.1.length ≤ 4 → s.2.2.length + d ≤ 1000 →
    ∃ c, Ev (fun k => impl_folded.l0 k o l (l.length : Int) (i : Int) s.1 s.2.1 s.2.2) ((foldS s (l.drop i)).1, (foldS s (l.drop i)).2.1, (foldS s (l.drop i)).2.2, c) := by
  intro d
  induction d with
  | zero =>
    intro i o s hi _ _ _ _ _
    obtain rfl : i = l.length := by omega
    refine ⟨o, Ev.step (fun k => by rw [impl_folded.l0]) ?_⟩
    refine ev_neg (by omega) ?_
    rw [List.drop_length]; exact ev_now _
  | succ d ih =>
    intro i o s hd ho hs h1 h2 h3
    have hi : i < l.length := by omega
    have hm := List.getElem_mem hi
    have hL := hl _ hm
    unfold entLen at hL
    have e1 := impl_CertApply_ev s.1 s.2.1 s.2.2 (l[i]).f0 (l[i]).f1.f0 (l[i]).f1.f1 (l[i]).f2.f0 (l[i]).f2.f1 (l[i]).f2.f2 (l[i]).f2.f3 (by omega) (by omega) (by omega) (by omega)
    have e2 : certAp s.1 s.2.1 s.2.2 (l[i]).f0 (l[i]).f1.f0 (l[i]).f1.f1 (l[i]).f2.f0 (l[i]).f2.f1 (l[i]).f2.f2 (l[i]).f2.f3 = apT s l[i] := if_pos ⟨hs, hk _ hm, by omega⟩
    rw [e2] at e1
    have g := stepS_len s l[i]
    have ga := stepS_at s l[i]
    obtain ⟨c, hc⟩ := ih (i + 1) (o ++ [(apT s l[i]).2.2.2]) (stepS s l[i]) (by omega) (by simp only [List.length_append, List.length_singleton]; omega) (stepS_ok hs (by omega) (hk _ hm)) (by omega) (by omega) (by omega)
    refine ⟨c, Ev.step (fun k => by rw [impl_folded.l0]) ?_⟩
    refine ev_pos (lt_cast hi) (ev_pos (nn_cast i) (ev_pos (lt_cast hi) ?_))
    rw [rdi_Entry hi, wrap_succ hi (n := l.length) (by omega), List.drop_eq_getElem_cons hi]
    exact e1.bind (ev_pos (by omega) hc)
theorem impl_CertFold_ev (l : List S77) (hn : l.length ≤ 1000000) (hl : ∀ t ∈ l, entLen t) : Ev (fun k => impl_CertFold.f k l) (foldOf l) := by
  obtain ⟨u, hu, hui⟩ := impl_listOk_ev l hn hl
  unfold impl_CertFold.f foldOf
  refine hu.bind (ev_ite (fun c => ?_) (fun c => ?_))
  · have h := hui.1 c
    rw [if_pos h]
    obtain ⟨cs, hc⟩ := folded_l0 l h.2 hl h.1 l.length 0 [] open0 (by omega) (by simp; omega) open0_ok (by simp [open0]; omega) (by simp [open0]) (by simp [open0]; omega)
    have hf : Ev (fun k => impl_folded.f k l) ((foldS open0 l).1, (foldS open0 l).2.1, (foldS open0 l).2.2, cs) := by
      unfold impl_folded.f
      exact ev_get openI (by rw [List.drop_zero] at hc; exact hc)
    exact hf.bind (ev_now _)
  · rw [if_neg (fun h => c (hui.2 h))]; exact ev_now _

theorem apNew_at (a b : Int) (x : List S37) (y : List S84) (p q : Int) (rx : List S39) (ry : List S82) (v c : Int) : apNew a x y p q rx ry v c = (a, (apNew b x y p q rx ry v c).2) := by
  unfold apNew
  split
  · split <;> rfl
  · rfl
theorem apOf_at (a b : Int) (x : List S37) (y : List S84) (e : Bool) (p q : Int) (rx : List S39) (ry : List S82) (v c : Int) : apOf a x y e p q rx ry v c = (a, (apOf b x y e p q rx ry v c).2) := by
  have n := apNew_at a b x y p q rx ry v c
  unfold apOf
  split
  · rfl
  split
  · split
    · rfl
    · split
      · rfl
      · exact n
  · exact n

theorem stepS_shift (a b : Int) (r : List S37 × List S84) (t : S77) : stepS (b, r) t = (b + 1, (stepS (a, r) t).2) := by
  unfold stepS apT
  rw [apOf_at (b + 1) (a + 1)]
theorem foldS_shift : ∀ (l : List S77) (a b : Int) (r : List S37 × List S84), (foldS (b, r) l).2 = (foldS (a, r) l).2 := by
  intro l
  induction l with
  | nil => intro a b r; rfl
  | cons t q ih =>
    intro a b r
    show (foldS (stepS (b, r) t) q).2 = (foldS (stepS (a, r) t) q).2
    rw [stepS_shift a b r t, stepS_shift a a r t]
    exact ih _ _ _
theorem foldS_take {l : List S77} {i : Nat} (h : i < l.length) : foldS open0 (l.take (i + 1)) = stepS (foldS open0 (l.take i)) l[i] := by
  unfold foldS
  rw [List.take_succ_eq_append_getElem h, List.foldl_append]; rfl
theorem foldOf_ok {l : List S77} (h : ∀ t ∈ l, entOk t) (h2 : l.length ≤ 40) : foldOf l = foldS open0 l := if_pos ⟨h, h2⟩
theorem stepS_none (s : StT) : stepS s ⟨true, ⟨0, 0⟩, ⟨[], [], 0, 0⟩⟩ = (s.1 + 1, s.2) := by
  unfold stepS apT apOf
  rw [if_pos rfl]
theorem entOk_none : entOk ⟨true, ⟨0, 0⟩, ⟨[], [], 0, 0⟩⟩ := by
  unfold entOk entryOk
  rw [if_pos rfl]
  exact ⟨⟨rfl, rfl⟩, rfl, rfl, rfl, rfl⟩
/-- A list whose fold has boxes is right. -/
theorem foldOf_boxes {l : List S77} (h : (foldOf l).2.1.length ≠ 0) : (∀ t ∈ l, entOk t) ∧ l.length ≤ 40 := by
  unfold foldOf at h
  split at h
  · assumption
  · simp at h

theorem FnCertFold_l0 (l : List S77) (hok : ∀ t ∈ l, entOk t) (h40 : l.length ≤ 40) (hlen : ∀ t ∈ l, entLen t) (n : Nat) (hn : n ≤ l.length) : ∀ (d i : Nat), i + d = l.length →
    Ev (fun k => laws_FnCertFold.l0 k l (n : Int) (i : Int) (foldS open0 l).1 (foldS open0 l).2.1 (foldS open0 l).2.2 (foldS open0 (l.take i)).1 (foldS open0 (l.take i)).2.1 (foldS open0 (l.take i)).2.2) true := by
  intro d
  induction d with
  | zero =>
    intro i hi
    obtain rfl : i = l.length := by omega
    rw [List.take_length]
    have hfl := foldS_len l open0
    simp only [open0, List.length_replicate, List.length_nil] at hfl
    have hs : Ev (fun k => impl_CertSame.f k (foldS open0 l).1 (foldS open0 l).2.1 (foldS open0 l).2.2 (foldS open0 l).1 (foldS open0 l).2.1 (foldS open0 l).2.2) true :=
      foldSame_ev _ (by show (foldS open0 l).2.1.length ≤ 1000; unfold open0; omega) (by show (foldS open0 l).2.2.length ≤ 1000; unfold open0; omega)
    refine Ev.step (fun k => by rw [laws_FnCertFold.l0]) ?_
    refine ev_neg (by omega) (hs.bind (ev_pos rfl ?_))
    refine ev_ite (fun _ => hs.bind (ev_now _)) (fun c => ?_)
    refine ev_get rfl (ev_pos (nn_cast n) (ev_pos (by omega) (ev_get rfl ?_)))
    have ht : (l.take ((n : Int)).toNat).length ≤ l.length := by rw [List.length_take]; omega
    refine ev_pos (by simp only [List.length_nil]; omega) (ev_get rfl ?_)
    refine ev_pos (by simp only [List.nil_append]; omega) (ev_get rfl (ev_get rfl ?_))
    refine ev_pos (by simp only [List.nil_append, List.length_append, List.length_singleton, List.length_drop]; omega) ?_
    rw [Int.toNat_natCast, List.nil_append]
    have gl : ((l.take n ++ [(⟨true, ⟨0, 0⟩, ⟨[], [], 0, 0⟩⟩ : S77)]) ++ l.drop n).length ≤ 40 := by
      simp only [List.length_append, List.length_singleton, List.length_take, List.length_drop]; omega
    have gm : ∀ {P : S77 → Prop}, P ⟨true, ⟨0, 0⟩, ⟨[], [], 0, 0⟩⟩ → (∀ t ∈ l, P t) → ∀ t ∈ (l.take n ++ [(⟨true, ⟨0, 0⟩, ⟨[], [], 0, 0⟩⟩ : S77)]) ++ l.drop n, P t := by
      intro P h1 h2 t ht
      rcases List.mem_append.1 ht with h | h
      · rcases List.mem_append.1 h with h | h
        · exact h2 t (List.mem_of_mem_take h)
        · rw [List.mem_singleton.1 h]; exact h1
      · exact h2 t (List.mem_of_mem_drop h)
    have hg := impl_CertFold_ev ((l.take n ++ [(⟨true, ⟨0, 0⟩, ⟨[], [], 0, 0⟩⟩ : S77)]) ++ l.drop n) (by omega) (gm (P := entLen) ⟨by simp, by simp⟩ hlen)
    have e : (foldOf ((l.take n ++ [(⟨true, ⟨0, 0⟩, ⟨[], [], 0, 0⟩⟩ : S77)]) ++ l.drop n)).2 = (foldS open0 l).2 := by
      rw [foldOf_ok (gm (P := entOk) entOk_none hok) gl]
      have e1 : foldS open0 ((l.take n ++ [(⟨true, ⟨0, 0⟩, ⟨[], [], 0, 0⟩⟩ : S77)]) ++ l.drop n) = foldS (stepS (foldS open0 (l.take n)) ⟨true, ⟨0, 0⟩, ⟨[], [], 0, 0⟩⟩) (l.drop n) := by
        unfold foldS; rw [List.foldl_append, List.foldl_append]; rfl
      have e2 : foldS open0 l = foldS (foldS open0 (l.take n)) (l.drop n) := by
        unfold foldS; rw [← List.foldl_append, List.take_append_drop]
      rw [e1, e2, stepS_none]
      exact foldS_shift _ _ _ _
    generalize foldOf ((l.take n ++ [(⟨true, ⟨0, 0⟩, ⟨[], [], 0, 0⟩⟩ : S77)]) ++ l.drop n) = z at hg e
    refine hg.bind ?_
    rw [e]
    exact hs.bind (ev_now _)
  | succ d ih =>
    intro i hd
    have hi : i < l.length := by omega
    have hm := List.getElem_mem hi
    have hL := hlen _ hm
    unfold entLen at hL
    have hs := foldS_ok (l.take i) open0 open0_ok (by simp [open0]; omega) (fun t ht => hok t (List.mem_of_mem_take ht))
    have hfl := foldS_len (l.take i) open0
    have h1 : (foldS open0 (l.take i)).1 = (i : Int) := by rw [hs.2]; simp [open0]; omega
    have h2 : (foldS open0 (l.take i)).2.1.length ≤ 4 := by rw [hfl.1]; simp [open0]
    have h3 : (foldS open0 (l.take i)).2.2.length ≤ 40 := by
      have := hfl.2
      rw [List.length_take] at this
      simp only [open0, List.length_nil] at this
      show (foldS open0 (l.take i)).2.2.length ≤ 40
      unfold open0; omega
    have next := ih (i + 1) (by omega)
    rw [foldS_take hi] at next
    generalize foldS open0 (l.take i) = s at hs h1 h2 h3 next ⊢
    have e1 := impl_CertApply_ev s.1 s.2.1 s.2.2 (l[i]).f0 (l[i]).f1.f0 (l[i]).f1.f1 (l[i]).f2.f0 (l[i]).f2.f1 (l[i]).f2.f2 (l[i]).f2.f3 (by omega) (by omega) (by omega) (by omega)
    have e2 : certAp s.1 s.2.1 s.2.2 (l[i]).f0 (l[i]).f1.f0 (l[i]).f1.f1 (l[i]).f2.f0 (l[i]).f2.f1 (l[i]).f2.f2 (l[i]).f2.f3 = apT s l[i] := if_pos ⟨hs.1, hok _ hm, by omega⟩
    rw [e2] at e1
    have h5 : 0 ≤ (apT s l[i]).2.2.2 := (apOf_len _ _ _ _ _ _ _ _ _ _).2.2.2.1
    refine Ev.step (fun k => by rw [laws_FnCertFold.l0]) ?_
    refine ev_pos (lt_cast hi) (ev_pos (nn_cast i) ?_)
    rw [rdi_Entry hi, wrap_succ hi (n := l.length) (by omega)]
    exact e1.bind (ev_neg (by omega) next)
theorem FnCertFold : laws_FnCertFold.Pure := by
  intro t m _ _ hw _ _ _
  refine Ev.rounds ?_
  unfold laws_FnCertFold.f
  refine ev_ite (fun _ => ev_now _) (fun hm => ev_ite (fun _ => ev_now _) (fun hm2 => ?_))
  obtain ⟨l, hd, h41, hlen, _⟩ := DrawCertFold_dr t (bytes_wf hw)
  have hi := impl_CertFold_ev l (by omega) hlen
  have hs := spec_CertFold_ev l (by omega) hlen
  have fl := foldOf_len l
  refine hd.bind (hi.bind (hs.bind ((foldSame_ev (foldOf l) (by omega) (by omega)).bind (ev_pos rfl ?_))))
  refine ev_ite (fun _ => ev_now _) (fun c => ?_)
  have hok := foldOf_boxes (l := l) (by omega)
  have hw1 : wrap64 ((l.length : Int) + 1) = (l.length : Int) + 1 := wrap_id (by omega) (by omega)
  rw [hw1]
  obtain ⟨n, hn⟩ : ∃ n : Nat, (m.length : Int) % ((l.length : Int) + 1) = (n : Int) := ⟨((m.length : Int) % ((l.length : Int) + 1)).toNat, by have := Int.emod_nonneg (m.length : Int) (show (l.length : Int) + 1 ≠ 0 by omega); omega⟩
  have hn2 : (n : Int) < (l.length : Int) + 1 := by rw [← hn]; exact Int.emod_lt_of_pos _ (by omega)
  rw [hn]
  refine ev_neg (by omega) (ev_pos (nn_cast n) (ev_pos (by omega) ?_))
  rw [Int.toNat_natCast]
  have ht := impl_CertFold_ev (l.take n) (by rw [List.length_take]; omega) (fun t ht => hlen t (List.mem_of_mem_take ht))
  rw [foldOf_ok (fun t ht => hok.1 t (List.mem_of_mem_take ht)) (by rw [List.length_take]; omega)] at ht
  refine ht.bind ?_
  rw [foldOf_ok hok.1 hok.2]
  exact FnCertFold_l0 l hok.1 hok.2 hlen n (by omega) (l.length - n) n (by omega)

end Go.Proofs.Ytkkmhlfpombgfaa.Pure
