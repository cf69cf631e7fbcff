/- The pure law of FnSerial: what the law's function of numbers and lists answers is true, for every input. Its condition: none but what the row says. -/
import Derived.Test.YtkkmhlfpombgfaaPFnSerialx3
namespace Go.Proofs.Ytkkmhlfpombgfaa.Pure
open Go.RowKit Go.Proofs.Ytkkmhlfpombgfaa.PFnSerial Go.Proofs.YtkkmhlfpombgfaaW.PrintWords Go.Proofs.YtkkmhlfpombgfaaW.PrintLast
set_option linter.unusedVariables false
set_option linter.unusedSimpArgs false
set_option linter.unusedSectionVars false

theorem wrap_succ {i n : Nat} (h : i < n) (hn : n ≤ 9223372036854775807) : wrap64 ((i : Int) + 1) = ((i + 1 : Nat) : Int) := by unfold wrap64; omega
theorem wrap_id {a : Int} (h0 : -9223372036854775808 ≤ a) (h1 : a ≤ 9223372036854775807) : wrap64 a = a := by unfold wrap64; omega
theorem ev_pos {α : Type} {c : Prop} [Decidable c] {f g : Nat → Option α} {r : α} (h : c) (e : Ev f r) : Ev (fun k => if c then f k else g k) r := by
  simp only [if_pos h]; exact e
theorem ev_neg {α : Type} {c : Prop} [Decidable c] {f g : Nat → Option α} {r : α} (h : ¬ c) (e : Ev g r) : Ev (fun k => if c then f k else g k) r := by
  simp only [if_neg h]; exact e
theorem ev_ite {α : Type} {c : Prop} [Decidable c] {f g : Nat → Option α} {r : α} (h1 : c → Ev f r) (h2 : ¬ c → Ev g r) : Ev (fun k => if c then f k else g k) r := by
  by_cases h : c
  · exact ev_pos h (h1 h)
  · exact ev_neg h (h2 h)
theorem ev_now {α : Type} (r : α) : Ev (fun _ => some r) r := Ev.now r
theorem ev_get {α β : Type} {g : Option α} {f : Nat → α → Option β} {a : α} {r : β} (h : g = some a) (k : Ev (fun n => f n a) r) : Ev (fun n => g.bind (f n)) r := by
  subst h; exact k
/-- A loop over 0 .. n - 1: what it answers from i on. -/
theorem ev_loop {α : Type} (n : Nat) (F : Nat → Nat → Option α) (v : Nat → α) (step : ∀ i, i < n → Ev (F (i + 1)) (v (i + 1)) → Ev (F i) (v i)) (last : Ev (F n) (v n)) : ∀ i, i ≤ n → Ev (F i) (v i) := by
  have key : ∀ d i, i + d = n → Ev (F i) (v i) := by
    intro d
    induction d with
    | zero => intro i h; obtain rfl : i = n := by omega
              exact last
    | succ d ih => intro i h; exact step i (by omega) (ih (i + 1) (by omega))
  exact fun i hi => key (n - i) i (by omega)
theorem lt_cast {i n : Nat} (h : i < n) : (i : Int) < (n : Int) := Int.ofNat_lt.2 h
theorem nn_cast (i : Nat) : (0 : Int) ≤ (i : Int) := Int.natCast_nonneg i
theorem drop_eq {α : Type} {x y : List α} (hl : x.length = y.length) {i : Nat} (h : i < x.length) : (x.drop i = y.drop i) ↔ (x[i] = y[i]'(hl ▸ h) ∧ x.drop (i + 1) = y.drop (i + 1)) := by
  have h2 : i < y.length := hl ▸ h
  rw [List.drop_eq_getElem_cons h, List.drop_eq_getElem_cons h2, List.cons.injEq]
theorem mem_split {α : Type} {p : α → Prop} {l : List α} {i : Nat} (h : i < l.length) : (∀ b ∈ l.drop i, p b) ↔ p l[i] ∧ ∀ b ∈ l.drop (i + 1), p b := by
  rw [List.drop_eq_getElem_cons h]
  simp only [List.mem_cons, forall_eq_or_imp]
theorem ev_const {α : Type} {X : Option α} {r : α} (h : X = some r) : Ev (fun _ => X) r := ⟨0, fun _ _ => h⟩

theorem rd_i {l : List Int} {i : Nat} (h : i < l.length) : rd l (i : Int) = l[i] := by
  unfold rd
  rw [Int.toNat_natCast, List.getD_eq_getElem?_getD, List.getElem?_eq_getElem h]
  rfl

/-- Boxes, as the document has them. -/
def boxIn (b : S37) : Prop := 0 ≤ b.f0 ∧ b.f0 ≤ 1000000 ∧ -1000000 ≤ b.f1 ∧ b.f1 ≤ 1000000
def boxOk (l : List S37) : Prop := l.length = 4 ∧ ∀ b ∈ l, boxIn b
theorem rd_box {l : List S37} {i : Nat} (h : i < l.length) : rd_T37 l (i : Int) = l[i] := by
  unfold rd_T37
  rw [Int.toNat_natCast, List.getD_eq_getElem?_getD, List.getElem?_eq_getElem h]
  rfl
theorem rdi_Ins {l : List S95} {i : Nat} (h : i < l.length) : rd_T95 l (i : Int) = l[i] := by
  unfold rd_T95
  rw [Int.toNat_natCast, List.getD_eq_getElem?_getD, List.getElem?_eq_getElem h]
  rfl

/-- An instruction that is right. -/
def insIn (x : S95) : Prop :=
  (x.f0 = 1 ∧ 0 ≤ x.f1 ∧ x.f1 ≤ 3 ∧ 0 ≤ x.f2 ∧ x.f2 ≤ 3 ∧ x.f3 = 0) ∨ (x.f0 = 2 ∧ 0 ≤ x.f1 ∧ x.f1 ≤ 3 ∧ 0 ≤ x.f2 ∧ x.f2 ≤ 3 ∧ x.f3 = 0) ∨
  (x.f0 = 3 ∧ 0 ≤ x.f1 ∧ x.f1 ≤ 3 ∧ x.f2 = 0 ∧ -1000000 ≤ x.f3 ∧ x.f3 ≤ 1000000) ∨ ((x.f0 = 4 ∨ x.f0 = 5) ∧ 0 ≤ x.f1 ∧ x.f1 ≤ 3 ∧ 0 ≤ x.f2 ∧ x.f2 ≤ 3 ∧ x.f3 = 0) ∨
  (x.f0 = 6 ∧ 0 ≤ x.f1 ∧ x.f1 ≤ 3 ∧ 0 ≤ x.f2 ∧ x.f2 ≤ 3 ∧ 1 ≤ x.f3 ∧ x.f3 ≤ 10) ∨ (x.f0 = 7 ∧ x.f1 = 0 ∧ x.f2 = 0 ∧ x.f3 = 0)
instance (x : S95) : Decidable (insIn x) := by unfold insIn; infer_instance
def progOk (l : List S95) : Prop := l.length ≤ 10 ∧ ∀ x ∈ l, insIn x

theorem rdi_Read {l : List S39} {i : Nat} (h : i < l.length) : rd_T39 l (i : Int) = l[i] := by
  unfold rd_T39
  rw [Int.toNat_natCast, List.getD_eq_getElem?_getD, List.getElem?_eq_getElem h]
  rfl

theorem rdi_Put {l : List S82} {i : Nat} (h : i < l.length) : rd_T82 l (i : Int) = l[i] := by
  unfold rd_T82
  rw [Int.toNat_natCast, List.getD_eq_getElem?_getD, List.getElem?_eq_getElem h]
  rfl

/-- Where a box stands among what is put, or -1. -/
def atP (b : Int) : List S82 → Int → Int
  | [], _ => -1
  | p :: r, i => if p.f0 = b then i else atP b r (i + 1)
def atR (b : Int) : List S39 → Int → Int
  | [], _ => -1
  | p :: r, i => if p.f0 = b then i else atR b r (i + 1)
theorem atP_prop (b : Int) : ∀ (l : List S82) (i : Int), 0 ≤ i → (atP b l i = -1 ∧ ∀ p ∈ l, p.f0 ≠ b) ∨ (∃ j : Nat, ∃ h : j < l.length, atP b l i = i + j ∧ (l[j]).f0 = b) := by
  intro l
  induction l with
  | nil => intro i _; exact .inl ⟨rfl, by simp⟩
  | cons p r ih =>
    intro i hi
    unfold atP
    by_cases c : p.f0 = b
    · rw [if_pos c]; exact .inr ⟨0, by simp, by simp, by simpa using c⟩
    · rw [if_neg c]
      rcases ih (i + 1) (by omega) with ⟨e, h⟩ | ⟨j, hj, e, h⟩
      · refine .inl ⟨e, ?_⟩
        intro q hq
        rcases List.mem_cons.1 hq with rfl | h2
        · exact c
        · exact h q h2
      · refine .inr ⟨j + 1, by simpa using hj, by rw [e]; omega, by simpa using h⟩
theorem atR_prop (b : Int) : ∀ (l : List S39) (i : Int), 0 ≤ i → (atR b l i = -1 ∧ ∀ p ∈ l, p.f0 ≠ b) ∨ (∃ j : Nat, ∃ h : j < l.length, atR b l i = i + j ∧ (l[j]).f0 = b) := by
  intro l
  induction l with
  | nil => intro i _; exact .inl ⟨rfl, by simp⟩
  | cons p r ih =>
    intro i hi
    unfold atR
    by_cases c : p.f0 = b
    · rw [if_pos c]; exact .inr ⟨0, by simp, by simp, by simpa using c⟩
    · rw [if_neg c]
      rcases ih (i + 1) (by omega) with ⟨e, h⟩ | ⟨j, hj, e, h⟩
      · refine .inl ⟨e, ?_⟩
        intro q hq
        rcases List.mem_cons.1 hq with rfl | h2
        · exact c
        · exact h q h2
      · refine .inr ⟨j + 1, by simpa using hj, by rw [e]; omega, by simpa using h⟩
theorem atP_lt (b : Int) (l : List S82) (h : 0 ≤ atP b l 0) : atP b l 0 < l.length := by
  rcases atP_prop b l 0 (by omega) with ⟨e, _⟩ | ⟨j, hj, e, _⟩
  · omega
  · omega
/-- What a box holds for a run, and what was looked into then. -/
def look (l : List S37) (x : List S39) (y : List S82) (b : Int) : Int × List S39 :=
  if 0 ≤ atP b y 0 then ((rd_T82 y (atP b y 0)).f1, x) else ((rd_T37 l b).f1, if 0 ≤ atR b x 0 then x else x ++ [⟨b, (rd_T37 l b).f0⟩])
def putP (y : List S82) (b v : Int) : List S82 := if 0 ≤ atP b y 0 then y.set (atP b y 0).toNat ⟨(rd_T82 y (atP b y 0)).f0, v⟩ else y ++ [⟨b, v⟩]
/-- What a run is: looked into, put, value, code. -/
abbrev RunT := List S39 × List S82 × Int × Int
def inR (v : Int) : Prop := -1000000 ≤ v ∧ v ≤ 1000000
instance (v : Int) : Decidable (inR v) := by unfold inR; infer_instance
/-- A run from place i on, with so much fuel. -/
def runP (l : List S37) (p : List S95) : Nat → Nat → List Int → List S39 → List S82 → RunT
  | 0, _, g, x, y => (x, y, rd g 0, 0)
  | f + 1, i, g, x, y =>
    if i < p.length then
      let s := rd_T95 p (i : Int)
      if s.f0 = 1 then runP l p f (i + 1) (g.set s.f1.toNat (look l x y s.f2).1) (look l x y s.f2).2 y
      else if s.f0 = 2 then runP l p f (i + 1) g x (putP y s.f1 (rd g s.f2))
      else if s.f0 = 3 then runP l p f (i + 1) (g.set s.f1.toNat s.f3) x y
      else if s.f0 = 4 then if inR (rd g s.f1 + rd g s.f2) then runP l p f (i + 1) (g.set s.f1.toNat (rd g s.f1 + rd g s.f2)) x y else (x, [], 0, 2)
      else if s.f0 = 5 then if inR (rd g s.f1 - rd g s.f2) then runP l p f (i + 1) (g.set s.f1.toNat (rd g s.f1 - rd g s.f2)) x y else (x, [], 0, 2)
      else if s.f0 = 6 then runP l p f (if rd g s.f1 < rd g s.f2 then i + s.f3.toNat + 1 else i + 1) g x y
      else (x, [], 0, 1)
    else (x, y, rd g 0, 0)
/-- What holds in the midst of a run. -/
structure Mid (i : Nat) (g : List Int) (x : List S39) (y : List S82) : Prop where
  len : g.length = 4
  reg : ∀ v ∈ g, inR v
  put : ∀ p ∈ y, inR p.f1
  xl : x.length ≤ i
  yl : y.length ≤ i
theorem inR_set {g : List Int} {i : Nat} {v : Int} (h : ∀ u ∈ g, inR u) (hv : inR v) : ∀ u ∈ g.set i v, inR u := by
  intro b hb
  rcases List.mem_or_eq_of_mem_set hb with h1 | h1
  · exact h b h1
  · rw [h1]; exact hv
theorem rd_inR {g : List Int} (h : ∀ u ∈ g, inR u) (i : Int) : inR (rd g i) := by
  unfold rd
  rw [List.getD_eq_getElem?_getD]
  cases e : g[i.toNat]? with
  | none => simp [inR]
  | some x => exact h x (List.mem_of_getElem? e)
theorem box_inR {l : List S37} (h : boxOk l) (i : Int) : inR (rd_T37 l i).f1 := by
  unfold rd_T37
  rw [List.getD_eq_getElem?_getD]
  cases e : l[i.toNat]? with
  | none => simp [inR, z37]
  | some x => have := h.2 x (List.mem_of_getElem? e); unfold boxIn at this; unfold inR; simp only [Option.getD_some]; omega
theorem put_inR {y : List S82} (h : ∀ p ∈ y, inR p.f1) (i : Int) : inR (rd_T82 y i).f1 := by
  unfold rd_T82
  rw [List.getD_eq_getElem?_getD]
  cases e : y[i.toNat]? with
  | none => simp [inR, z82]
  | some x => exact h x (List.mem_of_getElem? e)
theorem look_inR {l : List S37} (hl : boxOk l) (x : List S39) {y : List S82} (h : ∀ p ∈ y, inR p.f1) (b : Int) : inR (look l x y b).1 := by
  unfold look
  by_cases c : 0 ≤ atP b y 0
  · rw [if_pos c]; exact put_inR h _
  · rw [if_neg c]; exact box_inR hl _
theorem look_len (l : List S37) (x : List S39) (y : List S82) (b : Int) : (look l x y b).2.length ≤ x.length + 1 := by
  unfold look
  by_cases c : 0 ≤ atP b y 0
  · rw [if_pos c]; simp
  · rw [if_neg c]
    by_cases d : 0 ≤ atR b x 0
    · simp [d]
    · simp [d]
theorem putP_len (y : List S82) (b v : Int) : (putP y b v).length ≤ y.length + 1 := by
  unfold putP
  by_cases c : 0 ≤ atP b y 0
  · rw [if_pos c]; simp
  · rw [if_neg c]; simp
theorem putP_inR {y : List S82} (h : ∀ p ∈ y, inR p.f1) (b : Int) {v : Int} (hv : inR v) : ∀ p ∈ putP y b v, inR p.f1 := by
  unfold putP
  by_cases c : 0 ≤ atP b y 0
  · rw [if_pos c]
    intro p hp
    rcases List.mem_or_eq_of_mem_set hp with h1 | h1
    · exact h p h1
    · rw [h1]; exact hv
  · rw [if_neg c]
    intro p hp
    rcases List.mem_append.1 hp with h1 | h1
    · exact h p h1
    · rw [List.mem_singleton.1 h1]; exact hv

theorem l1Num_some (a : Int) : ∃ v, spec_l1Num.f a = some v ∧ (v = true ↔ -1000000 ≤ a ∧ a ≤ 1000000) := by
  unfold spec_l1Num.f
  by_cases h : a ≥ -1000000
  · exact ⟨decide (a ≤ 1000000), by simp [h], by simp; omega⟩
  · exact ⟨false, by simp [h], by simp; omega⟩
theorem spec_BoxOk_ev (l : List S37) (hn : l.length ≤ 9223372036854775807) : ∃ v, Ev (fun k => spec_BoxOk.f k l) v ∧ (v = true ↔ boxOk l) := by
  classical
  by_cases h4 : l.length = 4
  · have key := ev_loop l.length (fun i k => spec_BoxOk.l0 k l (i : Int)) (fun i => decide (∀ b ∈ l.drop i, boxIn b)) (fun i hi ih => by
      refine Ev.step (fun k => by rw [spec_BoxOk.l0]) ?_
      refine ev_pos (lt_cast hi) (ev_pos (nn_cast i) ?_)
      rw [rd_box hi, wrap_succ hi hn]
      obtain ⟨v, hv, hvi⟩ := l1Num_some (l[i]).f1
      have hs := mem_split (p := boxIn) hi
      by_cases h0 : (l[i]).f0 < 0
      · have : ¬ boxIn l[i] := by unfold boxIn; omega
        simp only [hs, this, false_and, decide_false]
        exact ev_pos h0 (ev_now _)
      refine ev_neg h0 ?_
      by_cases h1 : (l[i]).f0 > 1000000
      · have : ¬ boxIn l[i] := by unfold boxIn; omega
        simp only [hs, this, false_and, decide_false]
        exact ev_pos h1 (ev_now _)
      refine ev_neg h1 (ev_get hv ?_)
      by_cases h2 : v = true
      · have : boxIn l[i] := by have := hvi.1 h2; unfold boxIn; omega
        simp only [hs, this, true_and]
        exact ev_pos h2 ih
      · have : ¬ boxIn l[i] := fun h => h2 (hvi.2 (by unfold boxIn at h; omega))
        simp only [hs, this, false_and, decide_false]
        exact ev_neg h2 (ev_now _)) (by
      refine Ev.step (fun k => by rw [spec_BoxOk.l0]) ?_
      refine ev_neg (by omega) ?_
      simp only [List.drop_length, List.not_mem_nil, false_implies, implies_true, decide_true]
      exact ev_now _) 0 (Nat.zero_le _)
    exact ⟨_, Ev.congr (fun k => by unfold spec_BoxOk.f; exact if_pos (by omega)) key, by simp [boxOk, h4]⟩
  · refine ⟨false, ?_, by simp [boxOk, h4]⟩
    unfold spec_BoxOk.f
    exact ev_neg (by omega) (ev_now _)

theorem l2Box_some (a : Int) : spec_l2Box.f a = some (decide (0 ≤ a ∧ a ≤ 3)) := by
  unfold spec_l2Box.f
  by_cases h : a ≥ 0
  · rw [if_pos h]; congr 1; rw [Bool.eq_iff_iff]; simp; omega
  · rw [if_neg h]; congr 1; rw [Bool.eq_iff_iff]; simp; omega

theorem l1Num_dec (a : Int) : spec_l1Num.f a = some (decide (-1000000 ≤ a ∧ a ≤ 1000000)) := by
  unfold spec_l1Num.f
  by_cases h : a ≥ -1000000
  · rw [if_pos h]; congr 1; rw [Bool.eq_iff_iff]; simp; omega
  · rw [if_neg h]; congr 1; rw [Bool.eq_iff_iff]; simp; omega

theorem l2Reg_some (a : Int) : spec_l2Reg.f a = some (decide (0 ≤ a ∧ a ≤ 3)) := by
  unfold spec_l2Reg.f
  by_cases h : a ≥ 0
  · rw [if_pos h]; congr 1; rw [Bool.eq_iff_iff]; simp; omega
  · rw [if_neg h]; congr 1; rw [Bool.eq_iff_iff]; simp; omega
theorem l2Ins_ev (x : S95) : Ev (fun k => spec_l2Ins.f k x.f0 x.f1 x.f2 x.f3) (decide (insIn x)) := by
  obtain ⟨kd, a, b, n⟩ := x
  unfold spec_l2Ins.f
  simp only [l2Reg_some, l2Box_some, l1Num_dec, Option.bind_some, decide_eq_true_eq]
  have fin : ∀ {X : Option Bool}, X = some (decide (insIn ⟨kd, a, b, n⟩)) → Ev (fun _ => X) (decide (insIn ⟨kd, a, b, n⟩)) := fun h => ev_const h
  refine ev_ite (fun h => fin ?_) (fun h1 => ev_ite (fun h => fin ?_) (fun h2 => ev_ite (fun h => fin ?_) (fun h3 => ?_)))
  · repeat' split
    all_goals (congr 1; rw [Bool.eq_iff_iff]; simp only [decide_eq_true_eq, beq_iff_eq, Bool.false_eq_true]; simp only [insIn]; constructor <;> intro hh_ <;> first | exact hh_.elim | omega)
  · repeat' split
    all_goals (congr 1; rw [Bool.eq_iff_iff]; simp only [decide_eq_true_eq, beq_iff_eq, Bool.false_eq_true]; simp only [insIn]; constructor <;> intro hh_ <;> first | exact hh_.elim | omega)
  · repeat' split
    all_goals (congr 1; rw [Bool.eq_iff_iff]; simp only [decide_eq_true_eq, beq_iff_eq, Bool.false_eq_true]; simp only [insIn]; constructor <;> intro hh_ <;> first | exact hh_.elim | omega)
  · have key : ∀ t : Bool, (t = true ↔ kd = 4 ∨ kd = 5) → Ev (fun k => spec_l2Ins.j0 k kd t kd a b n) (decide (insIn ⟨kd, a, b, n⟩)) := by
      intro t ht
      refine Ev.step (fun k => by rw [spec_l2Ins.j0]) ?_
      simp only [l2Reg_some, l2Box_some, l1Num_dec, Option.bind_some, decide_eq_true_eq]
      refine fin ?_
      by_cases h4 : t = true
      · have := ht.1 h4
        rw [if_pos h4]
        repeat' split
        all_goals (congr 1; rw [Bool.eq_iff_iff]; simp only [decide_eq_true_eq, beq_iff_eq, Bool.false_eq_true]; simp only [insIn]; constructor <;> intro hh_ <;> first | exact hh_.elim | omega)
      · have : ¬ (kd = 4 ∨ kd = 5) := fun h => h4 (ht.2 h)
        rw [if_neg h4]
        repeat' split
        all_goals (congr 1; rw [Bool.eq_iff_iff]; simp only [decide_eq_true_eq, beq_iff_eq, Bool.false_eq_true]; simp only [insIn]; constructor <;> intro hh_ <;> first | exact hh_.elim | omega)
    refine ev_ite (fun h4 => key _ (by simp [h4])) (fun h4 => key _ (by simp [h4]))
theorem spec_ProgOk_ev (l : List S95) (hn : l.length ≤ 9223372036854775807) : ∃ v, Ev (fun k => spec_ProgOk.f k l) v ∧ (v = true ↔ progOk l) := by
  by_cases h10 : l.length ≤ 10
  · have key := ev_loop l.length (fun i k => spec_ProgOk.l0 k l (i : Int)) (fun i => decide (∀ b ∈ l.drop i, insIn b)) (fun i hi ih => by
      refine Ev.step (fun k => by rw [spec_ProgOk.l0]) ?_
      refine ev_pos (lt_cast hi) (ev_pos (nn_cast i) ?_)
      rw [rdi_Ins hi, wrap_succ hi hn]
      refine (l2Ins_ev l[i]).bind ?_
      have hs : (∀ b ∈ l.drop i, insIn b) ↔ insIn l[i] ∧ ∀ b ∈ l.drop (i + 1), insIn b := mem_split (p := insIn) hi
      simp only [hs, decide_eq_true_eq]
      by_cases h1 : insIn l[i]
      · simp only [h1, true_and]
        exact ev_pos trivial ih
      · simp only [h1, false_and, decide_false]
        exact ev_neg (fun h => h) (ev_now _)) (by
      refine Ev.step (fun k => by rw [spec_ProgOk.l0]) ?_
      refine ev_neg (by omega) ?_
      simp only [List.drop_length, List.not_mem_nil, false_implies, implies_true, decide_true]
      exact ev_now _) 0 (Nat.zero_le _)
    exact ⟨_, Ev.congr (fun k => by unfold spec_ProgOk.f; exact if_neg (by omega)) key, by simp [progOk, h10]⟩
  · refine ⟨false, ?_, by simp [progOk]; omega⟩
    unfold spec_ProgOk.f
    exact ev_pos (by omega) (ev_now _)

theorem l3At_at (b : Int) (y : List S82) (hn : y.length ≤ 9223372036854775807) : Ev (fun k => spec_l3At.f k y b) (atP b y 0) := by
  have key : ∀ d i, i + d = y.length → Ev (fun k => spec_l3At.l0 k y b (i : Int)) (atP b (y.drop i) (i : Int)) := by
    intro d
    induction d with
    | zero =>
      intro i hi
      obtain rfl : i = y.length := by omega
      rw [List.drop_length]
      refine Ev.step (fun k => by rw [spec_l3At.l0]) ?_
      exact ev_neg (by omega) (ev_now _)
    | succ d ih =>
      intro i hd
      have hi : i < y.length := by omega
      rw [List.drop_eq_getElem_cons hi]
      unfold atP
      refine Ev.step (fun k => by rw [spec_l3At.l0]) ?_
      refine ev_pos (lt_cast hi) (ev_pos (nn_cast i) ?_)
      rw [rdi_Put hi, wrap_succ hi hn]
      by_cases c : (y[i]).f0 = b
      · rw [if_pos c]; exact ev_pos c (ev_now _)
      · rw [if_neg c]; exact ev_neg c (ih (i + 1) (by omega))
  unfold spec_l3At.f
  simpa using key y.length 0 (by omega)
theorem l3Saw_at (b : Int) (x : List S39) (hn : x.length ≤ 9223372036854775807) : Ev (fun k => spec_l3Saw.f k x b) (decide (0 ≤ atR b x 0)) := by
  have key : ∀ d i, i + d = x.length → Ev (fun k => spec_l3Saw.l0 k x b (i : Int)) (decide (0 ≤ atR b (x.drop i) (i : Int))) := by
    intro d
    induction d with
    | zero =>
      intro i hi
      obtain rfl : i = x.length := by omega
      rw [List.drop_length]
      refine Ev.step (fun k => by rw [spec_l3Saw.l0]) ?_
      exact ev_neg (by omega) (ev_now _)
    | succ d ih =>
      intro i hd
      have hi : i < x.length := by omega
      rw [List.drop_eq_getElem_cons hi]
      unfold atR
      refine Ev.step (fun k => by rw [spec_l3Saw.l0]) ?_
      refine ev_pos (lt_cast hi) (ev_pos (nn_cast i) ?_)
      rw [rdi_Read hi, wrap_succ hi hn]
      by_cases c : (x[i]).f0 = b
      · rw [if_pos c]; simp only [nn_cast, decide_true]; exact ev_pos c (ev_now _)
      · rw [if_neg c]; exact ev_neg c (ih (i + 1) (by omega))
  unfold spec_l3Saw.f
  simpa using key x.length 0 (by omega)
theorem l3Look_ev (l : List S37) (x : List S39) (y : List S82) (a c b : Int) (hl : l.length = 4) (h0 : 0 ≤ b) (h3 : b ≤ 3) (hx : x.length ≤ 1000) (hy : y.length ≤ 1000) :
    Ev (fun k => spec_l3Look.f k l x y a c b) ((look l x y b).1, (look l x y b).2, y, a, c) := by
  unfold spec_l3Look.f
  refine (l3At_at b y (by omega)).bind ?_
  by_cases e : 0 ≤ atP b y 0
  · have hL : look l x y b = ((rd_T82 y (atP b y 0)).f1, x) := by unfold look; rw [if_pos e]
    rw [hL]
    exact ev_pos e (ev_pos e (ev_pos (atP_lt b y e) (ev_now _)))
  · refine ev_neg e ((l3Saw_at b x (by omega)).bind ?_)
    by_cases d : 0 ≤ atR b x 0
    · have hL : look l x y b = ((rd_T37 l b).f1, x) := by unfold look; rw [if_neg e, if_pos d]
      rw [hL]
      exact ev_pos (by simpa using d) (ev_pos h0 (ev_pos (by omega) (ev_now _)))
    · have hL : look l x y b = ((rd_T37 l b).f1, x ++ [⟨b, (rd_T37 l b).f0⟩]) := by unfold look; rw [if_neg e, if_neg d]
      rw [hL]
      exact ev_neg (by simpa using d) (ev_pos h0 (ev_pos (by omega) (ev_pos (by omega) (ev_now _))))
theorem l3Put_ev (x : List S39) (y : List S82) (a c b v : Int) (hy : y.length ≤ 1000) : Ev (fun k => spec_l3Put.f k x y a c b v) (x, putP y b v, a, c) := by
  unfold spec_l3Put.f
  refine (l3At_at b y (by omega)).bind ?_
  by_cases e : 0 ≤ atP b y 0
  · have hL : putP y b v = y.set (atP b y 0).toNat ⟨(rd_T82 y (atP b y 0)).f0, v⟩ := by unfold putP; rw [if_pos e]
    rw [hL]
    exact ev_pos e (ev_pos e (ev_pos (atP_lt b y e) (ev_now _)))
  · have hL : putP y b v = y ++ [⟨b, v⟩] := by unfold putP; rw [if_neg e]
    rw [hL]
    exact ev_neg e (ev_pos (by omega) (ev_now _))
/-- A run that has ended with a code gives no puts. -/
theorem sRun_end (l : List S37) (p : List S95) (g : List Int) (i : Int) (x : List S39) (y : List S82) (a c : Int) (hc : c ≠ 0) : Ev (fun k => spec_ExecRun.l0 k l p g i x y a c) (x, [], a, c) := by
  have j2 : Ev (fun k => spec_ExecRun.j2 k l p g i false x y a c) (x, [], a, c) := by
    refine Ev.step (fun k => by rw [spec_ExecRun.j2]) ?_
    exact ev_neg (by simp) (ev_neg hc (ev_now _))
  refine Ev.step (fun k => by rw [spec_ExecRun.l0]) ?_
  refine ev_ite (fun _ => ?_) (fun _ => j2)
  have e : (c == 0) = false := by simpa using hc
  rw [e]; exact j2
theorem sRun_ev (l : List S37) (p : List S95) (hl : boxOk l) (hp : progOk p) : ∀ (f i : Nat) (g : List Int) (x : List S39) (y : List S82), Mid i g x y → i ≤ 30 → p.length < i + f →
    Ev (fun k => spec_ExecRun.l0 k l p g (i : Int) x y 0 0) (runP l p f i g x y) := by
  intro f
  induction f with
  | zero =>
    intro i g x y hM hi hf
    refine Ev.step (fun k => by rw [spec_ExecRun.l0]) ?_
    refine ev_neg (by omega) ?_
    refine Ev.step (fun k => by rw [spec_ExecRun.j2]) ?_
    exact ev_neg (by simp) (ev_pos rfl (ev_pos (by have := hM.len; omega) (ev_now _)))
  | succ f ih =>
    intro i g x y hM hi hf
    unfold runP
    refine Ev.step (fun k => by rw [spec_ExecRun.l0]) ?_
    by_cases hin : i < p.length
    case neg =>
      rw [if_neg hin]
      refine ev_neg (by omega) ?_
      refine Ev.step (fun k => by rw [spec_ExecRun.j2]) ?_
      exact ev_neg (by simp) (ev_pos rfl (ev_pos (by have := hM.len; omega) (ev_now _)))
    rw [if_pos hin]
    refine ev_pos (lt_cast hin) ?_
    refine Ev.step (fun k => by rw [spec_ExecRun.j2]) ?_
    refine ev_pos (by simp) (ev_pos (nn_cast i) (ev_pos (lt_cast hin) ?_))
    have hs := hp.2 _ (List.getElem_mem hin)
    rw [← rdi_Ins hin] at hs
    have hw : wrap64 ((i : Int) + 1) = ((i + 1 : Nat) : Int) := wrap_succ hin (by have := hp.1; omega)
    rw [hw]
    generalize rd_T95 p (i : Int) = s at hs
    simp only
    have h10 := hp.1
    unfold insIn at hs
    have g4 := hM.len
    -- a step that is no ProgLess: what it leaves, and its check
    have chk : ∀ (g' : List Int) (x' : List S39) (y' : List S82), g'.length = 4 → (s.f0 ≠ 2 → 0 ≤ s.f1 ∧ s.f1 ≤ 3) → (s.f0 ≠ 2 → inR (rd g' s.f1)) → Ev (fun k => spec_l3Step.j0 k g' x' y' 0 0 s.f0 s.f1 s.f2 s.f3) (x', y', 0, 0, g') := by
      intro g' x' y' hg hr hin
      refine Ev.step (fun k => by rw [spec_l3Step.j0]) ?_
      refine ev_ite (fun _ => ev_now _) (fun c => ?_)
      obtain ⟨r0, r1⟩ := hr c
      refine ev_pos r0 (ev_pos (by omega) (ev_get (l1Num_dec _) ?_))
      exact ev_pos (by simpa [inR] using hin c) (ev_now _)
    have bad : ∀ (g' : List Int) (c : Int), g'.length = 4 → s.f0 ≠ 2 → (0 ≤ s.f1 ∧ s.f1 ≤ 3) → ¬ inR (rd g' s.f1) → Ev (fun k => spec_l3Step.j0 k g' x y 0 c s.f0 s.f1 s.f2 s.f3) (x, y, 0, 2, g') := by
      intro g' c hg h2 hr hin
      refine Ev.step (fun k => by rw [spec_l3Step.j0]) ?_
      refine ev_neg h2 (ev_pos hr.1 (ev_pos (by omega) (ev_get (l1Num_dec _) ?_)))
      exact ev_neg (by simpa [inR] using hin) (ev_now _)
    have rset : ∀ v, 0 ≤ s.f1 → s.f1 ≤ 3 → rd (g.set s.f1.toNat v) s.f1 = v := by
      intro v a b
      unfold rd
      rw [List.getD_eq_getElem?_getD, List.getElem?_set_self (by omega)]
      rfl
    have go : ∀ (g' : List Int) (x' : List S39) (y' : List S82), g'.length = 4 → (∀ v ∈ g', inR v) → (∀ q ∈ y', inR q.f1) → x'.length ≤ i + 1 → y'.length ≤ i + 1 → Ev (fun k => spec_ExecRun.l0 k l p g' ((i + 1 : Nat) : Int) x' y' 0 0) (runP l p f (i + 1) g' x' y') :=
      fun _ _ _ a b c d e => ih (i + 1) _ _ _ ⟨a, b, c, d, e⟩ (by omega) (by omega)
    have xl := hM.xl
    have yl := hM.yl
    by_cases k6 : s.f0 = 6
    · rw [if_neg (by omega), if_neg (by omega), if_neg (by omega), if_neg (by omega), if_neg (by omega), if_pos k6]
      refine ev_pos k6 (ev_pos (by omega) (ev_pos (by omega) (ev_pos (by omega) (ev_pos (by omega) ?_))))
      by_cases c : rd g s.f1 < rd g s.f2
      · rw [if_pos c]
        have hw2 : wrap64 (wrap64 ((i : Int) + s.f3) + 1) = ((i + s.f3.toNat + 1 : Nat) : Int) := by
          rw [wrap_id (a := (i : Int) + s.f3) (by omega) (by omega), wrap_id (by omega) (by omega)]; omega
        refine ev_pos c ?_
        rw [hw2]
        exact ih _ _ _ _ ⟨g4, hM.reg, hM.put, by omega, by omega⟩ (by omega) (by omega)
      · rw [if_neg c]
        exact ev_neg c (ih _ _ _ _ ⟨g4, hM.reg, hM.put, by omega, by omega⟩ (by omega) (by omega))
    refine ev_neg k6 ?_
    unfold spec_l3Step.f
    by_cases k1 : s.f0 = 1
    · rw [if_pos k1]
      have hlk := look_inR hl x hM.put s.f2
      refine (ev_pos k1 ((l3Look_ev l x y 0 0 s.f2 hl.1 (by omega) (by omega) (by omega) (by omega)).bind (ev_pos (by omega) (ev_pos (by omega) (chk (g.set s.f1.toNat (look l x y s.f2).1) (look l x y s.f2).2 y (by rw [List.length_set]; exact g4) (fun _ => by omega) (fun _ => by rw [rset _ (by omega) (by omega)]; exact hlk)))))).bind ?_
      exact go (g.set s.f1.toNat (look l x y s.f2).1) (look l x y s.f2).2 y (by rw [List.length_set]; exact g4) (inR_set hM.reg hlk) hM.put (by have := look_len l x y s.f2; omega) (by omega)
    rw [if_neg k1]
    by_cases k2 : s.f0 = 2
    · rw [if_pos k2]
      refine (ev_neg k1 (ev_pos k2 (ev_pos (by omega) (ev_pos (by omega) ((l3Put_ev x y 0 0 s.f1 (rd g s.f2) (by omega)).bind (chk g x (putP y s.f1 (rd g s.f2)) g4 (fun h => absurd k2 h) (fun h => absurd k2 h))))))).bind ?_
      exact go g x (putP y s.f1 (rd g s.f2)) g4 hM.reg (putP_inR hM.put _ (rd_inR hM.reg _)) (by omega) (by have := putP_len y s.f1 (rd g s.f2); omega)
    rw [if_neg k2]
    by_cases k3 : s.f0 = 3
    · rw [if_pos k3]
      have hv : inR s.f3 := by unfold inR; omega
      refine (ev_neg k1 (ev_neg k2 (ev_pos k3 (ev_pos (by omega) (ev_pos (by omega) (chk (g.set s.f1.toNat s.f3) x y (by rw [List.length_set]; exact g4) (fun _ => by omega) (fun _ => by rw [rset _ (by omega) (by omega)]; exact hv))))))).bind ?_
      exact go (g.set s.f1.toNat s.f3) x y (by rw [List.length_set]; exact g4) (inR_set hM.reg hv) hM.put (by omega) (by omega)
    rw [if_neg k3]
    have ra := rd_inR hM.reg s.f1
    have rb := rd_inR hM.reg s.f2
    unfold inR at ra rb
    by_cases k4 : s.f0 = 4
    · rw [if_pos k4]
      have hw3 : wrap64 (rd g s.f1 + rd g s.f2) = rd g s.f1 + rd g s.f2 := wrap_id (by omega) (by omega)
      rw [hw3]
      by_cases hv : inR (rd g s.f1 + rd g s.f2)
      · rw [if_pos hv]
        refine (ev_neg k1 (ev_neg k2 (ev_neg k3 (ev_pos k4 (ev_pos (by omega) (ev_pos (by omega) (ev_pos (by omega) (ev_pos (by omega) (chk (g.set s.f1.toNat (rd g s.f1 + rd g s.f2)) x y (by rw [List.length_set]; exact g4) (fun _ => by omega) (fun _ => by rw [rset _ (by omega) (by omega)]; exact hv)))))))))).bind ?_
        exact go (g.set s.f1.toNat (rd g s.f1 + rd g s.f2)) x y (by rw [List.length_set]; exact g4) (inR_set hM.reg hv) hM.put (by omega) (by omega)
      · rw [if_neg hv]
        refine (ev_neg k1 (ev_neg k2 (ev_neg k3 (ev_pos k4 (ev_pos (by omega) (ev_pos (by omega) (ev_pos (by omega) (ev_pos (by omega) (bad (g.set s.f1.toNat (rd g s.f1 + rd g s.f2)) 0 (by rw [List.length_set]; exact g4) k2 (by omega) (by rw [rset _ (by omega) (by omega)]; exact hv)))))))))).bind ?_
        exact sRun_end l p _ _ x y 0 2 (by omega)
    rw [if_neg k4]
    by_cases k5 : s.f0 = 5
    · rw [if_pos k5]
      have hw3 : wrap64 (rd g s.f1 - rd g s.f2) = rd g s.f1 - rd g s.f2 := wrap_id (by omega) (by omega)
      rw [hw3]
      by_cases hv : inR (rd g s.f1 - rd g s.f2)
      · rw [if_pos hv]
        refine (ev_neg k1 (ev_neg k2 (ev_neg k3 (ev_neg k4 (ev_pos k5 (ev_pos (by omega) (ev_pos (by omega) (ev_pos (by omega) (ev_pos (by omega) (chk (g.set s.f1.toNat (rd g s.f1 - rd g s.f2)) x y (by rw [List.length_set]; exact g4) (fun _ => by omega) (fun _ => by rw [rset _ (by omega) (by omega)]; exact hv))))))))))).bind ?_
        exact go (g.set s.f1.toNat (rd g s.f1 - rd g s.f2)) x y (by rw [List.length_set]; exact g4) (inR_set hM.reg hv) hM.put (by omega) (by omega)
      · rw [if_neg hv]
        refine (ev_neg k1 (ev_neg k2 (ev_neg k3 (ev_neg k4 (ev_pos k5 (ev_pos (by omega) (ev_pos (by omega) (ev_pos (by omega) (ev_pos (by omega) (bad (g.set s.f1.toNat (rd g s.f1 - rd g s.f2)) 0 (by rw [List.length_set]; exact g4) k2 (by omega) (by rw [rset _ (by omega) (by omega)]; exact hv))))))))))).bind ?_
        exact sRun_end l p _ _ x y 0 2 (by omega)
    rw [if_neg k5, if_neg k6]
    have k7 : s.f0 = 7 := by omega
    have fin : Ev (fun k => spec_l3Step.j0 k g x y 0 1 s.f0 s.f1 s.f2 s.f3) (x, y, 0, 1, g) := by
      refine Ev.step (fun k => by rw [spec_l3Step.j0]) ?_
      refine ev_neg k2 (ev_pos (by omega) (ev_pos (by omega) (ev_get (l1Num_dec _) ?_)))
      exact ev_pos (by simpa using ra) (ev_now _)
    refine (ev_neg k1 (ev_neg k2 (ev_neg k3 (ev_neg k4 (ev_neg k5 (ev_pos k7 fin)))))).bind ?_
    exact sRun_end l p _ _ x y 0 1 (by omega)

theorem in_some (a b c : Int) : ∃ v, impl_in.f a b c = some v ∧ (v = true ↔ b ≤ a ∧ a ≤ c) := by
  unfold impl_in.f
  by_cases h : a ≥ b
  · exact ⟨decide (a ≤ c), by simp [h], by simp; omega⟩
  · exact ⟨false, by simp [h], by simp; omega⟩
theorem impl_BoxOk_ev (l : List S37) (hn : l.length ≤ 9223372036854775807) : ∃ v, Ev (fun k => impl_BoxOk.f k l) v ∧ (v = true ↔ boxOk l) := by
  classical
  have key := ev_loop l.length (fun i k => impl_BoxOk.l0 k l l (l.length : Int) (i : Int)) (fun i => decide ((∀ b ∈ l.drop i, boxIn b) ∧ l.length = 4)) (fun i hi ih => by
      refine Ev.step (fun k => by rw [impl_BoxOk.l0]) ?_
      refine ev_pos (lt_cast hi) (ev_pos (nn_cast i) (ev_pos (lt_cast hi) ?_))
      rw [rd_box hi, wrap_succ hi hn]
      obtain ⟨v, hv, hvi⟩ := in_some (l[i]).f0 0 1000000
      obtain ⟨u, hu, hui⟩ := in_some (l[i]).f1 (-1000000) 1000000
      have hs := mem_split (p := boxIn) hi
      refine ev_get hv ?_
      by_cases h1 : v = true
      · refine ev_pos h1 (ev_get hu ?_)
        by_cases h2 : u = true
        · have : boxIn l[i] := by have := hvi.1 h1; have := hui.1 h2; unfold boxIn; omega
          simp only [hs, this, true_and]
          exact ev_pos h2 ih
        · have : ¬ boxIn l[i] := fun h => h2 (hui.2 (by unfold boxIn at h; omega))
          simp only [hs, this, false_and, decide_false]
          exact ev_neg h2 (ev_now _)
      · have : ¬ boxIn l[i] := fun h => h1 (hvi.2 (by unfold boxIn at h; omega))
        simp only [hs, this, false_and, decide_false]
        exact ev_neg h1 (ev_now _)) (by
      refine Ev.step (fun k => by rw [impl_BoxOk.l0]) ?_
      refine ev_neg (by omega) ?_
      have : ((l.length : Int) == 4) = decide ((∀ b ∈ l.drop l.length, boxIn b) ∧ l.length = 4) := by
        rw [List.drop_length]
        by_cases h : l.length = 4
        · simp [h]
        · have : (l.length : Int) ≠ 4 := by omega
          simp [h, this]
      rw [← this]
      exact ev_now _) 0 (Nat.zero_le _)
  exact ⟨_, Ev.congr (fun k => by unfold impl_BoxOk.f; exact rfl) key, by simp [boxOk, and_comm]⟩

theorem in_dec (a b c : Int) : impl_in.f a b c = some (decide (b ≤ a ∧ a ≤ c)) := by
  unfold impl_in.f
  by_cases h : a ≥ b
  · rw [if_pos h]; congr 1; rw [Bool.eq_iff_iff]; simp; omega
  · rw [if_neg h]; congr 1; rw [Bool.eq_iff_iff]; simp; omega

theorem insOk1_dec (a : Int) : impl_insOk_1.f a = some (decide (0 ≤ a ∧ a ≤ 3)) := by
  unfold impl_insOk_1.f
  rw [in_dec]; rfl
theorem insOk2_dec (a : Int) : impl_insOk_2.f a = some (decide (0 ≤ a ∧ a ≤ 3)) := by
  unfold impl_insOk_2.f
  rw [in_dec]; rfl
theorem insOk_ev (x : S95) : Ev (fun k => impl_insOk.f k x.f0 x.f1 x.f2 x.f3) (decide (insIn x)) := by
  obtain ⟨kd, a, b, n⟩ := x
  unfold impl_insOk.f
  simp only [insOk1_dec, insOk2_dec, in_dec, Option.bind_some, decide_eq_true_eq]
  have fin : ∀ {X : Option Bool}, X = some (decide (insIn ⟨kd, a, b, n⟩)) → Ev (fun _ => X) (decide (insIn ⟨kd, a, b, n⟩)) := fun h => ev_const h
  refine ev_ite (fun h => fin ?_) (fun h1 => ev_ite (fun h => fin ?_) (fun h2 => ev_ite (fun h => fin ?_) (fun h3 => ?_)))
  · repeat' split
    all_goals (congr 1; rw [Bool.eq_iff_iff]; simp only [decide_eq_true_eq, beq_iff_eq, Bool.false_eq_true]; simp only [insIn]; constructor <;> intro hh_ <;> first | exact hh_.elim | omega)
  · repeat' split
    all_goals (congr 1; rw [Bool.eq_iff_iff]; simp only [decide_eq_true_eq, beq_iff_eq, Bool.false_eq_true]; simp only [insIn]; constructor <;> intro hh_ <;> first | exact hh_.elim | omega)
  · repeat' split
    all_goals (congr 1; rw [Bool.eq_iff_iff]; simp only [decide_eq_true_eq, beq_iff_eq, Bool.false_eq_true]; simp only [insIn]; constructor <;> intro hh_ <;> first | exact hh_.elim | omega)
  · have key : ∀ t : Bool, (t = true ↔ kd = 4 ∨ kd = 5) → Ev (fun k => impl_insOk.j0 k kd t kd a b n) (decide (insIn ⟨kd, a, b, n⟩)) := by
      intro t ht
      refine Ev.step (fun k => by rw [impl_insOk.j0]) ?_
      simp only [insOk1_dec, insOk2_dec, in_dec, Option.bind_some, decide_eq_true_eq]
      refine fin ?_
      by_cases h4 : t = true
      · have := ht.1 h4
        rw [if_pos h4]
        repeat' split
        all_goals (congr 1; rw [Bool.eq_iff_iff]; simp only [decide_eq_true_eq, beq_iff_eq, Bool.false_eq_true]; simp only [insIn]; constructor <;> intro hh_ <;> first | exact hh_.elim | omega)
      · have : ¬ (kd = 4 ∨ kd = 5) := fun h => h4 (ht.2 h)
        rw [if_neg h4]
        repeat' split
        all_goals (congr 1; rw [Bool.eq_iff_iff]; simp only [decide_eq_true_eq, beq_iff_eq, Bool.false_eq_true]; simp only [insIn]; constructor <;> intro hh_ <;> first | exact hh_.elim | omega)
    refine ev_ite (fun h4 => key _ (by simp [h4])) (fun h4 => key _ (by simp [h4]))
theorem impl_ProgOk_ev (l : List S95) (hn : l.length ≤ 9223372036854775807) : ∃ v, Ev (fun k => impl_ProgOk.f k l) v ∧ (v = true ↔ progOk l) := by
  have key := ev_loop l.length (fun i k => impl_ProgOk.l0 k l l (l.length : Int) (i : Int)) (fun i => decide ((∀ b ∈ l.drop i, insIn b) ∧ l.length ≤ 10)) (fun i hi ih => by
      refine Ev.step (fun k => by rw [impl_ProgOk.l0]) ?_
      refine ev_pos (lt_cast hi) (ev_pos (nn_cast i) (ev_pos (lt_cast hi) ?_))
      rw [rdi_Ins hi, wrap_succ hi hn]
      refine (insOk_ev l[i]).bind ?_
      have hs : (∀ b ∈ l.drop i, insIn b) ↔ insIn l[i] ∧ ∀ b ∈ l.drop (i + 1), insIn b := mem_split (p := insIn) hi
      simp only [hs, decide_eq_true_eq]
      by_cases h1 : insIn l[i]
      · simp only [h1, true_and]
        exact ev_pos trivial ih
      · simp only [h1, false_and, decide_false]
        exact ev_neg (fun h => h) (ev_now _)) (by
      refine Ev.step (fun k => by rw [impl_ProgOk.l0]) ?_
      refine ev_neg (by omega) ?_
      have : decide ((l.length : Int) ≤ 10) = decide ((∀ b ∈ l.drop l.length, insIn b) ∧ l.length ≤ 10) := by
        rw [List.drop_length, Bool.eq_iff_iff]
        simp; omega
      rw [this]
      exact ev_now _) 0 (Nat.zero_le _)
  exact ⟨_, Ev.congr (fun k => by unfold impl_ProgOk.f; exact rfl) key, by simp [progOk, and_comm]⟩

theorem putAt_at (b : Int) (x : List S39) (y : List S82) (u v : Int) (hn : y.length ≤ 9223372036854775807) : Ev (fun k => impl_putAt.f k x y u v b) (atP b y 0) := by
  have key : ∀ d i, i + d = y.length → Ev (fun k => impl_putAt.l0 k b y (y.length : Int) (i : Int)) (atP b (y.drop i) (i : Int)) := by
    intro d
    induction d with
    | zero =>
      intro i hi
      obtain rfl : i = y.length := by omega
      rw [List.drop_length]
      refine Ev.step (fun k => by rw [impl_putAt.l0]) ?_
      exact ev_neg (by omega) (ev_now _)
    | succ d ih =>
      intro i hd
      have hi : i < y.length := by omega
      rw [List.drop_eq_getElem_cons hi]
      unfold atP
      refine Ev.step (fun k => by rw [impl_putAt.l0]) ?_
      refine ev_pos (lt_cast hi) (ev_pos (nn_cast i) (ev_pos (lt_cast hi) ?_))
      rw [rdi_Put hi, wrap_succ hi hn]
      by_cases c : (y[i]).f0 = b
      · rw [if_pos c]; exact ev_pos c (ev_now _)
      · rw [if_neg c]; exact ev_neg c (ih (i + 1) (by omega))
  unfold impl_putAt.f
  simpa using key y.length 0 (by omega)
theorem readAt_at (b : Int) (x : List S39) (y : List S82) (u v : Int) (hn : x.length ≤ 9223372036854775807) : Ev (fun k => impl_readAt.f k x y u v b) (atR b x 0) := by
  have key : ∀ d i, i + d = x.length → Ev (fun k => impl_readAt.l0 k b x (x.length : Int) (i : Int)) (atR b (x.drop i) (i : Int)) := by
    intro d
    induction d with
    | zero =>
      intro i hi
      obtain rfl : i = x.length := by omega
      rw [List.drop_length]
      refine Ev.step (fun k => by rw [impl_readAt.l0]) ?_
      exact ev_neg (by omega) (ev_now _)
    | succ d ih =>
      intro i hd
      have hi : i < x.length := by omega
      rw [List.drop_eq_getElem_cons hi]
      unfold atR
      refine Ev.step (fun k => by rw [impl_readAt.l0]) ?_
      refine ev_pos (lt_cast hi) (ev_pos (nn_cast i) (ev_pos (lt_cast hi) ?_))
      rw [rdi_Read hi, wrap_succ hi hn]
      by_cases c : (x[i]).f0 = b
      · rw [if_pos c]; exact ev_pos c (ev_now _)
      · rw [if_neg c]; exact ev_neg c (ih (i + 1) (by omega))
  unfold impl_readAt.f
  simpa using key x.length 0 (by omega)
theorem copR_some (x : List S39) (h : x.length ≤ 1000) : impl_copied_impl_Read.f x = some x := by
  unfold impl_copied_impl_Read.f; exact if_pos (by omega)
theorem copP_some (x : List S82) (h : x.length ≤ 1000) : impl_copied_impl_Put.f x = some x := by
  unfold impl_copied_impl_Put.f; exact if_pos (by omega)
theorem ixI_set (j v a b c d : Int) (h0 : 0 ≤ j) (h1 : j ≤ 3) : [ixI j 0 v a, ixI j 1 v b, ixI j 2 v c, ixI j 3 v d] = [a, b, c, d].set j.toNat v := by
  have : j = 0 ∨ j = 1 ∨ j = 2 ∨ j = 3 := by omega
  rcases this with rfl | rfl | rfl | rfl <;> simp [ixI]
/-- The registers are looked at behind each instruction. -/
theorem chk_ev (l : List S37) (p : List S95) (i : Int) (a b c d : Int) (x : List S39) (y : List S82) (u v : Int) (r : RunT) (hx : x.length ≤ 1000)
    (h1 : inR a → inR b → inR c → inR d → Ev (fun k => impl_ExecRun.l0 k l p (wrap64 (i + 1)) a b c d x y u v) r) (h2 : ¬ (inR a ∧ inR b ∧ inR c ∧ inR d) → r = (x, [], 0, 2)) : Ev (fun k => impl_ExecRun.j2 k l p i a b c d x y u v) r := by
  refine Ev.step (fun k => by rw [impl_ExecRun.j2]) ?_
  have one : ∀ (q : Int) (z : Int), 0 ≤ q → q < 4 → rd [a, b, c, d] q = z → (¬ inR z → ¬ (inR a ∧ inR b ∧ inR c ∧ inR d)) → (inR z → Ev (fun k => impl_ExecRun.l1 k l p i (q + 1) a b c d x y u v a b c d) r) → Ev (fun k => impl_ExecRun.l1 k l p i q a b c d x y u v a b c d) r := by
    intro q z q0 q4 hz hn hy
    refine Ev.step (fun k => by rw [impl_ExecRun.l1]) ?_
    have hw : wrap64 (q + 1) = q + 1 := wrap_id (by omega) (by omega)
    rw [hz, hw]
    refine ev_pos q4 (ev_pos q0 (ev_get (in_dec _ _ _) ?_))
    by_cases e : inR z
    · exact ev_pos (by simpa [inR] using e) (hy e)
    · refine ev_neg (by simpa [inR] using e) (ev_get (copR_some x hx) ?_)
      rw [h2 (hn e)]
      exact ev_now _
  refine one 0 a (by omega) (by omega) rfl (fun h g => h g.1) (fun ha => one 1 b (by omega) (by omega) rfl (fun h g => h g.2.1) (fun hb => one 2 c (by omega) (by omega) rfl (fun h g => h g.2.2.1) (fun hc => one 3 d (by omega) (by omega) rfl (fun h g => h g.2.2.2) (fun hd => ?_))))
  refine Ev.step (fun k => by rw [impl_ExecRun.l1]) ?_
  exact ev_neg (by omega) (h1 ha hb hc hd)
theorem iRun_ev (l : List S37) (p : List S95) (hl : boxOk l) (hp : progOk p) : ∀ (f i : Nat) (a b c d : Int) (x : List S39) (y : List S82), Mid i [a, b, c, d] x y → i ≤ 30 → p.length < i + f →
    Ev (fun k => impl_ExecRun.l0 k l p (i : Int) a b c d x y 0 0) (runP l p f i [a, b, c, d] x y) := by
  intro f
  induction f with
  | zero =>
    intro i a b c d x y hM hi hf
    refine Ev.step (fun k => by rw [impl_ExecRun.l0]) ?_
    exact ev_neg (by omega) (ev_get (copR_some x (by have := hM.xl; omega)) (ev_get (copP_some y (by have := hM.yl; omega)) (ev_now _)))
  | succ f ih =>
    intro i a b c d x y hM hi hf
    have xl := hM.xl
    have yl := hM.yl
    unfold runP
    refine Ev.step (fun k => by rw [impl_ExecRun.l0]) ?_
    by_cases hin : i < p.length
    case neg =>
      rw [if_neg hin]
      exact ev_neg (by omega) (ev_get (copR_some x (by omega)) (ev_get (copP_some y (by omega)) (ev_now _)))
    rw [if_pos hin]
    refine ev_pos (lt_cast hin) (ev_pos (nn_cast i) ?_)
    have hs := hp.2 _ (List.getElem_mem hin)
    rw [← rdi_Ins hin] at hs
    have h10 := hp.1
    have hw : wrap64 ((i : Int) + 1) = ((i + 1 : Nat) : Int) := wrap_succ hin (by omega)
    generalize rd_T95 p (i : Int) = s at hs
    simp only
    unfold insIn at hs
    have all : ∀ {q w e t : Int}, (∀ v ∈ [q, w, e, t], inR v) → inR q ∧ inR w ∧ inR e ∧ inR t := by
      intro q w e t h
      exact ⟨h q (by simp), h w (by simp), h e (by simp), h t (by simp)⟩
    have all2 : ∀ {q w e t : Int}, inR q → inR w → inR e → inR t → ∀ v ∈ [q, w, e, t], inR v := by
      intro q w e t h1 h2 h3 h4 v hv
      simp only [List.mem_cons, List.not_mem_nil, or_false] at hv
      rcases hv with rfl | rfl | rfl | rfl <;> assumption
    -- behind an instruction whose registers are all in their range
    have go : ∀ (g' : List Int) (a' b' c' d' : Int) (x' : List S39) (y' : List S82), [a', b', c', d'] = g' → (∀ v ∈ g', inR v) → (∀ q ∈ y', inR q.f1) → x'.length ≤ i + 1 → y'.length ≤ i + 1 → Ev (fun k => impl_ExecRun.j2 k l p (i : Int) a' b' c' d' x' y' 0 0) (runP l p f (i + 1) g' x' y') := by
      intro g' a' b' c' d' x' y' hg hr hq hx hy
      subst hg
      refine chk_ev l p i a' b' c' d' x' y' 0 0 _ (by omega) (fun _ _ _ _ => ?_) (fun h => absurd (all hr) h)
      rw [hw]
      exact ih (i + 1) _ _ _ _ _ _ ⟨rfl, hr, hq, hx, hy⟩ (by omega) (by omega)
    have bad : ∀ (v : Int), 0 ≤ s.f1 → s.f1 ≤ 3 → ¬ inR v → Ev (fun k => impl_ExecRun.j2 k l p (i : Int) (ixI s.f1 0 v a) (ixI s.f1 1 v b) (ixI s.f1 2 v c) (ixI s.f1 3 v d) x y 0 0) (x, [], 0, 2) := by
      intro v h0 h3 hv
      refine chk_ev l p i _ _ _ _ x y 0 0 _ (by omega) (fun e1 e2 e3 e4 => ?_) (fun _ => rfl)
      have e := all2 e1 e2 e3 e4
      rw [ixI_set _ _ _ _ _ _ h0 h3] at e
      exact absurd (e v (List.mem_set (by simp; omega) _)) hv
    have set1 : ∀ v, 0 ≤ s.f1 → s.f1 ≤ 3 → inR v → ∀ (x' : List S39), x'.length ≤ i + 1 → Ev (fun k => impl_ExecRun.j2 k l p (i : Int) (ixI s.f1 0 v a) (ixI s.f1 1 v b) (ixI s.f1 2 v c) (ixI s.f1 3 v d) x' y 0 0) (runP l p f (i + 1) ([a, b, c, d].set s.f1.toNat v) x' y) := by
      intro v h0 h3 hv x' hx
      exact go _ _ _ _ _ x' y (ixI_set _ _ _ _ _ _ h0 h3) (inR_set hM.reg hv) hM.put hx (by omega)
    by_cases k1 : s.f0 = 1
    · rw [if_pos k1]
      refine ev_pos k1 ((putAt_at s.f2 x y 0 0 (by omega)).bind ?_)
      by_cases e : 0 ≤ atP s.f2 y 0
      · have hL : look l x y s.f2 = ((rd_T82 y (atP s.f2 y 0)).f1, x) := by unfold look; rw [if_pos e]
        rw [hL]
        refine ev_pos e (ev_pos e (ev_pos (atP_lt s.f2 y e) (ev_pos (by omega) (ev_pos (by omega) ?_))))
        exact set1 _ (by omega) (by omega) (put_inR hM.put _) x (by omega)
      · refine ev_neg e ((readAt_at s.f2 x y 0 0 (by omega)).bind ?_)
        by_cases r : 0 ≤ atR s.f2 x 0
        · have hL : look l x y s.f2 = ((rd_T37 l s.f2).f1, x) := by unfold look; rw [if_neg e, if_pos r]
          rw [hL]
          refine ev_neg (by omega) (ev_pos (by omega) (ev_pos (by have := hl.1; omega) (ev_pos (by omega) (ev_pos (by omega) ?_))))
          exact set1 _ (by omega) (by omega) (box_inR hl _) x (by omega)
        · have hL : look l x y s.f2 = ((rd_T37 l s.f2).f1, x ++ [⟨s.f2, (rd_T37 l s.f2).f0⟩]) := by unfold look; rw [if_neg e, if_neg r]
          rw [hL]
          refine ev_pos (by omega) (ev_pos (by omega) (ev_pos (by have := hl.1; omega) (ev_pos (by omega) (ev_pos (by omega) (ev_pos (by omega) ?_)))))
          exact set1 _ (by omega) (by omega) (box_inR hl _) _ (by simp; omega)
    rw [if_neg k1]
    refine ev_neg k1 ?_
    by_cases k2 : s.f0 = 2
    · rw [if_pos k2]
      refine ev_pos k2 ((putAt_at s.f1 x y 0 0 (by omega)).bind ?_)
      by_cases e : 0 ≤ atP s.f1 y 0
      · have hL : putP y s.f1 (rd [a, b, c, d] s.f2) = y.set (atP s.f1 y 0).toNat ⟨(rd_T82 y (atP s.f1 y 0)).f0, rd [a, b, c, d] s.f2⟩ := by unfold putP; rw [if_pos e]
        have hq := putP_inR hM.put s.f1 (rd_inR hM.reg s.f2)
        rw [hL] at hq ⊢
        refine ev_pos e (ev_pos (by omega) (ev_pos (by omega) (ev_pos e (ev_pos (atP_lt s.f1 y e) ?_))))
        exact go _ _ _ _ _ x _ rfl hM.reg hq (by omega) (by rw [List.length_set]; omega)
      · have hL : putP y s.f1 (rd [a, b, c, d] s.f2) = y ++ [⟨s.f1, rd [a, b, c, d] s.f2⟩] := by unfold putP; rw [if_neg e]
        have hq := putP_inR hM.put s.f1 (rd_inR hM.reg s.f2)
        rw [hL] at hq ⊢
        refine ev_neg e (ev_pos (by omega) (ev_pos (by omega) (ev_pos (by omega) ?_)))
        exact go _ _ _ _ _ x _ rfl hM.reg hq (by omega) (by simp; omega)
    rw [if_neg k2]
    refine ev_neg k2 ?_
    by_cases k3 : s.f0 = 3
    · rw [if_pos k3]
      refine ev_pos k3 (ev_pos (by omega) (ev_pos (by omega) ?_))
      exact set1 _ (by omega) (by omega) (by unfold inR; omega) x (by omega)
    rw [if_neg k3]
    refine ev_neg k3 ?_
    have ra := rd_inR hM.reg s.f1
    have rb := rd_inR hM.reg s.f2
    unfold inR at ra rb
    by_cases k4 : s.f0 = 4
    · rw [if_pos k4]
      have hw3 : wrap64 (rd [a, b, c, d] s.f1 + rd [a, b, c, d] s.f2) = rd [a, b, c, d] s.f1 + rd [a, b, c, d] s.f2 := wrap_id (by omega) (by omega)
      rw [hw3]
      refine ev_pos k4 (ev_pos (by omega) (ev_pos (by omega) (ev_pos (by omega) (ev_pos (by omega) ?_))))
      by_cases hv : inR (rd [a, b, c, d] s.f1 + rd [a, b, c, d] s.f2)
      · rw [if_pos hv]; exact set1 _ (by omega) (by omega) hv x (by omega)
      · rw [if_neg hv]; exact bad _ (by omega) (by omega) hv
    rw [if_neg k4]
    refine ev_neg k4 ?_
    by_cases k5 : s.f0 = 5
    · rw [if_pos k5]
      have hw3 : wrap64 (rd [a, b, c, d] s.f1 - rd [a, b, c, d] s.f2) = rd [a, b, c, d] s.f1 - rd [a, b, c, d] s.f2 := wrap_id (by omega) (by omega)
      rw [hw3]
      refine ev_pos k5 (ev_pos (by omega) (ev_pos (by omega) (ev_pos (by omega) (ev_pos (by omega) ?_))))
      by_cases hv : inR (rd [a, b, c, d] s.f1 - rd [a, b, c, d] s.f2)
      · rw [if_pos hv]; exact set1 _ (by omega) (by omega) hv x (by omega)
      · rw [if_neg hv]; exact bad _ (by omega) (by omega) hv
    rw [if_neg k5]
    refine ev_neg k5 ?_
    by_cases k6 : s.f0 = 6
    · rw [if_pos k6]
      refine ev_pos k6 (ev_pos (by omega) (ev_pos (by omega) (ev_pos (by omega) (ev_pos (by omega) ?_))))
      obtain ⟨ia, ib, ic, id⟩ := all hM.reg
      by_cases cc : rd [a, b, c, d] s.f1 < rd [a, b, c, d] s.f2
      · rw [if_pos cc]
        have hw2 : wrap64 (wrap64 ((i : Int) + s.f3) + 1) = ((i + s.f3.toNat + 1 : Nat) : Int) := by
          rw [wrap_id (a := (i : Int) + s.f3) (by omega) (by omega), wrap_id (by omega) (by omega)]; omega
        refine ev_pos cc (chk_ev l p _ a b c d x y 0 0 _ (by omega) (fun _ _ _ _ => ?_) (fun h => absurd ⟨ia, ib, ic, id⟩ h))
        rw [hw2]
        exact ih _ _ _ _ _ _ _ ⟨rfl, hM.reg, hM.put, by omega, by omega⟩ (by omega) (by omega)
      · rw [if_neg cc]
        exact ev_neg cc (go _ a b c d x y rfl hM.reg hM.put (by omega) (by omega))
    rw [if_neg k6]
    refine ev_neg k6 ?_
    exact ev_pos (by omega) (ev_get (copR_some x (by omega)) (ev_now _))

open Classical in
/-- What a program does on boxes. -/
noncomputable def runOf (l : List S37) (p : List S95) : RunT := if boxOk l ∧ progOk p then runP l p 12 0 [0, 0, 0, 0] [] [] else ([], [], 0, 3)
theorem mid0 : Mid 0 [0, 0, 0, 0] ([] : List S39) ([] : List S82) := ⟨rfl, by simp [inR], by simp, by simp, by simp⟩
theorem spec_ExecRun_ev (l : List S37) (p : List S95) (hl : l.length ≤ 9223372036854775807) (hp : p.length ≤ 9223372036854775807) : Ev (fun k => spec_ExecRun.f k l p) (runOf l p) := by
  obtain ⟨u, hu, hui⟩ := spec_BoxOk_ev l hl
  obtain ⟨w, hw, hwi⟩ := spec_ProgOk_ev p hp
  have yes : Ev (fun k => spec_ExecRun.j0 k l p true) ([], [], 0, 3) := by
    refine Ev.step (fun k => by rw [spec_ExecRun.j0]) ?_
    exact ev_pos rfl (ev_now _)
  unfold spec_ExecRun.f runOf
  rw [← hui, ← hwi]
  cases u with
  | false => rw [if_neg (by simp)]; exact hu.bind (ev_neg (by simp) yes)
  | true =>
    cases w with
    | false => rw [if_neg (by simp)]; exact hu.bind (ev_pos rfl (hw.bind yes))
    | true =>
      rw [if_pos ⟨rfl, rfl⟩]
      refine hu.bind (ev_pos rfl (hw.bind ?_))
      refine Ev.step (fun k => by rw [spec_ExecRun.j0]) ?_
      refine ev_neg (by simp) (ev_pos (by omega) ?_)
      exact sRun_ev l p (hui.1 rfl) (hwi.1 rfl) 12 0 _ _ _ mid0 (by omega) (by have := (hwi.1 rfl).1; omega)
theorem impl_ExecRun_ev (l : List S37) (p : List S95) (hl : l.length ≤ 9223372036854775807) (hp : p.length ≤ 9223372036854775807) : Ev (fun k => impl_ExecRun.f k l p) (runOf l p) := by
  obtain ⟨u, hu, hui⟩ := impl_BoxOk_ev l hl
  obtain ⟨w, hw, hwi⟩ := impl_ProgOk_ev p hp
  have yes : Ev (fun k => impl_ExecRun.j0 k l p true) ([], [], 0, 3) := by
    refine Ev.step (fun k => by rw [impl_ExecRun.j0]) ?_
    exact ev_pos rfl (ev_now _)
  unfold impl_ExecRun.f runOf
  rw [← hui, ← hwi]
  cases u with
  | false => rw [if_neg (by simp)]; exact hu.bind (ev_neg (by simp) yes)
  | true =>
    cases w with
    | false => rw [if_neg (by simp)]; exact hu.bind (ev_pos rfl (hw.bind yes))
    | true =>
      rw [if_pos ⟨rfl, rfl⟩]
      refine hu.bind (ev_pos rfl (hw.bind ?_))
      refine Ev.step (fun k => by rw [impl_ExecRun.j0]) ?_
      refine ev_neg (by simp) ?_
      exact iRun_ev l p (hui.1 rfl) (hwi.1 rfl) 12 0 _ _ _ _ _ _ mid0 (by omega) (by have := (hwi.1 rfl).1; omega)

theorem runP_len (l : List S37) (p : List S95) : ∀ (f i : Nat) (g : List Int) (x : List S39) (y : List S82), (runP l p f i g x y).1.length ≤ x.length + f ∧ (runP l p f i g x y).2.1.length ≤ y.length + f := by
  intro f
  induction f with
  | zero => intro i g x y; exact ⟨Nat.le_refl _, Nat.le_refl _⟩
  | succ f ih =>
    intro i g x y
    have done : ∀ (c : Int), ((x, [], 0, c) : RunT).1.length ≤ x.length + (f + 1) ∧ ((x, [], 0, c) : RunT).2.1.length ≤ y.length + (f + 1) := by
      intro c; simp
    have go : ∀ i' g' (x' : List S39) (y' : List S82), x'.length ≤ x.length + 1 → y'.length ≤ y.length + 1 → (runP l p f i' g' x' y').1.length ≤ x.length + (f + 1) ∧ (runP l p f i' g' x' y').2.1.length ≤ y.length + (f + 1) := by
      intro i' g' x' y' h1 h2
      have := ih i' g' x' y'
      omega
    unfold runP
    by_cases hin : i < p.length
    case neg => rw [if_neg hin]; simp
    rw [if_pos hin]
    simp only
    split
    · exact go _ _ _ _ (look_len _ _ _ _) (by omega)
    split
    · exact go _ _ _ _ (by omega) (putP_len _ _ _)
    split
    · exact go _ _ _ _ (by omega) (by omega)
    split
    · split
      · exact go _ _ _ _ (by omega) (by omega)
      · exact done 2
    split
    · split
      · exact go _ _ _ _ (by omega) (by omega)
      · exact done 2
    split
    · exact go _ _ _ _ (by omega) (by omega)
    · exact done 1
theorem runOf_len (l : List S37) (p : List S95) : (runOf l p).1.length ≤ 12 ∧ (runOf l p).2.1.length ≤ 12 := by
  unfold runOf
  by_cases h : boxOk l ∧ progOk p
  · rw [if_pos h]
    have := runP_len l p 12 0 [0, 0, 0, 0] [] []
    simpa using this
  · rw [if_neg h]; simp

/-- From place i on: each names a box, is good, and names none that stands ahead of it. -/
def okFrom {α : Type} (key : α → Int) (good : α → Prop) (l : List α) (i : Nat) : Prop := ∀ j (h : j < l.length), i ≤ j → (0 ≤ key l[j] ∧ key l[j] ≤ 3) ∧ good l[j] ∧ key l[j] ∉ (l.take j).map key
theorem okFrom_step {α : Type} (key : α → Int) (good : α → Prop) (l : List α) {i : Nat} (h : i < l.length) :
    okFrom key good l i ↔ ((0 ≤ key l[i] ∧ key l[i] ≤ 3) ∧ good l[i] ∧ key l[i] ∉ (l.take i).map key) ∧ okFrom key good l (i + 1) := by
  constructor
  · intro g
    exact ⟨g i h (Nat.le_refl _), fun j hj hij => g j hj (by omega)⟩
  · rintro ⟨a, b⟩ j hj hij
    by_cases e : j = i
    · subst e; exact a
    · exact b j hj (by omega)
theorem okFrom_end {α : Type} (key : α → Int) (good : α → Prop) (l : List α) : okFrom key good l l.length := fun j hj hij => absurd hij (by omega)
/-- Which boxes are named in the first i. -/
noncomputable def namedIn {α : Type} (key : α → Int) (l : List α) (i : Nat) (b : Int) : Bool := @decide (b ∈ (l.take i).map key) (Classical.propDecidable _)
theorem namedIn_iff {α : Type} (key : α → Int) (l : List α) (i : Nat) (b : Int) : namedIn key l i b = true ↔ b ∈ (l.take i).map key := by
  unfold namedIn
  exact @decide_eq_true_iff _ (Classical.propDecidable _)
theorem namedIn_zero {α : Type} (key : α → Int) (l : List α) (b : Int) : namedIn key l 0 b = false := by
  rw [Bool.eq_false_iff]
  intro h
  rw [namedIn_iff] at h
  simp at h
theorem namedIn_succ {α : Type} (key : α → Int) (l : List α) {i : Nat} (h : i < l.length) (b : Int) : ixB (key l[i]) b true (namedIn key l i b) = namedIn key l (i + 1) b := by
  rw [Bool.eq_iff_iff, namedIn_iff, List.take_succ_eq_append_getElem h]
  unfold ixB
  simp only [List.map_append, List.mem_append, List.map_cons, List.map_nil, List.mem_singleton]
  by_cases e : key l[i] = b
  · rw [if_pos e]; exact ⟨fun _ => .inr e.symm, fun _ => rfl⟩
  · rw [if_neg e, namedIn_iff]
    exact ⟨fun g => .inl g, fun g => g.elim id (fun g => absurd g.symm e)⟩
theorem rd_four (F : Int → Bool) (a : Int) (h0 : 0 ≤ a) (h1 : a ≤ 3) : rdOf false [F 0, F 1, F 2, F 3] a = F a := by
  have : a = 0 ∨ a = 1 ∨ a = 2 ∨ a = 3 := by omega
  rcases this with rfl | rfl | rfl | rfl <;> rfl

def rGood (x : S39) : Prop := 0 ≤ x.f1 ∧ x.f1 ≤ 1000000
def pGood (x : S82) : Prop := -1000000 ≤ x.f1 ∧ x.f1 ≤ 1000000
def rKey (x : S39) : Int := x.f0
def pKey (x : S82) : Int := x.f0
/-- A run that is right. -/
def runOk (x : List S39) (y : List S82) (a b : Int) : Prop :=
  (0 ≤ b ∧ b ≤ 3) ∧ (-1000000 ≤ a ∧ a ≤ 1000000) ∧ (b ≠ 0 → a = 0 ∧ ¬ (y.length : Int) > 0) ∧ (b = 3 → ¬ (x.length : Int) > 0) ∧ okFrom rKey rGood x 0 ∧ okFrom pKey pGood y 0

theorem okFrom_iff {α : Type} (key : α → Int) (good : α → Prop) (l : List α) : okFrom key good l 0 ↔ (∀ e ∈ l, (0 ≤ key e ∧ key e ≤ 3) ∧ good e) ∧ (l.map key).Nodup := by
  constructor
  · intro h
    refine ⟨fun e he => ?_, ?_⟩
    · obtain ⟨j, hj, rfl⟩ := List.mem_iff_getElem.1 he
      have := h j hj (Nat.zero_le _)
      exact ⟨this.1, this.2.1⟩
    · rw [List.nodup_iff_pairwise_ne, List.pairwise_iff_getElem]
      intro i j hi hj hij
      simp only [List.length_map] at hi hj
      simp only [List.getElem_map]
      intro e
      refine (h j hj (Nat.zero_le _)).2.2 ?_
      rw [← e]
      exact List.mem_map.2 ⟨l[i], List.mem_take_iff_getElem.2 ⟨i, by omega, rfl⟩, rfl⟩
  · rintro ⟨h, hn⟩ j hj _
    have := h _ (List.getElem_mem hj)
    refine ⟨this.1, this.2, fun hm => ?_⟩
    obtain ⟨e, he, hk⟩ := List.mem_map.1 hm
    obtain ⟨i, hi, rfl⟩ := List.mem_take_iff_getElem.1 he
    rw [List.nodup_iff_pairwise_ne, List.pairwise_iff_getElem] at hn
    have := hn i j (by simp; omega) (by simpa using hj) (by omega)
    simp only [List.getElem_map] at this
    exact this hk
/-- Reads and puts in the midst of a run. -/
def readsIn (x : List S39) : Prop := (∀ e ∈ x, (0 ≤ rKey e ∧ rKey e ≤ 3) ∧ rGood e) ∧ (x.map rKey).Nodup
def putsIn (y : List S82) : Prop := (∀ e ∈ y, (0 ≤ pKey e ∧ pKey e ≤ 3) ∧ pGood e) ∧ (y.map pKey).Nodup
theorem nodup_snoc {l : List Int} {b : Int} (h : l.Nodup) (hb : b ∉ l) : (l ++ [b]).Nodup := by
  rw [List.nodup_append]
  exact ⟨h, by simp, by intro a ha c hc; rw [List.mem_singleton.1 hc]; rintro rfl; exact hb ha⟩
theorem atP_some {b : Int} {y : List S82} (h : 0 ≤ atP b y 0) : ∃ j : Nat, ∃ hj : j < y.length, atP b y 0 = (j : Int) ∧ (y[j]).f0 = b := by
  rcases atP_prop b y 0 (by omega) with ⟨e, _⟩ | ⟨j, hj, e, g⟩
  · omega
  · exact ⟨j, hj, by omega, g⟩
theorem atP_none {b : Int} {y : List S82} (h : ¬ 0 ≤ atP b y 0) : ∀ p ∈ y, p.f0 ≠ b := by
  rcases atP_prop b y 0 (by omega) with ⟨_, g⟩ | ⟨j, hj, e, g⟩
  · exact g
  · omega
theorem atR_none {b : Int} {y : List S39} (h : ¬ 0 ≤ atR b y 0) : ∀ p ∈ y, p.f0 ≠ b := by
  rcases atR_prop b y 0 (by omega) with ⟨_, g⟩ | ⟨j, hj, e, g⟩
  · exact g
  · omega
theorem atR_some {b : Int} {y : List S39} (h : 0 ≤ atR b y 0) : ∃ j : Nat, ∃ hj : j < y.length, atR b y 0 = (j : Int) ∧ (y[j]).f0 = b := by
  rcases atR_prop b y 0 (by omega) with ⟨e, _⟩ | ⟨j, hj, e, g⟩
  · omega
  · exact ⟨j, hj, by omega, g⟩
theorem putP_map {y : List S82} {b v : Int} (h : 0 ≤ atP b y 0) : (putP y b v).map pKey = y.map pKey := by
  obtain ⟨j, hj, e, g⟩ := atP_some h
  unfold putP
  rw [if_pos h, e, Int.toNat_natCast, rdi_Put hj, List.map_set]
  have : pKey ⟨(y[j]).f0, v⟩ = (y.map pKey)[j]'(by simpa using hj) := by simp [pKey]
  rw [this, List.set_getElem_self]
theorem putP_in {y : List S82} {b v : Int} (h : putsIn y) (h0 : 0 ≤ b) (h3 : b ≤ 3) (hv : inR v) : putsIn (putP y b v) := by
  by_cases c : 0 ≤ atP b y 0
  · refine ⟨?_, by rw [putP_map c]; exact h.2⟩
    obtain ⟨j, hj, e, g⟩ := atP_some c
    unfold putP
    rw [if_pos c, e, Int.toNat_natCast, rdi_Put hj]
    intro q hq
    rcases List.mem_or_eq_of_mem_set hq with h1 | h1
    · exact h.1 q h1
    · rw [h1]; exact ⟨(h.1 _ (List.getElem_mem hj)).1, hv⟩
  · unfold putP
    rw [if_neg c]
    refine ⟨?_, ?_⟩
    · intro q hq
      rcases List.mem_append.1 hq with h1 | h1
      · exact h.1 q h1
      · rw [List.mem_singleton.1 h1]; exact ⟨⟨h0, h3⟩, hv⟩
    · rw [List.map_append]
      refine nodup_snoc h.2 ?_
      intro hm
      obtain ⟨p, hp, hk⟩ := List.mem_map.1 hm
      exact atP_none c p hp hk
theorem look_in {l : List S37} (hl : boxOk l) {x : List S39} (y : List S82) {b : Int} (h : readsIn x) (h0 : 0 ≤ b) (h3 : b ≤ 3) : readsIn (look l x y b).2 := by
  unfold look
  by_cases c : 0 ≤ atP b y 0
  · rw [if_pos c]; exact h
  · rw [if_neg c]
    by_cases d : 0 ≤ atR b x 0
    · simp only [if_pos d]; exact h
    · simp only [if_neg d]
      refine ⟨?_, ?_⟩
      · intro q hq
        rcases List.mem_append.1 hq with h1 | h1
        · exact h.1 q h1
        · rw [List.mem_singleton.1 h1]
          obtain ⟨n, rfl⟩ := Int.eq_ofNat_of_zero_le h0
          have hn : n < l.length := by have := hl.1; omega
          refine ⟨⟨h0, h3⟩, ?_⟩
          rw [rd_box hn]
          have := hl.2 _ (List.getElem_mem hn)
          unfold boxIn at this
          unfold rGood
          simp only
          omega
      · rw [List.map_append]
        refine nodup_snoc h.2 ?_
        intro hm
        obtain ⟨p, hp, hk⟩ := List.mem_map.1 hm
        exact atR_none d p hp hk
/-- What a run that was begun well leaves: right. -/
theorem runP_ok (l : List S37) (p : List S95) (hl : boxOk l) (hp : progOk p) : ∀ (f i : Nat) (g : List Int) (x : List S39) (y : List S82), (∀ v ∈ g, inR v) → readsIn x → putsIn y →
    readsIn (runP l p f i g x y).1 ∧ putsIn (runP l p f i g x y).2.1 ∧ inR (runP l p f i g x y).2.2.1 ∧ (0 ≤ (runP l p f i g x y).2.2.2 ∧ (runP l p f i g x y).2.2.2 ≤ 2) ∧ ((runP l p f i g x y).2.2.2 ≠ 0 → (runP l p f i g x y).2.2.1 = 0 ∧ (runP l p f i g x y).2.1 = []) := by
  intro f
  induction f with
  | zero => intro i g x y hg hx hy; exact ⟨hx, hy, rd_inR hg 0, by simp [runP], by simp [runP]⟩
  | succ f ih =>
    intro i g x y hg hx hy
    have nil : putsIn [] := ⟨by simp, by simp⟩
    unfold runP
    by_cases hin : i < p.length
    case neg => rw [if_neg hin]; exact ⟨hx, hy, rd_inR hg 0, by simp, by simp⟩
    rw [if_pos hin]
    have hs := hp.2 _ (List.getElem_mem hin)
    rw [← rdi_Ins hin] at hs
    generalize rd_T95 p (i : Int) = s at hs
    simp only
    unfold insIn at hs
    by_cases k1 : s.f0 = 1
    · simp only [if_pos k1]
      exact ih _ _ _ _ (inR_set hg (look_inR hl x (fun q hq => (hy.1 q hq).2) _)) (look_in hl y hx (by omega) (by omega)) hy
    simp only [if_neg k1]
    by_cases k2 : s.f0 = 2
    · simp only [if_pos k2]
      exact ih _ _ _ _ hg hx (putP_in hy (by omega) (by omega) (rd_inR hg _))
    simp only [if_neg k2]
    by_cases k3 : s.f0 = 3
    · simp only [if_pos k3]
      exact ih _ _ _ _ (inR_set hg (by unfold inR; omega)) hx hy
    simp only [if_neg k3]
    by_cases k4 : s.f0 = 4
    · simp only [if_pos k4]
      by_cases hv : inR (rd g s.f1 + rd g s.f2)
      · simp only [if_pos hv]; exact ih _ _ _ _ (inR_set hg hv) hx hy
      · simp only [if_neg hv]; exact ⟨hx, nil, by simp [inR], by simp, by simp⟩
    simp only [if_neg k4]
    by_cases k5 : s.f0 = 5
    · simp only [if_pos k5]
      by_cases hv : inR (rd g s.f1 - rd g s.f2)
      · simp only [if_pos hv]; exact ih _ _ _ _ (inR_set hg hv) hx hy
      · simp only [if_neg hv]; exact ⟨hx, nil, by simp [inR], by simp, by simp⟩
    simp only [if_neg k5]
    by_cases k6 : s.f0 = 6
    · simp only [if_pos k6]; exact ih _ _ _ _ hg hx hy
    simp only [if_neg k6]
    exact ⟨hx, nil, by simp [inR], by simp, by simp⟩
theorem runOf_ok (l : List S37) (p : List S95) : runOk (runOf l p).1 (runOf l p).2.1 (runOf l p).2.2.1 (runOf l p).2.2.2 := by
  unfold runOf
  by_cases h : boxOk l ∧ progOk p
  · rw [if_pos h]
    obtain ⟨a, b, c, d, e⟩ := runP_ok l p h.1 h.2 12 0 [0, 0, 0, 0] [] [] (by simp [inR]) ⟨by simp, by simp⟩ ⟨by simp, by simp⟩
    refine ⟨by omega, c, fun hc => ⟨(e hc).1, by rw [(e hc).2]; simp⟩, fun h3 => by omega, (okFrom_iff _ _ _).2 a, (okFrom_iff _ _ _).2 b⟩
  · rw [if_neg h]
    exact ⟨by simp, by simp, fun _ => by simp, fun _ => by simp, by intro j hj; simp at hj, by intro j hj; simp at hj⟩

theorem runOk_puts {x : List S39} {y : List S82} {a b : Int} (h : runOk x y a b) (i : Nat) (hi : i < y.length) : 0 ≤ (y[i]).f0 ∧ (y[i]).f0 ≤ 3 := (h.2.2.2.2.2 i hi (Nat.zero_le _)).1

/-- What a put makes of the boxes. -/
def put1 (l : List S37) (p : S82) : List S37 := l.set p.f0.toNat ⟨mn 1000000 (wrap64 ((rd_T37 l p.f0).f0 + 1)), p.f1⟩
theorem put1_len (l : List S37) (p : S82) : (put1 l p).length = l.length := by unfold put1; rw [List.length_set]
theorem puts_len (y : List S82) : ∀ l : List S37, (y.foldl put1 l).length = l.length := by
  induction y with
  | nil => intro l; rfl
  | cons p y ih => intro l; rw [List.foldl_cons, ih, put1_len]
open Classical in
/-- What a run makes of the boxes; none, if boxes or run are not right. -/
noncomputable def doneBy (l : List S37) (x : List S39) (y : List S82) (a b : Int) : List S37 := if boxOk l ∧ runOk x y a b then y.foldl put1 l else []
theorem doneBy_len (l : List S37) (x : List S39) (y : List S82) (a b : Int) : (doneBy l x y a b).length ≤ 4 := by
  unfold doneBy
  by_cases h : boxOk l ∧ runOk x y a b
  · rw [if_pos h, puts_len, h.1.1]; omega
  · rw [if_neg h]; simp

theorem runOf_ne3 {l : List S37} {p : List S95} (h : (runOf l p).2.2.2 ≠ 3) : boxOk l ∧ progOk p := by
  by_cases c : boxOk l ∧ progOk p
  · exact c
  · unfold runOf at h; rw [if_neg c] at h; exact absurd rfl h
/-- What a program alone makes of the boxes, what it says, and its code. -/
noncomputable def serialOf (l : List S37) (p : List S95) : List S37 × Int × Int :=
  if (runOf l p).2.2.2 = 3 then ([], 0, 3) else (doneBy l (runOf l p).1 (runOf l p).2.1 (runOf l p).2.2.1 (runOf l p).2.2.2, (runOf l p).2.2.1, (runOf l p).2.2.2)
theorem serialOf_len (l : List S37) (p : List S95) : (serialOf l p).1.length ≤ 4 := by
  unfold serialOf
  by_cases h : (runOf l p).2.2.2 = 3
  · rw [if_pos h]; simp
  · rw [if_neg h]; exact doneBy_len _ _ _ _ _

theorem put1_rd {l : List S37} {p : S82} (hl : l.length = 4) (h0 : 0 ≤ p.f0) (h3 : p.f0 ≤ 3) {b : Int} (b0 : 0 ≤ b) (b3 : b ≤ 3) :
    rd_T37 (put1 l p) b = if p.f0 = b then ⟨mn 1000000 (wrap64 ((rd_T37 l b).f0 + 1)), p.f1⟩ else rd_T37 l b := by
  obtain ⟨n, rfl⟩ : ∃ n : Nat, b = (n : Int) := ⟨b.toNat, by omega⟩
  obtain ⟨m, hm⟩ : ∃ m : Nat, p.f0 = (m : Int) := ⟨p.f0.toNat, by omega⟩
  have e1 : p.f0.toNat = m := by omega
  have e2 : (p.f0 = (n : Int)) ↔ m = n := by omega
  simp only [e2]
  unfold put1
  rw [e1]
  conv => lhs; unfold rd_T37; rw [List.getD_eq_getElem?_getD, Int.toNat_natCast, List.getElem?_set]
  by_cases c : m = n
  · subst c
    rw [if_pos rfl, if_pos (by omega), if_pos rfl, hm]; rfl
  · rw [if_neg c, if_neg c]
    unfold rd_T37; rw [List.getD_eq_getElem?_getD, Int.toNat_natCast]
theorem mn_cases (a b : Int) : (b ≤ a ∧ mn a b = b) ∨ (a ≤ b ∧ mn a b = a) := by unfold mn; split <;> omega
theorem box_rd {l : List S37} (h : boxOk l) {b : Int} (b0 : 0 ≤ b) (b3 : b ≤ 3) : boxIn (rd_T37 l b) := by
  have h4 := h.1
  obtain ⟨n, rfl⟩ : ∃ n : Nat, b = (n : Int) := ⟨b.toNat, by omega⟩
  rw [rd_box (by omega)]
  exact h.2 _ (List.getElem_mem _)
theorem put1_ok {l : List S37} {p : S82} (hl : boxOk l) (h0 : 0 ≤ p.f0) (h3 : p.f0 ≤ 3) (hg : pGood p) : boxOk (put1 l p) := by
  refine ⟨by rw [put1_len]; exact hl.1, fun b hb => ?_⟩
  unfold put1 at hb
  rcases List.mem_or_eq_of_mem_set hb with h | h
  · exact hl.2 b h
  · have hr := box_rd hl h0 h3
    rw [h]
    unfold boxIn at hr ⊢
    unfold pGood at hg
    have hw : wrap64 ((rd_T37 l p.f0).f0 + 1) = (rd_T37 l p.f0).f0 + 1 := wrap_id (by omega) (by omega)
    simp only
    rw [hw]
    clear hw
    rcases mn_cases 1000000 ((rd_T37 l p.f0).f0 + 1) with ⟨_, e⟩ | ⟨_, e⟩ <;> rw [e] <;> omega
theorem puts_ok : ∀ (y : List S82) (l : List S37), boxOk l → (∀ e ∈ y, (0 ≤ pKey e ∧ pKey e ≤ 3) ∧ pGood e) → boxOk (y.foldl put1 l) := by
  intro y
  induction y with
  | nil => intro l h _; exact h
  | cons p r ih =>
    intro l h hy
    have hp := hy p (by simp)
    unfold pKey at hp
    rw [List.foldl_cons]
    exact ih _ (put1_ok h hp.1.1 hp.1.2 hp.2) (fun e he => hy e (by simp [he]))
theorem puts_not : ∀ (y : List S82) (l : List S37), l.length = 4 → (∀ e ∈ y, 0 ≤ pKey e ∧ pKey e ≤ 3) → ∀ {b : Int}, 0 ≤ b → b ≤ 3 → (∀ q ∈ y, q.f0 ≠ b) → rd_T37 (y.foldl put1 l) b = rd_T37 l b := by
  intro y
  induction y with
  | nil => intro l _ _ b _ _ _; rfl
  | cons p r ih =>
    intro l h hy b b0 b3 hn
    have hp := hy p (by simp)
    unfold pKey at hp
    rw [List.foldl_cons, ih _ (by rw [put1_len]; exact h) (fun e he => hy e (by simp [he])) b0 b3 (fun q hq => hn q (by simp [hq])), put1_rd h hp.1 hp.2 b0 b3, if_neg (hn p (by simp))]
theorem puts_in : ∀ (y : List S82) (l : List S37), l.length = 4 → (∀ e ∈ y, 0 ≤ pKey e ∧ pKey e ≤ 3) → (y.map pKey).Nodup → ∀ q ∈ y, rd_T37 (y.foldl put1 l) q.f0 = ⟨mn 1000000 (wrap64 ((rd_T37 l q.f0).f0 + 1)), q.f1⟩ := by
  intro y
  induction y with
  | nil => intro l _ _ _ q hq; simp at hq
  | cons p r ih =>
    intro l h hy hn q hq
    simp only [List.map_cons, List.nodup_cons] at hn
    have hp := hy p (by simp)
    have hqk := hy q hq
    unfold pKey at hp hqk
    rw [List.foldl_cons]
    have h4 : (put1 l p).length = 4 := by rw [put1_len]; exact h
    rcases List.mem_cons.1 hq with e | e
    · subst e
      rw [puts_not r _ h4 (fun e he => hy e (by simp [he])) hp.1 hp.2 (fun u hu c => hn.1 (List.mem_map.2 ⟨u, hu, by unfold pKey; exact c⟩)), put1_rd h hp.1 hp.2 hp.1 hp.2, if_pos rfl]
    · have hne : p.f0 ≠ q.f0 := fun c => hn.1 (List.mem_map.2 ⟨q, e, by unfold pKey; exact c.symm⟩)
      rw [ih _ h4 (fun e he => hy e (by simp [he])) hn.2 q e, put1_rd h hp.1 hp.2 hqk.1 hqk.2, if_neg hne]
theorem runOk_putsIn {x : List S39} {y : List S82} {a b : Int} (h : runOk x y a b) : putsIn y := (okFrom_iff _ _ _).1 h.2.2.2.2.2
theorem runOk_readsIn {x : List S39} {y : List S82} {a b : Int} (h : runOk x y a b) : readsIn x := (okFrom_iff _ _ _).1 h.2.2.2.2.1

/-- Programs one behind the other, each alone; none, once one is not right. -/
noncomputable def serRun : List (List S95) → List S37 → Option (List S37 × List Int)
  | [], x => some (x, [])
  | p :: r, x => if (serialOf x p).2.2 = 3 then none else (serRun r (serialOf x p).1).map fun z => (z.1, (serialOf x p).2.1 :: z.2)
open Classical in
noncomputable def serAll (l : List S37) (ps : List (List S95)) : List S37 × List Int := if boxOk l ∧ ps.length ≤ 100 then (serRun ps l).getD ([], []) else ([], [])
theorem serRun_cons (p : List S95) (r : List (List S95)) (x : List S37) : serRun (p :: r) x = if (serialOf x p).2.2 = 3 then none else (serRun r (serialOf x p).1).map fun z => (z.1, (serialOf x p).2.1 :: z.2) := rfl
theorem serialOf_ok {x : List S37} {p : List S95} (h : (serialOf x p).2.2 ≠ 3) : boxOk (serialOf x p).1 := by
  have h3 : (runOf x p).2.2.2 ≠ 3 := by
    intro e; apply h; unfold serialOf; rw [if_pos e]
  have hb := (runOf_ne3 h3).1
  have hok := runOf_ok x p
  have e : (serialOf x p).1 = (runOf x p).2.1.foldl put1 x := by
    unfold serialOf; rw [if_neg h3]; unfold doneBy; exact if_pos ⟨hb, hok⟩
  rw [e]; exact puts_ok _ _ hb (runOk_putsIn hok).1
theorem serRun_ok : ∀ {ps : List (List S95)} {x : List S37} {z : List S37 × List Int}, boxOk x → serRun ps x = some z → boxOk z.1 ∧ z.2.length = ps.length := by
  intro ps
  induction ps with
  | nil => intro x z hx h; unfold serRun at h; cases h; exact ⟨hx, rfl⟩
  | cons p r ih =>
    intro x z hx h
    unfold serRun at h
    by_cases c : (serialOf x p).2.2 = 3
    · rw [if_pos c] at h; cases h
    rw [if_neg c] at h
    cases h2 : serRun r (serialOf x p).1 with
    | none => rw [h2] at h; cases h
    | some u =>
      rw [h2] at h; cases h
      have := ih (serialOf_ok c) h2
      exact ⟨this.1, by simp [this.2]⟩
theorem serRun_app : ∀ (ps qs : List (List S95)) (x : List S37), serRun (ps ++ qs) x = (serRun ps x).bind fun a => (serRun qs a.1).map fun b => (b.1, a.2 ++ b.2) := by
  intro ps
  induction ps with
  | nil => intro qs x; simp only [List.nil_append, serRun, Option.bind_some]; cases serRun qs x <;> rfl
  | cons p r ih =>
    intro qs x
    rw [List.cons_append, serRun_cons, serRun_cons]
    by_cases c : (serialOf x p).2.2 = 3
    · rw [if_pos c, if_pos c]; rfl
    rw [if_neg c, if_neg c, ih]
    cases serRun r (serialOf x p).1 with
    | none => rfl
    | some u =>
      simp only [Option.bind_some, Option.map_some]
      cases serRun qs u.1 <;> rfl
theorem serAll_some {l : List S37} {ps : List (List S95)} {z : List S37 × List Int} (hl : boxOk l) (hn : ps.length ≤ 100) (h : serRun ps l = some z) : serAll l ps = z := by
  unfold serAll; rw [if_pos ⟨hl, hn⟩, h]; rfl
theorem serAll_cases (l : List S37) (ps : List (List S95)) : serAll l ps = ([], []) ∨ (boxOk l ∧ ps.length ≤ 100 ∧ serRun ps l = some (serAll l ps)) := by
  unfold serAll
  by_cases h : boxOk l ∧ ps.length ≤ 100
  · rw [if_pos h]
    cases e : serRun ps l with
    | none => exact .inl rfl
    | some z => exact .inr ⟨h.1, h.2, rfl⟩
  · rw [if_neg h]; exact .inl rfl
theorem serAll_len (l : List S37) (ps : List (List S95)) : (serAll l ps).1.length ≤ 4 ∧ (serAll l ps).2.length ≤ 100 := by
  rcases serAll_cases l ps with h | ⟨h1, h2, h3⟩
  · rw [h]; simp
  · have := serRun_ok h1 h3; have h4 := this.1.1; omega
/-- What the loops answer: what was said so far stands ahead. -/
def serEnd (v : List Int) : Option (List S37 × List Int) → List S37 × List Int
  | some z => (z.1, v ++ z.2)
  | none => ([], [])
theorem serEnd_cons (v : List Int) (p : List S95) (r : List (List S95)) (x : List S37) : serEnd v (serRun (p :: r) x) = if (serialOf x p).2.2 = 3 then ([], []) else serEnd (v ++ [(serialOf x p).2.1]) (serRun r (serialOf x p).1) := by
  rw [serRun_cons]
  by_cases c : (serialOf x p).2.2 = 3
  · rw [if_pos c, if_pos c]; rfl
  · rw [if_neg c, if_neg c]
    cases serRun r (serialOf x p).1 with
    | none => rfl
    | some u => simp [serEnd]
theorem serEnd_end (v : List Int) (x : List S37) : serEnd v (serRun [] x) = (x, v) := by simp [serEnd, serRun]
theorem serEnd_nil (o : Option (List S37 × List Int)) : serEnd [] o = o.getD ([], []) := by
  cases o <;> rfl
theorem rdi_Prog {ps : List (List S95)} {i : Nat} (h : i < ps.length) : rd_L5 ps (i : Int) = ps[i] := by
  unfold rd_L5
  rw [Int.toNat_natCast, List.getD_eq_getElem?_getD, List.getElem?_eq_getElem h]
  rfl

theorem l1Min_some (a b : Int) : spec_l1Min.f a b = some (mn a b) := by
  unfold spec_l1Min.f mn
  by_cases h : a < b
  · rw [if_pos h, if_neg (by omega)]
  · rw [if_neg h]
    by_cases g : b < a
    · rw [if_pos g]
    · rw [if_neg g]; congr 1; omega
theorem l3Do_ev (x : List S39) (y : List S82) (a b : Int) (hr : runOk x y a b) (hm : y.length ≤ 9223372036854775807) (l : List S37) (hl : l.length = 4) : Ev (fun k => spec_l3Do.f k l x y a b) (y.foldl put1 l) := by
  have key : ∀ d i (l : List S37), i + d = y.length → l.length = 4 → Ev (fun k => spec_l3Do.l0 k l (i : Int) x y a b) ((y.drop i).foldl put1 l) := by
    intro d
    induction d with
    | zero =>
      intro i l hi h4
      obtain rfl : i = y.length := by omega
      refine Ev.step (fun k => by rw [spec_l3Do.l0]) ?_
      refine ev_neg (by omega) ?_
      rw [List.drop_length]
      exact ev_now _
    | succ d ih =>
      intro i l hd h4
      have hi : i < y.length := by omega
      have hp := runOk_puts hr i hi
      refine Ev.step (fun k => by rw [spec_l3Do.l0]) ?_
      refine ev_pos (lt_cast hi) (ev_pos (nn_cast i) ?_)
      rw [rdi_Put hi, wrap_succ hi hm, List.drop_eq_getElem_cons hi, List.foldl_cons]
      refine ev_pos hp.1 (ev_pos (by omega) (ev_get (l1Min_some _ _) ?_))
      exact ih (i + 1) _ (by omega) (by rw [List.length_set]; exact h4)
  unfold spec_l3Do.f
  simpa using key y.length 0 l (by omega) hl

theorem spec_SerialOne_ev (l : List S37) (p : List S95) (hl : l.length ≤ 1048576) (hp : p.length ≤ 9223372036854775807) : Ev (fun k => spec_SerialOne.f k l p) (serialOf l p) := by
  have hr := spec_ExecRun_ev l p (by omega) hp
  have hlen := runOf_len l p
  have hok := runOf_ok l p
  have hne := @runOf_ne3 l p
  unfold spec_SerialOne.f serialOf
  generalize runOf l p = r at hr hlen hok hne
  obtain ⟨x, y, a, c⟩ := r
  simp only at hlen hok hne ⊢
  refine hr.bind ?_
  simp only
  by_cases h : c = 3
  · rw [if_pos h]; exact ev_pos h (ev_now _)
  · have hb := (hne h).1
    have hd : doneBy l x y a c = y.foldl put1 l := by unfold doneBy; exact if_pos ⟨hb, hok⟩
    rw [if_neg h, hd]
    refine ev_neg h (ev_get (a := l) ?_ ((l3Do_ev x y a c hok (by omega) l hb.1).bind (ev_now _)))
    unfold spec_l1Copy.f
    simp only [Option.bind_some, List.nil_append, List.length_nil, Nat.zero_add]
    exact if_pos (by omega)

theorem ExecOk_l1 (y : List S82) (hm : y.length ≤ 9223372036854775807) : ∃ v, Ev (fun k => impl_ExecOk.l1 k y (y.length : Int) 0 false false false false) v ∧ (v = true ↔ okFrom pKey pGood y 0) := by
  classical
  have key := ev_loop y.length (fun i k => impl_ExecOk.l1 k y (y.length : Int) (i : Int) (namedIn pKey y i 0) (namedIn pKey y i 1) (namedIn pKey y i 2) (namedIn pKey y i 3)) (fun i => decide (okFrom pKey pGood y i)) (fun i hi ih => by
      refine Ev.step (fun k => by rw [impl_ExecOk.l1]) ?_
      refine ev_pos (lt_cast hi) (ev_pos (nn_cast i) (ev_pos (lt_cast hi) ?_))
      rw [rdi_Put hi, wrap_succ hi hm]
      simp only [okFrom_step pKey pGood y hi]
      refine ev_get (in_dec _ _ _) ?_
      by_cases h1 : 0 ≤ (y[i]).f0 ∧ (y[i]).f0 ≤ 3
      case neg =>
        have : ¬ (0 ≤ pKey y[i] ∧ pKey y[i] ≤ 3) := h1
        simp only [this, false_and, decide_false]
        exact ev_neg (by simpa using h1) (ev_now _)
      refine ev_pos (by simpa using h1) (ev_pos h1.1 (ev_pos (by omega) ?_))
      rw [rd_four (namedIn pKey y i) _ h1.1 h1.2]
      refine ev_ite (fun c => ?_) (fun c => ev_get (in_dec _ _ _) ?_)
      · rw [namedIn_iff] at c
        have c2 : pKey y[i] ∈ (y.take i).map pKey := c
        simp only [c2, not_true, and_false, false_and, decide_false]
        exact ev_now _
      · rw [namedIn_iff] at c
        have c2 : ¬ pKey y[i] ∈ (y.take i).map pKey := c
        have h2 : 0 ≤ pKey y[i] ∧ pKey y[i] ≤ 3 := h1
        by_cases g : pGood y[i]
        · simp only [h2, g, c2, not_false_eq_true, and_self, true_and]
          refine ev_pos (by simpa [pGood] using g) ?_
          have e : ∀ b, ixB (y[i]).f0 b true (namedIn pKey y i b) = namedIn pKey y (i + 1) b := namedIn_succ pKey y hi
          rw [e, e, e, e]
          exact ih
        · simp only [g, false_and, and_false, decide_false]
          exact ev_neg (by simpa [pGood] using g) (ev_now _)) (by
      refine Ev.step (fun k => by rw [impl_ExecOk.l1]) ?_
      refine ev_neg (by omega) ?_
      simp only [okFrom_end pKey pGood y, decide_true]
      exact ev_now _) 0 (Nat.zero_le _)
  simp only [namedIn_zero] at key
  exact ⟨_, key, by simp⟩
theorem ExecOk_l0 (x : List S39) (y : List S82) (a b : Int) (hn : x.length ≤ 9223372036854775807) (hm : y.length ≤ 9223372036854775807) :
    ∃ v, Ev (fun k => impl_ExecOk.l0 k x (x.length : Int) 0 x y a b false false false false false false false false) v ∧ (v = true ↔ okFrom rKey rGood x 0 ∧ okFrom pKey pGood y 0) := by
  classical
  obtain ⟨u, hu, hui⟩ := ExecOk_l1 y hm
  have key := ev_loop x.length (fun i k => impl_ExecOk.l0 k x (x.length : Int) (i : Int) x y a b (namedIn rKey x i 0) (namedIn rKey x i 1) (namedIn rKey x i 2) (namedIn rKey x i 3) false false false false) (fun i => decide (okFrom rKey rGood x i ∧ okFrom pKey pGood y 0)) (fun i hi ih => by
      refine Ev.step (fun k => by rw [impl_ExecOk.l0]) ?_
      refine ev_pos (lt_cast hi) (ev_pos (nn_cast i) (ev_pos (lt_cast hi) ?_))
      rw [rdi_Read hi, wrap_succ hi hn]
      simp only [okFrom_step rKey rGood x hi]
      refine ev_get (in_dec _ _ _) ?_
      by_cases h1 : 0 ≤ (x[i]).f0 ∧ (x[i]).f0 ≤ 3
      case neg =>
        have : ¬ (0 ≤ rKey x[i] ∧ rKey x[i] ≤ 3) := h1
        simp only [this, false_and, decide_false]
        exact ev_neg (by simpa using h1) (ev_now _)
      refine ev_pos (by simpa using h1) (ev_pos h1.1 (ev_pos (by omega) ?_))
      rw [rd_four (namedIn rKey x i) _ h1.1 h1.2]
      refine ev_ite (fun c => ?_) (fun c => ev_get (in_dec _ _ _) ?_)
      · rw [namedIn_iff] at c
        have c2 : rKey x[i] ∈ (x.take i).map rKey := c
        simp only [c2, not_true, and_false, false_and, decide_false]
        exact ev_now _
      · rw [namedIn_iff] at c
        have c2 : ¬ rKey x[i] ∈ (x.take i).map rKey := c
        have h2 : 0 ≤ rKey x[i] ∧ rKey x[i] ≤ 3 := h1
        by_cases g : rGood x[i]
        · simp only [h2, g, c2, not_false_eq_true, and_self, true_and]
          refine ev_pos (by simpa [rGood] using g) ?_
          have e : ∀ b, ixB (x[i]).f0 b true (namedIn rKey x i b) = namedIn rKey x (i + 1) b := namedIn_succ rKey x hi
          rw [e, e, e, e]
          exact ih
        · simp only [g, false_and, and_false, decide_false]
          exact ev_neg (by simpa [rGood] using g) (ev_now _)) (by
      refine Ev.step (fun k => by rw [impl_ExecOk.l0]) ?_
      refine ev_neg (by omega) ?_
      simp only [okFrom_end rKey rGood x, true_and]
      rw [show decide (okFrom pKey pGood y 0) = u from Bool.eq_iff_iff.2 (by rw [hui]; simp)]
      exact hu) 0 (Nat.zero_le _)
  simp only [namedIn_zero] at key
  exact ⟨_, key, by simp⟩
theorem impl_ExecOk_ev (x : List S39) (y : List S82) (a b : Int) (hn : x.length ≤ 9223372036854775807) (hm : y.length ≤ 9223372036854775807) : ∃ v, Ev (fun k => impl_ExecOk.f k x y a b) v ∧ (v = true ↔ runOk x y a b) := by
  obtain ⟨u, hu, hui⟩ := ExecOk_l0 x y a b hn hm
  have yes : Ev (fun k => impl_ExecOk.j0 k true x y a b) false := by
    refine Ev.step (fun k => by rw [impl_ExecOk.j0]) ?_
    exact ev_pos rfl (ev_now _)
  have no : Ev (fun k => impl_ExecOk.j0 k false x y a b) u := by
    refine Ev.step (fun k => by rw [impl_ExecOk.j0]) ?_
    exact ev_neg (by simp) hu
  unfold impl_ExecOk.f runOk
  rw [← hui]
  simp only [in_dec, Option.bind_some, decide_eq_true_eq]
  by_cases h1 : 0 ≤ b ∧ b ≤ 3
  case neg => exact ⟨false, ev_neg h1 yes, by simp [h1]⟩
  by_cases h2 : -1000000 ≤ a ∧ a ≤ 1000000
  case neg => exact ⟨false, ev_pos h1 (ev_neg h2 yes), by simp [h2]⟩
  have g3 : ∀ c : Bool, c = decide ((x.length : Int) > 0) → Ev (fun k => impl_ExecOk.j0 k c x y a b) (!c && u) := by
    intro c _
    cases c with
    | true => exact yes
    | false => exact no
  by_cases h3 : b = 0
  · have h4 : ¬ b = 3 := by omega
    exact ⟨u, ev_pos h1 (ev_pos h2 (ev_pos h3 (ev_neg h4 no))), by simp [h1, h2, h3, h4]⟩
  by_cases h5 : a = 0
  case neg => exact ⟨false, ev_pos h1 (ev_pos h2 (ev_neg h3 (ev_neg h5 yes))), by simp [h3, h5]⟩
  by_cases h6 : (y.length : Int) > 0
  · exact ⟨false, ev_pos h1 (ev_pos h2 (ev_neg h3 (ev_pos h5 (ev_pos h6 yes)))), by simp only [Bool.false_eq_true, false_iff]; intro hh; exact (hh.2.2.1 h3).2 h6⟩
  by_cases h4 : b = 3
  · refine ⟨_, ev_pos h1 (ev_pos h2 (ev_neg h3 (ev_pos h5 (ev_neg h6 (ev_pos h4 (g3 _ rfl)))))), ?_⟩
    by_cases h7 : (x.length : Int) > 0
    · simp only [h7, decide_true, Bool.not_true, Bool.false_and, Bool.false_eq_true, false_iff]
      intro hh; exact hh.2.2.2.1 h4 trivial
    · simp only [h7, decide_false, Bool.not_false, Bool.true_and]
      exact ⟨fun hh => ⟨h1, h2, fun _ => ⟨h5, h6⟩, fun _ => fun h => h, hh⟩, fun hh => hh.2.2.2.2⟩
  · exact ⟨u, ev_pos h1 (ev_pos h2 (ev_neg h3 (ev_pos h5 (ev_neg h6 (ev_neg h4 no))))), ⟨fun hh => ⟨h1, h2, fun _ => ⟨h5, h6⟩, fun h => absurd h h4, hh⟩, fun hh => hh.2.2.2.2⟩⟩

theorem impl_ExecDo_ev (l : List S37) (x : List S39) (y : List S82) (a b : Int) (hl : l.length ≤ 1048576) (hn : x.length ≤ 9223372036854775807) (hm : y.length ≤ 9223372036854775807) :
    Ev (fun k => impl_ExecDo.f k l x y a b) (doneBy l x y a b) := by
  obtain ⟨u, hu, hui⟩ := impl_BoxOk_ev l (by omega)
  obtain ⟨w, hw, hwi⟩ := impl_ExecOk_ev x y a b hn hm
  have yes : Ev (fun k => impl_ExecDo.j0 k l true x y a b) [] := by
    refine Ev.step (fun k => by rw [impl_ExecDo.j0]) ?_
    exact ev_pos rfl (ev_now _)
  unfold impl_ExecDo.f doneBy
  rw [← hui, ← hwi]
  cases u with
  | false => rw [if_neg (by simp)]; exact hu.bind (ev_neg (by simp) yes)
  | true =>
    cases w with
    | false => rw [if_neg (by simp)]; exact hu.bind (ev_pos rfl (hw.bind yes))
    | true =>
      rw [if_pos ⟨rfl, rfl⟩]
      have hr := hwi.1 rfl
      have key : ∀ d i (l : List S37), i + d = y.length → l.length = 4 → Ev (fun k => impl_ExecDo.l0 k l y (y.length : Int) (i : Int)) ((y.drop i).foldl put1 l) := by
        intro d
        induction d with
        | zero =>
          intro i l hi h4
          obtain rfl : i = y.length := by omega
          refine Ev.step (fun k => by rw [impl_ExecDo.l0]) ?_
          refine ev_neg (by omega) ?_
          rw [List.drop_length]
          exact ev_now _
        | succ d ih =>
          intro i l hd h4
          have hi : i < y.length := by omega
          have hp := runOk_puts hr i hi
          refine Ev.step (fun k => by rw [impl_ExecDo.l0]) ?_
          refine ev_pos (lt_cast hi) (ev_pos (nn_cast i) (ev_pos (lt_cast hi) ?_))
          rw [rdi_Put hi, wrap_succ hi hm, List.drop_eq_getElem_cons hi, List.foldl_cons]
          refine ev_pos hp.1 (ev_pos (by omega) ?_)
          exact ih (i + 1) _ (by omega) (by rw [List.length_set]; exact h4)
      refine hu.bind (ev_pos rfl (hw.bind ?_))
      refine Ev.step (fun k => by rw [impl_ExecDo.j0]) ?_
      refine ev_neg (by simp) (ev_get (a := l) ?_ ?_)
      · unfold impl_copied_impl_Box.f
        exact if_pos (by omega)
      · simpa using key y.length 0 l (by omega) (hui.1 rfl).1

theorem impl_SerialOne_ev (l : List S37) (p : List S95) (hl : l.length ≤ 1048576) (hp : p.length ≤ 9223372036854775807) : Ev (fun k => impl_SerialOne.f k l p) (serialOf l p) := by
  have hr := impl_ExecRun_ev l p (by omega) hp
  have hlen := runOf_len l p
  unfold impl_SerialOne.f serialOf
  generalize runOf l p = r at hr hlen
  obtain ⟨x, y, a, c⟩ := r
  simp only at hlen ⊢
  refine hr.bind ?_
  simp only
  by_cases h : c = 3
  · rw [if_pos h]; exact ev_pos h (ev_now _)
  · rw [if_neg h]; exact ev_neg h ((impl_ExecDo_ev l x y a c hl (by omega) (by omega)).bind (ev_now _))

theorem spec_SerialAll_l0 (ps : List (List S95)) (hn : ps.length ≤ 1000000) (hp : ∀ p ∈ ps, p.length ≤ 9223372036854775807) : ∀ (d i : Nat) (v : List Int) (x : List S37), i + d = ps.length → x.length ≤ 4 → v.length + d ≤ 1000000 → Ev (fun k => spec_SerialAll.l0 k ps v x (i : Int)) (serEnd v (serRun (ps.drop i) x)) := by
  intro d
  induction d with
  | zero =>
    intro i v x hi hx hv
    obtain rfl : i = ps.length := by omega
    rw [List.drop_length, serEnd_end]
    exact Ev.step (fun k => by rw [spec_SerialAll.l0]) (ev_neg (by omega) (ev_now _))
  | succ d ih =>
    intro i v x hd hx hv
    have hi : i < ps.length := by omega
    rw [List.drop_eq_getElem_cons hi, serEnd_cons]
    have so := spec_SerialOne_ev x ps[i] (by omega) (hp _ (List.getElem_mem hi))
    have sl := serialOf_len x ps[i]
    refine Ev.step (fun k => by rw [spec_SerialAll.l0]) (ev_pos (lt_cast hi) (ev_pos (nn_cast i) ?_))
    rw [rdi_Prog hi, wrap_succ hi (by omega)]
    refine so.bind ?_
    by_cases c : (serialOf x ps[i]).2.2 = 3
    · rw [if_pos c]; exact ev_pos c (ev_now _)
    · rw [if_neg c]
      exact ev_neg c (ev_pos (by omega) (ih (i + 1) _ _ (by omega) sl (by rw [List.length_append, List.length_singleton]; omega)))
theorem impl_SerialAll_l0 (ps : List (List S95)) (hn : ps.length ≤ 1000000) (hp : ∀ p ∈ ps, p.length ≤ 9223372036854775807) : ∀ (d i : Nat) (v : List Int) (x : List S37), i + d = ps.length → x.length ≤ 4 → v.length + d ≤ 1000000 → Ev (fun k => impl_SerialAll.l0 k x v ps (ps.length : Int) (i : Int)) (serEnd v (serRun (ps.drop i) x)) := by
  intro d
  induction d with
  | zero =>
    intro i v x hi hx hv
    obtain rfl : i = ps.length := by omega
    rw [List.drop_length, serEnd_end]
    refine Ev.step (fun k => by rw [impl_SerialAll.l0]) (ev_neg (by omega) (ev_get (a := v) ?_ (ev_now _)))
    unfold impl_copied_int.f; exact if_pos (by omega)
  | succ d ih =>
    intro i v x hd hx hv
    have hi : i < ps.length := by omega
    rw [List.drop_eq_getElem_cons hi, serEnd_cons]
    have so := impl_SerialOne_ev x ps[i] (by omega) (hp _ (List.getElem_mem hi))
    have sl := serialOf_len x ps[i]
    refine Ev.step (fun k => by rw [impl_SerialAll.l0]) (ev_pos (lt_cast hi) (ev_pos (nn_cast i) (ev_pos (lt_cast hi) ?_)))
    rw [rdi_Prog hi, wrap_succ hi (by omega)]
    refine so.bind ?_
    by_cases c : (serialOf x ps[i]).2.2 = 3
    · rw [if_pos c]; exact ev_pos c (ev_now _)
    · rw [if_neg c]
      exact ev_neg c (ev_pos (by omega) (ih (i + 1) _ _ (by omega) sl (by rw [List.length_append, List.length_singleton]; omega)))
theorem spec_SerialAll_ev (l : List S37) (ps : List (List S95)) (hl : l.length ≤ 1000000) (hn : ps.length ≤ 1000000) (hp : ∀ p ∈ ps, p.length ≤ 9223372036854775807) : Ev (fun k => spec_SerialAll.f k l ps) (serAll l ps) := by
  obtain ⟨u, hu, hui⟩ := spec_BoxOk_ev l (by omega)
  have no : Ev (fun k => spec_SerialAll.j0 k l ps true) ([], []) := Ev.step (fun k => by rw [spec_SerialAll.j0]) (ev_pos rfl (ev_now _))
  unfold spec_SerialAll.f serAll
  refine hu.bind (ev_ite (fun h1 => ?_) (fun h1 => ?_))
  case refine_2 => rw [if_neg (fun g => h1 (hui.2 g.1))]; exact no
  have hb := hui.1 h1
  by_cases h2 : ps.length ≤ 100
  · rw [if_pos ⟨hb, h2⟩, ← serEnd_nil]
    have e : decide ((ps.length : Int) > 100) = false := by simp; omega
    rw [e]
    refine Ev.step (fun k => by rw [spec_SerialAll.j0]) (ev_neg (by simp) (ev_get (a := l) ?_ ?_))
    · unfold spec_l1Copy.f
      simp only [Option.bind_some, List.nil_append, List.length_nil, Nat.zero_add]
      exact if_pos (by omega)
    · exact spec_SerialAll_l0 ps hn hp ps.length 0 [] l (by omega) (by have := hb.1; omega) (by simp; omega)
  · rw [if_neg (fun g => h2 g.2)]
    have e : decide ((ps.length : Int) > 100) = true := by simp; omega
    rw [e]; exact no
theorem impl_SerialAll_ev (l : List S37) (ps : List (List S95)) (hl : l.length ≤ 1000000) (hn : ps.length ≤ 1000000) (hp : ∀ p ∈ ps, p.length ≤ 9223372036854775807) : Ev (fun k => impl_SerialAll.f k l ps) (serAll l ps) := by
  obtain ⟨u, hu, hui⟩ := impl_BoxOk_ev l (by omega)
  have no : Ev (fun k => impl_SerialAll.j0 k l ps true) ([], []) := Ev.step (fun k => by rw [impl_SerialAll.j0]) (ev_pos rfl (ev_now _))
  unfold impl_SerialAll.f serAll
  refine hu.bind (ev_ite (fun h1 => ?_) (fun h1 => ?_))
  case refine_2 => rw [if_neg (fun g => h1 (hui.2 g.1))]; exact no
  have hb := hui.1 h1
  by_cases h2 : ps.length ≤ 100
  · rw [if_pos ⟨hb, h2⟩, ← serEnd_nil]
    have e : decide ((ps.length : Int) > 100) = false := by simp; omega
    rw [e]
    refine Ev.step (fun k => by rw [impl_SerialAll.j0]) (ev_neg (by simp) (ev_get (a := l) ?_ ?_))
    · unfold impl_copied_impl_Box.f; exact if_pos (by omega)
    · exact impl_SerialAll_l0 ps hn hp ps.length 0 [] l (by omega) (by have := hb.1; omega) (by simp; omega)
  · rw [if_neg (fun g => h2 g.2)]
    have e : decide ((ps.length : Int) > 100) = true := by simp; omega
    rw [e]; exact no

def meet (x y : List Int) : Prop := ∃ a ∈ x, a ∈ y
theorem mem_drop {y : List Int} {j : Nat} (h : j < y.length) (a : Int) : a ∈ y.drop j ↔ a = y[j] ∨ a ∈ y.drop (j + 1) := by
  rw [List.drop_eq_getElem_cons h, List.mem_cons]
theorem meet_drop {x : List Int} {i : Nat} (h : i < x.length) (y : List Int) : meet (x.drop i) y ↔ x[i] ∈ y ∨ meet (x.drop (i + 1)) y := by
  unfold meet
  rw [List.drop_eq_getElem_cons h]
  simp only [List.mem_cons, exists_eq_or_imp]

theorem l4Meet_ev (x y : List Int) (hn : x.length ≤ 9223372036854775807) (hm : y.length ≤ 9223372036854775807) : ∃ v, Ev (fun k => spec_l4Meet.f k x y) v ∧ (v = true ↔ meet x y) := by
  classical
  have key := ev_loop x.length (fun i k => spec_l4Meet.l0 k x y (i : Int)) (fun i => decide (meet (x.drop i) y)) (fun i hi ih => by
      refine Ev.step (fun k => by rw [spec_l4Meet.l0]) ?_
      refine ev_pos (lt_cast hi) ?_
      have inner := ev_loop y.length (fun j k => spec_l4Meet.l1 k x y (i : Int) (j : Int)) (fun j => decide (x[i] ∈ y.drop j ∨ meet (x.drop (i + 1)) y)) (fun j hj jh => by
          refine Ev.step (fun k => by rw [spec_l4Meet.l1]) ?_
          refine ev_pos (lt_cast hj) (ev_pos (nn_cast i) (ev_pos (lt_cast hi) (ev_pos (nn_cast j) ?_)))
          rw [rd_i hi, rd_i hj, wrap_succ hj hm]
          by_cases c : x[i] = y[j]
          · have : x[i] ∈ y.drop j := (mem_drop hj _).2 (.inl c)
            simp only [this, true_or, decide_true]
            exact ev_pos c (ev_now _)
          · simp only [mem_drop hj, c, false_or]
            exact ev_neg (fun h => h) jh) (by
          refine Ev.step (fun k => by rw [spec_l4Meet.l1]) ?_
          refine ev_neg (by omega) ?_
          rw [wrap_succ hi hn]
          simp only [List.drop_length, List.not_mem_nil, false_or]
          exact ih) 0 (Nat.zero_le _)
      simp only [List.drop_zero] at inner
      simp only [meet_drop hi]
      exact inner) (by
      refine Ev.step (fun k => by rw [spec_l4Meet.l0]) ?_
      refine ev_neg (by omega) ?_
      have : ¬ meet (x.drop x.length) y := by rw [List.drop_length]; rintro ⟨a, ha, _⟩; simp at ha
      simp only [this, decide_false]
      exact ev_now _) 0 (Nat.zero_le _)
  refine ⟨decide (meet (x.drop 0) y), ?_, by simp⟩
  unfold spec_l4Meet.f
  exact key

theorem meets_ev (x y : List Int) (hn : x.length ≤ 9223372036854775807) (hm : y.length ≤ 9223372036854775807) : ∃ v, Ev (fun k => impl_meets.f k x y) v ∧ (v = true ↔ meet x y) := by
  classical
  have key := ev_loop x.length (fun i k => impl_meets.l0 k y x (x.length : Int) (i : Int)) (fun i => decide (meet (x.drop i) y)) (fun i hi ih => by
      refine Ev.step (fun k => by rw [impl_meets.l0]) ?_
      refine ev_pos (lt_cast hi) (ev_pos (nn_cast i) (ev_pos (lt_cast hi) ?_))
      rw [rd_i hi]
      have inner := ev_loop y.length (fun j k => impl_meets.l1 k y x[i] x (x.length : Int) (i : Int) y (y.length : Int) (j : Int)) (fun j => decide (x[i] ∈ y.drop j ∨ meet (x.drop (i + 1)) y)) (fun j hj jh => by
          refine Ev.step (fun k => by rw [impl_meets.l1]) ?_
          refine ev_pos (lt_cast hj) (ev_pos (nn_cast j) (ev_pos (lt_cast hj) ?_))
          rw [rd_i hj, wrap_succ hj hm]
          by_cases c : x[i] = y[j]
          · have : x[i] ∈ y.drop j := (mem_drop hj _).2 (.inl c)
            simp only [this, true_or, decide_true]
            exact ev_pos c (ev_now _)
          · simp only [mem_drop hj, c, false_or]
            exact ev_neg (fun h => h) jh) (by
          refine Ev.step (fun k => by rw [impl_meets.l1]) ?_
          refine ev_neg (by omega) ?_
          rw [wrap_succ hi hn]
          simp only [List.drop_length, List.not_mem_nil, false_or]
          exact ih) 0 (Nat.zero_le _)
      simp only [List.drop_zero] at inner
      simp only [meet_drop hi]
      exact inner) (by
      refine Ev.step (fun k => by rw [impl_meets.l0]) ?_
      refine ev_neg (by omega) ?_
      have : ¬ meet (x.drop x.length) y := by rw [List.drop_length]; rintro ⟨a, ha, _⟩; simp at ha
      simp only [this, decide_false]
      exact ev_now _) 0 (Nat.zero_le _)
  refine ⟨decide (meet (x.drop 0) y), ?_, by simp⟩
  unfold impl_meets.f
  exact key

/-- Of 0 .. m - 1, those that p names. -/
def pick (p : Int → Bool) (m : Nat) : List Int := ((List.range m).map (fun i : Nat => (i : Int))).filter p
theorem pick_succ (p : Int → Bool) (m : Nat) : pick p (m + 1) = if p m = true then pick p m ++ [(m : Int)] else pick p m := by
  unfold pick
  rw [List.range_succ, List.map_append, List.filter_append]
  by_cases h : p m = true
  · simp [h]
  · simp [h]
theorem pick_len (p : Int → Bool) (m : Nat) : (pick p m).length ≤ m := by
  unfold pick
  exact Nat.le_trans (List.length_filter_le _ _) (by simp)
theorem pick_same {p q : Int → Bool} (m : Nat) (h : ∀ i : Nat, i < m → p i = q i) : pick p m = pick q m := by
  unfold pick
  refine List.filter_congr ?_
  intro x hx
  simp only [List.mem_map, List.mem_range] at hx
  obtain ⟨i, hi, rfl⟩ := hx
  exact h i hi
/-- What an instruction of kind c touches. -/
def hit (c : Int) (i : Int) (x : S95) : Bool := decide (x.f0 = c) && ((decide (c = 1) && decide (x.f2 = i)) || (decide (c = 2) && decide (x.f1 = i)))
theorem any_drop {α : Type} (l : List α) (p : α → Bool) {j : Nat} (h : j < l.length) : (l.drop j).any p = (p l[j] || (l.drop (j + 1)).any p) := by
  rw [List.drop_eq_getElem_cons h, List.any_cons]
theorem boxesOf_ev (g0 g1 g2 g3 : Bool) : Ev (fun k => impl_boxesOf.f k g0 g1 g2 g3) (pick (fun i => rdOf false [g0, g1, g2, g3] i) 4) := by
  have key := ev_loop 4 (fun i k => impl_boxesOf.l0 k (pick (fun i => rdOf false [g0, g1, g2, g3] i) i) (i : Int) g0 g1 g2 g3) (fun _ => pick (fun i => rdOf false [g0, g1, g2, g3] i) 4) (fun i hi ih => by
    have wi : wrap64 ((i : Int) + 1) = ((i + 1 : Nat) : Int) := wrap_succ hi (by omega)
    refine Ev.step (fun k => by rw [impl_boxesOf.l0]) ?_
    refine ev_pos (by omega) (ev_pos (by omega) ?_)
    rw [pick_succ] at ih
    rw [wi]
    refine ev_ite (fun h => ev_pos (by have := pick_len (fun i => rdOf false [g0, g1, g2, g3] i) i; omega) ?_) (fun h => ?_)
    · rw [if_pos h] at ih; exact ih
    · rw [if_neg h] at ih; exact ih) (by
    refine Ev.step (fun k => by rw [impl_boxesOf.l0]) ?_
    refine ev_neg (by omega) ?_
    refine ev_get (a := pick (fun i => rdOf false [g0, g1, g2, g3] i) 4) ?_ (ev_now _)
    unfold impl_copied_int.f
    exact if_pos (by have := pick_len (fun i => rdOf false [g0, g1, g2, g3] i) 4; omega)) 0 (Nat.zero_le _)
  exact key
theorem ixB_true (j i : Int) (f : Bool) : ixB j i true f = (f || decide (j = i)) := by
  unfold ixB
  by_cases h : j = i
  · rw [if_pos h]; simp [h]
  · rw [if_neg h]; simp [h]
theorem hit_ne {c : Int} (i : Int) {x : S95} (h : x.f0 ≠ c) : hit c i x = false := by simp [hit, h]

theorem l2Boxes_l1 (l : List S95) (c : Int) (acc : List Int) (i : Int) (r : List Int) (hn : l.length ≤ 9223372036854775807) (ha : acc.length < 4) (hi : 0 ≤ i) (hi4 : i < 4)
    (H : Ev (fun k => spec_l2Boxes.l0 k l c (if (l.any (hit c i)) = true then acc ++ [i] else acc) (i + 1)) r) : Ev (fun k => spec_l2Boxes.l1 k l c acc i false 0) r := by
  have wi : wrap64 (i + 1) = i + 1 := wrap_id (by omega) (by omega)
  have key : ∀ d j b, j + d = l.length → (b || (l.drop j).any (hit c i)) = l.any (hit c i) → Ev (fun k => spec_l2Boxes.l1 k l c acc i b (j : Int)) r := by
    intro d
    induction d with
    | zero =>
      intro j b h hb
      obtain rfl : j = l.length := by omega
      rw [List.drop_length, List.any_nil, Bool.or_false] at hb
      subst hb
      refine Ev.step (fun k => by rw [spec_l2Boxes.l1]) ?_
      refine ev_neg (by omega) ?_
      refine ev_ite (fun h => ev_pos (by omega) ?_) (fun h => ?_)
      · rw [if_pos h] at H; rw [wi]; exact H
      · rw [if_neg h] at H; rw [wi]; exact H
    | succ d ih =>
      intro j b h hb
      have hj : j < l.length := by omega
      have nx : ∀ b', b' = (b || hit c i l[j]) → Ev (fun k => spec_l2Boxes.l1 k l c acc i b' (wrap64 ((j : Int) + 1))) r := by
        intro b' hb'
        rw [wrap_succ hj hn]
        refine ih (j + 1) b' (by omega) ?_
        rw [hb', ← hb, any_drop l _ hj, Bool.or_assoc]
      refine Ev.step (fun k => by rw [spec_l2Boxes.l1]) ?_
      refine ev_pos (lt_cast hj) ?_
      refine ev_ite (fun hbt => nx true (by simp [hbt])) (fun hbt => ev_pos (nn_cast j) ?_)
      rw [Bool.not_eq_true] at hbt
      subst hbt
      rw [rdi_Ins hj]
      refine ev_ite (fun h0 => ev_ite (fun h1 => ev_ite (fun h2 => nx true (by simp [hit, h0, h1, h2])) (fun h2 => ev_neg (by omega) (nx false (by simp [hit, h0, h1, h2])))) (fun h1 => ev_ite (fun h2 => nx _ ?_) (fun h2 => nx false (by simp [hit, h1, h2])))) (fun h0 => nx false (by simp [hit, h0]))
      rw [Bool.eq_iff_iff]; simp [hit, h0, h2]
  exact key l.length 0 false (by omega) (by simp)
theorem l2Boxes_ev (l : List S95) (c : Int) (hn : l.length ≤ 9223372036854775807) : Ev (fun k => spec_l2Boxes.f k l c) (pick (fun i => l.any (hit c i)) 4) := by
  have key := ev_loop 4 (fun i k => spec_l2Boxes.l0 k l c (pick (fun i => l.any (hit c i)) i) (i : Int)) (fun _ => pick (fun i => l.any (hit c i)) 4) (fun i hi ih => by
    refine Ev.step (fun k => by rw [spec_l2Boxes.l0]) ?_
    refine ev_pos (by omega) ?_
    refine l2Boxes_l1 l c _ i _ hn (by have := pick_len (fun i => l.any (hit c i)) i; omega) (by omega) (by omega) ?_
    rw [pick_succ] at ih
    exact ih) (by
    refine Ev.step (fun k => by rw [spec_l2Boxes.l0]) ?_
    refine ev_neg (by omega) ?_
    exact ev_now _) 0 (Nat.zero_le _)
  exact key

theorem impl_ProgLoads_ev (l : List S95) (hn : l.length ≤ 9223372036854775807) : Ev (fun k => impl_ProgLoads.f k l) (pick (fun i => l.any (hit 1 i)) 4) := by
  have key : ∀ d j (b0 b1 b2 b3 : Bool), j + d = l.length → (b0 || (l.drop j).any (hit 1 0)) = l.any (hit 1 0) → (b1 || (l.drop j).any (hit 1 1)) = l.any (hit 1 1) → (b2 || (l.drop j).any (hit 1 2)) = l.any (hit 1 2) → (b3 || (l.drop j).any (hit 1 3)) = l.any (hit 1 3) → Ev (fun k => impl_ProgLoads.l0 k l (l.length : Int) (j : Int) b0 b1 b2 b3) (pick (fun i => l.any (hit 1 i)) 4) := by
    intro d
    induction d with
    | zero =>
      intro j b0 b1 b2 b3 h h0 h1 h2 h3
      obtain rfl : j = l.length := by omega
      rw [List.drop_length, List.any_nil, Bool.or_false] at h0 h1 h2 h3
      subst h0 h1 h2 h3
      refine Ev.step (fun k => by rw [impl_ProgLoads.l0]) ?_
      refine ev_neg (by omega) ?_
      refine (boxesOf_ev _ _ _ _).bind ?_
      rw [pick_same (q := fun i => l.any (hit 1 i)) 4 (fun i hi => by
        rcases i with _ | _ | _ | _ | i
        · rfl
        · rfl
        · rfl
        · rfl
        · omega)]
      exact ev_now _
    | succ d ih =>
      intro j b0 b1 b2 b3 h h0 h1 h2 h3
      have hj : j < l.length := by omega
      rw [any_drop l _ hj, ← Bool.or_assoc] at h0 h1 h2 h3
      refine Ev.step (fun k => by rw [impl_ProgLoads.l0]) ?_
      refine ev_pos (lt_cast hj) (ev_pos (nn_cast j) (ev_pos (lt_cast hj) ?_))
      rw [rdi_Ins hj, wrap_succ hj hn]
      have nx : ∀ c0 c1 c2 c3, c0 = (b0 || hit 1 0 l[j]) → c1 = (b1 || hit 1 1 l[j]) → c2 = (b2 || hit 1 2 l[j]) → c3 = (b3 || hit 1 3 l[j]) → Ev (fun k => impl_ProgLoads.l0 k l (l.length : Int) ((j + 1 : Nat) : Int) c0 c1 c2 c3) (pick (fun i => l.any (hit 1 i)) 4) := by
        intro c0 c1 c2 c3 e0 e1 e2 e3
        exact ih (j + 1) c0 c1 c2 c3 (by omega) (by rw [e0]; exact h0) (by rw [e1]; exact h1) (by rw [e2]; exact h2) (by rw [e3]; exact h3)
      by_cases hk : (l[j]).f0 = 1
      · refine ev_pos hk (ev_get (in_dec _ _ _) ?_)
        have hh : ∀ i : Int, hit 1 i l[j] = decide ((l[j]).f2 = i) := by intro i; simp [hit, hk]
        by_cases hr : 0 ≤ (l[j]).f2 ∧ (l[j]).f2 ≤ 3
        · refine ev_pos (by simpa using hr) (ev_pos (by omega) (ev_pos (by omega) ?_))
          exact nx _ _ _ _ (by rw [hh, ixB_true]) (by rw [hh, ixB_true]) (by rw [hh, ixB_true]) (by rw [hh, ixB_true])
        · refine ev_neg (by simpa using hr) ?_
          refine nx _ _ _ _ ?_ ?_ ?_ ?_ <;> (rw [hh, decide_eq_false (by omega), Bool.or_false])
      · refine ev_neg hk ?_
        exact nx _ _ _ _ (by rw [hit_ne _ hk, Bool.or_false]) (by rw [hit_ne _ hk, Bool.or_false]) (by rw [hit_ne _ hk, Bool.or_false]) (by rw [hit_ne _ hk, Bool.or_false])
  exact Ev.congr (fun k => by unfold impl_ProgLoads.f; exact rfl) (key l.length 0 false false false false (by omega) (by simp) (by simp) (by simp) (by simp))

theorem spec_ProgLoads_ev (l : List S95) (hn : l.length ≤ 9223372036854775807) : Ev (fun k => spec_ProgLoads.f k l) (pick (fun i => l.any (hit 1 i)) 4) := by
  unfold spec_ProgLoads.f
  exact (l2Boxes_ev l 1 hn).bind (ev_now _)

theorem impl_ProgPuts_ev (l : List S95) (hn : l.length ≤ 9223372036854775807) : Ev (fun k => impl_ProgPuts.f k l) (pick (fun i => l.any (hit 2 i)) 4) := by
  have key : ∀ d j (b0 b1 b2 b3 : Bool), j + d = l.length → (b0 || (l.drop j).any (hit 2 0)) = l.any (hit 2 0) → (b1 || (l.drop j).any (hit 2 1)) = l.any (hit 2 1) → (b2 || (l.drop j).any (hit 2 2)) = l.any (hit 2 2) → (b3 || (l.drop j).any (hit 2 3)) = l.any (hit 2 3) → Ev (fun k => impl_ProgPuts.l0 k l (l.length : Int) (j : Int) b0 b1 b2 b3) (pick (fun i => l.any (hit 2 i)) 4) := by
    intro d
    induction d with
    | zero =>
      intro j b0 b1 b2 b3 h h0 h1 h2 h3
      obtain rfl : j = l.length := by omega
      rw [List.drop_length, List.any_nil, Bool.or_false] at h0 h1 h2 h3
      subst h0 h1 h2 h3
      refine Ev.step (fun k => by rw [impl_ProgPuts.l0]) ?_
      refine ev_neg (by omega) ?_
      refine (boxesOf_ev _ _ _ _).bind ?_
      rw [pick_same (q := fun i => l.any (hit 2 i)) 4 (fun i hi => by
        rcases i with _ | _ | _ | _ | i
        · rfl
        · rfl
        · rfl
        · rfl
        · omega)]
      exact ev_now _
    | succ d ih =>
      intro j b0 b1 b2 b3 h h0 h1 h2 h3
      have hj : j < l.length := by omega
      rw [any_drop l _ hj, ← Bool.or_assoc] at h0 h1 h2 h3
      refine Ev.step (fun k => by rw [impl_ProgPuts.l0]) ?_
      refine ev_pos (lt_cast hj) (ev_pos (nn_cast j) (ev_pos (lt_cast hj) ?_))
      rw [rdi_Ins hj, wrap_succ hj hn]
      have nx : ∀ c0 c1 c2 c3, c0 = (b0 || hit 2 0 l[j]) → c1 = (b1 || hit 2 1 l[j]) → c2 = (b2 || hit 2 2 l[j]) → c3 = (b3 || hit 2 3 l[j]) → Ev (fun k => impl_ProgPuts.l0 k l (l.length : Int) ((j + 1 : Nat) : Int) c0 c1 c2 c3) (pick (fun i => l.any (hit 2 i)) 4) := by
        intro c0 c1 c2 c3 e0 e1 e2 e3
        exact ih (j + 1) c0 c1 c2 c3 (by omega) (by rw [e0]; exact h0) (by rw [e1]; exact h1) (by rw [e2]; exact h2) (by rw [e3]; exact h3)
      by_cases hk : (l[j]).f0 = 2
      · refine ev_pos hk (ev_get (in_dec _ _ _) ?_)
        have hh : ∀ i : Int, hit 2 i l[j] = decide ((l[j]).f1 = i) := by intro i; simp [hit, hk]
        by_cases hr : 0 ≤ (l[j]).f1 ∧ (l[j]).f1 ≤ 3
        · refine ev_pos (by simpa using hr) (ev_pos (by omega) (ev_pos (by omega) ?_))
          exact nx _ _ _ _ (by rw [hh, ixB_true]) (by rw [hh, ixB_true]) (by rw [hh, ixB_true]) (by rw [hh, ixB_true])
        · refine ev_neg (by simpa using hr) ?_
          refine nx _ _ _ _ ?_ ?_ ?_ ?_ <;> (rw [hh, decide_eq_false (by omega), Bool.or_false])
      · refine ev_neg hk ?_
        exact nx _ _ _ _ (by rw [hit_ne _ hk, Bool.or_false]) (by rw [hit_ne _ hk, Bool.or_false]) (by rw [hit_ne _ hk, Bool.or_false]) (by rw [hit_ne _ hk, Bool.or_false])
  exact Ev.congr (fun k => by unfold impl_ProgPuts.f; exact rfl) (key l.length 0 false false false false (by omega) (by simp) (by simp) (by simp) (by simp))

theorem spec_ProgPuts_ev (l : List S95) (hn : l.length ≤ 9223372036854775807) : Ev (fun k => spec_ProgPuts.f k l) (pick (fun i => l.any (hit 2 i)) 4) := by
  unfold spec_ProgPuts.f
  exact (l2Boxes_ev l 2 hn).bind (ev_now _)

def putsOf (l : List S95) : List Int := pick (fun i => l.any (hit 2 i)) 4
def loadsOf (l : List S95) : List Int := pick (fun i => l.any (hit 1 i)) 4
theorem putsOf_len (l : List S95) : (putsOf l).length ≤ 4 := pick_len _ _
theorem loadsOf_len (l : List S95) : (loadsOf l).length ≤ 4 := pick_len _ _
theorem meet_comm (x y : List Int) : meet x y ↔ meet y x := ⟨fun ⟨a, h, g⟩ => ⟨a, g, h⟩, fun ⟨a, h, g⟩ => ⟨a, g, h⟩⟩
def freeP (p q : List S95) : Prop := progOk p ∧ progOk q ∧ ¬ meet (putsOf p) (putsOf q) ∧ ¬ meet (putsOf p) (loadsOf q) ∧ ¬ meet (loadsOf p) (putsOf q)
theorem spec_SerialFree_ev (p q : List S95) (hn : p.length ≤ 9223372036854775807) (hm : q.length ≤ 9223372036854775807) : ∃ v, Ev (fun k => spec_SerialFree.f k p q) v ∧ (v = true ↔ freeP p q) := by
  obtain ⟨a, ha, hai⟩ := spec_ProgOk_ev p hn
  obtain ⟨b, hb, hbi⟩ := spec_ProgOk_ev q hm
  have p1 : Ev (fun k => spec_ProgPuts.f k p) (putsOf p) := spec_ProgPuts_ev p hn
  have p2 : Ev (fun k => spec_ProgPuts.f k q) (putsOf q) := spec_ProgPuts_ev q hm
  have l1 : Ev (fun k => spec_ProgLoads.f k p) (loadsOf p) := spec_ProgLoads_ev p hn
  have l2 : Ev (fun k => spec_ProgLoads.f k q) (loadsOf q) := spec_ProgLoads_ev q hm
  have n1 := putsOf_len p; have n2 := putsOf_len q; have n3 := loadsOf_len p; have n4 := loadsOf_len q
  obtain ⟨c, hc, hci⟩ := l4Meet_ev (putsOf p) (putsOf q) (by omega) (by omega)
  obtain ⟨d, hd, hdi⟩ := l4Meet_ev (putsOf p) (loadsOf q) (by omega) (by omega)
  obtain ⟨e, he, hei⟩ := l4Meet_ev (loadsOf p) (putsOf q) (by omega) (by omega)
  unfold spec_SerialFree.f freeP
  rw [← hai, ← hbi, ← hci, ← hdi, ← hei]
  by_cases h1 : a = true
  case neg => exact ⟨false, ha.bind (ev_neg h1 (ev_now _)), by simp [h1]⟩
  by_cases h2 : b = true
  case neg => exact ⟨false, ha.bind (ev_pos h1 (hb.bind (ev_neg h2 (ev_now _)))), by simp [h2]⟩
  by_cases h3 : c = true
  case pos => exact ⟨false, ha.bind (ev_pos h1 (hb.bind (ev_pos h2 (p1.bind (p2.bind (hc.bind (ev_pos h3 (ev_now _)))))))), by simp [h3]⟩
  by_cases h4 : d = true
  case pos => exact ⟨false, ha.bind (ev_pos h1 (hb.bind (ev_pos h2 (p1.bind (p2.bind (hc.bind (ev_neg h3 (p1.bind (l2.bind (hd.bind (ev_pos h4 (ev_now _)))))))))))), by simp [h4]⟩
  exact ⟨!e, ha.bind (ev_pos h1 (hb.bind (ev_pos h2 (p1.bind (p2.bind (hc.bind (ev_neg h3 (p1.bind (l2.bind (hd.bind (ev_neg h4 (l1.bind (p2.bind (he.bind (ev_now _))))))))))))))), by simp [h1, h2, h3, h4]⟩
theorem impl_SerialFree_ev (p q : List S95) (hn : p.length ≤ 9223372036854775807) (hm : q.length ≤ 9223372036854775807) : ∃ v, Ev (fun k => impl_SerialFree.f k p q) v ∧ (v = true ↔ freeP p q) := by
  obtain ⟨a, ha, hai⟩ := impl_ProgOk_ev p hn
  obtain ⟨b, hb, hbi⟩ := impl_ProgOk_ev q hm
  have p1 : Ev (fun k => impl_ProgPuts.f k p) (putsOf p) := impl_ProgPuts_ev p hn
  have p2 : Ev (fun k => impl_ProgPuts.f k q) (putsOf q) := impl_ProgPuts_ev q hm
  have l1 : Ev (fun k => impl_ProgLoads.f k p) (loadsOf p) := impl_ProgLoads_ev p hn
  have l2 : Ev (fun k => impl_ProgLoads.f k q) (loadsOf q) := impl_ProgLoads_ev q hm
  have n1 := putsOf_len p; have n2 := putsOf_len q; have n3 := loadsOf_len p; have n4 := loadsOf_len q
  obtain ⟨c, hc, hci⟩ := meets_ev (putsOf p) (putsOf q) (by omega) (by omega)
  obtain ⟨d, hd, hdi⟩ := meets_ev (putsOf p) (loadsOf q) (by omega) (by omega)
  obtain ⟨e, he, hei⟩ := meets_ev (putsOf q) (loadsOf p) (by omega) (by omega)
  rw [meet_comm] at hei
  have no : Ev (fun k => impl_SerialFree.j0 k p q true) false := by
    refine Ev.step (fun k => by rw [impl_SerialFree.j0]) ?_
    exact ev_pos rfl (ev_now _)
  unfold impl_SerialFree.f freeP
  rw [← hai, ← hbi, ← hci, ← hdi, ← hei]
  by_cases h1 : a = true
  case neg => exact ⟨false, ha.bind (ev_neg h1 no), by simp [h1]⟩
  by_cases h2 : b = true
  case neg =>
    rw [Bool.not_eq_true] at h2; subst h2
    exact ⟨false, ha.bind (ev_pos h1 (hb.bind no)), by simp⟩
  subst h2
  have go : ∀ {r : Bool}, Ev (fun k => (impl_ProgPuts.f k p).bind fun t212 => ((impl_ProgPuts.f k q).bind fun t215 => ((impl_meets.f k t212 t215).bind fun t218 => (if t218 = true then (some false) else ((impl_ProgLoads.f k q).bind fun t219 => ((impl_meets.f k t212 t219).bind fun t222 => (if t222 = true then (some false) else ((impl_ProgLoads.f k p).bind fun t223 => ((impl_meets.f k t215 t223).bind fun t226 => (some (!t226)))))))))) ) r → Ev (fun k => impl_SerialFree.j0 k p q (!true)) r := by
    intro r h
    refine Ev.step (fun k => by rw [impl_SerialFree.j0]) ?_
    exact ev_neg (by simp) h
  by_cases h3 : c = true
  case pos => exact ⟨false, ha.bind (ev_pos h1 (hb.bind (go (p1.bind (p2.bind (hc.bind (ev_pos h3 (ev_now _)))))))), by simp [h3]⟩
  by_cases h4 : d = true
  case pos => exact ⟨false, ha.bind (ev_pos h1 (hb.bind (go (p1.bind (p2.bind (hc.bind (ev_neg h3 (l2.bind (hd.bind (ev_pos h4 (ev_now _))))))))))), by simp [h4]⟩
  exact ⟨!e, ha.bind (ev_pos h1 (hb.bind (go (p1.bind (p2.bind (hc.bind (ev_neg h3 (l2.bind (hd.bind (ev_neg h4 (l1.bind (he.bind (ev_now _)))))))))))))  , by simp [h1, h3, h4]⟩

theorem runP_inv (l : List S37) (p : List S95) (I : List S39 → List S82 → Prop)
    (hL : ∀ (j : Nat) (x : List S39) (y : List S82), j < p.length → (rd_T95 p (j : Int)).f0 = 1 → I x y → I (look l x y (rd_T95 p (j : Int)).f2).2 y)
    (hP : ∀ (j : Nat) (x : List S39) (y : List S82) (v : Int), j < p.length → (rd_T95 p (j : Int)).f0 = 2 → I x y → I x (putP y (rd_T95 p (j : Int)).f1 v)) :
    ∀ (f i : Nat) (g : List Int) (x : List S39) (y : List S82), I x y → ∃ y', I (runP l p f i g x y).1 y' ∧ ((runP l p f i g x y).2.1 = y' ∨ (runP l p f i g x y).2.1 = []) := by
  intro f
  induction f with
  | zero => intro i g x y h; exact ⟨y, h, .inl rfl⟩
  | succ f ih =>
    intro i g x y h
    unfold runP
    by_cases hin : i < p.length
    case neg => rw [if_neg hin]; exact ⟨y, h, .inl rfl⟩
    rw [if_pos hin]
    have h1 := hL i x y hin
    have h2 := hP i x y
    generalize rd_T95 p (i : Int) = s at h1 h2
    simp only
    by_cases k1 : s.f0 = 1
    · simp only [if_pos k1]; exact ih _ _ _ _ (h1 k1 h)
    simp only [if_neg k1]
    by_cases k2 : s.f0 = 2
    · simp only [if_pos k2]; exact ih _ _ _ _ (h2 _ hin k2 h)
    simp only [if_neg k2]
    by_cases k3 : s.f0 = 3
    · simp only [if_pos k3]; exact ih _ _ _ _ h
    simp only [if_neg k3]
    by_cases k4 : s.f0 = 4
    · simp only [if_pos k4]
      by_cases hv : inR (rd g s.f1 + rd g s.f2)
      · simp only [if_pos hv]; exact ih _ _ _ _ h
      · simp only [if_neg hv]; exact ⟨y, h, .inr trivial⟩
    simp only [if_neg k4]
    by_cases k5 : s.f0 = 5
    · simp only [if_pos k5]
      by_cases hv : inR (rd g s.f1 - rd g s.f2)
      · simp only [if_pos hv]; exact ih _ _ _ _ h
      · simp only [if_neg hv]; exact ⟨y, h, .inr trivial⟩
    simp only [if_neg k5]
    by_cases k6 : s.f0 = 6
    · simp only [if_pos k6]; exact ih _ _ _ _ h
    simp only [if_neg k6]
    exact ⟨y, h, .inr trivial⟩
theorem look_pre (l : List S37) (x : List S39) (y : List S82) (b : Int) : ∃ z, (look l x y b).2 = x ++ z := by
  unfold look
  by_cases c : 0 ≤ atP b y 0
  · rw [if_pos c]; exact ⟨[], by simp⟩
  · rw [if_neg c]
    by_cases d : 0 ≤ atR b x 0
    · simp only [if_pos d]; exact ⟨[], by simp⟩
    · simp only [if_neg d]; exact ⟨_, rfl⟩
/-- What was looked into stays. -/
theorem runP_pre (l : List S37) (p : List S95) (f i : Nat) (g : List Int) (x : List S39) (y : List S82) : ∃ z, (runP l p f i g x y).1 = x ++ z := by
  obtain ⟨_, h, _⟩ := runP_inv l p (fun x' _ => ∃ z, x' = x ++ z) (fun j x' y' _ _ ⟨z, hz⟩ => by
    obtain ⟨u, hu⟩ := look_pre l x' y' (rd_T95 p (j : Int)).f2
    exact ⟨z ++ u, by rw [hu, hz, List.append_assoc]⟩) (fun _ _ _ _ _ _ h => h) f i g x y ⟨[], by simp⟩
  exact h
/-- Whoever was looked into, a load names it. -/
theorem runP_keys (l : List S37) (p : List S95) (f i : Nat) (g : List Int) (y : List S82) : ∀ r ∈ (runP l p f i g [] y).1, ∃ j : Nat, j < p.length ∧ (rd_T95 p (j : Int)).f0 = 1 ∧ (rd_T95 p (j : Int)).f2 = r.f0 := by
  obtain ⟨_, h, _⟩ := runP_inv l p (fun x' _ => ∀ r ∈ x', ∃ j : Nat, j < p.length ∧ (rd_T95 p (j : Int)).f0 = 1 ∧ (rd_T95 p (j : Int)).f2 = r.f0) (fun j x' y' hj h1 h => by
    unfold look
    by_cases c : 0 ≤ atP (rd_T95 p (j : Int)).f2 y' 0
    · rw [if_pos c]; exact h
    · rw [if_neg c]
      by_cases d : 0 ≤ atR (rd_T95 p (j : Int)).f2 x' 0
      · simp only [if_pos d]; exact h
      · simp only [if_neg d]
        intro r hr
        rcases List.mem_append.1 hr with h2 | h2
        · exact h r h2
        · rw [List.mem_singleton.1 h2]; exact ⟨j, hj, h1, rfl⟩) (fun _ _ _ _ _ _ h => h) f i g [] y (by simp)
  exact h
theorem putP_keys {y : List S82} {b v : Int} : ∀ q ∈ putP y b v, q.f0 = b ∨ ∃ q' ∈ y, q'.f0 = q.f0 := by
  unfold putP
  by_cases c : 0 ≤ atP b y 0
  · rw [if_pos c]
    obtain ⟨j, hj, e, g⟩ := atP_some c
    intro q hq
    rcases List.mem_or_eq_of_mem_set hq with h1 | h1
    · exact .inr ⟨q, h1, rfl⟩
    · left; rw [h1]; simp only; rw [e, rdi_Put hj, g]
  · rw [if_neg c]
    intro q hq
    rcases List.mem_append.1 hq with h1 | h1
    · exact .inr ⟨q, h1, rfl⟩
    · left; rw [List.mem_singleton.1 h1]
/-- Whoever was put into, a put names it. -/
theorem runP_pkeys (l : List S37) (p : List S95) (f i : Nat) (g : List Int) (x : List S39) : ∀ q ∈ (runP l p f i g x []).2.1, ∃ j : Nat, j < p.length ∧ (rd_T95 p (j : Int)).f0 = 2 ∧ (rd_T95 p (j : Int)).f1 = q.f0 := by
  obtain ⟨y', h, hy⟩ := runP_inv l p (fun _ y' => ∀ q ∈ y', ∃ j : Nat, j < p.length ∧ (rd_T95 p (j : Int)).f0 = 2 ∧ (rd_T95 p (j : Int)).f1 = q.f0) (fun _ _ _ _ _ h => h) (fun j x' y' v hj h2 h => by
    intro q hq
    rcases putP_keys q hq with h1 | ⟨q', h1, e⟩
    · exact ⟨j, hj, h2, h1.symm⟩
    · rw [← e]; exact h q' h1) f i g x [] (by simp)
  rcases hy with e | e
  · rw [e]; exact h
  · rw [e]; simp
theorem look_same {l l' : List S37} {x : List S39} {y : List S82} {b : Int} (h : ∀ r ∈ (look l x y b).2, rd_T37 l r.f0 = rd_T37 l' r.f0) : look l' x y b = look l x y b := by
  unfold look at h ⊢
  by_cases c : 0 ≤ atP b y 0
  · rw [if_pos c, if_pos c]
  · rw [if_neg c] at h
    rw [if_neg c, if_neg c]
    by_cases d : 0 ≤ atR b x 0
    · simp only [if_pos d] at h ⊢
      obtain ⟨j, hj, _, e⟩ := atR_some d
      have := h x[j] (List.getElem_mem hj)
      rw [e] at this
      rw [this]
    · simp only [if_neg d] at h ⊢
      have := h ⟨b, (rd_T37 l b).f0⟩ (by simp)
      simp only at this
      rw [this]
/-- A run hangs on nothing but what it looked into. -/
theorem runP_same (l l' : List S37) (p : List S95) : ∀ (f i : Nat) (g : List Int) (x : List S39) (y : List S82), (∀ r ∈ (runP l p f i g x y).1, rd_T37 l r.f0 = rd_T37 l' r.f0) → runP l' p f i g x y = runP l p f i g x y := by
  intro f
  induction f with
  | zero => intro i g x y _; rfl
  | succ f ih =>
    intro i g x y h
    unfold runP at h ⊢
    by_cases hin : i < p.length
    case neg => rw [if_neg hin, if_neg hin]
    rw [if_pos hin] at h
    rw [if_pos hin, if_pos hin]
    generalize rd_T95 p (i : Int) = s at h
    simp only at h ⊢
    by_cases k1 : s.f0 = 1
    · simp only [if_pos k1] at h ⊢
      have e : look l' x y s.f2 = look l x y s.f2 := look_same (fun r hr => by
        obtain ⟨z, hz⟩ := runP_pre l p f (i + 1) (g.set s.f1.toNat (look l x y s.f2).1) (look l x y s.f2).2 y
        exact h r (by rw [hz]; exact List.mem_append_left _ hr))
      rw [e]; exact ih _ _ _ _ h
    simp only [if_neg k1] at h ⊢
    by_cases k2 : s.f0 = 2
    · simp only [if_pos k2] at h ⊢; exact ih _ _ _ _ h
    simp only [if_neg k2] at h ⊢
    by_cases k3 : s.f0 = 3
    · simp only [if_pos k3] at h ⊢; exact ih _ _ _ _ h
    simp only [if_neg k3] at h ⊢
    by_cases k4 : s.f0 = 4
    · simp only [if_pos k4] at h ⊢
      by_cases hv : inR (rd g s.f1 + rd g s.f2)
      · simp only [if_pos hv] at h ⊢; exact ih _ _ _ _ h
      · simp only [if_neg hv]
    simp only [if_neg k4] at h ⊢
    by_cases k5 : s.f0 = 5
    · simp only [if_pos k5] at h ⊢
      by_cases hv : inR (rd g s.f1 - rd g s.f2)
      · simp only [if_pos hv] at h ⊢; exact ih _ _ _ _ h
      · simp only [if_neg hv]
    simp only [if_neg k5] at h ⊢
    by_cases k6 : s.f0 = 6
    · simp only [if_pos k6] at h ⊢; exact ih _ _ _ _ h
    simp only [if_neg k6]
/-- The run on boxes that are the same where it looked. -/
theorem runOf_same {l l' : List S37} {p : List S95} (hl : boxOk l) (hl' : boxOk l') (h : ∀ r ∈ (runOf l p).1, rd_T37 l r.f0 = rd_T37 l' r.f0) : runOf l' p = runOf l p := by
  unfold runOf at h ⊢
  by_cases hp : progOk p
  · rw [if_pos ⟨hl, hp⟩] at h
    rw [if_pos ⟨hl', hp⟩, if_pos ⟨hl, hp⟩]
    exact runP_same l l' p 12 0 _ _ _ h
  · rw [if_neg (fun c => hp c.2), if_neg (fun c => hp c.2)]
theorem mem_pick {p : Int → Bool} {m : Nat} {a : Int} : a ∈ pick p m ↔ (0 ≤ a ∧ a < m) ∧ p a = true := by
  unfold pick
  rw [List.mem_filter]
  constructor
  · rintro ⟨h1, h2⟩
    simp only [List.mem_map, List.mem_range] at h1
    obtain ⟨i, hi, rfl⟩ := h1
    exact ⟨by omega, h2⟩
  · rintro ⟨h1, h2⟩
    refine ⟨?_, h2⟩
    simp only [List.mem_map, List.mem_range]
    exact ⟨a.toNat, by omega, by omega⟩
theorem mem_loads {p : List S95} {b : Int} (h0 : 0 ≤ b) (h3 : b ≤ 3) (h : ∃ j : Nat, j < p.length ∧ (rd_T95 p (j : Int)).f0 = 1 ∧ (rd_T95 p (j : Int)).f2 = b) : b ∈ pick (fun i => p.any (hit 1 i)) 4 := by
  obtain ⟨j, hj, h1, h2⟩ := h
  rw [rdi_Ins hj] at h1 h2
  refine mem_pick.2 ⟨by omega, ?_⟩
  rw [List.any_eq_true]
  exact ⟨p[j], List.getElem_mem hj, by simp [hit, h1, h2]⟩
theorem mem_puts {p : List S95} {b : Int} (h0 : 0 ≤ b) (h3 : b ≤ 3) (h : ∃ j : Nat, j < p.length ∧ (rd_T95 p (j : Int)).f0 = 2 ∧ (rd_T95 p (j : Int)).f1 = b) : b ∈ pick (fun i => p.any (hit 2 i)) 4 := by
  obtain ⟨j, hj, h1, h2⟩ := h
  rw [rdi_Ins hj] at h1 h2
  refine mem_pick.2 ⟨by omega, ?_⟩
  rw [List.any_eq_true]
  exact ⟨p[j], List.getElem_mem hj, by simp [hit, h1, h2]⟩
theorem runOf_reads (l : List S37) (p : List S95) : readsIn (runOf l p).1 ∧ putsIn (runOf l p).2.1 := ⟨(okFrom_iff _ _ _).1 (runOf_ok l p).2.2.2.2.1, (okFrom_iff _ _ _).1 (runOf_ok l p).2.2.2.2.2⟩
theorem runOf_loads (l : List S37) (p : List S95) : ∀ r ∈ (runOf l p).1, r.f0 ∈ pick (fun i => p.any (hit 1 i)) 4 := by
  intro r hr
  have hk := ((runOf_reads l p).1.1 r hr).1
  unfold rKey at hk
  refine mem_loads hk.1 hk.2 ?_
  unfold runOf at hr
  by_cases h : boxOk l ∧ progOk p
  · rw [if_pos h] at hr; exact runP_keys l p 12 0 _ _ r hr
  · rw [if_neg h] at hr; simp at hr
theorem runOf_puts (l : List S37) (p : List S95) : ∀ r ∈ (runOf l p).2.1, r.f0 ∈ pick (fun i => p.any (hit 2 i)) 4 := by
  intro r hr
  have hk := ((runOf_reads l p).2.1 r hr).1
  unfold pKey at hk
  refine mem_puts hk.1 hk.2 ?_
  unfold runOf at hr
  by_cases h : boxOk l ∧ progOk p
  · rw [if_pos h] at hr; exact runP_pkeys l p 12 0 _ _ r hr
  · rw [if_neg h] at hr; simp at hr
theorem rdi_Box {l : List S37} {i : Nat} (h : i < l.length) : rd_T37 l (i : Int) = l[i] := by
  unfold rd_T37
  rw [Int.toNat_natCast, List.getD_eq_getElem?_getD, List.getElem?_eq_getElem h]
  rfl

theorem sameBox_ev (x y : List S37) (hn : x.length ≤ 9223372036854775807) : ∃ v, Ev (fun k => impl_same_impl_Box.f k x y) v ∧ (v = true ↔ x = y) := by
  classical
  by_cases hl : x.length = y.length
  · have key := ev_loop x.length (fun i k => impl_same_impl_Box.l0 k x y (x.length : Int) (i : Int)) (fun i => decide (x.drop i = y.drop i)) (fun i hi ih => by
      refine Ev.step (fun k => by rw [impl_same_impl_Box.l0]) ?_
      refine ev_pos (lt_cast hi) (ev_pos (nn_cast i) (ev_pos (lt_cast hi) (ev_pos (lt_cast (hl ▸ hi)) ?_)))
      rw [rdi_Box hi, rdi_Box (hl ▸ hi), wrap_succ hi hn]
      simp only [drop_eq hl hi]
      by_cases h1 : x[i] = y[i]'(hl ▸ hi)
      · simp only [h1, true_and]
        exact ev_neg (by simp) ih
      · simp only [h1, false_and, decide_false]
        refine ev_pos ?_ (ev_now _)
        generalize x[i] = a at h1 ⊢
        generalize y[i]'(hl ▸ hi) = b at h1 ⊢
        obtain ⟨a0_, a1_⟩ := a; obtain ⟨b0_, b1_⟩ := b
        simp only [S37.mk.injEq, not_and] at h1
        simp
        omega) (by
      refine Ev.step (fun k => by rw [impl_same_impl_Box.l0]) ?_
      refine ev_neg (by omega) ?_
      rw [List.drop_length, hl, List.drop_length]
      simp only [decide_true]
      exact ev_now _) 0 (Nat.zero_le _)
    exact ⟨_, Ev.congr (fun k => by unfold impl_same_impl_Box.f; exact if_pos (by omega)) key, by simp⟩
  · refine ⟨false, ?_, by simp; exact fun h => hl (by rw [h])⟩
    unfold impl_same_impl_Box.f
    exact ev_neg (by omega) (ev_now _)

/-- The bytes a draw reads, and the numbers it picks. -/
def bytesOk (s : List Int) : Prop := ∀ x ∈ s, 0 ≤ x ∧ x ≤ 255
theorem rd_byte {s : List Int} (h : bytesOk s) (i : Int) : 0 ≤ rd s i ∧ rd s i ≤ 255 := by
  unfold rd
  rw [List.getD_eq_getElem?_getD]
  cases e : s[i.toNat]? with
  | none => simp
  | some x => exact h x (List.mem_of_getElem? e)
theorem xor_nn (a b : Int) (ha : 0 ≤ a) (ha2 : a < 4611686018427387904) (hb : 0 ≤ b) (hb2 : b < 4611686018427387904) : 0 ≤ Go.bits .xor .i64 a b := by
  obtain ⟨m, rfl⟩ := Int.eq_ofNat_of_zero_le ha
  obtain ⟨n, rfl⟩ := Int.eq_ofNat_of_zero_le hb
  have hm : m < 2 ^ 62 := by omega
  have hn : n < 2 ^ 62 := by omega
  have hx := Nat.xor_lt_two_pow hm hn
  have h1 : m % 2 ^ 64 = m := by omega
  have h2 : n % 2 ^ 64 = n := by omega
  have e : (BitVec.ofNat 64 m ^^^ BitVec.ofNat 64 n).toNat = m ^^^ n := by rw [BitVec.toNat_xor, BitVec.toNat_ofNat, BitVec.toNat_ofNat, h1, h2]
  have e2 : Go.bits .xor .i64 (m : Int) (n : Int) = IntKind.i64.wrap (((BitVec.ofInt 64 (m : Int) ^^^ BitVec.ofInt 64 (n : Int)).toNat : Nat) : Int) := rfl
  rw [e2, BitVec.ofInt_natCast, BitVec.ofInt_natCast, e, IntKind.wrap_i64]
  omega
theorem tmod_in {a n : Int} (ha : 0 ≤ a) (hn : 1 ≤ n) : 0 ≤ Int.tmod a n ∧ Int.tmod a n < n := ⟨Int.tmod_nonneg _ ha, Int.tmod_lt_of_pos _ (by omega)⟩
theorem tdiv_in {a n : Int} (ha : 0 ≤ a) (hn : 1 ≤ n) : 0 ≤ Int.tdiv a n ∧ Int.tdiv a n ≤ a := by
  rw [Int.tdiv_eq_ediv_of_nonneg ha]
  exact ⟨Int.ediv_nonneg ha (by omega), Int.ediv_le_self _ ha⟩
theorem pick_ev {s : List Int} (hs : bytesOk s) (p n : Int) (hp : 0 ≤ p) (hp2 : p ≤ 1000000000000) (hl : s.length ≤ 9223372036854775807) :
    ∃ v, Ev (fun k => spec_l15Rd_pick.f k s p n) (v, p + 1) ∧ 0 ≤ v ∧ (1 ≤ n → v < n) := by
  have wp : wrap64 (p + 1) = p + 1 := wrap_id (by omega) (by omega)
  have wq : wrap64 ((p + 1) - 1) = p := by rw [Int.add_sub_cancel]; exact wrap_id (by omega) (by omega)
  unfold spec_l15Rd_pick.f
  rw [wp]
  by_cases h1 : n < 1
  · refine ⟨0, ev_pos h1 (Ev.step (fun k => by rw [spec_l15Rd_pick.j0]) ?_), by omega, by omega⟩
    exact ev_pos rfl (ev_now _)
  by_cases h2 : s.length = 0
  · refine ⟨0, ev_neg h1 (Ev.step (fun k => by rw [spec_l15Rd_pick.j0]) ?_), by omega, by omega⟩
    exact ev_pos (by simp [h2]) (ev_now _)
  have hf : ¬ (((s.length : Int) == 0) = true) := by simp; intro h; exact h2 (by rw [h]; rfl)
  by_cases h3 : p < s.length
  · have hb := rd_byte hs p
    have wv : wrap64 (rd s p) = rd s p := wrap_id (by omega) (by omega)
    have ht := tmod_in (a := rd s p) (n := n) hb.1 (by omega)
    refine ⟨Int.tmod (rd s p) n, ev_neg h1 (Ev.step (fun k => by rw [spec_l15Rd_pick.j0]) ?_), ht.1, fun _ => ht.2⟩
    rw [wq, wv]
    exact ev_neg hf (ev_pos h3 (ev_pos hp (ev_neg (by omega) (ev_now _))))
  have q1 := tmod_in (a := p) (n := s.length) hp (by omega)
  have w7 : wrap64 (p * 7) = p * 7 := wrap_id (by omega) (by omega)
  have w8 : wrap64 (p * 7 + 3) = p * 7 + 3 := wrap_id (by omega) (by omega)
  have q2 := tmod_in (a := p * 7 + 3) (n := s.length) (by omega) (by omega)
  have b1 := rd_byte hs (Int.tmod p s.length)
  have b2 := rd_byte hs (Int.tmod (p * 7 + 3) s.length)
  have d1 := tdiv_in (a := p) (n := s.length) hp (by omega)
  generalize hx : rd s (Int.tmod p s.length) = x at b1
  generalize hy : rd s (Int.tmod (p * 7 + 3) s.length) = y at b2
  generalize hd : Int.tdiv p s.length = d at d1
  have v1 : wrap64 x = x := wrap_id (by omega) (by omega)
  have v2 : wrap64 (x * 131) = x * 131 := wrap_id (by omega) (by omega)
  have v3 : wrap64 y = y := wrap_id (by omega) (by omega)
  have v4 : wrap64 (y * 1117) = y * 1117 := wrap_id (by omega) (by omega)
  have v5 : wrap64 (x * 131 + y * 1117) = x * 131 + y * 1117 := wrap_id (by omega) (by omega)
  have v6 : wrap64 (p * 29) = p * 29 := wrap_id (by omega) (by omega)
  have v7 : wrap64 (x * 131 + y * 1117 + p * 29) = x * 131 + y * 1117 + p * 29 := wrap_id (by omega) (by omega)
  have v8 : wrap64 d = d := wrap_id (by omega) (by omega)
  have v9 : wrap64 (d * 53) = d * 53 := wrap_id (by omega) (by omega)
  have v10 : wrap64 (x * 131 + y * 1117 + p * 29 + d * 53) = x * 131 + y * 1117 + p * 29 + d * 53 := wrap_id (by omega) (by omega)
  generalize hz : x * 131 + y * 1117 + p * 29 + d * 53 = z at v10
  have z0 : 0 ≤ z := by omega
  have z1 : z < 4611686018427387904 := by omega
  have d2 := tdiv_in (a := z) (n := 64) z0 (by omega)
  have v11 : wrap64 (Int.tdiv z 64) = Int.tdiv z 64 := wrap_id (by omega) (by omega)
  have hxo := xor_nn z (Int.tdiv z 64) z0 z1 d2.1 (by omega)
  have ht := tmod_in (a := Go.bits .xor .i64 z (Int.tdiv z 64)) (n := n) hxo (by omega)
  refine ⟨Int.tmod (Go.bits .xor .i64 z (Int.tdiv z 64)) n, ev_neg h1 (Ev.step (fun k => by rw [spec_l15Rd_pick.j0]) ?_), ht.1, fun _ => ht.2⟩
  rw [wq, w7, w8, hx, hy, hd, v1, v2, v3, v4, v5, v6, v7, v8, v9, hz, v10, v11]
  exact ev_neg hf (ev_neg h3 (ev_neg (by omega) (ev_pos q1.1 (ev_pos q1.2 (ev_pos q2.1 (ev_pos q2.2 (ev_neg (by omega) (ev_now _))))))))
theorem open_some (l : List Int) (hl : bytesOk l) : ∃ s, spec_l15Open.f l = some (s, 0) ∧ bytesOk s ∧ s.length ≤ 2000 := by
  unfold spec_l15Open.f
  by_cases h : (l.length : Int) > 2000
  · refine ⟨l.take 2000, by rw [if_pos h, if_pos (by omega)], fun x hx => hl x (List.mem_of_mem_take hx), by rw [List.length_take]; omega⟩
  · exact ⟨l, by rw [if_neg h], hl, by omega⟩
theorem bytes_wf {l : List Int} (h : ∀ x ∈ l, (Lit.int .u8 x).wf = true) : bytesOk l := by
  intro x hx
  have := h x hx
  simp [Lit.wf, IntKind.min, IntKind.max, IntKind.bits, IntKind.signed] at this
  omega

/-- What comes of a reckoning, told by a property. -/
def Dr {α : Type} (F : Nat → Option α) (Q : α → Prop) : Prop := ∃ v, Ev F v ∧ Q v
theorem Dr.bind {α β : Type} {F : Nat → Option α} {G : Nat → α → Option β} {Q : α → Prop} {R : β → Prop} (h : Dr F Q) (k : ∀ v, Q v → Dr (fun n => G n v) R) : Dr (fun n => (F n).bind (G n)) R := by
  obtain ⟨v, hv, q⟩ := h
  obtain ⟨u, hu, r⟩ := k v q
  exact ⟨u, hv.bind hu, r⟩
theorem Dr.now {α : Type} {R : α → Prop} {v : α} (h : R v) : Dr (fun _ => some v) R := ⟨v, ev_now v, h⟩
theorem Dr.pos {α : Type} {c : Prop} [Decidable c] {f g : Nat → Option α} {R : α → Prop} (h : c) (d : Dr f R) : Dr (fun k => if c then f k else g k) R := by
  obtain ⟨v, hv, q⟩ := d; exact ⟨v, ev_pos h hv, q⟩
theorem Dr.neg {α : Type} {c : Prop} [Decidable c] {f g : Nat → Option α} {R : α → Prop} (h : ¬ c) (d : Dr g R) : Dr (fun k => if c then f k else g k) R := by
  obtain ⟨v, hv, q⟩ := d; exact ⟨v, ev_neg h hv, q⟩
theorem Dr.ite {α : Type} {c : Prop} [Decidable c] {f g : Nat → Option α} {R : α → Prop} (h1 : c → Dr f R) (h2 : ¬ c → Dr g R) : Dr (fun k => if c then f k else g k) R := by
  by_cases h : c
  · exact Dr.pos h (h1 h)
  · exact Dr.neg h (h2 h)
theorem Dr.mono {α : Type} {F : Nat → Option α} {Q R : α → Prop} (h : Dr F Q) (k : ∀ v, Q v → R v) : Dr F R := by
  obtain ⟨v, hv, q⟩ := h; exact ⟨v, hv, k v q⟩
theorem Dr.step {α : Type} {F G : Nat → Option α} {R : α → Prop} (h : ∀ k, F (k + 1) = G k) (d : Dr G R) : Dr F R := by
  obtain ⟨v, hv, q⟩ := d; exact ⟨v, Ev.step h hv, q⟩
theorem Dr.of {α : Type} {g : Option α} {a : α} {R : α → Prop} (h : g = some a) (r : R a) : Dr (fun _ => g) R := ⟨a, ev_const h, r⟩
theorem pick_dr {s : List Int} (hs : bytesOk s) (p n : Int) (hp : 0 ≤ p) (hp2 : p ≤ 1000000000000) (hl : s.length ≤ 9223372036854775807) :
    Dr (fun k => spec_l15Rd_pick.f k s p n) (fun r => 0 ≤ r.1 ∧ (1 ≤ n → r.1 < n) ∧ r.2 = p + 1) := by
  obtain ⟨v, hv, h0, h1⟩ := pick_ev hs p n hp hp2 hl
  exact ⟨_, hv, h0, h1, rfl⟩

theorem num_ev {s : List Int} (hs : bytesOk s) (p : Int) (l : List Int) (hp : 0 ≤ p) (hp2 : p ≤ 1000000000000) (hl : s.length ≤ 9223372036854775807) (h0 : 0 < l.length) (h1 : l.length ≤ 1000000) :
    ∃ v, Ev (fun k => spec_l15Rd_num.f k s p l) (v, p + 1) ∧ v ∈ l := by
  obtain ⟨i, hi, i0, i1⟩ := pick_ev hs p l.length hp hp2 hl
  obtain ⟨j, rfl⟩ := Int.eq_ofNat_of_zero_le i0
  have hj : j < l.length := by have := i1 (by omega); omega
  refine ⟨l[j], ?_, List.getElem_mem hj⟩
  unfold spec_l15Rd_num.f
  refine hi.bind (ev_pos i0 (ev_pos (lt_cast hj) ?_))
  rw [rd_i hj]
  exact ev_now _

theorem num_dr {s : List Int} (hs : bytesOk s) (p : Int) (l : List Int) (hp : 0 ≤ p) (hp2 : p ≤ 1000000000000) (hl : s.length ≤ 9223372036854775807) (h0 : 0 < l.length) (h1 : l.length ≤ 1000000) :
    Dr (fun k => spec_l15Rd_num.f k s p l) (fun r => r.1 ∈ l ∧ r.2 = p + 1) := by
  obtain ⟨v, hv, h⟩ := num_ev hs p l hp hp2 hl h0 h1
  exact ⟨_, hv, h, rfl⟩

def insSmall (b : S95) : Prop := -2000000 ≤ b.f0 ∧ b.f0 ≤ 2000000 ∧ -2000000 ≤ b.f1 ∧ b.f1 ≤ 2000000 ∧ -2000000 ≤ b.f2 ∧ b.f2 ≤ 2000000 ∧ -2000000 ≤ b.f3 ∧ b.f3 ≤ 2000000
theorem l2Any_dr {s : List Int} (hs : bytesOk s) (p : Int) (hp : 0 ≤ p) (hp2 : p ≤ 100000000000) (hl : s.length ≤ 9223372036854775807) :
    Dr (fun k => spec_l2Any.f k s p) (fun r => insSmall ⟨r.1, r.2.1, r.2.2.1, r.2.2.2.1⟩ ∧ p ≤ r.2.2.2.2 ∧ r.2.2.2.2 ≤ p + 6) := by
  unfold spec_l2Any.f
  refine (num_dr hs p _ hp (by omega) hl (by simp) (by simp)).bind fun r1 h1 => ?_
  obtain ⟨h1, e1⟩ := h1
  simp only [List.mem_cons, List.not_mem_nil, or_false] at h1
  refine (pick_dr hs r1.2 _ (by omega) (by omega) hl).bind fun r2 h2 => ?_
  refine (pick_dr hs r2.2 _ (by omega) (by omega) hl).bind fun r3 h3 => ?_
  refine Dr.ite (fun c => ?_) (fun c => Dr.ite (fun d => ?_) (fun d => Dr.ite (fun e => ?_) (fun e => ?_)))
  · refine (num_dr hs r3.2 _ (by omega) (by omega) hl (by simp) (by simp)).bind fun r4 h4 => Dr.now ?_
    obtain ⟨h4, e4⟩ := h4
    simp only [List.mem_cons, List.not_mem_nil, or_false] at h4
    unfold insSmall; simp only; omega
  · refine (pick_dr hs r3.2 _ (by omega) (by omega) hl).bind fun r4 h4 => Dr.now ?_
    have : wrap64 (1 + r4.1) = 1 + r4.1 := wrap_id (by omega) (by omega)
    unfold insSmall; simp only [this]; omega
  · refine (pick_dr hs r3.2 _ (by omega) (by omega) hl).bind fun r4 h4 => Dr.ite (fun f => ?_) (fun f => Dr.now ?_)
    · refine (pick_dr hs r4.2 _ (by omega) (by omega) hl).bind fun r5 h5 => ?_
      refine (pick_dr hs r5.2 _ (by omega) (by omega) hl).bind fun r6 h6 => Dr.now ?_
      unfold insSmall; simp only; omega
    · unfold insSmall; simp only; omega
  · refine Dr.now ?_
    unfold insSmall; simp only; omega
theorem l2Prog_l0 {s : List Int} (hs : bytesOk s) (hl : s.length ≤ 9223372036854775807) : ∀ (d : Nat) (l : List S95) (p : Int), d ≤ 100 → l.length + d ≤ 1000 → (∀ b ∈ l, insSmall b) → 0 ≤ p → p + 6 * d ≤ 90000000000 →
    Dr (fun k => spec_l2Prog.l0 k l d s p) (fun r => r.1.length = l.length + d ∧ (∀ b ∈ r.1, insSmall b) ∧ p ≤ r.2 ∧ r.2 ≤ p + 6 * d) := by
  intro d
  induction d with
  | zero =>
    intro l p _ _ hb _ _
    refine Dr.step (fun k => by rw [spec_l2Prog.l0]) ?_
    exact Dr.neg (by omega) (Dr.now ⟨by simp, hb, by simp, by simp⟩)
  | succ d ih =>
    intro l p hd hn hb h0 h1
    refine Dr.step (fun k => by rw [spec_l2Prog.l0]) ?_
    refine Dr.pos (by omega) ((l2Any_dr hs p h0 (by omega) hl).bind fun r hr => Dr.pos (by omega) ?_)
    have hw : wrap64 (((d + 1 : Nat) : Int) - 1) = (d : Int) := by
      rw [show ((d + 1 : Nat) : Int) - 1 = (d : Int) by omega]
      exact wrap_id (by omega) (by omega)
    rw [hw]
    refine (ih (l ++ [(⟨r.1, r.2.1, r.2.2.1, r.2.2.2.1⟩ : S95)]) r.2.2.2.2 (by omega) (by simp; omega) ?_ (by omega) (by omega)).mono fun v hv => ⟨by rw [hv.1]; simp; omega, hv.2.1, by omega, by omega⟩
    intro b hb2
    rcases List.mem_append.1 hb2 with h | h
    · exact hb b h
    · rw [List.mem_singleton.1 h]; exact hr.1
theorem l2Prog_dr {s : List Int} (hs : bytesOk s) (p : Int) (hp : 0 ≤ p) (hp2 : p ≤ 10000000000) (hl : s.length ≤ 9223372036854775807) :
    Dr (fun k => spec_l2Prog.f k s p) (fun r => r.1.length ≤ 7 ∧ (∀ b ∈ r.1, insSmall b) ∧ p ≤ r.2 ∧ r.2 ≤ p + 50) := by
  unfold spec_l2Prog.f
  refine (pick_dr hs p _ hp (by omega) hl).bind fun r1 h1 => Dr.ite (fun c => ?_) (fun c => ?_)
  · refine (pick_dr hs r1.2 _ (by omega) (by omega) hl).bind fun r2 h2 => ?_
    refine (pick_dr hs r2.2 _ (by omega) (by omega) hl).bind fun r3 h3 => ?_
    refine (pick_dr hs r3.2 _ (by omega) (by omega) hl).bind fun r4 h4 => Dr.now ?_
    have hw : wrap64 (1 + r4.1) = 1 + r4.1 := wrap_id (by omega) (by omega)
    refine ⟨by simp, ?_, by omega, by omega⟩
    intro b hb
    simp only [List.mem_cons, List.not_mem_nil, or_false, hw] at hb
    rcases hb with rfl | rfl | rfl | rfl <;> (unfold insSmall; simp only; omega)
  · refine (pick_dr hs r1.2 _ (by omega) (by omega) hl).bind fun r2 h2 => ?_
    have h3 := h2.2.1 (by omega)
    obtain ⟨d, hd⟩ := Int.eq_ofNat_of_zero_le h2.1
    rw [hd] at h3 ⊢
    refine (l2Prog_l0 hs hl d [] r2.2 (by omega) (by simp; omega) (by simp) (by omega) (by omega)).mono fun v hv => ⟨by rw [hv.1]; simp; omega, hv.2.1, by omega, by omega⟩
theorem insSmall_rd {l : List S95} (h : ∀ b ∈ l, insSmall b) (i : Int) : insSmall (rd_T95 l i) := by
  unfold rd_T95
  rw [List.getD_eq_getElem?_getD]
  cases e : l[i.toNat]? with
  | none => simp [insSmall, z95]
  | some x => exact h x (List.mem_of_getElem? e)
theorem insSmall_set {l : List S95} {i : Nat} {v : S95} (h : ∀ b ∈ l, insSmall b) (hv : insSmall v) : ∀ b ∈ l.set i v, insSmall b := by
  intro b hb
  rcases List.mem_or_eq_of_mem_set hb with h1 | h1
  · exact h b h1
  · rw [h1]; exact hv
theorem l2Bent_l0 {s : List Int} : ∀ (d : Nat) (l : List S95) (i p : Int), l.length + d = 11 → 0 ≤ i → i < l.length → (∀ b ∈ l, insSmall b) →
    Dr (fun k => spec_l2Bent.l0 k l i s p) (fun r => r.1.length ≤ 11 ∧ (∀ b ∈ r.1, insSmall b) ∧ p ≤ r.2 ∧ r.2 ≤ p) := by
  intro d
  induction d with
  | zero =>
    intro l i p hd _ _ hb
    refine Dr.step (fun k => by rw [spec_l2Bent.l0]) ?_
    exact Dr.neg (by omega) (Dr.now ⟨by simp; omega, hb, by simp, by simp⟩)
  | succ d ih =>
    intro l i p hd h0 h1 hb
    refine Dr.step (fun k => by rw [spec_l2Bent.l0]) ?_
    refine Dr.pos (by omega) (Dr.pos h0 (Dr.pos h1 (Dr.pos (by omega) ?_)))
    refine ih _ i p (by simp; omega) h0 (by simp; omega) ?_
    intro b hb2
    rcases List.mem_append.1 hb2 with h | h
    · exact hb b h
    · rw [List.mem_singleton.1 h]; exact insSmall_rd hb i
theorem l2Bent_dr {s : List Int} (hs : bytesOk s) (p : Int) (hp : 0 ≤ p) (hp2 : p ≤ 1000000000) (hl : s.length ≤ 9223372036854775807) :
    Dr (fun k => spec_l2Bent.f k s p) (fun r => r.1.length ≤ 11 ∧ (∀ b ∈ r.1, insSmall b) ∧ p ≤ r.2 ∧ r.2 ≤ p + 60) := by
  unfold spec_l2Bent.f
  refine (l2Prog_dr hs p hp (by omega) hl).bind fun r1 h1 => Dr.ite (fun c => Dr.now ⟨by simp only; omega, h1.2.1, by simp only; omega, by simp only; omega⟩) (fun c => ?_)
  obtain ⟨n1, b1, p1, p2⟩ := h1
  refine (pick_dr hs r1.2 _ (by omega) (by omega) hl).bind fun r2 h2 => ?_
  have i2 := h2.2.1 (by omega)
  have sm := insSmall_rd b1 r2.1
  unfold insSmall at sm
  refine (pick_dr hs r2.2 _ (by omega) (by omega) hl).bind fun r3 h3 => Dr.ite (fun d => ?_) (fun d => Dr.ite (fun e => ?_) (fun e => Dr.ite (fun f => ?_) (fun f => Dr.ite (fun g => ?_) (fun g => Dr.now ⟨by simp only; omega, b1, by simp only; omega, by simp only; omega⟩))))
  · refine (num_dr hs r3.2 _ (by omega) (by omega) hl (by simp) (by simp)).bind fun r4 h4 => Dr.pos h2.1 (Dr.pos i2 (Dr.now ?_))
    obtain ⟨h4, e4⟩ := h4
    simp only [List.mem_cons, List.not_mem_nil, or_false] at h4
    refine ⟨by simp; omega, insSmall_set b1 ?_, by simp only; omega, by simp only; omega⟩
    unfold insSmall; simp only; omega
  · refine (num_dr hs r3.2 _ (by omega) (by omega) hl (by simp) (by simp)).bind fun r4 h4 => Dr.pos h2.1 (Dr.pos i2 (Dr.now ?_))
    obtain ⟨h4, e4⟩ := h4
    simp only [List.mem_cons, List.not_mem_nil, or_false] at h4
    refine ⟨by simp; omega, insSmall_set b1 ?_, by simp only; omega, by simp only; omega⟩
    unfold insSmall; simp only; omega
  · refine (num_dr hs r3.2 _ (by omega) (by omega) hl (by simp) (by simp)).bind fun r4 h4 => Dr.pos h2.1 (Dr.pos i2 (Dr.now ?_))
    obtain ⟨h4, e4⟩ := h4
    simp only [List.mem_cons, List.not_mem_nil, or_false] at h4
    refine ⟨by simp; omega, insSmall_set b1 ?_, by simp only; omega, by simp only; omega⟩
    unfold insSmall; simp only; omega
  · exact (l2Bent_l0 (11 - r1.1.length) r1.1 r2.1 r3.2 (by omega) h2.1 i2 b1).mono fun v hv => ⟨hv.1, hv.2.1, by omega, by omega⟩

def boxSmall (b : S37) : Prop := -2000000 ≤ b.f0 ∧ b.f0 ≤ 2000000 ∧ -2000000 ≤ b.f1 ∧ b.f1 ≤ 2000000
theorem set_all {α : Type} {q : α → Prop} {l : List α} {i : Nat} {v : α} (h : ∀ b ∈ l, q b) (hv : q v) : ∀ b ∈ l.set i v, q b := by
  intro b hb
  rcases List.mem_or_eq_of_mem_set hb with h1 | h1
  · exact h b h1
  · rw [h1]; exact hv
theorem rd_boxSmall {l : List S37} (h : ∀ b ∈ l, boxSmall b) (i : Int) : boxSmall (rd_T37 l i) := by
  unfold rd_T37
  rw [List.getD_eq_getElem?_getD]
  cases e : l[i.toNat]? with
  | none => simp [boxSmall, z37]
  | some x => exact h x (List.mem_of_getElem? e)
theorem l1Boxes_ev {s : List Int} (hs : bytesOk s) (p : Int) (hp : 0 ≤ p) (hp2 : p ≤ 100000000000) (hl : s.length ≤ 9223372036854775807) :
    ∃ l q, Ev (fun k => spec_l1Boxes.f k s p) (l, q) ∧ p ≤ q ∧ q ≤ p + 20 ∧ l.length ≤ 4 ∧ ∀ b ∈ l, boxSmall b := by
  have key : ∀ d (i : Nat) (l : List S37) (p : Int), i + d = 4 → l.length = 4 → (∀ b ∈ l, boxSmall b) → 0 ≤ p → p + 2 * d ≤ 200000000000 → ∃ m q, Ev (fun k => spec_l1Boxes.l0 k l (i : Int) s p) (m, q) ∧ p ≤ q ∧ q ≤ p + 2 * d + 3 ∧ m.length ≤ 4 ∧ ∀ b ∈ m, boxSmall b := by
    intro d
    induction d with
    | zero =>
      intro i l p hi hl4 hb h0 h1
      obtain rfl : i = 4 := by omega
      obtain ⟨v, hv, _, _⟩ := pick_ev hs p 30 h0 (by omega) hl
      by_cases v0 : v = 0
      · refine ⟨l.take 3, p + 1, ?_, by omega, by omega, by rw [List.length_take]; omega, fun b h => hb b (List.mem_of_mem_take h)⟩
        refine Ev.step (fun k => by rw [spec_l1Boxes.l0]) ?_
        refine ev_neg (by omega) (hv.bind ?_)
        refine ev_pos v0 ?_
        exact ev_pos (by omega) (ev_now _)
      obtain ⟨i, hi, i0, i1⟩ := pick_ev hs (p + 1) 4 (by omega) (by omega) hl
      have i2 := i1 (by omega)
      by_cases v1 : v = 1
      · obtain ⟨u, hu, hm⟩ := num_ev hs (p + 1 + 1) [(-1), 1000001] (by omega) (by omega) hl (by simp) (by simp)
        refine ⟨l.set i.toNat ⟨u, (rd_T37 l i).f1⟩, p + 1 + 1 + 1, ?_, by omega, by omega, by rw [List.length_set]; omega, ?_⟩
        · refine Ev.step (fun k => by rw [spec_l1Boxes.l0]) ?_
          refine ev_neg (by omega) (hv.bind ?_)
          refine ev_neg v0 ?_
          refine ev_pos v1 (hi.bind (hu.bind ?_))
          exact ev_pos i0 (ev_pos (by omega) (ev_now _))
        refine set_all hb ?_
        have := rd_boxSmall hb i
        simp only [List.mem_cons, List.not_mem_nil, or_false] at hm
        unfold boxSmall at this ⊢
        simp only
        omega
      by_cases v2 : v = 2
      · obtain ⟨u, hu, hm⟩ := num_ev hs (p + 1 + 1) [1000001, (-1000001)] (by omega) (by omega) hl (by simp) (by simp)
        refine ⟨l.set i.toNat ⟨(rd_T37 l i).f0, u⟩, p + 1 + 1 + 1, ?_, by omega, by omega, by rw [List.length_set]; omega, ?_⟩
        · refine Ev.step (fun k => by rw [spec_l1Boxes.l0]) ?_
          refine ev_neg (by omega) (hv.bind ?_)
          refine ev_neg v0 ?_
          refine ev_neg v1 ?_
          refine ev_pos v2 (hi.bind (hu.bind ?_))
          exact ev_pos i0 (ev_pos (by omega) (ev_now _))
        refine set_all hb ?_
        have := rd_boxSmall hb i
        simp only [List.mem_cons, List.not_mem_nil, or_false] at hm
        unfold boxSmall at this ⊢
        simp only
        omega
      refine ⟨l, p + 1, ?_, by omega, by omega, by omega, hb⟩
      refine Ev.step (fun k => by rw [spec_l1Boxes.l0]) ?_
      refine ev_neg (by omega) (hv.bind ?_)
      refine ev_neg v0 ?_
      refine ev_neg v1 ?_
      exact ev_neg v2 (ev_now _)
    | succ d ih =>
      intro i l p hi hl4 hb h0 h1
      obtain ⟨v, hv, hv0, hv1⟩ := pick_ev hs p 5 h0 (by omega) hl
      have hv2 := hv1 (by omega)
      obtain ⟨u, hu, hm⟩ := num_ev hs (p + 1) [0, 1, 2, 5, (-3), 7, 100, 1000000, (-1000000)] (by omega) (by omega) hl (by simp) (by simp)
      have hsm : boxSmall (⟨v, u⟩ : S37) := by
        simp only [List.mem_cons, List.not_mem_nil, or_false] at hm
        unfold boxSmall
        simp only
        omega
      obtain ⟨m, q, hq, q1, q2, q3, q4⟩ := ih (i + 1) (l.set (i : Int).toNat ⟨v, u⟩) (p + 1 + 1) (by omega) (by rw [List.length_set]; exact hl4) (set_all hb hsm) (by omega) (by omega)
      refine ⟨m, q, ?_, by omega, by omega, q3, q4⟩
      refine Ev.step (fun k => by rw [spec_l1Boxes.l0]) ?_
      refine ev_pos (by omega) (hv.bind (hu.bind (ev_pos (by omega) ?_)))
      rw [wrap_succ (n := 4) (by omega) (by omega)]
      exact hq
  obtain ⟨m, q, hq, q1, q2, q3, q4⟩ := key 4 0 (List.replicate 4 z37) p (by omega) (by simp) (by intro b hb; rw [List.eq_of_mem_replicate hb]; simp [boxSmall, z37]) hp (by omega)
  refine ⟨m, q, ?_, q1, by omega, q3, q4⟩
  unfold spec_l1Boxes.f
  refine ev_get (a := List.replicate 4 z37) ?_ hq
  unfold spec_BoxOpen.f
  exact if_pos (by omega)

theorem DrawSerialFree_dr (l : List Int) (hl : bytesOk l) : Dr (fun k => spec_DrawSerialFree.f k l) (fun m => m.1.length ≤ 11 ∧ m.2.length ≤ 11) := by
  obtain ⟨s, hs, hb, hn⟩ := open_some l hl
  unfold spec_DrawSerialFree.f
  refine (Dr.of hs (R := fun r => r = (s, 0)) rfl).bind fun v hv => ?_
  subst hv
  refine (l2Bent_dr hb 0 (by omega) (by omega) (by omega)).bind fun r hr => ?_
  refine (l2Bent_dr hb r.2 (by omega) (by omega) (by omega)).bind fun q hq => Dr.now ⟨hr.1, hq.1⟩
theorem DrawSerialAll_dr (l : List Int) (hl : bytesOk l) : Dr (fun k => spec_DrawSerialAll.f k l) (fun m => m.1.length ≤ 4 ∧ m.2.length ≤ 10 ∧ ∀ p ∈ m.2, p.length ≤ 11) := by
  obtain ⟨s, hs, hb, hn⟩ := open_some l hl
  have key : ∀ (d : Nat) (x : List S37) (o : List (List S95)) (p : Int), x.length ≤ 4 → o.length + d ≤ 6 → (∀ q ∈ o, q.length ≤ 11) → 0 ≤ p → p + 100 * d ≤ 1000000 →
      Dr (fun k => spec_DrawSerialAll.l0 k x o (d : Int) s p) (fun m => m.1.length ≤ 4 ∧ m.2.length ≤ 10 ∧ ∀ p ∈ m.2, p.length ≤ 11) := by
    intro d
    induction d with
    | zero =>
      intro x o p hx ho hq p0 p1
      refine Dr.step (fun k => by rw [spec_DrawSerialAll.l0]) (Dr.neg (by omega) ?_)
      refine (pick_dr hb p 12 (by omega) (by omega) (by omega)).bind fun r1 h1 => Dr.ite (fun _ => ?_) (fun _ => Dr.now ⟨hx, by simp only; omega, hq⟩)
      refine (l2Bent_dr hb r1.2 (by omega) (by omega) (by omega)).bind fun r2 h2 => Dr.pos (by omega) (Dr.now ⟨hx, by simp only [List.length_append, List.length_singleton]; omega, fun q hm => ?_⟩)
      rcases List.mem_append.1 hm with h | h
      · exact hq q h
      · rw [List.mem_singleton.1 h]; exact h2.1
    | succ d ih =>
      intro x o p hx ho hq p0 p1
      have hw : wrap64 (((d + 1 : Nat) : Int) - 1) = (d : Int) := by rw [wrap_id (by omega) (by omega)]; omega
      refine Dr.step (fun k => by rw [spec_DrawSerialAll.l0]) (Dr.pos (by omega) ?_)
      rw [hw]
      refine (l2Prog_dr hb p (by omega) (by omega) (by omega)).bind fun r1 h1 => Dr.pos (by omega) ?_
      refine ih x _ _ hx (by rw [List.length_append, List.length_singleton]; omega) (fun q hm => ?_) (by omega) (by omega)
      rcases List.mem_append.1 hm with h | h
      · exact hq q h
      · rw [List.mem_singleton.1 h]; omega
  unfold spec_DrawSerialAll.f
  refine (Dr.of hs (R := fun r => r = (s, 0)) rfl).bind fun v hv => ?_
  subst hv
  obtain ⟨m, q, hq, q0, q20, h4, _⟩ := l1Boxes_ev hb 0 (by omega) (by omega) (by omega)
  refine Dr.bind (Q := fun r => r = (m, q)) ⟨_, hq, rfl⟩ fun r hr => ?_
  subst hr
  refine (pick_dr hb q 6 (by omega) (by omega) (by omega)).bind fun r1 h1 => ?_
  have hd : r1.1 = ((r1.1.toNat : Nat) : Int) := by omega
  rw [hd]
  exact key r1.1.toNat m [] r1.2 h4 (by simp; omega) (by simp) (by omega) (by omega)
theorem free_comm (p q : List S95) : freeP p q ↔ freeP q p := by
  unfold freeP
  rw [meet_comm (putsOf p) (putsOf q), meet_comm (putsOf p) (loadsOf q), meet_comm (loadsOf p) (putsOf q)]
  constructor <;> (rintro ⟨a, b, c, d, e⟩; exact ⟨b, a, c, e, d⟩)
theorem runP_ne3 (l : List S37) (p : List S95) : ∀ (f i : Nat) (g : List Int) (x : List S39) (y : List S82), (runP l p f i g x y).2.2.2 ≠ 3 := by
  intro f
  induction f with
  | zero => intro i g x y; unfold runP; simp
  | succ f ih =>
    intro i g x y
    unfold runP
    simp only
    repeat' split
    all_goals first | exact ih _ _ _ _ | simp
theorem box_eq {x y : List S37} (hx : x.length = 4) (hy : y.length = 4) (h : ∀ b : Int, 0 ≤ b → b ≤ 3 → rd_T37 x b = rd_T37 y b) : x = y := by
  refine List.ext_getElem (by omega) (fun i h1 h2 => ?_)
  have := h (i : Int) (by omega) (by omega)
  rw [rd_box h1, rd_box h2] at this
  exact this
theorem puts_comm {l : List S37} {a b : List S82} (hl : l.length = 4) (ha : putsIn a) (hb : putsIn b) (h : ∀ p ∈ a, ∀ q ∈ b, p.f0 ≠ q.f0) : b.foldl put1 (a.foldl put1 l) = a.foldl put1 (b.foldl put1 l) := by
  have ia := fun e he => (ha.1 e he).1
  have ib := fun e he => (hb.1 e he).1
  have la : (a.foldl put1 l).length = 4 := by rw [puts_len]; exact hl
  have lb : (b.foldl put1 l).length = 4 := by rw [puts_len]; exact hl
  refine box_eq (by rw [puts_len]; exact la) (by rw [puts_len]; exact lb) (fun k k0 k3 => ?_)
  by_cases c : ∃ p ∈ a, p.f0 = k
  · obtain ⟨p, hp, rfl⟩ := c
    rw [puts_not b _ la ib k0 k3 (fun q hq e => h p hp q hq e.symm), puts_in a l hl ia ha.2 p hp, puts_in a _ lb ia ha.2 p hp, puts_not b l hl ib k0 k3 (fun q hq e => h p hp q hq e.symm)]
  · have na : ∀ p ∈ a, p.f0 ≠ k := fun p hp e => c ⟨p, hp, e⟩
    rw [puts_not a _ lb ia k0 k3 na]
    by_cases d : ∃ q ∈ b, q.f0 = k
    · obtain ⟨q, hq, rfl⟩ := d
      rw [puts_in b _ la ib hb.2 q hq, puts_in b l hl ib hb.2 q hq, puts_not a l hl ia k0 k3 na]
    · have nb : ∀ q ∈ b, q.f0 ≠ k := fun q hq e => d ⟨q, hq, e⟩
      rw [puts_not b _ la ib k0 k3 nb, puts_not b l hl ib k0 k3 nb, puts_not a l hl ia k0 k3 na]
/-- A program alone, behind another one that it can not meet. -/
theorem serial_behind {x : List S37} {p q : List S95} (hx : boxOk x) (h : freeP p q) :
    serialOf x p = ((runOf x p).2.1.foldl put1 x, (runOf x p).2.2.1, (runOf x p).2.2.2) ∧ (runOf x p).2.2.2 ≠ 3 ∧ boxOk ((runOf x p).2.1.foldl put1 x) ∧ runOf ((runOf x p).2.1.foldl put1 x) q = runOf x q := by
  have n3 : (runOf x p).2.2.2 ≠ 3 := by unfold runOf; rw [if_pos ⟨hx, h.1⟩]; exact runP_ne3 _ _ _ _ _ _ _
  have hok := runOf_ok x p
  have hpi := runOk_putsIn hok
  have okd : boxOk ((runOf x p).2.1.foldl put1 x) := puts_ok _ x hx hpi.1
  refine ⟨?_, n3, okd, ?_⟩
  · unfold serialOf; rw [if_neg n3]; unfold doneBy; rw [if_pos ⟨hx, hok⟩]
  · refine runOf_same hx okd (fun r hr => ?_)
    have hk := ((runOk_readsIn (runOf_ok x q)).1 r hr).1
    unfold rKey at hk
    exact (puts_not _ x hx.1 (fun e he => (hpi.1 e he).1) hk.1 hk.2 (fun e he c => h.2.2.2.1 ⟨r.f0, c ▸ runOf_puts x p e he, runOf_loads x q r hr⟩)).symm
theorem serial_comm {x : List S37} {p q : List S95} (hx : boxOk x) (h : freeP p q) : ∃ y v w, y.length ≤ 4 ∧ serRun [p, q] x = some (y, [v, w]) ∧ serRun [q, p] x = some (y, [w, v]) := by
  obtain ⟨a1, a2, a3, a4⟩ := serial_behind hx h
  obtain ⟨b1, b2, b3, b4⟩ := serial_behind hx ((free_comm p q).1 h)
  have pa := runOk_putsIn (runOf_ok x p)
  have pb := runOk_putsIn (runOf_ok x q)
  have cm := puts_comm (l := x) hx.1 pa pb (fun e he f hf c => h.2.2.1 ⟨e.f0, runOf_puts x p e he, c ▸ runOf_puts x q f hf⟩)
  obtain ⟨c1, c2, c3, c4⟩ := serial_behind (x := (runOf x p).2.1.foldl put1 x) a3 ((free_comm p q).1 h)
  obtain ⟨d1, d2, d3, d4⟩ := serial_behind (x := (runOf x q).2.1.foldl put1 x) b3 h
  rw [a4] at c1 c2 c3
  rw [b4] at d1 d2 d3
  refine ⟨(runOf x q).2.1.foldl put1 ((runOf x p).2.1.foldl put1 x), (runOf x p).2.2.1, (runOf x q).2.2.1, ?_, ?_, ?_⟩
  · rw [puts_len, puts_len, hx.1]; omega
  · rw [serRun_cons, a1]; simp only [if_neg a2]
    rw [serRun_cons, c1]; simp only [if_neg b2]
    rfl
  · rw [serRun_cons, b1]; simp only [if_neg b2]
    rw [serRun_cons, d1]; simp only [if_neg a2]
    rw [cm]; rfl
theorem sameBx_ev (m : List S37) (hm : m.length ≤ 1000) : Ev (fun k => impl_BoxSame.f k m m) true := by
  obtain ⟨q, hq, hqi⟩ := sameBox_ev m m (by omega)
  obtain rfl : q = true := hqi.2 rfl
  unfold impl_BoxSame.f; exact hq.bind (ev_now _)
theorem FnSerial_l0 (m : List Int) (hm : bytesOk m) (b : List S37) (ps : List (List S95)) (hb : b.length ≤ 1000) (hn : ps.length ≤ 1000) (hp : ∀ p ∈ ps, p.length ≤ 1000) : ∀ (d i : Nat), i + d = (serAll b ps).2.length →
    Ev (fun k => laws_FnSerial.l0 k m (i : Int) b ps (serAll b ps).1 (serAll b ps).2 (serAll b ps).2) true := by
  have al := serAll_len b ps
  intro d
  induction d with
  | succ d ih =>
    intro i hd
    have hi : i < (serAll b ps).2.length := by omega
    refine Ev.step (fun k => by rw [laws_FnSerial.l0]) (ev_pos (lt_cast hi) (ev_pos (nn_cast i) (ev_pos (lt_cast hi) (ev_pos (nn_cast i) (ev_pos (lt_cast hi) (ev_pos rfl ?_))))))
    rw [wrap_succ hi (by omega)]
    exact ih (i + 1) (by omega)
  | zero =>
    intro i hi
    obtain rfl : i = (serAll b ps).2.length := by omega
    refine Ev.step (fun k => by rw [laws_FnSerial.l0]) (ev_neg (by omega) ?_)
    rcases serAll_cases b ps with h | ⟨hx, h100, h⟩
    · rw [h]; exact ev_pos rfl (by simpa using ev_now true)
    have ok := serRun_ok hx h
    generalize serAll b ps = z at *
    obtain ⟨x, v⟩ := z
    simp only at ok al ⊢
    refine ev_neg (by have := ok.1.1; omega) ?_
    have hw : wrap64 (((ps.length : Nat) : Int) + 1) = ((ps.length : Nat) : Int) + 1 := wrap_id (by omega) (by omega)
    rw [hw]
    refine ev_neg (by omega) ?_
    obtain ⟨n, hnn⟩ : ∃ n : Nat, Int.tmod ((m.length : Nat) : Int) (((ps.length : Nat) : Int) + 1) = (n : Int) ∧ n ≤ ps.length := by
      refine ⟨(Int.tmod ((m.length : Nat) : Int) (((ps.length : Nat) : Int) + 1)).toNat, ?_⟩
      rw [Int.tmod_eq_emod_of_nonneg (by omega)]
      have h1 := Int.emod_nonneg ((m.length : Nat) : Int) (show (((ps.length : Nat) : Int) + 1) ≠ 0 by omega)
      have h2 := Int.emod_lt_of_pos ((m.length : Nat) : Int) (show 0 < (((ps.length : Nat) : Int) + 1) by omega)
      omega
    obtain ⟨hn1, hn2⟩ := hnn
    rw [hn1, Int.toNat_natCast]
    refine ev_pos (nn_cast n) (ev_pos (by omega) ?_)
    rw [← List.take_append_drop n ps, serRun_app] at h
    cases h1 : serRun (ps.take n) b with
    | none => rw [h1] at h; cases h
    | some u =>
    rw [h1] at h
    simp only [Option.bind_some] at h
    have oku := serRun_ok hx h1
    cases h2 : serRun (ps.drop n) u.1 with
    | none => rw [h2] at h; cases h
    | some t =>
    rw [h2] at h
    simp only [Option.map_some, Option.some.injEq, Prod.mk.injEq] at h
    obtain ⟨rfl, rfl⟩ := h
    have okt := serRun_ok oku.1 h2
    have e1 := impl_SerialAll_ev b (ps.take n) (by omega) (by rw [List.length_take]; omega) (fun p hm => by have := hp p (List.mem_of_mem_take hm); omega)
    have e2 := impl_SerialAll_ev u.1 (ps.drop n) (by have := oku.1.1; omega) (by rw [List.length_drop]; omega) (fun p hm => by have := hp p (List.mem_of_mem_drop hm); omega)
    rw [serAll_some hx (by rw [List.length_take]; omega) h1] at e1
    rw [serAll_some oku.1 (by rw [List.length_drop]; omega) h2] at e2
    have lu := oku.2
    have lt := okt.2
    rw [List.length_take] at lu
    rw [List.length_drop] at lt
    have ok4 := okt.1.1
    refine e1.bind (ev_pos (nn_cast n) (ev_pos (by omega) (e2.bind ((sameBx_ev t.1 (by omega)).bind (ev_pos rfl (ev_pos ?_ ?_))))))
    · rw [wrap_id (by omega) (by omega), List.length_append]; omega
    obtain ⟨⟨p, q⟩, hd, hp11, hq11⟩ := DrawSerialFree_dr m hm
    simp only at hp11 hq11
    obtain ⟨c1, hc1, hc1i⟩ := impl_SerialFree_ev p q (by omega) (by omega)
    obtain ⟨c2, hc2, hc2i⟩ := spec_SerialFree_ev p q (by omega) (by omega)
    obtain ⟨c3, hc3, hc3i⟩ := impl_SerialFree_ev q p (by omega) (by omega)
    have q1 : (c1 == c2) = true := by rw [beq_iff_eq, Bool.eq_iff_iff, hc1i, hc2i]
    have q2 : (c1 == c3) = true := by rw [beq_iff_eq, Bool.eq_iff_iff, hc1i, hc3i, free_comm]
    refine hd.bind (hc1.bind (hc2.bind (ev_pos q1 (hc1.bind (hc3.bind (ev_pos q2 (hc1.bind (ev_ite (fun hf => ?_) (fun _ => ev_now _)))))))))
    obtain ⟨y, v1, w1, hy, r1, r2⟩ := serial_comm okt.1 (hc1i.1 hf)
    have g1 := impl_SerialAll_ev t.1 [p, q] (by omega) (by simp) (fun z hz => by
      simp only [List.mem_cons, List.not_mem_nil, or_false] at hz
      rcases hz with rfl | rfl <;> omega)
    have g2 := impl_SerialAll_ev t.1 [q, p] (by omega) (by simp) (fun z hz => by
      simp only [List.mem_cons, List.not_mem_nil, or_false] at hz
      rcases hz with rfl | rfl <;> omega)
    rw [serAll_some okt.1 (by simp) r1] at g1
    rw [serAll_some okt.1 (by simp) r2] at g2
    refine g1.bind (g2.bind ((sameBx_ev y (by omega)).bind (ev_pos rfl (ev_pos rfl (ev_pos rfl (ev_pos (by simp) (ev_pos (by simp) (ev_pos rfl (ev_pos (by simp) (ev_pos (by simp) ?_))))))))))
    have : rd [v1, w1] 1 = rd [w1, v1] 0 := rfl
    simp only [this, decide_true]
    exact ev_now _
theorem FnSerial : laws_FnSerial.Pure := by
  intro t m _ _ hw _ _ hw2
  refine Ev.rounds ?_
  unfold laws_FnSerial.f
  refine ev_ite (fun _ => ev_now _) (fun hm => ev_ite (fun _ => ev_now _) (fun hm2 => ?_))
  obtain ⟨⟨b, ps⟩, hd, h1, h2, h3⟩ := DrawSerialAll_dr t (bytes_wf hw)
  simp only at h1 h2 h3
  have ei := impl_SerialAll_ev b ps (by omega) (by omega) (fun p hp => by have := h3 p hp; omega)
  have es := spec_SerialAll_ev b ps (by omega) (by omega) (fun p hp => by have := h3 p hp; omega)
  have al := serAll_len b ps
  refine hd.bind (ei.bind (es.bind ((sameBx_ev _ (by omega)).bind (ev_pos rfl (ev_pos rfl ?_)))))
  exact FnSerial_l0 m (bytes_wf hw2) b ps (by omega) (by omega) (fun p hp => by have := h3 p hp; omega) (serAll b ps).2.length 0 (by omega)

end Go.Proofs.Ytkkmhlfpombgfaa.Pure
