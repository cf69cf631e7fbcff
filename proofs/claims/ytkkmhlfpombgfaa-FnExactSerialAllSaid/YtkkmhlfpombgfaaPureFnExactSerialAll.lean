/- The pure law of FnExactSerialAll: what the law's function of numbers and lists answers is true, for every input. Its condition: none but what the row says. -/
import Derived.Test.YtkkmhlfpombgfaaPFnExactSerialAllx3
namespace Go.Proofs.Ytkkmhlfpombgfaa.Pure
open Go.RowKit Go.Proofs.Ytkkmhlfpombgfaa.PFnExactSerialAll Go.Proofs.YtkkmhlfpombgfaaW.PrintWords Go.Proofs.YtkkmhlfpombgfaaW.PrintLast
set_option linter.unusedVariables false
set_option linter.unusedSimpArgs false
set_option linter.unusedSectionVars false

theorem wrap_succ {i n : Nat} (h : i < n) (hn : n ≤ 9223372036854775807) : wrap64 ((i : Int) + 1) = ((i + 1 : Nat) : Int) := by unfold wrap64; omega
theorem wrap_id {a : Int} (h0 : -9223372036854775808 ≤ a) (h1 : a ≤ 9223372036854775807) : wrap64 a = a := by unfold wrap64; omega
theorem ev_pos {α : Type} {c : Prop} [Decidable c] {f g : Nat → Option α} {r : α} (h : c) (e : Ev f r) : Ev (fun k => if c then f k else g k) r := by
  simp only [if_pos h]; exact e
theorem ev_neg {α : Type} {c : Prop} [Decidable c] {f g : Nat → Option α} {r : α} (h : ¬ c) (e : Ev g r) : Ev (fun k => if c then f k else g k) r := by
  simp only [if_neg h]; exact e
theorem ev_ite {α : Type} {c : Prop} [Decidable c] {f g : Nat → Option α} {r : α} (h1 : c → Ev f r) (h2 : ¬ c → Ev g r) : Ev (fun k => if c then f k else g k) r := by
  by_cases h : c
  · exact ev_pos h (h1 h)
  · exact ev_neg h (h2 h)
theorem ev_now {α : Type} (r : α) : Ev (fun _ => some r) r := Ev.now r
theorem ev_get {α β : Type} {g : Option α} {f : Nat → α → Option β} {a : α} {r : β} (h : g = some a) (k : Ev (fun n => f n a) r) : Ev (fun n => g.bind (f n)) r := by
  subst h; exact k
/-- A loop over 0 .. n - 1: what it answers from i on. -/
theorem ev_loop {α : Type} (n : Nat) (F : Nat → Nat → Option α) (v : Nat → α) (step : ∀ i, i < n → Ev (F (i + 1)) (v (i + 1)) → Ev (F i) (v i)) (last : Ev (F n) (v n)) : ∀ i, i ≤ n → Ev (F i) (v i) := by
  have key : ∀ d i, i + d = n → Ev (F i) (v i) := by
    intro d
    induction d with
    | zero => intro i h; obtain rfl : i = n := by omega
              exact last
    | succ d ih => intro i h; exact step i (by omega) (ih (i + 1) (by omega))
  exact fun i hi => key (n - i) i (by omega)
theorem lt_cast {i n : Nat} (h : i < n) : (i : Int) < (n : Int) := Int.ofNat_lt.2 h
theorem nn_cast (i : Nat) : (0 : Int) ≤ (i : Int) := Int.natCast_nonneg i
theorem set_state {α : Type} (xs : List α) (z : α) (i : Nat) (h : i < xs.length) : (xs.take i ++ List.replicate (xs.length - i) z).set i xs[i] = xs.take (i + 1) ++ List.replicate (xs.length - (i + 1)) z := by
  rw [List.take_succ_eq_append_getElem h, List.append_assoc, List.set_append_right _ _ (by rw [List.length_take]; omega)]
  congr 1
  rw [List.length_take, Nat.min_eq_left (by omega), Nat.sub_self, show xs.length - i = (xs.length - (i + 1)) + 1 by omega, List.replicate_succ]
  rfl
theorem state_len {α : Type} (xs : List α) (z : α) (i : Nat) (h : i ≤ xs.length) : (xs.take i ++ List.replicate (xs.length - i) z).length = xs.length := by
  rw [List.length_append, List.length_take, List.length_replicate]; omega
theorem drop_eq {α : Type} {x y : List α} (hl : x.length = y.length) {i : Nat} (h : i < x.length) : (x.drop i = y.drop i) ↔ (x[i] = y[i]'(hl ▸ h) ∧ x.drop (i + 1) = y.drop (i + 1)) := by
  have h2 : i < y.length := hl ▸ h
  rw [List.drop_eq_getElem_cons h, List.drop_eq_getElem_cons h2, List.cons.injEq]
theorem mem_split {α : Type} {p : α → Prop} {l : List α} {i : Nat} (h : i < l.length) : (∀ b ∈ l.drop i, p b) ↔ p l[i] ∧ ∀ b ∈ l.drop (i + 1), p b := by
  rw [List.drop_eq_getElem_cons h]
  simp only [List.mem_cons, forall_eq_or_imp]
theorem ev_const {α : Type} {X : Option α} {r : α} (h : X = some r) : Ev (fun _ => X) r := ⟨0, fun _ _ => h⟩

/-- A call in a run, whose answer is known. -/
theorem cx {ρ : Type} {p : Nat → Option ρ} {q : ρ → Option Unit} {t : ρ} (h : Ev p t) (hq : q t = some ()) : Am.callX p q = some () := by
  obtain ⟨K, hK⟩ := h
  exact Am.callX_of (hK K (Nat.le_refl _)) hq
theorem cn {ρ : Type} {p : Option ρ} {q : ρ → Option Unit} {t : ρ} (h : p = some t) (hq : q t = some ()) : Am.callX (fun _ => p) q = some () := Am.callX_of (n := 0) h hq

theorem rd_i {l : List Int} {i : Nat} (h : i < l.length) : rd l (i : Int) = l[i] := by
  unfold rd
  rw [Int.toNat_natCast, List.getD_eq_getElem?_getD, List.getElem?_eq_getElem h]
  rfl

/-- Boxes, as the document has them. -/
def boxIn (b : S37) : Prop := 0 ≤ b.f0 ∧ b.f0 ≤ 1000000 ∧ -1000000 ≤ b.f1 ∧ b.f1 ≤ 1000000
def boxOk (l : List S37) : Prop := l.length = 4 ∧ ∀ b ∈ l, boxIn b
theorem rd_box {l : List S37} {i : Nat} (h : i < l.length) : rd_T37 l (i : Int) = l[i] := by
  unfold rd_T37
  rw [Int.toNat_natCast, List.getD_eq_getElem?_getD, List.getElem?_eq_getElem h]
  rfl
theorem ext_Ins {a b : S95} (h0 : a.f0 = b.f0) (h1 : a.f1 = b.f1) (h2 : a.f2 = b.f2) (h3 : a.f3 = b.f3) : a = b := by
  obtain ⟨a0_, a1_, a2_, a3_⟩ := a; obtain ⟨b0_, b1_, b2_, b3_⟩ := b; simp_all
theorem rdi_Ins {l : List S95} {i : Nat} (h : i < l.length) : rd_T95 l (i : Int) = l[i] := by
  unfold rd_T95
  rw [Int.toNat_natCast, List.getD_eq_getElem?_getD, List.getElem?_eq_getElem h]
  rfl

/-- An instruction that is right. -/
def insIn (x : S95) : Prop :=
  (x.f0 = 1 ∧ 0 ≤ x.f1 ∧ x.f1 ≤ 3 ∧ 0 ≤ x.f2 ∧ x.f2 ≤ 3 ∧ x.f3 = 0) ∨ (x.f0 = 2 ∧ 0 ≤ x.f1 ∧ x.f1 ≤ 3 ∧ 0 ≤ x.f2 ∧ x.f2 ≤ 3 ∧ x.f3 = 0) ∨
  (x.f0 = 3 ∧ 0 ≤ x.f1 ∧ x.f1 ≤ 3 ∧ x.f2 = 0 ∧ -1000000 ≤ x.f3 ∧ x.f3 ≤ 1000000) ∨ ((x.f0 = 4 ∨ x.f0 = 5) ∧ 0 ≤ x.f1 ∧ x.f1 ≤ 3 ∧ 0 ≤ x.f2 ∧ x.f2 ≤ 3 ∧ x.f3 = 0) ∨
  (x.f0 = 6 ∧ 0 ≤ x.f1 ∧ x.f1 ≤ 3 ∧ 0 ≤ x.f2 ∧ x.f2 ≤ 3 ∧ 1 ≤ x.f3 ∧ x.f3 ≤ 10) ∨ (x.f0 = 7 ∧ x.f1 = 0 ∧ x.f2 = 0 ∧ x.f3 = 0)
instance (x : S95) : Decidable (insIn x) := by unfold insIn; infer_instance
def progOk (l : List S95) : Prop := l.length ≤ 10 ∧ ∀ x ∈ l, insIn x

theorem rdi_Read {l : List S39} {i : Nat} (h : i < l.length) : rd_T39 l (i : Int) = l[i] := by
  unfold rd_T39
  rw [Int.toNat_natCast, List.getD_eq_getElem?_getD, List.getElem?_eq_getElem h]
  rfl

theorem rdi_Put {l : List S82} {i : Nat} (h : i < l.length) : rd_T82 l (i : Int) = l[i] := by
  unfold rd_T82
  rw [Int.toNat_natCast, List.getD_eq_getElem?_getD, List.getElem?_eq_getElem h]
  rfl

/-- Where a box stands among what is put, or -1. -/
def atP (b : Int) : List S82 → Int → Int
  | [], _ => -1
  | p :: r, i => if p.f0 = b then i else atP b r (i + 1)
def atR (b : Int) : List S39 → Int → Int
  | [], _ => -1
  | p :: r, i => if p.f0 = b then i else atR b r (i + 1)
theorem atP_prop (b : Int) : ∀ (l : List S82) (i : Int), 0 ≤ i → (atP b l i = -1 ∧ ∀ p ∈ l, p.f0 ≠ b) ∨ (∃ j : Nat, ∃ h : j < l.length, atP b l i = i + j ∧ (l[j]).f0 = b) := by
  intro l
  induction l with
  | nil => intro i _; exact .inl ⟨rfl, by simp⟩
  | cons p r ih =>
    intro i hi
    unfold atP
    by_cases c : p.f0 = b
    · rw [if_pos c]; exact .inr ⟨0, by simp, by simp, by simpa using c⟩
    · rw [if_neg c]
      rcases ih (i + 1) (by omega) with ⟨e, h⟩ | ⟨j, hj, e, h⟩
      · refine .inl ⟨e, ?_⟩
        intro q hq
        rcases List.mem_cons.1 hq with rfl | h2
        · exact c
        · exact h q h2
      · refine .inr ⟨j + 1, by simpa using hj, by rw [e]; omega, by simpa using h⟩
theorem atR_prop (b : Int) : ∀ (l : List S39) (i : Int), 0 ≤ i → (atR b l i = -1 ∧ ∀ p ∈ l, p.f0 ≠ b) ∨ (∃ j : Nat, ∃ h : j < l.length, atR b l i = i + j ∧ (l[j]).f0 = b) := by
  intro l
  induction l with
  | nil => intro i _; exact .inl ⟨rfl, by simp⟩
  | cons p r ih =>
    intro i hi
    unfold atR
    by_cases c : p.f0 = b
    · rw [if_pos c]; exact .inr ⟨0, by simp, by simp, by simpa using c⟩
    · rw [if_neg c]
      rcases ih (i + 1) (by omega) with ⟨e, h⟩ | ⟨j, hj, e, h⟩
      · refine .inl ⟨e, ?_⟩
        intro q hq
        rcases List.mem_cons.1 hq with rfl | h2
        · exact c
        · exact h q h2
      · refine .inr ⟨j + 1, by simpa using hj, by rw [e]; omega, by simpa using h⟩
theorem atP_lt (b : Int) (l : List S82) (h : 0 ≤ atP b l 0) : atP b l 0 < l.length := by
  rcases atP_prop b l 0 (by omega) with ⟨e, _⟩ | ⟨j, hj, e, _⟩
  · omega
  · omega
/-- What a box holds for a run, and what was looked into then. -/
def look (l : List S37) (x : List S39) (y : List S82) (b : Int) : Int × List S39 :=
  if 0 ≤ atP b y 0 then ((rd_T82 y (atP b y 0)).f1, x) else ((rd_T37 l b).f1, if 0 ≤ atR b x 0 then x else x ++ [⟨b, (rd_T37 l b).f0⟩])
def putP (y : List S82) (b v : Int) : List S82 := if 0 ≤ atP b y 0 then y.set (atP b y 0).toNat ⟨(rd_T82 y (atP b y 0)).f0, v⟩ else y ++ [⟨b, v⟩]
/-- What a run is: looked into, put, value, code. -/
abbrev RunT := List S39 × List S82 × Int × Int
def inR (v : Int) : Prop := -1000000 ≤ v ∧ v ≤ 1000000
instance (v : Int) : Decidable (inR v) := by unfold inR; infer_instance
/-- A run from place i on, with so much fuel. -/
def runP (l : List S37) (p : List S95) : Nat → Nat → List Int → List S39 → List S82 → RunT
  | 0, _, g, x, y => (x, y, rd g 0, 0)
  | f + 1, i, g, x, y =>
    if i < p.length then
      let s := rd_T95 p (i : Int)
      if s.f0 = 1 then runP l p f (i + 1) (g.set s.f1.toNat (look l x y s.f2).1) (look l x y s.f2).2 y
      else if s.f0 = 2 then runP l p f (i + 1) g x (putP y s.f1 (rd g s.f2))
      else if s.f0 = 3 then runP l p f (i + 1) (g.set s.f1.toNat s.f3) x y
      else if s.f0 = 4 then if inR (rd g s.f1 + rd g s.f2) then runP l p f (i + 1) (g.set s.f1.toNat (rd g s.f1 + rd g s.f2)) x y else (x, [], 0, 2)
      else if s.f0 = 5 then if inR (rd g s.f1 - rd g s.f2) then runP l p f (i + 1) (g.set s.f1.toNat (rd g s.f1 - rd g s.f2)) x y else (x, [], 0, 2)
      else if s.f0 = 6 then runP l p f (if rd g s.f1 < rd g s.f2 then i + s.f3.toNat + 1 else i + 1) g x y
      else (x, [], 0, 1)
    else (x, y, rd g 0, 0)
/-- What holds in the midst of a run. -/
structure Mid (i : Nat) (g : List Int) (x : List S39) (y : List S82) : Prop where
  len : g.length = 4
  reg : ∀ v ∈ g, inR v
  put : ∀ p ∈ y, inR p.f1
  xl : x.length ≤ i
  yl : y.length ≤ i
theorem inR_set {g : List Int} {i : Nat} {v : Int} (h : ∀ u ∈ g, inR u) (hv : inR v) : ∀ u ∈ g.set i v, inR u := by
  intro b hb
  rcases List.mem_or_eq_of_mem_set hb with h1 | h1
  · exact h b h1
  · rw [h1]; exact hv
theorem rd_inR {g : List Int} (h : ∀ u ∈ g, inR u) (i : Int) : inR (rd g i) := by
  unfold rd
  rw [List.getD_eq_getElem?_getD]
  cases e : g[i.toNat]? with
  | none => simp [inR]
  | some x => exact h x (List.mem_of_getElem? e)
theorem box_inR {l : List S37} (h : boxOk l) (i : Int) : inR (rd_T37 l i).f1 := by
  unfold rd_T37
  rw [List.getD_eq_getElem?_getD]
  cases e : l[i.toNat]? with
  | none => simp [inR, z37]
  | some x => have := h.2 x (List.mem_of_getElem? e); unfold boxIn at this; unfold inR; simp only [Option.getD_some]; omega
theorem put_inR {y : List S82} (h : ∀ p ∈ y, inR p.f1) (i : Int) : inR (rd_T82 y i).f1 := by
  unfold rd_T82
  rw [List.getD_eq_getElem?_getD]
  cases e : y[i.toNat]? with
  | none => simp [inR, z82]
  | some x => exact h x (List.mem_of_getElem? e)
theorem look_inR {l : List S37} (hl : boxOk l) (x : List S39) {y : List S82} (h : ∀ p ∈ y, inR p.f1) (b : Int) : inR (look l x y b).1 := by
  unfold look
  by_cases c : 0 ≤ atP b y 0
  · rw [if_pos c]; exact put_inR h _
  · rw [if_neg c]; exact box_inR hl _
theorem look_len (l : List S37) (x : List S39) (y : List S82) (b : Int) : (look l x y b).2.length ≤ x.length + 1 := by
  unfold look
  by_cases c : 0 ≤ atP b y 0
  · rw [if_pos c]; simp
  · rw [if_neg c]
    by_cases d : 0 ≤ atR b x 0
    · simp [d]
    · simp [d]
theorem putP_len (y : List S82) (b v : Int) : (putP y b v).length ≤ y.length + 1 := by
  unfold putP
  by_cases c : 0 ≤ atP b y 0
  · rw [if_pos c]; simp
  · rw [if_neg c]; simp
theorem putP_inR {y : List S82} (h : ∀ p ∈ y, inR p.f1) (b : Int) {v : Int} (hv : inR v) : ∀ p ∈ putP y b v, inR p.f1 := by
  unfold putP
  by_cases c : 0 ≤ atP b y 0
  · rw [if_pos c]
    intro p hp
    rcases List.mem_or_eq_of_mem_set hp with h1 | h1
    · exact h p h1
    · rw [h1]; exact hv
  · rw [if_neg c]
    intro p hp
    rcases List.mem_append.1 hp with h1 | h1
    · exact h p h1
    · rw [List.mem_singleton.1 h1]; exact hv

theorem l1Num_some (a : Int) : ∃ v, spec_l1Num.f a = some v ∧ (v = true ↔ -1000000 ≤ a ∧ a ≤ 1000000) := by
  unfold spec_l1Num.f
  by_cases h : a ≥ -1000000
  · exact ⟨decide (a ≤ 1000000), by simp [h], by simp; omega⟩
  · exact ⟨false, by simp [h], by simp; omega⟩
theorem spec_BoxOk_ev (l : List S37) (hn : l.length ≤ 9223372036854775807) : ∃ v, Ev (fun k => spec_BoxOk.f k l) v ∧ (v = true ↔ boxOk l) := by
  classical
  by_cases h4 : l.length = 4
  · have key := ev_loop l.length (fun i k => spec_BoxOk.l0 k l (i : Int)) (fun i => decide (∀ b ∈ l.drop i, boxIn b)) (fun i hi ih => by
      refine Ev.step (fun k => by rw [spec_BoxOk.l0]) ?_
      refine ev_pos (lt_cast hi) (ev_pos (nn_cast i) ?_)
      rw [rd_box hi, wrap_succ hi hn]
      obtain ⟨v, hv, hvi⟩ := l1Num_some (l[i]).f1
      have hs := mem_split (p := boxIn) hi
      by_cases h0 : (l[i]).f0 < 0
      · have : ¬ boxIn l[i] := by unfold boxIn; omega
        simp only [hs, this, false_and, decide_false]
        exact ev_pos h0 (ev_now _)
      refine ev_neg h0 ?_
      by_cases h1 : (l[i]).f0 > 1000000
      · have : ¬ boxIn l[i] := by unfold boxIn; omega
        simp only [hs, this, false_and, decide_false]
        exact ev_pos h1 (ev_now _)
      refine ev_neg h1 (ev_get hv ?_)
      by_cases h2 : v = true
      · have : boxIn l[i] := by have := hvi.1 h2; unfold boxIn; omega
        simp only [hs, this, true_and]
        exact ev_pos h2 ih
      · have : ¬ boxIn l[i] := fun h => h2 (hvi.2 (by unfold boxIn at h; omega))
        simp only [hs, this, false_and, decide_false]
        exact ev_neg h2 (ev_now _)) (by
      refine Ev.step (fun k => by rw [spec_BoxOk.l0]) ?_
      refine ev_neg (by omega) ?_
      simp only [List.drop_length, List.not_mem_nil, false_implies, implies_true, decide_true]
      exact ev_now _) 0 (Nat.zero_le _)
    exact ⟨_, Ev.congr (fun k => by unfold spec_BoxOk.f; exact if_pos (by omega)) key, by simp [boxOk, h4]⟩
  · refine ⟨false, ?_, by simp [boxOk, h4]⟩
    unfold spec_BoxOk.f
    exact ev_neg (by omega) (ev_now _)

theorem l2Box_some (a : Int) : spec_l2Box.f a = some (decide (0 ≤ a ∧ a ≤ 3)) := by
  unfold spec_l2Box.f
  by_cases h : a ≥ 0
  · rw [if_pos h]; congr 1; rw [Bool.eq_iff_iff]; simp; omega
  · rw [if_neg h]; congr 1; rw [Bool.eq_iff_iff]; simp; omega

theorem l1Num_dec (a : Int) : spec_l1Num.f a = some (decide (-1000000 ≤ a ∧ a ≤ 1000000)) := by
  unfold spec_l1Num.f
  by_cases h : a ≥ -1000000
  · rw [if_pos h]; congr 1; rw [Bool.eq_iff_iff]; simp; omega
  · rw [if_neg h]; congr 1; rw [Bool.eq_iff_iff]; simp; omega

theorem l2Reg_some (a : Int) : spec_l2Reg.f a = some (decide (0 ≤ a ∧ a ≤ 3)) := by
  unfold spec_l2Reg.f
  by_cases h : a ≥ 0
  · rw [if_pos h]; congr 1; rw [Bool.eq_iff_iff]; simp; omega
  · rw [if_neg h]; congr 1; rw [Bool.eq_iff_iff]; simp; omega
theorem l2Ins_ev (x : S95) : Ev (fun k => spec_l2Ins.f k x.f0 x.f1 x.f2 x.f3) (decide (insIn x)) := by
  obtain ⟨kd, a, b, n⟩ := x
  unfold spec_l2Ins.f
  simp only [l2Reg_some, l2Box_some, l1Num_dec, Option.bind_some, decide_eq_true_eq]
  have fin : ∀ {X : Option Bool}, X = some (decide (insIn ⟨kd, a, b, n⟩)) → Ev (fun _ => X) (decide (insIn ⟨kd, a, b, n⟩)) := fun h => ev_const h
  refine ev_ite (fun h => fin ?_) (fun h1 => ev_ite (fun h => fin ?_) (fun h2 => ev_ite (fun h => fin ?_) (fun h3 => ?_)))
  · repeat' split
    all_goals (congr 1; rw [Bool.eq_iff_iff]; simp only [decide_eq_true_eq, beq_iff_eq, Bool.false_eq_true]; simp only [insIn]; constructor <;> intro hh_ <;> first | exact hh_.elim | omega)
  · repeat' split
    all_goals (congr 1; rw [Bool.eq_iff_iff]; simp only [decide_eq_true_eq, beq_iff_eq, Bool.false_eq_true]; simp only [insIn]; constructor <;> intro hh_ <;> first | exact hh_.elim | omega)
  · repeat' split
    all_goals (congr 1; rw [Bool.eq_iff_iff]; simp only [decide_eq_true_eq, beq_iff_eq, Bool.false_eq_true]; simp only [insIn]; constructor <;> intro hh_ <;> first | exact hh_.elim | omega)
  · have key : ∀ t : Bool, (t = true ↔ kd = 4 ∨ kd = 5) → Ev (fun k => spec_l2Ins.j0 k kd t kd a b n) (decide (insIn ⟨kd, a, b, n⟩)) := by
      intro t ht
      refine Ev.step (fun k => by rw [spec_l2Ins.j0]) ?_
      simp only [l2Reg_some, l2Box_some, l1Num_dec, Option.bind_some, decide_eq_true_eq]
      refine fin ?_
      by_cases h4 : t = true
      · have := ht.1 h4
        rw [if_pos h4]
        repeat' split
        all_goals (congr 1; rw [Bool.eq_iff_iff]; simp only [decide_eq_true_eq, beq_iff_eq, Bool.false_eq_true]; simp only [insIn]; constructor <;> intro hh_ <;> first | exact hh_.elim | omega)
      · have : ¬ (kd = 4 ∨ kd = 5) := fun h => h4 (ht.2 h)
        rw [if_neg h4]
        repeat' split
        all_goals (congr 1; rw [Bool.eq_iff_iff]; simp only [decide_eq_true_eq, beq_iff_eq, Bool.false_eq_true]; simp only [insIn]; constructor <;> intro hh_ <;> first | exact hh_.elim | omega)
    refine ev_ite (fun h4 => key _ (by simp [h4])) (fun h4 => key _ (by simp [h4]))
theorem spec_ProgOk_ev (l : List S95) (hn : l.length ≤ 9223372036854775807) : ∃ v, Ev (fun k => spec_ProgOk.f k l) v ∧ (v = true ↔ progOk l) := by
  by_cases h10 : l.length ≤ 10
  · have key := ev_loop l.length (fun i k => spec_ProgOk.l0 k l (i : Int)) (fun i => decide (∀ b ∈ l.drop i, insIn b)) (fun i hi ih => by
      refine Ev.step (fun k => by rw [spec_ProgOk.l0]) ?_
      refine ev_pos (lt_cast hi) (ev_pos (nn_cast i) ?_)
      rw [rdi_Ins hi, wrap_succ hi hn]
      refine (l2Ins_ev l[i]).bind ?_
      have hs : (∀ b ∈ l.drop i, insIn b) ↔ insIn l[i] ∧ ∀ b ∈ l.drop (i + 1), insIn b := mem_split (p := insIn) hi
      simp only [hs, decide_eq_true_eq]
      by_cases h1 : insIn l[i]
      · simp only [h1, true_and]
        exact ev_pos trivial ih
      · simp only [h1, false_and, decide_false]
        exact ev_neg (fun h => h) (ev_now _)) (by
      refine Ev.step (fun k => by rw [spec_ProgOk.l0]) ?_
      refine ev_neg (by omega) ?_
      simp only [List.drop_length, List.not_mem_nil, false_implies, implies_true, decide_true]
      exact ev_now _) 0 (Nat.zero_le _)
    exact ⟨_, Ev.congr (fun k => by unfold spec_ProgOk.f; exact if_neg (by omega)) key, by simp [progOk, h10]⟩
  · refine ⟨false, ?_, by simp [progOk]; omega⟩
    unfold spec_ProgOk.f
    exact ev_pos (by omega) (ev_now _)

theorem l3At_at (b : Int) (y : List S82) (hn : y.length ≤ 9223372036854775807) : Ev (fun k => spec_l3At.f k y b) (atP b y 0) := by
  have key : ∀ d i, i + d = y.length → Ev (fun k => spec_l3At.l0 k y b (i : Int)) (atP b (y.drop i) (i : Int)) := by
    intro d
    induction d with
    | zero =>
      intro i hi
      obtain rfl : i = y.length := by omega
      rw [List.drop_length]
      refine Ev.step (fun k => by rw [spec_l3At.l0]) ?_
      exact ev_neg (by omega) (ev_now _)
    | succ d ih =>
      intro i hd
      have hi : i < y.length := by omega
      rw [List.drop_eq_getElem_cons hi]
      unfold atP
      refine Ev.step (fun k => by rw [spec_l3At.l0]) ?_
      refine ev_pos (lt_cast hi) (ev_pos (nn_cast i) ?_)
      rw [rdi_Put hi, wrap_succ hi hn]
      by_cases c : (y[i]).f0 = b
      · rw [if_pos c]; exact ev_pos c (ev_now _)
      · rw [if_neg c]; exact ev_neg c (ih (i + 1) (by omega))
  unfold spec_l3At.f
  simpa using key y.length 0 (by omega)
theorem l3Saw_at (b : Int) (x : List S39) (hn : x.length ≤ 9223372036854775807) : Ev (fun k => spec_l3Saw.f k x b) (decide (0 ≤ atR b x 0)) := by
  have key : ∀ d i, i + d = x.length → Ev (fun k => spec_l3Saw.l0 k x b (i : Int)) (decide (0 ≤ atR b (x.drop i) (i : Int))) := by
    intro d
    induction d with
    | zero =>
      intro i hi
      obtain rfl : i = x.length := by omega
      rw [List.drop_length]
      refine Ev.step (fun k => by rw [spec_l3Saw.l0]) ?_
      exact ev_neg (by omega) (ev_now _)
    | succ d ih =>
      intro i hd
      have hi : i < x.length := by omega
      rw [List.drop_eq_getElem_cons hi]
      unfold atR
      refine Ev.step (fun k => by rw [spec_l3Saw.l0]) ?_
      refine ev_pos (lt_cast hi) (ev_pos (nn_cast i) ?_)
      rw [rdi_Read hi, wrap_succ hi hn]
      by_cases c : (x[i]).f0 = b
      · rw [if_pos c]; simp only [nn_cast, decide_true]; exact ev_pos c (ev_now _)
      · rw [if_neg c]; exact ev_neg c (ih (i + 1) (by omega))
  unfold spec_l3Saw.f
  simpa using key x.length 0 (by omega)
theorem l3Look_ev (l : List S37) (x : List S39) (y : List S82) (a c b : Int) (hl : l.length = 4) (h0 : 0 ≤ b) (h3 : b ≤ 3) (hx : x.length ≤ 1000) (hy : y.length ≤ 1000) :
    Ev (fun k => spec_l3Look.f k l x y a c b) ((look l x y b).1, (look l x y b).2, y, a, c) := by
  unfold spec_l3Look.f
  refine (l3At_at b y (by omega)).bind ?_
  by_cases e : 0 ≤ atP b y 0
  · have hL : look l x y b = ((rd_T82 y (atP b y 0)).f1, x) := by unfold look; rw [if_pos e]
    rw [hL]
    exact ev_pos e (ev_pos e (ev_pos (atP_lt b y e) (ev_now _)))
  · refine ev_neg e ((l3Saw_at b x (by omega)).bind ?_)
    by_cases d : 0 ≤ atR b x 0
    · have hL : look l x y b = ((rd_T37 l b).f1, x) := by unfold look; rw [if_neg e, if_pos d]
      rw [hL]
      exact ev_pos (by simpa using d) (ev_pos h0 (ev_pos (by omega) (ev_now _)))
    · have hL : look l x y b = ((rd_T37 l b).f1, x ++ [⟨b, (rd_T37 l b).f0⟩]) := by unfold look; rw [if_neg e, if_neg d]
      rw [hL]
      exact ev_neg (by simpa using d) (ev_pos h0 (ev_pos (by omega) (ev_pos (by omega) (ev_now _))))
theorem l3Put_ev (x : List S39) (y : List S82) (a c b v : Int) (hy : y.length ≤ 1000) : Ev (fun k => spec_l3Put.f k x y a c b v) (x, putP y b v, a, c) := by
  unfold spec_l3Put.f
  refine (l3At_at b y (by omega)).bind ?_
  by_cases e : 0 ≤ atP b y 0
  · have hL : putP y b v = y.set (atP b y 0).toNat ⟨(rd_T82 y (atP b y 0)).f0, v⟩ := by unfold putP; rw [if_pos e]
    rw [hL]
    exact ev_pos e (ev_pos e (ev_pos (atP_lt b y e) (ev_now _)))
  · have hL : putP y b v = y ++ [⟨b, v⟩] := by unfold putP; rw [if_neg e]
    rw [hL]
    exact ev_neg e (ev_pos (by omega) (ev_now _))
/-- A run that has ended with a code gives no puts. -/
theorem sRun_end (l : List S37) (p : List S95) (g : List Int) (i : Int) (x : List S39) (y : List S82) (a c : Int) (hc : c ≠ 0) : Ev (fun k => spec_ExecRun.l0 k l p g i x y a c) (x, [], a, c) := by
  have j2 : Ev (fun k => spec_ExecRun.j2 k l p g i false x y a c) (x, [], a, c) := by
    refine Ev.step (fun k => by rw [spec_ExecRun.j2]) ?_
    exact ev_neg (by simp) (ev_neg hc (ev_now _))
  refine Ev.step (fun k => by rw [spec_ExecRun.l0]) ?_
  refine ev_ite (fun _ => ?_) (fun _ => j2)
  have e : (c == 0) = false := by simpa using hc
  rw [e]; exact j2
theorem sRun_ev (l : List S37) (p : List S95) (hl : boxOk l) (hp : progOk p) : ∀ (f i : Nat) (g : List Int) (x : List S39) (y : List S82), Mid i g x y → i ≤ 30 → p.length < i + f →
    Ev (fun k => spec_ExecRun.l0 k l p g (i : Int) x y 0 0) (runP l p f i g x y) := by
  intro f
  induction f with
  | zero =>
    intro i g x y hM hi hf
    refine Ev.step (fun k => by rw [spec_ExecRun.l0]) ?_
    refine ev_neg (by omega) ?_
    refine Ev.step (fun k => by rw [spec_ExecRun.j2]) ?_
    exact ev_neg (by simp) (ev_pos rfl (ev_pos (by have := hM.len; omega) (ev_now _)))
  | succ f ih =>
    intro i g x y hM hi hf
    unfold runP
    refine Ev.step (fun k => by rw [spec_ExecRun.l0]) ?_
    by_cases hin : i < p.length
    case neg =>
      rw [if_neg hin]
      refine ev_neg (by omega) ?_
      refine Ev.step (fun k => by rw [spec_ExecRun.j2]) ?_
      exact ev_neg (by simp) (ev_pos rfl (ev_pos (by have := hM.len; omega) (ev_now _)))
    rw [if_pos hin]
    refine ev_pos (lt_cast hin) ?_
    refine Ev.step (fun k => by rw [spec_ExecRun.j2]) ?_
    refine ev_pos (by simp) (ev_pos (nn_cast i) (ev_pos (lt_cast hin) ?_))
    have hs := hp.2 _ (List.getElem_mem hin)
    rw [← rdi_Ins hin] at hs
    have hw : wrap64 ((i : Int) + 1) = ((i + 1 : Nat) : Int) := wrap_succ hin (by have := hp.1; omega)
    rw [hw]
    generalize rd_T95 p (i : Int) = s at hs
    simp only
    have h10 := hp.1
    unfold insIn at hs
    have g4 := hM.len
    -- a step that is no ProgLess: what it leaves, and its check
    have chk : ∀ (g' : List Int) (x' : List S39) (y' : List S82), g'.length = 4 → (s.f0 ≠ 2 → 0 ≤ s.f1 ∧ s.f1 ≤ 3) → (s.f0 ≠ 2 → inR (rd g' s.f1)) → Ev (fun k => spec_l3Step.j0 k g' x' y' 0 0 s.f0 s.f1 s.f2 s.f3) (x', y', 0, 0, g') := by
      intro g' x' y' hg hr hin
      refine Ev.step (fun k => by rw [spec_l3Step.j0]) ?_
      refine ev_ite (fun _ => ev_now _) (fun c => ?_)
      obtain ⟨r0, r1⟩ := hr c
      refine ev_pos r0 (ev_pos (by omega) (ev_get (l1Num_dec _) ?_))
      exact ev_pos (by simpa [inR] using hin c) (ev_now _)
    have bad : ∀ (g' : List Int) (c : Int), g'.length = 4 → s.f0 ≠ 2 → (0 ≤ s.f1 ∧ s.f1 ≤ 3) → ¬ inR (rd g' s.f1) → Ev (fun k => spec_l3Step.j0 k g' x y 0 c s.f0 s.f1 s.f2 s.f3) (x, y, 0, 2, g') := by
      intro g' c hg h2 hr hin
      refine Ev.step (fun k => by rw [spec_l3Step.j0]) ?_
      refine ev_neg h2 (ev_pos hr.1 (ev_pos (by omega) (ev_get (l1Num_dec _) ?_)))
      exact ev_neg (by simpa [inR] using hin) (ev_now _)
    have rset : ∀ v, 0 ≤ s.f1 → s.f1 ≤ 3 → rd (g.set s.f1.toNat v) s.f1 = v := by
      intro v a b
      unfold rd
      rw [List.getD_eq_getElem?_getD, List.getElem?_set_self (by omega)]
      rfl
    have go : ∀ (g' : List Int) (x' : List S39) (y' : List S82), g'.length = 4 → (∀ v ∈ g', inR v) → (∀ q ∈ y', inR q.f1) → x'.length ≤ i + 1 → y'.length ≤ i + 1 → Ev (fun k => spec_ExecRun.l0 k l p g' ((i + 1 : Nat) : Int) x' y' 0 0) (runP l p f (i + 1) g' x' y') :=
      fun _ _ _ a b c d e => ih (i + 1) _ _ _ ⟨a, b, c, d, e⟩ (by omega) (by omega)
    have xl := hM.xl
    have yl := hM.yl
    by_cases k6 : s.f0 = 6
    · rw [if_neg (by omega), if_neg (by omega), if_neg (by omega), if_neg (by omega), if_neg (by omega), if_pos k6]
      refine ev_pos k6 (ev_pos (by omega) (ev_pos (by omega) (ev_pos (by omega) (ev_pos (by omega) ?_))))
      by_cases c : rd g s.f1 < rd g s.f2
      · rw [if_pos c]
        have hw2 : wrap64 (wrap64 ((i : Int) + s.f3) + 1) = ((i + s.f3.toNat + 1 : Nat) : Int) := by
          rw [wrap_id (a := (i : Int) + s.f3) (by omega) (by omega), wrap_id (by omega) (by omega)]; omega
        refine ev_pos c ?_
        rw [hw2]
        exact ih _ _ _ _ ⟨g4, hM.reg, hM.put, by omega, by omega⟩ (by omega) (by omega)
      · rw [if_neg c]
        exact ev_neg c (ih _ _ _ _ ⟨g4, hM.reg, hM.put, by omega, by omega⟩ (by omega) (by omega))
    refine ev_neg k6 ?_
    unfold spec_l3Step.f
    by_cases k1 : s.f0 = 1
    · rw [if_pos k1]
      have hlk := look_inR hl x hM.put s.f2
      refine (ev_pos k1 ((l3Look_ev l x y 0 0 s.f2 hl.1 (by omega) (by omega) (by omega) (by omega)).bind (ev_pos (by omega) (ev_pos (by omega) (chk (g.set s.f1.toNat (look l x y s.f2).1) (look l x y s.f2).2 y (by rw [List.length_set]; exact g4) (fun _ => by omega) (fun _ => by rw [rset _ (by omega) (by omega)]; exact hlk)))))).bind ?_
      exact go (g.set s.f1.toNat (look l x y s.f2).1) (look l x y s.f2).2 y (by rw [List.length_set]; exact g4) (inR_set hM.reg hlk) hM.put (by have := look_len l x y s.f2; omega) (by omega)
    rw [if_neg k1]
    by_cases k2 : s.f0 = 2
    · rw [if_pos k2]
      refine (ev_neg k1 (ev_pos k2 (ev_pos (by omega) (ev_pos (by omega) ((l3Put_ev x y 0 0 s.f1 (rd g s.f2) (by omega)).bind (chk g x (putP y s.f1 (rd g s.f2)) g4 (fun h => absurd k2 h) (fun h => absurd k2 h))))))).bind ?_
      exact go g x (putP y s.f1 (rd g s.f2)) g4 hM.reg (putP_inR hM.put _ (rd_inR hM.reg _)) (by omega) (by have := putP_len y s.f1 (rd g s.f2); omega)
    rw [if_neg k2]
    by_cases k3 : s.f0 = 3
    · rw [if_pos k3]
      have hv : inR s.f3 := by unfold inR; omega
      refine (ev_neg k1 (ev_neg k2 (ev_pos k3 (ev_pos (by omega) (ev_pos (by omega) (chk (g.set s.f1.toNat s.f3) x y (by rw [List.length_set]; exact g4) (fun _ => by omega) (fun _ => by rw [rset _ (by omega) (by omega)]; exact hv))))))).bind ?_
      exact go (g.set s.f1.toNat s.f3) x y (by rw [List.length_set]; exact g4) (inR_set hM.reg hv) hM.put (by omega) (by omega)
    rw [if_neg k3]
    have ra := rd_inR hM.reg s.f1
    have rb := rd_inR hM.reg s.f2
    unfold inR at ra rb
    by_cases k4 : s.f0 = 4
    · rw [if_pos k4]
      have hw3 : wrap64 (rd g s.f1 + rd g s.f2) = rd g s.f1 + rd g s.f2 := wrap_id (by omega) (by omega)
      rw [hw3]
      by_cases hv : inR (rd g s.f1 + rd g s.f2)
      · rw [if_pos hv]
        refine (ev_neg k1 (ev_neg k2 (ev_neg k3 (ev_pos k4 (ev_pos (by omega) (ev_pos (by omega) (ev_pos (by omega) (ev_pos (by omega) (chk (g.set s.f1.toNat (rd g s.f1 + rd g s.f2)) x y (by rw [List.length_set]; exact g4) (fun _ => by omega) (fun _ => by rw [rset _ (by omega) (by omega)]; exact hv)))))))))).bind ?_
        exact go (g.set s.f1.toNat (rd g s.f1 + rd g s.f2)) x y (by rw [List.length_set]; exact g4) (inR_set hM.reg hv) hM.put (by omega) (by omega)
      · rw [if_neg hv]
        refine (ev_neg k1 (ev_neg k2 (ev_neg k3 (ev_pos k4 (ev_pos (by omega) (ev_pos (by omega) (ev_pos (by omega) (ev_pos (by omega) (bad (g.set s.f1.toNat (rd g s.f1 + rd g s.f2)) 0 (by rw [List.length_set]; exact g4) k2 (by omega) (by rw [rset _ (by omega) (by omega)]; exact hv)))))))))).bind ?_
        exact sRun_end l p _ _ x y 0 2 (by omega)
    rw [if_neg k4]
    by_cases k5 : s.f0 = 5
    · rw [if_pos k5]
      have hw3 : wrap64 (rd g s.f1 - rd g s.f2) = rd g s.f1 - rd g s.f2 := wrap_id (by omega) (by omega)
      rw [hw3]
      by_cases hv : inR (rd g s.f1 - rd g s.f2)
      · rw [if_pos hv]
        refine (ev_neg k1 (ev_neg k2 (ev_neg k3 (ev_neg k4 (ev_pos k5 (ev_pos (by omega) (ev_pos (by omega) (ev_pos (by omega) (ev_pos (by omega) (chk (g.set s.f1.toNat (rd g s.f1 - rd g s.f2)) x y (by rw [List.length_set]; exact g4) (fun _ => by omega) (fun _ => by rw [rset _ (by omega) (by omega)]; exact hv))))))))))).bind ?_
        exact go (g.set s.f1.toNat (rd g s.f1 - rd g s.f2)) x y (by rw [List.length_set]; exact g4) (inR_set hM.reg hv) hM.put (by omega) (by omega)
      · rw [if_neg hv]
        refine (ev_neg k1 (ev_neg k2 (ev_neg k3 (ev_neg k4 (ev_pos k5 (ev_pos (by omega) (ev_pos (by omega) (ev_pos (by omega) (ev_pos (by omega) (bad (g.set s.f1.toNat (rd g s.f1 - rd g s.f2)) 0 (by rw [List.length_set]; exact g4) k2 (by omega) (by rw [rset _ (by omega) (by omega)]; exact hv))))))))))).bind ?_
        exact sRun_end l p _ _ x y 0 2 (by omega)
    rw [if_neg k5, if_neg k6]
    have k7 : s.f0 = 7 := by omega
    have fin : Ev (fun k => spec_l3Step.j0 k g x y 0 1 s.f0 s.f1 s.f2 s.f3) (x, y, 0, 1, g) := by
      refine Ev.step (fun k => by rw [spec_l3Step.j0]) ?_
      refine ev_neg k2 (ev_pos (by omega) (ev_pos (by omega) (ev_get (l1Num_dec _) ?_)))
      exact ev_pos (by simpa using ra) (ev_now _)
    refine (ev_neg k1 (ev_neg k2 (ev_neg k3 (ev_neg k4 (ev_neg k5 (ev_pos k7 fin)))))).bind ?_
    exact sRun_end l p _ _ x y 0 1 (by omega)

theorem in_some (a b c : Int) : ∃ v, impl_in.f a b c = some v ∧ (v = true ↔ b ≤ a ∧ a ≤ c) := by
  unfold impl_in.f
  by_cases h : a ≥ b
  · exact ⟨decide (a ≤ c), by simp [h], by simp; omega⟩
  · exact ⟨false, by simp [h], by simp; omega⟩
theorem impl_BoxOk_ev (l : List S37) (hn : l.length ≤ 9223372036854775807) : ∃ v, Ev (fun k => impl_BoxOk.f k l) v ∧ (v = true ↔ boxOk l) := by
  classical
  have key := ev_loop l.length (fun i k => impl_BoxOk.l0 k l l (l.length : Int) (i : Int)) (fun i => decide ((∀ b ∈ l.drop i, boxIn b) ∧ l.length = 4)) (fun i hi ih => by
      refine Ev.step (fun k => by rw [impl_BoxOk.l0]) ?_
      refine ev_pos (lt_cast hi) (ev_pos (nn_cast i) (ev_pos (lt_cast hi) ?_))
      rw [rd_box hi, wrap_succ hi hn]
      obtain ⟨v, hv, hvi⟩ := in_some (l[i]).f0 0 1000000
      obtain ⟨u, hu, hui⟩ := in_some (l[i]).f1 (-1000000) 1000000
      have hs := mem_split (p := boxIn) hi
      refine ev_get hv ?_
      by_cases h1 : v = true
      · refine ev_pos h1 (ev_get hu ?_)
        by_cases h2 : u = true
        · have : boxIn l[i] := by have := hvi.1 h1; have := hui.1 h2; unfold boxIn; omega
          simp only [hs, this, true_and]
          exact ev_pos h2 ih
        · have : ¬ boxIn l[i] := fun h => h2 (hui.2 (by unfold boxIn at h; omega))
          simp only [hs, this, false_and, decide_false]
          exact ev_neg h2 (ev_now _)
      · have : ¬ boxIn l[i] := fun h => h1 (hvi.2 (by unfold boxIn at h; omega))
        simp only [hs, this, false_and, decide_false]
        exact ev_neg h1 (ev_now _)) (by
      refine Ev.step (fun k => by rw [impl_BoxOk.l0]) ?_
      refine ev_neg (by omega) ?_
      have : ((l.length : Int) == 4) = decide ((∀ b ∈ l.drop l.length, boxIn b) ∧ l.length = 4) := by
        rw [List.drop_length]
        by_cases h : l.length = 4
        · simp [h]
        · have : (l.length : Int) ≠ 4 := by omega
          simp [h, this]
      rw [← this]
      exact ev_now _) 0 (Nat.zero_le _)
  exact ⟨_, Ev.congr (fun k => by unfold impl_BoxOk.f; exact rfl) key, by simp [boxOk, and_comm]⟩

theorem in_dec (a b c : Int) : impl_in.f a b c = some (decide (b ≤ a ∧ a ≤ c)) := by
  unfold impl_in.f
  by_cases h : a ≥ b
  · rw [if_pos h]; congr 1; rw [Bool.eq_iff_iff]; simp; omega
  · rw [if_neg h]; congr 1; rw [Bool.eq_iff_iff]; simp; omega

theorem insOk1_dec (a : Int) : impl_insOk_1.f a = some (decide (0 ≤ a ∧ a ≤ 3)) := by
  unfold impl_insOk_1.f
  rw [in_dec]; rfl
theorem insOk2_dec (a : Int) : impl_insOk_2.f a = some (decide (0 ≤ a ∧ a ≤ 3)) := by
  unfold impl_insOk_2.f
  rw [in_dec]; rfl
theorem insOk_ev (x : S95) : Ev (fun k => impl_insOk.f k x.f0 x.f1 x.f2 x.f3) (decide (insIn x)) := by
  obtain ⟨kd, a, b, n⟩ := x
  unfold impl_insOk.f
  simp only [insOk1_dec, insOk2_dec, in_dec, Option.bind_some, decide_eq_true_eq]
  have fin : ∀ {X : Option Bool}, X = some (decide (insIn ⟨kd, a, b, n⟩)) → Ev (fun _ => X) (decide (insIn ⟨kd, a, b, n⟩)) := fun h => ev_const h
  refine ev_ite (fun h => fin ?_) (fun h1 => ev_ite (fun h => fin ?_) (fun h2 => ev_ite (fun h => fin ?_) (fun h3 => ?_)))
  · repeat' split
    all_goals (congr 1; rw [Bool.eq_iff_iff]; simp only [decide_eq_true_eq, beq_iff_eq, Bool.false_eq_true]; simp only [insIn]; constructor <;> intro hh_ <;> first | exact hh_.elim | omega)
  · repeat' split
    all_goals (congr 1; rw [Bool.eq_iff_iff]; simp only [decide_eq_true_eq, beq_iff_eq, Bool.false_eq_true]; simp only [insIn]; constructor <;> intro hh_ <;> first | exact hh_.elim | omega)
  · repeat' split
    all_goals (congr 1; rw [Bool.eq_iff_iff]; simp only [decide_eq_true_eq, beq_iff_eq, Bool.false_eq_true]; simp only [insIn]; constructor <;> intro hh_ <;> first | exact hh_.elim | omega)
  · have key : ∀ t : Bool, (t = true ↔ kd = 4 ∨ kd = 5) → Ev (fun k => impl_insOk.j0 k kd t kd a b n) (decide (insIn ⟨kd, a, b, n⟩)) := by
      intro t ht
      refine Ev.step (fun k => by rw [impl_insOk.j0]) ?_
      simp only [insOk1_dec, insOk2_dec, in_dec, Option.bind_some, decide_eq_true_eq]
      refine fin ?_
      by_cases h4 : t = true
      · have := ht.1 h4
        rw [if_pos h4]
        repeat' split
        all_goals (congr 1; rw [Bool.eq_iff_iff]; simp only [decide_eq_true_eq, beq_iff_eq, Bool.false_eq_true]; simp only [insIn]; constructor <;> intro hh_ <;> first | exact hh_.elim | omega)
      · have : ¬ (kd = 4 ∨ kd = 5) := fun h => h4 (ht.2 h)
        rw [if_neg h4]
        repeat' split
        all_goals (congr 1; rw [Bool.eq_iff_iff]; simp only [decide_eq_true_eq, beq_iff_eq, Bool.false_eq_true]; simp only [insIn]; constructor <;> intro hh_ <;> first | exact hh_.elim | omega)
    refine ev_ite (fun h4 => key _ (by simp [h4])) (fun h4 => key _ (by simp [h4]))
theorem impl_ProgOk_ev (l : List S95) (hn : l.length ≤ 9223372036854775807) : ∃ v, Ev (fun k => impl_ProgOk.f k l) v ∧ (v = true ↔ progOk l) := by
  have key := ev_loop l.length (fun i k => impl_ProgOk.l0 k l l (l.length : Int) (i : Int)) (fun i => decide ((∀ b ∈ l.drop i, insIn b) ∧ l.length ≤ 10)) (fun i hi ih => by
      refine Ev.step (fun k => by rw [impl_ProgOk.l0]) ?_
      refine ev_pos (lt_cast hi) (ev_pos (nn_cast i) (ev_pos (lt_cast hi) ?_))
      rw [rdi_Ins hi, wrap_succ hi hn]
      refine (insOk_ev l[i]).bind ?_
      have hs : (∀ b ∈ l.drop i, insIn b) ↔ insIn l[i] ∧ ∀ b ∈ l.drop (i + 1), insIn b := mem_split (p := insIn) hi
      simp only [hs, decide_eq_true_eq]
      by_cases h1 : insIn l[i]
      · simp only [h1, true_and]
        exact ev_pos trivial ih
      · simp only [h1, false_and, decide_false]
        exact ev_neg (fun h => h) (ev_now _)) (by
      refine Ev.step (fun k => by rw [impl_ProgOk.l0]) ?_
      refine ev_neg (by omega) ?_
      have : decide ((l.length : Int) ≤ 10) = decide ((∀ b ∈ l.drop l.length, insIn b) ∧ l.length ≤ 10) := by
        rw [List.drop_length, Bool.eq_iff_iff]
        simp; omega
      rw [this]
      exact ev_now _) 0 (Nat.zero_le _)
  exact ⟨_, Ev.congr (fun k => by unfold impl_ProgOk.f; exact rfl) key, by simp [progOk, and_comm]⟩

theorem putAt_at (b : Int) (x : List S39) (y : List S82) (u v : Int) (hn : y.length ≤ 9223372036854775807) : Ev (fun k => impl_putAt.f k x y u v b) (atP b y 0) := by
  have key : ∀ d i, i + d = y.length → Ev (fun k => impl_putAt.l0 k b y (y.length : Int) (i : Int)) (atP b (y.drop i) (i : Int)) := by
    intro d
    induction d with
    | zero =>
      intro i hi
      obtain rfl : i = y.length := by omega
      rw [List.drop_length]
      refine Ev.step (fun k => by rw [impl_putAt.l0]) ?_
      exact ev_neg (by omega) (ev_now _)
    | succ d ih =>
      intro i hd
      have hi : i < y.length := by omega
      rw [List.drop_eq_getElem_cons hi]
      unfold atP
      refine Ev.step (fun k => by rw [impl_putAt.l0]) ?_
      refine ev_pos (lt_cast hi) (ev_pos (nn_cast i) (ev_pos (lt_cast hi) ?_))
      rw [rdi_Put hi, wrap_succ hi hn]
      by_cases c : (y[i]).f0 = b
      · rw [if_pos c]; exact ev_pos c (ev_now _)
      · rw [if_neg c]; exact ev_neg c (ih (i + 1) (by omega))
  unfold impl_putAt.f
  simpa using key y.length 0 (by omega)
theorem readAt_at (b : Int) (x : List S39) (y : List S82) (u v : Int) (hn : x.length ≤ 9223372036854775807) : Ev (fun k => impl_readAt.f k x y u v b) (atR b x 0) := by
  have key : ∀ d i, i + d = x.length → Ev (fun k => impl_readAt.l0 k b x (x.length : Int) (i : Int)) (atR b (x.drop i) (i : Int)) := by
    intro d
    induction d with
    | zero =>
      intro i hi
      obtain rfl : i = x.length := by omega
      rw [List.drop_length]
      refine Ev.step (fun k => by rw [impl_readAt.l0]) ?_
      exact ev_neg (by omega) (ev_now _)
    | succ d ih =>
      intro i hd
      have hi : i < x.length := by omega
      rw [List.drop_eq_getElem_cons hi]
      unfold atR
      refine Ev.step (fun k => by rw [impl_readAt.l0]) ?_
      refine ev_pos (lt_cast hi) (ev_pos (nn_cast i) (ev_pos (lt_cast hi) ?_))
      rw [rdi_Read hi, wrap_succ hi hn]
      by_cases c : (x[i]).f0 = b
      · rw [if_pos c]; exact ev_pos c (ev_now _)
      · rw [if_neg c]; exact ev_neg c (ih (i + 1) (by omega))
  unfold impl_readAt.f
  simpa using key x.length 0 (by omega)
theorem copR_some (x : List S39) (h : x.length ≤ 1000) : impl_copied_impl_Read.f x = some x := by
  unfold impl_copied_impl_Read.f; exact if_pos (by omega)
theorem copP_some (x : List S82) (h : x.length ≤ 1000) : impl_copied_impl_Put.f x = some x := by
  unfold impl_copied_impl_Put.f; exact if_pos (by omega)
theorem ixI_set (j v a b c d : Int) (h0 : 0 ≤ j) (h1 : j ≤ 3) : [ixI j 0 v a, ixI j 1 v b, ixI j 2 v c, ixI j 3 v d] = [a, b, c, d].set j.toNat v := by
  have : j = 0 ∨ j = 1 ∨ j = 2 ∨ j = 3 := by omega
  rcases this with rfl | rfl | rfl | rfl <;> simp [ixI]
/-- The registers are looked at behind each instruction. -/
theorem chk_ev (l : List S37) (p : List S95) (i : Int) (a b c d : Int) (x : List S39) (y : List S82) (u v : Int) (r : RunT) (hx : x.length ≤ 1000)
    (h1 : inR a → inR b → inR c → inR d → Ev (fun k => impl_ExecRun.l0 k l p (wrap64 (i + 1)) a b c d x y u v) r) (h2 : ¬ (inR a ∧ inR b ∧ inR c ∧ inR d) → r = (x, [], 0, 2)) : Ev (fun k => impl_ExecRun.j2 k l p i a b c d x y u v) r := by
  refine Ev.step (fun k => by rw [impl_ExecRun.j2]) ?_
  have one : ∀ (q : Int) (z : Int), 0 ≤ q → q < 4 → rd [a, b, c, d] q = z → (¬ inR z → ¬ (inR a ∧ inR b ∧ inR c ∧ inR d)) → (inR z → Ev (fun k => impl_ExecRun.l1 k l p i (q + 1) a b c d x y u v a b c d) r) → Ev (fun k => impl_ExecRun.l1 k l p i q a b c d x y u v a b c d) r := by
    intro q z q0 q4 hz hn hy
    refine Ev.step (fun k => by rw [impl_ExecRun.l1]) ?_
    have hw : wrap64 (q + 1) = q + 1 := wrap_id (by omega) (by omega)
    rw [hz, hw]
    refine ev_pos q4 (ev_pos q0 (ev_get (in_dec _ _ _) ?_))
    by_cases e : inR z
    · exact ev_pos (by simpa [inR] using e) (hy e)
    · refine ev_neg (by simpa [inR] using e) (ev_get (copR_some x hx) ?_)
      rw [h2 (hn e)]
      exact ev_now _
  refine one 0 a (by omega) (by omega) rfl (fun h g => h g.1) (fun ha => one 1 b (by omega) (by omega) rfl (fun h g => h g.2.1) (fun hb => one 2 c (by omega) (by omega) rfl (fun h g => h g.2.2.1) (fun hc => one 3 d (by omega) (by omega) rfl (fun h g => h g.2.2.2) (fun hd => ?_))))
  refine Ev.step (fun k => by rw [impl_ExecRun.l1]) ?_
  exact ev_neg (by omega) (h1 ha hb hc hd)
theorem iRun_ev (l : List S37) (p : List S95) (hl : boxOk l) (hp : progOk p) : ∀ (f i : Nat) (a b c d : Int) (x : List S39) (y : List S82), Mid i [a, b, c, d] x y → i ≤ 30 → p.length < i + f →
    Ev (fun k => impl_ExecRun.l0 k l p (i : Int) a b c d x y 0 0) (runP l p f i [a, b, c, d] x y) := by
  intro f
  induction f with
  | zero =>
    intro i a b c d x y hM hi hf
    refine Ev.step (fun k => by rw [impl_ExecRun.l0]) ?_
    exact ev_neg (by omega) (ev_get (copR_some x (by have := hM.xl; omega)) (ev_get (copP_some y (by have := hM.yl; omega)) (ev_now _)))
  | succ f ih =>
    intro i a b c d x y hM hi hf
    have xl := hM.xl
    have yl := hM.yl
    unfold runP
    refine Ev.step (fun k => by rw [impl_ExecRun.l0]) ?_
    by_cases hin : i < p.length
    case neg =>
      rw [if_neg hin]
      exact ev_neg (by omega) (ev_get (copR_some x (by omega)) (ev_get (copP_some y (by omega)) (ev_now _)))
    rw [if_pos hin]
    refine ev_pos (lt_cast hin) (ev_pos (nn_cast i) ?_)
    have hs := hp.2 _ (List.getElem_mem hin)
    rw [← rdi_Ins hin] at hs
    have h10 := hp.1
    have hw : wrap64 ((i : Int) + 1) = ((i + 1 : Nat) : Int) := wrap_succ hin (by omega)
    generalize rd_T95 p (i : Int) = s at hs
    simp only
    unfold insIn at hs
    have all : ∀ {q w e t : Int}, (∀ v ∈ [q, w, e, t], inR v) → inR q ∧ inR w ∧ inR e ∧ inR t := by
      intro q w e t h
      exact ⟨h q (by simp), h w (by simp), h e (by simp), h t (by simp)⟩
    have all2 : ∀ {q w e t : Int}, inR q → inR w → inR e → inR t → ∀ v ∈ [q, w, e, t], inR v := by
      intro q w e t h1 h2 h3 h4 v hv
      simp only [List.mem_cons, List.not_mem_nil, or_false] at hv
      rcases hv with rfl | rfl | rfl | rfl <;> assumption
    -- behind an instruction whose registers are all in their range
    have go : ∀ (g' : List Int) (a' b' c' d' : Int) (x' : List S39) (y' : List S82), [a', b', c', d'] = g' → (∀ v ∈ g', inR v) → (∀ q ∈ y', inR q.f1) → x'.length ≤ i + 1 → y'.length ≤ i + 1 → Ev (fun k => impl_ExecRun.j2 k l p (i : Int) a' b' c' d' x' y' 0 0) (runP l p f (i + 1) g' x' y') := by
      intro g' a' b' c' d' x' y' hg hr hq hx hy
      subst hg
      refine chk_ev l p i a' b' c' d' x' y' 0 0 _ (by omega) (fun _ _ _ _ => ?_) (fun h => absurd (all hr) h)
      rw [hw]
      exact ih (i + 1) _ _ _ _ _ _ ⟨rfl, hr, hq, hx, hy⟩ (by omega) (by omega)
    have bad : ∀ (v : Int), 0 ≤ s.f1 → s.f1 ≤ 3 → ¬ inR v → Ev (fun k => impl_ExecRun.j2 k l p (i : Int) (ixI s.f1 0 v a) (ixI s.f1 1 v b) (ixI s.f1 2 v c) (ixI s.f1 3 v d) x y 0 0) (x, [], 0, 2) := by
      intro v h0 h3 hv
      refine chk_ev l p i _ _ _ _ x y 0 0 _ (by omega) (fun e1 e2 e3 e4 => ?_) (fun _ => rfl)
      have e := all2 e1 e2 e3 e4
      rw [ixI_set _ _ _ _ _ _ h0 h3] at e
      exact absurd (e v (List.mem_set (by simp; omega) _)) hv
    have set1 : ∀ v, 0 ≤ s.f1 → s.f1 ≤ 3 → inR v → ∀ (x' : List S39), x'.length ≤ i + 1 → Ev (fun k => impl_ExecRun.j2 k l p (i : Int) (ixI s.f1 0 v a) (ixI s.f1 1 v b) (ixI s.f1 2 v c) (ixI s.f1 3 v d) x' y 0 0) (runP l p f (i + 1) ([a, b, c, d].set s.f1.toNat v) x' y) := by
      intro v h0 h3 hv x' hx
      exact go _ _ _ _ _ x' y (ixI_set _ _ _ _ _ _ h0 h3) (inR_set hM.reg hv) hM.put hx (by omega)
    by_cases k1 : s.f0 = 1
    · rw [if_pos k1]
      refine ev_pos k1 ((putAt_at s.f2 x y 0 0 (by omega)).bind ?_)
      by_cases e : 0 ≤ atP s.f2 y 0
      · have hL : look l x y s.f2 = ((rd_T82 y (atP s.f2 y 0)).f1, x) := by unfold look; rw [if_pos e]
        rw [hL]
        refine ev_pos e (ev_pos e (ev_pos (atP_lt s.f2 y e) (ev_pos (by omega) (ev_pos (by omega) ?_))))
        exact set1 _ (by omega) (by omega) (put_inR hM.put _) x (by omega)
      · refine ev_neg e ((readAt_at s.f2 x y 0 0 (by omega)).bind ?_)
        by_cases r : 0 ≤ atR s.f2 x 0
        · have hL : look l x y s.f2 = ((rd_T37 l s.f2).f1, x) := by unfold look; rw [if_neg e, if_pos r]
          rw [hL]
          refine ev_neg (by omega) (ev_pos (by omega) (ev_pos (by have := hl.1; omega) (ev_pos (by omega) (ev_pos (by omega) ?_))))
          exact set1 _ (by omega) (by omega) (box_inR hl _) x (by omega)
        · have hL : look l x y s.f2 = ((rd_T37 l s.f2).f1, x ++ [⟨s.f2, (rd_T37 l s.f2).f0⟩]) := by unfold look; rw [if_neg e, if_neg r]
          rw [hL]
          refine ev_pos (by omega) (ev_pos (by omega) (ev_pos (by have := hl.1; omega) (ev_pos (by omega) (ev_pos (by omega) (ev_pos (by omega) ?_)))))
          exact set1 _ (by omega) (by omega) (box_inR hl _) _ (by simp; omega)
    rw [if_neg k1]
    refine ev_neg k1 ?_
    by_cases k2 : s.f0 = 2
    · rw [if_pos k2]
      refine ev_pos k2 ((putAt_at s.f1 x y 0 0 (by omega)).bind ?_)
      by_cases e : 0 ≤ atP s.f1 y 0
      · have hL : putP y s.f1 (rd [a, b, c, d] s.f2) = y.set (atP s.f1 y 0).toNat ⟨(rd_T82 y (atP s.f1 y 0)).f0, rd [a, b, c, d] s.f2⟩ := by unfold putP; rw [if_pos e]
        have hq := putP_inR hM.put s.f1 (rd_inR hM.reg s.f2)
        rw [hL] at hq ⊢
        refine ev_pos e (ev_pos (by omega) (ev_pos (by omega) (ev_pos e (ev_pos (atP_lt s.f1 y e) ?_))))
        exact go _ _ _ _ _ x _ rfl hM.reg hq (by omega) (by rw [List.length_set]; omega)
      · have hL : putP y s.f1 (rd [a, b, c, d] s.f2) = y ++ [⟨s.f1, rd [a, b, c, d] s.f2⟩] := by unfold putP; rw [if_neg e]
        have hq := putP_inR hM.put s.f1 (rd_inR hM.reg s.f2)
        rw [hL] at hq ⊢
        refine ev_neg e (ev_pos (by omega) (ev_pos (by omega) (ev_pos (by omega) ?_)))
        exact go _ _ _ _ _ x _ rfl hM.reg hq (by omega) (by simp; omega)
    rw [if_neg k2]
    refine ev_neg k2 ?_
    by_cases k3 : s.f0 = 3
    · rw [if_pos k3]
      refine ev_pos k3 (ev_pos (by omega) (ev_pos (by omega) ?_))
      exact set1 _ (by omega) (by omega) (by unfold inR; omega) x (by omega)
    rw [if_neg k3]
    refine ev_neg k3 ?_
    have ra := rd_inR hM.reg s.f1
    have rb := rd_inR hM.reg s.f2
    unfold inR at ra rb
    by_cases k4 : s.f0 = 4
    · rw [if_pos k4]
      have hw3 : wrap64 (rd [a, b, c, d] s.f1 + rd [a, b, c, d] s.f2) = rd [a, b, c, d] s.f1 + rd [a, b, c, d] s.f2 := wrap_id (by omega) (by omega)
      rw [hw3]
      refine ev_pos k4 (ev_pos (by omega) (ev_pos (by omega) (ev_pos (by omega) (ev_pos (by omega) ?_))))
      by_cases hv : inR (rd [a, b, c, d] s.f1 + rd [a, b, c, d] s.f2)
      · rw [if_pos hv]; exact set1 _ (by omega) (by omega) hv x (by omega)
      · rw [if_neg hv]; exact bad _ (by omega) (by omega) hv
    rw [if_neg k4]
    refine ev_neg k4 ?_
    by_cases k5 : s.f0 = 5
    · rw [if_pos k5]
      have hw3 : wrap64 (rd [a, b, c, d] s.f1 - rd [a, b, c, d] s.f2) = rd [a, b, c, d] s.f1 - rd [a, b, c, d] s.f2 := wrap_id (by omega) (by omega)
      rw [hw3]
      refine ev_pos k5 (ev_pos (by omega) (ev_pos (by omega) (ev_pos (by omega) (ev_pos (by omega) ?_))))
      by_cases hv : inR (rd [a, b, c, d] s.f1 - rd [a, b, c, d] s.f2)
      · rw [if_pos hv]; exact set1 _ (by omega) (by omega) hv x (by omega)
      · rw [if_neg hv]; exact bad _ (by omega) (by omega) hv
    rw [if_neg k5]
    refine ev_neg k5 ?_
    by_cases k6 : s.f0 = 6
    · rw [if_pos k6]
      refine ev_pos k6 (ev_pos (by omega) (ev_pos (by omega) (ev_pos (by omega) (ev_pos (by omega) ?_))))
      obtain ⟨ia, ib, ic, id⟩ := all hM.reg
      by_cases cc : rd [a, b, c, d] s.f1 < rd [a, b, c, d] s.f2
      · rw [if_pos cc]
        have hw2 : wrap64 (wrap64 ((i : Int) + s.f3) + 1) = ((i + s.f3.toNat + 1 : Nat) : Int) := by
          rw [wrap_id (a := (i : Int) + s.f3) (by omega) (by omega), wrap_id (by omega) (by omega)]; omega
        refine ev_pos cc (chk_ev l p _ a b c d x y 0 0 _ (by omega) (fun _ _ _ _ => ?_) (fun h => absurd ⟨ia, ib, ic, id⟩ h))
        rw [hw2]
        exact ih _ _ _ _ _ _ _ ⟨rfl, hM.reg, hM.put, by omega, by omega⟩ (by omega) (by omega)
      · rw [if_neg cc]
        exact ev_neg cc (go _ a b c d x y rfl hM.reg hM.put (by omega) (by omega))
    rw [if_neg k6]
    refine ev_neg k6 ?_
    exact ev_pos (by omega) (ev_get (copR_some x (by omega)) (ev_now _))

open Classical in
/-- What a program does on boxes. -/
noncomputable def runOf (l : List S37) (p : List S95) : RunT := if boxOk l ∧ progOk p then runP l p 12 0 [0, 0, 0, 0] [] [] else ([], [], 0, 3)
theorem mid0 : Mid 0 [0, 0, 0, 0] ([] : List S39) ([] : List S82) := ⟨rfl, by simp [inR], by simp, by simp, by simp⟩
theorem spec_ExecRun_ev (l : List S37) (p : List S95) (hl : l.length ≤ 9223372036854775807) (hp : p.length ≤ 9223372036854775807) : Ev (fun k => spec_ExecRun.f k l p) (runOf l p) := by
  obtain ⟨u, hu, hui⟩ := spec_BoxOk_ev l hl
  obtain ⟨w, hw, hwi⟩ := spec_ProgOk_ev p hp
  have yes : Ev (fun k => spec_ExecRun.j0 k l p true) ([], [], 0, 3) := by
    refine Ev.step (fun k => by rw [spec_ExecRun.j0]) ?_
    exact ev_pos rfl (ev_now _)
  unfold spec_ExecRun.f runOf
  rw [← hui, ← hwi]
  cases u with
  | false => rw [if_neg (by simp)]; exact hu.bind (ev_neg (by simp) yes)
  | true =>
    cases w with
    | false => rw [if_neg (by simp)]; exact hu.bind (ev_pos rfl (hw.bind yes))
    | true =>
      rw [if_pos ⟨rfl, rfl⟩]
      refine hu.bind (ev_pos rfl (hw.bind ?_))
      refine Ev.step (fun k => by rw [spec_ExecRun.j0]) ?_
      refine ev_neg (by simp) (ev_pos (by omega) ?_)
      exact sRun_ev l p (hui.1 rfl) (hwi.1 rfl) 12 0 _ _ _ mid0 (by omega) (by have := (hwi.1 rfl).1; omega)
theorem impl_ExecRun_ev (l : List S37) (p : List S95) (hl : l.length ≤ 9223372036854775807) (hp : p.length ≤ 9223372036854775807) : Ev (fun k => impl_ExecRun.f k l p) (runOf l p) := by
  obtain ⟨u, hu, hui⟩ := impl_BoxOk_ev l hl
  obtain ⟨w, hw, hwi⟩ := impl_ProgOk_ev p hp
  have yes : Ev (fun k => impl_ExecRun.j0 k l p true) ([], [], 0, 3) := by
    refine Ev.step (fun k => by rw [impl_ExecRun.j0]) ?_
    exact ev_pos rfl (ev_now _)
  unfold impl_ExecRun.f runOf
  rw [← hui, ← hwi]
  cases u with
  | false => rw [if_neg (by simp)]; exact hu.bind (ev_neg (by simp) yes)
  | true =>
    cases w with
    | false => rw [if_neg (by simp)]; exact hu.bind (ev_pos rfl (hw.bind yes))
    | true =>
      rw [if_pos ⟨rfl, rfl⟩]
      refine hu.bind (ev_pos rfl (hw.bind ?_))
      refine Ev.step (fun k => by rw [impl_ExecRun.j0]) ?_
      refine ev_neg (by simp) ?_
      exact iRun_ev l p (hui.1 rfl) (hwi.1 rfl) 12 0 _ _ _ _ _ _ mid0 (by omega) (by have := (hwi.1 rfl).1; omega)

theorem runP_len (l : List S37) (p : List S95) : ∀ (f i : Nat) (g : List Int) (x : List S39) (y : List S82), (runP l p f i g x y).1.length ≤ x.length + f ∧ (runP l p f i g x y).2.1.length ≤ y.length + f := by
  intro f
  induction f with
  | zero => intro i g x y; exact ⟨Nat.le_refl _, Nat.le_refl _⟩
  | succ f ih =>
    intro i g x y
    have done : ∀ (c : Int), ((x, [], 0, c) : RunT).1.length ≤ x.length + (f + 1) ∧ ((x, [], 0, c) : RunT).2.1.length ≤ y.length + (f + 1) := by
      intro c; simp
    have go : ∀ i' g' (x' : List S39) (y' : List S82), x'.length ≤ x.length + 1 → y'.length ≤ y.length + 1 → (runP l p f i' g' x' y').1.length ≤ x.length + (f + 1) ∧ (runP l p f i' g' x' y').2.1.length ≤ y.length + (f + 1) := by
      intro i' g' x' y' h1 h2
      have := ih i' g' x' y'
      omega
    unfold runP
    by_cases hin : i < p.length
    case neg => rw [if_neg hin]; simp
    rw [if_pos hin]
    simp only
    split
    · exact go _ _ _ _ (look_len _ _ _ _) (by omega)
    split
    · exact go _ _ _ _ (by omega) (putP_len _ _ _)
    split
    · exact go _ _ _ _ (by omega) (by omega)
    split
    · split
      · exact go _ _ _ _ (by omega) (by omega)
      · exact done 2
    split
    · split
      · exact go _ _ _ _ (by omega) (by omega)
      · exact done 2
    split
    · exact go _ _ _ _ (by omega) (by omega)
    · exact done 1
theorem runOf_len (l : List S37) (p : List S95) : (runOf l p).1.length ≤ 12 ∧ (runOf l p).2.1.length ≤ 12 := by
  unfold runOf
  by_cases h : boxOk l ∧ progOk p
  · rw [if_pos h]
    have := runP_len l p 12 0 [0, 0, 0, 0] [] []
    simpa using this
  · rw [if_neg h]; simp

/-- From place i on: each names a box, is good, and names none that stands ahead of it. -/
def okFrom {α : Type} (key : α → Int) (good : α → Prop) (l : List α) (i : Nat) : Prop := ∀ j (h : j < l.length), i ≤ j → (0 ≤ key l[j] ∧ key l[j] ≤ 3) ∧ good l[j] ∧ key l[j] ∉ (l.take j).map key
theorem okFrom_step {α : Type} (key : α → Int) (good : α → Prop) (l : List α) {i : Nat} (h : i < l.length) :
    okFrom key good l i ↔ ((0 ≤ key l[i] ∧ key l[i] ≤ 3) ∧ good l[i] ∧ key l[i] ∉ (l.take i).map key) ∧ okFrom key good l (i + 1) := by
  constructor
  · intro g
    exact ⟨g i h (Nat.le_refl _), fun j hj hij => g j hj (by omega)⟩
  · rintro ⟨a, b⟩ j hj hij
    by_cases e : j = i
    · subst e; exact a
    · exact b j hj (by omega)
theorem okFrom_end {α : Type} (key : α → Int) (good : α → Prop) (l : List α) : okFrom key good l l.length := fun j hj hij => absurd hij (by omega)
/-- Which boxes are named in the first i. -/
noncomputable def namedIn {α : Type} (key : α → Int) (l : List α) (i : Nat) (b : Int) : Bool := @decide (b ∈ (l.take i).map key) (Classical.propDecidable _)
theorem namedIn_iff {α : Type} (key : α → Int) (l : List α) (i : Nat) (b : Int) : namedIn key l i b = true ↔ b ∈ (l.take i).map key := by
  unfold namedIn
  exact @decide_eq_true_iff _ (Classical.propDecidable _)
theorem namedIn_zero {α : Type} (key : α → Int) (l : List α) (b : Int) : namedIn key l 0 b = false := by
  rw [Bool.eq_false_iff]
  intro h
  rw [namedIn_iff] at h
  simp at h
theorem namedIn_succ {α : Type} (key : α → Int) (l : List α) {i : Nat} (h : i < l.length) (b : Int) : ixB (key l[i]) b true (namedIn key l i b) = namedIn key l (i + 1) b := by
  rw [Bool.eq_iff_iff, namedIn_iff, List.take_succ_eq_append_getElem h]
  unfold ixB
  simp only [List.map_append, List.mem_append, List.map_cons, List.map_nil, List.mem_singleton]
  by_cases e : key l[i] = b
  · rw [if_pos e]; exact ⟨fun _ => .inr e.symm, fun _ => rfl⟩
  · rw [if_neg e, namedIn_iff]
    exact ⟨fun g => .inl g, fun g => g.elim id (fun g => absurd g.symm e)⟩
theorem rd_four (F : Int → Bool) (a : Int) (h0 : 0 ≤ a) (h1 : a ≤ 3) : rdOf false [F 0, F 1, F 2, F 3] a = F a := by
  have : a = 0 ∨ a = 1 ∨ a = 2 ∨ a = 3 := by omega
  rcases this with rfl | rfl | rfl | rfl <;> rfl

def rGood (x : S39) : Prop := 0 ≤ x.f1 ∧ x.f1 ≤ 1000000
def pGood (x : S82) : Prop := -1000000 ≤ x.f1 ∧ x.f1 ≤ 1000000
def rKey (x : S39) : Int := x.f0
def pKey (x : S82) : Int := x.f0
/-- A run that is right. -/
def runOk (x : List S39) (y : List S82) (a b : Int) : Prop :=
  (0 ≤ b ∧ b ≤ 3) ∧ (-1000000 ≤ a ∧ a ≤ 1000000) ∧ (b ≠ 0 → a = 0 ∧ ¬ (y.length : Int) > 0) ∧ (b = 3 → ¬ (x.length : Int) > 0) ∧ okFrom rKey rGood x 0 ∧ okFrom pKey pGood y 0

theorem okFrom_iff {α : Type} (key : α → Int) (good : α → Prop) (l : List α) : okFrom key good l 0 ↔ (∀ e ∈ l, (0 ≤ key e ∧ key e ≤ 3) ∧ good e) ∧ (l.map key).Nodup := by
  constructor
  · intro h
    refine ⟨fun e he => ?_, ?_⟩
    · obtain ⟨j, hj, rfl⟩ := List.mem_iff_getElem.1 he
      have := h j hj (Nat.zero_le _)
      exact ⟨this.1, this.2.1⟩
    · rw [List.nodup_iff_pairwise_ne, List.pairwise_iff_getElem]
      intro i j hi hj hij
      simp only [List.length_map] at hi hj
      simp only [List.getElem_map]
      intro e
      refine (h j hj (Nat.zero_le _)).2.2 ?_
      rw [← e]
      exact List.mem_map.2 ⟨l[i], List.mem_take_iff_getElem.2 ⟨i, by omega, rfl⟩, rfl⟩
  · rintro ⟨h, hn⟩ j hj _
    have := h _ (List.getElem_mem hj)
    refine ⟨this.1, this.2, fun hm => ?_⟩
    obtain ⟨e, he, hk⟩ := List.mem_map.1 hm
    obtain ⟨i, hi, rfl⟩ := List.mem_take_iff_getElem.1 he
    rw [List.nodup_iff_pairwise_ne, List.pairwise_iff_getElem] at hn
    have := hn i j (by simp; omega) (by simpa using hj) (by omega)
    simp only [List.getElem_map] at this
    exact this hk
/-- Reads and puts in the midst of a run. -/
def readsIn (x : List S39) : Prop := (∀ e ∈ x, (0 ≤ rKey e ∧ rKey e ≤ 3) ∧ rGood e) ∧ (x.map rKey).Nodup
def putsIn (y : List S82) : Prop := (∀ e ∈ y, (0 ≤ pKey e ∧ pKey e ≤ 3) ∧ pGood e) ∧ (y.map pKey).Nodup
theorem nodup_snoc {l : List Int} {b : Int} (h : l.Nodup) (hb : b ∉ l) : (l ++ [b]).Nodup := by
  rw [List.nodup_append]
  exact ⟨h, by simp, by intro a ha c hc; rw [List.mem_singleton.1 hc]; rintro rfl; exact hb ha⟩
theorem atP_some {b : Int} {y : List S82} (h : 0 ≤ atP b y 0) : ∃ j : Nat, ∃ hj : j < y.length, atP b y 0 = (j : Int) ∧ (y[j]).f0 = b := by
  rcases atP_prop b y 0 (by omega) with ⟨e, _⟩ | ⟨j, hj, e, g⟩
  · omega
  · exact ⟨j, hj, by omega, g⟩
theorem atP_none {b : Int} {y : List S82} (h : ¬ 0 ≤ atP b y 0) : ∀ p ∈ y, p.f0 ≠ b := by
  rcases atP_prop b y 0 (by omega) with ⟨_, g⟩ | ⟨j, hj, e, g⟩
  · exact g
  · omega
theorem atR_none {b : Int} {y : List S39} (h : ¬ 0 ≤ atR b y 0) : ∀ p ∈ y, p.f0 ≠ b := by
  rcases atR_prop b y 0 (by omega) with ⟨_, g⟩ | ⟨j, hj, e, g⟩
  · exact g
  · omega
theorem putP_map {y : List S82} {b v : Int} (h : 0 ≤ atP b y 0) : (putP y b v).map pKey = y.map pKey := by
  obtain ⟨j, hj, e, g⟩ := atP_some h
  unfold putP
  rw [if_pos h, e, Int.toNat_natCast, rdi_Put hj, List.map_set]
  have : pKey ⟨(y[j]).f0, v⟩ = (y.map pKey)[j]'(by simpa using hj) := by simp [pKey]
  rw [this, List.set_getElem_self]
theorem putP_in {y : List S82} {b v : Int} (h : putsIn y) (h0 : 0 ≤ b) (h3 : b ≤ 3) (hv : inR v) : putsIn (putP y b v) := by
  by_cases c : 0 ≤ atP b y 0
  · refine ⟨?_, by rw [putP_map c]; exact h.2⟩
    obtain ⟨j, hj, e, g⟩ := atP_some c
    unfold putP
    rw [if_pos c, e, Int.toNat_natCast, rdi_Put hj]
    intro q hq
    rcases List.mem_or_eq_of_mem_set hq with h1 | h1
    · exact h.1 q h1
    · rw [h1]; exact ⟨(h.1 _ (List.getElem_mem hj)).1, hv⟩
  · unfold putP
    rw [if_neg c]
    refine ⟨?_, ?_⟩
    · intro q hq
      rcases List.mem_append.1 hq with h1 | h1
      · exact h.1 q h1
      · rw [List.mem_singleton.1 h1]; exact ⟨⟨h0, h3⟩, hv⟩
    · rw [List.map_append]
      refine nodup_snoc h.2 ?_
      intro hm
      obtain ⟨p, hp, hk⟩ := List.mem_map.1 hm
      exact atP_none c p hp hk
theorem look_in {l : List S37} (hl : boxOk l) {x : List S39} (y : List S82) {b : Int} (h : readsIn x) (h0 : 0 ≤ b) (h3 : b ≤ 3) : readsIn (look l x y b).2 := by
  unfold look
  by_cases c : 0 ≤ atP b y 0
  · rw [if_pos c]; exact h
  · rw [if_neg c]
    by_cases d : 0 ≤ atR b x 0
    · simp only [if_pos d]; exact h
    · simp only [if_neg d]
      refine ⟨?_, ?_⟩
      · intro q hq
        rcases List.mem_append.1 hq with h1 | h1
        · exact h.1 q h1
        · rw [List.mem_singleton.1 h1]
          obtain ⟨n, rfl⟩ := Int.eq_ofNat_of_zero_le h0
          have hn : n < l.length := by have := hl.1; omega
          refine ⟨⟨h0, h3⟩, ?_⟩
          rw [rd_box hn]
          have := hl.2 _ (List.getElem_mem hn)
          unfold boxIn at this
          unfold rGood
          simp only
          omega
      · rw [List.map_append]
        refine nodup_snoc h.2 ?_
        intro hm
        obtain ⟨p, hp, hk⟩ := List.mem_map.1 hm
        exact atR_none d p hp hk
/-- What a run that was begun well leaves: right. -/
theorem runP_ok (l : List S37) (p : List S95) (hl : boxOk l) (hp : progOk p) : ∀ (f i : Nat) (g : List Int) (x : List S39) (y : List S82), (∀ v ∈ g, inR v) → readsIn x → putsIn y →
    readsIn (runP l p f i g x y).1 ∧ putsIn (runP l p f i g x y).2.1 ∧ inR (runP l p f i g x y).2.2.1 ∧ (0 ≤ (runP l p f i g x y).2.2.2 ∧ (runP l p f i g x y).2.2.2 ≤ 2) ∧ ((runP l p f i g x y).2.2.2 ≠ 0 → (runP l p f i g x y).2.2.1 = 0 ∧ (runP l p f i g x y).2.1 = []) := by
  intro f
  induction f with
  | zero => intro i g x y hg hx hy; exact ⟨hx, hy, rd_inR hg 0, by simp [runP], by simp [runP]⟩
  | succ f ih =>
    intro i g x y hg hx hy
    have nil : putsIn [] := ⟨by simp, by simp⟩
    unfold runP
    by_cases hin : i < p.length
    case neg => rw [if_neg hin]; exact ⟨hx, hy, rd_inR hg 0, by simp, by simp⟩
    rw [if_pos hin]
    have hs := hp.2 _ (List.getElem_mem hin)
    rw [← rdi_Ins hin] at hs
    generalize rd_T95 p (i : Int) = s at hs
    simp only
    unfold insIn at hs
    by_cases k1 : s.f0 = 1
    · simp only [if_pos k1]
      exact ih _ _ _ _ (inR_set hg (look_inR hl x (fun q hq => (hy.1 q hq).2) _)) (look_in hl y hx (by omega) (by omega)) hy
    simp only [if_neg k1]
    by_cases k2 : s.f0 = 2
    · simp only [if_pos k2]
      exact ih _ _ _ _ hg hx (putP_in hy (by omega) (by omega) (rd_inR hg _))
    simp only [if_neg k2]
    by_cases k3 : s.f0 = 3
    · simp only [if_pos k3]
      exact ih _ _ _ _ (inR_set hg (by unfold inR; omega)) hx hy
    simp only [if_neg k3]
    by_cases k4 : s.f0 = 4
    · simp only [if_pos k4]
      by_cases hv : inR (rd g s.f1 + rd g s.f2)
      · simp only [if_pos hv]; exact ih _ _ _ _ (inR_set hg hv) hx hy
      · simp only [if_neg hv]; exact ⟨hx, nil, by simp [inR], by simp, by simp⟩
    simp only [if_neg k4]
    by_cases k5 : s.f0 = 5
    · simp only [if_pos k5]
      by_cases hv : inR (rd g s.f1 - rd g s.f2)
      · simp only [if_pos hv]; exact ih _ _ _ _ (inR_set hg hv) hx hy
      · simp only [if_neg hv]; exact ⟨hx, nil, by simp [inR], by simp, by simp⟩
    simp only [if_neg k5]
    by_cases k6 : s.f0 = 6
    · simp only [if_pos k6]; exact ih _ _ _ _ hg hx hy
    simp only [if_neg k6]
    exact ⟨hx, nil, by simp [inR], by simp, by simp⟩
theorem runOf_ok (l : List S37) (p : List S95) : runOk (runOf l p).1 (runOf l p).2.1 (runOf l p).2.2.1 (runOf l p).2.2.2 := by
  unfold runOf
  by_cases h : boxOk l ∧ progOk p
  · rw [if_pos h]
    obtain ⟨a, b, c, d, e⟩ := runP_ok l p h.1 h.2 12 0 [0, 0, 0, 0] [] [] (by simp [inR]) ⟨by simp, by simp⟩ ⟨by simp, by simp⟩
    refine ⟨by omega, c, fun hc => ⟨(e hc).1, by rw [(e hc).2]; simp⟩, fun h3 => by omega, (okFrom_iff _ _ _).2 a, (okFrom_iff _ _ _).2 b⟩
  · rw [if_neg h]
    exact ⟨by simp, by simp, fun _ => by simp, fun _ => by simp, by intro j hj; simp at hj, by intro j hj; simp at hj⟩

theorem runOk_puts {x : List S39} {y : List S82} {a b : Int} (h : runOk x y a b) (i : Nat) (hi : i < y.length) : 0 ≤ (y[i]).f0 ∧ (y[i]).f0 ≤ 3 := (h.2.2.2.2.2 i hi (Nat.zero_le _)).1

/-- What a put makes of the boxes. -/
def put1 (l : List S37) (p : S82) : List S37 := l.set p.f0.toNat ⟨mn 1000000 (wrap64 ((rd_T37 l p.f0).f0 + 1)), p.f1⟩
theorem put1_len (l : List S37) (p : S82) : (put1 l p).length = l.length := by unfold put1; rw [List.length_set]
theorem puts_len (y : List S82) : ∀ l : List S37, (y.foldl put1 l).length = l.length := by
  induction y with
  | nil => intro l; rfl
  | cons p y ih => intro l; rw [List.foldl_cons, ih, put1_len]
open Classical in
/-- What a run makes of the boxes; none, if boxes or run are not right. -/
noncomputable def doneBy (l : List S37) (x : List S39) (y : List S82) (a b : Int) : List S37 := if boxOk l ∧ runOk x y a b then y.foldl put1 l else []
theorem doneBy_len (l : List S37) (x : List S39) (y : List S82) (a b : Int) : (doneBy l x y a b).length ≤ 4 := by
  unfold doneBy
  by_cases h : boxOk l ∧ runOk x y a b
  · rw [if_pos h, puts_len, h.1.1]; omega
  · rw [if_neg h]; simp

theorem runOf_ne3 {l : List S37} {p : List S95} (h : (runOf l p).2.2.2 ≠ 3) : boxOk l ∧ progOk p := by
  by_cases c : boxOk l ∧ progOk p
  · exact c
  · unfold runOf at h; rw [if_neg c] at h; exact absurd rfl h
/-- What a program alone makes of the boxes, what it says, and its code. -/
noncomputable def serialOf (l : List S37) (p : List S95) : List S37 × Int × Int :=
  if (runOf l p).2.2.2 = 3 then ([], 0, 3) else (doneBy l (runOf l p).1 (runOf l p).2.1 (runOf l p).2.2.1 (runOf l p).2.2.2, (runOf l p).2.2.1, (runOf l p).2.2.2)
theorem serialOf_len (l : List S37) (p : List S95) : (serialOf l p).1.length ≤ 4 := by
  unfold serialOf
  by_cases h : (runOf l p).2.2.2 = 3
  · rw [if_pos h]; simp
  · rw [if_neg h]; exact doneBy_len _ _ _ _ _

theorem mn_cases (a b : Int) : (b ≤ a ∧ mn a b = b) ∨ (a ≤ b ∧ mn a b = a) := by unfold mn; split <;> omega
theorem box_rd {l : List S37} (h : boxOk l) {b : Int} (b0 : 0 ≤ b) (b3 : b ≤ 3) : boxIn (rd_T37 l b) := by
  have h4 := h.1
  obtain ⟨n, rfl⟩ : ∃ n : Nat, b = (n : Int) := ⟨b.toNat, by omega⟩
  rw [rd_box (by omega)]
  exact h.2 _ (List.getElem_mem _)
theorem put1_ok {l : List S37} {p : S82} (hl : boxOk l) (h0 : 0 ≤ p.f0) (h3 : p.f0 ≤ 3) (hg : pGood p) : boxOk (put1 l p) := by
  refine ⟨by rw [put1_len]; exact hl.1, fun b hb => ?_⟩
  unfold put1 at hb
  rcases List.mem_or_eq_of_mem_set hb with h | h
  · exact hl.2 b h
  · have hr := box_rd hl h0 h3
    rw [h]
    unfold boxIn at hr ⊢
    unfold pGood at hg
    have hw : wrap64 ((rd_T37 l p.f0).f0 + 1) = (rd_T37 l p.f0).f0 + 1 := wrap_id (by omega) (by omega)
    simp only
    rw [hw]
    clear hw
    rcases mn_cases 1000000 ((rd_T37 l p.f0).f0 + 1) with ⟨_, e⟩ | ⟨_, e⟩ <;> rw [e] <;> omega
theorem puts_ok : ∀ (y : List S82) (l : List S37), boxOk l → (∀ e ∈ y, (0 ≤ pKey e ∧ pKey e ≤ 3) ∧ pGood e) → boxOk (y.foldl put1 l) := by
  intro y
  induction y with
  | nil => intro l h _; exact h
  | cons p r ih =>
    intro l h hy
    have hp := hy p (by simp)
    unfold pKey at hp
    rw [List.foldl_cons]
    exact ih _ (put1_ok h hp.1.1 hp.1.2 hp.2) (fun e he => hy e (by simp [he]))
theorem runOk_putsIn {x : List S39} {y : List S82} {a b : Int} (h : runOk x y a b) : putsIn y := (okFrom_iff _ _ _).1 h.2.2.2.2.2
/-- Programs one behind the other, each alone; none, once one is not right. -/
noncomputable def serRun : List (List S95) → List S37 → Option (List S37 × List Int)
  | [], x => some (x, [])
  | p :: r, x => if (serialOf x p).2.2 = 3 then none else (serRun r (serialOf x p).1).map fun z => (z.1, (serialOf x p).2.1 :: z.2)
open Classical in
noncomputable def serAll (l : List S37) (ps : List (List S95)) : List S37 × List Int := if boxOk l ∧ ps.length ≤ 100 then (serRun ps l).getD ([], []) else ([], [])
theorem serRun_cons (p : List S95) (r : List (List S95)) (x : List S37) : serRun (p :: r) x = if (serialOf x p).2.2 = 3 then none else (serRun r (serialOf x p).1).map fun z => (z.1, (serialOf x p).2.1 :: z.2) := rfl
theorem serialOf_ok {x : List S37} {p : List S95} (h : (serialOf x p).2.2 ≠ 3) : boxOk (serialOf x p).1 := by
  have h3 : (runOf x p).2.2.2 ≠ 3 := by
    intro e; apply h; unfold serialOf; rw [if_pos e]
  have hb := (runOf_ne3 h3).1
  have hok := runOf_ok x p
  have e : (serialOf x p).1 = (runOf x p).2.1.foldl put1 x := by
    unfold serialOf; rw [if_neg h3]; unfold doneBy; exact if_pos ⟨hb, hok⟩
  rw [e]; exact puts_ok _ _ hb (runOk_putsIn hok).1
theorem serRun_ok : ∀ {ps : List (List S95)} {x : List S37} {z : List S37 × List Int}, boxOk x → serRun ps x = some z → boxOk z.1 ∧ z.2.length = ps.length := by
  intro ps
  induction ps with
  | nil => intro x z hx h; unfold serRun at h; cases h; exact ⟨hx, rfl⟩
  | cons p r ih =>
    intro x z hx h
    unfold serRun at h
    by_cases c : (serialOf x p).2.2 = 3
    · rw [if_pos c] at h; cases h
    rw [if_neg c] at h
    cases h2 : serRun r (serialOf x p).1 with
    | none => rw [h2] at h; cases h
    | some u =>
      rw [h2] at h; cases h
      have := ih (serialOf_ok c) h2
      exact ⟨this.1, by simp [this.2]⟩
theorem serAll_cases (l : List S37) (ps : List (List S95)) : serAll l ps = ([], []) ∨ (boxOk l ∧ ps.length ≤ 100 ∧ serRun ps l = some (serAll l ps)) := by
  unfold serAll
  by_cases h : boxOk l ∧ ps.length ≤ 100
  · rw [if_pos h]
    cases e : serRun ps l with
    | none => exact .inl rfl
    | some z => exact .inr ⟨h.1, h.2, rfl⟩
  · rw [if_neg h]; exact .inl rfl
theorem serAll_len (l : List S37) (ps : List (List S95)) : (serAll l ps).1.length ≤ 4 ∧ (serAll l ps).2.length ≤ 100 := by
  rcases serAll_cases l ps with h | ⟨h1, h2, h3⟩
  · rw [h]; simp
  · have := serRun_ok h1 h3; have h4 := this.1.1; omega
/-- What the loops answer: what was said so far stands ahead. -/
def serEnd (v : List Int) : Option (List S37 × List Int) → List S37 × List Int
  | some z => (z.1, v ++ z.2)
  | none => ([], [])
theorem serEnd_cons (v : List Int) (p : List S95) (r : List (List S95)) (x : List S37) : serEnd v (serRun (p :: r) x) = if (serialOf x p).2.2 = 3 then ([], []) else serEnd (v ++ [(serialOf x p).2.1]) (serRun r (serialOf x p).1) := by
  rw [serRun_cons]
  by_cases c : (serialOf x p).2.2 = 3
  · rw [if_pos c, if_pos c]; rfl
  · rw [if_neg c, if_neg c]
    cases serRun r (serialOf x p).1 with
    | none => rfl
    | some u => simp [serEnd]
theorem serEnd_end (v : List Int) (x : List S37) : serEnd v (serRun [] x) = (x, v) := by simp [serEnd, serRun]
theorem serEnd_nil (o : Option (List S37 × List Int)) : serEnd [] o = o.getD ([], []) := by
  cases o <;> rfl
theorem rdi_Prog {ps : List (List S95)} {i : Nat} (h : i < ps.length) : rd_L8 ps (i : Int) = ps[i] := by
  unfold rd_L8
  rw [Int.toNat_natCast, List.getD_eq_getElem?_getD, List.getElem?_eq_getElem h]
  rfl

theorem l1Min_some (a b : Int) : spec_l1Min.f a b = some (mn a b) := by
  unfold spec_l1Min.f mn
  by_cases h : a < b
  · rw [if_pos h, if_neg (by omega)]
  · rw [if_neg h]
    by_cases g : b < a
    · rw [if_pos g]
    · rw [if_neg g]; congr 1; omega
theorem l3Do_ev (x : List S39) (y : List S82) (a b : Int) (hr : runOk x y a b) (hm : y.length ≤ 9223372036854775807) (l : List S37) (hl : l.length = 4) : Ev (fun k => spec_l3Do.f k l x y a b) (y.foldl put1 l) := by
  have key : ∀ d i (l : List S37), i + d = y.length → l.length = 4 → Ev (fun k => spec_l3Do.l0 k l (i : Int) x y a b) ((y.drop i).foldl put1 l) := by
    intro d
    induction d with
    | zero =>
      intro i l hi h4
      obtain rfl : i = y.length := by omega
      refine Ev.step (fun k => by rw [spec_l3Do.l0]) ?_
      refine ev_neg (by omega) ?_
      rw [List.drop_length]
      exact ev_now _
    | succ d ih =>
      intro i l hd h4
      have hi : i < y.length := by omega
      have hp := runOk_puts hr i hi
      refine Ev.step (fun k => by rw [spec_l3Do.l0]) ?_
      refine ev_pos (lt_cast hi) (ev_pos (nn_cast i) ?_)
      rw [rdi_Put hi, wrap_succ hi hm, List.drop_eq_getElem_cons hi, List.foldl_cons]
      refine ev_pos hp.1 (ev_pos (by omega) (ev_get (l1Min_some _ _) ?_))
      exact ih (i + 1) _ (by omega) (by rw [List.length_set]; exact h4)
  unfold spec_l3Do.f
  simpa using key y.length 0 l (by omega) hl

theorem spec_SerialOne_ev (l : List S37) (p : List S95) (hl : l.length ≤ 1048576) (hp : p.length ≤ 9223372036854775807) : Ev (fun k => spec_SerialOne.f k l p) (serialOf l p) := by
  have hr := spec_ExecRun_ev l p (by omega) hp
  have hlen := runOf_len l p
  have hok := runOf_ok l p
  have hne := @runOf_ne3 l p
  unfold spec_SerialOne.f serialOf
  generalize runOf l p = r at hr hlen hok hne
  obtain ⟨x, y, a, c⟩ := r
  simp only at hlen hok hne ⊢
  refine hr.bind ?_
  simp only
  by_cases h : c = 3
  · rw [if_pos h]; exact ev_pos h (ev_now _)
  · have hb := (hne h).1
    have hd : doneBy l x y a c = y.foldl put1 l := by unfold doneBy; exact if_pos ⟨hb, hok⟩
    rw [if_neg h, hd]
    refine ev_neg h (ev_get (a := l) ?_ ((l3Do_ev x y a c hok (by omega) l hb.1).bind (ev_now _)))
    unfold spec_l1Copy.f
    simp only [Option.bind_some, List.nil_append, List.length_nil, Nat.zero_add]
    exact if_pos (by omega)

theorem ExecOk_l1 (y : List S82) (hm : y.length ≤ 9223372036854775807) : ∃ v, Ev (fun k => impl_ExecOk.l1 k y (y.length : Int) 0 false false false false) v ∧ (v = true ↔ okFrom pKey pGood y 0) := by
  classical
  have key := ev_loop y.length (fun i k => impl_ExecOk.l1 k y (y.length : Int) (i : Int) (namedIn pKey y i 0) (namedIn pKey y i 1) (namedIn pKey y i 2) (namedIn pKey y i 3)) (fun i => decide (okFrom pKey pGood y i)) (fun i hi ih => by
      refine Ev.step (fun k => by rw [impl_ExecOk.l1]) ?_
      refine ev_pos (lt_cast hi) (ev_pos (nn_cast i) (ev_pos (lt_cast hi) ?_))
      rw [rdi_Put hi, wrap_succ hi hm]
      simp only [okFrom_step pKey pGood y hi]
      refine ev_get (in_dec _ _ _) ?_
      by_cases h1 : 0 ≤ (y[i]).f0 ∧ (y[i]).f0 ≤ 3
      case neg =>
        have : ¬ (0 ≤ pKey y[i] ∧ pKey y[i] ≤ 3) := h1
        simp only [this, false_and, decide_false]
        exact ev_neg (by simpa using h1) (ev_now _)
      refine ev_pos (by simpa using h1) (ev_pos h1.1 (ev_pos (by omega) ?_))
      rw [rd_four (namedIn pKey y i) _ h1.1 h1.2]
      refine ev_ite (fun c => ?_) (fun c => ev_get (in_dec _ _ _) ?_)
      · rw [namedIn_iff] at c
        have c2 : pKey y[i] ∈ (y.take i).map pKey := c
        simp only [c2, not_true, and_false, false_and, decide_false]
        exact ev_now _
      · rw [namedIn_iff] at c
        have c2 : ¬ pKey y[i] ∈ (y.take i).map pKey := c
        have h2 : 0 ≤ pKey y[i] ∧ pKey y[i] ≤ 3 := h1
        by_cases g : pGood y[i]
        · simp only [h2, g, c2, not_false_eq_true, and_self, true_and]
          refine ev_pos (by simpa [pGood] using g) ?_
          have e : ∀ b, ixB (y[i]).f0 b true (namedIn pKey y i b) = namedIn pKey y (i + 1) b := namedIn_succ pKey y hi
          rw [e, e, e, e]
          exact ih
        · simp only [g, false_and, and_false, decide_false]
          exact ev_neg (by simpa [pGood] using g) (ev_now _)) (by
      refine Ev.step (fun k => by rw [impl_ExecOk.l1]) ?_
      refine ev_neg (by omega) ?_
      simp only [okFrom_end pKey pGood y, decide_true]
      exact ev_now _) 0 (Nat.zero_le _)
  simp only [namedIn_zero] at key
  exact ⟨_, key, by simp⟩
theorem ExecOk_l0 (x : List S39) (y : List S82) (a b : Int) (hn : x.length ≤ 9223372036854775807) (hm : y.length ≤ 9223372036854775807) :
    ∃ v, Ev (fun k => impl_ExecOk.l0 k x (x.length : Int) 0 x y a b false false false false false false false false) v ∧ (v = true ↔ okFrom rKey rGood x 0 ∧ okFrom pKey pGood y 0) := by
  classical
  obtain ⟨u, hu, hui⟩ := ExecOk_l1 y hm
  have key := ev_loop x.length (fun i k => impl_ExecOk.l0 k x (x.length : Int) (i : Int) x y a b (namedIn rKey x i 0) (namedIn rKey x i 1) (namedIn rKey x i 2) (namedIn rKey x i 3) false false false false) (fun i => decide (okFrom rKey rGood x i ∧ okFrom pKey pGood y 0)) (fun i hi ih => by
      refine Ev.step (fun k => by rw [impl_ExecOk.l0]) ?_
      refine ev_pos (lt_cast hi) (ev_pos (nn_cast i) (ev_pos (lt_cast hi) ?_))
      rw [rdi_Read hi, wrap_succ hi hn]
      simp only [okFrom_step rKey rGood x hi]
      refine ev_get (in_dec _ _ _) ?_
      by_cases h1 : 0 ≤ (x[i]).f0 ∧ (x[i]).f0 ≤ 3
      case neg =>
        have : ¬ (0 ≤ rKey x[i] ∧ rKey x[i] ≤ 3) := h1
        simp only [this, false_and, decide_false]
        exact ev_neg (by simpa using h1) (ev_now _)
      refine ev_pos (by simpa using h1) (ev_pos h1.1 (ev_pos (by omega) ?_))
      rw [rd_four (namedIn rKey x i) _ h1.1 h1.2]
      refine ev_ite (fun c => ?_) (fun c => ev_get (in_dec _ _ _) ?_)
      · rw [namedIn_iff] at c
        have c2 : rKey x[i] ∈ (x.take i).map rKey := c
        simp only [c2, not_true, and_false, false_and, decide_false]
        exact ev_now _
      · rw [namedIn_iff] at c
        have c2 : ¬ rKey x[i] ∈ (x.take i).map rKey := c
        have h2 : 0 ≤ rKey x[i] ∧ rKey x[i] ≤ 3 := h1
        by_cases g : rGood x[i]
        · simp only [h2, g, c2, not_false_eq_true, and_self, true_and]
          refine ev_pos (by simpa [rGood] using g) ?_
          have e : ∀ b, ixB (x[i]).f0 b true (namedIn rKey x i b) = namedIn rKey x (i + 1) b := namedIn_succ rKey x hi
          rw [e, e, e, e]
          exact ih
        · simp only [g, false_and, and_false, decide_false]
          exact ev_neg (by simpa [rGood] using g) (ev_now _)) (by
      refine Ev.step (fun k => by rw [impl_ExecOk.l0]) ?_
      refine ev_neg (by omega) ?_
      simp only [okFrom_end rKey rGood x, true_and]
      rw [show decide (okFrom pKey pGood y 0) = u from Bool.eq_iff_iff.2 (by rw [hui]; simp)]
      exact hu) 0 (Nat.zero_le _)
  simp only [namedIn_zero] at key
  exact ⟨_, key, by simp⟩
theorem impl_ExecOk_ev (x : List S39) (y : List S82) (a b : Int) (hn : x.length ≤ 9223372036854775807) (hm : y.length ≤ 9223372036854775807) : ∃ v, Ev (fun k => impl_ExecOk.f k x y a b) v ∧ (v = true ↔ runOk x y a b) := by
  obtain ⟨u, hu, hui⟩ := ExecOk_l0 x y a b hn hm
  have yes : Ev (fun k => impl_ExecOk.j0 k true x y a b) false := by
    refine Ev.step (fun k => by rw [impl_ExecOk.j0]) ?_
    exact ev_pos rfl (ev_now _)
  have no : Ev (fun k => impl_ExecOk.j0 k false x y a b) u := by
    refine Ev.step (fun k => by rw [impl_ExecOk.j0]) ?_
    exact ev_neg (by simp) hu
  unfold impl_ExecOk.f runOk
  rw [← hui]
  simp only [in_dec, Option.bind_some, decide_eq_true_eq]
  by_cases h1 : 0 ≤ b ∧ b ≤ 3
  case neg => exact ⟨false, ev_neg h1 yes, by simp [h1]⟩
  by_cases h2 : -1000000 ≤ a ∧ a ≤ 1000000
  case neg => exact ⟨false, ev_pos h1 (ev_neg h2 yes), by simp [h2]⟩
  have g3 : ∀ c : Bool, c = decide ((x.length : Int) > 0) → Ev (fun k => impl_ExecOk.j0 k c x y a b) (!c && u) := by
    intro c _
    cases c with
    | true => exact yes
    | false => exact no
  by_cases h3 : b = 0
  · have h4 : ¬ b = 3 := by omega
    exact ⟨u, ev_pos h1 (ev_pos h2 (ev_pos h3 (ev_neg h4 no))), by simp [h1, h2, h3, h4]⟩
  by_cases h5 : a = 0
  case neg => exact ⟨false, ev_pos h1 (ev_pos h2 (ev_neg h3 (ev_neg h5 yes))), by simp [h3, h5]⟩
  by_cases h6 : (y.length : Int) > 0
  · exact ⟨false, ev_pos h1 (ev_pos h2 (ev_neg h3 (ev_pos h5 (ev_pos h6 yes)))), by simp only [Bool.false_eq_true, false_iff]; intro hh; exact (hh.2.2.1 h3).2 h6⟩
  by_cases h4 : b = 3
  · refine ⟨_, ev_pos h1 (ev_pos h2 (ev_neg h3 (ev_pos h5 (ev_neg h6 (ev_pos h4 (g3 _ rfl)))))), ?_⟩
    by_cases h7 : (x.length : Int) > 0
    · simp only [h7, decide_true, Bool.not_true, Bool.false_and, Bool.false_eq_true, false_iff]
      intro hh; exact hh.2.2.2.1 h4 trivial
    · simp only [h7, decide_false, Bool.not_false, Bool.true_and]
      exact ⟨fun hh => ⟨h1, h2, fun _ => ⟨h5, h6⟩, fun _ => fun h => h, hh⟩, fun hh => hh.2.2.2.2⟩
  · exact ⟨u, ev_pos h1 (ev_pos h2 (ev_neg h3 (ev_pos h5 (ev_neg h6 (ev_neg h4 no))))), ⟨fun hh => ⟨h1, h2, fun _ => ⟨h5, h6⟩, fun h => absurd h h4, hh⟩, fun hh => hh.2.2.2.2⟩⟩

theorem impl_ExecDo_ev (l : List S37) (x : List S39) (y : List S82) (a b : Int) (hl : l.length ≤ 1048576) (hn : x.length ≤ 9223372036854775807) (hm : y.length ≤ 9223372036854775807) :
    Ev (fun k => impl_ExecDo.f k l x y a b) (doneBy l x y a b) := by
  obtain ⟨u, hu, hui⟩ := impl_BoxOk_ev l (by omega)
  obtain ⟨w, hw, hwi⟩ := impl_ExecOk_ev x y a b hn hm
  have yes : Ev (fun k => impl_ExecDo.j0 k l true x y a b) [] := by
    refine Ev.step (fun k => by rw [impl_ExecDo.j0]) ?_
    exact ev_pos rfl (ev_now _)
  unfold impl_ExecDo.f doneBy
  rw [← hui, ← hwi]
  cases u with
  | false => rw [if_neg (by simp)]; exact hu.bind (ev_neg (by simp) yes)
  | true =>
    cases w with
    | false => rw [if_neg (by simp)]; exact hu.bind (ev_pos rfl (hw.bind yes))
    | true =>
      rw [if_pos ⟨rfl, rfl⟩]
      have hr := hwi.1 rfl
      have key : ∀ d i (l : List S37), i + d = y.length → l.length = 4 → Ev (fun k => impl_ExecDo.l0 k l y (y.length : Int) (i : Int)) ((y.drop i).foldl put1 l) := by
        intro d
        induction d with
        | zero =>
          intro i l hi h4
          obtain rfl : i = y.length := by omega
          refine Ev.step (fun k => by rw [impl_ExecDo.l0]) ?_
          refine ev_neg (by omega) ?_
          rw [List.drop_length]
          exact ev_now _
        | succ d ih =>
          intro i l hd h4
          have hi : i < y.length := by omega
          have hp := runOk_puts hr i hi
          refine Ev.step (fun k => by rw [impl_ExecDo.l0]) ?_
          refine ev_pos (lt_cast hi) (ev_pos (nn_cast i) (ev_pos (lt_cast hi) ?_))
          rw [rdi_Put hi, wrap_succ hi hm, List.drop_eq_getElem_cons hi, List.foldl_cons]
          refine ev_pos hp.1 (ev_pos (by omega) ?_)
          exact ih (i + 1) _ (by omega) (by rw [List.length_set]; exact h4)
      refine hu.bind (ev_pos rfl (hw.bind ?_))
      refine Ev.step (fun k => by rw [impl_ExecDo.j0]) ?_
      refine ev_neg (by simp) (ev_get (a := l) ?_ ?_)
      · unfold impl_copied_impl_Box.f
        exact if_pos (by omega)
      · simpa using key y.length 0 l (by omega) (hui.1 rfl).1

theorem impl_SerialOne_ev (l : List S37) (p : List S95) (hl : l.length ≤ 1048576) (hp : p.length ≤ 9223372036854775807) : Ev (fun k => impl_SerialOne.f k l p) (serialOf l p) := by
  have hr := impl_ExecRun_ev l p (by omega) hp
  have hlen := runOf_len l p
  unfold impl_SerialOne.f serialOf
  generalize runOf l p = r at hr hlen
  obtain ⟨x, y, a, c⟩ := r
  simp only at hlen ⊢
  refine hr.bind ?_
  simp only
  by_cases h : c = 3
  · rw [if_pos h]; exact ev_pos h (ev_now _)
  · rw [if_neg h]; exact ev_neg h ((impl_ExecDo_ev l x y a c hl (by omega) (by omega)).bind (ev_now _))

theorem spec_SerialAll_l0 (ps : List (List S95)) (hn : ps.length ≤ 2000000) (hp : ∀ p ∈ ps, p.length ≤ 9223372036854775807) : ∀ (d i : Nat) (v : List Int) (x : List S37), i + d = ps.length → x.length ≤ 4 → v.length + d ≤ 2000000 → Ev (fun k => spec_SerialAll.l0 k ps v x (i : Int)) (serEnd v (serRun (ps.drop i) x)) := by
  intro d
  induction d with
  | zero =>
    intro i v x hi hx hv
    obtain rfl : i = ps.length := by omega
    rw [List.drop_length, serEnd_end]
    exact Ev.step (fun k => by rw [spec_SerialAll.l0]) (ev_neg (by omega) (ev_now _))
  | succ d ih =>
    intro i v x hd hx hv
    have hi : i < ps.length := by omega
    rw [List.drop_eq_getElem_cons hi, serEnd_cons]
    have so := spec_SerialOne_ev x ps[i] (by omega) (hp _ (List.getElem_mem hi))
    have sl := serialOf_len x ps[i]
    refine Ev.step (fun k => by rw [spec_SerialAll.l0]) (ev_pos (lt_cast hi) (ev_pos (nn_cast i) ?_))
    rw [rdi_Prog hi, wrap_succ hi (by omega)]
    refine so.bind ?_
    by_cases c : (serialOf x ps[i]).2.2 = 3
    · rw [if_pos c]; exact ev_pos c (ev_now _)
    · rw [if_neg c]
      exact ev_neg c (ev_pos (by omega) (ih (i + 1) _ _ (by omega) sl (by rw [List.length_append, List.length_singleton]; omega)))
theorem impl_SerialAll_l0 (ps : List (List S95)) (hn : ps.length ≤ 2000000) (hp : ∀ p ∈ ps, p.length ≤ 9223372036854775807) : ∀ (d i : Nat) (v : List Int) (x : List S37), i + d = ps.length → x.length ≤ 4 → v.length + d ≤ 2000000 → Ev (fun k => impl_SerialAll.l0 k x v ps (ps.length : Int) (i : Int)) (serEnd v (serRun (ps.drop i) x)) := by
  intro d
  induction d with
  | zero =>
    intro i v x hi hx hv
    obtain rfl : i = ps.length := by omega
    rw [List.drop_length, serEnd_end]
    refine Ev.step (fun k => by rw [impl_SerialAll.l0]) (ev_neg (by omega) (ev_get (a := v) ?_ (ev_now _)))
    unfold impl_copied_int.f; exact if_pos (by omega)
  | succ d ih =>
    intro i v x hd hx hv
    have hi : i < ps.length := by omega
    rw [List.drop_eq_getElem_cons hi, serEnd_cons]
    have so := impl_SerialOne_ev x ps[i] (by omega) (hp _ (List.getElem_mem hi))
    have sl := serialOf_len x ps[i]
    refine Ev.step (fun k => by rw [impl_SerialAll.l0]) (ev_pos (lt_cast hi) (ev_pos (nn_cast i) (ev_pos (lt_cast hi) ?_)))
    rw [rdi_Prog hi, wrap_succ hi (by omega)]
    refine so.bind ?_
    by_cases c : (serialOf x ps[i]).2.2 = 3
    · rw [if_pos c]; exact ev_pos c (ev_now _)
    · rw [if_neg c]
      exact ev_neg c (ev_pos (by omega) (ih (i + 1) _ _ (by omega) sl (by rw [List.length_append, List.length_singleton]; omega)))
theorem spec_SerialAll_ev (l : List S37) (ps : List (List S95)) (hl : l.length ≤ 2000000) (hn : ps.length ≤ 2000000) (hp : ∀ p ∈ ps, p.length ≤ 9223372036854775807) : Ev (fun k => spec_SerialAll.f k l ps) (serAll l ps) := by
  obtain ⟨u, hu, hui⟩ := spec_BoxOk_ev l (by omega)
  have no : Ev (fun k => spec_SerialAll.j0 k l ps true) ([], []) := Ev.step (fun k => by rw [spec_SerialAll.j0]) (ev_pos rfl (ev_now _))
  unfold spec_SerialAll.f serAll
  refine hu.bind (ev_ite (fun h1 => ?_) (fun h1 => ?_))
  case refine_2 => rw [if_neg (fun g => h1 (hui.2 g.1))]; exact no
  have hb := hui.1 h1
  by_cases h2 : ps.length ≤ 100
  · rw [if_pos ⟨hb, h2⟩, ← serEnd_nil]
    have e : decide ((ps.length : Int) > 100) = false := by simp; omega
    rw [e]
    refine Ev.step (fun k => by rw [spec_SerialAll.j0]) (ev_neg (by simp) (ev_get (a := l) ?_ ?_))
    · unfold spec_l1Copy.f
      simp only [Option.bind_some, List.nil_append, List.length_nil, Nat.zero_add]
      exact if_pos (by omega)
    · exact spec_SerialAll_l0 ps hn hp ps.length 0 [] l (by omega) (by have := hb.1; omega) (by simp; omega)
  · rw [if_neg (fun g => h2 g.2)]
    have e : decide ((ps.length : Int) > 100) = true := by simp; omega
    rw [e]; exact no
theorem impl_SerialAll_ev (l : List S37) (ps : List (List S95)) (hl : l.length ≤ 2000000) (hn : ps.length ≤ 2000000) (hp : ∀ p ∈ ps, p.length ≤ 9223372036854775807) : Ev (fun k => impl_SerialAll.f k l ps) (serAll l ps) := by
  obtain ⟨u, hu, hui⟩ := impl_BoxOk_ev l (by omega)
  have no : Ev (fun k => impl_SerialAll.j0 k l ps true) ([], []) := Ev.step (fun k => by rw [impl_SerialAll.j0]) (ev_pos rfl (ev_now _))
  unfold impl_SerialAll.f serAll
  refine hu.bind (ev_ite (fun h1 => ?_) (fun h1 => ?_))
  case refine_2 => rw [if_neg (fun g => h1 (hui.2 g.1))]; exact no
  have hb := hui.1 h1
  by_cases h2 : ps.length ≤ 100
  · rw [if_pos ⟨hb, h2⟩, ← serEnd_nil]
    have e : decide ((ps.length : Int) > 100) = false := by simp; omega
    rw [e]
    refine Ev.step (fun k => by rw [impl_SerialAll.j0]) (ev_neg (by simp) (ev_get (a := l) ?_ ?_))
    · unfold impl_copied_impl_Box.f; exact if_pos (by omega)
    · exact impl_SerialAll_l0 ps hn hp ps.length 0 [] l (by omega) (by have := hb.1; omega) (by simp; omega)
  · rw [if_neg (fun g => h2 g.2)]
    have e : decide ((ps.length : Int) > 100) = true := by simp; omega
    rw [e]; exact no

theorem szBoxS_some (l : List S136) (a : Int) (hn : l.length ≤ 9223372036854775807) (h0 : 0 ≤ a) (h1 : a ≤ 1048576) : laws_szBoxS.f l a = some (if a < l.length then -1 else a - l.length) := by
  unfold laws_szBoxS.f
  have hw : wrap64 (a - (l.length : Int)) = a - l.length := wrap_id (by omega) (by omega)
  rw [hw]
  by_cases h : a < l.length
  · rw [if_pos (by omega), if_pos h]
  · rw [if_neg (by omega), if_neg h]

theorem szInsS_some (l : List S175) (a : Int) (hn : l.length ≤ 9223372036854775807) (h0 : 0 ≤ a) (h1 : a ≤ 1048576) : laws_szInsS.f l a = some (if a < l.length then -1 else a - l.length) := by
  unfold laws_szInsS.f
  have hw : wrap64 (a - (l.length : Int)) = a - l.length := wrap_id (by omega) (by omega)
  rw [hw]
  by_cases h : a < l.length
  · rw [if_pos (by omega), if_pos h]
  · rw [if_neg (by omega), if_neg h]

theorem ext_Box {a b : S37} (h0 : a.f0 = b.f0) (h1 : a.f1 = b.f1) : a = b := by
  obtain ⟨a0_, a1_⟩ := a; obtain ⟨b0_, b1_⟩ := b; simp_all
theorem rdi_Box {l : List S37} {i : Nat} (h : i < l.length) : rd_T37 l (i : Int) = l[i] := by
  unfold rd_T37
  rw [Int.toNat_natCast, List.getD_eq_getElem?_getD, List.getElem?_eq_getElem h]
  rfl

theorem rdl_Box {l : List S136} {i : Nat} (h : i < l.length) : rd_T136 l (i : Int) = l[i] := by
  unfold rd_T136
  rw [Int.toNat_natCast, List.getD_eq_getElem?_getD, List.getElem?_eq_getElem h]
  rfl

def toBox (x : S136) : S37 := ⟨x.f0, x.f1⟩
theorem toBoxS_ev (l : List S136) (hn : l.length ≤ 8796093022208) : Ev (fun k => laws_toBoxS.f k l) (l.map toBox) := by
  unfold laws_toBoxS.f
  refine ev_pos (nn_cast _) (ev_pos (by rw [Int.toNat_natCast]; omega) ?_)
  rw [Int.toNat_natCast]
  have hm : (l.map toBox).length = l.length := List.length_map _
  have key := ev_loop l.length (fun i k => laws_toBoxS.l0 k l ((l.map toBox).take i ++ List.replicate ((l.map toBox).length - i) z37) (i : Int)) (fun _ => l.map toBox) (fun i hi ih => by
      refine Ev.step (fun k => by rw [laws_toBoxS.l0]) ?_
      refine ev_pos (lt_cast hi) (ev_pos (nn_cast i) ?_)
      rw [rdl_Box hi, wrap_succ hi (by omega)]
      refine ev_get (a := ((l[i]).f0, (l[i]).f1)) rfl ?_
      refine ev_pos (by rw [state_len _ _ _ (by omega), hm]; exact lt_cast hi) ?_
      have hs := set_state (l.map toBox) z37 i (by rw [hm]; exact hi)
      rw [List.getElem_map] at hs
      rw [Int.toNat_natCast]
      simp only [toBox] at hs ⊢ ih
      rw [hs]
      exact ih) (by
      refine Ev.step (fun k => by rw [laws_toBoxS.l0]) ?_
      refine ev_neg (by omega) ?_
      rw [hm, Nat.sub_self, List.replicate_zero, List.append_nil, ← hm, List.take_length]
      exact ev_now _) 0 (Nat.zero_le _)
  simpa [hm] using key

theorem rdl_Ins {l : List S175} {i : Nat} (h : i < l.length) : rd_T175 l (i : Int) = l[i] := by
  unfold rd_T175
  rw [Int.toNat_natCast, List.getD_eq_getElem?_getD, List.getElem?_eq_getElem h]
  rfl

def toIns (x : S175) : S95 := ⟨x.f0, x.f1, x.f2, x.f3⟩
theorem toInsS_ev (l : List S175) (hn : l.length ≤ 8796093022208) : Ev (fun k => laws_toInsS.f k l) (l.map toIns) := by
  unfold laws_toInsS.f
  refine ev_pos (nn_cast _) (ev_pos (by rw [Int.toNat_natCast]; omega) ?_)
  rw [Int.toNat_natCast]
  have hm : (l.map toIns).length = l.length := List.length_map _
  have key := ev_loop l.length (fun i k => laws_toInsS.l0 k l ((l.map toIns).take i ++ List.replicate ((l.map toIns).length - i) z95) (i : Int)) (fun _ => l.map toIns) (fun i hi ih => by
      refine Ev.step (fun k => by rw [laws_toInsS.l0]) ?_
      refine ev_pos (lt_cast hi) (ev_pos (nn_cast i) ?_)
      rw [rdl_Ins hi, wrap_succ hi (by omega)]
      refine ev_get (a := ((l[i]).f0, (l[i]).f1, (l[i]).f2, (l[i]).f3)) rfl ?_
      refine ev_pos (by rw [state_len _ _ _ (by omega), hm]; exact lt_cast hi) ?_
      have hs := set_state (l.map toIns) z95 i (by rw [hm]; exact hi)
      rw [List.getElem_map] at hs
      rw [Int.toNat_natCast]
      simp only [toIns] at hs ⊢ ih
      rw [hs]
      exact ih) (by
      refine Ev.step (fun k => by rw [laws_toInsS.l0]) ?_
      refine ev_neg (by omega) ?_
      rw [hm, Nat.sub_self, List.replicate_zero, List.append_nil, ← hm, List.take_length]
      exact ev_now _) 0 (Nat.zero_le _)
  simpa [hm] using key

theorem eqBox_some (a b : S37) : ∃ v, laws_eqBox.f a.f0 a.f1 b.f0 b.f1 = some v ∧ (v = true ↔ a = b) := by
  unfold laws_eqBox.f
  by_cases h0 : a.f0 = b.f0
  case neg => exact ⟨false, by simp [h0], by simp; intro h; exact h0 (by rw [h])⟩
  by_cases h1 : a.f1 = b.f1
  case neg => exact ⟨false, by simp [h0, h1], by simp; intro h; exact h1 (by rw [h])⟩
  exact ⟨true, by simp [h0, h1], by simp; exact ext_Box h0 h1⟩
theorem eqBoxS_ev (x y : List S37) (hn : x.length ≤ 9223372036854775807) : ∃ v, Ev (fun k => laws_eqBoxS.f k x y) v ∧ (v = true ↔ x = y) := by
  classical
  by_cases hl : x.length = y.length
  · have key := ev_loop x.length (fun i k => laws_eqBoxS.l0 k x y (i : Int)) (fun i => decide (x.drop i = y.drop i)) (fun i hi ih => by
      refine Ev.step (fun k => by rw [laws_eqBoxS.l0]) ?_
      refine ev_pos (lt_cast hi) (ev_pos (nn_cast i) (ev_pos (lt_cast (hl ▸ hi)) ?_))
      rw [rdi_Box hi, rdi_Box (hl ▸ hi), wrap_succ hi hn]
      obtain ⟨v, hv, hvi⟩ := eqBox_some x[i] (y[i]'(hl ▸ hi))
      refine ev_get hv ?_
      simp only [drop_eq hl hi]
      by_cases h1 : v = true
      · simp only [hvi.1 h1, true_and]
        exact ev_pos h1 ih
      · simp only [show ¬ (x[i] = y[i]'(hl ▸ hi)) from fun h => h1 (hvi.2 h), false_and, decide_false]
        exact ev_neg h1 (ev_now _)) (by
      refine Ev.step (fun k => by rw [laws_eqBoxS.l0]) ?_
      refine ev_neg (by omega) ?_
      rw [List.drop_length, hl, List.drop_length]
      simp only [decide_true]
      exact ev_now _) 0 (Nat.zero_le _)
    exact ⟨_, Ev.congr (fun k => by unfold laws_eqBoxS.f; exact if_pos (by omega)) key, by simp⟩
  · refine ⟨false, ?_, by simp; exact fun h => hl (by rw [h])⟩
    unfold laws_eqBoxS.f
    exact ev_neg (by omega) (ev_now _)

theorem eqIns_some (a b : S95) : ∃ v, laws_eqIns.f a.f0 a.f1 a.f2 a.f3 b.f0 b.f1 b.f2 b.f3 = some v ∧ (v = true ↔ a = b) := by
  unfold laws_eqIns.f
  by_cases h0 : a.f0 = b.f0
  case neg => exact ⟨false, by simp [h0], by simp; intro h; exact h0 (by rw [h])⟩
  by_cases h1 : a.f1 = b.f1
  case neg => exact ⟨false, by simp [h0, h1], by simp; intro h; exact h1 (by rw [h])⟩
  by_cases h2 : a.f2 = b.f2
  case neg => exact ⟨false, by simp [h0, h1, h2], by simp; intro h; exact h2 (by rw [h])⟩
  by_cases h3 : a.f3 = b.f3
  case neg => exact ⟨false, by simp [h0, h1, h2, h3], by simp; intro h; exact h3 (by rw [h])⟩
  exact ⟨true, by simp [h0, h1, h2, h3], by simp; exact ext_Ins h0 h1 h2 h3⟩
theorem eqInsS_ev (x y : List S95) (hn : x.length ≤ 9223372036854775807) : ∃ v, Ev (fun k => laws_eqInsS.f k x y) v ∧ (v = true ↔ x = y) := by
  classical
  by_cases hl : x.length = y.length
  · have key := ev_loop x.length (fun i k => laws_eqInsS.l0 k x y (i : Int)) (fun i => decide (x.drop i = y.drop i)) (fun i hi ih => by
      refine Ev.step (fun k => by rw [laws_eqInsS.l0]) ?_
      refine ev_pos (lt_cast hi) (ev_pos (nn_cast i) (ev_pos (lt_cast (hl ▸ hi)) ?_))
      rw [rdi_Ins hi, rdi_Ins (hl ▸ hi), wrap_succ hi hn]
      obtain ⟨v, hv, hvi⟩ := eqIns_some x[i] (y[i]'(hl ▸ hi))
      refine ev_get hv ?_
      simp only [drop_eq hl hi]
      by_cases h1 : v = true
      · simp only [hvi.1 h1, true_and]
        exact ev_pos h1 ih
      · simp only [show ¬ (x[i] = y[i]'(hl ▸ hi)) from fun h => h1 (hvi.2 h), false_and, decide_false]
        exact ev_neg h1 (ev_now _)) (by
      refine Ev.step (fun k => by rw [laws_eqInsS.l0]) ?_
      refine ev_neg (by omega) ?_
      rw [List.drop_length, hl, List.drop_length]
      simp only [decide_true]
      exact ev_now _) 0 (Nat.zero_le _)
    exact ⟨_, Ev.congr (fun k => by unfold laws_eqInsS.f; exact if_pos (by omega)) key, by simp⟩
  · refine ⟨false, ?_, by simp; exact fun h => hl (by rw [h])⟩
    unfold laws_eqInsS.f
    exact ev_neg (by omega) (ev_now _)

/-- The numbers a, a + 1, .. laid into all fields of m elements. -/
def numbBox (a : Int) : Nat → List S37
  | 0 => []
  | m + 1 => ⟨a, a + 1⟩ :: numbBox (a + 1 + 1) m
theorem setmid_Box (p r : List S37) (x v : S37) : (p ++ x :: r).set (p.length : Int).toNat v = p ++ v :: r := by
  rw [Int.toNat_natCast, List.set_append_right _ _ (Nat.le_refl _), Nat.sub_self]; rfl
theorem rdmid_Box (p r : List S37) (x : S37) : rd_T37 (p ++ x :: r) (p.length : Int) = x := by
  rw [rdi_Box (by simp)]; simp
theorem markBoxS_ev (l : List S37) (a : Int) (h0 : 0 ≤ a) (h1 : a ≤ 1000000000) (hn : l.length ≤ 100000000) : Ev (fun k => laws_markBoxS.f k l a) (a + 2 * l.length, numbBox a l.length) := by
  have key : ∀ (r p : List S37) (b : Int), 0 ≤ b → b + 2 * r.length ≤ 5000000000 → p.length + r.length ≤ 100000000 → Ev (fun k => laws_markBoxS.l0 k (p ++ r) b (p.length : Int)) (b + 2 * r.length, p ++ numbBox b r.length) := by
    intro r
    induction r with
    | nil =>
      intro p b _ _ _
      refine Ev.step (fun k => by rw [laws_markBoxS.l0]) ?_
      refine ev_neg (by simp) ?_
      simpa [numbBox] using ev_now _
    | cons x r ih =>
      intro p b hb hb2 hl
      simp only [List.length_cons] at hb2 hl
      refine Ev.step (fun k => by rw [laws_markBoxS.l0]) ?_
      refine ev_pos (by simp; omega) (ev_pos (nn_cast _) ?_)
      have w1 : wrap64 (b + 1) = b + 1 := wrap_id (by omega) (by omega)
      have w2 : wrap64 (b + 1 + 1) = b + 1 + 1 := wrap_id (by omega) (by omega)
      have wi : wrap64 ((p.length : Int) + 1) = ((p.length + 1 : Nat) : Int) := wrap_succ (n := p.length + 1) (by omega) (by omega)
      simp only [Option.bind_some, setmid_Box, rdmid_Box, w1, w2, wi]
      have ih2 := ih (p ++ [⟨b, b + 1⟩]) (b + 1 + 1) (by omega) (by omega) (by simp; omega)
      simp only [List.append_assoc, List.singleton_append, List.length_append, List.length_singleton] at ih2
      rw [show b + 2 * ((x :: r).length : Int) = b + 1 + 1 + 2 * (r.length : Int) by simp only [List.length_cons]; omega]
      simpa [numbBox] using ih2
  unfold laws_markBoxS.f
  simpa using key l [] a h0 (by omega) (by simpa using hn)

theorem heldBoxS_ev (a : Int) (m : Nat) (h0 : 0 ≤ a) (h1 : a ≤ 1000000000) (hn : m ≤ 100000000) : Ev (fun k => laws_heldBoxS.f k (numbBox a m) a) (a + 2 * m) := by
  have key : ∀ (m : Nat) (p : List S37) (b : Int), 0 ≤ b → b + 2 * m ≤ 5000000000 → p.length + m ≤ 100000000 → Ev (fun k => laws_heldBoxS.l0 k (p ++ numbBox b m) b (p.length : Int)) (b + 2 * m) := by
    intro m
    induction m with
    | zero =>
      intro p b _ _ _
      refine Ev.step (fun k => by rw [laws_heldBoxS.l0]) ?_
      refine ev_neg (by simp [numbBox]) ?_
      simpa using ev_now _
    | succ m ih =>
      intro p b hb hb2 hl
      refine Ev.step (fun k => by rw [laws_heldBoxS.l0]) ?_
      refine ev_pos (by simp [numbBox]; omega) (ev_pos (nn_cast _) ?_)
      have w1 : wrap64 (b + 1) = b + 1 := wrap_id (by omega) (by omega)
      have w2 : wrap64 (b + 1 + 1) = b + 1 + 1 := wrap_id (by omega) (by omega)
      have wi : wrap64 ((p.length : Int) + 1) = ((p.length + 1 : Nat) : Int) := wrap_succ (n := p.length + 1) (by omega) (by omega)
      simp only [numbBox, rdmid_Box, w1, w2, wi]
      refine ev_pos (by trivial) (ev_pos (by trivial) ?_)
      have ih2 := ih (p ++ [⟨b, b + 1⟩]) (b + 1 + 1) (by omega) (by omega) (by simp; omega)
      simp only [List.append_assoc, List.singleton_append, List.length_append, List.length_singleton] at ih2
      rw [show b + 2 * ((m + 1 : Nat) : Int) = b + 1 + 1 + 2 * (m : Int) by omega]
      exact ih2
  unfold laws_heldBoxS.f
  simpa using key m [] a h0 (by omega) (by simpa using hn)

/-- The numbers a, a + 1, .. laid into all fields of m elements. -/
def numbIns (a : Int) : Nat → List S95
  | 0 => []
  | m + 1 => ⟨a, a + 1, a + 1 + 1, a + 1 + 1 + 1⟩ :: numbIns (a + 1 + 1 + 1 + 1) m
theorem setmid_Ins (p r : List S95) (x v : S95) : (p ++ x :: r).set (p.length : Int).toNat v = p ++ v :: r := by
  rw [Int.toNat_natCast, List.set_append_right _ _ (Nat.le_refl _), Nat.sub_self]; rfl
theorem rdmid_Ins (p r : List S95) (x : S95) : rd_T95 (p ++ x :: r) (p.length : Int) = x := by
  rw [rdi_Ins (by simp)]; simp
theorem markInsS_ev (l : List S95) (a : Int) (h0 : 0 ≤ a) (h1 : a ≤ 1000000000) (hn : l.length ≤ 100000000) : Ev (fun k => laws_markInsS.f k l a) (a + 4 * l.length, numbIns a l.length) := by
  have key : ∀ (r p : List S95) (b : Int), 0 ≤ b → b + 4 * r.length ≤ 5000000000 → p.length + r.length ≤ 100000000 → Ev (fun k => laws_markInsS.l0 k (p ++ r) b (p.length : Int)) (b + 4 * r.length, p ++ numbIns b r.length) := by
    intro r
    induction r with
    | nil =>
      intro p b _ _ _
      refine Ev.step (fun k => by rw [laws_markInsS.l0]) ?_
      refine ev_neg (by simp) ?_
      simpa [numbIns] using ev_now _
    | cons x r ih =>
      intro p b hb hb2 hl
      simp only [List.length_cons] at hb2 hl
      refine Ev.step (fun k => by rw [laws_markInsS.l0]) ?_
      refine ev_pos (by simp; omega) (ev_pos (nn_cast _) ?_)
      have w1 : wrap64 (b + 1) = b + 1 := wrap_id (by omega) (by omega)
      have w2 : wrap64 (b + 1 + 1) = b + 1 + 1 := wrap_id (by omega) (by omega)
      have w3 : wrap64 (b + 1 + 1 + 1) = b + 1 + 1 + 1 := wrap_id (by omega) (by omega)
      have w4 : wrap64 (b + 1 + 1 + 1 + 1) = b + 1 + 1 + 1 + 1 := wrap_id (by omega) (by omega)
      have wi : wrap64 ((p.length : Int) + 1) = ((p.length + 1 : Nat) : Int) := wrap_succ (n := p.length + 1) (by omega) (by omega)
      simp only [Option.bind_some, setmid_Ins, rdmid_Ins, w1, w2, w3, w4, wi]
      have ih2 := ih (p ++ [⟨b, b + 1, b + 1 + 1, b + 1 + 1 + 1⟩]) (b + 1 + 1 + 1 + 1) (by omega) (by omega) (by simp; omega)
      simp only [List.append_assoc, List.singleton_append, List.length_append, List.length_singleton] at ih2
      rw [show b + 4 * ((x :: r).length : Int) = b + 1 + 1 + 1 + 1 + 4 * (r.length : Int) by simp only [List.length_cons]; omega]
      simpa [numbIns] using ih2
  unfold laws_markInsS.f
  simpa using key l [] a h0 (by omega) (by simpa using hn)

theorem eqIntS_self (x : List Int) (hn : x.length ≤ 9223372036854775807) : Ev (fun k => laws_eqIntS.f k x x) true := by
  have key := ev_loop x.length (fun i k => laws_eqIntS.l0 k x x (i : Int)) (fun _ => true) (fun i hi ih => by
    refine Ev.step (fun k => by rw [laws_eqIntS.l0]) ?_
    refine ev_pos (lt_cast hi) (ev_pos (nn_cast i) (ev_pos (lt_cast hi) (ev_pos rfl ?_)))
    rw [wrap_succ hi hn]
    exact ih) (by
    refine Ev.step (fun k => by rw [laws_eqIntS.l0]) ?_
    exact ev_neg (by omega) (ev_now _)) 0 (Nat.zero_le _)
  exact Ev.congr (fun k => by unfold laws_eqIntS.f; exact if_pos rfl) key

/-- The numbers a, a + 1, .. -/
def numbI (a : Int) : Nat → List Int
  | 0 => []
  | m + 1 => a :: numbI (a + 1) m
theorem setmid_I (p r : List Int) (x v : Int) : (p ++ x :: r).set (p.length : Int).toNat v = p ++ v :: r := by
  rw [Int.toNat_natCast, List.set_append_right _ _ (Nat.le_refl _), Nat.sub_self]; rfl
theorem rdmid_I (p r : List Int) (x : Int) : rd (p ++ x :: r) (p.length : Int) = x := by
  rw [rd_i (by simp)]; simp
theorem markIntS_ev (l : List Int) (a : Int) (h0 : 0 ≤ a) (h1 : a ≤ 1000000000) (hn : l.length ≤ 100000000) : Ev (fun k => laws_markIntS.f k l a) (a + l.length, numbI a l.length) := by
  have key : ∀ (r p : List Int) (b : Int), 0 ≤ b → b + r.length ≤ 5000000000 → p.length + r.length ≤ 100000000 → Ev (fun k => laws_markIntS.l0 k (p ++ r) b (p.length : Int)) (b + r.length, p ++ numbI b r.length) := by
    intro r
    induction r with
    | nil =>
      intro p b _ _ _
      refine Ev.step (fun k => by rw [laws_markIntS.l0]) ?_
      refine ev_neg (by simp) ?_
      simpa [numbI] using ev_now _
    | cons x r ih =>
      intro p b hb hb2 hl
      simp only [List.length_cons] at hb2 hl
      refine Ev.step (fun k => by rw [laws_markIntS.l0]) ?_
      refine ev_pos (by simp; omega) (ev_pos (nn_cast _) ?_)
      have w1 : wrap64 (b + 1) = b + 1 := wrap_id (by omega) (by omega)
      have wi : wrap64 ((p.length : Int) + 1) = ((p.length + 1 : Nat) : Int) := wrap_succ (n := p.length + 1) (by omega) (by omega)
      simp only [setmid_I, w1, wi]
      have ih2 := ih (p ++ [b]) (b + 1) (by omega) (by omega) (by simp; omega)
      simp only [List.append_assoc, List.singleton_append, List.length_append, List.length_singleton] at ih2
      rw [show b + ((x :: r).length : Int) = b + 1 + (r.length : Int) by simp only [List.length_cons]; omega]
      simpa [numbI] using ih2
  unfold laws_markIntS.f
  simpa using key l [] a h0 (by omega) (by simpa using hn)
theorem heldIntS_ev (a : Int) (m : Nat) (h0 : 0 ≤ a) (h1 : a ≤ 1000000000) (hn : m ≤ 100000000) : Ev (fun k => laws_heldIntS.f k (numbI a m) a) (a + m) := by
  have key : ∀ (m : Nat) (p : List Int) (b : Int), 0 ≤ b → b + m ≤ 5000000000 → p.length + m ≤ 100000000 → Ev (fun k => laws_heldIntS.l0 k (p ++ numbI b m) b (p.length : Int)) (b + m) := by
    intro m
    induction m with
    | zero =>
      intro p b _ _ _
      refine Ev.step (fun k => by rw [laws_heldIntS.l0]) ?_
      refine ev_neg (by simp [numbI]) ?_
      simpa using ev_now _
    | succ m ih =>
      intro p b hb hb2 hl
      refine Ev.step (fun k => by rw [laws_heldIntS.l0]) ?_
      refine ev_pos (by simp [numbI]; omega) (ev_pos (nn_cast _) ?_)
      have w1 : wrap64 (b + 1) = b + 1 := wrap_id (by omega) (by omega)
      have wi : wrap64 ((p.length : Int) + 1) = ((p.length + 1 : Nat) : Int) := wrap_succ (n := p.length + 1) (by omega) (by omega)
      simp only [numbI, rdmid_I, w1, wi]
      refine ev_pos (by trivial) ?_
      have ih2 := ih (p ++ [b]) (b + 1) (by omega) (by omega) (by simp; omega)
      simp only [List.append_assoc, List.singleton_append, List.length_append, List.length_singleton] at ih2
      rw [show b + ((m + 1 : Nat) : Int) = b + 1 + (m : Int) by omega]
      exact ih2
  unfold laws_heldIntS.f
  simpa using key m [] a h0 (by omega) (by simpa using hn)

/-- How many stand in rows, all together. -/
def tot {α : Type} : List (List α) → Nat
  | [] => 0
  | p :: ps => p.length + tot ps
theorem tot_map {α β : Type} (f : α → β) : ∀ ps : List (List α), tot (ps.map (List.map f)) = tot ps
  | [] => rfl
  | p :: ps => by simp only [List.map_cons, tot, List.length_map, tot_map f ps]
theorem tot_get {α : Type} : ∀ {ps : List (List α)} {p : List α}, p ∈ ps → p.length ≤ tot ps
  | [], p, h => by simp at h
  | q :: ps, p, h => by
    rcases List.mem_cons.1 h with rfl | h
    · unfold tot; omega
    · have := tot_get h; unfold tot; omega
theorem rdl_Prog {ps : List (List S175)} {i : Nat} (h : i < ps.length) : rd_L3 ps (i : Int) = ps[i] := by
  unfold rd_L3
  rw [Int.toNat_natCast, List.getD_eq_getElem?_getD, List.getElem?_eq_getElem h]
  rfl
theorem szInsSS_some (ps : List (List S175)) (a : Int) (hn : ps.length ≤ 9223372036854775807) (hp : ∀ p ∈ ps, p.length ≤ 9223372036854775807) (h0 : 0 ≤ a) (h1 : a ≤ 1048576) :
    ∃ v, Ev (fun k => laws_szInsSS.f k ps a) v ∧ (¬ v < 0 → (ps.length : Int) + tot ps ≤ a) := by
  have key : ∀ (d i : Nat) (a : Int), i + d = ps.length → 0 ≤ a → a ≤ 1048576 → ∃ v, Ev (fun k => laws_szInsSS.l0 k ps a (i : Int)) v ∧ (¬ v < 0 → (tot (ps.drop i) : Int) ≤ a) := by
    intro d
    induction d with
    | zero =>
      intro i a hi h0 _
      refine ⟨a, Ev.step (fun k => by rw [laws_szInsSS.l0]) (ev_neg (by omega) (ev_now _)), fun _ => ?_⟩
      rw [show i = ps.length by omega, List.drop_length]; simp [tot, h0]
    | succ d ih =>
      intro i a hd h0 h1
      have hi : i < ps.length := by omega
      have hz := szInsS_some ps[i] a (hp _ (List.getElem_mem hi)) h0 h1
      by_cases hs : a < (ps[i].length : Int)
      · rw [if_pos hs] at hz
        refine ⟨-1, Ev.step (fun k => by rw [laws_szInsSS.l0]) (ev_pos (lt_cast hi) (ev_pos (nn_cast i) ?_)), fun h => absurd (show (-1 : Int) < 0 by omega) h⟩
        rw [rdl_Prog hi]
        exact ev_get hz (ev_pos (by omega) (ev_now _))
      · rw [if_neg hs] at hz
        obtain ⟨v, hv, hvi⟩ := ih (i + 1) (a - ps[i].length) (by omega) (by omega) (by omega)
        refine ⟨v, Ev.step (fun k => by rw [laws_szInsSS.l0]) (ev_pos (lt_cast hi) (ev_pos (nn_cast i) ?_)), fun h => ?_⟩
        · rw [rdl_Prog hi, wrap_succ hi hn]
          exact ev_get hz (ev_neg (by omega) hv)
        · have := hvi h
          rw [List.drop_eq_getElem_cons hi]; simp only [tot]; omega
  unfold laws_szInsSS.f
  have hw : wrap64 (a - (ps.length : Int)) = a - ps.length := wrap_id (by omega) (by omega)
  rw [hw]
  by_cases hs : a - (ps.length : Int) < 0
  · exact ⟨-1, ev_pos hs (ev_now _), fun h => absurd (show (-1 : Int) < 0 by omega) h⟩
  · obtain ⟨v, hv, hvi⟩ := key ps.length 0 (a - ps.length) (by omega) (by omega) (by omega)
    refine ⟨v, ev_neg hs hv, fun h => ?_⟩
    have := hvi h
    simp only [List.drop_zero] at this; omega
theorem toInsSS_ev (ps : List (List S175)) (hn : ps.length ≤ 8796093022208) (hp : ∀ p ∈ ps, p.length ≤ 8796093022208) : Ev (fun k => laws_toInsSS.f k ps) (ps.map (List.map toIns)) := by
  unfold laws_toInsSS.f
  refine ev_pos (nn_cast _) (ev_pos (by rw [Int.toNat_natCast]; omega) ?_)
  rw [Int.toNat_natCast]
  have hm : (ps.map (List.map toIns)).length = ps.length := List.length_map _
  have key := ev_loop ps.length (fun i k => laws_toInsSS.l0 k ps ((ps.map (List.map toIns)).take i ++ List.replicate ((ps.map (List.map toIns)).length - i) []) (i : Int)) (fun _ => ps.map (List.map toIns)) (fun i hi ih => by
      refine Ev.step (fun k => by rw [laws_toInsSS.l0]) ?_
      refine ev_pos (lt_cast hi) (ev_pos (nn_cast i) ?_)
      rw [rdl_Prog hi, wrap_succ hi (by omega)]
      refine (toInsS_ev ps[i] (hp _ (List.getElem_mem hi))).bind ?_
      refine ev_pos (by rw [state_len _ _ _ (by omega), hm]; exact lt_cast hi) ?_
      have hs := set_state (ps.map (List.map toIns)) [] i (by rw [hm]; exact hi)
      rw [List.getElem_map] at hs
      rw [Int.toNat_natCast, hs]
      exact ih) (by
      refine Ev.step (fun k => by rw [laws_toInsSS.l0]) ?_
      refine ev_neg (by omega) ?_
      rw [hm, Nat.sub_self, List.replicate_zero, List.append_nil, ← hm, List.take_length]
      exact ev_now _) 0 (Nat.zero_le _)
  simpa [hm] using key
theorem eqInsSS_self (ps : List (List S95)) (hn : ps.length ≤ 9223372036854775807) (hp : ∀ p ∈ ps, p.length ≤ 9223372036854775807) : Ev (fun k => laws_eqInsSS.f k ps ps) true := by
  have key := ev_loop ps.length (fun i k => laws_eqInsSS.l0 k ps ps (i : Int)) (fun _ => true) (fun i hi ih => by
    refine Ev.step (fun k => by rw [laws_eqInsSS.l0]) ?_
    refine ev_pos (lt_cast hi) (ev_pos (nn_cast i) (ev_pos (lt_cast hi) ?_))
    rw [rdi_Prog hi, wrap_succ hi hn]
    obtain ⟨v, hv, hvi⟩ := eqInsS_ev ps[i] ps[i] (hp _ (List.getElem_mem hi))
    obtain rfl : v = true := hvi.2 rfl
    exact hv.bind (ev_pos rfl ih)) (by
    refine Ev.step (fun k => by rw [laws_eqInsSS.l0]) ?_
    exact ev_neg (by omega) (ev_now _)) 0 (Nat.zero_le _)
  exact Ev.congr (fun k => by unfold laws_eqInsSS.f; exact if_pos rfl) key
theorem markInsSS_ev (ps : List (List S95)) (a : Int) (h0 : 0 ≤ a) (h1 : a ≤ 10000000) (hn : ps.length ≤ 10000000) (ht : tot ps ≤ 10000000) : Ev (fun k => laws_markInsSS.f k ps a) (a + 4 * tot ps) := by
  have key : ∀ (r p : List (List S95)) (b : Int), 0 ≤ b → b + 4 * tot r ≤ 1000000000 → p.length + r.length ≤ 10000000 → tot r ≤ 10000000 → Ev (fun k => laws_markInsSS.l0 k (p ++ r) b (p.length : Int)) (b + 4 * tot r) := by
    intro r
    induction r with
    | nil =>
      intro p b _ _ _ _
      refine Ev.step (fun k => by rw [laws_markInsSS.l0]) ?_
      refine ev_neg (by simp) ?_
      simpa [tot] using ev_now _
    | cons x r ih =>
      intro p b hb hb2 hl htr
      simp only [List.length_cons, tot] at hb2 hl htr
      refine Ev.step (fun k => by rw [laws_markInsSS.l0]) ?_
      refine ev_pos (by simp; omega) (ev_pos (nn_cast _) ?_)
      have wi : wrap64 ((p.length : Int) + 1) = ((p.length + 1 : Nat) : Int) := wrap_succ (n := p.length + 1) (by omega) (by omega)
      rw [rdi_Prog (by simp), wi]
      simp only [List.getElem_append_right (Nat.le_refl _), Nat.sub_self, List.getElem_cons_zero]
      refine (markInsS_ev x b hb (by omega) (by omega)).bind ?_
      rw [Int.toNat_natCast, List.set_append_right _ _ (Nat.le_refl _), Nat.sub_self, List.set_cons_zero]
      have ih2 := ih (p ++ [numbIns b x.length]) (b + 4 * x.length) (by omega) (by omega) (by simp; omega) (by omega)
      simp only [List.append_assoc, List.singleton_append, List.length_append, List.length_singleton] at ih2
      rw [show b + 4 * ((tot (x :: r) : Nat) : Int) = b + 4 * (x.length : Int) + 4 * (tot r : Int) by simp only [tot]; omega]
      exact ih2
  unfold laws_markInsSS.f
  simpa using key ps [] a h0 (by omega) (by simpa using hn) ht

theorem FnExactSerialAll : laws_FnExactSerialAll.Pure := by
  intro l ps ⟨hl, _⟩ ⟨hps, hps2⟩
  unfold RES1
  refine cn (szBoxS_some l 1048576 hl (by omega) (by omega)) ?_
  by_cases hs : (1048576 : Int) < l.length
  · rw [if_pos hs]
    exact Am.br_t (by simp) (Am.isTrue_true _)
  rw [if_neg hs]
  refine Am.br_f (by simp; omega) ?_
  obtain ⟨v, hv, hvi⟩ := szInsSS_some ps (1048576 - l.length) hps (fun p hp => (hps2 p hp).1) (by omega) (by omega)
  refine cx hv ?_
  by_cases hs2 : v < 0
  · exact Am.br_t (by simpa using hs2) (Am.isTrue_true _)
  refine Am.br_f (by simpa using hs2) ?_
  have ht := hvi hs2
  have hpp : ∀ p ∈ ps, p.length ≤ 1048576 := fun p hp => by have := tot_get hp; omega
  have hb := toBoxS_ev l (by omega)
  have hi := toInsSS_ev ps (by omega) (fun p hp => by have := hpp p hp; omega)
  have lb : (l.map toBox).length = l.length := List.length_map _
  have li : (ps.map (List.map toIns)).length = ps.length := List.length_map _
  have lp : ∀ p ∈ ps.map (List.map toIns), p.length ≤ 1048576 := fun p hp => by
    obtain ⟨q, hq, rfl⟩ := List.mem_map.1 hp
    rw [List.length_map]; exact hpp q hq
  have lt : tot (ps.map (List.map toIns)) = tot ps := tot_map _ _
  generalize l.map toBox = x at *
  generalize ps.map (List.map toIns) = qs at *
  have hv := spec_SerialAll_ev x qs (by omega) (by omega) (fun p hp => by have := lp p hp; omega)
  have hu := impl_SerialAll_ev x qs (by omega) (by omega) (fun p hp => by have := lp p hp; omega)
  have hlen := serAll_len x qs
  generalize serAll x qs = r at hv hu hlen
  obtain ⟨d, c⟩ := r
  simp only at hlen
  obtain ⟨e, he, hei⟩ := eqBoxS_ev x x (by omega)
  obtain ⟨e3, hd, hdi⟩ := eqBoxS_ev d d (by omega)
  obtain rfl : e = true := hei.2 rfl
  obtain rfl : e3 = true := hdi.2 rfl
  have hc := eqIntS_self c (by omega)
  have hq := eqInsSS_self qs (by omega) (fun p hp => by have := lp p hp; omega)
  have hmb := markBoxS_ev x 1 (by omega) (by omega) (by omega)
  have hmi := markInsSS_ev qs (1 + 2 * x.length) (by omega) (by omega) (by omega) (by omega)
  have hmd := markBoxS_ev d 1 (by omega) (by omega) (by omega)
  have hmc := markIntS_ev c (1 + 2 * d.length) (by omega) (by omega) (by omega)
  have hhd := heldBoxS_ev 1 d.length (by omega) (by omega) (by omega)
  have hhc := heldIntS_ev (1 + 2 * d.length) c.length (by omega) (by omega) (by omega)
  refine cx hb (cx hi (cx hv (cx hb (cx hi ?_))))
  unfold RES2
  refine cx hu (cx hd (Am.br_f rfl (cx hc (Am.br_f rfl (cx hb (cx he (Am.br_f rfl (cx hi (cx hq (Am.br_f rfl (cx hmb (cx hmi ?_))))))))))))
  unfold RES3
  refine Am.br_f (by simp; omega) (cx hd (Am.br_f rfl (cx hc (Am.br_f rfl (cx hmd (cx hmc (cx hhd (Am.br_f (by simp; omega) (cx hhc (Am.br_f (by simp; omega) (Am.br_f (by simp) ?_)))))))))))
  exact cx hb (cx hi (cx hu (cx hd (Am.br_f rfl (cx hc (Am.br_f rfl (cx hhd (Am.br_f (by simp; omega) (cx hhc (Am.br_f (by simp; omega) (Am.br_f (by simp) (Am.isTrue_true _))))))))))))

end Go.Proofs.Ytkkmhlfpombgfaa.Pure
