/- The pure law of FnExactProgOk: what the printed function of the law answers is true, for every input. Its condition: none but what the row says. -/
import Derived.Test.YthojmgliknacfaaPFnExactProgOkx3
namespace Go.Proofs.Ythojmgliknacfaa.Pure
open Go.RowKit Go.Proofs.Ythojmgliknacfaa.PFnExactProgOk Go.Proofs.YthojmgliknacfaaW.PrintWords Go.Proofs.YthojmgliknacfaaW.PrintLast
set_option linter.unusedVariables false
set_option linter.unusedSimpArgs false
set_option linter.unusedSectionVars false

theorem wrap_succ {i n : Nat} (h : i < n) (hn : n ≤ 9223372036854775807) : wrap64 ((i : Int) + 1) = ((i + 1 : Nat) : Int) := by unfold wrap64; omega
theorem wrap_id {a : Int} (h0 : -9223372036854775808 ≤ a) (h1 : a ≤ 9223372036854775807) : wrap64 a = a := by unfold wrap64; omega
theorem ev_pos {α : Type} {c : Prop} [Decidable c] {f g : Nat → Option α} {r : α} (h : c) (e : Ev f r) : Ev (fun k => if c then f k else g k) r := by
  simp only [if_pos h]; exact e
theorem ev_neg {α : Type} {c : Prop} [Decidable c] {f g : Nat → Option α} {r : α} (h : ¬ c) (e : Ev g r) : Ev (fun k => if c then f k else g k) r := by
  simp only [if_neg h]; exact e
theorem ev_ite {α : Type} {c : Prop} [Decidable c] {f g : Nat → Option α} {r : α} (h1 : c → Ev f r) (h2 : ¬ c → Ev g r) : Ev (fun k => if c then f k else g k) r := by
  by_cases h : c
  · exact ev_pos h (h1 h)
  · exact ev_neg h (h2 h)
theorem ev_now {α : Type} (r : α) : Ev (fun _ => some r) r := Ev.now r
theorem ev_get {α β : Type} {g : Option α} {f : Nat → α → Option β} {a : α} {r : β} (h : g = some a) (k : Ev (fun n => f n a) r) : Ev (fun n => g.bind (f n)) r := by
  subst h; exact k
theorem ev_of_eq {α : Type} {g : Nat → Option α} {a : Option α} {r : α} (h : ∀ k, g k = a) (e : a = some r) : Ev g r := ⟨0, fun k _ => (h k).trans e⟩
/-- A loop over 0 .. n - 1: what it answers from i on. -/
theorem ev_loop {α : Type} (n : Nat) (F : Nat → Nat → Option α) (v : Nat → α) (step : ∀ i, i < n → Ev (F (i + 1)) (v (i + 1)) → Ev (F i) (v i)) (last : Ev (F n) (v n)) : ∀ i, i ≤ n → Ev (F i) (v i) := by
  have key : ∀ d i, i + d = n → Ev (F i) (v i) := by
    intro d
    induction d with
    | zero => intro i h; obtain rfl : i = n := by omega
              exact last
    | succ d ih => intro i h; exact step i (by omega) (ih (i + 1) (by omega))
  exact fun i hi => key (n - i) i (by omega)
theorem lt_cast {i n : Nat} (h : i < n) : (i : Int) < (n : Int) := Int.ofNat_lt.2 h
theorem nn_cast (i : Nat) : (0 : Int) ≤ (i : Int) := Int.natCast_nonneg i
theorem set_state {α : Type} (xs : List α) (z : α) (i : Nat) (h : i < xs.length) : (xs.take i ++ List.replicate (xs.length - i) z).set i xs[i] = xs.take (i + 1) ++ List.replicate (xs.length - (i + 1)) z := by
  rw [List.take_succ_eq_append_getElem h, List.append_assoc, List.set_append_right _ _ (by rw [List.length_take]; omega)]
  congr 1
  rw [List.length_take, Nat.min_eq_left (by omega), Nat.sub_self, show xs.length - i = (xs.length - (i + 1)) + 1 by omega, List.replicate_succ]
  rfl
theorem state_len {α : Type} (xs : List α) (z : α) (i : Nat) (h : i ≤ xs.length) : (xs.take i ++ List.replicate (xs.length - i) z).length = xs.length := by
  rw [List.length_append, List.length_take, List.length_replicate]; omega
theorem drop_eq {α : Type} {x y : List α} (hl : x.length = y.length) {i : Nat} (h : i < x.length) : (x.drop i = y.drop i) ↔ (x[i] = y[i]'(hl ▸ h) ∧ x.drop (i + 1) = y.drop (i + 1)) := by
  have h2 : i < y.length := hl ▸ h
  rw [List.drop_eq_getElem_cons h, List.drop_eq_getElem_cons h2, List.cons.injEq]
theorem mem_split {α : Type} {p : α → Prop} {l : List α} {i : Nat} (h : i < l.length) : (∀ b ∈ l.drop i, p b) ↔ p l[i] ∧ ∀ b ∈ l.drop (i + 1), p b := by
  rw [List.drop_eq_getElem_cons h]
  simp only [List.mem_cons, forall_eq_or_imp]

theorem rdl_Ins {l : List S72} {i : Nat} (h : i < l.length) : rd_T72 l (i : Int) = l[i] := by
  unfold rd_T72
  rw [Int.toNat_natCast, List.getD_eq_getElem?_getD, List.getElem?_eq_getElem h]
  rfl
theorem ext_Ins {a b : S70} (h0 : a.f0 = b.f0) (h1 : a.f1 = b.f1) (h2 : a.f2 = b.f2) (h3 : a.f3 = b.f3) : a = b := by
  cases a; cases b; simp_all
theorem rdi_Ins {l : List S70} {i : Nat} (h : i < l.length) : rd_T70 l (i : Int) = l[i] := by
  unfold rd_T70
  rw [Int.toNat_natCast, List.getD_eq_getElem?_getD, List.getElem?_eq_getElem h]
  rfl

theorem ev_const {α : Type} {X : Option α} {r : α} (h : X = some r) : Ev (fun _ => X) r := ⟨0, fun _ _ => h⟩
/-- An instruction that is right. -/
def insIn (x : S70) : Prop :=
  (x.f0 = 1 ∧ 0 ≤ x.f1 ∧ x.f1 ≤ 3 ∧ 0 ≤ x.f2 ∧ x.f2 ≤ 3 ∧ x.f3 = 0) ∨ (x.f0 = 2 ∧ 0 ≤ x.f1 ∧ x.f1 ≤ 3 ∧ 0 ≤ x.f2 ∧ x.f2 ≤ 3 ∧ x.f3 = 0) ∨
  (x.f0 = 3 ∧ 0 ≤ x.f1 ∧ x.f1 ≤ 3 ∧ x.f2 = 0 ∧ -1000000 ≤ x.f3 ∧ x.f3 ≤ 1000000) ∨ ((x.f0 = 4 ∨ x.f0 = 5) ∧ 0 ≤ x.f1 ∧ x.f1 ≤ 3 ∧ 0 ≤ x.f2 ∧ x.f2 ≤ 3 ∧ x.f3 = 0) ∨
  (x.f0 = 6 ∧ 0 ≤ x.f1 ∧ x.f1 ≤ 3 ∧ 0 ≤ x.f2 ∧ x.f2 ≤ 3 ∧ 1 ≤ x.f3 ∧ x.f3 ≤ 10) ∨ (x.f0 = 7 ∧ x.f1 = 0 ∧ x.f2 = 0 ∧ x.f3 = 0)
instance (x : S70) : Decidable (insIn x) := by unfold insIn; infer_instance
def progOk (l : List S70) : Prop := l.length ≤ 10 ∧ ∀ x ∈ l, insIn x

theorem l2Reg_some (a : Int) : spec_l2Reg.f a = some (decide (0 ≤ a ∧ a ≤ 3)) := by
  unfold spec_l2Reg.f
  by_cases h : a ≥ 0
  · rw [if_pos h]; congr 1; rw [Bool.eq_iff_iff]; simp; omega
  · rw [if_neg h]; congr 1; rw [Bool.eq_iff_iff]; simp; omega
theorem l2Box_some (a : Int) : spec_l2Box.f a = some (decide (0 ≤ a ∧ a ≤ 3)) := by
  unfold spec_l2Box.f
  by_cases h : a ≥ 0
  · rw [if_pos h]; congr 1; rw [Bool.eq_iff_iff]; simp; omega
  · rw [if_neg h]; congr 1; rw [Bool.eq_iff_iff]; simp; omega
theorem l1Num_dec (a : Int) : spec_l1Num.f a = some (decide (-1000000 ≤ a ∧ a ≤ 1000000)) := by
  unfold spec_l1Num.f
  by_cases h : a ≥ -1000000
  · rw [if_pos h]; congr 1; rw [Bool.eq_iff_iff]; simp; omega
  · rw [if_neg h]; congr 1; rw [Bool.eq_iff_iff]; simp; omega
theorem l2Ins_ev (x : S70) : Ev (fun k => spec_l2Ins.f k x.f0 x.f1 x.f2 x.f3) (decide (insIn x)) := by
  obtain ⟨kd, a, b, n⟩ := x
  unfold spec_l2Ins.f
  simp only [l2Reg_some, l2Box_some, l1Num_dec, Option.bind_some, decide_eq_true_eq]
  have fin : ∀ {X : Option Bool}, X = some (decide (insIn ⟨kd, a, b, n⟩)) → Ev (fun _ => X) (decide (insIn ⟨kd, a, b, n⟩)) := fun h => ev_const h
  refine ev_ite (fun h => fin ?_) (fun h1 => ev_ite (fun h => fin ?_) (fun h2 => ev_ite (fun h => fin ?_) (fun h3 => ?_)))
  · repeat' split
    all_goals (congr 1; rw [Bool.eq_iff_iff]; simp only [decide_eq_true_eq, beq_iff_eq, Bool.false_eq_true]; simp only [insIn]; constructor <;> intro hh_ <;> first | exact hh_.elim | omega)
  · repeat' split
    all_goals (congr 1; rw [Bool.eq_iff_iff]; simp only [decide_eq_true_eq, beq_iff_eq, Bool.false_eq_true]; simp only [insIn]; constructor <;> intro hh_ <;> first | exact hh_.elim | omega)
  · repeat' split
    all_goals (congr 1; rw [Bool.eq_iff_iff]; simp only [decide_eq_true_eq, beq_iff_eq, Bool.false_eq_true]; simp only [insIn]; constructor <;> intro hh_ <;> first | exact hh_.elim | omega)
  · have key : ∀ t : Bool, (t = true ↔ kd = 4 ∨ kd = 5) → Ev (fun k => spec_l2Ins.j0 k kd t kd a b n) (decide (insIn ⟨kd, a, b, n⟩)) := by
      intro t ht
      refine Ev.step (fun k => by rw [spec_l2Ins.j0]) ?_
      simp only [l2Reg_some, l2Box_some, l1Num_dec, Option.bind_some, decide_eq_true_eq]
      refine fin ?_
      by_cases h4 : t = true
      · have := ht.1 h4
        rw [if_pos h4]
        repeat' split
        all_goals (congr 1; rw [Bool.eq_iff_iff]; simp only [decide_eq_true_eq, beq_iff_eq, Bool.false_eq_true]; simp only [insIn]; constructor <;> intro hh_ <;> first | exact hh_.elim | omega)
      · have : ¬ (kd = 4 ∨ kd = 5) := fun h => h4 (ht.2 h)
        rw [if_neg h4]
        repeat' split
        all_goals (congr 1; rw [Bool.eq_iff_iff]; simp only [decide_eq_true_eq, beq_iff_eq, Bool.false_eq_true]; simp only [insIn]; constructor <;> intro hh_ <;> first | exact hh_.elim | omega)
    refine ev_ite (fun h4 => key _ (by simp [h4])) (fun h4 => key _ (by simp [h4]))
theorem spec_ProgOk_ev (l : List S70) (hn : l.length ≤ 9223372036854775807) : ∃ v, Ev (fun k => spec_ProgOk.f k l) v ∧ (v = true ↔ progOk l) := by
  by_cases h10 : l.length ≤ 10
  · have key := ev_loop l.length (fun i k => spec_ProgOk.l0 k l (i : Int)) (fun i => decide (∀ b ∈ l.drop i, insIn b)) (fun i hi ih => by
      refine Ev.step (fun k => by rw [spec_ProgOk.l0]) ?_
      refine ev_pos (lt_cast hi) (ev_pos (nn_cast i) ?_)
      rw [rdi_Ins hi, wrap_succ hi hn]
      refine (l2Ins_ev l[i]).bind ?_
      have hs : (∀ b ∈ l.drop i, insIn b) ↔ insIn l[i] ∧ ∀ b ∈ l.drop (i + 1), insIn b := mem_split (p := insIn) hi
      simp only [hs, decide_eq_true_eq]
      by_cases h1 : insIn l[i]
      · simp only [h1, true_and]
        exact ev_pos trivial ih
      · simp only [h1, false_and, decide_false]
        exact ev_neg (fun h => h) (ev_now _)) (by
      refine Ev.step (fun k => by rw [spec_ProgOk.l0]) ?_
      refine ev_neg (by omega) ?_
      simp only [List.drop_length, List.not_mem_nil, false_implies, implies_true, decide_true]
      exact ev_now _) 0 (Nat.zero_le _)
    exact ⟨_, Ev.congr (fun k => by unfold spec_ProgOk.f; exact if_neg (by omega)) key, by simp [progOk, h10]⟩
  · refine ⟨false, ?_, by simp [progOk]; omega⟩
    unfold spec_ProgOk.f
    exact ev_pos (by omega) (ev_now _)

theorem in_dec (a b c : Int) : impl_in.f a b c = some (decide (b ≤ a ∧ a ≤ c)) := by
  unfold impl_in.f
  by_cases h : a ≥ b
  · rw [if_pos h]; congr 1; rw [Bool.eq_iff_iff]; simp; omega
  · rw [if_neg h]; congr 1; rw [Bool.eq_iff_iff]; simp; omega
theorem insOk1_dec (a : Int) : impl_insOk_1.f a = some (decide (0 ≤ a ∧ a ≤ 3)) := by
  unfold impl_insOk_1.f
  rw [in_dec]; rfl
theorem insOk2_dec (a : Int) : impl_insOk_2.f a = some (decide (0 ≤ a ∧ a ≤ 3)) := by
  unfold impl_insOk_2.f
  rw [in_dec]; rfl
theorem insOk_ev (x : S70) : Ev (fun k => impl_insOk.f k x.f0 x.f1 x.f2 x.f3) (decide (insIn x)) := by
  obtain ⟨kd, a, b, n⟩ := x
  unfold impl_insOk.f
  simp only [insOk1_dec, insOk2_dec, in_dec, Option.bind_some, decide_eq_true_eq]
  have fin : ∀ {X : Option Bool}, X = some (decide (insIn ⟨kd, a, b, n⟩)) → Ev (fun _ => X) (decide (insIn ⟨kd, a, b, n⟩)) := fun h => ev_const h
  refine ev_ite (fun h => fin ?_) (fun h1 => ev_ite (fun h => fin ?_) (fun h2 => ev_ite (fun h => fin ?_) (fun h3 => ?_)))
  · repeat' split
    all_goals (congr 1; rw [Bool.eq_iff_iff]; simp only [decide_eq_true_eq, beq_iff_eq, Bool.false_eq_true]; simp only [insIn]; constructor <;> intro hh_ <;> first | exact hh_.elim | omega)
  · repeat' split
    all_goals (congr 1; rw [Bool.eq_iff_iff]; simp only [decide_eq_true_eq, beq_iff_eq, Bool.false_eq_true]; simp only [insIn]; constructor <;> intro hh_ <;> first | exact hh_.elim | omega)
  · repeat' split
    all_goals (congr 1; rw [Bool.eq_iff_iff]; simp only [decide_eq_true_eq, beq_iff_eq, Bool.false_eq_true]; simp only [insIn]; constructor <;> intro hh_ <;> first | exact hh_.elim | omega)
  · have key : ∀ t : Bool, (t = true ↔ kd = 4 ∨ kd = 5) → Ev (fun k => impl_insOk.j0 k kd t kd a b n) (decide (insIn ⟨kd, a, b, n⟩)) := by
      intro t ht
      refine Ev.step (fun k => by rw [impl_insOk.j0]) ?_
      simp only [insOk1_dec, insOk2_dec, in_dec, Option.bind_some, decide_eq_true_eq]
      refine fin ?_
      by_cases h4 : t = true
      · have := ht.1 h4
        rw [if_pos h4]
        repeat' split
        all_goals (congr 1; rw [Bool.eq_iff_iff]; simp only [decide_eq_true_eq, beq_iff_eq, Bool.false_eq_true]; simp only [insIn]; constructor <;> intro hh_ <;> first | exact hh_.elim | omega)
      · have : ¬ (kd = 4 ∨ kd = 5) := fun h => h4 (ht.2 h)
        rw [if_neg h4]
        repeat' split
        all_goals (congr 1; rw [Bool.eq_iff_iff]; simp only [decide_eq_true_eq, beq_iff_eq, Bool.false_eq_true]; simp only [insIn]; constructor <;> intro hh_ <;> first | exact hh_.elim | omega)
    refine ev_ite (fun h4 => key _ (by simp [h4])) (fun h4 => key _ (by simp [h4]))
theorem impl_ProgOk_ev (l : List S70) (hn : l.length ≤ 9223372036854775807) : ∃ v, Ev (fun k => impl_ProgOk.f k l) v ∧ (v = true ↔ progOk l) := by
  have key := ev_loop l.length (fun i k => impl_ProgOk.l0 k l l (l.length : Int) (i : Int)) (fun i => decide ((∀ b ∈ l.drop i, insIn b) ∧ l.length ≤ 10)) (fun i hi ih => by
      refine Ev.step (fun k => by rw [impl_ProgOk.l0]) ?_
      refine ev_pos (lt_cast hi) (ev_pos (nn_cast i) (ev_pos (lt_cast hi) ?_))
      rw [rdi_Ins hi, wrap_succ hi hn]
      refine (insOk_ev l[i]).bind ?_
      have hs : (∀ b ∈ l.drop i, insIn b) ↔ insIn l[i] ∧ ∀ b ∈ l.drop (i + 1), insIn b := mem_split (p := insIn) hi
      simp only [hs, decide_eq_true_eq]
      by_cases h1 : insIn l[i]
      · simp only [h1, true_and]
        exact ev_pos trivial ih
      · simp only [h1, false_and, decide_false]
        exact ev_neg (fun h => h) (ev_now _)) (by
      refine Ev.step (fun k => by rw [impl_ProgOk.l0]) ?_
      refine ev_neg (by omega) ?_
      have : decide ((l.length : Int) ≤ 10) = decide ((∀ b ∈ l.drop l.length, insIn b) ∧ l.length ≤ 10) := by
        rw [List.drop_length, Bool.eq_iff_iff]
        simp; omega
      rw [this]
      exact ev_now _) 0 (Nat.zero_le _)
  exact ⟨_, Ev.congr (fun k => by unfold impl_ProgOk.f; exact rfl) key, by simp [progOk, and_comm]⟩

theorem szInsS_some (l : List S72) (a : Int) (hn : l.length ≤ 9223372036854775807) (h0 : 0 ≤ a) (h1 : a ≤ 1048576) : laws_szInsS.f l a = some (if a < l.length then -1 else a - l.length) := by
  unfold laws_szInsS.f
  have hw : wrap64 (a - (l.length : Int)) = a - l.length := wrap_id (by omega) (by omega)
  rw [hw]
  by_cases h : a < l.length
  · rw [if_pos (by omega), if_pos h]
  · rw [if_neg (by omega), if_neg h]

def toIns (x : S72) : S70 := ⟨x.f0, x.f1, x.f2, x.f3⟩
theorem toInsS_ev (l : List S72) (hn : l.length ≤ 8796093022208) : Ev (fun k => laws_toInsS.f k l) (l.map toIns) := by
  unfold laws_toInsS.f
  refine ev_pos (nn_cast _) (ev_pos (by rw [Int.toNat_natCast]; omega) ?_)
  rw [Int.toNat_natCast]
  have hm : (l.map toIns).length = l.length := List.length_map _
  have key := ev_loop l.length (fun i k => laws_toInsS.l0 k l ((l.map toIns).take i ++ List.replicate ((l.map toIns).length - i) z70) (i : Int)) (fun _ => l.map toIns) (fun i hi ih => by
      refine Ev.step (fun k => by rw [laws_toInsS.l0]) ?_
      refine ev_pos (lt_cast hi) (ev_pos (nn_cast i) ?_)
      rw [rdl_Ins hi, wrap_succ hi (by omega)]
      refine ev_get (a := ((l[i]).f0, (l[i]).f1, (l[i]).f2, (l[i]).f3)) rfl ?_
      refine ev_pos (by rw [state_len _ _ _ (by omega), hm]; exact lt_cast hi) ?_
      have hs := set_state (l.map toIns) z70 i (by rw [hm]; exact hi)
      rw [List.getElem_map] at hs
      rw [Int.toNat_natCast]
      simp only [toIns] at hs ⊢ ih
      rw [hs]
      exact ih) (by
      refine Ev.step (fun k => by rw [laws_toInsS.l0]) ?_
      refine ev_neg (by omega) ?_
      rw [hm, Nat.sub_self, List.replicate_zero, List.append_nil, ← hm, List.take_length]
      exact ev_now _) 0 (Nat.zero_le _)
  simpa [hm] using key

theorem eqIns_some (a b : S70) : ∃ v, laws_eqIns.f a.f0 a.f1 a.f2 a.f3 b.f0 b.f1 b.f2 b.f3 = some v ∧ (v = true ↔ a = b) := by
  unfold laws_eqIns.f
  by_cases h0 : a.f0 = b.f0
  · rw [if_pos h0]
    by_cases h1 : a.f1 = b.f1
    · rw [if_pos h1]
      by_cases h2 : a.f2 = b.f2
      · rw [if_pos h2]
        by_cases h3 : a.f3 = b.f3
        · rw [if_pos h3]
          exact ⟨true, rfl, by simp; exact ext_Ins h0 h1 h2 h3⟩
        · rw [if_neg h3]
          exact ⟨false, rfl, by simp; intro h; exact h3 (by rw [h])⟩
      · rw [if_neg h2]
        exact ⟨false, rfl, by simp; intro h; exact h2 (by rw [h])⟩
    · rw [if_neg h1]
      exact ⟨false, rfl, by simp; intro h; exact h1 (by rw [h])⟩
  · rw [if_neg h0]
    exact ⟨false, rfl, by simp; intro h; exact h0 (by rw [h])⟩
theorem eqInsS_ev (x y : List S70) (hn : x.length ≤ 9223372036854775807) : ∃ v, Ev (fun k => laws_eqInsS.f k x y) v ∧ (v = true ↔ x = y) := by
  classical
  by_cases hl : x.length = y.length
  · have key := ev_loop x.length (fun i k => laws_eqInsS.l0 k x y (i : Int)) (fun i => decide (x.drop i = y.drop i)) (fun i hi ih => by
      refine Ev.step (fun k => by rw [laws_eqInsS.l0]) ?_
      refine ev_pos (lt_cast hi) (ev_pos (nn_cast i) (ev_pos (lt_cast (hl ▸ hi)) ?_))
      rw [rdi_Ins hi, rdi_Ins (hl ▸ hi), wrap_succ hi hn]
      obtain ⟨v, hv, hvi⟩ := eqIns_some x[i] (y[i]'(hl ▸ hi))
      refine ev_get hv ?_
      simp only [drop_eq hl hi]
      by_cases h1 : v = true
      · simp only [hvi.1 h1, true_and]
        exact ev_pos h1 ih
      · simp only [show ¬ (x[i] = y[i]'(hl ▸ hi)) from fun h => h1 (hvi.2 h), false_and, decide_false]
        exact ev_neg h1 (ev_now _)) (by
      refine Ev.step (fun k => by rw [laws_eqInsS.l0]) ?_
      refine ev_neg (by omega) ?_
      rw [List.drop_length, hl, List.drop_length]
      simp only [decide_true]
      exact ev_now _) 0 (Nat.zero_le _)
    exact ⟨_, Ev.congr (fun k => by unfold laws_eqInsS.f; exact if_pos (by omega)) key, by simp⟩
  · refine ⟨false, ?_, by simp; exact fun h => hl (by rw [h])⟩
    unfold laws_eqInsS.f
    exact ev_neg (by omega) (ev_now _)

theorem FnExactProgOk : laws_FnExactProgOk.Pure := by
  intro l ⟨hn, _⟩
  refine Ev.rounds ?_
  unfold laws_FnExactProgOk.f
  refine ev_get (szInsS_some l 1048576 hn (by omega) (by omega)) ?_
  by_cases hs : (1048576 : Int) < l.length
  · rw [if_pos hs]
    exact ev_pos (by omega) (ev_now _)
  rw [if_neg hs]
  refine ev_neg (by omega) ?_
  have hto := toInsS_ev l (by omega)
  obtain ⟨v, hv, hvi⟩ := spec_ProgOk_ev (l.map toIns) (by simpa using hn)
  obtain ⟨u, hu, hui⟩ := impl_ProgOk_ev (l.map toIns) (by simpa using hn)
  obtain ⟨e, he, hei⟩ := eqInsS_ev (l.map toIns) (l.map toIns) (by simpa using hn)
  have huv : u = v := Bool.eq_iff_iff.2 (hui.trans hvi.symm)
  subst huv
  obtain rfl : e = true := hei.2 rfl
  refine hto.bind (hv.bind (hto.bind (hu.bind ?_)))
  refine ev_neg (by simp) (hto.bind (he.bind ?_))
  exact ev_pos rfl (ev_now _)

end Go.Proofs.Ythojmgliknacfaa.Pure
