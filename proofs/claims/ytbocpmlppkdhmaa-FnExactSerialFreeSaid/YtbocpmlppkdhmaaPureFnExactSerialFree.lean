/- The pure law of FnExactSerialFree: what the printed function of the law answers is true, for every input. Its condition: none but what the row says. -/
import Derived.Test.YtbocpmlppkdhmaaPFnExactSerialFreex5
namespace Go.Proofs.Ytbocpmlppkdhmaa.Pure
open Go.RowKit Go.Proofs.Ytbocpmlppkdhmaa.PFnExactSerialFree Go.Proofs.YtbocpmlppkdhmaaW.PrintWords Go.Proofs.YtbocpmlppkdhmaaW.PrintLast
set_option linter.unusedVariables false
set_option linter.unusedSimpArgs false
set_option linter.unusedSectionVars false

theorem wrap_succ {i n : Nat} (h : i < n) (hn : n ≤ 9223372036854775807) : wrap64 ((i : Int) + 1) = ((i + 1 : Nat) : Int) := by unfold wrap64; omega
theorem wrap_id {a : Int} (h0 : -9223372036854775808 ≤ a) (h1 : a ≤ 9223372036854775807) : wrap64 a = a := by unfold wrap64; omega
theorem ev_pos {α : Type} {c : Prop} [Decidable c] {f g : Nat → Option α} {r : α} (h : c) (e : Ev f r) : Ev (fun k => if c then f k else g k) r := by
  simp only [if_pos h]; exact e
theorem ev_neg {α : Type} {c : Prop} [Decidable c] {f g : Nat → Option α} {r : α} (h : ¬ c) (e : Ev g r) : Ev (fun k => if c then f k else g k) r := by
  simp only [if_neg h]; exact e
theorem ev_ite {α : Type} {c : Prop} [Decidable c] {f g : Nat → Option α} {r : α} (h1 : c → Ev f r) (h2 : ¬ c → Ev g r) : Ev (fun k => if c then f k else g k) r := by
  by_cases h : c
  · exact ev_pos h (h1 h)
  · exact ev_neg h (h2 h)
theorem ev_now {α : Type} (r : α) : Ev (fun _ => some r) r := Ev.now r
theorem ev_get {α β : Type} {g : Option α} {f : Nat → α → Option β} {a : α} {r : β} (h : g = some a) (k : Ev (fun n => f n a) r) : Ev (fun n => g.bind (f n)) r := by
  subst h; exact k
theorem ev_of_eq {α : Type} {g : Nat → Option α} {a : Option α} {r : α} (h : ∀ k, g k = a) (e : a = some r) : Ev g r := ⟨0, fun k _ => (h k).trans e⟩
/-- A loop over 0 .. n - 1: what it answers from i on. -/
theorem ev_loop {α : Type} (n : Nat) (F : Nat → Nat → Option α) (v : Nat → α) (step : ∀ i, i < n → Ev (F (i + 1)) (v (i + 1)) → Ev (F i) (v i)) (last : Ev (F n) (v n)) : ∀ i, i ≤ n → Ev (F i) (v i) := by
  have key : ∀ d i, i + d = n → Ev (F i) (v i) := by
    intro d
    induction d with
    | zero => intro i h; obtain rfl : i = n := by omega
              exact last
    | succ d ih => intro i h; exact step i (by omega) (ih (i + 1) (by omega))
  exact fun i hi => key (n - i) i (by omega)
theorem lt_cast {i n : Nat} (h : i < n) : (i : Int) < (n : Int) := Int.ofNat_lt.2 h
theorem nn_cast (i : Nat) : (0 : Int) ≤ (i : Int) := Int.natCast_nonneg i
theorem set_state {α : Type} (xs : List α) (z : α) (i : Nat) (h : i < xs.length) : (xs.take i ++ List.replicate (xs.length - i) z).set i xs[i] = xs.take (i + 1) ++ List.replicate (xs.length - (i + 1)) z := by
  rw [List.take_succ_eq_append_getElem h, List.append_assoc, List.set_append_right _ _ (by rw [List.length_take]; omega)]
  congr 1
  rw [List.length_take, Nat.min_eq_left (by omega), Nat.sub_self, show xs.length - i = (xs.length - (i + 1)) + 1 by omega, List.replicate_succ]
  rfl
theorem state_len {α : Type} (xs : List α) (z : α) (i : Nat) (h : i ≤ xs.length) : (xs.take i ++ List.replicate (xs.length - i) z).length = xs.length := by
  rw [List.length_append, List.length_take, List.length_replicate]; omega
theorem drop_eq {α : Type} {x y : List α} (hl : x.length = y.length) {i : Nat} (h : i < x.length) : (x.drop i = y.drop i) ↔ (x[i] = y[i]'(hl ▸ h) ∧ x.drop (i + 1) = y.drop (i + 1)) := by
  have h2 : i < y.length := hl ▸ h
  rw [List.drop_eq_getElem_cons h, List.drop_eq_getElem_cons h2, List.cons.injEq]
theorem mem_split {α : Type} {p : α → Prop} {l : List α} {i : Nat} (h : i < l.length) : (∀ b ∈ l.drop i, p b) ↔ p l[i] ∧ ∀ b ∈ l.drop (i + 1), p b := by
  rw [List.drop_eq_getElem_cons h]
  simp only [List.mem_cons, forall_eq_or_imp]
theorem ev_const {α : Type} {X : Option α} {r : α} (h : X = some r) : Ev (fun _ => X) r := ⟨0, fun _ _ => h⟩

theorem rd_i {l : List Int} {i : Nat} (h : i < l.length) : rd l (i : Int) = l[i] := by
  unfold rd
  rw [Int.toNat_natCast, List.getD_eq_getElem?_getD, List.getElem?_eq_getElem h]
  rfl

def meet (x y : List Int) : Prop := ∃ a ∈ x, a ∈ y
theorem mem_drop {y : List Int} {j : Nat} (h : j < y.length) (a : Int) : a ∈ y.drop j ↔ a = y[j] ∨ a ∈ y.drop (j + 1) := by
  rw [List.drop_eq_getElem_cons h, List.mem_cons]
theorem meet_drop {x : List Int} {i : Nat} (h : i < x.length) (y : List Int) : meet (x.drop i) y ↔ x[i] ∈ y ∨ meet (x.drop (i + 1)) y := by
  unfold meet
  rw [List.drop_eq_getElem_cons h]
  simp only [List.mem_cons, exists_eq_or_imp]

theorem l4Meet_ev (x y : List Int) (hn : x.length ≤ 9223372036854775807) (hm : y.length ≤ 9223372036854775807) : ∃ v, Ev (fun k => spec_l4Meet.f k x y) v ∧ (v = true ↔ meet x y) := by
  classical
  have key := ev_loop x.length (fun i k => spec_l4Meet.l0 k x y (i : Int)) (fun i => decide (meet (x.drop i) y)) (fun i hi ih => by
      refine Ev.step (fun k => by rw [spec_l4Meet.l0]) ?_
      refine ev_pos (lt_cast hi) ?_
      have inner := ev_loop y.length (fun j k => spec_l4Meet.l1 k x y (i : Int) (j : Int)) (fun j => decide (x[i] ∈ y.drop j ∨ meet (x.drop (i + 1)) y)) (fun j hj jh => by
          refine Ev.step (fun k => by rw [spec_l4Meet.l1]) ?_
          refine ev_pos (lt_cast hj) (ev_pos (nn_cast i) (ev_pos (lt_cast hi) (ev_pos (nn_cast j) ?_)))
          rw [rd_i hi, rd_i hj, wrap_succ hj hm]
          by_cases c : x[i] = y[j]
          · have : x[i] ∈ y.drop j := (mem_drop hj _).2 (.inl c)
            simp only [this, true_or, decide_true]
            exact ev_pos c (ev_now _)
          · simp only [mem_drop hj, c, false_or]
            exact ev_neg (fun h => h) jh) (by
          refine Ev.step (fun k => by rw [spec_l4Meet.l1]) ?_
          refine ev_neg (by omega) ?_
          rw [wrap_succ hi hn]
          simp only [List.drop_length, List.not_mem_nil, false_or]
          exact ih) 0 (Nat.zero_le _)
      simp only [List.drop_zero] at inner
      simp only [meet_drop hi]
      exact inner) (by
      refine Ev.step (fun k => by rw [spec_l4Meet.l0]) ?_
      refine ev_neg (by omega) ?_
      have : ¬ meet (x.drop x.length) y := by rw [List.drop_length]; rintro ⟨a, ha, _⟩; simp at ha
      simp only [this, decide_false]
      exact ev_now _) 0 (Nat.zero_le _)
  refine ⟨decide (meet (x.drop 0) y), ?_, by simp⟩
  unfold spec_l4Meet.f
  exact key

theorem meets_ev (x y : List Int) (hn : x.length ≤ 9223372036854775807) (hm : y.length ≤ 9223372036854775807) : ∃ v, Ev (fun k => impl_meets.f k x y) v ∧ (v = true ↔ meet x y) := by
  classical
  have key := ev_loop x.length (fun i k => impl_meets.l0 k y x (x.length : Int) (i : Int)) (fun i => decide (meet (x.drop i) y)) (fun i hi ih => by
      refine Ev.step (fun k => by rw [impl_meets.l0]) ?_
      refine ev_pos (lt_cast hi) (ev_pos (nn_cast i) (ev_pos (lt_cast hi) ?_))
      rw [rd_i hi]
      have inner := ev_loop y.length (fun j k => impl_meets.l1 k y x[i] x (x.length : Int) (i : Int) y (y.length : Int) (j : Int)) (fun j => decide (x[i] ∈ y.drop j ∨ meet (x.drop (i + 1)) y)) (fun j hj jh => by
          refine Ev.step (fun k => by rw [impl_meets.l1]) ?_
          refine ev_pos (lt_cast hj) (ev_pos (nn_cast j) (ev_pos (lt_cast hj) ?_))
          rw [rd_i hj, wrap_succ hj hm]
          by_cases c : x[i] = y[j]
          · have : x[i] ∈ y.drop j := (mem_drop hj _).2 (.inl c)
            simp only [this, true_or, decide_true]
            exact ev_pos c (ev_now _)
          · simp only [mem_drop hj, c, false_or]
            exact ev_neg (fun h => h) jh) (by
          refine Ev.step (fun k => by rw [impl_meets.l1]) ?_
          refine ev_neg (by omega) ?_
          rw [wrap_succ hi hn]
          simp only [List.drop_length, List.not_mem_nil, false_or]
          exact ih) 0 (Nat.zero_le _)
      simp only [List.drop_zero] at inner
      simp only [meet_drop hi]
      exact inner) (by
      refine Ev.step (fun k => by rw [impl_meets.l0]) ?_
      refine ev_neg (by omega) ?_
      have : ¬ meet (x.drop x.length) y := by rw [List.drop_length]; rintro ⟨a, ha, _⟩; simp at ha
      simp only [this, decide_false]
      exact ev_now _) 0 (Nat.zero_le _)
  refine ⟨decide (meet (x.drop 0) y), ?_, by simp⟩
  unfold impl_meets.f
  exact key

theorem ext_Ins {a b : S42} (h0 : a.f0 = b.f0) (h1 : a.f1 = b.f1) (h2 : a.f2 = b.f2) (h3 : a.f3 = b.f3) : a = b := by
  obtain ⟨a0_, a1_, a2_, a3_⟩ := a; obtain ⟨b0_, b1_, b2_, b3_⟩ := b; simp_all
theorem rdi_Ins {l : List S42} {i : Nat} (h : i < l.length) : rd_T42 l (i : Int) = l[i] := by
  unfold rd_T42
  rw [Int.toNat_natCast, List.getD_eq_getElem?_getD, List.getElem?_eq_getElem h]
  rfl

/-- An instruction that is right. -/
def insIn (x : S42) : Prop :=
  (x.f0 = 1 ∧ 0 ≤ x.f1 ∧ x.f1 ≤ 3 ∧ 0 ≤ x.f2 ∧ x.f2 ≤ 3 ∧ x.f3 = 0) ∨ (x.f0 = 2 ∧ 0 ≤ x.f1 ∧ x.f1 ≤ 3 ∧ 0 ≤ x.f2 ∧ x.f2 ≤ 3 ∧ x.f3 = 0) ∨
  (x.f0 = 3 ∧ 0 ≤ x.f1 ∧ x.f1 ≤ 3 ∧ x.f2 = 0 ∧ -1000000 ≤ x.f3 ∧ x.f3 ≤ 1000000) ∨ ((x.f0 = 4 ∨ x.f0 = 5) ∧ 0 ≤ x.f1 ∧ x.f1 ≤ 3 ∧ 0 ≤ x.f2 ∧ x.f2 ≤ 3 ∧ x.f3 = 0) ∨
  (x.f0 = 6 ∧ 0 ≤ x.f1 ∧ x.f1 ≤ 3 ∧ 0 ≤ x.f2 ∧ x.f2 ≤ 3 ∧ 1 ≤ x.f3 ∧ x.f3 ≤ 10) ∨ (x.f0 = 7 ∧ x.f1 = 0 ∧ x.f2 = 0 ∧ x.f3 = 0)
instance (x : S42) : Decidable (insIn x) := by unfold insIn; infer_instance
def progOk (l : List S42) : Prop := l.length ≤ 10 ∧ ∀ x ∈ l, insIn x

theorem l2Box_some (a : Int) : spec_l2Box.f a = some (decide (0 ≤ a ∧ a ≤ 3)) := by
  unfold spec_l2Box.f
  by_cases h : a ≥ 0
  · rw [if_pos h]; congr 1; rw [Bool.eq_iff_iff]; simp; omega
  · rw [if_neg h]; congr 1; rw [Bool.eq_iff_iff]; simp; omega

theorem l1Num_dec (a : Int) : spec_l1Num.f a = some (decide (-1000000 ≤ a ∧ a ≤ 1000000)) := by
  unfold spec_l1Num.f
  by_cases h : a ≥ -1000000
  · rw [if_pos h]; congr 1; rw [Bool.eq_iff_iff]; simp; omega
  · rw [if_neg h]; congr 1; rw [Bool.eq_iff_iff]; simp; omega

theorem l2Reg_some (a : Int) : spec_l2Reg.f a = some (decide (0 ≤ a ∧ a ≤ 3)) := by
  unfold spec_l2Reg.f
  by_cases h : a ≥ 0
  · rw [if_pos h]; congr 1; rw [Bool.eq_iff_iff]; simp; omega
  · rw [if_neg h]; congr 1; rw [Bool.eq_iff_iff]; simp; omega
theorem l2Ins_ev (x : S42) : Ev (fun k => spec_l2Ins.f k x.f0 x.f1 x.f2 x.f3) (decide (insIn x)) := by
  obtain ⟨kd, a, b, n⟩ := x
  unfold spec_l2Ins.f
  simp only [l2Reg_some, l2Box_some, l1Num_dec, Option.bind_some, decide_eq_true_eq]
  have fin : ∀ {X : Option Bool}, X = some (decide (insIn ⟨kd, a, b, n⟩)) → Ev (fun _ => X) (decide (insIn ⟨kd, a, b, n⟩)) := fun h => ev_const h
  refine ev_ite (fun h => fin ?_) (fun h1 => ev_ite (fun h => fin ?_) (fun h2 => ev_ite (fun h => fin ?_) (fun h3 => ?_)))
  · repeat' split
    all_goals (congr 1; rw [Bool.eq_iff_iff]; simp only [decide_eq_true_eq, beq_iff_eq, Bool.false_eq_true]; simp only [insIn]; constructor <;> intro hh_ <;> first | exact hh_.elim | omega)
  · repeat' split
    all_goals (congr 1; rw [Bool.eq_iff_iff]; simp only [decide_eq_true_eq, beq_iff_eq, Bool.false_eq_true]; simp only [insIn]; constructor <;> intro hh_ <;> first | exact hh_.elim | omega)
  · repeat' split
    all_goals (congr 1; rw [Bool.eq_iff_iff]; simp only [decide_eq_true_eq, beq_iff_eq, Bool.false_eq_true]; simp only [insIn]; constructor <;> intro hh_ <;> first | exact hh_.elim | omega)
  · have key : ∀ t : Bool, (t = true ↔ kd = 4 ∨ kd = 5) → Ev (fun k => spec_l2Ins.j0 k kd t kd a b n) (decide (insIn ⟨kd, a, b, n⟩)) := by
      intro t ht
      refine Ev.step (fun k => by rw [spec_l2Ins.j0]) ?_
      simp only [l2Reg_some, l2Box_some, l1Num_dec, Option.bind_some, decide_eq_true_eq]
      refine fin ?_
      by_cases h4 : t = true
      · have := ht.1 h4
        rw [if_pos h4]
        repeat' split
        all_goals (congr 1; rw [Bool.eq_iff_iff]; simp only [decide_eq_true_eq, beq_iff_eq, Bool.false_eq_true]; simp only [insIn]; constructor <;> intro hh_ <;> first | exact hh_.elim | omega)
      · have : ¬ (kd = 4 ∨ kd = 5) := fun h => h4 (ht.2 h)
        rw [if_neg h4]
        repeat' split
        all_goals (congr 1; rw [Bool.eq_iff_iff]; simp only [decide_eq_true_eq, beq_iff_eq, Bool.false_eq_true]; simp only [insIn]; constructor <;> intro hh_ <;> first | exact hh_.elim | omega)
    refine ev_ite (fun h4 => key _ (by simp [h4])) (fun h4 => key _ (by simp [h4]))
theorem spec_ProgOk_ev (l : List S42) (hn : l.length ≤ 9223372036854775807) : ∃ v, Ev (fun k => spec_ProgOk.f k l) v ∧ (v = true ↔ progOk l) := by
  by_cases h10 : l.length ≤ 10
  · have key := ev_loop l.length (fun i k => spec_ProgOk.l0 k l (i : Int)) (fun i => decide (∀ b ∈ l.drop i, insIn b)) (fun i hi ih => by
      refine Ev.step (fun k => by rw [spec_ProgOk.l0]) ?_
      refine ev_pos (lt_cast hi) (ev_pos (nn_cast i) ?_)
      rw [rdi_Ins hi, wrap_succ hi hn]
      refine (l2Ins_ev l[i]).bind ?_
      have hs : (∀ b ∈ l.drop i, insIn b) ↔ insIn l[i] ∧ ∀ b ∈ l.drop (i + 1), insIn b := mem_split (p := insIn) hi
      simp only [hs, decide_eq_true_eq]
      by_cases h1 : insIn l[i]
      · simp only [h1, true_and]
        exact ev_pos trivial ih
      · simp only [h1, false_and, decide_false]
        exact ev_neg (fun h => h) (ev_now _)) (by
      refine Ev.step (fun k => by rw [spec_ProgOk.l0]) ?_
      refine ev_neg (by omega) ?_
      simp only [List.drop_length, List.not_mem_nil, false_implies, implies_true, decide_true]
      exact ev_now _) 0 (Nat.zero_le _)
    exact ⟨_, Ev.congr (fun k => by unfold spec_ProgOk.f; exact if_neg (by omega)) key, by simp [progOk, h10]⟩
  · refine ⟨false, ?_, by simp [progOk]; omega⟩
    unfold spec_ProgOk.f
    exact ev_pos (by omega) (ev_now _)

theorem in_dec (a b c : Int) : impl_in.f a b c = some (decide (b ≤ a ∧ a ≤ c)) := by
  unfold impl_in.f
  by_cases h : a ≥ b
  · rw [if_pos h]; congr 1; rw [Bool.eq_iff_iff]; simp; omega
  · rw [if_neg h]; congr 1; rw [Bool.eq_iff_iff]; simp; omega

theorem insOk1_dec (a : Int) : impl_insOk_1.f a = some (decide (0 ≤ a ∧ a ≤ 3)) := by
  unfold impl_insOk_1.f
  rw [in_dec]; rfl
theorem insOk2_dec (a : Int) : impl_insOk_2.f a = some (decide (0 ≤ a ∧ a ≤ 3)) := by
  unfold impl_insOk_2.f
  rw [in_dec]; rfl
theorem insOk_ev (x : S42) : Ev (fun k => impl_insOk.f k x.f0 x.f1 x.f2 x.f3) (decide (insIn x)) := by
  obtain ⟨kd, a, b, n⟩ := x
  unfold impl_insOk.f
  simp only [insOk1_dec, insOk2_dec, in_dec, Option.bind_some, decide_eq_true_eq]
  have fin : ∀ {X : Option Bool}, X = some (decide (insIn ⟨kd, a, b, n⟩)) → Ev (fun _ => X) (decide (insIn ⟨kd, a, b, n⟩)) := fun h => ev_const h
  refine ev_ite (fun h => fin ?_) (fun h1 => ev_ite (fun h => fin ?_) (fun h2 => ev_ite (fun h => fin ?_) (fun h3 => ?_)))
  · repeat' split
    all_goals (congr 1; rw [Bool.eq_iff_iff]; simp only [decide_eq_true_eq, beq_iff_eq, Bool.false_eq_true]; simp only [insIn]; constructor <;> intro hh_ <;> first | exact hh_.elim | omega)
  · repeat' split
    all_goals (congr 1; rw [Bool.eq_iff_iff]; simp only [decide_eq_true_eq, beq_iff_eq, Bool.false_eq_true]; simp only [insIn]; constructor <;> intro hh_ <;> first | exact hh_.elim | omega)
  · repeat' split
    all_goals (congr 1; rw [Bool.eq_iff_iff]; simp only [decide_eq_true_eq, beq_iff_eq, Bool.false_eq_true]; simp only [insIn]; constructor <;> intro hh_ <;> first | exact hh_.elim | omega)
  · have key : ∀ t : Bool, (t = true ↔ kd = 4 ∨ kd = 5) → Ev (fun k => impl_insOk.j0 k kd t kd a b n) (decide (insIn ⟨kd, a, b, n⟩)) := by
      intro t ht
      refine Ev.step (fun k => by rw [impl_insOk.j0]) ?_
      simp only [insOk1_dec, insOk2_dec, in_dec, Option.bind_some, decide_eq_true_eq]
      refine fin ?_
      by_cases h4 : t = true
      · have := ht.1 h4
        rw [if_pos h4]
        repeat' split
        all_goals (congr 1; rw [Bool.eq_iff_iff]; simp only [decide_eq_true_eq, beq_iff_eq, Bool.false_eq_true]; simp only [insIn]; constructor <;> intro hh_ <;> first | exact hh_.elim | omega)
      · have : ¬ (kd = 4 ∨ kd = 5) := fun h => h4 (ht.2 h)
        rw [if_neg h4]
        repeat' split
        all_goals (congr 1; rw [Bool.eq_iff_iff]; simp only [decide_eq_true_eq, beq_iff_eq, Bool.false_eq_true]; simp only [insIn]; constructor <;> intro hh_ <;> first | exact hh_.elim | omega)
    refine ev_ite (fun h4 => key _ (by simp [h4])) (fun h4 => key _ (by simp [h4]))
theorem impl_ProgOk_ev (l : List S42) (hn : l.length ≤ 9223372036854775807) : ∃ v, Ev (fun k => impl_ProgOk.f k l) v ∧ (v = true ↔ progOk l) := by
  have key := ev_loop l.length (fun i k => impl_ProgOk.l0 k l l (l.length : Int) (i : Int)) (fun i => decide ((∀ b ∈ l.drop i, insIn b) ∧ l.length ≤ 10)) (fun i hi ih => by
      refine Ev.step (fun k => by rw [impl_ProgOk.l0]) ?_
      refine ev_pos (lt_cast hi) (ev_pos (nn_cast i) (ev_pos (lt_cast hi) ?_))
      rw [rdi_Ins hi, wrap_succ hi hn]
      refine (insOk_ev l[i]).bind ?_
      have hs : (∀ b ∈ l.drop i, insIn b) ↔ insIn l[i] ∧ ∀ b ∈ l.drop (i + 1), insIn b := mem_split (p := insIn) hi
      simp only [hs, decide_eq_true_eq]
      by_cases h1 : insIn l[i]
      · simp only [h1, true_and]
        exact ev_pos trivial ih
      · simp only [h1, false_and, decide_false]
        exact ev_neg (fun h => h) (ev_now _)) (by
      refine Ev.step (fun k => by rw [impl_ProgOk.l0]) ?_
      refine ev_neg (by omega) ?_
      have : decide ((l.length : Int) ≤ 10) = decide ((∀ b ∈ l.drop l.length, insIn b) ∧ l.length ≤ 10) := by
        rw [List.drop_length, Bool.eq_iff_iff]
        simp; omega
      rw [this]
      exact ev_now _) 0 (Nat.zero_le _)
  exact ⟨_, Ev.congr (fun k => by unfold impl_ProgOk.f; exact rfl) key, by simp [progOk, and_comm]⟩

/-- Of 0 .. m - 1, those that p names. -/
def pick (p : Int → Bool) (m : Nat) : List Int := ((List.range m).map (fun i : Nat => (i : Int))).filter p
theorem pick_succ (p : Int → Bool) (m : Nat) : pick p (m + 1) = if p m = true then pick p m ++ [(m : Int)] else pick p m := by
  unfold pick
  rw [List.range_succ, List.map_append, List.filter_append]
  by_cases h : p m = true
  · simp [h]
  · simp [h]
theorem pick_len (p : Int → Bool) (m : Nat) : (pick p m).length ≤ m := by
  unfold pick
  exact Nat.le_trans (List.length_filter_le _ _) (by simp)
theorem pick_same {p q : Int → Bool} (m : Nat) (h : ∀ i : Nat, i < m → p i = q i) : pick p m = pick q m := by
  unfold pick
  refine List.filter_congr ?_
  intro x hx
  simp only [List.mem_map, List.mem_range] at hx
  obtain ⟨i, hi, rfl⟩ := hx
  exact h i hi
/-- What an instruction of kind c touches. -/
def hit (c : Int) (i : Int) (x : S42) : Bool := decide (x.f0 = c) && ((decide (c = 1) && decide (x.f2 = i)) || (decide (c = 2) && decide (x.f1 = i)))
theorem any_drop {α : Type} (l : List α) (p : α → Bool) {j : Nat} (h : j < l.length) : (l.drop j).any p = (p l[j] || (l.drop (j + 1)).any p) := by
  rw [List.drop_eq_getElem_cons h, List.any_cons]
theorem boxesOf_ev (g0 g1 g2 g3 : Bool) : Ev (fun k => impl_boxesOf.f k g0 g1 g2 g3) (pick (fun i => rdOf false [g0, g1, g2, g3] i) 4) := by
  have key := ev_loop 4 (fun i k => impl_boxesOf.l0 k (pick (fun i => rdOf false [g0, g1, g2, g3] i) i) (i : Int) g0 g1 g2 g3) (fun _ => pick (fun i => rdOf false [g0, g1, g2, g3] i) 4) (fun i hi ih => by
    have wi : wrap64 ((i : Int) + 1) = ((i + 1 : Nat) : Int) := wrap_succ hi (by omega)
    refine Ev.step (fun k => by rw [impl_boxesOf.l0]) ?_
    refine ev_pos (by omega) (ev_pos (by omega) ?_)
    rw [pick_succ] at ih
    rw [wi]
    refine ev_ite (fun h => ev_pos (by have := pick_len (fun i => rdOf false [g0, g1, g2, g3] i) i; omega) ?_) (fun h => ?_)
    · rw [if_pos h] at ih; exact ih
    · rw [if_neg h] at ih; exact ih) (by
    refine Ev.step (fun k => by rw [impl_boxesOf.l0]) ?_
    refine ev_neg (by omega) ?_
    refine ev_get (a := pick (fun i => rdOf false [g0, g1, g2, g3] i) 4) ?_ (ev_now _)
    unfold impl_copied_int.f
    exact if_pos (by have := pick_len (fun i => rdOf false [g0, g1, g2, g3] i) 4; omega)) 0 (Nat.zero_le _)
  exact key
theorem ixB_true (j i : Int) (f : Bool) : ixB j i true f = (f || decide (j = i)) := by
  unfold ixB
  by_cases h : j = i
  · rw [if_pos h]; simp [h]
  · rw [if_neg h]; simp [h]
theorem hit_ne {c : Int} (i : Int) {x : S42} (h : x.f0 ≠ c) : hit c i x = false := by simp [hit, h]

theorem l2Boxes_l1 (l : List S42) (c : Int) (acc : List Int) (i : Int) (r : List Int) (hn : l.length ≤ 9223372036854775807) (ha : acc.length < 4) (hi : 0 ≤ i) (hi4 : i < 4)
    (H : Ev (fun k => spec_l2Boxes.l0 k l c (if (l.any (hit c i)) = true then acc ++ [i] else acc) (i + 1)) r) : Ev (fun k => spec_l2Boxes.l1 k l c acc i false 0) r := by
  have wi : wrap64 (i + 1) = i + 1 := wrap_id (by omega) (by omega)
  have key : ∀ d j b, j + d = l.length → (b || (l.drop j).any (hit c i)) = l.any (hit c i) → Ev (fun k => spec_l2Boxes.l1 k l c acc i b (j : Int)) r := by
    intro d
    induction d with
    | zero =>
      intro j b h hb
      obtain rfl : j = l.length := by omega
      rw [List.drop_length, List.any_nil, Bool.or_false] at hb
      subst hb
      refine Ev.step (fun k => by rw [spec_l2Boxes.l1]) ?_
      refine ev_neg (by omega) ?_
      refine ev_ite (fun h => ev_pos (by omega) ?_) (fun h => ?_)
      · rw [if_pos h] at H; rw [wi]; exact H
      · rw [if_neg h] at H; rw [wi]; exact H
    | succ d ih =>
      intro j b h hb
      have hj : j < l.length := by omega
      have nx : ∀ b', b' = (b || hit c i l[j]) → Ev (fun k => spec_l2Boxes.l1 k l c acc i b' (wrap64 ((j : Int) + 1))) r := by
        intro b' hb'
        rw [wrap_succ hj hn]
        refine ih (j + 1) b' (by omega) ?_
        rw [hb', ← hb, any_drop l _ hj, Bool.or_assoc]
      refine Ev.step (fun k => by rw [spec_l2Boxes.l1]) ?_
      refine ev_pos (lt_cast hj) ?_
      refine ev_ite (fun hbt => nx true (by simp [hbt])) (fun hbt => ev_pos (nn_cast j) ?_)
      rw [Bool.not_eq_true] at hbt
      subst hbt
      rw [rdi_Ins hj]
      refine ev_ite (fun h0 => ev_ite (fun h1 => ev_ite (fun h2 => nx true (by simp [hit, h0, h1, h2])) (fun h2 => ev_neg (by omega) (nx false (by simp [hit, h0, h1, h2])))) (fun h1 => ev_ite (fun h2 => nx _ ?_) (fun h2 => nx false (by simp [hit, h1, h2])))) (fun h0 => nx false (by simp [hit, h0]))
      rw [Bool.eq_iff_iff]; simp [hit, h0, h2]
  exact key l.length 0 false (by omega) (by simp)
theorem l2Boxes_ev (l : List S42) (c : Int) (hn : l.length ≤ 9223372036854775807) : Ev (fun k => spec_l2Boxes.f k l c) (pick (fun i => l.any (hit c i)) 4) := by
  have key := ev_loop 4 (fun i k => spec_l2Boxes.l0 k l c (pick (fun i => l.any (hit c i)) i) (i : Int)) (fun _ => pick (fun i => l.any (hit c i)) 4) (fun i hi ih => by
    refine Ev.step (fun k => by rw [spec_l2Boxes.l0]) ?_
    refine ev_pos (by omega) ?_
    refine l2Boxes_l1 l c _ i _ hn (by have := pick_len (fun i => l.any (hit c i)) i; omega) (by omega) (by omega) ?_
    rw [pick_succ] at ih
    exact ih) (by
    refine Ev.step (fun k => by rw [spec_l2Boxes.l0]) ?_
    refine ev_neg (by omega) ?_
    exact ev_now _) 0 (Nat.zero_le _)
  exact key

theorem impl_ProgLoads_ev (l : List S42) (hn : l.length ≤ 9223372036854775807) : Ev (fun k => impl_ProgLoads.f k l) (pick (fun i => l.any (hit 1 i)) 4) := by
  have key : ∀ d j (b0 b1 b2 b3 : Bool), j + d = l.length → (b0 || (l.drop j).any (hit 1 0)) = l.any (hit 1 0) → (b1 || (l.drop j).any (hit 1 1)) = l.any (hit 1 1) → (b2 || (l.drop j).any (hit 1 2)) = l.any (hit 1 2) → (b3 || (l.drop j).any (hit 1 3)) = l.any (hit 1 3) → Ev (fun k => impl_ProgLoads.l0 k l (l.length : Int) (j : Int) b0 b1 b2 b3) (pick (fun i => l.any (hit 1 i)) 4) := by
    intro d
    induction d with
    | zero =>
      intro j b0 b1 b2 b3 h h0 h1 h2 h3
      obtain rfl : j = l.length := by omega
      rw [List.drop_length, List.any_nil, Bool.or_false] at h0 h1 h2 h3
      subst h0 h1 h2 h3
      refine Ev.step (fun k => by rw [impl_ProgLoads.l0]) ?_
      refine ev_neg (by omega) ?_
      refine (boxesOf_ev _ _ _ _).bind ?_
      rw [pick_same (q := fun i => l.any (hit 1 i)) 4 (fun i hi => by
        rcases i with _ | _ | _ | _ | i
        · rfl
        · rfl
        · rfl
        · rfl
        · omega)]
      exact ev_now _
    | succ d ih =>
      intro j b0 b1 b2 b3 h h0 h1 h2 h3
      have hj : j < l.length := by omega
      rw [any_drop l _ hj, ← Bool.or_assoc] at h0 h1 h2 h3
      refine Ev.step (fun k => by rw [impl_ProgLoads.l0]) ?_
      refine ev_pos (lt_cast hj) (ev_pos (nn_cast j) (ev_pos (lt_cast hj) ?_))
      rw [rdi_Ins hj, wrap_succ hj hn]
      have nx : ∀ c0 c1 c2 c3, c0 = (b0 || hit 1 0 l[j]) → c1 = (b1 || hit 1 1 l[j]) → c2 = (b2 || hit 1 2 l[j]) → c3 = (b3 || hit 1 3 l[j]) → Ev (fun k => impl_ProgLoads.l0 k l (l.length : Int) ((j + 1 : Nat) : Int) c0 c1 c2 c3) (pick (fun i => l.any (hit 1 i)) 4) := by
        intro c0 c1 c2 c3 e0 e1 e2 e3
        exact ih (j + 1) c0 c1 c2 c3 (by omega) (by rw [e0]; exact h0) (by rw [e1]; exact h1) (by rw [e2]; exact h2) (by rw [e3]; exact h3)
      by_cases hk : (l[j]).f0 = 1
      · refine ev_pos hk (ev_get (in_dec _ _ _) ?_)
        have hh : ∀ i : Int, hit 1 i l[j] = decide ((l[j]).f2 = i) := by intro i; simp [hit, hk]
        by_cases hr : 0 ≤ (l[j]).f2 ∧ (l[j]).f2 ≤ 3
        · refine ev_pos (by simpa using hr) (ev_pos (by omega) (ev_pos (by omega) ?_))
          exact nx _ _ _ _ (by rw [hh, ixB_true]) (by rw [hh, ixB_true]) (by rw [hh, ixB_true]) (by rw [hh, ixB_true])
        · refine ev_neg (by simpa using hr) ?_
          refine nx _ _ _ _ ?_ ?_ ?_ ?_ <;> (rw [hh, decide_eq_false (by omega), Bool.or_false])
      · refine ev_neg hk ?_
        exact nx _ _ _ _ (by rw [hit_ne _ hk, Bool.or_false]) (by rw [hit_ne _ hk, Bool.or_false]) (by rw [hit_ne _ hk, Bool.or_false]) (by rw [hit_ne _ hk, Bool.or_false])
  exact Ev.congr (fun k => by unfold impl_ProgLoads.f; exact rfl) (key l.length 0 false false false false (by omega) (by simp) (by simp) (by simp) (by simp))

theorem spec_ProgLoads_ev (l : List S42) (hn : l.length ≤ 9223372036854775807) : Ev (fun k => spec_ProgLoads.f k l) (pick (fun i => l.any (hit 1 i)) 4) := by
  unfold spec_ProgLoads.f
  exact (l2Boxes_ev l 1 hn).bind (ev_now _)

theorem impl_ProgPuts_ev (l : List S42) (hn : l.length ≤ 9223372036854775807) : Ev (fun k => impl_ProgPuts.f k l) (pick (fun i => l.any (hit 2 i)) 4) := by
  have key : ∀ d j (b0 b1 b2 b3 : Bool), j + d = l.length → (b0 || (l.drop j).any (hit 2 0)) = l.any (hit 2 0) → (b1 || (l.drop j).any (hit 2 1)) = l.any (hit 2 1) → (b2 || (l.drop j).any (hit 2 2)) = l.any (hit 2 2) → (b3 || (l.drop j).any (hit 2 3)) = l.any (hit 2 3) → Ev (fun k => impl_ProgPuts.l0 k l (l.length : Int) (j : Int) b0 b1 b2 b3) (pick (fun i => l.any (hit 2 i)) 4) := by
    intro d
    induction d with
    | zero =>
      intro j b0 b1 b2 b3 h h0 h1 h2 h3
      obtain rfl : j = l.length := by omega
      rw [List.drop_length, List.any_nil, Bool.or_false] at h0 h1 h2 h3
      subst h0 h1 h2 h3
      refine Ev.step (fun k => by rw [impl_ProgPuts.l0]) ?_
      refine ev_neg (by omega) ?_
      refine (boxesOf_ev _ _ _ _).bind ?_
      rw [pick_same (q := fun i => l.any (hit 2 i)) 4 (fun i hi => by
        rcases i with _ | _ | _ | _ | i
        · rfl
        · rfl
        · rfl
        · rfl
        · omega)]
      exact ev_now _
    | succ d ih =>
      intro j b0 b1 b2 b3 h h0 h1 h2 h3
      have hj : j < l.length := by omega
      rw [any_drop l _ hj, ← Bool.or_assoc] at h0 h1 h2 h3
      refine Ev.step (fun k => by rw [impl_ProgPuts.l0]) ?_
      refine ev_pos (lt_cast hj) (ev_pos (nn_cast j) (ev_pos (lt_cast hj) ?_))
      rw [rdi_Ins hj, wrap_succ hj hn]
      have nx : ∀ c0 c1 c2 c3, c0 = (b0 || hit 2 0 l[j]) → c1 = (b1 || hit 2 1 l[j]) → c2 = (b2 || hit 2 2 l[j]) → c3 = (b3 || hit 2 3 l[j]) → Ev (fun k => impl_ProgPuts.l0 k l (l.length : Int) ((j + 1 : Nat) : Int) c0 c1 c2 c3) (pick (fun i => l.any (hit 2 i)) 4) := by
        intro c0 c1 c2 c3 e0 e1 e2 e3
        exact ih (j + 1) c0 c1 c2 c3 (by omega) (by rw [e0]; exact h0) (by rw [e1]; exact h1) (by rw [e2]; exact h2) (by rw [e3]; exact h3)
      by_cases hk : (l[j]).f0 = 2
      · refine ev_pos hk (ev_get (in_dec _ _ _) ?_)
        have hh : ∀ i : Int, hit 2 i l[j] = decide ((l[j]).f1 = i) := by intro i; simp [hit, hk]
        by_cases hr : 0 ≤ (l[j]).f1 ∧ (l[j]).f1 ≤ 3
        · refine ev_pos (by simpa using hr) (ev_pos (by omega) (ev_pos (by omega) ?_))
          exact nx _ _ _ _ (by rw [hh, ixB_true]) (by rw [hh, ixB_true]) (by rw [hh, ixB_true]) (by rw [hh, ixB_true])
        · refine ev_neg (by simpa using hr) ?_
          refine nx _ _ _ _ ?_ ?_ ?_ ?_ <;> (rw [hh, decide_eq_false (by omega), Bool.or_false])
      · refine ev_neg hk ?_
        exact nx _ _ _ _ (by rw [hit_ne _ hk, Bool.or_false]) (by rw [hit_ne _ hk, Bool.or_false]) (by rw [hit_ne _ hk, Bool.or_false]) (by rw [hit_ne _ hk, Bool.or_false])
  exact Ev.congr (fun k => by unfold impl_ProgPuts.f; exact rfl) (key l.length 0 false false false false (by omega) (by simp) (by simp) (by simp) (by simp))

theorem spec_ProgPuts_ev (l : List S42) (hn : l.length ≤ 9223372036854775807) : Ev (fun k => spec_ProgPuts.f k l) (pick (fun i => l.any (hit 2 i)) 4) := by
  unfold spec_ProgPuts.f
  exact (l2Boxes_ev l 2 hn).bind (ev_now _)

def putsOf (l : List S42) : List Int := pick (fun i => l.any (hit 2 i)) 4
def loadsOf (l : List S42) : List Int := pick (fun i => l.any (hit 1 i)) 4
theorem putsOf_len (l : List S42) : (putsOf l).length ≤ 4 := pick_len _ _
theorem loadsOf_len (l : List S42) : (loadsOf l).length ≤ 4 := pick_len _ _
theorem meet_comm (x y : List Int) : meet x y ↔ meet y x := ⟨fun ⟨a, h, g⟩ => ⟨a, g, h⟩, fun ⟨a, h, g⟩ => ⟨a, g, h⟩⟩
def freeP (p q : List S42) : Prop := progOk p ∧ progOk q ∧ ¬ meet (putsOf p) (putsOf q) ∧ ¬ meet (putsOf p) (loadsOf q) ∧ ¬ meet (loadsOf p) (putsOf q)
theorem spec_SerialFree_ev (p q : List S42) (hn : p.length ≤ 9223372036854775807) (hm : q.length ≤ 9223372036854775807) : ∃ v, Ev (fun k => spec_SerialFree.f k p q) v ∧ (v = true ↔ freeP p q) := by
  obtain ⟨a, ha, hai⟩ := spec_ProgOk_ev p hn
  obtain ⟨b, hb, hbi⟩ := spec_ProgOk_ev q hm
  have p1 : Ev (fun k => spec_ProgPuts.f k p) (putsOf p) := spec_ProgPuts_ev p hn
  have p2 : Ev (fun k => spec_ProgPuts.f k q) (putsOf q) := spec_ProgPuts_ev q hm
  have l1 : Ev (fun k => spec_ProgLoads.f k p) (loadsOf p) := spec_ProgLoads_ev p hn
  have l2 : Ev (fun k => spec_ProgLoads.f k q) (loadsOf q) := spec_ProgLoads_ev q hm
  have n1 := putsOf_len p; have n2 := putsOf_len q; have n3 := loadsOf_len p; have n4 := loadsOf_len q
  obtain ⟨c, hc, hci⟩ := l4Meet_ev (putsOf p) (putsOf q) (by omega) (by omega)
  obtain ⟨d, hd, hdi⟩ := l4Meet_ev (putsOf p) (loadsOf q) (by omega) (by omega)
  obtain ⟨e, he, hei⟩ := l4Meet_ev (loadsOf p) (putsOf q) (by omega) (by omega)
  unfold spec_SerialFree.f freeP
  rw [← hai, ← hbi, ← hci, ← hdi, ← hei]
  by_cases h1 : a = true
  case neg => exact ⟨false, ha.bind (ev_neg h1 (ev_now _)), by simp [h1]⟩
  by_cases h2 : b = true
  case neg => exact ⟨false, ha.bind (ev_pos h1 (hb.bind (ev_neg h2 (ev_now _)))), by simp [h2]⟩
  by_cases h3 : c = true
  case pos => exact ⟨false, ha.bind (ev_pos h1 (hb.bind (ev_pos h2 (p1.bind (p2.bind (hc.bind (ev_pos h3 (ev_now _)))))))), by simp [h3]⟩
  by_cases h4 : d = true
  case pos => exact ⟨false, ha.bind (ev_pos h1 (hb.bind (ev_pos h2 (p1.bind (p2.bind (hc.bind (ev_neg h3 (p1.bind (l2.bind (hd.bind (ev_pos h4 (ev_now _)))))))))))), by simp [h4]⟩
  exact ⟨!e, ha.bind (ev_pos h1 (hb.bind (ev_pos h2 (p1.bind (p2.bind (hc.bind (ev_neg h3 (p1.bind (l2.bind (hd.bind (ev_neg h4 (l1.bind (p2.bind (he.bind (ev_now _))))))))))))))), by simp [h1, h2, h3, h4]⟩
theorem impl_SerialFree_ev (p q : List S42) (hn : p.length ≤ 9223372036854775807) (hm : q.length ≤ 9223372036854775807) : ∃ v, Ev (fun k => impl_SerialFree.f k p q) v ∧ (v = true ↔ freeP p q) := by
  obtain ⟨a, ha, hai⟩ := impl_ProgOk_ev p hn
  obtain ⟨b, hb, hbi⟩ := impl_ProgOk_ev q hm
  have p1 : Ev (fun k => impl_ProgPuts.f k p) (putsOf p) := impl_ProgPuts_ev p hn
  have p2 : Ev (fun k => impl_ProgPuts.f k q) (putsOf q) := impl_ProgPuts_ev q hm
  have l1 : Ev (fun k => impl_ProgLoads.f k p) (loadsOf p) := impl_ProgLoads_ev p hn
  have l2 : Ev (fun k => impl_ProgLoads.f k q) (loadsOf q) := impl_ProgLoads_ev q hm
  have n1 := putsOf_len p; have n2 := putsOf_len q; have n3 := loadsOf_len p; have n4 := loadsOf_len q
  obtain ⟨c, hc, hci⟩ := meets_ev (putsOf p) (putsOf q) (by omega) (by omega)
  obtain ⟨d, hd, hdi⟩ := meets_ev (putsOf p) (loadsOf q) (by omega) (by omega)
  obtain ⟨e, he, hei⟩ := meets_ev (putsOf q) (loadsOf p) (by omega) (by omega)
  rw [meet_comm] at hei
  have no : Ev (fun k => impl_SerialFree.j0 k p q true) false := by
    refine Ev.step (fun k => by rw [impl_SerialFree.j0]) ?_
    exact ev_pos rfl (ev_now _)
  unfold impl_SerialFree.f freeP
  rw [← hai, ← hbi, ← hci, ← hdi, ← hei]
  by_cases h1 : a = true
  case neg => exact ⟨false, ha.bind (ev_neg h1 no), by simp [h1]⟩
  by_cases h2 : b = true
  case neg =>
    rw [Bool.not_eq_true] at h2; subst h2
    exact ⟨false, ha.bind (ev_pos h1 (hb.bind no)), by simp⟩
  subst h2
  have go : ∀ {r : Bool}, Ev (fun k => (impl_ProgPuts.f k p).bind fun t212 => ((impl_ProgPuts.f k q).bind fun t215 => ((impl_meets.f k t212 t215).bind fun t218 => (if t218 = true then (some false) else ((impl_ProgLoads.f k q).bind fun t219 => ((impl_meets.f k t212 t219).bind fun t222 => (if t222 = true then (some false) else ((impl_ProgLoads.f k p).bind fun t223 => ((impl_meets.f k t215 t223).bind fun t226 => (some (!t226)))))))))) ) r → Ev (fun k => impl_SerialFree.j0 k p q (!true)) r := by
    intro r h
    refine Ev.step (fun k => by rw [impl_SerialFree.j0]) ?_
    exact ev_neg (by simp) h
  by_cases h3 : c = true
  case pos => exact ⟨false, ha.bind (ev_pos h1 (hb.bind (go (p1.bind (p2.bind (hc.bind (ev_pos h3 (ev_now _)))))))), by simp [h3]⟩
  by_cases h4 : d = true
  case pos => exact ⟨false, ha.bind (ev_pos h1 (hb.bind (go (p1.bind (p2.bind (hc.bind (ev_neg h3 (l2.bind (hd.bind (ev_pos h4 (ev_now _))))))))))), by simp [h4]⟩
  exact ⟨!e, ha.bind (ev_pos h1 (hb.bind (go (p1.bind (p2.bind (hc.bind (ev_neg h3 (l2.bind (hd.bind (ev_neg h4 (l1.bind (he.bind (ev_now _)))))))))))))  , by simp [h1, h3, h4]⟩

theorem szInsS_some (l : List S129) (a : Int) (hn : l.length ≤ 9223372036854775807) (h0 : 0 ≤ a) (h1 : a ≤ 1048576) : laws_szInsS.f l a = some (if a < l.length then -1 else a - l.length) := by
  unfold laws_szInsS.f
  have hw : wrap64 (a - (l.length : Int)) = a - l.length := wrap_id (by omega) (by omega)
  rw [hw]
  by_cases h : a < l.length
  · rw [if_pos (by omega), if_pos h]
  · rw [if_neg (by omega), if_neg h]

theorem rdl_Ins {l : List S129} {i : Nat} (h : i < l.length) : rd_T129 l (i : Int) = l[i] := by
  unfold rd_T129
  rw [Int.toNat_natCast, List.getD_eq_getElem?_getD, List.getElem?_eq_getElem h]
  rfl

def toIns (x : S129) : S42 := ⟨x.f0, x.f1, x.f2, x.f3⟩
theorem toInsS_ev (l : List S129) (hn : l.length ≤ 8796093022208) : Ev (fun k => laws_toInsS.f k l) (l.map toIns) := by
  unfold laws_toInsS.f
  refine ev_pos (nn_cast _) (ev_pos (by rw [Int.toNat_natCast]; omega) ?_)
  rw [Int.toNat_natCast]
  have hm : (l.map toIns).length = l.length := List.length_map _
  have key := ev_loop l.length (fun i k => laws_toInsS.l0 k l ((l.map toIns).take i ++ List.replicate ((l.map toIns).length - i) z42) (i : Int)) (fun _ => l.map toIns) (fun i hi ih => by
      refine Ev.step (fun k => by rw [laws_toInsS.l0]) ?_
      refine ev_pos (lt_cast hi) (ev_pos (nn_cast i) ?_)
      rw [rdl_Ins hi, wrap_succ hi (by omega)]
      refine ev_get (a := ((l[i]).f0, (l[i]).f1, (l[i]).f2, (l[i]).f3)) rfl ?_
      refine ev_pos (by rw [state_len _ _ _ (by omega), hm]; exact lt_cast hi) ?_
      have hs := set_state (l.map toIns) z42 i (by rw [hm]; exact hi)
      rw [List.getElem_map] at hs
      rw [Int.toNat_natCast]
      simp only [toIns] at hs ⊢ ih
      rw [hs]
      exact ih) (by
      refine Ev.step (fun k => by rw [laws_toInsS.l0]) ?_
      refine ev_neg (by omega) ?_
      rw [hm, Nat.sub_self, List.replicate_zero, List.append_nil, ← hm, List.take_length]
      exact ev_now _) 0 (Nat.zero_le _)
  simpa [hm] using key

theorem eqIns_some (a b : S42) : ∃ v, laws_eqIns.f a.f0 a.f1 a.f2 a.f3 b.f0 b.f1 b.f2 b.f3 = some v ∧ (v = true ↔ a = b) := by
  unfold laws_eqIns.f
  by_cases h0 : a.f0 = b.f0
  case neg => exact ⟨false, by simp [h0], by simp; intro h; exact h0 (by rw [h])⟩
  by_cases h1 : a.f1 = b.f1
  case neg => exact ⟨false, by simp [h0, h1], by simp; intro h; exact h1 (by rw [h])⟩
  by_cases h2 : a.f2 = b.f2
  case neg => exact ⟨false, by simp [h0, h1, h2], by simp; intro h; exact h2 (by rw [h])⟩
  by_cases h3 : a.f3 = b.f3
  case neg => exact ⟨false, by simp [h0, h1, h2, h3], by simp; intro h; exact h3 (by rw [h])⟩
  exact ⟨true, by simp [h0, h1, h2, h3], by simp; exact ext_Ins h0 h1 h2 h3⟩
theorem eqInsS_ev (x y : List S42) (hn : x.length ≤ 9223372036854775807) : ∃ v, Ev (fun k => laws_eqInsS.f k x y) v ∧ (v = true ↔ x = y) := by
  classical
  by_cases hl : x.length = y.length
  · have key := ev_loop x.length (fun i k => laws_eqInsS.l0 k x y (i : Int)) (fun i => decide (x.drop i = y.drop i)) (fun i hi ih => by
      refine Ev.step (fun k => by rw [laws_eqInsS.l0]) ?_
      refine ev_pos (lt_cast hi) (ev_pos (nn_cast i) (ev_pos (lt_cast (hl ▸ hi)) ?_))
      rw [rdi_Ins hi, rdi_Ins (hl ▸ hi), wrap_succ hi hn]
      obtain ⟨v, hv, hvi⟩ := eqIns_some x[i] (y[i]'(hl ▸ hi))
      refine ev_get hv ?_
      simp only [drop_eq hl hi]
      by_cases h1 : v = true
      · simp only [hvi.1 h1, true_and]
        exact ev_pos h1 ih
      · simp only [show ¬ (x[i] = y[i]'(hl ▸ hi)) from fun h => h1 (hvi.2 h), false_and, decide_false]
        exact ev_neg h1 (ev_now _)) (by
      refine Ev.step (fun k => by rw [laws_eqInsS.l0]) ?_
      refine ev_neg (by omega) ?_
      rw [List.drop_length, hl, List.drop_length]
      simp only [decide_true]
      exact ev_now _) 0 (Nat.zero_le _)
    exact ⟨_, Ev.congr (fun k => by unfold laws_eqInsS.f; exact if_pos (by omega)) key, by simp⟩
  · refine ⟨false, ?_, by simp; exact fun h => hl (by rw [h])⟩
    unfold laws_eqInsS.f
    exact ev_neg (by omega) (ev_now _)

theorem FnExactSerialFree : laws_FnExactSerialFree.Pure := by
  intro l m ⟨hn, _⟩ ⟨hm, _⟩
  refine Ev.rounds ?_
  unfold laws_FnExactSerialFree.f
  refine ev_get (szInsS_some l 1048576 hn (by omega) (by omega)) ?_
  by_cases hs : (1048576 : Int) < l.length
  · rw [if_pos hs]
    exact ev_pos (by omega) (ev_now _)
  rw [if_neg hs]
  refine ev_neg (by omega) ?_
  refine ev_get (szInsS_some m _ hm (by omega) (by omega)) ?_
  by_cases hs2 : (1048576 : Int) - l.length < m.length
  · rw [if_pos hs2]
    exact ev_pos (by omega) (ev_now _)
  rw [if_neg hs2]
  refine ev_neg (by omega) ?_
  have hto := toInsS_ev l (by omega)
  have hto2 := toInsS_ev m (by omega)
  obtain ⟨v, hv, hvi⟩ := spec_SerialFree_ev (l.map toIns) (m.map toIns) (by simpa using hn) (by simpa using hm)
  obtain ⟨u, hu, hui⟩ := impl_SerialFree_ev (l.map toIns) (m.map toIns) (by simpa using hn) (by simpa using hm)
  obtain ⟨e, he, hei⟩ := eqInsS_ev (l.map toIns) (l.map toIns) (by simpa using hn)
  obtain ⟨e2, he2, hei2⟩ := eqInsS_ev (m.map toIns) (m.map toIns) (by simpa using hm)
  have huv : u = v := Bool.eq_iff_iff.2 (hui.trans hvi.symm)
  subst huv
  obtain rfl : e = true := hei.2 rfl
  obtain rfl : e2 = true := hei2.2 rfl
  refine hto.bind (hto2.bind (hv.bind (hto.bind (hto2.bind (hu.bind ?_)))))
  refine ev_neg (by simp) (hto.bind (he.bind ?_))
  refine ev_pos rfl (hto2.bind (he2.bind ?_))
  exact ev_pos rfl (ev_now _)

end Go.Proofs.Ytbocpmlppkdhmaa.Pure
