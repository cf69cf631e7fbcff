/- The pure law of FnSerialFree: what the printed function of the law answers is true, for every input. Its condition: none but what the row says. -/
import Derived.Test.YtbocpmlppkdhmaaPFnSerialFreex6
namespace Go.Proofs.Ytbocpmlppkdhmaa.Pure
open Go.RowKit Go.Proofs.Ytbocpmlppkdhmaa.PFnSerialFree Go.Proofs.YtbocpmlppkdhmaaW.PrintWords Go.Proofs.YtbocpmlppkdhmaaW.PrintLast
set_option linter.unusedVariables false
set_option linter.unusedSimpArgs false
set_option linter.unusedSectionVars false

theorem wrap_succ {i n : Nat} (h : i < n) (hn : n ≤ 9223372036854775807) : wrap64 ((i : Int) + 1) = ((i + 1 : Nat) : Int) := by unfold wrap64; omega
theorem wrap_id {a : Int} (h0 : -9223372036854775808 ≤ a) (h1 : a ≤ 9223372036854775807) : wrap64 a = a := by unfold wrap64; omega
theorem ev_pos {α : Type} {c : Prop} [Decidable c] {f g : Nat → Option α} {r : α} (h : c) (e : Ev f r) : Ev (fun k => if c then f k else g k) r := by
  simp only [if_pos h]; exact e
theorem ev_neg {α : Type} {c : Prop} [Decidable c] {f g : Nat → Option α} {r : α} (h : ¬ c) (e : Ev g r) : Ev (fun k => if c then f k else g k) r := by
  simp only [if_neg h]; exact e
theorem ev_ite {α : Type} {c : Prop} [Decidable c] {f g : Nat → Option α} {r : α} (h1 : c → Ev f r) (h2 : ¬ c → Ev g r) : Ev (fun k => if c then f k else g k) r := by
  by_cases h : c
  · exact ev_pos h (h1 h)
  · exact ev_neg h (h2 h)
theorem ev_now {α : Type} (r : α) : Ev (fun _ => some r) r := Ev.now r
theorem ev_get {α β : Type} {g : Option α} {f : Nat → α → Option β} {a : α} {r : β} (h : g = some a) (k : Ev (fun n => f n a) r) : Ev (fun n => g.bind (f n)) r := by
  subst h; exact k
theorem ev_of_eq {α : Type} {g : Nat → Option α} {a : Option α} {r : α} (h : ∀ k, g k = a) (e : a = some r) : Ev g r := ⟨0, fun k _ => (h k).trans e⟩
/-- A loop over 0 .. n - 1: what it answers from i on. -/
theorem ev_loop {α : Type} (n : Nat) (F : Nat → Nat → Option α) (v : Nat → α) (step : ∀ i, i < n → Ev (F (i + 1)) (v (i + 1)) → Ev (F i) (v i)) (last : Ev (F n) (v n)) : ∀ i, i ≤ n → Ev (F i) (v i) := by
  have key : ∀ d i, i + d = n → Ev (F i) (v i) := by
    intro d
    induction d with
    | zero => intro i h; obtain rfl : i = n := by omega
              exact last
    | succ d ih => intro i h; exact step i (by omega) (ih (i + 1) (by omega))
  exact fun i hi => key (n - i) i (by omega)
theorem lt_cast {i n : Nat} (h : i < n) : (i : Int) < (n : Int) := Int.ofNat_lt.2 h
theorem nn_cast (i : Nat) : (0 : Int) ≤ (i : Int) := Int.natCast_nonneg i
theorem set_state {α : Type} (xs : List α) (z : α) (i : Nat) (h : i < xs.length) : (xs.take i ++ List.replicate (xs.length - i) z).set i xs[i] = xs.take (i + 1) ++ List.replicate (xs.length - (i + 1)) z := by
  rw [List.take_succ_eq_append_getElem h, List.append_assoc, List.set_append_right _ _ (by rw [List.length_take]; omega)]
  congr 1
  rw [List.length_take, Nat.min_eq_left (by omega), Nat.sub_self, show xs.length - i = (xs.length - (i + 1)) + 1 by omega, List.replicate_succ]
  rfl
theorem state_len {α : Type} (xs : List α) (z : α) (i : Nat) (h : i ≤ xs.length) : (xs.take i ++ List.replicate (xs.length - i) z).length = xs.length := by
  rw [List.length_append, List.length_take, List.length_replicate]; omega
theorem drop_eq {α : Type} {x y : List α} (hl : x.length = y.length) {i : Nat} (h : i < x.length) : (x.drop i = y.drop i) ↔ (x[i] = y[i]'(hl ▸ h) ∧ x.drop (i + 1) = y.drop (i + 1)) := by
  have h2 : i < y.length := hl ▸ h
  rw [List.drop_eq_getElem_cons h, List.drop_eq_getElem_cons h2, List.cons.injEq]
theorem mem_split {α : Type} {p : α → Prop} {l : List α} {i : Nat} (h : i < l.length) : (∀ b ∈ l.drop i, p b) ↔ p l[i] ∧ ∀ b ∈ l.drop (i + 1), p b := by
  rw [List.drop_eq_getElem_cons h]
  simp only [List.mem_cons, forall_eq_or_imp]
theorem ev_const {α : Type} {X : Option α} {r : α} (h : X = some r) : Ev (fun _ => X) r := ⟨0, fun _ _ => h⟩

theorem rd_i {l : List Int} {i : Nat} (h : i < l.length) : rd l (i : Int) = l[i] := by
  unfold rd
  rw [Int.toNat_natCast, List.getD_eq_getElem?_getD, List.getElem?_eq_getElem h]
  rfl

def meet (x y : List Int) : Prop := ∃ a ∈ x, a ∈ y
theorem mem_drop {y : List Int} {j : Nat} (h : j < y.length) (a : Int) : a ∈ y.drop j ↔ a = y[j] ∨ a ∈ y.drop (j + 1) := by
  rw [List.drop_eq_getElem_cons h, List.mem_cons]
theorem meet_drop {x : List Int} {i : Nat} (h : i < x.length) (y : List Int) : meet (x.drop i) y ↔ x[i] ∈ y ∨ meet (x.drop (i + 1)) y := by
  unfold meet
  rw [List.drop_eq_getElem_cons h]
  simp only [List.mem_cons, exists_eq_or_imp]

theorem l4Meet_ev (x y : List Int) (hn : x.length ≤ 9223372036854775807) (hm : y.length ≤ 9223372036854775807) : ∃ v, Ev (fun k => spec_l4Meet.f k x y) v ∧ (v = true ↔ meet x y) := by
  classical
  have key := ev_loop x.length (fun i k => spec_l4Meet.l0 k x y (i : Int)) (fun i => decide (meet (x.drop i) y)) (fun i hi ih => by
      refine Ev.step (fun k => by rw [spec_l4Meet.l0]) ?_
      refine ev_pos (lt_cast hi) ?_
      have inner := ev_loop y.length (fun j k => spec_l4Meet.l1 k x y (i : Int) (j : Int)) (fun j => decide (x[i] ∈ y.drop j ∨ meet (x.drop (i + 1)) y)) (fun j hj jh => by
          refine Ev.step (fun k => by rw [spec_l4Meet.l1]) ?_
          refine ev_pos (lt_cast hj) (ev_pos (nn_cast i) (ev_pos (lt_cast hi) (ev_pos (nn_cast j) ?_)))
          rw [rd_i hi, rd_i hj, wrap_succ hj hm]
          by_cases c : x[i] = y[j]
          · have : x[i] ∈ y.drop j := (mem_drop hj _).2 (.inl c)
            simp only [this, true_or, decide_true]
            exact ev_pos c (ev_now _)
          · simp only [mem_drop hj, c, false_or]
            exact ev_neg (fun h => h) jh) (by
          refine Ev.step (fun k => by rw [spec_l4Meet.l1]) ?_
          refine ev_neg (by omega) ?_
          rw [wrap_succ hi hn]
          simp only [List.drop_length, List.not_mem_nil, false_or]
          exact ih) 0 (Nat.zero_le _)
      simp only [List.drop_zero] at inner
      simp only [meet_drop hi]
      exact inner) (by
      refine Ev.step (fun k => by rw [spec_l4Meet.l0]) ?_
      refine ev_neg (by omega) ?_
      have : ¬ meet (x.drop x.length) y := by rw [List.drop_length]; rintro ⟨a, ha, _⟩; simp at ha
      simp only [this, decide_false]
      exact ev_now _) 0 (Nat.zero_le _)
  refine ⟨decide (meet (x.drop 0) y), ?_, by simp⟩
  unfold spec_l4Meet.f
  exact key

theorem meets_ev (x y : List Int) (hn : x.length ≤ 9223372036854775807) (hm : y.length ≤ 9223372036854775807) : ∃ v, Ev (fun k => impl_meets.f k x y) v ∧ (v = true ↔ meet x y) := by
  classical
  have key := ev_loop x.length (fun i k => impl_meets.l0 k y x (x.length : Int) (i : Int)) (fun i => decide (meet (x.drop i) y)) (fun i hi ih => by
      refine Ev.step (fun k => by rw [impl_meets.l0]) ?_
      refine ev_pos (lt_cast hi) (ev_pos (nn_cast i) (ev_pos (lt_cast hi) ?_))
      rw [rd_i hi]
      have inner := ev_loop y.length (fun j k => impl_meets.l1 k y x[i] x (x.length : Int) (i : Int) y (y.length : Int) (j : Int)) (fun j => decide (x[i] ∈ y.drop j ∨ meet (x.drop (i + 1)) y)) (fun j hj jh => by
          refine Ev.step (fun k => by rw [impl_meets.l1]) ?_
          refine ev_pos (lt_cast hj) (ev_pos (nn_cast j) (ev_pos (lt_cast hj) ?_))
          rw [rd_i hj, wrap_succ hj hm]
          by_cases c : x[i] = y[j]
          · have : x[i] ∈ y.drop j := (mem_drop hj _).2 (.inl c)
            simp only [this, true_or, decide_true]
            exact ev_pos c (ev_now _)
          · simp only [mem_drop hj, c, false_or]
            exact ev_neg (fun h => h) jh) (by
          refine Ev.step (fun k => by rw [impl_meets.l1]) ?_
          refine ev_neg (by omega) ?_
          rw [wrap_succ hi hn]
          simp only [List.drop_length, List.not_mem_nil, false_or]
          exact ih) 0 (Nat.zero_le _)
      simp only [List.drop_zero] at inner
      simp only [meet_drop hi]
      exact inner) (by
      refine Ev.step (fun k => by rw [impl_meets.l0]) ?_
      refine ev_neg (by omega) ?_
      have : ¬ meet (x.drop x.length) y := by rw [List.drop_length]; rintro ⟨a, ha, _⟩; simp at ha
      simp only [this, decide_false]
      exact ev_now _) 0 (Nat.zero_le _)
  refine ⟨decide (meet (x.drop 0) y), ?_, by simp⟩
  unfold impl_meets.f
  exact key

theorem ext_Ins {a b : S42} (h0 : a.f0 = b.f0) (h1 : a.f1 = b.f1) (h2 : a.f2 = b.f2) (h3 : a.f3 = b.f3) : a = b := by
  obtain ⟨a0_, a1_, a2_, a3_⟩ := a; obtain ⟨b0_, b1_, b2_, b3_⟩ := b; simp_all
theorem rdi_Ins {l : List S42} {i : Nat} (h : i < l.length) : rd_T42 l (i : Int) = l[i] := by
  unfold rd_T42
  rw [Int.toNat_natCast, List.getD_eq_getElem?_getD, List.getElem?_eq_getElem h]
  rfl

/-- An instruction that is right. -/
def insIn (x : S42) : Prop :=
  (x.f0 = 1 ∧ 0 ≤ x.f1 ∧ x.f1 ≤ 3 ∧ 0 ≤ x.f2 ∧ x.f2 ≤ 3 ∧ x.f3 = 0) ∨ (x.f0 = 2 ∧ 0 ≤ x.f1 ∧ x.f1 ≤ 3 ∧ 0 ≤ x.f2 ∧ x.f2 ≤ 3 ∧ x.f3 = 0) ∨
  (x.f0 = 3 ∧ 0 ≤ x.f1 ∧ x.f1 ≤ 3 ∧ x.f2 = 0 ∧ -1000000 ≤ x.f3 ∧ x.f3 ≤ 1000000) ∨ ((x.f0 = 4 ∨ x.f0 = 5) ∧ 0 ≤ x.f1 ∧ x.f1 ≤ 3 ∧ 0 ≤ x.f2 ∧ x.f2 ≤ 3 ∧ x.f3 = 0) ∨
  (x.f0 = 6 ∧ 0 ≤ x.f1 ∧ x.f1 ≤ 3 ∧ 0 ≤ x.f2 ∧ x.f2 ≤ 3 ∧ 1 ≤ x.f3 ∧ x.f3 ≤ 10) ∨ (x.f0 = 7 ∧ x.f1 = 0 ∧ x.f2 = 0 ∧ x.f3 = 0)
instance (x : S42) : Decidable (insIn x) := by unfold insIn; infer_instance
def progOk (l : List S42) : Prop := l.length ≤ 10 ∧ ∀ x ∈ l, insIn x

theorem l2Box_some (a : Int) : spec_l2Box.f a = some (decide (0 ≤ a ∧ a ≤ 3)) := by
  unfold spec_l2Box.f
  by_cases h : a ≥ 0
  · rw [if_pos h]; congr 1; rw [Bool.eq_iff_iff]; simp; omega
  · rw [if_neg h]; congr 1; rw [Bool.eq_iff_iff]; simp; omega

theorem l1Num_dec (a : Int) : spec_l1Num.f a = some (decide (-1000000 ≤ a ∧ a ≤ 1000000)) := by
  unfold spec_l1Num.f
  by_cases h : a ≥ -1000000
  · rw [if_pos h]; congr 1; rw [Bool.eq_iff_iff]; simp; omega
  · rw [if_neg h]; congr 1; rw [Bool.eq_iff_iff]; simp; omega

theorem l2Reg_some (a : Int) : spec_l2Reg.f a = some (decide (0 ≤ a ∧ a ≤ 3)) := by
  unfold spec_l2Reg.f
  by_cases h : a ≥ 0
  · rw [if_pos h]; congr 1; rw [Bool.eq_iff_iff]; simp; omega
  · rw [if_neg h]; congr 1; rw [Bool.eq_iff_iff]; simp; omega
theorem l2Ins_ev (x : S42) : Ev (fun k => spec_l2Ins.f k x.f0 x.f1 x.f2 x.f3) (decide (insIn x)) := by
  obtain ⟨kd, a, b, n⟩ := x
  unfold spec_l2Ins.f
  simp only [l2Reg_some, l2Box_some, l1Num_dec, Option.bind_some, decide_eq_true_eq]
  have fin : ∀ {X : Option Bool}, X = some (decide (insIn ⟨kd, a, b, n⟩)) → Ev (fun _ => X) (decide (insIn ⟨kd, a, b, n⟩)) := fun h => ev_const h
  refine ev_ite (fun h => fin ?_) (fun h1 => ev_ite (fun h => fin ?_) (fun h2 => ev_ite (fun h => fin ?_) (fun h3 => ?_)))
  · repeat' split
    all_goals (congr 1; rw [Bool.eq_iff_iff]; simp only [decide_eq_true_eq, beq_iff_eq, Bool.false_eq_true]; simp only [insIn]; constructor <;> intro hh_ <;> first | exact hh_.elim | omega)
  · repeat' split
    all_goals (congr 1; rw [Bool.eq_iff_iff]; simp only [decide_eq_true_eq, beq_iff_eq, Bool.false_eq_true]; simp only [insIn]; constructor <;> intro hh_ <;> first | exact hh_.elim | omega)
  · repeat' split
    all_goals (congr 1; rw [Bool.eq_iff_iff]; simp only [decide_eq_true_eq, beq_iff_eq, Bool.false_eq_true]; simp only [insIn]; constructor <;> intro hh_ <;> first | exact hh_.elim | omega)
  · have key : ∀ t : Bool, (t = true ↔ kd = 4 ∨ kd = 5) → Ev (fun k => spec_l2Ins.j0 k kd t kd a b n) (decide (insIn ⟨kd, a, b, n⟩)) := by
      intro t ht
      refine Ev.step (fun k => by rw [spec_l2Ins.j0]) ?_
      simp only [l2Reg_some, l2Box_some, l1Num_dec, Option.bind_some, decide_eq_true_eq]
      refine fin ?_
      by_cases h4 : t = true
      · have := ht.1 h4
        rw [if_pos h4]
        repeat' split
        all_goals (congr 1; rw [Bool.eq_iff_iff]; simp only [decide_eq_true_eq, beq_iff_eq, Bool.false_eq_true]; simp only [insIn]; constructor <;> intro hh_ <;> first | exact hh_.elim | omega)
      · have : ¬ (kd = 4 ∨ kd = 5) := fun h => h4 (ht.2 h)
        rw [if_neg h4]
        repeat' split
        all_goals (congr 1; rw [Bool.eq_iff_iff]; simp only [decide_eq_true_eq, beq_iff_eq, Bool.false_eq_true]; simp only [insIn]; constructor <;> intro hh_ <;> first | exact hh_.elim | omega)
    refine ev_ite (fun h4 => key _ (by simp [h4])) (fun h4 => key _ (by simp [h4]))
theorem spec_ProgOk_ev (l : List S42) (hn : l.length ≤ 9223372036854775807) : ∃ v, Ev (fun k => spec_ProgOk.f k l) v ∧ (v = true ↔ progOk l) := by
  by_cases h10 : l.length ≤ 10
  · have key := ev_loop l.length (fun i k => spec_ProgOk.l0 k l (i : Int)) (fun i => decide (∀ b ∈ l.drop i, insIn b)) (fun i hi ih => by
      refine Ev.step (fun k => by rw [spec_ProgOk.l0]) ?_
      refine ev_pos (lt_cast hi) (ev_pos (nn_cast i) ?_)
      rw [rdi_Ins hi, wrap_succ hi hn]
      refine (l2Ins_ev l[i]).bind ?_
      have hs : (∀ b ∈ l.drop i, insIn b) ↔ insIn l[i] ∧ ∀ b ∈ l.drop (i + 1), insIn b := mem_split (p := insIn) hi
      simp only [hs, decide_eq_true_eq]
      by_cases h1 : insIn l[i]
      · simp only [h1, true_and]
        exact ev_pos trivial ih
      · simp only [h1, false_and, decide_false]
        exact ev_neg (fun h => h) (ev_now _)) (by
      refine Ev.step (fun k => by rw [spec_ProgOk.l0]) ?_
      refine ev_neg (by omega) ?_
      simp only [List.drop_length, List.not_mem_nil, false_implies, implies_true, decide_true]
      exact ev_now _) 0 (Nat.zero_le _)
    exact ⟨_, Ev.congr (fun k => by unfold spec_ProgOk.f; exact if_neg (by omega)) key, by simp [progOk, h10]⟩
  · refine ⟨false, ?_, by simp [progOk]; omega⟩
    unfold spec_ProgOk.f
    exact ev_pos (by omega) (ev_now _)

theorem in_dec (a b c : Int) : impl_in.f a b c = some (decide (b ≤ a ∧ a ≤ c)) := by
  unfold impl_in.f
  by_cases h : a ≥ b
  · rw [if_pos h]; congr 1; rw [Bool.eq_iff_iff]; simp; omega
  · rw [if_neg h]; congr 1; rw [Bool.eq_iff_iff]; simp; omega

theorem insOk1_dec (a : Int) : impl_insOk_1.f a = some (decide (0 ≤ a ∧ a ≤ 3)) := by
  unfold impl_insOk_1.f
  rw [in_dec]; rfl
theorem insOk2_dec (a : Int) : impl_insOk_2.f a = some (decide (0 ≤ a ∧ a ≤ 3)) := by
  unfold impl_insOk_2.f
  rw [in_dec]; rfl
theorem insOk_ev (x : S42) : Ev (fun k => impl_insOk.f k x.f0 x.f1 x.f2 x.f3) (decide (insIn x)) := by
  obtain ⟨kd, a, b, n⟩ := x
  unfold impl_insOk.f
  simp only [insOk1_dec, insOk2_dec, in_dec, Option.bind_some, decide_eq_true_eq]
  have fin : ∀ {X : Option Bool}, X = some (decide (insIn ⟨kd, a, b, n⟩)) → Ev (fun _ => X) (decide (insIn ⟨kd, a, b, n⟩)) := fun h => ev_const h
  refine ev_ite (fun h => fin ?_) (fun h1 => ev_ite (fun h => fin ?_) (fun h2 => ev_ite (fun h => fin ?_) (fun h3 => ?_)))
  · repeat' split
    all_goals (congr 1; rw [Bool.eq_iff_iff]; simp only [decide_eq_true_eq, beq_iff_eq, Bool.false_eq_true]; simp only [insIn]; constructor <;> intro hh_ <;> first | exact hh_.elim | omega)
  · repeat' split
    all_goals (congr 1; rw [Bool.eq_iff_iff]; simp only [decide_eq_true_eq, beq_iff_eq, Bool.false_eq_true]; simp only [insIn]; constructor <;> intro hh_ <;> first | exact hh_.elim | omega)
  · repeat' split
    all_goals (congr 1; rw [Bool.eq_iff_iff]; simp only [decide_eq_true_eq, beq_iff_eq, Bool.false_eq_true]; simp only [insIn]; constructor <;> intro hh_ <;> first | exact hh_.elim | omega)
  · have key : ∀ t : Bool, (t = true ↔ kd = 4 ∨ kd = 5) → Ev (fun k => impl_insOk.j0 k kd t kd a b n) (decide (insIn ⟨kd, a, b, n⟩)) := by
      intro t ht
      refine Ev.step (fun k => by rw [impl_insOk.j0]) ?_
      simp only [insOk1_dec, insOk2_dec, in_dec, Option.bind_some, decide_eq_true_eq]
      refine fin ?_
      by_cases h4 : t = true
      · have := ht.1 h4
        rw [if_pos h4]
        repeat' split
        all_goals (congr 1; rw [Bool.eq_iff_iff]; simp only [decide_eq_true_eq, beq_iff_eq, Bool.false_eq_true]; simp only [insIn]; constructor <;> intro hh_ <;> first | exact hh_.elim | omega)
      · have : ¬ (kd = 4 ∨ kd = 5) := fun h => h4 (ht.2 h)
        rw [if_neg h4]
        repeat' split
        all_goals (congr 1; rw [Bool.eq_iff_iff]; simp only [decide_eq_true_eq, beq_iff_eq, Bool.false_eq_true]; simp only [insIn]; constructor <;> intro hh_ <;> first | exact hh_.elim | omega)
    refine ev_ite (fun h4 => key _ (by simp [h4])) (fun h4 => key _ (by simp [h4]))
theorem impl_ProgOk_ev (l : List S42) (hn : l.length ≤ 9223372036854775807) : ∃ v, Ev (fun k => impl_ProgOk.f k l) v ∧ (v = true ↔ progOk l) := by
  have key := ev_loop l.length (fun i k => impl_ProgOk.l0 k l l (l.length : Int) (i : Int)) (fun i => decide ((∀ b ∈ l.drop i, insIn b) ∧ l.length ≤ 10)) (fun i hi ih => by
      refine Ev.step (fun k => by rw [impl_ProgOk.l0]) ?_
      refine ev_pos (lt_cast hi) (ev_pos (nn_cast i) (ev_pos (lt_cast hi) ?_))
      rw [rdi_Ins hi, wrap_succ hi hn]
      refine (insOk_ev l[i]).bind ?_
      have hs : (∀ b ∈ l.drop i, insIn b) ↔ insIn l[i] ∧ ∀ b ∈ l.drop (i + 1), insIn b := mem_split (p := insIn) hi
      simp only [hs, decide_eq_true_eq]
      by_cases h1 : insIn l[i]
      · simp only [h1, true_and]
        exact ev_pos trivial ih
      · simp only [h1, false_and, decide_false]
        exact ev_neg (fun h => h) (ev_now _)) (by
      refine Ev.step (fun k => by rw [impl_ProgOk.l0]) ?_
      refine ev_neg (by omega) ?_
      have : decide ((l.length : Int) ≤ 10) = decide ((∀ b ∈ l.drop l.length, insIn b) ∧ l.length ≤ 10) := by
        rw [List.drop_length, Bool.eq_iff_iff]
        simp; omega
      rw [this]
      exact ev_now _) 0 (Nat.zero_le _)
  exact ⟨_, Ev.congr (fun k => by unfold impl_ProgOk.f; exact rfl) key, by simp [progOk, and_comm]⟩

/-- Of 0 .. m - 1, those that p names. -/
def pick (p : Int → Bool) (m : Nat) : List Int := ((List.range m).map (fun i : Nat => (i : Int))).filter p
theorem pick_succ (p : Int → Bool) (m : Nat) : pick p (m + 1) = if p m = true then pick p m ++ [(m : Int)] else pick p m := by
  unfold pick
  rw [List.range_succ, List.map_append, List.filter_append]
  by_cases h : p m = true
  · simp [h]
  · simp [h]
theorem pick_len (p : Int → Bool) (m : Nat) : (pick p m).length ≤ m := by
  unfold pick
  exact Nat.le_trans (List.length_filter_le _ _) (by simp)
theorem pick_same {p q : Int → Bool} (m : Nat) (h : ∀ i : Nat, i < m → p i = q i) : pick p m = pick q m := by
  unfold pick
  refine List.filter_congr ?_
  intro x hx
  simp only [List.mem_map, List.mem_range] at hx
  obtain ⟨i, hi, rfl⟩ := hx
  exact h i hi
/-- What an instruction of kind c touches. -/
def hit (c : Int) (i : Int) (x : S42) : Bool := decide (x.f0 = c) && ((decide (c = 1) && decide (x.f2 = i)) || (decide (c = 2) && decide (x.f1 = i)))
theorem any_drop {α : Type} (l : List α) (p : α → Bool) {j : Nat} (h : j < l.length) : (l.drop j).any p = (p l[j] || (l.drop (j + 1)).any p) := by
  rw [List.drop_eq_getElem_cons h, List.any_cons]
theorem boxesOf_ev (g0 g1 g2 g3 : Bool) : Ev (fun k => impl_boxesOf.f k g0 g1 g2 g3) (pick (fun i => rdOf false [g0, g1, g2, g3] i) 4) := by
  have key := ev_loop 4 (fun i k => impl_boxesOf.l0 k (pick (fun i => rdOf false [g0, g1, g2, g3] i) i) (i : Int) g0 g1 g2 g3) (fun _ => pick (fun i => rdOf false [g0, g1, g2, g3] i) 4) (fun i hi ih => by
    have wi : wrap64 ((i : Int) + 1) = ((i + 1 : Nat) : Int) := wrap_succ hi (by omega)
    refine Ev.step (fun k => by rw [impl_boxesOf.l0]) ?_
    refine ev_pos (by omega) (ev_pos (by omega) ?_)
    rw [pick_succ] at ih
    rw [wi]
    refine ev_ite (fun h => ev_pos (by have := pick_len (fun i => rdOf false [g0, g1, g2, g3] i) i; omega) ?_) (fun h => ?_)
    · rw [if_pos h] at ih; exact ih
    · rw [if_neg h] at ih; exact ih) (by
    refine Ev.step (fun k => by rw [impl_boxesOf.l0]) ?_
    refine ev_neg (by omega) ?_
    refine ev_get (a := pick (fun i => rdOf false [g0, g1, g2, g3] i) 4) ?_ (ev_now _)
    unfold impl_copied_int.f
    exact if_pos (by have := pick_len (fun i => rdOf false [g0, g1, g2, g3] i) 4; omega)) 0 (Nat.zero_le _)
  exact key
theorem ixB_true (j i : Int) (f : Bool) : ixB j i true f = (f || decide (j = i)) := by
  unfold ixB
  by_cases h : j = i
  · rw [if_pos h]; simp [h]
  · rw [if_neg h]; simp [h]
theorem hit_ne {c : Int} (i : Int) {x : S42} (h : x.f0 ≠ c) : hit c i x = false := by simp [hit, h]

theorem l2Boxes_l1 (l : List S42) (c : Int) (acc : List Int) (i : Int) (r : List Int) (hn : l.length ≤ 9223372036854775807) (ha : acc.length < 4) (hi : 0 ≤ i) (hi4 : i < 4)
    (H : Ev (fun k => spec_l2Boxes.l0 k l c (if (l.any (hit c i)) = true then acc ++ [i] else acc) (i + 1)) r) : Ev (fun k => spec_l2Boxes.l1 k l c acc i false 0) r := by
  have wi : wrap64 (i + 1) = i + 1 := wrap_id (by omega) (by omega)
  have key : ∀ d j b, j + d = l.length → (b || (l.drop j).any (hit c i)) = l.any (hit c i) → Ev (fun k => spec_l2Boxes.l1 k l c acc i b (j : Int)) r := by
    intro d
    induction d with
    | zero =>
      intro j b h hb
      obtain rfl : j = l.length := by omega
      rw [List.drop_length, List.any_nil, Bool.or_false] at hb
      subst hb
      refine Ev.step (fun k => by rw [spec_l2Boxes.l1]) ?_
      refine ev_neg (by omega) ?_
      refine ev_ite (fun h => ev_pos (by omega) ?_) (fun h => ?_)
      · rw [if_pos h] at H; rw [wi]; exact H
      · rw [if_neg h] at H; rw [wi]; exact H
    | succ d ih =>
      intro j b h hb
      have hj : j < l.length := by omega
      have nx : ∀ b', b' = (b || hit c i l[j]) → Ev (fun k => spec_l2Boxes.l1 k l c acc i b' (wrap64 ((j : Int) + 1))) r := by
        intro b' hb'
        rw [wrap_succ hj hn]
        refine ih (j + 1) b' (by omega) ?_
        rw [hb', ← hb, any_drop l _ hj, Bool.or_assoc]
      refine Ev.step (fun k => by rw [spec_l2Boxes.l1]) ?_
      refine ev_pos (lt_cast hj) ?_
      refine ev_ite (fun hbt => nx true (by simp [hbt])) (fun hbt => ev_pos (nn_cast j) ?_)
      rw [Bool.not_eq_true] at hbt
      subst hbt
      rw [rdi_Ins hj]
      refine ev_ite (fun h0 => ev_ite (fun h1 => ev_ite (fun h2 => nx true (by simp [hit, h0, h1, h2])) (fun h2 => ev_neg (by omega) (nx false (by simp [hit, h0, h1, h2])))) (fun h1 => ev_ite (fun h2 => nx _ ?_) (fun h2 => nx false (by simp [hit, h1, h2])))) (fun h0 => nx false (by simp [hit, h0]))
      rw [Bool.eq_iff_iff]; simp [hit, h0, h2]
  exact key l.length 0 false (by omega) (by simp)
theorem l2Boxes_ev (l : List S42) (c : Int) (hn : l.length ≤ 9223372036854775807) : Ev (fun k => spec_l2Boxes.f k l c) (pick (fun i => l.any (hit c i)) 4) := by
  have key := ev_loop 4 (fun i k => spec_l2Boxes.l0 k l c (pick (fun i => l.any (hit c i)) i) (i : Int)) (fun _ => pick (fun i => l.any (hit c i)) 4) (fun i hi ih => by
    refine Ev.step (fun k => by rw [spec_l2Boxes.l0]) ?_
    refine ev_pos (by omega) ?_
    refine l2Boxes_l1 l c _ i _ hn (by have := pick_len (fun i => l.any (hit c i)) i; omega) (by omega) (by omega) ?_
    rw [pick_succ] at ih
    exact ih) (by
    refine Ev.step (fun k => by rw [spec_l2Boxes.l0]) ?_
    refine ev_neg (by omega) ?_
    exact ev_now _) 0 (Nat.zero_le _)
  exact key

theorem impl_ProgLoads_ev (l : List S42) (hn : l.length ≤ 9223372036854775807) : Ev (fun k => impl_ProgLoads.f k l) (pick (fun i => l.any (hit 1 i)) 4) := by
  have key : ∀ d j (b0 b1 b2 b3 : Bool), j + d = l.length → (b0 || (l.drop j).any (hit 1 0)) = l.any (hit 1 0) → (b1 || (l.drop j).any (hit 1 1)) = l.any (hit 1 1) → (b2 || (l.drop j).any (hit 1 2)) = l.any (hit 1 2) → (b3 || (l.drop j).any (hit 1 3)) = l.any (hit 1 3) → Ev (fun k => impl_ProgLoads.l0 k l (l.length : Int) (j : Int) b0 b1 b2 b3) (pick (fun i => l.any (hit 1 i)) 4) := by
    intro d
    induction d with
    | zero =>
      intro j b0 b1 b2 b3 h h0 h1 h2 h3
      obtain rfl : j = l.length := by omega
      rw [List.drop_length, List.any_nil, Bool.or_false] at h0 h1 h2 h3
      subst h0 h1 h2 h3
      refine Ev.step (fun k => by rw [impl_ProgLoads.l0]) ?_
      refine ev_neg (by omega) ?_
      refine (boxesOf_ev _ _ _ _).bind ?_
      rw [pick_same (q := fun i => l.any (hit 1 i)) 4 (fun i hi => by
        rcases i with _ | _ | _ | _ | i
        · rfl
        · rfl
        · rfl
        · rfl
        · omega)]
      exact ev_now _
    | succ d ih =>
      intro j b0 b1 b2 b3 h h0 h1 h2 h3
      have hj : j < l.length := by omega
      rw [any_drop l _ hj, ← Bool.or_assoc] at h0 h1 h2 h3
      refine Ev.step (fun k => by rw [impl_ProgLoads.l0]) ?_
      refine ev_pos (lt_cast hj) (ev_pos (nn_cast j) (ev_pos (lt_cast hj) ?_))
      rw [rdi_Ins hj, wrap_succ hj hn]
      have nx : ∀ c0 c1 c2 c3, c0 = (b0 || hit 1 0 l[j]) → c1 = (b1 || hit 1 1 l[j]) → c2 = (b2 || hit 1 2 l[j]) → c3 = (b3 || hit 1 3 l[j]) → Ev (fun k => impl_ProgLoads.l0 k l (l.length : Int) ((j + 1 : Nat) : Int) c0 c1 c2 c3) (pick (fun i => l.any (hit 1 i)) 4) := by
        intro c0 c1 c2 c3 e0 e1 e2 e3
        exact ih (j + 1) c0 c1 c2 c3 (by omega) (by rw [e0]; exact h0) (by rw [e1]; exact h1) (by rw [e2]; exact h2) (by rw [e3]; exact h3)
      by_cases hk : (l[j]).f0 = 1
      · refine ev_pos hk (ev_get (in_dec _ _ _) ?_)
        have hh : ∀ i : Int, hit 1 i l[j] = decide ((l[j]).f2 = i) := by intro i; simp [hit, hk]
        by_cases hr : 0 ≤ (l[j]).f2 ∧ (l[j]).f2 ≤ 3
        · refine ev_pos (by simpa using hr) (ev_pos (by omega) (ev_pos (by omega) ?_))
          exact nx _ _ _ _ (by rw [hh, ixB_true]) (by rw [hh, ixB_true]) (by rw [hh, ixB_true]) (by rw [hh, ixB_true])
        · refine ev_neg (by simpa using hr) ?_
          refine nx _ _ _ _ ?_ ?_ ?_ ?_ <;> (rw [hh, decide_eq_false (by omega), Bool.or_false])
      · refine ev_neg hk ?_
        exact nx _ _ _ _ (by rw [hit_ne _ hk, Bool.or_false]) (by rw [hit_ne _ hk, Bool.or_false]) (by rw [hit_ne _ hk, Bool.or_false]) (by rw [hit_ne _ hk, Bool.or_false])
  exact Ev.congr (fun k => by unfold impl_ProgLoads.f; exact rfl) (key l.length 0 false false false false (by omega) (by simp) (by simp) (by simp) (by simp))

theorem spec_ProgLoads_ev (l : List S42) (hn : l.length ≤ 9223372036854775807) : Ev (fun k => spec_ProgLoads.f k l) (pick (fun i => l.any (hit 1 i)) 4) := by
  unfold spec_ProgLoads.f
  exact (l2Boxes_ev l 1 hn).bind (ev_now _)

theorem impl_ProgPuts_ev (l : List S42) (hn : l.length ≤ 9223372036854775807) : Ev (fun k => impl_ProgPuts.f k l) (pick (fun i => l.any (hit 2 i)) 4) := by
  have key : ∀ d j (b0 b1 b2 b3 : Bool), j + d = l.length → (b0 || (l.drop j).any (hit 2 0)) = l.any (hit 2 0) → (b1 || (l.drop j).any (hit 2 1)) = l.any (hit 2 1) → (b2 || (l.drop j).any (hit 2 2)) = l.any (hit 2 2) → (b3 || (l.drop j).any (hit 2 3)) = l.any (hit 2 3) → Ev (fun k => impl_ProgPuts.l0 k l (l.length : Int) (j : Int) b0 b1 b2 b3) (pick (fun i => l.any (hit 2 i)) 4) := by
    intro d
    induction d with
    | zero =>
      intro j b0 b1 b2 b3 h h0 h1 h2 h3
      obtain rfl : j = l.length := by omega
      rw [List.drop_length, List.any_nil, Bool.or_false] at h0 h1 h2 h3
      subst h0 h1 h2 h3
      refine Ev.step (fun k => by rw [impl_ProgPuts.l0]) ?_
      refine ev_neg (by omega) ?_
      refine (boxesOf_ev _ _ _ _).bind ?_
      rw [pick_same (q := fun i => l.any (hit 2 i)) 4 (fun i hi => by
        rcases i with _ | _ | _ | _ | i
        · rfl
        · rfl
        · rfl
        · rfl
        · omega)]
      exact ev_now _
    | succ d ih =>
      intro j b0 b1 b2 b3 h h0 h1 h2 h3
      have hj : j < l.length := by omega
      rw [any_drop l _ hj, ← Bool.or_assoc] at h0 h1 h2 h3
      refine Ev.step (fun k => by rw [impl_ProgPuts.l0]) ?_
      refine ev_pos (lt_cast hj) (ev_pos (nn_cast j) (ev_pos (lt_cast hj) ?_))
      rw [rdi_Ins hj, wrap_succ hj hn]
      have nx : ∀ c0 c1 c2 c3, c0 = (b0 || hit 2 0 l[j]) → c1 = (b1 || hit 2 1 l[j]) → c2 = (b2 || hit 2 2 l[j]) → c3 = (b3 || hit 2 3 l[j]) → Ev (fun k => impl_ProgPuts.l0 k l (l.length : Int) ((j + 1 : Nat) : Int) c0 c1 c2 c3) (pick (fun i => l.any (hit 2 i)) 4) := by
        intro c0 c1 c2 c3 e0 e1 e2 e3
        exact ih (j + 1) c0 c1 c2 c3 (by omega) (by rw [e0]; exact h0) (by rw [e1]; exact h1) (by rw [e2]; exact h2) (by rw [e3]; exact h3)
      by_cases hk : (l[j]).f0 = 2
      · refine ev_pos hk (ev_get (in_dec _ _ _) ?_)
        have hh : ∀ i : Int, hit 2 i l[j] = decide ((l[j]).f1 = i) := by intro i; simp [hit, hk]
        by_cases hr : 0 ≤ (l[j]).f1 ∧ (l[j]).f1 ≤ 3
        · refine ev_pos (by simpa using hr) (ev_pos (by omega) (ev_pos (by omega) ?_))
          exact nx _ _ _ _ (by rw [hh, ixB_true]) (by rw [hh, ixB_true]) (by rw [hh, ixB_true]) (by rw [hh, ixB_true])
        · refine ev_neg (by simpa using hr) ?_
          refine nx _ _ _ _ ?_ ?_ ?_ ?_ <;> (rw [hh, decide_eq_false (by omega), Bool.or_false])
      · refine ev_neg hk ?_
        exact nx _ _ _ _ (by rw [hit_ne _ hk, Bool.or_false]) (by rw [hit_ne _ hk, Bool.or_false]) (by rw [hit_ne _ hk, Bool.or_false]) (by rw [hit_ne _ hk, Bool.or_false])
  exact Ev.congr (fun k => by unfold impl_ProgPuts.f; exact rfl) (key l.length 0 false false false false (by omega) (by simp) (by simp) (by simp) (by simp))

theorem spec_ProgPuts_ev (l : List S42) (hn : l.length ≤ 9223372036854775807) : Ev (fun k => spec_ProgPuts.f k l) (pick (fun i => l.any (hit 2 i)) 4) := by
  unfold spec_ProgPuts.f
  exact (l2Boxes_ev l 2 hn).bind (ev_now _)

def putsOf (l : List S42) : List Int := pick (fun i => l.any (hit 2 i)) 4
def loadsOf (l : List S42) : List Int := pick (fun i => l.any (hit 1 i)) 4
theorem putsOf_len (l : List S42) : (putsOf l).length ≤ 4 := pick_len _ _
theorem loadsOf_len (l : List S42) : (loadsOf l).length ≤ 4 := pick_len _ _
theorem meet_comm (x y : List Int) : meet x y ↔ meet y x := ⟨fun ⟨a, h, g⟩ => ⟨a, g, h⟩, fun ⟨a, h, g⟩ => ⟨a, g, h⟩⟩
def freeP (p q : List S42) : Prop := progOk p ∧ progOk q ∧ ¬ meet (putsOf p) (putsOf q) ∧ ¬ meet (putsOf p) (loadsOf q) ∧ ¬ meet (loadsOf p) (putsOf q)
theorem spec_SerialFree_ev (p q : List S42) (hn : p.length ≤ 9223372036854775807) (hm : q.length ≤ 9223372036854775807) : ∃ v, Ev (fun k => spec_SerialFree.f k p q) v ∧ (v = true ↔ freeP p q) := by
  obtain ⟨a, ha, hai⟩ := spec_ProgOk_ev p hn
  obtain ⟨b, hb, hbi⟩ := spec_ProgOk_ev q hm
  have p1 : Ev (fun k => spec_ProgPuts.f k p) (putsOf p) := spec_ProgPuts_ev p hn
  have p2 : Ev (fun k => spec_ProgPuts.f k q) (putsOf q) := spec_ProgPuts_ev q hm
  have l1 : Ev (fun k => spec_ProgLoads.f k p) (loadsOf p) := spec_ProgLoads_ev p hn
  have l2 : Ev (fun k => spec_ProgLoads.f k q) (loadsOf q) := spec_ProgLoads_ev q hm
  have n1 := putsOf_len p; have n2 := putsOf_len q; have n3 := loadsOf_len p; have n4 := loadsOf_len q
  obtain ⟨c, hc, hci⟩ := l4Meet_ev (putsOf p) (putsOf q) (by omega) (by omega)
  obtain ⟨d, hd, hdi⟩ := l4Meet_ev (putsOf p) (loadsOf q) (by omega) (by omega)
  obtain ⟨e, he, hei⟩ := l4Meet_ev (loadsOf p) (putsOf q) (by omega) (by omega)
  unfold spec_SerialFree.f freeP
  rw [← hai, ← hbi, ← hci, ← hdi, ← hei]
  by_cases h1 : a = true
  case neg => exact ⟨false, ha.bind (ev_neg h1 (ev_now _)), by simp [h1]⟩
  by_cases h2 : b = true
  case neg => exact ⟨false, ha.bind (ev_pos h1 (hb.bind (ev_neg h2 (ev_now _)))), by simp [h2]⟩
  by_cases h3 : c = true
  case pos => exact ⟨false, ha.bind (ev_pos h1 (hb.bind (ev_pos h2 (p1.bind (p2.bind (hc.bind (ev_pos h3 (ev_now _)))))))), by simp [h3]⟩
  by_cases h4 : d = true
  case pos => exact ⟨false, ha.bind (ev_pos h1 (hb.bind (ev_pos h2 (p1.bind (p2.bind (hc.bind (ev_neg h3 (p1.bind (l2.bind (hd.bind (ev_pos h4 (ev_now _)))))))))))), by simp [h4]⟩
  exact ⟨!e, ha.bind (ev_pos h1 (hb.bind (ev_pos h2 (p1.bind (p2.bind (hc.bind (ev_neg h3 (p1.bind (l2.bind (hd.bind (ev_neg h4 (l1.bind (p2.bind (he.bind (ev_now _))))))))))))))), by simp [h1, h2, h3, h4]⟩
theorem impl_SerialFree_ev (p q : List S42) (hn : p.length ≤ 9223372036854775807) (hm : q.length ≤ 9223372036854775807) : ∃ v, Ev (fun k => impl_SerialFree.f k p q) v ∧ (v = true ↔ freeP p q) := by
  obtain ⟨a, ha, hai⟩ := impl_ProgOk_ev p hn
  obtain ⟨b, hb, hbi⟩ := impl_ProgOk_ev q hm
  have p1 : Ev (fun k => impl_ProgPuts.f k p) (putsOf p) := impl_ProgPuts_ev p hn
  have p2 : Ev (fun k => impl_ProgPuts.f k q) (putsOf q) := impl_ProgPuts_ev q hm
  have l1 : Ev (fun k => impl_ProgLoads.f k p) (loadsOf p) := impl_ProgLoads_ev p hn
  have l2 : Ev (fun k => impl_ProgLoads.f k q) (loadsOf q) := impl_ProgLoads_ev q hm
  have n1 := putsOf_len p; have n2 := putsOf_len q; have n3 := loadsOf_len p; have n4 := loadsOf_len q
  obtain ⟨c, hc, hci⟩ := meets_ev (putsOf p) (putsOf q) (by omega) (by omega)
  obtain ⟨d, hd, hdi⟩ := meets_ev (putsOf p) (loadsOf q) (by omega) (by omega)
  obtain ⟨e, he, hei⟩ := meets_ev (putsOf q) (loadsOf p) (by omega) (by omega)
  rw [meet_comm] at hei
  have no : Ev (fun k => impl_SerialFree.j0 k p q true) false := by
    refine Ev.step (fun k => by rw [impl_SerialFree.j0]) ?_
    exact ev_pos rfl (ev_now _)
  unfold impl_SerialFree.f freeP
  rw [← hai, ← hbi, ← hci, ← hdi, ← hei]
  by_cases h1 : a = true
  case neg => exact ⟨false, ha.bind (ev_neg h1 no), by simp [h1]⟩
  by_cases h2 : b = true
  case neg =>
    rw [Bool.not_eq_true] at h2; subst h2
    exact ⟨false, ha.bind (ev_pos h1 (hb.bind no)), by simp⟩
  subst h2
  have go : ∀ {r : Bool}, Ev (fun k => (impl_ProgPuts.f k p).bind fun t212 => ((impl_ProgPuts.f k q).bind fun t215 => ((impl_meets.f k t212 t215).bind fun t218 => (if t218 = true then (some false) else ((impl_ProgLoads.f k q).bind fun t219 => ((impl_meets.f k t212 t219).bind fun t222 => (if t222 = true then (some false) else ((impl_ProgLoads.f k p).bind fun t223 => ((impl_meets.f k t215 t223).bind fun t226 => (some (!t226)))))))))) ) r → Ev (fun k => impl_SerialFree.j0 k p q (!true)) r := by
    intro r h
    refine Ev.step (fun k => by rw [impl_SerialFree.j0]) ?_
    exact ev_neg (by simp) h
  by_cases h3 : c = true
  case pos => exact ⟨false, ha.bind (ev_pos h1 (hb.bind (go (p1.bind (p2.bind (hc.bind (ev_pos h3 (ev_now _)))))))), by simp [h3]⟩
  by_cases h4 : d = true
  case pos => exact ⟨false, ha.bind (ev_pos h1 (hb.bind (go (p1.bind (p2.bind (hc.bind (ev_neg h3 (l2.bind (hd.bind (ev_pos h4 (ev_now _))))))))))), by simp [h4]⟩
  exact ⟨!e, ha.bind (ev_pos h1 (hb.bind (go (p1.bind (p2.bind (hc.bind (ev_neg h3 (l2.bind (hd.bind (ev_neg h4 (l1.bind (he.bind (ev_now _)))))))))))))  , by simp [h1, h3, h4]⟩

/-- The bytes a draw reads, and the numbers it picks. -/
def bytesOk (s : List Int) : Prop := ∀ x ∈ s, 0 ≤ x ∧ x ≤ 255
theorem rd_byte {s : List Int} (h : bytesOk s) (i : Int) : 0 ≤ rd s i ∧ rd s i ≤ 255 := by
  unfold rd
  rw [List.getD_eq_getElem?_getD]
  cases e : s[i.toNat]? with
  | none => simp
  | some x => exact h x (List.mem_of_getElem? e)
theorem xor_nn (a b : Int) (ha : 0 ≤ a) (ha2 : a < 4611686018427387904) (hb : 0 ≤ b) (hb2 : b < 4611686018427387904) : 0 ≤ Go.bits .xor .i64 a b := by
  obtain ⟨m, rfl⟩ := Int.eq_ofNat_of_zero_le ha
  obtain ⟨n, rfl⟩ := Int.eq_ofNat_of_zero_le hb
  have hm : m < 2 ^ 62 := by omega
  have hn : n < 2 ^ 62 := by omega
  have hx := Nat.xor_lt_two_pow hm hn
  have h1 : m % 2 ^ 64 = m := by omega
  have h2 : n % 2 ^ 64 = n := by omega
  have e : (BitVec.ofNat 64 m ^^^ BitVec.ofNat 64 n).toNat = m ^^^ n := by rw [BitVec.toNat_xor, BitVec.toNat_ofNat, BitVec.toNat_ofNat, h1, h2]
  have e2 : Go.bits .xor .i64 (m : Int) (n : Int) = IntKind.i64.wrap (((BitVec.ofInt 64 (m : Int) ^^^ BitVec.ofInt 64 (n : Int)).toNat : Nat) : Int) := rfl
  rw [e2, BitVec.ofInt_natCast, BitVec.ofInt_natCast, e, IntKind.wrap_i64]
  omega
theorem tmod_in {a n : Int} (ha : 0 ≤ a) (hn : 1 ≤ n) : 0 ≤ Int.tmod a n ∧ Int.tmod a n < n := ⟨Int.tmod_nonneg _ ha, Int.tmod_lt_of_pos _ (by omega)⟩
theorem tdiv_in {a n : Int} (ha : 0 ≤ a) (hn : 1 ≤ n) : 0 ≤ Int.tdiv a n ∧ Int.tdiv a n ≤ a := by
  rw [Int.tdiv_eq_ediv_of_nonneg ha]
  exact ⟨Int.ediv_nonneg ha (by omega), Int.ediv_le_self _ ha⟩
theorem pick_ev {s : List Int} (hs : bytesOk s) (p n : Int) (hp : 0 ≤ p) (hp2 : p ≤ 1000000000000) (hl : s.length ≤ 9223372036854775807) :
    ∃ v, Ev (fun k => spec_l15Rd_pick.f k s p n) (v, p + 1) ∧ 0 ≤ v ∧ (1 ≤ n → v < n) := by
  have wp : wrap64 (p + 1) = p + 1 := wrap_id (by omega) (by omega)
  have wq : wrap64 ((p + 1) - 1) = p := by rw [Int.add_sub_cancel]; exact wrap_id (by omega) (by omega)
  unfold spec_l15Rd_pick.f
  rw [wp]
  by_cases h1 : n < 1
  · refine ⟨0, ev_pos h1 (Ev.step (fun k => by rw [spec_l15Rd_pick.j0]) ?_), by omega, by omega⟩
    exact ev_pos rfl (ev_now _)
  by_cases h2 : s.length = 0
  · refine ⟨0, ev_neg h1 (Ev.step (fun k => by rw [spec_l15Rd_pick.j0]) ?_), by omega, by omega⟩
    exact ev_pos (by simp [h2]) (ev_now _)
  have hf : ¬ (((s.length : Int) == 0) = true) := by simp; intro h; exact h2 (by rw [h]; rfl)
  by_cases h3 : p < s.length
  · have hb := rd_byte hs p
    have wv : wrap64 (rd s p) = rd s p := wrap_id (by omega) (by omega)
    have ht := tmod_in (a := rd s p) (n := n) hb.1 (by omega)
    refine ⟨Int.tmod (rd s p) n, ev_neg h1 (Ev.step (fun k => by rw [spec_l15Rd_pick.j0]) ?_), ht.1, fun _ => ht.2⟩
    rw [wq, wv]
    exact ev_neg hf (ev_pos h3 (ev_pos hp (ev_neg (by omega) (ev_now _))))
  have q1 := tmod_in (a := p) (n := s.length) hp (by omega)
  have w7 : wrap64 (p * 7) = p * 7 := wrap_id (by omega) (by omega)
  have w8 : wrap64 (p * 7 + 3) = p * 7 + 3 := wrap_id (by omega) (by omega)
  have q2 := tmod_in (a := p * 7 + 3) (n := s.length) (by omega) (by omega)
  have b1 := rd_byte hs (Int.tmod p s.length)
  have b2 := rd_byte hs (Int.tmod (p * 7 + 3) s.length)
  have d1 := tdiv_in (a := p) (n := s.length) hp (by omega)
  generalize hx : rd s (Int.tmod p s.length) = x at b1
  generalize hy : rd s (Int.tmod (p * 7 + 3) s.length) = y at b2
  generalize hd : Int.tdiv p s.length = d at d1
  have v1 : wrap64 x = x := wrap_id (by omega) (by omega)
  have v2 : wrap64 (x * 131) = x * 131 := wrap_id (by omega) (by omega)
  have v3 : wrap64 y = y := wrap_id (by omega) (by omega)
  have v4 : wrap64 (y * 1117) = y * 1117 := wrap_id (by omega) (by omega)
  have v5 : wrap64 (x * 131 + y * 1117) = x * 131 + y * 1117 := wrap_id (by omega) (by omega)
  have v6 : wrap64 (p * 29) = p * 29 := wrap_id (by omega) (by omega)
  have v7 : wrap64 (x * 131 + y * 1117 + p * 29) = x * 131 + y * 1117 + p * 29 := wrap_id (by omega) (by omega)
  have v8 : wrap64 d = d := wrap_id (by omega) (by omega)
  have v9 : wrap64 (d * 53) = d * 53 := wrap_id (by omega) (by omega)
  have v10 : wrap64 (x * 131 + y * 1117 + p * 29 + d * 53) = x * 131 + y * 1117 + p * 29 + d * 53 := wrap_id (by omega) (by omega)
  generalize hz : x * 131 + y * 1117 + p * 29 + d * 53 = z at v10
  have z0 : 0 ≤ z := by omega
  have z1 : z < 4611686018427387904 := by omega
  have d2 := tdiv_in (a := z) (n := 64) z0 (by omega)
  have v11 : wrap64 (Int.tdiv z 64) = Int.tdiv z 64 := wrap_id (by omega) (by omega)
  have hxo := xor_nn z (Int.tdiv z 64) z0 z1 d2.1 (by omega)
  have ht := tmod_in (a := Go.bits .xor .i64 z (Int.tdiv z 64)) (n := n) hxo (by omega)
  refine ⟨Int.tmod (Go.bits .xor .i64 z (Int.tdiv z 64)) n, ev_neg h1 (Ev.step (fun k => by rw [spec_l15Rd_pick.j0]) ?_), ht.1, fun _ => ht.2⟩
  rw [wq, w7, w8, hx, hy, hd, v1, v2, v3, v4, v5, v6, v7, v8, v9, hz, v10, v11]
  exact ev_neg hf (ev_neg h3 (ev_neg (by omega) (ev_pos q1.1 (ev_pos q1.2 (ev_pos q2.1 (ev_pos q2.2 (ev_neg (by omega) (ev_now _))))))))
theorem open_some (l : List Int) (hl : bytesOk l) : ∃ s, spec_l15Open.f l = some (s, 0) ∧ bytesOk s ∧ s.length ≤ 2000 := by
  unfold spec_l15Open.f
  by_cases h : (l.length : Int) > 2000
  · refine ⟨l.take 2000, by rw [if_pos h, if_pos (by omega)], fun x hx => hl x (List.mem_of_mem_take hx), by rw [List.length_take]; omega⟩
  · exact ⟨l, by rw [if_neg h], hl, by omega⟩
theorem bytes_wf {l : List Int} (h : ∀ x ∈ l, (Lit.int .u8 x).wf = true) : bytesOk l := by
  intro x hx
  have := h x hx
  simp [Lit.wf, IntKind.min, IntKind.max, IntKind.bits, IntKind.signed] at this
  omega

/-- What comes of a reckoning, told by a property. -/
def Dr {α : Type} (F : Nat → Option α) (Q : α → Prop) : Prop := ∃ v, Ev F v ∧ Q v
theorem Dr.bind {α β : Type} {F : Nat → Option α} {G : Nat → α → Option β} {Q : α → Prop} {R : β → Prop} (h : Dr F Q) (k : ∀ v, Q v → Dr (fun n => G n v) R) : Dr (fun n => (F n).bind (G n)) R := by
  obtain ⟨v, hv, q⟩ := h
  obtain ⟨u, hu, r⟩ := k v q
  exact ⟨u, hv.bind hu, r⟩
theorem Dr.now {α : Type} {R : α → Prop} {v : α} (h : R v) : Dr (fun _ => some v) R := ⟨v, ev_now v, h⟩
theorem Dr.pos {α : Type} {c : Prop} [Decidable c] {f g : Nat → Option α} {R : α → Prop} (h : c) (d : Dr f R) : Dr (fun k => if c then f k else g k) R := by
  obtain ⟨v, hv, q⟩ := d; exact ⟨v, ev_pos h hv, q⟩
theorem Dr.neg {α : Type} {c : Prop} [Decidable c] {f g : Nat → Option α} {R : α → Prop} (h : ¬ c) (d : Dr g R) : Dr (fun k => if c then f k else g k) R := by
  obtain ⟨v, hv, q⟩ := d; exact ⟨v, ev_neg h hv, q⟩
theorem Dr.ite {α : Type} {c : Prop} [Decidable c] {f g : Nat → Option α} {R : α → Prop} (h1 : c → Dr f R) (h2 : ¬ c → Dr g R) : Dr (fun k => if c then f k else g k) R := by
  by_cases h : c
  · exact Dr.pos h (h1 h)
  · exact Dr.neg h (h2 h)
theorem Dr.mono {α : Type} {F : Nat → Option α} {Q R : α → Prop} (h : Dr F Q) (k : ∀ v, Q v → R v) : Dr F R := by
  obtain ⟨v, hv, q⟩ := h; exact ⟨v, hv, k v q⟩
theorem Dr.step {α : Type} {F G : Nat → Option α} {R : α → Prop} (h : ∀ k, F (k + 1) = G k) (d : Dr G R) : Dr F R := by
  obtain ⟨v, hv, q⟩ := d; exact ⟨v, Ev.step h hv, q⟩
theorem Dr.of {α : Type} {g : Option α} {a : α} {R : α → Prop} (h : g = some a) (r : R a) : Dr (fun _ => g) R := ⟨a, ev_const h, r⟩
theorem pick_dr {s : List Int} (hs : bytesOk s) (p n : Int) (hp : 0 ≤ p) (hp2 : p ≤ 1000000000000) (hl : s.length ≤ 9223372036854775807) :
    Dr (fun k => spec_l15Rd_pick.f k s p n) (fun r => 0 ≤ r.1 ∧ (1 ≤ n → r.1 < n) ∧ r.2 = p + 1) := by
  obtain ⟨v, hv, h0, h1⟩ := pick_ev hs p n hp hp2 hl
  exact ⟨_, hv, h0, h1, rfl⟩

theorem num_ev {s : List Int} (hs : bytesOk s) (p : Int) (l : List Int) (hp : 0 ≤ p) (hp2 : p ≤ 1000000000000) (hl : s.length ≤ 9223372036854775807) (h0 : 0 < l.length) (h1 : l.length ≤ 1000000) :
    ∃ v, Ev (fun k => spec_l15Rd_num.f k s p l) (v, p + 1) ∧ v ∈ l := by
  obtain ⟨i, hi, i0, i1⟩ := pick_ev hs p l.length hp hp2 hl
  obtain ⟨j, rfl⟩ := Int.eq_ofNat_of_zero_le i0
  have hj : j < l.length := by have := i1 (by omega); omega
  refine ⟨l[j], ?_, List.getElem_mem hj⟩
  unfold spec_l15Rd_num.f
  refine hi.bind (ev_pos i0 (ev_pos (lt_cast hj) ?_))
  rw [rd_i hj]
  exact ev_now _

theorem num_dr {s : List Int} (hs : bytesOk s) (p : Int) (l : List Int) (hp : 0 ≤ p) (hp2 : p ≤ 1000000000000) (hl : s.length ≤ 9223372036854775807) (h0 : 0 < l.length) (h1 : l.length ≤ 1000000) :
    Dr (fun k => spec_l15Rd_num.f k s p l) (fun r => r.1 ∈ l ∧ r.2 = p + 1) := by
  obtain ⟨v, hv, h⟩ := num_ev hs p l hp hp2 hl h0 h1
  exact ⟨_, hv, h, rfl⟩

def insSmall (b : S42) : Prop := -2000000 ≤ b.f0 ∧ b.f0 ≤ 2000000 ∧ -2000000 ≤ b.f1 ∧ b.f1 ≤ 2000000 ∧ -2000000 ≤ b.f2 ∧ b.f2 ≤ 2000000 ∧ -2000000 ≤ b.f3 ∧ b.f3 ≤ 2000000
theorem l2Any_dr {s : List Int} (hs : bytesOk s) (p : Int) (hp : 0 ≤ p) (hp2 : p ≤ 100000000000) (hl : s.length ≤ 9223372036854775807) :
    Dr (fun k => spec_l2Any.f k s p) (fun r => insSmall ⟨r.1, r.2.1, r.2.2.1, r.2.2.2.1⟩ ∧ p ≤ r.2.2.2.2 ∧ r.2.2.2.2 ≤ p + 6) := by
  unfold spec_l2Any.f
  refine (num_dr hs p _ hp (by omega) hl (by simp) (by simp)).bind fun r1 h1 => ?_
  obtain ⟨h1, e1⟩ := h1
  simp only [List.mem_cons, List.not_mem_nil, or_false] at h1
  refine (pick_dr hs r1.2 _ (by omega) (by omega) hl).bind fun r2 h2 => ?_
  refine (pick_dr hs r2.2 _ (by omega) (by omega) hl).bind fun r3 h3 => ?_
  refine Dr.ite (fun c => ?_) (fun c => Dr.ite (fun d => ?_) (fun d => Dr.ite (fun e => ?_) (fun e => ?_)))
  · refine (num_dr hs r3.2 _ (by omega) (by omega) hl (by simp) (by simp)).bind fun r4 h4 => Dr.now ?_
    obtain ⟨h4, e4⟩ := h4
    simp only [List.mem_cons, List.not_mem_nil, or_false] at h4
    unfold insSmall; simp only; omega
  · refine (pick_dr hs r3.2 _ (by omega) (by omega) hl).bind fun r4 h4 => Dr.now ?_
    have : wrap64 (1 + r4.1) = 1 + r4.1 := wrap_id (by omega) (by omega)
    unfold insSmall; simp only [this]; omega
  · refine (pick_dr hs r3.2 _ (by omega) (by omega) hl).bind fun r4 h4 => Dr.ite (fun f => ?_) (fun f => Dr.now ?_)
    · refine (pick_dr hs r4.2 _ (by omega) (by omega) hl).bind fun r5 h5 => ?_
      refine (pick_dr hs r5.2 _ (by omega) (by omega) hl).bind fun r6 h6 => Dr.now ?_
      unfold insSmall; simp only; omega
    · unfold insSmall; simp only; omega
  · refine Dr.now ?_
    unfold insSmall; simp only; omega
theorem l2Prog_l0 {s : List Int} (hs : bytesOk s) (hl : s.length ≤ 9223372036854775807) : ∀ (d : Nat) (l : List S42) (p : Int), d ≤ 100 → l.length + d ≤ 1000 → (∀ b ∈ l, insSmall b) → 0 ≤ p → p + 6 * d ≤ 90000000000 →
    Dr (fun k => spec_l2Prog.l0 k l d s p) (fun r => r.1.length = l.length + d ∧ (∀ b ∈ r.1, insSmall b) ∧ p ≤ r.2 ∧ r.2 ≤ p + 6 * d) := by
  intro d
  induction d with
  | zero =>
    intro l p _ _ hb _ _
    refine Dr.step (fun k => by rw [spec_l2Prog.l0]) ?_
    exact Dr.neg (by omega) (Dr.now ⟨by simp, hb, by simp, by simp⟩)
  | succ d ih =>
    intro l p hd hn hb h0 h1
    refine Dr.step (fun k => by rw [spec_l2Prog.l0]) ?_
    refine Dr.pos (by omega) ((l2Any_dr hs p h0 (by omega) hl).bind fun r hr => Dr.pos (by omega) ?_)
    have hw : wrap64 (((d + 1 : Nat) : Int) - 1) = (d : Int) := by
      rw [show ((d + 1 : Nat) : Int) - 1 = (d : Int) by omega]
      exact wrap_id (by omega) (by omega)
    rw [hw]
    refine (ih (l ++ [(⟨r.1, r.2.1, r.2.2.1, r.2.2.2.1⟩ : S42)]) r.2.2.2.2 (by omega) (by simp; omega) ?_ (by omega) (by omega)).mono fun v hv => ⟨by rw [hv.1]; simp; omega, hv.2.1, by omega, by omega⟩
    intro b hb2
    rcases List.mem_append.1 hb2 with h | h
    · exact hb b h
    · rw [List.mem_singleton.1 h]; exact hr.1
theorem l2Prog_dr {s : List Int} (hs : bytesOk s) (p : Int) (hp : 0 ≤ p) (hp2 : p ≤ 10000000000) (hl : s.length ≤ 9223372036854775807) :
    Dr (fun k => spec_l2Prog.f k s p) (fun r => r.1.length ≤ 7 ∧ (∀ b ∈ r.1, insSmall b) ∧ p ≤ r.2 ∧ r.2 ≤ p + 50) := by
  unfold spec_l2Prog.f
  refine (pick_dr hs p _ hp (by omega) hl).bind fun r1 h1 => Dr.ite (fun c => ?_) (fun c => ?_)
  · refine (pick_dr hs r1.2 _ (by omega) (by omega) hl).bind fun r2 h2 => ?_
    refine (pick_dr hs r2.2 _ (by omega) (by omega) hl).bind fun r3 h3 => ?_
    refine (pick_dr hs r3.2 _ (by omega) (by omega) hl).bind fun r4 h4 => Dr.now ?_
    have hw : wrap64 (1 + r4.1) = 1 + r4.1 := wrap_id (by omega) (by omega)
    refine ⟨by simp, ?_, by omega, by omega⟩
    intro b hb
    simp only [List.mem_cons, List.not_mem_nil, or_false, hw] at hb
    rcases hb with rfl | rfl | rfl | rfl <;> (unfold insSmall; simp only; omega)
  · refine (pick_dr hs r1.2 _ (by omega) (by omega) hl).bind fun r2 h2 => ?_
    have h3 := h2.2.1 (by omega)
    obtain ⟨d, hd⟩ := Int.eq_ofNat_of_zero_le h2.1
    rw [hd] at h3 ⊢
    refine (l2Prog_l0 hs hl d [] r2.2 (by omega) (by simp; omega) (by simp) (by omega) (by omega)).mono fun v hv => ⟨by rw [hv.1]; simp; omega, hv.2.1, by omega, by omega⟩
theorem insSmall_rd {l : List S42} (h : ∀ b ∈ l, insSmall b) (i : Int) : insSmall (rd_T42 l i) := by
  unfold rd_T42
  rw [List.getD_eq_getElem?_getD]
  cases e : l[i.toNat]? with
  | none => simp [insSmall, z42]
  | some x => exact h x (List.mem_of_getElem? e)
theorem insSmall_set {l : List S42} {i : Nat} {v : S42} (h : ∀ b ∈ l, insSmall b) (hv : insSmall v) : ∀ b ∈ l.set i v, insSmall b := by
  intro b hb
  rcases List.mem_or_eq_of_mem_set hb with h1 | h1
  · exact h b h1
  · rw [h1]; exact hv
theorem l2Bent_l0 {s : List Int} : ∀ (d : Nat) (l : List S42) (i p : Int), l.length + d = 11 → 0 ≤ i → i < l.length → (∀ b ∈ l, insSmall b) →
    Dr (fun k => spec_l2Bent.l0 k l i s p) (fun r => r.1.length ≤ 11 ∧ (∀ b ∈ r.1, insSmall b) ∧ p ≤ r.2 ∧ r.2 ≤ p) := by
  intro d
  induction d with
  | zero =>
    intro l i p hd _ _ hb
    refine Dr.step (fun k => by rw [spec_l2Bent.l0]) ?_
    exact Dr.neg (by omega) (Dr.now ⟨by simp; omega, hb, by simp, by simp⟩)
  | succ d ih =>
    intro l i p hd h0 h1 hb
    refine Dr.step (fun k => by rw [spec_l2Bent.l0]) ?_
    refine Dr.pos (by omega) (Dr.pos h0 (Dr.pos h1 (Dr.pos (by omega) ?_)))
    refine ih _ i p (by simp; omega) h0 (by simp; omega) ?_
    intro b hb2
    rcases List.mem_append.1 hb2 with h | h
    · exact hb b h
    · rw [List.mem_singleton.1 h]; exact insSmall_rd hb i
theorem l2Bent_dr {s : List Int} (hs : bytesOk s) (p : Int) (hp : 0 ≤ p) (hp2 : p ≤ 1000000000) (hl : s.length ≤ 9223372036854775807) :
    Dr (fun k => spec_l2Bent.f k s p) (fun r => r.1.length ≤ 11 ∧ (∀ b ∈ r.1, insSmall b) ∧ p ≤ r.2 ∧ r.2 ≤ p + 60) := by
  unfold spec_l2Bent.f
  refine (l2Prog_dr hs p hp (by omega) hl).bind fun r1 h1 => Dr.ite (fun c => Dr.now ⟨by simp only; omega, h1.2.1, by simp only; omega, by simp only; omega⟩) (fun c => ?_)
  obtain ⟨n1, b1, p1, p2⟩ := h1
  refine (pick_dr hs r1.2 _ (by omega) (by omega) hl).bind fun r2 h2 => ?_
  have i2 := h2.2.1 (by omega)
  have sm := insSmall_rd b1 r2.1
  unfold insSmall at sm
  refine (pick_dr hs r2.2 _ (by omega) (by omega) hl).bind fun r3 h3 => Dr.ite (fun d => ?_) (fun d => Dr.ite (fun e => ?_) (fun e => Dr.ite (fun f => ?_) (fun f => Dr.ite (fun g => ?_) (fun g => Dr.now ⟨by simp only; omega, b1, by simp only; omega, by simp only; omega⟩))))
  · refine (num_dr hs r3.2 _ (by omega) (by omega) hl (by simp) (by simp)).bind fun r4 h4 => Dr.pos h2.1 (Dr.pos i2 (Dr.now ?_))
    obtain ⟨h4, e4⟩ := h4
    simp only [List.mem_cons, List.not_mem_nil, or_false] at h4
    refine ⟨by simp; omega, insSmall_set b1 ?_, by simp only; omega, by simp only; omega⟩
    unfold insSmall; simp only; omega
  · refine (num_dr hs r3.2 _ (by omega) (by omega) hl (by simp) (by simp)).bind fun r4 h4 => Dr.pos h2.1 (Dr.pos i2 (Dr.now ?_))
    obtain ⟨h4, e4⟩ := h4
    simp only [List.mem_cons, List.not_mem_nil, or_false] at h4
    refine ⟨by simp; omega, insSmall_set b1 ?_, by simp only; omega, by simp only; omega⟩
    unfold insSmall; simp only; omega
  · refine (num_dr hs r3.2 _ (by omega) (by omega) hl (by simp) (by simp)).bind fun r4 h4 => Dr.pos h2.1 (Dr.pos i2 (Dr.now ?_))
    obtain ⟨h4, e4⟩ := h4
    simp only [List.mem_cons, List.not_mem_nil, or_false] at h4
    refine ⟨by simp; omega, insSmall_set b1 ?_, by simp only; omega, by simp only; omega⟩
    unfold insSmall; simp only; omega
  · exact (l2Bent_l0 (11 - r1.1.length) r1.1 r2.1 r3.2 (by omega) h2.1 i2 b1).mono fun v hv => ⟨hv.1, hv.2.1, by omega, by omega⟩

theorem DrawSerialFree_dr (l : List Int) (hl : bytesOk l) : Dr (fun k => spec_DrawSerialFree.f k l) (fun m => m.1.length ≤ 11 ∧ m.2.length ≤ 11) := by
  obtain ⟨s, hs, hb, hn⟩ := open_some l hl
  unfold spec_DrawSerialFree.f
  refine (Dr.of hs (R := fun r => r = (s, 0)) rfl).bind fun v hv => ?_
  subst hv
  refine (l2Bent_dr hb 0 (by omega) (by omega) (by omega)).bind fun r hr => ?_
  refine (l2Bent_dr hb r.2 (by omega) (by omega) (by omega)).bind fun q hq => Dr.now ⟨hr.1, hq.1⟩
theorem free_self (p : List S42) (h : progOk p) : freeP p p ↔ (putsOf p).length = 0 := by
  constructor
  · intro hf
    cases e : putsOf p with
    | nil => rfl
    | cons a r => exact absurd ⟨a, by simp [e], by simp [e]⟩ hf.2.2.1
  · intro h0
    have e : putsOf p = [] := List.eq_nil_of_length_eq_zero h0
    refine ⟨h, h, ?_, ?_, ?_⟩ <;> (rintro ⟨a, ha, hb⟩; simp [e] at ha hb)
theorem FnSerialFree : laws_FnSerialFree.Pure := by
  intro l _ _ hw
  refine Ev.rounds ?_
  unfold laws_FnSerialFree.f
  refine ev_ite (fun _ => ev_now _) (fun _ => ?_)
  obtain ⟨⟨p, q⟩, hd, hp, hq⟩ := DrawSerialFree_dr l (bytes_wf hw)
  simp only at hp hq
  obtain ⟨v, hv, hvi⟩ := spec_SerialFree_ev p q (by omega) (by omega)
  obtain ⟨u, hu, hui⟩ := impl_SerialFree_ev p q (by omega) (by omega)
  have huv : u = v := Bool.eq_iff_iff.2 (hui.trans hvi.symm)
  subst huv
  obtain ⟨a, ha, hai⟩ := spec_ProgOk_ev p (by omega)
  obtain ⟨b, hb, hbi⟩ := spec_ProgOk_ev q (by omega)
  have no : ¬ freeP p q → Ev (fun _ => some (!u)) true := by
    intro h
    have hu0 : u = false := by cases u with | false => rfl | true => exact absurd (hvi.1 rfl) h
    subst hu0
    exact ev_now _
  refine hd.bind (hu.bind (hv.bind (ev_neg (by simp) (ha.bind ?_))))
  by_cases h1 : a = true
  case neg => exact ev_neg h1 (no (fun h => h1 (hai.2 h.1)))
  refine ev_pos h1 (hb.bind ?_)
  by_cases h2 : b = true
  case neg => exact ev_neg h2 (no (fun h => h2 (hbi.2 h.2.1)))
  refine ev_pos h2 ?_
  have okp := hai.1 h1
  have okq := hbi.1 h2
  have p1 : Ev (fun k => impl_ProgPuts.f k p) (putsOf p) := impl_ProgPuts_ev p (by omega)
  have p2 : Ev (fun k => impl_ProgPuts.f k q) (putsOf q) := impl_ProgPuts_ev q (by omega)
  have n1 := putsOf_len p; have n2 := putsOf_len q
  refine p1.bind (p2.bind ?_)
  obtain ⟨w, hw2, hwi⟩ := impl_SerialFree_ev p p (by omega) (by omega)
  rw [free_self p okp] at hwi
  refine ev_loop (putsOf p).length (fun i k => laws_FnSerialFree.l0 k p u (putsOf p) (putsOf q) (i : Int)) (fun _ => true) (fun i hi ih => ?_) ?_ 0 (Nat.zero_le _)
  · refine Ev.step (fun k => by rw [laws_FnSerialFree.l0]) ?_
    refine ev_pos (lt_cast hi) ?_
    refine ev_loop (putsOf q).length (fun j k => laws_FnSerialFree.l1 k p u (putsOf p) (putsOf q) (i : Int) (j : Int)) (fun _ => true) (fun j hj jh => ?_) ?_ 0 (Nat.zero_le _)
    · refine Ev.step (fun k => by rw [laws_FnSerialFree.l1]) ?_
      refine ev_pos (lt_cast hj) (ev_pos (nn_cast i) (ev_pos (lt_cast hi) (ev_pos (nn_cast j) ?_)))
      rw [rd_i hi, rd_i hj, wrap_succ hj (by omega)]
      refine ev_ite (fun c => ev_neg (fun h => ?_) jh) (fun _ => jh)
      exact (hvi.1 h).2.2.1 ⟨_, List.getElem_mem hi, by rw [c]; exact List.getElem_mem hj⟩
    · refine Ev.step (fun k => by rw [laws_FnSerialFree.l1]) ?_
      refine ev_neg (by omega) ?_
      rw [wrap_succ hi (by omega)]
      exact ih
  · refine Ev.step (fun k => by rw [laws_FnSerialFree.l0]) ?_
    refine ev_neg (by omega) (hw2.bind (ev_pos ?_ ?_))
    · rw [beq_iff_eq, Bool.eq_iff_iff, hwi]
      simp
    · have hw3 : wrap64 (((putsOf p).length : Int) + ((putsOf q).length : Int)) = ((putsOf p).length : Int) + ((putsOf q).length : Int) := wrap_id (by omega) (by omega)
      rw [hw3]
      refine ev_ite (fun _ => ev_now _) (fun c => ?_)
      have e1 : putsOf p = [] := List.eq_nil_of_length_eq_zero (by omega)
      have e2 : putsOf q = [] := List.eq_nil_of_length_eq_zero (by omega)
      have hf : freeP p q := by
        refine ⟨okp, okq, ?_, ?_, ?_⟩ <;> (rintro ⟨a, ha, hb⟩; simp [e1, e2] at ha hb)
      have : u = true := hvi.2 hf
      rw [this]
      exact ev_now _

end Go.Proofs.Ytbocpmlppkdhmaa.Pure
