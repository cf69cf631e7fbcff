/- The pure law of FnExactCertOk: what the printed function of the law answers is true, for every input. Its condition: none but what the row says. -/
import Derived.Test.YtbocpmlppkdhmaaPFnExactCertOkx6
namespace Go.Proofs.Ytbocpmlppkdhmaa.Pure
open Go.RowKit Go.Proofs.Ytbocpmlppkdhmaa.PFnExactCertOk Go.Proofs.YtbocpmlppkdhmaaW.PrintWords Go.Proofs.YtbocpmlppkdhmaaW.PrintLast
set_option linter.unusedVariables false
set_option linter.unusedSimpArgs false
set_option linter.unusedSectionVars false

theorem wrap_succ {i n : Nat} (h : i < n) (hn : n ≤ 9223372036854775807) : wrap64 ((i : Int) + 1) = ((i + 1 : Nat) : Int) := by unfold wrap64; omega
theorem wrap_id {a : Int} (h0 : -9223372036854775808 ≤ a) (h1 : a ≤ 9223372036854775807) : wrap64 a = a := by unfold wrap64; omega
theorem ev_pos {α : Type} {c : Prop} [Decidable c] {f g : Nat → Option α} {r : α} (h : c) (e : Ev f r) : Ev (fun k => if c then f k else g k) r := by
  simp only [if_pos h]; exact e
theorem ev_neg {α : Type} {c : Prop} [Decidable c] {f g : Nat → Option α} {r : α} (h : ¬ c) (e : Ev g r) : Ev (fun k => if c then f k else g k) r := by
  simp only [if_neg h]; exact e
theorem ev_ite {α : Type} {c : Prop} [Decidable c] {f g : Nat → Option α} {r : α} (h1 : c → Ev f r) (h2 : ¬ c → Ev g r) : Ev (fun k => if c then f k else g k) r := by
  by_cases h : c
  · exact ev_pos h (h1 h)
  · exact ev_neg h (h2 h)
theorem ev_now {α : Type} (r : α) : Ev (fun _ => some r) r := Ev.now r
theorem ev_get {α β : Type} {g : Option α} {f : Nat → α → Option β} {a : α} {r : β} (h : g = some a) (k : Ev (fun n => f n a) r) : Ev (fun n => g.bind (f n)) r := by
  subst h; exact k
theorem ev_of_eq {α : Type} {g : Nat → Option α} {a : Option α} {r : α} (h : ∀ k, g k = a) (e : a = some r) : Ev g r := ⟨0, fun k _ => (h k).trans e⟩
/-- A loop over 0 .. n - 1: what it answers from i on. -/
theorem ev_loop {α : Type} (n : Nat) (F : Nat → Nat → Option α) (v : Nat → α) (step : ∀ i, i < n → Ev (F (i + 1)) (v (i + 1)) → Ev (F i) (v i)) (last : Ev (F n) (v n)) : ∀ i, i ≤ n → Ev (F i) (v i) := by
  have key : ∀ d i, i + d = n → Ev (F i) (v i) := by
    intro d
    induction d with
    | zero => intro i h; obtain rfl : i = n := by omega
              exact last
    | succ d ih => intro i h; exact step i (by omega) (ih (i + 1) (by omega))
  exact fun i hi => key (n - i) i (by omega)
theorem lt_cast {i n : Nat} (h : i < n) : (i : Int) < (n : Int) := Int.ofNat_lt.2 h
theorem nn_cast (i : Nat) : (0 : Int) ≤ (i : Int) := Int.natCast_nonneg i
theorem set_state {α : Type} (xs : List α) (z : α) (i : Nat) (h : i < xs.length) : (xs.take i ++ List.replicate (xs.length - i) z).set i xs[i] = xs.take (i + 1) ++ List.replicate (xs.length - (i + 1)) z := by
  rw [List.take_succ_eq_append_getElem h, List.append_assoc, List.set_append_right _ _ (by rw [List.length_take]; omega)]
  congr 1
  rw [List.length_take, Nat.min_eq_left (by omega), Nat.sub_self, show xs.length - i = (xs.length - (i + 1)) + 1 by omega, List.replicate_succ]
  rfl
theorem state_len {α : Type} (xs : List α) (z : α) (i : Nat) (h : i ≤ xs.length) : (xs.take i ++ List.replicate (xs.length - i) z).length = xs.length := by
  rw [List.length_append, List.length_take, List.length_replicate]; omega
theorem drop_eq {α : Type} {x y : List α} (hl : x.length = y.length) {i : Nat} (h : i < x.length) : (x.drop i = y.drop i) ↔ (x[i] = y[i]'(hl ▸ h) ∧ x.drop (i + 1) = y.drop (i + 1)) := by
  have h2 : i < y.length := hl ▸ h
  rw [List.drop_eq_getElem_cons h, List.drop_eq_getElem_cons h2, List.cons.injEq]
theorem mem_split {α : Type} {p : α → Prop} {l : List α} {i : Nat} (h : i < l.length) : (∀ b ∈ l.drop i, p b) ↔ p l[i] ∧ ∀ b ∈ l.drop (i + 1), p b := by
  rw [List.drop_eq_getElem_cons h]
  simp only [List.mem_cons, forall_eq_or_imp]
theorem ev_const {α : Type} {X : Option α} {r : α} (h : X = some r) : Ev (fun _ => X) r := ⟨0, fun _ _ => h⟩

theorem ext_Box {a b : S96} (h0 : a.f0 = b.f0) (h1 : a.f1 = b.f1) : a = b := by
  obtain ⟨a0_, a1_⟩ := a; obtain ⟨b0_, b1_⟩ := b; simp_all
theorem rdi_Box {l : List S96} {i : Nat} (h : i < l.length) : rd_T96 l (i : Int) = l[i] := by
  unfold rd_T96
  rw [Int.toNat_natCast, List.getD_eq_getElem?_getD, List.getElem?_eq_getElem h]
  rfl

theorem eqBox_some (a b : S96) : ∃ v, laws_eqBox.f a.f0 a.f1 b.f0 b.f1 = some v ∧ (v = true ↔ a = b) := by
  unfold laws_eqBox.f
  by_cases h0 : a.f0 = b.f0
  case neg => exact ⟨false, by simp [h0], by simp; intro h; exact h0 (by rw [h])⟩
  by_cases h1 : a.f1 = b.f1
  case neg => exact ⟨false, by simp [h0, h1], by simp; intro h; exact h1 (by rw [h])⟩
  exact ⟨true, by simp [h0, h1], by simp; exact ext_Box h0 h1⟩
theorem eqBoxS_ev (x y : List S96) (hn : x.length ≤ 9223372036854775807) : ∃ v, Ev (fun k => laws_eqBoxS.f k x y) v ∧ (v = true ↔ x = y) := by
  classical
  by_cases hl : x.length = y.length
  · have key := ev_loop x.length (fun i k => laws_eqBoxS.l0 k x y (i : Int)) (fun i => decide (x.drop i = y.drop i)) (fun i hi ih => by
      refine Ev.step (fun k => by rw [laws_eqBoxS.l0]) ?_
      refine ev_pos (lt_cast hi) (ev_pos (nn_cast i) (ev_pos (lt_cast (hl ▸ hi)) ?_))
      rw [rdi_Box hi, rdi_Box (hl ▸ hi), wrap_succ hi hn]
      obtain ⟨v, hv, hvi⟩ := eqBox_some x[i] (y[i]'(hl ▸ hi))
      refine ev_get hv ?_
      simp only [drop_eq hl hi]
      by_cases h1 : v = true
      · simp only [hvi.1 h1, true_and]
        exact ev_pos h1 ih
      · simp only [show ¬ (x[i] = y[i]'(hl ▸ hi)) from fun h => h1 (hvi.2 h), false_and, decide_false]
        exact ev_neg h1 (ev_now _)) (by
      refine Ev.step (fun k => by rw [laws_eqBoxS.l0]) ?_
      refine ev_neg (by omega) ?_
      rw [List.drop_length, hl, List.drop_length]
      simp only [decide_true]
      exact ev_now _) 0 (Nat.zero_le _)
    exact ⟨_, Ev.congr (fun k => by unfold laws_eqBoxS.f; exact if_pos (by omega)) key, by simp⟩
  · refine ⟨false, ?_, by simp; exact fun h => hl (by rw [h])⟩
    unfold laws_eqBoxS.f
    exact ev_neg (by omega) (ev_now _)

theorem ext_Done {a b : S104} (h0 : a.f0.f0 = b.f0.f0) (h1 : a.f0.f1 = b.f0.f1) (h2 : a.f1 = b.f1) (h3 : a.f2 = b.f2) : a = b := by
  obtain ⟨⟨a0_, a1_⟩, a2_, a3_⟩ := a; obtain ⟨⟨b0_, b1_⟩, b2_, b3_⟩ := b; simp_all
theorem rdi_Done {l : List S104} {i : Nat} (h : i < l.length) : rd_T104 l (i : Int) = l[i] := by
  unfold rd_T104
  rw [Int.toNat_natCast, List.getD_eq_getElem?_getD, List.getElem?_eq_getElem h]
  rfl

theorem eqDone_some (a b : S104) : ∃ v, laws_eqDone.f a.f0.f0 a.f0.f1 a.f1 a.f2 b.f0.f0 b.f0.f1 b.f1 b.f2 = some v ∧ (v = true ↔ a = b) := by
  unfold laws_eqDone.f laws_eqReq.f
  by_cases h0 : a.f0.f0 = b.f0.f0
  case neg => exact ⟨false, by simp [h0], by simp; intro h; exact h0 (by rw [h])⟩
  by_cases h1 : a.f0.f1 = b.f0.f1
  case neg => exact ⟨false, by simp [h0, h1], by simp; intro h; exact h1 (by rw [h])⟩
  by_cases h2 : a.f1 = b.f1
  case neg => exact ⟨false, by simp [h0, h1, h2], by simp; intro h; exact h2 (by rw [h])⟩
  by_cases h3 : a.f2 = b.f2
  case neg => exact ⟨false, by simp [h0, h1, h2, h3], by simp; intro h; exact h3 (by rw [h])⟩
  exact ⟨true, by simp [h0, h1, h2, h3], by simp; exact ext_Done h0 h1 h2 h3⟩
theorem eqDoneS_ev (x y : List S104) (hn : x.length ≤ 9223372036854775807) : ∃ v, Ev (fun k => laws_eqDoneS.f k x y) v ∧ (v = true ↔ x = y) := by
  classical
  by_cases hl : x.length = y.length
  · have key := ev_loop x.length (fun i k => laws_eqDoneS.l0 k x y (i : Int)) (fun i => decide (x.drop i = y.drop i)) (fun i hi ih => by
      refine Ev.step (fun k => by rw [laws_eqDoneS.l0]) ?_
      refine ev_pos (lt_cast hi) (ev_pos (nn_cast i) (ev_pos (lt_cast (hl ▸ hi)) ?_))
      rw [rdi_Done hi, rdi_Done (hl ▸ hi), wrap_succ hi hn]
      obtain ⟨v, hv, hvi⟩ := eqDone_some x[i] (y[i]'(hl ▸ hi))
      refine ev_get hv ?_
      simp only [drop_eq hl hi]
      by_cases h1 : v = true
      · simp only [hvi.1 h1, true_and]
        exact ev_pos h1 ih
      · simp only [show ¬ (x[i] = y[i]'(hl ▸ hi)) from fun h => h1 (hvi.2 h), false_and, decide_false]
        exact ev_neg h1 (ev_now _)) (by
      refine Ev.step (fun k => by rw [laws_eqDoneS.l0]) ?_
      refine ev_neg (by omega) ?_
      rw [List.drop_length, hl, List.drop_length]
      simp only [decide_true]
      exact ev_now _) 0 (Nat.zero_le _)
    exact ⟨_, Ev.congr (fun k => by unfold laws_eqDoneS.f; exact if_pos (by omega)) key, by simp⟩
  · refine ⟨false, ?_, by simp; exact fun h => hl (by rw [h])⟩
    unfold laws_eqDoneS.f
    exact ev_neg (by omega) (ev_now _)

theorem eqState_self (a : Int) (x : List S96) (y : List S104) (hn : x.length ≤ 9223372036854775807) (hm : y.length ≤ 9223372036854775807) : Ev (fun k => laws_eqState.f k a x y a x y) true := by
  unfold laws_eqState.f
  obtain ⟨u, hu, hui⟩ := eqBoxS_ev x x hn
  obtain ⟨v, hv, hvi⟩ := eqDoneS_ev y y hm
  obtain rfl := hui.2 rfl
  obtain rfl := hvi.2 rfl
  exact ev_pos rfl (hu.bind (ev_pos rfl (hv.bind (ev_pos rfl (ev_now _)))))

theorem szBoxS_some (l : List S132) (a : Int) (hn : l.length ≤ 9223372036854775807) (h0 : 0 ≤ a) (h1 : a ≤ 1048576) : laws_szBoxS.f l a = some (if a < l.length then -1 else a - l.length) := by
  unfold laws_szBoxS.f
  have hw : wrap64 (a - (l.length : Int)) = a - l.length := wrap_id (by omega) (by omega)
  rw [hw]
  by_cases h : a < l.length
  · rw [if_pos (by omega), if_pos h]
  · rw [if_neg (by omega), if_neg h]

theorem szDoneS_some (l : List S141) (a : Int) (hn : l.length ≤ 9223372036854775807) (h0 : 0 ≤ a) (h1 : a ≤ 1048576) : laws_szDoneS.f l a = some (if a < l.length then -1 else a - l.length) := by
  unfold laws_szDoneS.f
  have hw : wrap64 (a - (l.length : Int)) = a - l.length := wrap_id (by omega) (by omega)
  rw [hw]
  by_cases h : a < l.length
  · rw [if_pos (by omega), if_pos h]
  · rw [if_neg (by omega), if_neg h]

theorem rdl_Box {l : List S132} {i : Nat} (h : i < l.length) : rd_T132 l (i : Int) = l[i] := by
  unfold rd_T132
  rw [Int.toNat_natCast, List.getD_eq_getElem?_getD, List.getElem?_eq_getElem h]
  rfl

def toBox (x : S132) : S96 := ⟨x.f0, x.f1⟩
theorem toBoxS_ev (l : List S132) (hn : l.length ≤ 8796093022208) : Ev (fun k => laws_toBoxS.f k l) (l.map toBox) := by
  unfold laws_toBoxS.f
  refine ev_pos (nn_cast _) (ev_pos (by rw [Int.toNat_natCast]; omega) ?_)
  rw [Int.toNat_natCast]
  have hm : (l.map toBox).length = l.length := List.length_map _
  have key := ev_loop l.length (fun i k => laws_toBoxS.l0 k l ((l.map toBox).take i ++ List.replicate ((l.map toBox).length - i) z96) (i : Int)) (fun _ => l.map toBox) (fun i hi ih => by
      refine Ev.step (fun k => by rw [laws_toBoxS.l0]) ?_
      refine ev_pos (lt_cast hi) (ev_pos (nn_cast i) ?_)
      rw [rdl_Box hi, wrap_succ hi (by omega)]
      refine ev_get (a := ((l[i]).f0, (l[i]).f1)) rfl ?_
      refine ev_pos (by rw [state_len _ _ _ (by omega), hm]; exact lt_cast hi) ?_
      have hs := set_state (l.map toBox) z96 i (by rw [hm]; exact hi)
      rw [List.getElem_map] at hs
      rw [Int.toNat_natCast]
      simp only [toBox] at hs ⊢ ih
      rw [hs]
      exact ih) (by
      refine Ev.step (fun k => by rw [laws_toBoxS.l0]) ?_
      refine ev_neg (by omega) ?_
      rw [hm, Nat.sub_self, List.replicate_zero, List.append_nil, ← hm, List.take_length]
      exact ev_now _) 0 (Nat.zero_le _)
  simpa [hm] using key

theorem rdl_Done {l : List S141} {i : Nat} (h : i < l.length) : rd_T141 l (i : Int) = l[i] := by
  unfold rd_T141
  rw [Int.toNat_natCast, List.getD_eq_getElem?_getD, List.getElem?_eq_getElem h]
  rfl

def toDone (x : S141) : S104 := ⟨(⟨x.f0.f0, x.f0.f1⟩ : S67), x.f1, x.f2⟩
theorem toDoneS_ev (l : List S141) (hn : l.length ≤ 8796093022208) : Ev (fun k => laws_toDoneS.f k l) (l.map toDone) := by
  unfold laws_toDoneS.f
  refine ev_pos (nn_cast _) (ev_pos (by rw [Int.toNat_natCast]; omega) ?_)
  rw [Int.toNat_natCast]
  have hm : (l.map toDone).length = l.length := List.length_map _
  have key := ev_loop l.length (fun i k => laws_toDoneS.l0 k l ((l.map toDone).take i ++ List.replicate ((l.map toDone).length - i) z104) (i : Int)) (fun _ => l.map toDone) (fun i hi ih => by
      refine Ev.step (fun k => by rw [laws_toDoneS.l0]) ?_
      refine ev_pos (lt_cast hi) (ev_pos (nn_cast i) ?_)
      rw [rdl_Done hi, wrap_succ hi (by omega)]
      refine ev_get (a := ((l[i]).f0.f0, (l[i]).f0.f1, (l[i]).f1, (l[i]).f2)) rfl ?_
      refine ev_pos (by rw [state_len _ _ _ (by omega), hm]; exact lt_cast hi) ?_
      have hs := set_state (l.map toDone) z104 i (by rw [hm]; exact hi)
      rw [List.getElem_map] at hs
      rw [Int.toNat_natCast]
      simp only [toDone] at hs ⊢ ih
      rw [hs]
      exact ih) (by
      refine Ev.step (fun k => by rw [laws_toDoneS.l0]) ?_
      refine ev_neg (by omega) ?_
      rw [hm, Nat.sub_self, List.replicate_zero, List.append_nil, ← hm, List.take_length]
      exact ev_now _) 0 (Nat.zero_le _)
  simpa [hm] using key

theorem toState_ev (x : S33) (h0 : x.f1.length ≤ 1048576) (h1 : x.f2.length ≤ 1048576) : Ev (fun k => laws_toState.f k x.f0 x.f1 x.f2) (x.f0, x.f1.map toBox, x.f2.map toDone) := by
  unfold laws_toState.f
  exact (toBoxS_ev x.f1 (by omega)).bind ((toDoneS_ev x.f2 (by omega)).bind (ev_now _))
theorem szState_some (x : S33) (a : Int) (h0 : 0 ≤ a) (h1 : a ≤ 1048576) (hn : x.f1.length ≤ 9223372036854775807) (hm : x.f2.length ≤ 9223372036854775807) :
    ∃ v, laws_szState.f x.f0 x.f1 x.f2 a = some v ∧ (0 ≤ v → v ≤ a ∧ x.f1.length ≤ a ∧ x.f2.length ≤ a) := by
  unfold laws_szState.f
  rw [szBoxS_some x.f1 a hn h0 h1, Option.bind_some]
  by_cases h : a < x.f1.length
  · exact ⟨-1, by rw [if_pos h]; rfl, by omega⟩
  rw [if_neg h, if_neg (by omega), szDoneS_some x.f2 _ hm (by omega) (by omega), Option.bind_some]
  by_cases h2 : a - x.f1.length < x.f2.length
  · exact ⟨-1, by rw [if_pos h2]; rfl, by omega⟩
  rw [if_neg h2, if_neg (by omega)]
  exact ⟨_, rfl, by omega⟩

def reqIn (a b : Int) : Prop := (0 ≤ a ∧ a ≤ 2) ∧ (1 ≤ b ∧ b ≤ 1000)
instance (a b : Int) : Decidable (reqIn a b) := by unfold reqIn; infer_instance

/-- Boxes, as the document has them. -/
def boxIn (b : S96) : Prop := 0 ≤ b.f0 ∧ b.f0 ≤ 1000000 ∧ -1000000 ≤ b.f1 ∧ b.f1 ≤ 1000000
def boxOk (l : List S96) : Prop := l.length = 4 ∧ ∀ b ∈ l, boxIn b
theorem rd_box {l : List S96} {i : Nat} (h : i < l.length) : rd_T96 l (i : Int) = l[i] := by
  unfold rd_T96
  rw [Int.toNat_natCast, List.getD_eq_getElem?_getD, List.getElem?_eq_getElem h]
  rfl
theorem box_ext {a b : S96} (h0 : a.f0 = b.f0) (h1 : a.f1 = b.f1) : a = b := by
  cases a; cases b; simp_all
theorem boxIn_iff (b : S96) : boxIn b ↔ (0 ≤ b.f0 ∧ b.f0 ≤ 1000000) ∧ (-1000000 ≤ b.f1 ∧ b.f1 ≤ 1000000) := by
  unfold boxIn; omega

def dGood (d : S104) : Prop := reqIn d.f0.f0 d.f0.f1 ∧ (0 ≤ d.f1 ∧ d.f1 ≤ 2) ∧ (-1000000 ≤ d.f2 ∧ d.f2 ≤ 1000000) ∧ (d.f1 ≠ 0 → d.f2 = 0)
/-- From place i on: each is good, and its node stands behind the one ahead of it. -/
def donesFrom (l : List S104) (i : Nat) : Prop := ∀ j (h : j < l.length), i ≤ j → dGood l[j] ∧ ∀ (h0 : 0 < j), (l[j - 1]'(by omega)).f0.f0 < (l[j]).f0.f0
theorem donesFrom_step (l : List S104) {i : Nat} (h : i < l.length) : donesFrom l i ↔ (dGood l[i] ∧ ∀ (h0 : 0 < i), (l[i - 1]'(by omega)).f0.f0 < (l[i]).f0.f0) ∧ donesFrom l (i + 1) := by
  constructor
  · intro g
    exact ⟨g i h (Nat.le_refl _), fun j hj hij => g j hj (by omega)⟩
  · rintro ⟨a, b⟩ j hj hij
    by_cases e : j = i
    · subst e; exact a
    · exact b j hj (by omega)
theorem donesFrom_end (l : List S104) : donesFrom l l.length := fun j hj hij => absurd hij (by omega)
/-- A state that is right. -/
def stateOk (a : Int) (x : List S96) (y : List S104) : Prop := (0 ≤ a ∧ a ≤ 40) ∧ boxOk x ∧ donesFrom y 0

theorem l5Req_dec (a b : Int) : spec_l5Req.f a b = some (decide (reqIn a b)) := by
  unfold spec_l5Req.f
  repeat' split
  all_goals (congr 1; rw [Bool.eq_iff_iff]; simp only [decide_eq_true_eq, Bool.false_eq_true]; simp only [reqIn]; constructor <;> intro hh_ <;> first | exact hh_.elim | omega)

theorem l1Num_some (a : Int) : ∃ v, spec_l1Num.f a = some v ∧ (v = true ↔ -1000000 ≤ a ∧ a ≤ 1000000) := by
  unfold spec_l1Num.f
  by_cases h : a ≥ -1000000
  · exact ⟨decide (a ≤ 1000000), by simp [h], by simp; omega⟩
  · exact ⟨false, by simp [h], by simp; omega⟩
theorem spec_BoxOk_ev (l : List S96) (hn : l.length ≤ 9223372036854775807) : ∃ v, Ev (fun k => spec_BoxOk.f k l) v ∧ (v = true ↔ boxOk l) := by
  classical
  by_cases h4 : l.length = 4
  · have key := ev_loop l.length (fun i k => spec_BoxOk.l0 k l (i : Int)) (fun i => decide (∀ b ∈ l.drop i, boxIn b)) (fun i hi ih => by
      refine Ev.step (fun k => by rw [spec_BoxOk.l0]) ?_
      refine ev_pos (lt_cast hi) (ev_pos (nn_cast i) ?_)
      rw [rd_box hi, wrap_succ hi hn]
      obtain ⟨v, hv, hvi⟩ := l1Num_some (l[i]).f1
      have hs := mem_split (p := boxIn) hi
      by_cases h0 : (l[i]).f0 < 0
      · have : ¬ boxIn l[i] := by unfold boxIn; omega
        simp only [hs, this, false_and, decide_false]
        exact ev_pos h0 (ev_now _)
      refine ev_neg h0 ?_
      by_cases h1 : (l[i]).f0 > 1000000
      · have : ¬ boxIn l[i] := by unfold boxIn; omega
        simp only [hs, this, false_and, decide_false]
        exact ev_pos h1 (ev_now _)
      refine ev_neg h1 (ev_get hv ?_)
      by_cases h2 : v = true
      · have : boxIn l[i] := by have := hvi.1 h2; unfold boxIn; omega
        simp only [hs, this, true_and]
        exact ev_pos h2 ih
      · have : ¬ boxIn l[i] := fun h => h2 (hvi.2 (by unfold boxIn at h; omega))
        simp only [hs, this, false_and, decide_false]
        exact ev_neg h2 (ev_now _)) (by
      refine Ev.step (fun k => by rw [spec_BoxOk.l0]) ?_
      refine ev_neg (by omega) ?_
      simp only [List.drop_length, List.not_mem_nil, false_implies, implies_true, decide_true]
      exact ev_now _) 0 (Nat.zero_le _)
    exact ⟨_, Ev.congr (fun k => by unfold spec_BoxOk.f; exact if_pos (by omega)) key, by simp [boxOk, h4]⟩
  · refine ⟨false, ?_, by simp [boxOk, h4]⟩
    unfold spec_BoxOk.f
    exact ev_neg (by omega) (ev_now _)

theorem l1Num_dec (a : Int) : spec_l1Num.f a = some (decide (-1000000 ≤ a ∧ a ≤ 1000000)) := by
  unfold spec_l1Num.f
  by_cases h : a ≥ -1000000
  · rw [if_pos h]; congr 1; rw [Bool.eq_iff_iff]; simp; omega
  · rw [if_neg h]; congr 1; rw [Bool.eq_iff_iff]; simp; omega

theorem sCertOk_l0 (a : Int) (x : List S96) (y : List S104) (hm : y.length ≤ 9223372036854775807) : ∃ v, Ev (fun k => spec_CertOk.l0 k 0 a x y) v ∧ (v = true ↔ donesFrom y 0) := by
  classical
  have key := ev_loop y.length (fun i k => spec_CertOk.l0 k (i : Int) a x y) (fun i => decide (donesFrom y i)) (fun i hi ih => by
      refine Ev.step (fun k => by rw [spec_CertOk.l0]) ?_
      refine ev_pos (lt_cast hi) (ev_pos (nn_cast i) ?_)
      rw [rdi_Done hi]
      simp only [donesFrom_step y hi]
      have yes : ¬ (dGood y[i] ∧ ∀ (h0 : 0 < i), (y[i - 1]'(by omega)).f0.f0 < (y[i]).f0.f0) → Ev (fun k => spec_CertOk.j2 k (i : Int) true a x y) (decide ((dGood y[i] ∧ ∀ (h0 : 0 < i), (y[i - 1]'(by omega)).f0.f0 < (y[i]).f0.f0) ∧ donesFrom y (i + 1))) := by
        intro h
        simp only [h, false_and, decide_false]
        refine Ev.step (fun k => by rw [spec_CertOk.j2]) ?_
        exact ev_pos rfl (ev_now _)
      have no : (dGood y[i] ∧ ∀ (h0 : 0 < i), (y[i - 1]'(by omega)).f0.f0 < (y[i]).f0.f0) → Ev (fun k => spec_CertOk.j2 k (i : Int) false a x y) (decide ((dGood y[i] ∧ ∀ (h0 : 0 < i), (y[i - 1]'(by omega)).f0.f0 < (y[i]).f0.f0) ∧ donesFrom y (i + 1))) := by
        intro h
        have e : decide ((dGood y[i] ∧ ∀ (h0 : 0 < i), (y[i - 1]'(by omega)).f0.f0 < (y[i]).f0.f0) ∧ donesFrom y (i + 1)) = decide (donesFrom y (i + 1)) := by
          rw [decide_eq_decide]; exact ⟨fun g => g.2, fun g => ⟨h, g⟩⟩
        rw [e]
        refine Ev.step (fun k => by rw [spec_CertOk.j2]) ?_
        rw [wrap_succ hi hm]
        exact ev_neg (by simp) ih
      have last : dGood y[i] → Ev (fun k => if (i : Int) > 0 then (if 0 ≤ (wrap64 ((i : Int) - 1)) then (if (wrap64 ((i : Int) - 1)) < (y.length : Int) then (spec_CertOk.j2 k (i : Int) (decide ((y[i]).f0.f0 ≤ ((rd_T104 y (wrap64 ((i : Int) - 1))).f0.f0))) a x y) else (none)) else (none)) else (spec_CertOk.j2 k (i : Int) false a x y)) (decide ((dGood y[i] ∧ ∀ (h0 : 0 < i), (y[i - 1]'(by omega)).f0.f0 < (y[i]).f0.f0) ∧ donesFrom y (i + 1))) := by
        intro hg
        by_cases hi0 : 0 < i
        case neg => exact ev_neg (by omega) (no ⟨hg, fun h0 => absurd h0 hi0⟩)
        have hw : wrap64 ((i : Int) - 1) = ((i - 1 : Nat) : Int) := by rw [wrap_id (by omega) (by omega)]; omega
        have hi1 : i - 1 < y.length := by omega
        rw [hw, rdi_Done hi1]
        refine ev_pos (by omega) (ev_pos (nn_cast _) (ev_pos (lt_cast hi1) ?_))
        by_cases c : (y[i]).f0.f0 ≤ (y[i - 1]).f0.f0
        · simp only [c, decide_true]
          exact yes (fun h => absurd (h.2 hi0) (by omega))
        · simp only [c, decide_false]
          exact no ⟨hg, fun _ => by omega⟩
      refine ev_get (l5Req_dec _ _) ?_
      by_cases h1 : reqIn (y[i]).f0.f0 (y[i]).f0.f1
      case neg => exact ev_neg (by simpa using h1) (yes (fun h => h1 h.1.1))
      refine ev_pos (by simpa using h1) (ev_ite (fun c => yes (fun h => by have := h.1.2.1; omega)) (fun c1 => ev_ite (fun c => yes (fun h => by have := h.1.2.1; omega)) (fun c2 => ev_get (l1Num_dec _) ?_)))
      by_cases h2 : -1000000 ≤ (y[i]).f2 ∧ (y[i]).f2 ≤ 1000000
      case neg => exact ev_neg (by simpa using h2) (yes (fun h => h2 h.1.2.2.1))
      refine ev_pos (by simpa using h2) (ev_ite (fun c => last ⟨h1, by omega, h2, fun h => absurd c h⟩) (fun c3 => ev_ite (fun c => last ⟨h1, by omega, h2, fun _ => c⟩) (fun c => yes (fun h => c (h.1.2.2.2 c3)))))) (by
      refine Ev.step (fun k => by rw [spec_CertOk.l0]) ?_
      refine ev_neg (by omega) ?_
      simp only [donesFrom_end y, decide_true]
      exact ev_now _) 0 (Nat.zero_le _)
  exact ⟨_, key, by simp⟩
theorem spec_CertOk_ev (a : Int) (x : List S96) (y : List S104) (hn : x.length ≤ 9223372036854775807) (hm : y.length ≤ 9223372036854775807) : ∃ v, Ev (fun k => spec_CertOk.f k a x y) v ∧ (v = true ↔ stateOk a x y) := by
  obtain ⟨u, hu, hui⟩ := sCertOk_l0 a x y hm
  obtain ⟨w, hw, hwi⟩ := spec_BoxOk_ev x hn
  have yes : Ev (fun k => spec_CertOk.j0 k true a x y) false := by
    refine Ev.step (fun k => by rw [spec_CertOk.j0]) ?_
    exact ev_pos rfl (ev_now _)
  unfold spec_CertOk.f stateOk
  rw [← hui, ← hwi]
  by_cases h1 : a < 0
  · exact ⟨false, ev_pos h1 yes, by simp; omega⟩
  by_cases h2 : a > 40
  · exact ⟨false, ev_neg h1 (ev_pos h2 yes), by simp; omega⟩
  have h3 : 0 ≤ a ∧ a ≤ 40 := by omega
  cases w with
  | false => exact ⟨false, ev_neg h1 (ev_neg h2 (hw.bind yes)), by simp⟩
  | true =>
    refine ⟨u, ev_neg h1 (ev_neg h2 (hw.bind ?_)), by simp [h3]⟩
    refine Ev.step (fun k => by rw [spec_CertOk.j0]) ?_
    exact ev_neg (by simp) hu

theorem in_dec (a b c : Int) : impl_in.f a b c = some (decide (b ≤ a ∧ a ≤ c)) := by
  unfold impl_in.f
  by_cases h : a ≥ b
  · rw [if_pos h]; congr 1; rw [Bool.eq_iff_iff]; simp; omega
  · rw [if_neg h]; congr 1; rw [Bool.eq_iff_iff]; simp; omega

theorem reqOk_dec (a b : Int) : impl_reqOk.f a b = some (decide (reqIn a b)) := by
  unfold impl_reqOk.f
  simp only [in_dec, Option.bind_some, decide_eq_true_eq]
  repeat' split
  all_goals (congr 1; rw [Bool.eq_iff_iff]; simp only [decide_eq_true_eq, Bool.false_eq_true]; simp only [reqIn]; constructor <;> intro hh_ <;> first | exact hh_.elim | omega)

theorem in_some (a b c : Int) : ∃ v, impl_in.f a b c = some v ∧ (v = true ↔ b ≤ a ∧ a ≤ c) := by
  unfold impl_in.f
  by_cases h : a ≥ b
  · exact ⟨decide (a ≤ c), by simp [h], by simp; omega⟩
  · exact ⟨false, by simp [h], by simp; omega⟩
theorem impl_BoxOk_ev (l : List S96) (hn : l.length ≤ 9223372036854775807) : ∃ v, Ev (fun k => impl_BoxOk.f k l) v ∧ (v = true ↔ boxOk l) := by
  classical
  have key := ev_loop l.length (fun i k => impl_BoxOk.l0 k l l (l.length : Int) (i : Int)) (fun i => decide ((∀ b ∈ l.drop i, boxIn b) ∧ l.length = 4)) (fun i hi ih => by
      refine Ev.step (fun k => by rw [impl_BoxOk.l0]) ?_
      refine ev_pos (lt_cast hi) (ev_pos (nn_cast i) (ev_pos (lt_cast hi) ?_))
      rw [rd_box hi, wrap_succ hi hn]
      obtain ⟨v, hv, hvi⟩ := in_some (l[i]).f0 0 1000000
      obtain ⟨u, hu, hui⟩ := in_some (l[i]).f1 (-1000000) 1000000
      have hs := mem_split (p := boxIn) hi
      refine ev_get hv ?_
      by_cases h1 : v = true
      · refine ev_pos h1 (ev_get hu ?_)
        by_cases h2 : u = true
        · have : boxIn l[i] := by have := hvi.1 h1; have := hui.1 h2; unfold boxIn; omega
          simp only [hs, this, true_and]
          exact ev_pos h2 ih
        · have : ¬ boxIn l[i] := fun h => h2 (hui.2 (by unfold boxIn at h; omega))
          simp only [hs, this, false_and, decide_false]
          exact ev_neg h2 (ev_now _)
      · have : ¬ boxIn l[i] := fun h => h1 (hvi.2 (by unfold boxIn at h; omega))
        simp only [hs, this, false_and, decide_false]
        exact ev_neg h1 (ev_now _)) (by
      refine Ev.step (fun k => by rw [impl_BoxOk.l0]) ?_
      refine ev_neg (by omega) ?_
      have : ((l.length : Int) == 4) = decide ((∀ b ∈ l.drop l.length, boxIn b) ∧ l.length = 4) := by
        rw [List.drop_length]
        by_cases h : l.length = 4
        · simp [h]
        · have : (l.length : Int) ≠ 4 := by omega
          simp [h, this]
      rw [← this]
      exact ev_now _) 0 (Nat.zero_le _)
  exact ⟨_, Ev.congr (fun k => by unfold impl_BoxOk.f; exact rfl) key, by simp [boxOk, and_comm]⟩

theorem impl_CertOk_ev (a : Int) (x : List S96) (y : List S104) (hn : x.length ≤ 9223372036854775807) (hm : y.length ≤ 9223372036854775807) : ∃ v, Ev (fun k => impl_CertOk.f k a x y) v ∧ (v = true ↔ stateOk a x y) := by
  classical
  obtain ⟨w, hw, hwi⟩ := impl_BoxOk_ev x hn
  have key := ev_loop y.length (fun i k => impl_CertOk.l0 k y (y.length : Int) (i : Int) a x y) (fun i => decide ((0 ≤ a ∧ a ≤ 40) ∧ boxOk x ∧ donesFrom y i)) (fun i hi ih => by
      refine Ev.step (fun k => by rw [impl_CertOk.l0]) ?_
      refine ev_pos (lt_cast hi) (ev_pos (nn_cast i) (ev_pos (lt_cast hi) ?_))
      rw [rdi_Done hi]
      simp only [donesFrom_step y hi]
      have yes : ¬ (dGood y[i] ∧ ∀ (h0 : 0 < i), (y[i - 1]'(by omega)).f0.f0 < (y[i]).f0.f0) → Ev (fun k => impl_CertOk.j1 k y (y.length : Int) (i : Int) true a x y) (decide ((0 ≤ a ∧ a ≤ 40) ∧ boxOk x ∧ (dGood y[i] ∧ ∀ (h0 : 0 < i), (y[i - 1]'(by omega)).f0.f0 < (y[i]).f0.f0) ∧ donesFrom y (i + 1))) := by
        intro h
        simp only [h, false_and, and_false, decide_false]
        refine Ev.step (fun k => by rw [impl_CertOk.j1]) ?_
        exact ev_pos rfl (ev_now _)
      have no : (dGood y[i] ∧ ∀ (h0 : 0 < i), (y[i - 1]'(by omega)).f0.f0 < (y[i]).f0.f0) → Ev (fun k => impl_CertOk.j1 k y (y.length : Int) (i : Int) false a x y) (decide ((0 ≤ a ∧ a ≤ 40) ∧ boxOk x ∧ (dGood y[i] ∧ ∀ (h0 : 0 < i), (y[i - 1]'(by omega)).f0.f0 < (y[i]).f0.f0) ∧ donesFrom y (i + 1))) := by
        intro h
        have e : decide ((0 ≤ a ∧ a ≤ 40) ∧ boxOk x ∧ (dGood y[i] ∧ ∀ (h0 : 0 < i), (y[i - 1]'(by omega)).f0.f0 < (y[i]).f0.f0) ∧ donesFrom y (i + 1)) = decide ((0 ≤ a ∧ a ≤ 40) ∧ boxOk x ∧ donesFrom y (i + 1)) := by
          rw [decide_eq_decide]; exact ⟨fun g => ⟨g.1, g.2.1, g.2.2.2⟩, fun g => ⟨g.1, g.2.1, h, g.2.2⟩⟩
        rw [e]
        refine Ev.step (fun k => by rw [impl_CertOk.j1]) ?_
        rw [wrap_succ hi hm]
        exact ev_neg (by simp) ih
      have tail : (∀ (h0 : 0 < i), (y[i - 1]'(by omega)).f0.f0 < (y[i]).f0.f0) → Ev (fun k => (impl_reqOk.f ((y[i]).f0.f0) ((y[i]).f0.f1)).bind fun t181 => (if t181 = true then ((impl_in.f ((y[i]).f1) 0 2).bind fun t182 => (if t182 = true then ((impl_in.f ((y[i]).f2) (-1000000) 1000000).bind fun t183 => (if t183 = true then (if ((y[i]).f1) = 0 then (impl_CertOk.j1 k y (y.length : Int) (i : Int) false a x y) else (impl_CertOk.j1 k y (y.length : Int) (i : Int) (((y[i]).f2) != 0) a x y)) else (impl_CertOk.j1 k y (y.length : Int) (i : Int) true a x y))) else (impl_CertOk.j1 k y (y.length : Int) (i : Int) true a x y))) else (impl_CertOk.j1 k y (y.length : Int) (i : Int) true a x y))) (decide ((0 ≤ a ∧ a ≤ 40) ∧ boxOk x ∧ (dGood y[i] ∧ ∀ (h0 : 0 < i), (y[i - 1]'(by omega)).f0.f0 < (y[i]).f0.f0) ∧ donesFrom y (i + 1))) := by
        intro hlt
        refine ev_get (reqOk_dec _ _) ?_
        by_cases h1 : reqIn (y[i]).f0.f0 (y[i]).f0.f1
        case neg => exact ev_neg (by simpa using h1) (yes (fun h => h1 h.1.1))
        refine ev_pos (by simpa using h1) (ev_get (in_dec _ _ _) ?_)
        by_cases h2 : 0 ≤ (y[i]).f1 ∧ (y[i]).f1 ≤ 2
        case neg => exact ev_neg (by simpa using h2) (yes (fun h => h2 h.1.2.1))
        refine ev_pos (by simpa using h2) (ev_get (in_dec _ _ _) ?_)
        by_cases h3 : -1000000 ≤ (y[i]).f2 ∧ (y[i]).f2 ≤ 1000000
        case neg => exact ev_neg (by simpa using h3) (yes (fun h => h3 h.1.2.2.1))
        refine ev_pos (by simpa using h3) (ev_ite (fun c => no ⟨⟨h1, h2, h3, fun h => absurd c h⟩, hlt⟩) (fun c => ?_))
        by_cases c2 : (y[i]).f2 = 0
        · have e : ((y[i]).f2 != 0) = false := by simp [c2]
          rw [e]
          exact no ⟨⟨h1, h2, h3, fun _ => c2⟩, hlt⟩
        · have e : ((y[i]).f2 != 0) = true := by simp [c2]
          rw [e]
          exact yes (fun h => c2 (h.1.2.2.2 c))
      by_cases hi0 : 0 < i
      case neg => exact ev_neg (by omega) (tail (fun h0 => absurd h0 hi0))
      have hw : wrap64 ((i : Int) - 1) = ((i - 1 : Nat) : Int) := by rw [wrap_id (by omega) (by omega)]; omega
      have hi1 : i - 1 < y.length := by omega
      rw [hw, rdi_Done hi1]
      refine ev_pos (by omega) (ev_pos (nn_cast _) (ev_pos (lt_cast hi1) ?_))
      by_cases c : (y[i - 1]).f0.f0 ≥ (y[i]).f0.f0
      · exact ev_pos c (yes (fun h => absurd (h.2 hi0) (by omega)))
      · exact ev_neg c (tail (fun _ => by omega))) (by
      refine Ev.step (fun k => by rw [impl_CertOk.l0]) ?_
      refine ev_neg (by omega) (ev_get (in_dec _ _ _) ?_)
      simp only [donesFrom_end y, and_true]
      by_cases h1 : 0 ≤ a ∧ a ≤ 40
      case neg =>
        simp only [h1, false_and, decide_false]
        exact ev_neg (by simp) (ev_now _)
      simp only [h1, and_self, true_and, decide_true]
      refine ev_pos trivial (hw.bind ?_)
      rw [show decide (boxOk x) = w from Bool.eq_iff_iff.2 (by rw [hwi]; simp)]
      exact ev_now _) 0 (Nat.zero_le _)
  refine ⟨decide ((0 ≤ a ∧ a ≤ 40) ∧ boxOk x ∧ donesFrom y 0), ?_, ?_⟩
  · unfold impl_CertOk.f
    exact key
  · unfold stateOk
    exact decide_eq_true_iff

theorem FnExactCertOk : laws_FnExactCertOk.Pure := by
  intro x hx
  refine Ev.rounds ?_
  unfold laws_FnExactCertOk.f
  obtain ⟨s, hs, hsi⟩ := szState_some x 1048576 (by omega) (by omega) hx.2.1.1 hx.2.2.1
  refine ev_get hs (ev_ite (fun _ => ev_now _) (fun h0 => ?_))
  obtain ⟨s1, s2, s3⟩ := hsi (by omega)
  have hto := toState_ev x (by omega) (by omega)
  obtain ⟨v, hv, hvi⟩ := spec_CertOk_ev x.f0 (x.f1.map toBox) (x.f2.map toDone) (by simp; omega) (by simp; omega)
  obtain ⟨u, hu, hui⟩ := impl_CertOk_ev x.f0 (x.f1.map toBox) (x.f2.map toDone) (by simp; omega) (by simp; omega)
  have huv : u = v := Bool.eq_iff_iff.2 (hui.trans hvi.symm)
  subst huv
  have he := eqState_self x.f0 (x.f1.map toBox) (x.f2.map toDone) (by simp; omega) (by simp; omega)
  refine hto.bind (hv.bind (hto.bind (hu.bind ?_)))
  refine ev_neg (by simp) (hto.bind (he.bind ?_))
  exact ev_pos rfl (ev_now _)

end Go.Proofs.Ytbocpmlppkdhmaa.Pure
