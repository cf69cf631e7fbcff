/- The pure law of FnExactCertSame: what the printed function of the law answers is true, for every input. Its condition: none but what the row says. -/
import Derived.Test.YtbocpmlppkdhmaaPFnExactCertSamex6
namespace Go.Proofs.Ytbocpmlppkdhmaa.Pure
open Go.RowKit Go.Proofs.Ytbocpmlppkdhmaa.PFnExactCertSame Go.Proofs.YtbocpmlppkdhmaaW.PrintWords Go.Proofs.YtbocpmlppkdhmaaW.PrintLast
set_option linter.unusedVariables false
set_option linter.unusedSimpArgs false
set_option linter.unusedSectionVars false

theorem wrap_succ {i n : Nat} (h : i < n) (hn : n ≤ 9223372036854775807) : wrap64 ((i : Int) + 1) = ((i + 1 : Nat) : Int) := by unfold wrap64; omega
theorem wrap_id {a : Int} (h0 : -9223372036854775808 ≤ a) (h1 : a ≤ 9223372036854775807) : wrap64 a = a := by unfold wrap64; omega
theorem ev_pos {α : Type} {c : Prop} [Decidable c] {f g : Nat → Option α} {r : α} (h : c) (e : Ev f r) : Ev (fun k => if c then f k else g k) r := by
  simp only [if_pos h]; exact e
theorem ev_neg {α : Type} {c : Prop} [Decidable c] {f g : Nat → Option α} {r : α} (h : ¬ c) (e : Ev g r) : Ev (fun k => if c then f k else g k) r := by
  simp only [if_neg h]; exact e
theorem ev_ite {α : Type} {c : Prop} [Decidable c] {f g : Nat → Option α} {r : α} (h1 : c → Ev f r) (h2 : ¬ c → Ev g r) : Ev (fun k => if c then f k else g k) r := by
  by_cases h : c
  · exact ev_pos h (h1 h)
  · exact ev_neg h (h2 h)
theorem ev_now {α : Type} (r : α) : Ev (fun _ => some r) r := Ev.now r
theorem ev_get {α β : Type} {g : Option α} {f : Nat → α → Option β} {a : α} {r : β} (h : g = some a) (k : Ev (fun n => f n a) r) : Ev (fun n => g.bind (f n)) r := by
  subst h; exact k
theorem ev_of_eq {α : Type} {g : Nat → Option α} {a : Option α} {r : α} (h : ∀ k, g k = a) (e : a = some r) : Ev g r := ⟨0, fun k _ => (h k).trans e⟩
/-- A loop over 0 .. n - 1: what it answers from i on. -/
theorem ev_loop {α : Type} (n : Nat) (F : Nat → Nat → Option α) (v : Nat → α) (step : ∀ i, i < n → Ev (F (i + 1)) (v (i + 1)) → Ev (F i) (v i)) (last : Ev (F n) (v n)) : ∀ i, i ≤ n → Ev (F i) (v i) := by
  have key : ∀ d i, i + d = n → Ev (F i) (v i) := by
    intro d
    induction d with
    | zero => intro i h; obtain rfl : i = n := by omega
              exact last
    | succ d ih => intro i h; exact step i (by omega) (ih (i + 1) (by omega))
  exact fun i hi => key (n - i) i (by omega)
theorem lt_cast {i n : Nat} (h : i < n) : (i : Int) < (n : Int) := Int.ofNat_lt.2 h
theorem nn_cast (i : Nat) : (0 : Int) ≤ (i : Int) := Int.natCast_nonneg i
theorem set_state {α : Type} (xs : List α) (z : α) (i : Nat) (h : i < xs.length) : (xs.take i ++ List.replicate (xs.length - i) z).set i xs[i] = xs.take (i + 1) ++ List.replicate (xs.length - (i + 1)) z := by
  rw [List.take_succ_eq_append_getElem h, List.append_assoc, List.set_append_right _ _ (by rw [List.length_take]; omega)]
  congr 1
  rw [List.length_take, Nat.min_eq_left (by omega), Nat.sub_self, show xs.length - i = (xs.length - (i + 1)) + 1 by omega, List.replicate_succ]
  rfl
theorem state_len {α : Type} (xs : List α) (z : α) (i : Nat) (h : i ≤ xs.length) : (xs.take i ++ List.replicate (xs.length - i) z).length = xs.length := by
  rw [List.length_append, List.length_take, List.length_replicate]; omega
theorem drop_eq {α : Type} {x y : List α} (hl : x.length = y.length) {i : Nat} (h : i < x.length) : (x.drop i = y.drop i) ↔ (x[i] = y[i]'(hl ▸ h) ∧ x.drop (i + 1) = y.drop (i + 1)) := by
  have h2 : i < y.length := hl ▸ h
  rw [List.drop_eq_getElem_cons h, List.drop_eq_getElem_cons h2, List.cons.injEq]
theorem mem_split {α : Type} {p : α → Prop} {l : List α} {i : Nat} (h : i < l.length) : (∀ b ∈ l.drop i, p b) ↔ p l[i] ∧ ∀ b ∈ l.drop (i + 1), p b := by
  rw [List.drop_eq_getElem_cons h]
  simp only [List.mem_cons, forall_eq_or_imp]

theorem ext_Box {a b : S96} (h0 : a.f0 = b.f0) (h1 : a.f1 = b.f1) : a = b := by
  obtain ⟨a0_, a1_⟩ := a; obtain ⟨b0_, b1_⟩ := b; simp_all
theorem rdi_Box {l : List S96} {i : Nat} (h : i < l.length) : rd_T96 l (i : Int) = l[i] := by
  unfold rd_T96
  rw [Int.toNat_natCast, List.getD_eq_getElem?_getD, List.getElem?_eq_getElem h]
  rfl

theorem eqBox_some (a b : S96) : ∃ v, laws_eqBox.f a.f0 a.f1 b.f0 b.f1 = some v ∧ (v = true ↔ a = b) := by
  unfold laws_eqBox.f
  by_cases h0 : a.f0 = b.f0
  case neg => exact ⟨false, by simp [h0], by simp; intro h; exact h0 (by rw [h])⟩
  by_cases h1 : a.f1 = b.f1
  case neg => exact ⟨false, by simp [h0, h1], by simp; intro h; exact h1 (by rw [h])⟩
  exact ⟨true, by simp [h0, h1], by simp; exact ext_Box h0 h1⟩
theorem eqBoxS_ev (x y : List S96) (hn : x.length ≤ 9223372036854775807) : ∃ v, Ev (fun k => laws_eqBoxS.f k x y) v ∧ (v = true ↔ x = y) := by
  classical
  by_cases hl : x.length = y.length
  · have key := ev_loop x.length (fun i k => laws_eqBoxS.l0 k x y (i : Int)) (fun i => decide (x.drop i = y.drop i)) (fun i hi ih => by
      refine Ev.step (fun k => by rw [laws_eqBoxS.l0]) ?_
      refine ev_pos (lt_cast hi) (ev_pos (nn_cast i) (ev_pos (lt_cast (hl ▸ hi)) ?_))
      rw [rdi_Box hi, rdi_Box (hl ▸ hi), wrap_succ hi hn]
      obtain ⟨v, hv, hvi⟩ := eqBox_some x[i] (y[i]'(hl ▸ hi))
      refine ev_get hv ?_
      simp only [drop_eq hl hi]
      by_cases h1 : v = true
      · simp only [hvi.1 h1, true_and]
        exact ev_pos h1 ih
      · simp only [show ¬ (x[i] = y[i]'(hl ▸ hi)) from fun h => h1 (hvi.2 h), false_and, decide_false]
        exact ev_neg h1 (ev_now _)) (by
      refine Ev.step (fun k => by rw [laws_eqBoxS.l0]) ?_
      refine ev_neg (by omega) ?_
      rw [List.drop_length, hl, List.drop_length]
      simp only [decide_true]
      exact ev_now _) 0 (Nat.zero_le _)
    exact ⟨_, Ev.congr (fun k => by unfold laws_eqBoxS.f; exact if_pos (by omega)) key, by simp⟩
  · refine ⟨false, ?_, by simp; exact fun h => hl (by rw [h])⟩
    unfold laws_eqBoxS.f
    exact ev_neg (by omega) (ev_now _)

theorem ext_Done {a b : S104} (h0 : a.f0.f0 = b.f0.f0) (h1 : a.f0.f1 = b.f0.f1) (h2 : a.f1 = b.f1) (h3 : a.f2 = b.f2) : a = b := by
  obtain ⟨⟨a0_, a1_⟩, a2_, a3_⟩ := a; obtain ⟨⟨b0_, b1_⟩, b2_, b3_⟩ := b; simp_all
theorem rdi_Done {l : List S104} {i : Nat} (h : i < l.length) : rd_T104 l (i : Int) = l[i] := by
  unfold rd_T104
  rw [Int.toNat_natCast, List.getD_eq_getElem?_getD, List.getElem?_eq_getElem h]
  rfl

theorem eqDone_some (a b : S104) : ∃ v, laws_eqDone.f a.f0.f0 a.f0.f1 a.f1 a.f2 b.f0.f0 b.f0.f1 b.f1 b.f2 = some v ∧ (v = true ↔ a = b) := by
  unfold laws_eqDone.f laws_eqReq.f
  by_cases h0 : a.f0.f0 = b.f0.f0
  case neg => exact ⟨false, by simp [h0], by simp; intro h; exact h0 (by rw [h])⟩
  by_cases h1 : a.f0.f1 = b.f0.f1
  case neg => exact ⟨false, by simp [h0, h1], by simp; intro h; exact h1 (by rw [h])⟩
  by_cases h2 : a.f1 = b.f1
  case neg => exact ⟨false, by simp [h0, h1, h2], by simp; intro h; exact h2 (by rw [h])⟩
  by_cases h3 : a.f2 = b.f2
  case neg => exact ⟨false, by simp [h0, h1, h2, h3], by simp; intro h; exact h3 (by rw [h])⟩
  exact ⟨true, by simp [h0, h1, h2, h3], by simp; exact ext_Done h0 h1 h2 h3⟩
theorem eqDoneS_ev (x y : List S104) (hn : x.length ≤ 9223372036854775807) : ∃ v, Ev (fun k => laws_eqDoneS.f k x y) v ∧ (v = true ↔ x = y) := by
  classical
  by_cases hl : x.length = y.length
  · have key := ev_loop x.length (fun i k => laws_eqDoneS.l0 k x y (i : Int)) (fun i => decide (x.drop i = y.drop i)) (fun i hi ih => by
      refine Ev.step (fun k => by rw [laws_eqDoneS.l0]) ?_
      refine ev_pos (lt_cast hi) (ev_pos (nn_cast i) (ev_pos (lt_cast (hl ▸ hi)) ?_))
      rw [rdi_Done hi, rdi_Done (hl ▸ hi), wrap_succ hi hn]
      obtain ⟨v, hv, hvi⟩ := eqDone_some x[i] (y[i]'(hl ▸ hi))
      refine ev_get hv ?_
      simp only [drop_eq hl hi]
      by_cases h1 : v = true
      · simp only [hvi.1 h1, true_and]
        exact ev_pos h1 ih
      · simp only [show ¬ (x[i] = y[i]'(hl ▸ hi)) from fun h => h1 (hvi.2 h), false_and, decide_false]
        exact ev_neg h1 (ev_now _)) (by
      refine Ev.step (fun k => by rw [laws_eqDoneS.l0]) ?_
      refine ev_neg (by omega) ?_
      rw [List.drop_length, hl, List.drop_length]
      simp only [decide_true]
      exact ev_now _) 0 (Nat.zero_le _)
    exact ⟨_, Ev.congr (fun k => by unfold laws_eqDoneS.f; exact if_pos (by omega)) key, by simp⟩
  · refine ⟨false, ?_, by simp; exact fun h => hl (by rw [h])⟩
    unfold laws_eqDoneS.f
    exact ev_neg (by omega) (ev_now _)

theorem eqState_self (a : Int) (x : List S96) (y : List S104) (hn : x.length ≤ 9223372036854775807) (hm : y.length ≤ 9223372036854775807) : Ev (fun k => laws_eqState.f k a x y a x y) true := by
  unfold laws_eqState.f
  obtain ⟨u, hu, hui⟩ := eqBoxS_ev x x hn
  obtain ⟨v, hv, hvi⟩ := eqDoneS_ev y y hm
  obtain rfl := hui.2 rfl
  obtain rfl := hvi.2 rfl
  exact ev_pos rfl (hu.bind (ev_pos rfl (hv.bind (ev_pos rfl (ev_now _)))))

theorem szBoxS_some (l : List S132) (a : Int) (hn : l.length ≤ 9223372036854775807) (h0 : 0 ≤ a) (h1 : a ≤ 1048576) : laws_szBoxS.f l a = some (if a < l.length then -1 else a - l.length) := by
  unfold laws_szBoxS.f
  have hw : wrap64 (a - (l.length : Int)) = a - l.length := wrap_id (by omega) (by omega)
  rw [hw]
  by_cases h : a < l.length
  · rw [if_pos (by omega), if_pos h]
  · rw [if_neg (by omega), if_neg h]

theorem szDoneS_some (l : List S141) (a : Int) (hn : l.length ≤ 9223372036854775807) (h0 : 0 ≤ a) (h1 : a ≤ 1048576) : laws_szDoneS.f l a = some (if a < l.length then -1 else a - l.length) := by
  unfold laws_szDoneS.f
  have hw : wrap64 (a - (l.length : Int)) = a - l.length := wrap_id (by omega) (by omega)
  rw [hw]
  by_cases h : a < l.length
  · rw [if_pos (by omega), if_pos h]
  · rw [if_neg (by omega), if_neg h]

theorem rdl_Box {l : List S132} {i : Nat} (h : i < l.length) : rd_T132 l (i : Int) = l[i] := by
  unfold rd_T132
  rw [Int.toNat_natCast, List.getD_eq_getElem?_getD, List.getElem?_eq_getElem h]
  rfl

def toBox (x : S132) : S96 := ⟨x.f0, x.f1⟩
theorem toBoxS_ev (l : List S132) (hn : l.length ≤ 8796093022208) : Ev (fun k => laws_toBoxS.f k l) (l.map toBox) := by
  unfold laws_toBoxS.f
  refine ev_pos (nn_cast _) (ev_pos (by rw [Int.toNat_natCast]; omega) ?_)
  rw [Int.toNat_natCast]
  have hm : (l.map toBox).length = l.length := List.length_map _
  have key := ev_loop l.length (fun i k => laws_toBoxS.l0 k l ((l.map toBox).take i ++ List.replicate ((l.map toBox).length - i) z96) (i : Int)) (fun _ => l.map toBox) (fun i hi ih => by
      refine Ev.step (fun k => by rw [laws_toBoxS.l0]) ?_
      refine ev_pos (lt_cast hi) (ev_pos (nn_cast i) ?_)
      rw [rdl_Box hi, wrap_succ hi (by omega)]
      refine ev_get (a := ((l[i]).f0, (l[i]).f1)) rfl ?_
      refine ev_pos (by rw [state_len _ _ _ (by omega), hm]; exact lt_cast hi) ?_
      have hs := set_state (l.map toBox) z96 i (by rw [hm]; exact hi)
      rw [List.getElem_map] at hs
      rw [Int.toNat_natCast]
      simp only [toBox] at hs ⊢ ih
      rw [hs]
      exact ih) (by
      refine Ev.step (fun k => by rw [laws_toBoxS.l0]) ?_
      refine ev_neg (by omega) ?_
      rw [hm, Nat.sub_self, List.replicate_zero, List.append_nil, ← hm, List.take_length]
      exact ev_now _) 0 (Nat.zero_le _)
  simpa [hm] using key

theorem rdl_Done {l : List S141} {i : Nat} (h : i < l.length) : rd_T141 l (i : Int) = l[i] := by
  unfold rd_T141
  rw [Int.toNat_natCast, List.getD_eq_getElem?_getD, List.getElem?_eq_getElem h]
  rfl

def toDone (x : S141) : S104 := ⟨(⟨x.f0.f0, x.f0.f1⟩ : S67), x.f1, x.f2⟩
theorem toDoneS_ev (l : List S141) (hn : l.length ≤ 8796093022208) : Ev (fun k => laws_toDoneS.f k l) (l.map toDone) := by
  unfold laws_toDoneS.f
  refine ev_pos (nn_cast _) (ev_pos (by rw [Int.toNat_natCast]; omega) ?_)
  rw [Int.toNat_natCast]
  have hm : (l.map toDone).length = l.length := List.length_map _
  have key := ev_loop l.length (fun i k => laws_toDoneS.l0 k l ((l.map toDone).take i ++ List.replicate ((l.map toDone).length - i) z104) (i : Int)) (fun _ => l.map toDone) (fun i hi ih => by
      refine Ev.step (fun k => by rw [laws_toDoneS.l0]) ?_
      refine ev_pos (lt_cast hi) (ev_pos (nn_cast i) ?_)
      rw [rdl_Done hi, wrap_succ hi (by omega)]
      refine ev_get (a := ((l[i]).f0.f0, (l[i]).f0.f1, (l[i]).f1, (l[i]).f2)) rfl ?_
      refine ev_pos (by rw [state_len _ _ _ (by omega), hm]; exact lt_cast hi) ?_
      have hs := set_state (l.map toDone) z104 i (by rw [hm]; exact hi)
      rw [List.getElem_map] at hs
      rw [Int.toNat_natCast]
      simp only [toDone] at hs ⊢ ih
      rw [hs]
      exact ih) (by
      refine Ev.step (fun k => by rw [laws_toDoneS.l0]) ?_
      refine ev_neg (by omega) ?_
      rw [hm, Nat.sub_self, List.replicate_zero, List.append_nil, ← hm, List.take_length]
      exact ev_now _) 0 (Nat.zero_le _)
  simpa [hm] using key

theorem toState_ev (x : S33) (h0 : x.f1.length ≤ 1048576) (h1 : x.f2.length ≤ 1048576) : Ev (fun k => laws_toState.f k x.f0 x.f1 x.f2) (x.f0, x.f1.map toBox, x.f2.map toDone) := by
  unfold laws_toState.f
  exact (toBoxS_ev x.f1 (by omega)).bind ((toDoneS_ev x.f2 (by omega)).bind (ev_now _))
theorem szState_some (x : S33) (a : Int) (h0 : 0 ≤ a) (h1 : a ≤ 1048576) (hn : x.f1.length ≤ 9223372036854775807) (hm : x.f2.length ≤ 9223372036854775807) :
    ∃ v, laws_szState.f x.f0 x.f1 x.f2 a = some v ∧ (0 ≤ v → v ≤ a ∧ x.f1.length ≤ a ∧ x.f2.length ≤ a) := by
  unfold laws_szState.f
  rw [szBoxS_some x.f1 a hn h0 h1, Option.bind_some]
  by_cases h : a < x.f1.length
  · exact ⟨-1, by rw [if_pos h]; rfl, by omega⟩
  rw [if_neg h, if_neg (by omega), szDoneS_some x.f2 _ hm (by omega) (by omega), Option.bind_some]
  by_cases h2 : a - x.f1.length < x.f2.length
  · exact ⟨-1, by rw [if_pos h2]; rfl, by omega⟩
  rw [if_neg h2, if_neg (by omega)]
  exact ⟨_, rfl, by omega⟩

theorem sameBox_ev (x y : List S96) (hn : x.length ≤ 9223372036854775807) : ∃ v, Ev (fun k => impl_same_impl_Box.f k x y) v ∧ (v = true ↔ x = y) := by
  classical
  by_cases hl : x.length = y.length
  · have key := ev_loop x.length (fun i k => impl_same_impl_Box.l0 k x y (x.length : Int) (i : Int)) (fun i => decide (x.drop i = y.drop i)) (fun i hi ih => by
      refine Ev.step (fun k => by rw [impl_same_impl_Box.l0]) ?_
      refine ev_pos (lt_cast hi) (ev_pos (nn_cast i) (ev_pos (lt_cast hi) (ev_pos (lt_cast (hl ▸ hi)) ?_)))
      rw [rdi_Box hi, rdi_Box (hl ▸ hi), wrap_succ hi hn]
      simp only [drop_eq hl hi]
      by_cases h1 : x[i] = y[i]'(hl ▸ hi)
      · simp only [h1, true_and]
        exact ev_neg (by simp) ih
      · simp only [h1, false_and, decide_false]
        refine ev_pos ?_ (ev_now _)
        generalize x[i] = a at h1 ⊢
        generalize y[i]'(hl ▸ hi) = b at h1 ⊢
        obtain ⟨a0_, a1_⟩ := a; obtain ⟨b0_, b1_⟩ := b
        simp only [S96.mk.injEq, not_and] at h1
        simp
        omega) (by
      refine Ev.step (fun k => by rw [impl_same_impl_Box.l0]) ?_
      refine ev_neg (by omega) ?_
      rw [List.drop_length, hl, List.drop_length]
      simp only [decide_true]
      exact ev_now _) 0 (Nat.zero_le _)
    exact ⟨_, Ev.congr (fun k => by unfold impl_same_impl_Box.f; exact if_pos (by omega)) key, by simp⟩
  · refine ⟨false, ?_, by simp; exact fun h => hl (by rw [h])⟩
    unfold impl_same_impl_Box.f
    exact ev_neg (by omega) (ev_now _)

theorem ssameBox_ev (x y : List S96) (hn : x.length ≤ 9223372036854775807) : ∃ v, Ev (fun k => spec_BoxSame.f k x y) v ∧ (v = true ↔ x = y) := by
  classical
  by_cases hl : x.length = y.length
  · have key := ev_loop x.length (fun i k => spec_BoxSame.l0 k x y (i : Int)) (fun i => decide (x.drop i = y.drop i)) (fun i hi ih => by
      refine Ev.step (fun k => by rw [spec_BoxSame.l0]) ?_
      refine ev_pos (lt_cast hi) (ev_pos (nn_cast i) (ev_pos (lt_cast (hl ▸ hi)) ?_))
      rw [rdi_Box hi, rdi_Box (hl ▸ hi), wrap_succ hi hn]
      simp only [drop_eq hl hi]
      by_cases h1 : x[i] = y[i]'(hl ▸ hi)
      · simp only [h1, true_and]
        exact ev_neg (by simp) ih
      · simp only [h1, false_and, decide_false]
        refine ev_pos ?_ (ev_now _)
        generalize x[i] = a at h1 ⊢
        generalize y[i]'(hl ▸ hi) = b at h1 ⊢
        obtain ⟨a0_, a1_⟩ := a; obtain ⟨b0_, b1_⟩ := b
        simp only [S96.mk.injEq, not_and] at h1
        simp
        omega) (by
      refine Ev.step (fun k => by rw [spec_BoxSame.l0]) ?_
      refine ev_neg (by omega) ?_
      rw [List.drop_length, hl, List.drop_length]
      simp only [decide_true]
      exact ev_now _) 0 (Nat.zero_le _)
    exact ⟨_, Ev.congr (fun k => by unfold spec_BoxSame.f; exact if_pos (by omega)) key, by simp⟩
  · refine ⟨false, ?_, by simp; exact fun h => hl (by rw [h])⟩
    unfold spec_BoxSame.f
    exact ev_neg (by omega) (ev_now _)

theorem sameDone_ev (x y : List S104) (hn : x.length ≤ 9223372036854775807) : ∃ v, Ev (fun k => impl_same_impl_Done.f k x y) v ∧ (v = true ↔ x = y) := by
  classical
  by_cases hl : x.length = y.length
  · have key := ev_loop x.length (fun i k => impl_same_impl_Done.l0 k x y (x.length : Int) (i : Int)) (fun i => decide (x.drop i = y.drop i)) (fun i hi ih => by
      refine Ev.step (fun k => by rw [impl_same_impl_Done.l0]) ?_
      refine ev_pos (lt_cast hi) (ev_pos (nn_cast i) (ev_pos (lt_cast hi) (ev_pos (lt_cast (hl ▸ hi)) ?_)))
      rw [rdi_Done hi, rdi_Done (hl ▸ hi), wrap_succ hi hn]
      simp only [drop_eq hl hi]
      by_cases h1 : x[i] = y[i]'(hl ▸ hi)
      · simp only [h1, true_and]
        exact ev_neg (by simp) ih
      · simp only [h1, false_and, decide_false]
        refine ev_pos ?_ (ev_now _)
        generalize x[i] = a at h1 ⊢
        generalize y[i]'(hl ▸ hi) = b at h1 ⊢
        obtain ⟨⟨a0_, a1_⟩, a2_, a3_⟩ := a; obtain ⟨⟨b0_, b1_⟩, b2_, b3_⟩ := b
        simp only [S104.mk.injEq, S67.mk.injEq, not_and] at h1
        simp
        omega) (by
      refine Ev.step (fun k => by rw [impl_same_impl_Done.l0]) ?_
      refine ev_neg (by omega) ?_
      rw [List.drop_length, hl, List.drop_length]
      simp only [decide_true]
      exact ev_now _) 0 (Nat.zero_le _)
    exact ⟨_, Ev.congr (fun k => by unfold impl_same_impl_Done.f; exact if_pos (by omega)) key, by simp⟩
  · refine ⟨false, ?_, by simp; exact fun h => hl (by rw [h])⟩
    unfold impl_same_impl_Done.f
    exact ev_neg (by omega) (ev_now _)

theorem impl_CertSame_ev (a : Int) (x : List S96) (y : List S104) (b : Int) (u : List S96) (v : List S104) (hn : x.length ≤ 9223372036854775807) (hm : y.length ≤ 9223372036854775807) :
    ∃ r, Ev (fun k => impl_CertSame.f k a x y b u v) r ∧ (r = true ↔ a = b ∧ x = u ∧ y = v) := by
  obtain ⟨p, hp, hpi⟩ := sameBox_ev x u hn
  obtain ⟨q, hq, hqi⟩ := sameDone_ev y v hm
  have hb : Ev (fun k => impl_BoxSame.f k x u) p := by unfold impl_BoxSame.f; exact hp.bind (ev_now _)
  unfold impl_CertSame.f
  by_cases h0 : a = b
  case neg => exact ⟨false, ev_neg h0 (ev_now _), by simp [h0]⟩
  by_cases h1 : p = true
  case neg => exact ⟨false, ev_pos h0 (hb.bind (ev_neg h1 (ev_now _))), by simp; intro _ h; exact absurd (hpi.2 h) h1⟩
  exact ⟨q, ev_pos h0 (hb.bind (ev_pos h1 (hq.bind (ev_now _)))), by simp [h0, hpi.1 h1, hqi]⟩
theorem spec_CertSame_ev (a : Int) (x : List S96) (y : List S104) (b : Int) (u : List S96) (v : List S104) (hn : x.length ≤ 9223372036854775807) (hm : y.length ≤ 9223372036854775807) :
    ∃ r, Ev (fun k => spec_CertSame.f k a x y b u v) r ∧ (r = true ↔ a = b ∧ x = u ∧ y = v) := by
  classical
  obtain ⟨p, hp, hpi⟩ := ssameBox_ev x u hn
  have no : Ev (fun k => spec_CertSame.j0 k true a x y b u v) false := by
    refine Ev.step (fun k => by rw [spec_CertSame.j0]) ?_
    exact ev_pos rfl (ev_now _)
  unfold spec_CertSame.f
  by_cases h0 : a = b
  case neg => exact ⟨false, ev_neg h0 no, by simp [h0]⟩
  by_cases h1 : p = true
  case neg => exact ⟨false, ev_pos h0 (hp.bind (ev_neg h1 no)), by simp; intro _ h; exact absurd (hpi.2 h) h1⟩
  by_cases hl : y.length = v.length
  case neg =>
    have e1 : ((y.length : Int) != (v.length : Int)) = true := by simp; omega
    exact ⟨false, ev_pos h0 (hp.bind (ev_pos h1 (by rw [e1]; exact no))), by simp; intro _ _ h; exact absurd (by rw [h]) hl⟩
  have e1 : ((y.length : Int) != (v.length : Int)) = false := by simp; omega
  have key := ev_loop y.length (fun i k => spec_CertSame.l0 k (i : Int) a x y b u v) (fun i => decide (y.drop i = v.drop i)) (fun i hi ih => by
      refine Ev.step (fun k => by rw [spec_CertSame.l0]) ?_
      refine ev_pos (lt_cast hi) (ev_pos (nn_cast i) (ev_pos (lt_cast (hl ▸ hi)) ?_))
      rw [rdi_Done hi, rdi_Done (hl ▸ hi), wrap_succ hi hm]
      simp only [drop_eq hl hi]
      by_cases h1 : y[i] = v[i]'(hl ▸ hi)
      · simp only [h1, true_and]
        exact ev_neg (by simp) ih
      · simp only [h1, false_and, decide_false]
        refine ev_pos ?_ (ev_now _)
        generalize y[i] = c at h1 ⊢
        generalize v[i]'(hl ▸ hi) = d at h1 ⊢
        obtain ⟨⟨c0, c1⟩, c2, c3⟩ := c
        obtain ⟨⟨d0, d1⟩, d2, d3⟩ := d
        simp only [S104.mk.injEq, S67.mk.injEq, not_and] at h1
        simp
        omega) (by
      refine Ev.step (fun k => by rw [spec_CertSame.l0]) ?_
      refine ev_neg (by omega) ?_
      rw [List.drop_length, hl, List.drop_length]
      simp only [decide_true]
      exact ev_now _) 0 (Nat.zero_le _)
  refine ⟨decide (y.drop 0 = v.drop 0), ev_pos h0 (hp.bind (ev_pos h1 ?_)), ?_⟩
  · rw [e1]
    refine Ev.step (fun k => by rw [spec_CertSame.j0]) ?_
    exact ev_neg (by simp) key
  · simp [h0, hpi.1 h1]

theorem FnExactCertSame : laws_FnExactCertSame.Pure := by
  intro x y hx hy
  refine Ev.rounds ?_
  unfold laws_FnExactCertSame.f
  obtain ⟨s, hs, hsi⟩ := szState_some x 1048576 (by omega) (by omega) hx.2.1.1 hx.2.2.1
  refine ev_get hs (ev_ite (fun _ => ev_now _) (fun h0 => ?_))
  obtain ⟨s1, s2, s3⟩ := hsi (by omega)
  obtain ⟨t, ht, hti⟩ := szState_some y s (by omega) (by omega) hy.2.1.1 hy.2.2.1
  refine ev_get ht (ev_ite (fun _ => ev_now _) (fun h1 => ?_))
  obtain ⟨t1, t2, t3⟩ := hti (by omega)
  have hto := toState_ev x (by omega) (by omega)
  have hto2 := toState_ev y (by omega) (by omega)
  obtain ⟨v, hv, hvi⟩ := spec_CertSame_ev x.f0 (x.f1.map toBox) (x.f2.map toDone) y.f0 (y.f1.map toBox) (y.f2.map toDone) (by simp; omega) (by simp; omega)
  obtain ⟨u, hu, hui⟩ := impl_CertSame_ev x.f0 (x.f1.map toBox) (x.f2.map toDone) y.f0 (y.f1.map toBox) (y.f2.map toDone) (by simp; omega) (by simp; omega)
  have huv : u = v := Bool.eq_iff_iff.2 (hui.trans hvi.symm)
  subst huv
  have he := eqState_self x.f0 (x.f1.map toBox) (x.f2.map toDone) (by simp; omega) (by simp; omega)
  have he2 := eqState_self y.f0 (y.f1.map toBox) (y.f2.map toDone) (by simp; omega) (by simp; omega)
  refine hto.bind (hto2.bind (hv.bind (hto.bind (hto2.bind (hu.bind ?_)))))
  refine ev_neg (by simp) (hto.bind (he.bind ?_))
  exact ev_pos rfl (hto2.bind (he2.bind (ev_pos rfl (ev_now _))))

end Go.Proofs.Ytbocpmlppkdhmaa.Pure
