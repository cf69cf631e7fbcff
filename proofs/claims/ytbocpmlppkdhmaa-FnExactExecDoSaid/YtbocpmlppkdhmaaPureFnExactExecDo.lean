/- The pure law of FnExactExecDo: what the printed function of the law answers is true, for every input. Its condition: none but what the row says. -/
import Derived.Test.YtbocpmlppkdhmaaPFnExactExecDox9
namespace Go.Proofs.Ytbocpmlppkdhmaa.Pure
open Go.RowKit Go.Proofs.Ytbocpmlppkdhmaa.PFnExactExecDo Go.Proofs.YtbocpmlppkdhmaaW.PrintWords Go.Proofs.YtbocpmlppkdhmaaW.PrintLast
set_option linter.unusedVariables false
set_option linter.unusedSimpArgs false
set_option linter.unusedSectionVars false

theorem wrap_succ {i n : Nat} (h : i < n) (hn : n ≤ 9223372036854775807) : wrap64 ((i : Int) + 1) = ((i + 1 : Nat) : Int) := by unfold wrap64; omega
theorem wrap_id {a : Int} (h0 : -9223372036854775808 ≤ a) (h1 : a ≤ 9223372036854775807) : wrap64 a = a := by unfold wrap64; omega
theorem ev_pos {α : Type} {c : Prop} [Decidable c] {f g : Nat → Option α} {r : α} (h : c) (e : Ev f r) : Ev (fun k => if c then f k else g k) r := by
  simp only [if_pos h]; exact e
theorem ev_neg {α : Type} {c : Prop} [Decidable c] {f g : Nat → Option α} {r : α} (h : ¬ c) (e : Ev g r) : Ev (fun k => if c then f k else g k) r := by
  simp only [if_neg h]; exact e
theorem ev_ite {α : Type} {c : Prop} [Decidable c] {f g : Nat → Option α} {r : α} (h1 : c → Ev f r) (h2 : ¬ c → Ev g r) : Ev (fun k => if c then f k else g k) r := by
  by_cases h : c
  · exact ev_pos h (h1 h)
  · exact ev_neg h (h2 h)
theorem ev_now {α : Type} (r : α) : Ev (fun _ => some r) r := Ev.now r
theorem ev_get {α β : Type} {g : Option α} {f : Nat → α → Option β} {a : α} {r : β} (h : g = some a) (k : Ev (fun n => f n a) r) : Ev (fun n => g.bind (f n)) r := by
  subst h; exact k
theorem ev_of_eq {α : Type} {g : Nat → Option α} {a : Option α} {r : α} (h : ∀ k, g k = a) (e : a = some r) : Ev g r := ⟨0, fun k _ => (h k).trans e⟩
/-- A loop over 0 .. n - 1: what it answers from i on. -/
theorem ev_loop {α : Type} (n : Nat) (F : Nat → Nat → Option α) (v : Nat → α) (step : ∀ i, i < n → Ev (F (i + 1)) (v (i + 1)) → Ev (F i) (v i)) (last : Ev (F n) (v n)) : ∀ i, i ≤ n → Ev (F i) (v i) := by
  have key : ∀ d i, i + d = n → Ev (F i) (v i) := by
    intro d
    induction d with
    | zero => intro i h; obtain rfl : i = n := by omega
              exact last
    | succ d ih => intro i h; exact step i (by omega) (ih (i + 1) (by omega))
  exact fun i hi => key (n - i) i (by omega)
theorem lt_cast {i n : Nat} (h : i < n) : (i : Int) < (n : Int) := Int.ofNat_lt.2 h
theorem nn_cast (i : Nat) : (0 : Int) ≤ (i : Int) := Int.natCast_nonneg i
theorem set_state {α : Type} (xs : List α) (z : α) (i : Nat) (h : i < xs.length) : (xs.take i ++ List.replicate (xs.length - i) z).set i xs[i] = xs.take (i + 1) ++ List.replicate (xs.length - (i + 1)) z := by
  rw [List.take_succ_eq_append_getElem h, List.append_assoc, List.set_append_right _ _ (by rw [List.length_take]; omega)]
  congr 1
  rw [List.length_take, Nat.min_eq_left (by omega), Nat.sub_self, show xs.length - i = (xs.length - (i + 1)) + 1 by omega, List.replicate_succ]
  rfl
theorem state_len {α : Type} (xs : List α) (z : α) (i : Nat) (h : i ≤ xs.length) : (xs.take i ++ List.replicate (xs.length - i) z).length = xs.length := by
  rw [List.length_append, List.length_take, List.length_replicate]; omega
theorem drop_eq {α : Type} {x y : List α} (hl : x.length = y.length) {i : Nat} (h : i < x.length) : (x.drop i = y.drop i) ↔ (x[i] = y[i]'(hl ▸ h) ∧ x.drop (i + 1) = y.drop (i + 1)) := by
  have h2 : i < y.length := hl ▸ h
  rw [List.drop_eq_getElem_cons h, List.drop_eq_getElem_cons h2, List.cons.injEq]
theorem mem_split {α : Type} {p : α → Prop} {l : List α} {i : Nat} (h : i < l.length) : (∀ b ∈ l.drop i, p b) ↔ p l[i] ∧ ∀ b ∈ l.drop (i + 1), p b := by
  rw [List.drop_eq_getElem_cons h]
  simp only [List.mem_cons, forall_eq_or_imp]
theorem ev_const {α : Type} {X : Option α} {r : α} (h : X = some r) : Ev (fun _ => X) r := ⟨0, fun _ _ => h⟩

theorem szReadS_some (l : List S147) (a : Int) (hn : l.length ≤ 9223372036854775807) (h0 : 0 ≤ a) (h1 : a ≤ 1048576) : laws_szReadS.f l a = some (if a < l.length then -1 else a - l.length) := by
  unfold laws_szReadS.f
  have hw : wrap64 (a - (l.length : Int)) = a - l.length := wrap_id (by omega) (by omega)
  rw [hw]
  by_cases h : a < l.length
  · rw [if_pos (by omega), if_pos h]
  · rw [if_neg (by omega), if_neg h]

theorem szPutS_some (l : List S149) (a : Int) (hn : l.length ≤ 9223372036854775807) (h0 : 0 ≤ a) (h1 : a ≤ 1048576) : laws_szPutS.f l a = some (if a < l.length then -1 else a - l.length) := by
  unfold laws_szPutS.f
  have hw : wrap64 (a - (l.length : Int)) = a - l.length := wrap_id (by omega) (by omega)
  rw [hw]
  by_cases h : a < l.length
  · rw [if_pos (by omega), if_pos h]
  · rw [if_neg (by omega), if_neg h]

theorem ext_Read {a b : S98} (h0 : a.f0 = b.f0) (h1 : a.f1 = b.f1) : a = b := by
  obtain ⟨a0_, a1_⟩ := a; obtain ⟨b0_, b1_⟩ := b; simp_all
theorem rdi_Read {l : List S98} {i : Nat} (h : i < l.length) : rd_T98 l (i : Int) = l[i] := by
  unfold rd_T98
  rw [Int.toNat_natCast, List.getD_eq_getElem?_getD, List.getElem?_eq_getElem h]
  rfl

theorem rdl_Read {l : List S147} {i : Nat} (h : i < l.length) : rd_T147 l (i : Int) = l[i] := by
  unfold rd_T147
  rw [Int.toNat_natCast, List.getD_eq_getElem?_getD, List.getElem?_eq_getElem h]
  rfl

def toRead (x : S147) : S98 := ⟨x.f0, x.f1⟩
theorem toReadS_ev (l : List S147) (hn : l.length ≤ 8796093022208) : Ev (fun k => laws_toReadS.f k l) (l.map toRead) := by
  unfold laws_toReadS.f
  refine ev_pos (nn_cast _) (ev_pos (by rw [Int.toNat_natCast]; omega) ?_)
  rw [Int.toNat_natCast]
  have hm : (l.map toRead).length = l.length := List.length_map _
  have key := ev_loop l.length (fun i k => laws_toReadS.l0 k l ((l.map toRead).take i ++ List.replicate ((l.map toRead).length - i) z98) (i : Int)) (fun _ => l.map toRead) (fun i hi ih => by
      refine Ev.step (fun k => by rw [laws_toReadS.l0]) ?_
      refine ev_pos (lt_cast hi) (ev_pos (nn_cast i) ?_)
      rw [rdl_Read hi, wrap_succ hi (by omega)]
      refine ev_get (a := ((l[i]).f0, (l[i]).f1)) rfl ?_
      refine ev_pos (by rw [state_len _ _ _ (by omega), hm]; exact lt_cast hi) ?_
      have hs := set_state (l.map toRead) z98 i (by rw [hm]; exact hi)
      rw [List.getElem_map] at hs
      rw [Int.toNat_natCast]
      simp only [toRead] at hs ⊢ ih
      rw [hs]
      exact ih) (by
      refine Ev.step (fun k => by rw [laws_toReadS.l0]) ?_
      refine ev_neg (by omega) ?_
      rw [hm, Nat.sub_self, List.replicate_zero, List.append_nil, ← hm, List.take_length]
      exact ev_now _) 0 (Nat.zero_le _)
  simpa [hm] using key

theorem ext_Put {a b : S118} (h0 : a.f0 = b.f0) (h1 : a.f1 = b.f1) : a = b := by
  obtain ⟨a0_, a1_⟩ := a; obtain ⟨b0_, b1_⟩ := b; simp_all
theorem rdi_Put {l : List S118} {i : Nat} (h : i < l.length) : rd_T118 l (i : Int) = l[i] := by
  unfold rd_T118
  rw [Int.toNat_natCast, List.getD_eq_getElem?_getD, List.getElem?_eq_getElem h]
  rfl

theorem rdl_Put {l : List S149} {i : Nat} (h : i < l.length) : rd_T149 l (i : Int) = l[i] := by
  unfold rd_T149
  rw [Int.toNat_natCast, List.getD_eq_getElem?_getD, List.getElem?_eq_getElem h]
  rfl

def toPut (x : S149) : S118 := ⟨x.f0, x.f1⟩
theorem toPutS_ev (l : List S149) (hn : l.length ≤ 8796093022208) : Ev (fun k => laws_toPutS.f k l) (l.map toPut) := by
  unfold laws_toPutS.f
  refine ev_pos (nn_cast _) (ev_pos (by rw [Int.toNat_natCast]; omega) ?_)
  rw [Int.toNat_natCast]
  have hm : (l.map toPut).length = l.length := List.length_map _
  have key := ev_loop l.length (fun i k => laws_toPutS.l0 k l ((l.map toPut).take i ++ List.replicate ((l.map toPut).length - i) z118) (i : Int)) (fun _ => l.map toPut) (fun i hi ih => by
      refine Ev.step (fun k => by rw [laws_toPutS.l0]) ?_
      refine ev_pos (lt_cast hi) (ev_pos (nn_cast i) ?_)
      rw [rdl_Put hi, wrap_succ hi (by omega)]
      refine ev_get (a := ((l[i]).f0, (l[i]).f1)) rfl ?_
      refine ev_pos (by rw [state_len _ _ _ (by omega), hm]; exact lt_cast hi) ?_
      have hs := set_state (l.map toPut) z118 i (by rw [hm]; exact hi)
      rw [List.getElem_map] at hs
      rw [Int.toNat_natCast]
      simp only [toPut] at hs ⊢ ih
      rw [hs]
      exact ih) (by
      refine Ev.step (fun k => by rw [laws_toPutS.l0]) ?_
      refine ev_neg (by omega) ?_
      rw [hm, Nat.sub_self, List.replicate_zero, List.append_nil, ← hm, List.take_length]
      exact ev_now _) 0 (Nat.zero_le _)
  simpa [hm] using key

theorem toRun_ev (x : S49) (h0 : x.f0.length ≤ 1048576) (h1 : x.f1.length ≤ 1048576) : Ev (fun k => laws_toRun.f k x.f0 x.f1 x.f2 x.f3) (x.f0.map toRead, x.f1.map toPut, x.f2, x.f3) := by
  unfold laws_toRun.f
  exact (toReadS_ev x.f0 (by omega)).bind ((toPutS_ev x.f1 (by omega)).bind (ev_now _))
theorem szRun_some (x : S49) (a : Int) (h0 : 0 ≤ a) (h1 : a ≤ 1048576) (hn : x.f0.length ≤ 9223372036854775807) (hm : x.f1.length ≤ 9223372036854775807) :
    ∃ v, laws_szRun.f x.f0 x.f1 x.f2 x.f3 a = some v ∧ (0 ≤ v → v ≤ a ∧ x.f0.length ≤ a ∧ x.f1.length ≤ a) := by
  unfold laws_szRun.f
  rw [szReadS_some x.f0 a hn h0 h1, Option.bind_some]
  by_cases h : a < x.f0.length
  · exact ⟨-1, by rw [if_pos h]; rfl, by omega⟩
  rw [if_neg h, if_neg (by omega), szPutS_some x.f1 _ hm (by omega) (by omega), Option.bind_some]
  by_cases h2 : a - x.f0.length < x.f1.length
  · exact ⟨-1, by rw [if_pos h2]; rfl, by omega⟩
  rw [if_neg h2, if_neg (by omega)]
  exact ⟨_, rfl, by omega⟩

theorem eqRead_some (a b : S98) : ∃ v, laws_eqRead.f a.f0 a.f1 b.f0 b.f1 = some v ∧ (v = true ↔ a = b) := by
  unfold laws_eqRead.f
  by_cases h0 : a.f0 = b.f0
  case neg => exact ⟨false, by simp [h0], by simp; intro h; exact h0 (by rw [h])⟩
  by_cases h1 : a.f1 = b.f1
  case neg => exact ⟨false, by simp [h0, h1], by simp; intro h; exact h1 (by rw [h])⟩
  exact ⟨true, by simp [h0, h1], by simp; exact ext_Read h0 h1⟩
theorem eqReadS_ev (x y : List S98) (hn : x.length ≤ 9223372036854775807) : ∃ v, Ev (fun k => laws_eqReadS.f k x y) v ∧ (v = true ↔ x = y) := by
  classical
  by_cases hl : x.length = y.length
  · have key := ev_loop x.length (fun i k => laws_eqReadS.l0 k x y (i : Int)) (fun i => decide (x.drop i = y.drop i)) (fun i hi ih => by
      refine Ev.step (fun k => by rw [laws_eqReadS.l0]) ?_
      refine ev_pos (lt_cast hi) (ev_pos (nn_cast i) (ev_pos (lt_cast (hl ▸ hi)) ?_))
      rw [rdi_Read hi, rdi_Read (hl ▸ hi), wrap_succ hi hn]
      obtain ⟨v, hv, hvi⟩ := eqRead_some x[i] (y[i]'(hl ▸ hi))
      refine ev_get hv ?_
      simp only [drop_eq hl hi]
      by_cases h1 : v = true
      · simp only [hvi.1 h1, true_and]
        exact ev_pos h1 ih
      · simp only [show ¬ (x[i] = y[i]'(hl ▸ hi)) from fun h => h1 (hvi.2 h), false_and, decide_false]
        exact ev_neg h1 (ev_now _)) (by
      refine Ev.step (fun k => by rw [laws_eqReadS.l0]) ?_
      refine ev_neg (by omega) ?_
      rw [List.drop_length, hl, List.drop_length]
      simp only [decide_true]
      exact ev_now _) 0 (Nat.zero_le _)
    exact ⟨_, Ev.congr (fun k => by unfold laws_eqReadS.f; exact if_pos (by omega)) key, by simp⟩
  · refine ⟨false, ?_, by simp; exact fun h => hl (by rw [h])⟩
    unfold laws_eqReadS.f
    exact ev_neg (by omega) (ev_now _)

theorem eqPut_some (a b : S118) : ∃ v, laws_eqPut.f a.f0 a.f1 b.f0 b.f1 = some v ∧ (v = true ↔ a = b) := by
  unfold laws_eqPut.f
  by_cases h0 : a.f0 = b.f0
  case neg => exact ⟨false, by simp [h0], by simp; intro h; exact h0 (by rw [h])⟩
  by_cases h1 : a.f1 = b.f1
  case neg => exact ⟨false, by simp [h0, h1], by simp; intro h; exact h1 (by rw [h])⟩
  exact ⟨true, by simp [h0, h1], by simp; exact ext_Put h0 h1⟩
theorem eqPutS_ev (x y : List S118) (hn : x.length ≤ 9223372036854775807) : ∃ v, Ev (fun k => laws_eqPutS.f k x y) v ∧ (v = true ↔ x = y) := by
  classical
  by_cases hl : x.length = y.length
  · have key := ev_loop x.length (fun i k => laws_eqPutS.l0 k x y (i : Int)) (fun i => decide (x.drop i = y.drop i)) (fun i hi ih => by
      refine Ev.step (fun k => by rw [laws_eqPutS.l0]) ?_
      refine ev_pos (lt_cast hi) (ev_pos (nn_cast i) (ev_pos (lt_cast (hl ▸ hi)) ?_))
      rw [rdi_Put hi, rdi_Put (hl ▸ hi), wrap_succ hi hn]
      obtain ⟨v, hv, hvi⟩ := eqPut_some x[i] (y[i]'(hl ▸ hi))
      refine ev_get hv ?_
      simp only [drop_eq hl hi]
      by_cases h1 : v = true
      · simp only [hvi.1 h1, true_and]
        exact ev_pos h1 ih
      · simp only [show ¬ (x[i] = y[i]'(hl ▸ hi)) from fun h => h1 (hvi.2 h), false_and, decide_false]
        exact ev_neg h1 (ev_now _)) (by
      refine Ev.step (fun k => by rw [laws_eqPutS.l0]) ?_
      refine ev_neg (by omega) ?_
      rw [List.drop_length, hl, List.drop_length]
      simp only [decide_true]
      exact ev_now _) 0 (Nat.zero_le _)
    exact ⟨_, Ev.congr (fun k => by unfold laws_eqPutS.f; exact if_pos (by omega)) key, by simp⟩
  · refine ⟨false, ?_, by simp; exact fun h => hl (by rw [h])⟩
    unfold laws_eqPutS.f
    exact ev_neg (by omega) (ev_now _)

theorem eqRun_self (x0 : List S98) (x1 : List S118) (a b : Int) (hn : x0.length ≤ 9223372036854775807) (hm : x1.length ≤ 9223372036854775807) : Ev (fun k => laws_eqRun.f k x0 x1 a b x0 x1 a b) true := by
  unfold laws_eqRun.f
  obtain ⟨u, hu, hui⟩ := eqReadS_ev x0 x0 hn
  obtain ⟨v, hv, hvi⟩ := eqPutS_ev x1 x1 hm
  obtain rfl := hui.2 rfl
  obtain rfl := hvi.2 rfl
  exact hu.bind (ev_pos rfl (hv.bind (ev_pos rfl (ev_pos rfl (ev_pos rfl (ev_now _))))))

theorem szBoxS_some (l : List S132) (a : Int) (hn : l.length ≤ 9223372036854775807) (h0 : 0 ≤ a) (h1 : a ≤ 1048576) : laws_szBoxS.f l a = some (if a < l.length then -1 else a - l.length) := by
  unfold laws_szBoxS.f
  have hw : wrap64 (a - (l.length : Int)) = a - l.length := wrap_id (by omega) (by omega)
  rw [hw]
  by_cases h : a < l.length
  · rw [if_pos (by omega), if_pos h]
  · rw [if_neg (by omega), if_neg h]

theorem ext_Box {a b : S96} (h0 : a.f0 = b.f0) (h1 : a.f1 = b.f1) : a = b := by
  obtain ⟨a0_, a1_⟩ := a; obtain ⟨b0_, b1_⟩ := b; simp_all
theorem rdi_Box {l : List S96} {i : Nat} (h : i < l.length) : rd_T96 l (i : Int) = l[i] := by
  unfold rd_T96
  rw [Int.toNat_natCast, List.getD_eq_getElem?_getD, List.getElem?_eq_getElem h]
  rfl

theorem rdl_Box {l : List S132} {i : Nat} (h : i < l.length) : rd_T132 l (i : Int) = l[i] := by
  unfold rd_T132
  rw [Int.toNat_natCast, List.getD_eq_getElem?_getD, List.getElem?_eq_getElem h]
  rfl

def toBox (x : S132) : S96 := ⟨x.f0, x.f1⟩
theorem toBoxS_ev (l : List S132) (hn : l.length ≤ 8796093022208) : Ev (fun k => laws_toBoxS.f k l) (l.map toBox) := by
  unfold laws_toBoxS.f
  refine ev_pos (nn_cast _) (ev_pos (by rw [Int.toNat_natCast]; omega) ?_)
  rw [Int.toNat_natCast]
  have hm : (l.map toBox).length = l.length := List.length_map _
  have key := ev_loop l.length (fun i k => laws_toBoxS.l0 k l ((l.map toBox).take i ++ List.replicate ((l.map toBox).length - i) z96) (i : Int)) (fun _ => l.map toBox) (fun i hi ih => by
      refine Ev.step (fun k => by rw [laws_toBoxS.l0]) ?_
      refine ev_pos (lt_cast hi) (ev_pos (nn_cast i) ?_)
      rw [rdl_Box hi, wrap_succ hi (by omega)]
      refine ev_get (a := ((l[i]).f0, (l[i]).f1)) rfl ?_
      refine ev_pos (by rw [state_len _ _ _ (by omega), hm]; exact lt_cast hi) ?_
      have hs := set_state (l.map toBox) z96 i (by rw [hm]; exact hi)
      rw [List.getElem_map] at hs
      rw [Int.toNat_natCast]
      simp only [toBox] at hs ⊢ ih
      rw [hs]
      exact ih) (by
      refine Ev.step (fun k => by rw [laws_toBoxS.l0]) ?_
      refine ev_neg (by omega) ?_
      rw [hm, Nat.sub_self, List.replicate_zero, List.append_nil, ← hm, List.take_length]
      exact ev_now _) 0 (Nat.zero_le _)
  simpa [hm] using key

theorem eqBox_some (a b : S96) : ∃ v, laws_eqBox.f a.f0 a.f1 b.f0 b.f1 = some v ∧ (v = true ↔ a = b) := by
  unfold laws_eqBox.f
  by_cases h0 : a.f0 = b.f0
  case neg => exact ⟨false, by simp [h0], by simp; intro h; exact h0 (by rw [h])⟩
  by_cases h1 : a.f1 = b.f1
  case neg => exact ⟨false, by simp [h0, h1], by simp; intro h; exact h1 (by rw [h])⟩
  exact ⟨true, by simp [h0, h1], by simp; exact ext_Box h0 h1⟩
theorem eqBoxS_ev (x y : List S96) (hn : x.length ≤ 9223372036854775807) : ∃ v, Ev (fun k => laws_eqBoxS.f k x y) v ∧ (v = true ↔ x = y) := by
  classical
  by_cases hl : x.length = y.length
  · have key := ev_loop x.length (fun i k => laws_eqBoxS.l0 k x y (i : Int)) (fun i => decide (x.drop i = y.drop i)) (fun i hi ih => by
      refine Ev.step (fun k => by rw [laws_eqBoxS.l0]) ?_
      refine ev_pos (lt_cast hi) (ev_pos (nn_cast i) (ev_pos (lt_cast (hl ▸ hi)) ?_))
      rw [rdi_Box hi, rdi_Box (hl ▸ hi), wrap_succ hi hn]
      obtain ⟨v, hv, hvi⟩ := eqBox_some x[i] (y[i]'(hl ▸ hi))
      refine ev_get hv ?_
      simp only [drop_eq hl hi]
      by_cases h1 : v = true
      · simp only [hvi.1 h1, true_and]
        exact ev_pos h1 ih
      · simp only [show ¬ (x[i] = y[i]'(hl ▸ hi)) from fun h => h1 (hvi.2 h), false_and, decide_false]
        exact ev_neg h1 (ev_now _)) (by
      refine Ev.step (fun k => by rw [laws_eqBoxS.l0]) ?_
      refine ev_neg (by omega) ?_
      rw [List.drop_length, hl, List.drop_length]
      simp only [decide_true]
      exact ev_now _) 0 (Nat.zero_le _)
    exact ⟨_, Ev.congr (fun k => by unfold laws_eqBoxS.f; exact if_pos (by omega)) key, by simp⟩
  · refine ⟨false, ?_, by simp; exact fun h => hl (by rw [h])⟩
    unfold laws_eqBoxS.f
    exact ev_neg (by omega) (ev_now _)

/-- Boxes, as the document has them. -/
def boxIn (b : S96) : Prop := 0 ≤ b.f0 ∧ b.f0 ≤ 1000000 ∧ -1000000 ≤ b.f1 ∧ b.f1 ≤ 1000000
def boxOk (l : List S96) : Prop := l.length = 4 ∧ ∀ b ∈ l, boxIn b
theorem rd_box {l : List S96} {i : Nat} (h : i < l.length) : rd_T96 l (i : Int) = l[i] := by
  unfold rd_T96
  rw [Int.toNat_natCast, List.getD_eq_getElem?_getD, List.getElem?_eq_getElem h]
  rfl
theorem box_ext {a b : S96} (h0 : a.f0 = b.f0) (h1 : a.f1 = b.f1) : a = b := by
  cases a; cases b; simp_all
theorem boxIn_iff (b : S96) : boxIn b ↔ (0 ≤ b.f0 ∧ b.f0 ≤ 1000000) ∧ (-1000000 ≤ b.f1 ∧ b.f1 ≤ 1000000) := by
  unfold boxIn; omega

theorem rd_i {l : List Int} {i : Nat} (h : i < l.length) : rd l (i : Int) = l[i] := by
  unfold rd
  rw [Int.toNat_natCast, List.getD_eq_getElem?_getD, List.getElem?_eq_getElem h]
  rfl

/-- From place i on: each names a box, is good, and names none that stands ahead of it. -/
def okFrom {α : Type} (key : α → Int) (good : α → Prop) (l : List α) (i : Nat) : Prop := ∀ j (h : j < l.length), i ≤ j → (0 ≤ key l[j] ∧ key l[j] ≤ 3) ∧ good l[j] ∧ key l[j] ∉ (l.take j).map key
theorem okFrom_step {α : Type} (key : α → Int) (good : α → Prop) (l : List α) {i : Nat} (h : i < l.length) :
    okFrom key good l i ↔ ((0 ≤ key l[i] ∧ key l[i] ≤ 3) ∧ good l[i] ∧ key l[i] ∉ (l.take i).map key) ∧ okFrom key good l (i + 1) := by
  constructor
  · intro g
    exact ⟨g i h (Nat.le_refl _), fun j hj hij => g j hj (by omega)⟩
  · rintro ⟨a, b⟩ j hj hij
    by_cases e : j = i
    · subst e; exact a
    · exact b j hj (by omega)
theorem okFrom_end {α : Type} (key : α → Int) (good : α → Prop) (l : List α) : okFrom key good l l.length := fun j hj hij => absurd hij (by omega)
/-- Which boxes are named in the first i. -/
noncomputable def namedIn {α : Type} (key : α → Int) (l : List α) (i : Nat) (b : Int) : Bool := @decide (b ∈ (l.take i).map key) (Classical.propDecidable _)
theorem namedIn_iff {α : Type} (key : α → Int) (l : List α) (i : Nat) (b : Int) : namedIn key l i b = true ↔ b ∈ (l.take i).map key := by
  unfold namedIn
  exact @decide_eq_true_iff _ (Classical.propDecidable _)
theorem namedIn_zero {α : Type} (key : α → Int) (l : List α) (b : Int) : namedIn key l 0 b = false := by
  rw [Bool.eq_false_iff]
  intro h
  rw [namedIn_iff] at h
  simp at h
theorem namedIn_succ {α : Type} (key : α → Int) (l : List α) {i : Nat} (h : i < l.length) (b : Int) : ixB (key l[i]) b true (namedIn key l i b) = namedIn key l (i + 1) b := by
  rw [Bool.eq_iff_iff, namedIn_iff, List.take_succ_eq_append_getElem h]
  unfold ixB
  simp only [List.map_append, List.mem_append, List.map_cons, List.map_nil, List.mem_singleton]
  by_cases e : key l[i] = b
  · rw [if_pos e]; exact ⟨fun _ => .inr e.symm, fun _ => rfl⟩
  · rw [if_neg e, namedIn_iff]
    exact ⟨fun g => .inl g, fun g => g.elim id (fun g => absurd g.symm e)⟩
theorem rd_four (F : Int → Bool) (a : Int) (h0 : 0 ≤ a) (h1 : a ≤ 3) : rdOf false [F 0, F 1, F 2, F 3] a = F a := by
  have : a = 0 ∨ a = 1 ∨ a = 2 ∨ a = 3 := by omega
  rcases this with rfl | rfl | rfl | rfl <;> rfl

def rGood (x : S98) : Prop := 0 ≤ x.f1 ∧ x.f1 ≤ 1000000
def pGood (x : S118) : Prop := -1000000 ≤ x.f1 ∧ x.f1 ≤ 1000000
def rKey (x : S98) : Int := x.f0
def pKey (x : S118) : Int := x.f0
/-- A run that is right. -/
def runOk (x : List S98) (y : List S118) (a b : Int) : Prop :=
  (0 ≤ b ∧ b ≤ 3) ∧ (-1000000 ≤ a ∧ a ≤ 1000000) ∧ (b ≠ 0 → a = 0 ∧ ¬ (y.length : Int) > 0) ∧ (b = 3 → ¬ (x.length : Int) > 0) ∧ okFrom rKey rGood x 0 ∧ okFrom pKey pGood y 0

def freshOk (l : List S96) (x : List S98) (y : List S118) (a b : Int) : Prop := boxOk l ∧ runOk x y a b ∧ ∀ r ∈ x, (rd_T96 l r.f0).f0 = r.f1
theorem runOk_reads {x : List S98} {y : List S118} {a b : Int} (h : runOk x y a b) (i : Nat) (hi : i < x.length) : 0 ≤ (x[i]).f0 ∧ (x[i]).f0 ≤ 3 := (h.2.2.2.2.1 i hi (Nat.zero_le _)).1
theorem runOk_puts {x : List S98} {y : List S118} {a b : Int} (h : runOk x y a b) (i : Nat) (hi : i < y.length) : 0 ≤ (y[i]).f0 ∧ (y[i]).f0 ≤ 3 := (h.2.2.2.2.2 i hi (Nat.zero_le _)).1

/-- What a put makes of the boxes. -/
def put1 (l : List S96) (p : S118) : List S96 := l.set p.f0.toNat ⟨mn 1000000 (wrap64 ((rd_T96 l p.f0).f0 + 1)), p.f1⟩
theorem put1_len (l : List S96) (p : S118) : (put1 l p).length = l.length := by unfold put1; rw [List.length_set]
theorem puts_len (y : List S118) : ∀ l : List S96, (y.foldl put1 l).length = l.length := by
  induction y with
  | nil => intro l; rfl
  | cons p y ih => intro l; rw [List.foldl_cons, ih, put1_len]
open Classical in
/-- What a run makes of the boxes; none, if boxes or run are not right. -/
noncomputable def doneBy (l : List S96) (x : List S98) (y : List S118) (a b : Int) : List S96 := if boxOk l ∧ runOk x y a b then y.foldl put1 l else []
theorem doneBy_len (l : List S96) (x : List S98) (y : List S118) (a b : Int) : (doneBy l x y a b).length ≤ 4 := by
  unfold doneBy
  by_cases h : boxOk l ∧ runOk x y a b
  · rw [if_pos h, puts_len, h.1.1]; omega
  · rw [if_neg h]; simp

theorem l1Num_some (a : Int) : ∃ v, spec_l1Num.f a = some v ∧ (v = true ↔ -1000000 ≤ a ∧ a ≤ 1000000) := by
  unfold spec_l1Num.f
  by_cases h : a ≥ -1000000
  · exact ⟨decide (a ≤ 1000000), by simp [h], by simp; omega⟩
  · exact ⟨false, by simp [h], by simp; omega⟩
theorem spec_BoxOk_ev (l : List S96) (hn : l.length ≤ 9223372036854775807) : ∃ v, Ev (fun k => spec_BoxOk.f k l) v ∧ (v = true ↔ boxOk l) := by
  classical
  by_cases h4 : l.length = 4
  · have key := ev_loop l.length (fun i k => spec_BoxOk.l0 k l (i : Int)) (fun i => decide (∀ b ∈ l.drop i, boxIn b)) (fun i hi ih => by
      refine Ev.step (fun k => by rw [spec_BoxOk.l0]) ?_
      refine ev_pos (lt_cast hi) (ev_pos (nn_cast i) ?_)
      rw [rd_box hi, wrap_succ hi hn]
      obtain ⟨v, hv, hvi⟩ := l1Num_some (l[i]).f1
      have hs := mem_split (p := boxIn) hi
      by_cases h0 : (l[i]).f0 < 0
      · have : ¬ boxIn l[i] := by unfold boxIn; omega
        simp only [hs, this, false_and, decide_false]
        exact ev_pos h0 (ev_now _)
      refine ev_neg h0 ?_
      by_cases h1 : (l[i]).f0 > 1000000
      · have : ¬ boxIn l[i] := by unfold boxIn; omega
        simp only [hs, this, false_and, decide_false]
        exact ev_pos h1 (ev_now _)
      refine ev_neg h1 (ev_get hv ?_)
      by_cases h2 : v = true
      · have : boxIn l[i] := by have := hvi.1 h2; unfold boxIn; omega
        simp only [hs, this, true_and]
        exact ev_pos h2 ih
      · have : ¬ boxIn l[i] := fun h => h2 (hvi.2 (by unfold boxIn at h; omega))
        simp only [hs, this, false_and, decide_false]
        exact ev_neg h2 (ev_now _)) (by
      refine Ev.step (fun k => by rw [spec_BoxOk.l0]) ?_
      refine ev_neg (by omega) ?_
      simp only [List.drop_length, List.not_mem_nil, false_implies, implies_true, decide_true]
      exact ev_now _) 0 (Nat.zero_le _)
    exact ⟨_, Ev.congr (fun k => by unfold spec_BoxOk.f; exact if_pos (by omega)) key, by simp [boxOk, h4]⟩
  · refine ⟨false, ?_, by simp [boxOk, h4]⟩
    unfold spec_BoxOk.f
    exact ev_neg (by omega) (ev_now _)

theorem l2Box_some (a : Int) : spec_l2Box.f a = some (decide (0 ≤ a ∧ a ≤ 3)) := by
  unfold spec_l2Box.f
  by_cases h : a ≥ 0
  · rw [if_pos h]; congr 1; rw [Bool.eq_iff_iff]; simp; omega
  · rw [if_neg h]; congr 1; rw [Bool.eq_iff_iff]; simp; omega

theorem l1Num_dec (a : Int) : spec_l1Num.f a = some (decide (-1000000 ≤ a ∧ a ≤ 1000000)) := by
  unfold spec_l1Num.f
  by_cases h : a ≥ -1000000
  · rw [if_pos h]; congr 1; rw [Bool.eq_iff_iff]; simp; omega
  · rw [if_neg h]; congr 1; rw [Bool.eq_iff_iff]; simp; omega

theorem l3Saw_ev (x : List S98) (b : Int) (hn : x.length ≤ 9223372036854775807) : ∃ v, Ev (fun k => spec_l3Saw.f k x b) v ∧ (v = true ↔ b ∈ x.map rKey) := by
  classical
  have key := ev_loop x.length (fun i k => spec_l3Saw.l0 k x b (i : Int)) (fun i => decide (b ∈ (x.drop i).map rKey)) (fun i hi ih => by
      refine Ev.step (fun k => by rw [spec_l3Saw.l0]) ?_
      refine ev_pos (lt_cast hi) (ev_pos (nn_cast i) ?_)
      rw [rdi_Read hi, wrap_succ hi hn]
      have e : b ∈ (x.drop i).map rKey ↔ b = (x[i]).f0 ∨ b ∈ (x.drop (i + 1)).map rKey := by rw [List.drop_eq_getElem_cons hi]; simp only [List.map_cons, List.mem_cons]; exact Iff.rfl
      simp only [e]
      refine ev_ite (fun c => ?_) (fun c => ?_)
      · simp only [c.symm, true_or, decide_true]; exact ev_now _
      · have c2 : ¬ b = (x[i]).f0 := fun h => c h.symm
        simp only [c2, false_or]; exact ih) (by
      refine Ev.step (fun k => by rw [spec_l3Saw.l0]) ?_
      refine ev_neg (by omega) ?_
      simp only [List.drop_length, List.map_nil, List.not_mem_nil, decide_false]
      exact ev_now _) 0 (Nat.zero_le _)
  exact ⟨_, key, by simp⟩
/-- Where a box stands in what was put. -/
theorem l3At_ev (x : List S118) (b : Int) (hn : x.length ≤ 9223372036854775807) : ∃ v, Ev (fun k => spec_l3At.f k x b) v ∧ (0 ≤ v ↔ b ∈ x.map pKey) := by
  classical
  have key : ∀ d i, i + d = x.length → ∃ v, Ev (fun k => spec_l3At.l0 k x b (i : Int)) v ∧ (0 ≤ v ↔ b ∈ (x.drop i).map pKey) := by
    intro d
    induction d with
    | zero =>
      intro i hi
      obtain rfl : i = x.length := by omega
      refine ⟨-1, ?_, by simp⟩
      refine Ev.step (fun k => by rw [spec_l3At.l0]) ?_
      exact ev_neg (by omega) (ev_now _)
    | succ d ih =>
      intro i hd
      have hi : i < x.length := by omega
      have e : b ∈ (x.drop i).map pKey ↔ b = (x[i]).f0 ∨ b ∈ (x.drop (i + 1)).map pKey := by rw [List.drop_eq_getElem_cons hi]; simp only [List.map_cons, List.mem_cons]; exact Iff.rfl
      by_cases c : (x[i]).f0 = b
      · refine ⟨(i : Int), ?_, by rw [e]; simp [c]⟩
        refine Ev.step (fun k => by rw [spec_l3At.l0]) ?_
        refine ev_pos (lt_cast hi) (ev_pos (nn_cast i) ?_)
        rw [rdi_Put hi]
        exact ev_pos c (ev_now _)
      · obtain ⟨v, hv, hvi⟩ := ih (i + 1) (by omega)
        have c2 : ¬ b = (x[i]).f0 := fun h => c h.symm
        refine ⟨v, ?_, by rw [e, hvi]; simp [c2]⟩
        refine Ev.step (fun k => by rw [spec_l3At.l0]) ?_
        refine ev_pos (lt_cast hi) (ev_pos (nn_cast i) ?_)
        rw [rdi_Put hi, wrap_succ hi hn]
        exact ev_neg c hv
  obtain ⟨v, hv, hvi⟩ := key x.length 0 (by omega)
  exact ⟨v, hv, by simpa using hvi⟩
theorem sExecOk_l1 (x : List S98) (y : List S118) (a b : Int) (hm : y.length ≤ 9223372036854775807) : ∃ v, Ev (fun k => spec_ExecOk.l1 k 0 x y a b) v ∧ (v = true ↔ okFrom pKey pGood y 0) := by
  classical
  have key := ev_loop y.length (fun i k => spec_ExecOk.l1 k (i : Int) x y a b) (fun i => decide (okFrom pKey pGood y i)) (fun i hi ih => by
      refine Ev.step (fun k => by rw [spec_ExecOk.l1]) ?_
      refine ev_pos (lt_cast hi) (ev_pos (nn_cast i) ?_)
      rw [rdi_Put hi, wrap_succ hi hm, Int.toNat_natCast]
      simp only [okFrom_step pKey pGood y hi]
      refine ev_get (l2Box_some _) ?_
      by_cases h1 : 0 ≤ (y[i]).f0 ∧ (y[i]).f0 ≤ 3
      case neg =>
        have : ¬ (0 ≤ pKey y[i] ∧ pKey y[i] ≤ 3) := h1
        simp only [this, false_and, decide_false]
        exact ev_neg (by simpa using h1) (ev_now _)
      refine ev_pos (by simpa using h1) (ev_get (l1Num_dec _) ?_)
      have h2 : 0 ≤ pKey y[i] ∧ pKey y[i] ≤ 3 := h1
      by_cases g : pGood y[i]
      case neg =>
        simp only [g, false_and, and_false, decide_false]
        exact ev_neg (by simpa [pGood] using g) (ev_now _)
      obtain ⟨v, hv, hvi⟩ := l3At_ev (y.take i) (y[i]).f0 (by rw [List.length_take]; omega)
      refine ev_pos (by simpa [pGood] using g) (ev_pos (by omega) (hv.bind ?_))
      refine ev_ite (fun c => ?_) (fun c => ?_)
      · have c2 : pKey y[i] ∈ (y.take i).map pKey := hvi.1 c
        simp only [c2, not_true, and_false, false_and, decide_false]
        exact ev_now _
      · have c2 : ¬ pKey y[i] ∈ (y.take i).map pKey := fun h => c (hvi.2 h)
        simp only [h2, g, c2, not_false_eq_true, and_self, true_and]
        exact ih) (by
      refine Ev.step (fun k => by rw [spec_ExecOk.l1]) ?_
      refine ev_neg (by omega) ?_
      simp only [okFrom_end pKey pGood y, decide_true]
      exact ev_now _) 0 (Nat.zero_le _)
  exact ⟨_, key, by simp⟩
theorem sExecOk_l0 (x : List S98) (y : List S118) (a b : Int) (hn : x.length ≤ 9223372036854775807) (hm : y.length ≤ 9223372036854775807) :
    ∃ v, Ev (fun k => spec_ExecOk.l0 k 0 x y a b) v ∧ (v = true ↔ okFrom rKey rGood x 0 ∧ okFrom pKey pGood y 0) := by
  classical
  obtain ⟨u, hu, hui⟩ := sExecOk_l1 x y a b hm
  have key := ev_loop x.length (fun i k => spec_ExecOk.l0 k (i : Int) x y a b) (fun i => decide (okFrom rKey rGood x i ∧ okFrom pKey pGood y 0)) (fun i hi ih => by
      refine Ev.step (fun k => by rw [spec_ExecOk.l0]) ?_
      refine ev_pos (lt_cast hi) (ev_pos (nn_cast i) ?_)
      rw [rdi_Read hi, wrap_succ hi hn, Int.toNat_natCast]
      simp only [okFrom_step rKey rGood x hi]
      refine ev_get (l2Box_some _) ?_
      by_cases h1 : 0 ≤ (x[i]).f0 ∧ (x[i]).f0 ≤ 3
      case neg =>
        have : ¬ (0 ≤ rKey x[i] ∧ rKey x[i] ≤ 3) := h1
        simp only [this, false_and, decide_false]
        exact ev_neg (by simpa using h1) (ev_now _)
      refine ev_pos (by simpa using h1) ?_
      have h2 : 0 ≤ rKey x[i] ∧ rKey x[i] ≤ 3 := h1
      by_cases g1 : (x[i]).f1 < 0
      · have g : ¬ rGood x[i] := by unfold rGood; omega
        simp only [g, false_and, and_false, decide_false]
        exact ev_pos g1 (ev_now _)
      by_cases g2 : (x[i]).f1 > 1000000
      · have g : ¬ rGood x[i] := by unfold rGood; omega
        simp only [g, false_and, and_false, decide_false]
        exact ev_neg g1 (ev_pos g2 (ev_now _))
      have g : rGood x[i] := by unfold rGood; omega
      obtain ⟨v, hv, hvi⟩ := l3Saw_ev (x.take i) (x[i]).f0 (by rw [List.length_take]; omega)
      refine ev_neg g1 (ev_neg g2 (ev_pos (by omega) (hv.bind ?_)))
      refine ev_ite (fun c => ?_) (fun c => ?_)
      · have c2 : rKey x[i] ∈ (x.take i).map rKey := hvi.1 c
        simp only [c2, not_true, and_false, false_and, decide_false]
        exact ev_now _
      · have c2 : ¬ rKey x[i] ∈ (x.take i).map rKey := fun h => c (hvi.2 h)
        simp only [h2, g, c2, not_false_eq_true, and_self, true_and]
        exact ih) (by
      refine Ev.step (fun k => by rw [spec_ExecOk.l0]) ?_
      refine ev_neg (by omega) ?_
      simp only [okFrom_end rKey rGood x, true_and]
      rw [show decide (okFrom pKey pGood y 0) = u from Bool.eq_iff_iff.2 (by rw [hui]; simp)]
      exact hu) 0 (Nat.zero_le _)
  exact ⟨_, key, by simp⟩
theorem spec_ExecOk_ev (x : List S98) (y : List S118) (a b : Int) (hn : x.length ≤ 9223372036854775807) (hm : y.length ≤ 9223372036854775807) : ∃ v, Ev (fun k => spec_ExecOk.f k x y a b) v ∧ (v = true ↔ runOk x y a b) := by
  obtain ⟨u, hu, hui⟩ := sExecOk_l0 x y a b hn hm
  have yes : Ev (fun k => spec_ExecOk.j0 k true x y a b) false := by
    refine Ev.step (fun k => by rw [spec_ExecOk.j0]) ?_
    exact ev_pos rfl (ev_now _)
  have no : Ev (fun k => spec_ExecOk.j0 k false x y a b) u := by
    refine Ev.step (fun k => by rw [spec_ExecOk.j0]) ?_
    exact ev_neg (by simp) hu
  unfold spec_ExecOk.f runOk
  rw [← hui]
  simp only [l1Num_dec, Option.bind_some, decide_eq_true_eq]
  by_cases k1 : b < 0
  · exact ⟨false, ev_pos k1 yes, by simp; omega⟩
  by_cases k2 : b > 3
  · exact ⟨false, ev_neg k1 (ev_pos k2 yes), by simp; omega⟩
  have h1 : 0 ≤ b ∧ b ≤ 3 := by omega
  by_cases h2 : -1000000 ≤ a ∧ a ≤ 1000000
  case neg => exact ⟨false, ev_neg k1 (ev_neg k2 (ev_neg h2 yes)), by simp [h2]⟩
  have g3 : ∀ c : Bool, c = decide ((x.length : Int) > 0) → Ev (fun k => spec_ExecOk.j0 k c x y a b) (!c && u) := by
    intro c _
    cases c with
    | true => exact yes
    | false => exact no
  by_cases h3 : b = 0
  · have h4 : ¬ b = 3 := by omega
    exact ⟨u, ev_neg k1 (ev_neg k2 (ev_pos h2 (ev_pos h3 (ev_neg h4 no)))), by simp [h1, h2, h3, h4]⟩
  by_cases h5 : a = 0
  case neg => exact ⟨false, ev_neg k1 (ev_neg k2 (ev_pos h2 (ev_neg h3 (ev_neg h5 yes)))), by simp [h3, h5]⟩
  by_cases h6 : (y.length : Int) > 0
  · exact ⟨false, ev_neg k1 (ev_neg k2 (ev_pos h2 (ev_neg h3 (ev_pos h5 (ev_pos h6 yes))))), by simp only [Bool.false_eq_true, false_iff]; intro hh; exact (hh.2.2.1 h3).2 h6⟩
  by_cases h4 : b = 3
  · refine ⟨_, ev_neg k1 (ev_neg k2 (ev_pos h2 (ev_neg h3 (ev_pos h5 (ev_neg h6 (ev_pos h4 (g3 _ rfl))))))), ?_⟩
    by_cases h7 : (x.length : Int) > 0
    · simp only [h7, decide_true, Bool.not_true, Bool.false_and, Bool.false_eq_true, false_iff]
      intro hh; exact hh.2.2.2.1 h4 trivial
    · simp only [h7, decide_false, Bool.not_false, Bool.true_and]
      exact ⟨fun hh => ⟨h1, h2, fun _ => ⟨h5, h6⟩, fun _ => fun h => h, hh⟩, fun hh => hh.2.2.2.2⟩
  · exact ⟨u, ev_neg k1 (ev_neg k2 (ev_pos h2 (ev_neg h3 (ev_pos h5 (ev_neg h6 (ev_neg h4 no)))))), ⟨fun hh => ⟨h1, h2, fun _ => ⟨h5, h6⟩, fun h => absurd h h4, hh⟩, fun hh => hh.2.2.2.2⟩⟩

theorem l1Min_some (a b : Int) : spec_l1Min.f a b = some (mn a b) := by
  unfold spec_l1Min.f mn
  by_cases h : a < b
  · rw [if_pos h, if_neg (by omega)]
  · rw [if_neg h]
    by_cases g : b < a
    · rw [if_pos g]
    · rw [if_neg g]; congr 1; omega
theorem l3Do_ev (x : List S98) (y : List S118) (a b : Int) (hr : runOk x y a b) (hm : y.length ≤ 9223372036854775807) (l : List S96) (hl : l.length = 4) : Ev (fun k => spec_l3Do.f k l x y a b) (y.foldl put1 l) := by
  have key : ∀ d i (l : List S96), i + d = y.length → l.length = 4 → Ev (fun k => spec_l3Do.l0 k l (i : Int) x y a b) ((y.drop i).foldl put1 l) := by
    intro d
    induction d with
    | zero =>
      intro i l hi h4
      obtain rfl : i = y.length := by omega
      refine Ev.step (fun k => by rw [spec_l3Do.l0]) ?_
      refine ev_neg (by omega) ?_
      rw [List.drop_length]
      exact ev_now _
    | succ d ih =>
      intro i l hd h4
      have hi : i < y.length := by omega
      have hp := runOk_puts hr i hi
      refine Ev.step (fun k => by rw [spec_l3Do.l0]) ?_
      refine ev_pos (lt_cast hi) (ev_pos (nn_cast i) ?_)
      rw [rdi_Put hi, wrap_succ hi hm, List.drop_eq_getElem_cons hi, List.foldl_cons]
      refine ev_pos hp.1 (ev_pos (by omega) (ev_get (l1Min_some _ _) ?_))
      exact ih (i + 1) _ (by omega) (by rw [List.length_set]; exact h4)
  unfold spec_l3Do.f
  simpa using key y.length 0 l (by omega) hl
theorem spec_ExecDo_ev (l : List S96) (x : List S98) (y : List S118) (a b : Int) (hl : l.length ≤ 1048576) (hn : x.length ≤ 9223372036854775807) (hm : y.length ≤ 9223372036854775807) :
    Ev (fun k => spec_ExecDo.f k l x y a b) (doneBy l x y a b) := by
  obtain ⟨u, hu, hui⟩ := spec_BoxOk_ev l (by omega)
  obtain ⟨w, hw, hwi⟩ := spec_ExecOk_ev x y a b hn hm
  have yes : Ev (fun k => spec_ExecDo.j0 k l true x y a b) [] := by
    refine Ev.step (fun k => by rw [spec_ExecDo.j0]) ?_
    exact ev_pos rfl (ev_now _)
  unfold spec_ExecDo.f doneBy
  rw [← hui, ← hwi]
  cases u with
  | false => rw [if_neg (by simp)]; exact hu.bind (ev_neg (by simp) yes)
  | true =>
    cases w with
    | false => rw [if_neg (by simp)]; exact hu.bind (ev_pos rfl (hw.bind yes))
    | true =>
      rw [if_pos ⟨rfl, rfl⟩]
      refine hu.bind (ev_pos rfl (hw.bind ?_))
      refine Ev.step (fun k => by rw [spec_ExecDo.j0]) ?_
      refine ev_neg (by simp) (ev_get (a := l) ?_ ((l3Do_ev x y a b (hwi.1 rfl) hm l (hui.1 rfl).1).bind (ev_now _)))
      unfold spec_l1Copy.f
      simp only [Option.bind_some, List.nil_append, List.length_nil, Nat.zero_add]
      exact if_pos (by omega)

theorem in_some (a b c : Int) : ∃ v, impl_in.f a b c = some v ∧ (v = true ↔ b ≤ a ∧ a ≤ c) := by
  unfold impl_in.f
  by_cases h : a ≥ b
  · exact ⟨decide (a ≤ c), by simp [h], by simp; omega⟩
  · exact ⟨false, by simp [h], by simp; omega⟩
theorem impl_BoxOk_ev (l : List S96) (hn : l.length ≤ 9223372036854775807) : ∃ v, Ev (fun k => impl_BoxOk.f k l) v ∧ (v = true ↔ boxOk l) := by
  classical
  have key := ev_loop l.length (fun i k => impl_BoxOk.l0 k l l (l.length : Int) (i : Int)) (fun i => decide ((∀ b ∈ l.drop i, boxIn b) ∧ l.length = 4)) (fun i hi ih => by
      refine Ev.step (fun k => by rw [impl_BoxOk.l0]) ?_
      refine ev_pos (lt_cast hi) (ev_pos (nn_cast i) (ev_pos (lt_cast hi) ?_))
      rw [rd_box hi, wrap_succ hi hn]
      obtain ⟨v, hv, hvi⟩ := in_some (l[i]).f0 0 1000000
      obtain ⟨u, hu, hui⟩ := in_some (l[i]).f1 (-1000000) 1000000
      have hs := mem_split (p := boxIn) hi
      refine ev_get hv ?_
      by_cases h1 : v = true
      · refine ev_pos h1 (ev_get hu ?_)
        by_cases h2 : u = true
        · have : boxIn l[i] := by have := hvi.1 h1; have := hui.1 h2; unfold boxIn; omega
          simp only [hs, this, true_and]
          exact ev_pos h2 ih
        · have : ¬ boxIn l[i] := fun h => h2 (hui.2 (by unfold boxIn at h; omega))
          simp only [hs, this, false_and, decide_false]
          exact ev_neg h2 (ev_now _)
      · have : ¬ boxIn l[i] := fun h => h1 (hvi.2 (by unfold boxIn at h; omega))
        simp only [hs, this, false_and, decide_false]
        exact ev_neg h1 (ev_now _)) (by
      refine Ev.step (fun k => by rw [impl_BoxOk.l0]) ?_
      refine ev_neg (by omega) ?_
      have : ((l.length : Int) == 4) = decide ((∀ b ∈ l.drop l.length, boxIn b) ∧ l.length = 4) := by
        rw [List.drop_length]
        by_cases h : l.length = 4
        · simp [h]
        · have : (l.length : Int) ≠ 4 := by omega
          simp [h, this]
      rw [← this]
      exact ev_now _) 0 (Nat.zero_le _)
  exact ⟨_, Ev.congr (fun k => by unfold impl_BoxOk.f; exact rfl) key, by simp [boxOk, and_comm]⟩

theorem in_dec (a b c : Int) : impl_in.f a b c = some (decide (b ≤ a ∧ a ≤ c)) := by
  unfold impl_in.f
  by_cases h : a ≥ b
  · rw [if_pos h]; congr 1; rw [Bool.eq_iff_iff]; simp; omega
  · rw [if_neg h]; congr 1; rw [Bool.eq_iff_iff]; simp; omega

theorem ExecOk_l1 (y : List S118) (hm : y.length ≤ 9223372036854775807) : ∃ v, Ev (fun k => impl_ExecOk.l1 k y (y.length : Int) 0 false false false false) v ∧ (v = true ↔ okFrom pKey pGood y 0) := by
  classical
  have key := ev_loop y.length (fun i k => impl_ExecOk.l1 k y (y.length : Int) (i : Int) (namedIn pKey y i 0) (namedIn pKey y i 1) (namedIn pKey y i 2) (namedIn pKey y i 3)) (fun i => decide (okFrom pKey pGood y i)) (fun i hi ih => by
      refine Ev.step (fun k => by rw [impl_ExecOk.l1]) ?_
      refine ev_pos (lt_cast hi) (ev_pos (nn_cast i) (ev_pos (lt_cast hi) ?_))
      rw [rdi_Put hi, wrap_succ hi hm]
      simp only [okFrom_step pKey pGood y hi]
      refine ev_get (in_dec _ _ _) ?_
      by_cases h1 : 0 ≤ (y[i]).f0 ∧ (y[i]).f0 ≤ 3
      case neg =>
        have : ¬ (0 ≤ pKey y[i] ∧ pKey y[i] ≤ 3) := h1
        simp only [this, false_and, decide_false]
        exact ev_neg (by simpa using h1) (ev_now _)
      refine ev_pos (by simpa using h1) (ev_pos h1.1 (ev_pos (by omega) ?_))
      rw [rd_four (namedIn pKey y i) _ h1.1 h1.2]
      refine ev_ite (fun c => ?_) (fun c => ev_get (in_dec _ _ _) ?_)
      · rw [namedIn_iff] at c
        have c2 : pKey y[i] ∈ (y.take i).map pKey := c
        simp only [c2, not_true, and_false, false_and, decide_false]
        exact ev_now _
      · rw [namedIn_iff] at c
        have c2 : ¬ pKey y[i] ∈ (y.take i).map pKey := c
        have h2 : 0 ≤ pKey y[i] ∧ pKey y[i] ≤ 3 := h1
        by_cases g : pGood y[i]
        · simp only [h2, g, c2, not_false_eq_true, and_self, true_and]
          refine ev_pos (by simpa [pGood] using g) ?_
          have e : ∀ b, ixB (y[i]).f0 b true (namedIn pKey y i b) = namedIn pKey y (i + 1) b := namedIn_succ pKey y hi
          rw [e, e, e, e]
          exact ih
        · simp only [g, false_and, and_false, decide_false]
          exact ev_neg (by simpa [pGood] using g) (ev_now _)) (by
      refine Ev.step (fun k => by rw [impl_ExecOk.l1]) ?_
      refine ev_neg (by omega) ?_
      simp only [okFrom_end pKey pGood y, decide_true]
      exact ev_now _) 0 (Nat.zero_le _)
  simp only [namedIn_zero] at key
  exact ⟨_, key, by simp⟩
theorem ExecOk_l0 (x : List S98) (y : List S118) (a b : Int) (hn : x.length ≤ 9223372036854775807) (hm : y.length ≤ 9223372036854775807) :
    ∃ v, Ev (fun k => impl_ExecOk.l0 k x (x.length : Int) 0 x y a b false false false false false false false false) v ∧ (v = true ↔ okFrom rKey rGood x 0 ∧ okFrom pKey pGood y 0) := by
  classical
  obtain ⟨u, hu, hui⟩ := ExecOk_l1 y hm
  have key := ev_loop x.length (fun i k => impl_ExecOk.l0 k x (x.length : Int) (i : Int) x y a b (namedIn rKey x i 0) (namedIn rKey x i 1) (namedIn rKey x i 2) (namedIn rKey x i 3) false false false false) (fun i => decide (okFrom rKey rGood x i ∧ okFrom pKey pGood y 0)) (fun i hi ih => by
      refine Ev.step (fun k => by rw [impl_ExecOk.l0]) ?_
      refine ev_pos (lt_cast hi) (ev_pos (nn_cast i) (ev_pos (lt_cast hi) ?_))
      rw [rdi_Read hi, wrap_succ hi hn]
      simp only [okFrom_step rKey rGood x hi]
      refine ev_get (in_dec _ _ _) ?_
      by_cases h1 : 0 ≤ (x[i]).f0 ∧ (x[i]).f0 ≤ 3
      case neg =>
        have : ¬ (0 ≤ rKey x[i] ∧ rKey x[i] ≤ 3) := h1
        simp only [this, false_and, decide_false]
        exact ev_neg (by simpa using h1) (ev_now _)
      refine ev_pos (by simpa using h1) (ev_pos h1.1 (ev_pos (by omega) ?_))
      rw [rd_four (namedIn rKey x i) _ h1.1 h1.2]
      refine ev_ite (fun c => ?_) (fun c => ev_get (in_dec _ _ _) ?_)
      · rw [namedIn_iff] at c
        have c2 : rKey x[i] ∈ (x.take i).map rKey := c
        simp only [c2, not_true, and_false, false_and, decide_false]
        exact ev_now _
      · rw [namedIn_iff] at c
        have c2 : ¬ rKey x[i] ∈ (x.take i).map rKey := c
        have h2 : 0 ≤ rKey x[i] ∧ rKey x[i] ≤ 3 := h1
        by_cases g : rGood x[i]
        · simp only [h2, g, c2, not_false_eq_true, and_self, true_and]
          refine ev_pos (by simpa [rGood] using g) ?_
          have e : ∀ b, ixB (x[i]).f0 b true (namedIn rKey x i b) = namedIn rKey x (i + 1) b := namedIn_succ rKey x hi
          rw [e, e, e, e]
          exact ih
        · simp only [g, false_and, and_false, decide_false]
          exact ev_neg (by simpa [rGood] using g) (ev_now _)) (by
      refine Ev.step (fun k => by rw [impl_ExecOk.l0]) ?_
      refine ev_neg (by omega) ?_
      simp only [okFrom_end rKey rGood x, true_and]
      rw [show decide (okFrom pKey pGood y 0) = u from Bool.eq_iff_iff.2 (by rw [hui]; simp)]
      exact hu) 0 (Nat.zero_le _)
  simp only [namedIn_zero] at key
  exact ⟨_, key, by simp⟩
theorem impl_ExecOk_ev (x : List S98) (y : List S118) (a b : Int) (hn : x.length ≤ 9223372036854775807) (hm : y.length ≤ 9223372036854775807) : ∃ v, Ev (fun k => impl_ExecOk.f k x y a b) v ∧ (v = true ↔ runOk x y a b) := by
  obtain ⟨u, hu, hui⟩ := ExecOk_l0 x y a b hn hm
  have yes : Ev (fun k => impl_ExecOk.j0 k true x y a b) false := by
    refine Ev.step (fun k => by rw [impl_ExecOk.j0]) ?_
    exact ev_pos rfl (ev_now _)
  have no : Ev (fun k => impl_ExecOk.j0 k false x y a b) u := by
    refine Ev.step (fun k => by rw [impl_ExecOk.j0]) ?_
    exact ev_neg (by simp) hu
  unfold impl_ExecOk.f runOk
  rw [← hui]
  simp only [in_dec, Option.bind_some, decide_eq_true_eq]
  by_cases h1 : 0 ≤ b ∧ b ≤ 3
  case neg => exact ⟨false, ev_neg h1 yes, by simp [h1]⟩
  by_cases h2 : -1000000 ≤ a ∧ a ≤ 1000000
  case neg => exact ⟨false, ev_pos h1 (ev_neg h2 yes), by simp [h2]⟩
  have g3 : ∀ c : Bool, c = decide ((x.length : Int) > 0) → Ev (fun k => impl_ExecOk.j0 k c x y a b) (!c && u) := by
    intro c _
    cases c with
    | true => exact yes
    | false => exact no
  by_cases h3 : b = 0
  · have h4 : ¬ b = 3 := by omega
    exact ⟨u, ev_pos h1 (ev_pos h2 (ev_pos h3 (ev_neg h4 no))), by simp [h1, h2, h3, h4]⟩
  by_cases h5 : a = 0
  case neg => exact ⟨false, ev_pos h1 (ev_pos h2 (ev_neg h3 (ev_neg h5 yes))), by simp [h3, h5]⟩
  by_cases h6 : (y.length : Int) > 0
  · exact ⟨false, ev_pos h1 (ev_pos h2 (ev_neg h3 (ev_pos h5 (ev_pos h6 yes)))), by simp only [Bool.false_eq_true, false_iff]; intro hh; exact (hh.2.2.1 h3).2 h6⟩
  by_cases h4 : b = 3
  · refine ⟨_, ev_pos h1 (ev_pos h2 (ev_neg h3 (ev_pos h5 (ev_neg h6 (ev_pos h4 (g3 _ rfl)))))), ?_⟩
    by_cases h7 : (x.length : Int) > 0
    · simp only [h7, decide_true, Bool.not_true, Bool.false_and, Bool.false_eq_true, false_iff]
      intro hh; exact hh.2.2.2.1 h4 trivial
    · simp only [h7, decide_false, Bool.not_false, Bool.true_and]
      exact ⟨fun hh => ⟨h1, h2, fun _ => ⟨h5, h6⟩, fun _ => fun h => h, hh⟩, fun hh => hh.2.2.2.2⟩
  · exact ⟨u, ev_pos h1 (ev_pos h2 (ev_neg h3 (ev_pos h5 (ev_neg h6 (ev_neg h4 no))))), ⟨fun hh => ⟨h1, h2, fun _ => ⟨h5, h6⟩, fun h => absurd h h4, hh⟩, fun hh => hh.2.2.2.2⟩⟩

theorem impl_ExecDo_ev (l : List S96) (x : List S98) (y : List S118) (a b : Int) (hl : l.length ≤ 1048576) (hn : x.length ≤ 9223372036854775807) (hm : y.length ≤ 9223372036854775807) :
    Ev (fun k => impl_ExecDo.f k l x y a b) (doneBy l x y a b) := by
  obtain ⟨u, hu, hui⟩ := impl_BoxOk_ev l (by omega)
  obtain ⟨w, hw, hwi⟩ := impl_ExecOk_ev x y a b hn hm
  have yes : Ev (fun k => impl_ExecDo.j0 k l true x y a b) [] := by
    refine Ev.step (fun k => by rw [impl_ExecDo.j0]) ?_
    exact ev_pos rfl (ev_now _)
  unfold impl_ExecDo.f doneBy
  rw [← hui, ← hwi]
  cases u with
  | false => rw [if_neg (by simp)]; exact hu.bind (ev_neg (by simp) yes)
  | true =>
    cases w with
    | false => rw [if_neg (by simp)]; exact hu.bind (ev_pos rfl (hw.bind yes))
    | true =>
      rw [if_pos ⟨rfl, rfl⟩]
      have hr := hwi.1 rfl
      have key : ∀ d i (l : List S96), i + d = y.length → l.length = 4 → Ev (fun k => impl_ExecDo.l0 k l y (y.length : Int) (i : Int)) ((y.drop i).foldl put1 l) := by
        intro d
        induction d with
        | zero =>
          intro i l hi h4
          obtain rfl : i = y.length := by omega
          refine Ev.step (fun k => by rw [impl_ExecDo.l0]) ?_
          refine ev_neg (by omega) ?_
          rw [List.drop_length]
          exact ev_now _
        | succ d ih =>
          intro i l hd h4
          have hi : i < y.length := by omega
          have hp := runOk_puts hr i hi
          refine Ev.step (fun k => by rw [impl_ExecDo.l0]) ?_
          refine ev_pos (lt_cast hi) (ev_pos (nn_cast i) (ev_pos (lt_cast hi) ?_))
          rw [rdi_Put hi, wrap_succ hi hm, List.drop_eq_getElem_cons hi, List.foldl_cons]
          refine ev_pos hp.1 (ev_pos (by omega) ?_)
          exact ih (i + 1) _ (by omega) (by rw [List.length_set]; exact h4)
      refine hu.bind (ev_pos rfl (hw.bind ?_))
      refine Ev.step (fun k => by rw [impl_ExecDo.j0]) ?_
      refine ev_neg (by simp) (ev_get (a := l) ?_ ?_)
      · unfold impl_copied_impl_Box.f
        exact if_pos (by omega)
      · simpa using key y.length 0 l (by omega) (hui.1 rfl).1

/-- The numbers a, a + 1, .. laid into all fields of m elements. -/
def numbRead (a : Int) : Nat → List S98
  | 0 => []
  | m + 1 => ⟨a, a + 1⟩ :: numbRead (a + 1 + 1) m
theorem setmid_Read (p r : List S98) (x v : S98) : (p ++ x :: r).set (p.length : Int).toNat v = p ++ v :: r := by
  rw [Int.toNat_natCast, List.set_append_right _ _ (Nat.le_refl _), Nat.sub_self]; rfl
theorem rdmid_Read (p r : List S98) (x : S98) : rd_T98 (p ++ x :: r) (p.length : Int) = x := by
  rw [rdi_Read (by simp)]; simp
theorem numbRead_len (a : Int) (m : Nat) : (numbRead a m).length = m := by
  induction m generalizing a with
  | zero => rfl
  | succ m ih => simp [numbRead, ih]

theorem markReadS_ev (l : List S98) (a : Int) (h0 : 0 ≤ a) (h1 : a ≤ 1000000000) (hn : l.length ≤ 100000000) : Ev (fun k => laws_markReadS.f k l a) (a + 2 * l.length, numbRead a l.length) := by
  have key : ∀ (r p : List S98) (b : Int), 0 ≤ b → b + 2 * r.length ≤ 5000000000 → p.length + r.length ≤ 100000000 → Ev (fun k => laws_markReadS.l0 k (p ++ r) b (p.length : Int)) (b + 2 * r.length, p ++ numbRead b r.length) := by
    intro r
    induction r with
    | nil =>
      intro p b _ _ _
      refine Ev.step (fun k => by rw [laws_markReadS.l0]) ?_
      refine ev_neg (by simp) ?_
      simpa [numbRead] using ev_now _
    | cons x r ih =>
      intro p b hb hb2 hl
      simp only [List.length_cons] at hb2 hl
      refine Ev.step (fun k => by rw [laws_markReadS.l0]) ?_
      refine ev_pos (by simp; omega) (ev_pos (nn_cast _) ?_)
      have w1 : wrap64 (b + 1) = b + 1 := wrap_id (by omega) (by omega)
      have w2 : wrap64 (b + 1 + 1) = b + 1 + 1 := wrap_id (by omega) (by omega)
      have wi : wrap64 ((p.length : Int) + 1) = ((p.length + 1 : Nat) : Int) := wrap_succ (n := p.length + 1) (by omega) (by omega)
      simp only [Option.bind_some, setmid_Read, rdmid_Read, w1, w2, wi]
      have ih2 := ih (p ++ [⟨b, b + 1⟩]) (b + 1 + 1) (by omega) (by omega) (by simp; omega)
      simp only [List.append_assoc, List.singleton_append, List.length_append, List.length_singleton] at ih2
      rw [show b + 2 * ((x :: r).length : Int) = b + 1 + 1 + 2 * (r.length : Int) by simp only [List.length_cons]; omega]
      simpa [numbRead] using ih2
  unfold laws_markReadS.f
  simpa using key l [] a h0 (by omega) (by simpa using hn)

/-- The numbers a, a + 1, .. laid into all fields of m elements. -/
def numbPut (a : Int) : Nat → List S118
  | 0 => []
  | m + 1 => ⟨a, a + 1⟩ :: numbPut (a + 1 + 1) m
theorem setmid_Put (p r : List S118) (x v : S118) : (p ++ x :: r).set (p.length : Int).toNat v = p ++ v :: r := by
  rw [Int.toNat_natCast, List.set_append_right _ _ (Nat.le_refl _), Nat.sub_self]; rfl
theorem rdmid_Put (p r : List S118) (x : S118) : rd_T118 (p ++ x :: r) (p.length : Int) = x := by
  rw [rdi_Put (by simp)]; simp
theorem numbPut_len (a : Int) (m : Nat) : (numbPut a m).length = m := by
  induction m generalizing a with
  | zero => rfl
  | succ m ih => simp [numbPut, ih]

theorem markPutS_ev (l : List S118) (a : Int) (h0 : 0 ≤ a) (h1 : a ≤ 1000000000) (hn : l.length ≤ 100000000) : Ev (fun k => laws_markPutS.f k l a) (a + 2 * l.length, numbPut a l.length) := by
  have key : ∀ (r p : List S118) (b : Int), 0 ≤ b → b + 2 * r.length ≤ 5000000000 → p.length + r.length ≤ 100000000 → Ev (fun k => laws_markPutS.l0 k (p ++ r) b (p.length : Int)) (b + 2 * r.length, p ++ numbPut b r.length) := by
    intro r
    induction r with
    | nil =>
      intro p b _ _ _
      refine Ev.step (fun k => by rw [laws_markPutS.l0]) ?_
      refine ev_neg (by simp) ?_
      simpa [numbPut] using ev_now _
    | cons x r ih =>
      intro p b hb hb2 hl
      simp only [List.length_cons] at hb2 hl
      refine Ev.step (fun k => by rw [laws_markPutS.l0]) ?_
      refine ev_pos (by simp; omega) (ev_pos (nn_cast _) ?_)
      have w1 : wrap64 (b + 1) = b + 1 := wrap_id (by omega) (by omega)
      have w2 : wrap64 (b + 1 + 1) = b + 1 + 1 := wrap_id (by omega) (by omega)
      have wi : wrap64 ((p.length : Int) + 1) = ((p.length + 1 : Nat) : Int) := wrap_succ (n := p.length + 1) (by omega) (by omega)
      simp only [Option.bind_some, setmid_Put, rdmid_Put, w1, w2, wi]
      have ih2 := ih (p ++ [⟨b, b + 1⟩]) (b + 1 + 1) (by omega) (by omega) (by simp; omega)
      simp only [List.append_assoc, List.singleton_append, List.length_append, List.length_singleton] at ih2
      rw [show b + 2 * ((x :: r).length : Int) = b + 1 + 1 + 2 * (r.length : Int) by simp only [List.length_cons]; omega]
      simpa [numbPut] using ih2
  unfold laws_markPutS.f
  simpa using key l [] a h0 (by omega) (by simpa using hn)

theorem markRun_ev (x : List S98) (y : List S118) (a b c : Int) (h0 : 0 ≤ c) (h1 : c ≤ 100000000) (hn : x.length ≤ 1048576) (hm : y.length ≤ 1048576) :
    Ev (fun k => laws_markRun.f k x y a b c) (c + 2 * x.length + 2 * y.length, numbRead c x.length, numbPut (c + 2 * x.length) y.length) := by
  unfold laws_markRun.f
  exact (markReadS_ev x c h0 (by omega) (by omega)).bind ((markPutS_ev y (c + 2 * x.length) (by omega) (by omega) (by omega)).bind (ev_now _))

/-- The numbers a, a + 1, .. laid into all fields of m elements. -/
def numbBox (a : Int) : Nat → List S96
  | 0 => []
  | m + 1 => ⟨a, a + 1⟩ :: numbBox (a + 1 + 1) m
theorem setmid_Box (p r : List S96) (x v : S96) : (p ++ x :: r).set (p.length : Int).toNat v = p ++ v :: r := by
  rw [Int.toNat_natCast, List.set_append_right _ _ (Nat.le_refl _), Nat.sub_self]; rfl
theorem rdmid_Box (p r : List S96) (x : S96) : rd_T96 (p ++ x :: r) (p.length : Int) = x := by
  rw [rdi_Box (by simp)]; simp
theorem numbBox_len (a : Int) (m : Nat) : (numbBox a m).length = m := by
  induction m generalizing a with
  | zero => rfl
  | succ m ih => simp [numbBox, ih]

theorem markBoxS_ev (l : List S96) (a : Int) (h0 : 0 ≤ a) (h1 : a ≤ 1000000000) (hn : l.length ≤ 100000000) : Ev (fun k => laws_markBoxS.f k l a) (a + 2 * l.length, numbBox a l.length) := by
  have key : ∀ (r p : List S96) (b : Int), 0 ≤ b → b + 2 * r.length ≤ 5000000000 → p.length + r.length ≤ 100000000 → Ev (fun k => laws_markBoxS.l0 k (p ++ r) b (p.length : Int)) (b + 2 * r.length, p ++ numbBox b r.length) := by
    intro r
    induction r with
    | nil =>
      intro p b _ _ _
      refine Ev.step (fun k => by rw [laws_markBoxS.l0]) ?_
      refine ev_neg (by simp) ?_
      simpa [numbBox] using ev_now _
    | cons x r ih =>
      intro p b hb hb2 hl
      simp only [List.length_cons] at hb2 hl
      refine Ev.step (fun k => by rw [laws_markBoxS.l0]) ?_
      refine ev_pos (by simp; omega) (ev_pos (nn_cast _) ?_)
      have w1 : wrap64 (b + 1) = b + 1 := wrap_id (by omega) (by omega)
      have w2 : wrap64 (b + 1 + 1) = b + 1 + 1 := wrap_id (by omega) (by omega)
      have wi : wrap64 ((p.length : Int) + 1) = ((p.length + 1 : Nat) : Int) := wrap_succ (n := p.length + 1) (by omega) (by omega)
      simp only [Option.bind_some, setmid_Box, rdmid_Box, w1, w2, wi]
      have ih2 := ih (p ++ [⟨b, b + 1⟩]) (b + 1 + 1) (by omega) (by omega) (by simp; omega)
      simp only [List.append_assoc, List.singleton_append, List.length_append, List.length_singleton] at ih2
      rw [show b + 2 * ((x :: r).length : Int) = b + 1 + 1 + 2 * (r.length : Int) by simp only [List.length_cons]; omega]
      simpa [numbBox] using ih2
  unfold laws_markBoxS.f
  simpa using key l [] a h0 (by omega) (by simpa using hn)

theorem heldBoxS_ev (a : Int) (m : Nat) (h0 : 0 ≤ a) (h1 : a ≤ 1000000000) (hn : m ≤ 100000000) : Ev (fun k => laws_heldBoxS.f k (numbBox a m) a) (a + 2 * m) := by
  have key : ∀ (m : Nat) (p : List S96) (b : Int), 0 ≤ b → b + 2 * m ≤ 5000000000 → p.length + m ≤ 100000000 → Ev (fun k => laws_heldBoxS.l0 k (p ++ numbBox b m) b (p.length : Int)) (b + 2 * m) := by
    intro m
    induction m with
    | zero =>
      intro p b _ _ _
      refine Ev.step (fun k => by rw [laws_heldBoxS.l0]) ?_
      refine ev_neg (by simp [numbBox]) ?_
      simpa using ev_now _
    | succ m ih =>
      intro p b hb hb2 hl
      refine Ev.step (fun k => by rw [laws_heldBoxS.l0]) ?_
      refine ev_pos (by simp [numbBox]; omega) (ev_pos (nn_cast _) ?_)
      have w1 : wrap64 (b + 1) = b + 1 := wrap_id (by omega) (by omega)
      have w2 : wrap64 (b + 1 + 1) = b + 1 + 1 := wrap_id (by omega) (by omega)
      have wi : wrap64 ((p.length : Int) + 1) = ((p.length + 1 : Nat) : Int) := wrap_succ (n := p.length + 1) (by omega) (by omega)
      simp only [numbBox, rdmid_Box, w1, w2, wi]
      refine ev_pos (by trivial) (ev_pos (by trivial) ?_)
      have ih2 := ih (p ++ [⟨b, b + 1⟩]) (b + 1 + 1) (by omega) (by omega) (by simp; omega)
      simp only [List.append_assoc, List.singleton_append, List.length_append, List.length_singleton] at ih2
      rw [show b + 2 * ((m + 1 : Nat) : Int) = b + 1 + 1 + 2 * (m : Int) by omega]
      exact ih2
  unfold laws_heldBoxS.f
  simpa using key m [] a h0 (by omega) (by simpa using hn)

theorem FnExactExecDo : laws_FnExactExecDo.Pure := by
  intro l x ⟨hl, _⟩ hx
  refine Ev.rounds ?_
  unfold laws_FnExactExecDo.f
  refine ev_get (szBoxS_some l 1048576 hl (by omega) (by omega)) ?_
  by_cases hs0 : (1048576 : Int) < l.length
  · rw [if_pos hs0]
    exact ev_pos (by omega) (ev_now _)
  rw [if_neg hs0]
  refine ev_neg (by omega) ?_
  obtain ⟨s, hs, hsi⟩ := szRun_some x (1048576 - l.length) (by omega) (by omega) hx.1.1 hx.2.1.1
  refine ev_get hs (ev_ite (fun _ => ev_now _) (fun h0 => ?_))
  obtain ⟨s1, s2, s3⟩ := hsi (by omega)
  have hbo := toBoxS_ev l (by omega)
  have hto := toRun_ev x (by omega) (by omega)
  have hv := spec_ExecDo_ev (l.map toBox) (x.f0.map toRead) (x.f1.map toPut) x.f2 x.f3 (by simp; omega) (by simp; omega) (by simp; omega)
  have hu := impl_ExecDo_ev (l.map toBox) (x.f0.map toRead) (x.f1.map toPut) x.f2 x.f3 (by simp; omega) (by simp; omega) (by simp; omega)
  have h4 := doneBy_len (l.map toBox) (x.f0.map toRead) (x.f1.map toPut) x.f2 x.f3
  generalize doneBy (l.map toBox) (x.f0.map toRead) (x.f1.map toPut) x.f2 x.f3 = d at hv hu h4
  have he := eqRun_self (x.f0.map toRead) (x.f1.map toPut) x.f2 x.f3 (by simp; omega) (by simp; omega)
  obtain ⟨e, hb, hbi⟩ := eqBoxS_ev (l.map toBox) (l.map toBox) (by simp; omega)
  obtain rfl : e = true := hbi.2 rfl
  obtain ⟨e2, hd, hdi⟩ := eqBoxS_ev d d (by omega)
  obtain rfl : e2 = true := hdi.2 rfl
  have hmb := markBoxS_ev (l.map toBox) 1 (by omega) (by omega) (by simp; omega)
  have hmr := markRun_ev (x.f0.map toRead) (x.f1.map toPut) x.f2 x.f3 (1 + 2 * ((l.map toBox).length : Int)) (by omega) (by simp; omega) (by simp; omega) (by simp; omega)
  have hmd := markBoxS_ev d 1 (by omega) (by omega) (by omega)
  have hhd := heldBoxS_ev 1 d.length (by omega) (by omega) (by omega)
  refine hbo.bind (hto.bind (hv.bind (hbo.bind (hto.bind (hu.bind (hd.bind (ev_pos rfl (hbo.bind (hb.bind (ev_pos rfl (hto.bind (he.bind (ev_pos rfl (hmb.bind (hmr.bind ?_)))))))))))))))
  refine ev_neg (by simp; omega) (hd.bind (ev_pos rfl (hmd.bind (hhd.bind ?_))))
  refine ev_neg (by simp; omega) (ev_pos rfl (hbo.bind (hto.bind (hu.bind (hd.bind (ev_pos rfl (hhd.bind ?_)))))))
  exact ev_neg (by simp; omega) (ev_pos rfl (ev_now _))

end Go.Proofs.Ytbocpmlppkdhmaa.Pure
