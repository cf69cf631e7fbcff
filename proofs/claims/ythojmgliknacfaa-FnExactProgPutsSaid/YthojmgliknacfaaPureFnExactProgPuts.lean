/- The pure law of FnExactProgPuts: what the printed function of the law answers is true, for every input. Its condition: none but what the row says. -/
import Derived.Test.YthojmgliknacfaaPFnExactProgPutsx3
namespace Go.Proofs.Ythojmgliknacfaa.Pure
open Go.RowKit Go.Proofs.Ythojmgliknacfaa.PFnExactProgPuts Go.Proofs.YthojmgliknacfaaW.PrintWords Go.Proofs.YthojmgliknacfaaW.PrintLast
set_option linter.unusedVariables false
set_option linter.unusedSimpArgs false
set_option linter.unusedSectionVars false

theorem wrap_succ {i n : Nat} (h : i < n) (hn : n ≤ 9223372036854775807) : wrap64 ((i : Int) + 1) = ((i + 1 : Nat) : Int) := by unfold wrap64; omega
theorem wrap_id {a : Int} (h0 : -9223372036854775808 ≤ a) (h1 : a ≤ 9223372036854775807) : wrap64 a = a := by unfold wrap64; omega
theorem ev_pos {α : Type} {c : Prop} [Decidable c] {f g : Nat → Option α} {r : α} (h : c) (e : Ev f r) : Ev (fun k => if c then f k else g k) r := by
  simp only [if_pos h]; exact e
theorem ev_neg {α : Type} {c : Prop} [Decidable c] {f g : Nat → Option α} {r : α} (h : ¬ c) (e : Ev g r) : Ev (fun k => if c then f k else g k) r := by
  simp only [if_neg h]; exact e
theorem ev_ite {α : Type} {c : Prop} [Decidable c] {f g : Nat → Option α} {r : α} (h1 : c → Ev f r) (h2 : ¬ c → Ev g r) : Ev (fun k => if c then f k else g k) r := by
  by_cases h : c
  · exact ev_pos h (h1 h)
  · exact ev_neg h (h2 h)
theorem ev_now {α : Type} (r : α) : Ev (fun _ => some r) r := Ev.now r
theorem ev_get {α β : Type} {g : Option α} {f : Nat → α → Option β} {a : α} {r : β} (h : g = some a) (k : Ev (fun n => f n a) r) : Ev (fun n => g.bind (f n)) r := by
  subst h; exact k
theorem ev_of_eq {α : Type} {g : Nat → Option α} {a : Option α} {r : α} (h : ∀ k, g k = a) (e : a = some r) : Ev g r := ⟨0, fun k _ => (h k).trans e⟩
/-- A loop over 0 .. n - 1: what it answers from i on. -/
theorem ev_loop {α : Type} (n : Nat) (F : Nat → Nat → Option α) (v : Nat → α) (step : ∀ i, i < n → Ev (F (i + 1)) (v (i + 1)) → Ev (F i) (v i)) (last : Ev (F n) (v n)) : ∀ i, i ≤ n → Ev (F i) (v i) := by
  have key : ∀ d i, i + d = n → Ev (F i) (v i) := by
    intro d
    induction d with
    | zero => intro i h; obtain rfl : i = n := by omega
              exact last
    | succ d ih => intro i h; exact step i (by omega) (ih (i + 1) (by omega))
  exact fun i hi => key (n - i) i (by omega)
theorem lt_cast {i n : Nat} (h : i < n) : (i : Int) < (n : Int) := Int.ofNat_lt.2 h
theorem nn_cast (i : Nat) : (0 : Int) ≤ (i : Int) := Int.natCast_nonneg i
theorem set_state {α : Type} (xs : List α) (z : α) (i : Nat) (h : i < xs.length) : (xs.take i ++ List.replicate (xs.length - i) z).set i xs[i] = xs.take (i + 1) ++ List.replicate (xs.length - (i + 1)) z := by
  rw [List.take_succ_eq_append_getElem h, List.append_assoc, List.set_append_right _ _ (by rw [List.length_take]; omega)]
  congr 1
  rw [List.length_take, Nat.min_eq_left (by omega), Nat.sub_self, show xs.length - i = (xs.length - (i + 1)) + 1 by omega, List.replicate_succ]
  rfl
theorem state_len {α : Type} (xs : List α) (z : α) (i : Nat) (h : i ≤ xs.length) : (xs.take i ++ List.replicate (xs.length - i) z).length = xs.length := by
  rw [List.length_append, List.length_take, List.length_replicate]; omega
theorem drop_eq {α : Type} {x y : List α} (hl : x.length = y.length) {i : Nat} (h : i < x.length) : (x.drop i = y.drop i) ↔ (x[i] = y[i]'(hl ▸ h) ∧ x.drop (i + 1) = y.drop (i + 1)) := by
  have h2 : i < y.length := hl ▸ h
  rw [List.drop_eq_getElem_cons h, List.drop_eq_getElem_cons h2, List.cons.injEq]
theorem mem_split {α : Type} {p : α → Prop} {l : List α} {i : Nat} (h : i < l.length) : (∀ b ∈ l.drop i, p b) ↔ p l[i] ∧ ∀ b ∈ l.drop (i + 1), p b := by
  rw [List.drop_eq_getElem_cons h]
  simp only [List.mem_cons, forall_eq_or_imp]

theorem rd_i {l : List Int} {i : Nat} (h : i < l.length) : rd l (i : Int) = l[i] := by
  unfold rd
  rw [Int.toNat_natCast, List.getD_eq_getElem?_getD, List.getElem?_eq_getElem h]
  rfl

theorem eqIntS_self (x : List Int) (hn : x.length ≤ 9223372036854775807) : Ev (fun k => laws_eqIntS.f k x x) true := by
  have key := ev_loop x.length (fun i k => laws_eqIntS.l0 k x x (i : Int)) (fun _ => true) (fun i hi ih => by
    refine Ev.step (fun k => by rw [laws_eqIntS.l0]) ?_
    refine ev_pos (lt_cast hi) (ev_pos (nn_cast i) (ev_pos (lt_cast hi) (ev_pos rfl ?_)))
    rw [wrap_succ hi hn]
    exact ih) (by
    refine Ev.step (fun k => by rw [laws_eqIntS.l0]) ?_
    exact ev_neg (by omega) (ev_now _)) 0 (Nat.zero_le _)
  exact Ev.congr (fun k => by unfold laws_eqIntS.f; exact if_pos rfl) key

/-- The numbers a, a + 1, .. -/
def numbI (a : Int) : Nat → List Int
  | 0 => []
  | m + 1 => a :: numbI (a + 1) m
theorem setmid_I (p r : List Int) (x v : Int) : (p ++ x :: r).set (p.length : Int).toNat v = p ++ v :: r := by
  rw [Int.toNat_natCast, List.set_append_right _ _ (Nat.le_refl _), Nat.sub_self]; rfl
theorem rdmid_I (p r : List Int) (x : Int) : rd (p ++ x :: r) (p.length : Int) = x := by
  rw [rd_i (by simp)]; simp
theorem markIntS_ev (l : List Int) (a : Int) (h0 : 0 ≤ a) (h1 : a ≤ 1000000000) (hn : l.length ≤ 100000000) : Ev (fun k => laws_markIntS.f k l a) (a + l.length, numbI a l.length) := by
  have key : ∀ (r p : List Int) (b : Int), 0 ≤ b → b + r.length ≤ 5000000000 → p.length + r.length ≤ 100000000 → Ev (fun k => laws_markIntS.l0 k (p ++ r) b (p.length : Int)) (b + r.length, p ++ numbI b r.length) := by
    intro r
    induction r with
    | nil =>
      intro p b _ _ _
      refine Ev.step (fun k => by rw [laws_markIntS.l0]) ?_
      refine ev_neg (by simp) ?_
      simpa [numbI] using ev_now _
    | cons x r ih =>
      intro p b hb hb2 hl
      simp only [List.length_cons] at hb2 hl
      refine Ev.step (fun k => by rw [laws_markIntS.l0]) ?_
      refine ev_pos (by simp; omega) (ev_pos (nn_cast _) ?_)
      have w1 : wrap64 (b + 1) = b + 1 := wrap_id (by omega) (by omega)
      have wi : wrap64 ((p.length : Int) + 1) = ((p.length + 1 : Nat) : Int) := wrap_succ (n := p.length + 1) (by omega) (by omega)
      simp only [setmid_I, w1, wi]
      have ih2 := ih (p ++ [b]) (b + 1) (by omega) (by omega) (by simp; omega)
      simp only [List.append_assoc, List.singleton_append, List.length_append, List.length_singleton] at ih2
      rw [show b + ((x :: r).length : Int) = b + 1 + (r.length : Int) by simp only [List.length_cons]; omega]
      simpa [numbI] using ih2
  unfold laws_markIntS.f
  simpa using key l [] a h0 (by omega) (by simpa using hn)
theorem heldIntS_ev (a : Int) (m : Nat) (h0 : 0 ≤ a) (h1 : a ≤ 1000000000) (hn : m ≤ 100000000) : Ev (fun k => laws_heldIntS.f k (numbI a m) a) (a + m) := by
  have key : ∀ (m : Nat) (p : List Int) (b : Int), 0 ≤ b → b + m ≤ 5000000000 → p.length + m ≤ 100000000 → Ev (fun k => laws_heldIntS.l0 k (p ++ numbI b m) b (p.length : Int)) (b + m) := by
    intro m
    induction m with
    | zero =>
      intro p b _ _ _
      refine Ev.step (fun k => by rw [laws_heldIntS.l0]) ?_
      refine ev_neg (by simp [numbI]) ?_
      simpa using ev_now _
    | succ m ih =>
      intro p b hb hb2 hl
      refine Ev.step (fun k => by rw [laws_heldIntS.l0]) ?_
      refine ev_pos (by simp [numbI]; omega) (ev_pos (nn_cast _) ?_)
      have w1 : wrap64 (b + 1) = b + 1 := wrap_id (by omega) (by omega)
      have wi : wrap64 ((p.length : Int) + 1) = ((p.length + 1 : Nat) : Int) := wrap_succ (n := p.length + 1) (by omega) (by omega)
      simp only [numbI, rdmid_I, w1, wi]
      refine ev_pos (by trivial) ?_
      have ih2 := ih (p ++ [b]) (b + 1) (by omega) (by omega) (by simp; omega)
      simp only [List.append_assoc, List.singleton_append, List.length_append, List.length_singleton] at ih2
      rw [show b + ((m + 1 : Nat) : Int) = b + 1 + (m : Int) by omega]
      exact ih2
  unfold laws_heldIntS.f
  simpa using key m [] a h0 (by omega) (by simpa using hn)

theorem ext_Ins {a b : S70} (h0 : a.f0 = b.f0) (h1 : a.f1 = b.f1) (h2 : a.f2 = b.f2) (h3 : a.f3 = b.f3) : a = b := by
  obtain ⟨a0_, a1_, a2_, a3_⟩ := a; obtain ⟨b0_, b1_, b2_, b3_⟩ := b; simp_all
theorem rdi_Ins {l : List S70} {i : Nat} (h : i < l.length) : rd_T70 l (i : Int) = l[i] := by
  unfold rd_T70
  rw [Int.toNat_natCast, List.getD_eq_getElem?_getD, List.getElem?_eq_getElem h]
  rfl

/-- Of 0 .. m - 1, those that p names. -/
def pick (p : Int → Bool) (m : Nat) : List Int := ((List.range m).map (fun i : Nat => (i : Int))).filter p
theorem pick_succ (p : Int → Bool) (m : Nat) : pick p (m + 1) = if p m = true then pick p m ++ [(m : Int)] else pick p m := by
  unfold pick
  rw [List.range_succ, List.map_append, List.filter_append]
  by_cases h : p m = true
  · simp [h]
  · simp [h]
theorem pick_len (p : Int → Bool) (m : Nat) : (pick p m).length ≤ m := by
  unfold pick
  exact Nat.le_trans (List.length_filter_le _ _) (by simp)
theorem pick_same {p q : Int → Bool} (m : Nat) (h : ∀ i : Nat, i < m → p i = q i) : pick p m = pick q m := by
  unfold pick
  refine List.filter_congr ?_
  intro x hx
  simp only [List.mem_map, List.mem_range] at hx
  obtain ⟨i, hi, rfl⟩ := hx
  exact h i hi
/-- What an instruction of kind c touches. -/
def hit (c : Int) (i : Int) (x : S70) : Bool := decide (x.f0 = c) && ((decide (c = 1) && decide (x.f2 = i)) || (decide (c = 2) && decide (x.f1 = i)))
theorem any_drop {α : Type} (l : List α) (p : α → Bool) {j : Nat} (h : j < l.length) : (l.drop j).any p = (p l[j] || (l.drop (j + 1)).any p) := by
  rw [List.drop_eq_getElem_cons h, List.any_cons]
theorem boxesOf_ev (g0 g1 g2 g3 : Bool) : Ev (fun k => impl_boxesOf.f k g0 g1 g2 g3) (pick (fun i => rdOf false [g0, g1, g2, g3] i) 4) := by
  have key := ev_loop 4 (fun i k => impl_boxesOf.l0 k (pick (fun i => rdOf false [g0, g1, g2, g3] i) i) (i : Int) g0 g1 g2 g3) (fun _ => pick (fun i => rdOf false [g0, g1, g2, g3] i) 4) (fun i hi ih => by
    have wi : wrap64 ((i : Int) + 1) = ((i + 1 : Nat) : Int) := wrap_succ hi (by omega)
    refine Ev.step (fun k => by rw [impl_boxesOf.l0]) ?_
    refine ev_pos (by omega) (ev_pos (by omega) ?_)
    rw [pick_succ] at ih
    rw [wi]
    refine ev_ite (fun h => ev_pos (by have := pick_len (fun i => rdOf false [g0, g1, g2, g3] i) i; omega) ?_) (fun h => ?_)
    · rw [if_pos h] at ih; exact ih
    · rw [if_neg h] at ih; exact ih) (by
    refine Ev.step (fun k => by rw [impl_boxesOf.l0]) ?_
    refine ev_neg (by omega) ?_
    refine ev_get (a := pick (fun i => rdOf false [g0, g1, g2, g3] i) 4) ?_ (ev_now _)
    unfold impl_copied_int.f
    exact if_pos (by have := pick_len (fun i => rdOf false [g0, g1, g2, g3] i) 4; omega)) 0 (Nat.zero_le _)
  exact key
theorem in_dec' (a b c : Int) : impl_in.f a b c = some (decide (b ≤ a ∧ a ≤ c)) := by
  unfold impl_in.f
  by_cases h : a ≥ b
  · rw [if_pos h]; congr 1; rw [Bool.eq_iff_iff]; simp; omega
  · rw [if_neg h]; congr 1; rw [Bool.eq_iff_iff]; simp; omega
theorem ixB_true (j i : Int) (f : Bool) : ixB j i true f = (f || decide (j = i)) := by
  unfold ixB
  by_cases h : j = i
  · rw [if_pos h]; simp [h]
  · rw [if_neg h]; simp [h]
theorem hit_ne {c : Int} (i : Int) {x : S70} (h : x.f0 ≠ c) : hit c i x = false := by simp [hit, h]

theorem l2Boxes_l1 (l : List S70) (c : Int) (acc : List Int) (i : Int) (r : List Int) (hn : l.length ≤ 9223372036854775807) (ha : acc.length < 4) (hi : 0 ≤ i) (hi4 : i < 4)
    (H : Ev (fun k => spec_l2Boxes.l0 k l c (if (l.any (hit c i)) = true then acc ++ [i] else acc) (i + 1)) r) : Ev (fun k => spec_l2Boxes.l1 k l c acc i false 0) r := by
  have wi : wrap64 (i + 1) = i + 1 := wrap_id (by omega) (by omega)
  have key : ∀ d j b, j + d = l.length → (b || (l.drop j).any (hit c i)) = l.any (hit c i) → Ev (fun k => spec_l2Boxes.l1 k l c acc i b (j : Int)) r := by
    intro d
    induction d with
    | zero =>
      intro j b h hb
      obtain rfl : j = l.length := by omega
      rw [List.drop_length, List.any_nil, Bool.or_false] at hb
      subst hb
      refine Ev.step (fun k => by rw [spec_l2Boxes.l1]) ?_
      refine ev_neg (by omega) ?_
      refine ev_ite (fun h => ev_pos (by omega) ?_) (fun h => ?_)
      · rw [if_pos h] at H; rw [wi]; exact H
      · rw [if_neg h] at H; rw [wi]; exact H
    | succ d ih =>
      intro j b h hb
      have hj : j < l.length := by omega
      have nx : ∀ b', b' = (b || hit c i l[j]) → Ev (fun k => spec_l2Boxes.l1 k l c acc i b' (wrap64 ((j : Int) + 1))) r := by
        intro b' hb'
        rw [wrap_succ hj hn]
        refine ih (j + 1) b' (by omega) ?_
        rw [hb', ← hb, any_drop l _ hj, Bool.or_assoc]
      refine Ev.step (fun k => by rw [spec_l2Boxes.l1]) ?_
      refine ev_pos (lt_cast hj) ?_
      refine ev_ite (fun hbt => nx true (by simp [hbt])) (fun hbt => ev_pos (nn_cast j) ?_)
      rw [Bool.not_eq_true] at hbt
      subst hbt
      rw [rdi_Ins hj]
      refine ev_ite (fun h0 => ev_ite (fun h1 => ev_ite (fun h2 => nx true (by simp [hit, h0, h1, h2])) (fun h2 => ev_neg (by omega) (nx false (by simp [hit, h0, h1, h2])))) (fun h1 => ev_ite (fun h2 => nx _ ?_) (fun h2 => nx false (by simp [hit, h1, h2])))) (fun h0 => nx false (by simp [hit, h0]))
      rw [Bool.eq_iff_iff]; simp [hit, h0, h2]
  exact key l.length 0 false (by omega) (by simp)
theorem l2Boxes_ev (l : List S70) (c : Int) (hn : l.length ≤ 9223372036854775807) : Ev (fun k => spec_l2Boxes.f k l c) (pick (fun i => l.any (hit c i)) 4) := by
  have key := ev_loop 4 (fun i k => spec_l2Boxes.l0 k l c (pick (fun i => l.any (hit c i)) i) (i : Int)) (fun _ => pick (fun i => l.any (hit c i)) 4) (fun i hi ih => by
    refine Ev.step (fun k => by rw [spec_l2Boxes.l0]) ?_
    refine ev_pos (by omega) ?_
    refine l2Boxes_l1 l c _ i _ hn (by have := pick_len (fun i => l.any (hit c i)) i; omega) (by omega) (by omega) ?_
    rw [pick_succ] at ih
    exact ih) (by
    refine Ev.step (fun k => by rw [spec_l2Boxes.l0]) ?_
    refine ev_neg (by omega) ?_
    exact ev_now _) 0 (Nat.zero_le _)
  exact key

theorem impl_ProgPuts_ev (l : List S70) (hn : l.length ≤ 9223372036854775807) : Ev (fun k => impl_ProgPuts.f k l) (pick (fun i => l.any (hit 2 i)) 4) := by
  have key : ∀ d j (b0 b1 b2 b3 : Bool), j + d = l.length → (b0 || (l.drop j).any (hit 2 0)) = l.any (hit 2 0) → (b1 || (l.drop j).any (hit 2 1)) = l.any (hit 2 1) → (b2 || (l.drop j).any (hit 2 2)) = l.any (hit 2 2) → (b3 || (l.drop j).any (hit 2 3)) = l.any (hit 2 3) → Ev (fun k => impl_ProgPuts.l0 k l (l.length : Int) (j : Int) b0 b1 b2 b3) (pick (fun i => l.any (hit 2 i)) 4) := by
    intro d
    induction d with
    | zero =>
      intro j b0 b1 b2 b3 h h0 h1 h2 h3
      obtain rfl : j = l.length := by omega
      rw [List.drop_length, List.any_nil, Bool.or_false] at h0 h1 h2 h3
      subst h0 h1 h2 h3
      refine Ev.step (fun k => by rw [impl_ProgPuts.l0]) ?_
      refine ev_neg (by omega) ?_
      refine (boxesOf_ev _ _ _ _).bind ?_
      rw [pick_same (q := fun i => l.any (hit 2 i)) 4 (fun i hi => by
        rcases i with _ | _ | _ | _ | i
        · rfl
        · rfl
        · rfl
        · rfl
        · omega)]
      exact ev_now _
    | succ d ih =>
      intro j b0 b1 b2 b3 h h0 h1 h2 h3
      have hj : j < l.length := by omega
      rw [any_drop l _ hj, ← Bool.or_assoc] at h0 h1 h2 h3
      refine Ev.step (fun k => by rw [impl_ProgPuts.l0]) ?_
      refine ev_pos (lt_cast hj) (ev_pos (nn_cast j) (ev_pos (lt_cast hj) ?_))
      rw [rdi_Ins hj, wrap_succ hj hn]
      have nx : ∀ c0 c1 c2 c3, c0 = (b0 || hit 2 0 l[j]) → c1 = (b1 || hit 2 1 l[j]) → c2 = (b2 || hit 2 2 l[j]) → c3 = (b3 || hit 2 3 l[j]) → Ev (fun k => impl_ProgPuts.l0 k l (l.length : Int) ((j + 1 : Nat) : Int) c0 c1 c2 c3) (pick (fun i => l.any (hit 2 i)) 4) := by
        intro c0 c1 c2 c3 e0 e1 e2 e3
        exact ih (j + 1) c0 c1 c2 c3 (by omega) (by rw [e0]; exact h0) (by rw [e1]; exact h1) (by rw [e2]; exact h2) (by rw [e3]; exact h3)
      by_cases hk : (l[j]).f0 = 2
      · refine ev_pos hk (ev_get (in_dec' _ _ _) ?_)
        have hh : ∀ i : Int, hit 2 i l[j] = decide ((l[j]).f1 = i) := by intro i; simp [hit, hk]
        by_cases hr : 0 ≤ (l[j]).f1 ∧ (l[j]).f1 ≤ 3
        · refine ev_pos (by simpa using hr) (ev_pos (by omega) (ev_pos (by omega) ?_))
          exact nx _ _ _ _ (by rw [hh, ixB_true]) (by rw [hh, ixB_true]) (by rw [hh, ixB_true]) (by rw [hh, ixB_true])
        · refine ev_neg (by simpa using hr) ?_
          refine nx _ _ _ _ ?_ ?_ ?_ ?_ <;> (rw [hh, decide_eq_false (by omega), Bool.or_false])
      · refine ev_neg hk ?_
        exact nx _ _ _ _ (by rw [hit_ne _ hk, Bool.or_false]) (by rw [hit_ne _ hk, Bool.or_false]) (by rw [hit_ne _ hk, Bool.or_false]) (by rw [hit_ne _ hk, Bool.or_false])
  exact Ev.congr (fun k => by unfold impl_ProgPuts.f; exact rfl) (key l.length 0 false false false false (by omega) (by simp) (by simp) (by simp) (by simp))

theorem spec_ProgPuts_ev (l : List S70) (hn : l.length ≤ 9223372036854775807) : Ev (fun k => spec_ProgPuts.f k l) (pick (fun i => l.any (hit 2 i)) 4) := by
  unfold spec_ProgPuts.f
  exact (l2Boxes_ev l 2 hn).bind (ev_now _)

theorem szInsS_some (l : List S72) (a : Int) (hn : l.length ≤ 9223372036854775807) (h0 : 0 ≤ a) (h1 : a ≤ 1048576) : laws_szInsS.f l a = some (if a < l.length then -1 else a - l.length) := by
  unfold laws_szInsS.f
  have hw : wrap64 (a - (l.length : Int)) = a - l.length := wrap_id (by omega) (by omega)
  rw [hw]
  by_cases h : a < l.length
  · rw [if_pos (by omega), if_pos h]
  · rw [if_neg (by omega), if_neg h]

theorem rdl_Ins {l : List S72} {i : Nat} (h : i < l.length) : rd_T72 l (i : Int) = l[i] := by
  unfold rd_T72
  rw [Int.toNat_natCast, List.getD_eq_getElem?_getD, List.getElem?_eq_getElem h]
  rfl

def toIns (x : S72) : S70 := ⟨x.f0, x.f1, x.f2, x.f3⟩
theorem toInsS_ev (l : List S72) (hn : l.length ≤ 8796093022208) : Ev (fun k => laws_toInsS.f k l) (l.map toIns) := by
  unfold laws_toInsS.f
  refine ev_pos (nn_cast _) (ev_pos (by rw [Int.toNat_natCast]; omega) ?_)
  rw [Int.toNat_natCast]
  have hm : (l.map toIns).length = l.length := List.length_map _
  have key := ev_loop l.length (fun i k => laws_toInsS.l0 k l ((l.map toIns).take i ++ List.replicate ((l.map toIns).length - i) z70) (i : Int)) (fun _ => l.map toIns) (fun i hi ih => by
      refine Ev.step (fun k => by rw [laws_toInsS.l0]) ?_
      refine ev_pos (lt_cast hi) (ev_pos (nn_cast i) ?_)
      rw [rdl_Ins hi, wrap_succ hi (by omega)]
      refine ev_get (a := ((l[i]).f0, (l[i]).f1, (l[i]).f2, (l[i]).f3)) rfl ?_
      refine ev_pos (by rw [state_len _ _ _ (by omega), hm]; exact lt_cast hi) ?_
      have hs := set_state (l.map toIns) z70 i (by rw [hm]; exact hi)
      rw [List.getElem_map] at hs
      rw [Int.toNat_natCast]
      simp only [toIns] at hs ⊢ ih
      rw [hs]
      exact ih) (by
      refine Ev.step (fun k => by rw [laws_toInsS.l0]) ?_
      refine ev_neg (by omega) ?_
      rw [hm, Nat.sub_self, List.replicate_zero, List.append_nil, ← hm, List.take_length]
      exact ev_now _) 0 (Nat.zero_le _)
  simpa [hm] using key

theorem eqIns_some (a b : S70) : ∃ v, laws_eqIns.f a.f0 a.f1 a.f2 a.f3 b.f0 b.f1 b.f2 b.f3 = some v ∧ (v = true ↔ a = b) := by
  unfold laws_eqIns.f
  by_cases h0 : a.f0 = b.f0
  case neg => exact ⟨false, by simp [h0], by simp; intro h; exact h0 (by rw [h])⟩
  by_cases h1 : a.f1 = b.f1
  case neg => exact ⟨false, by simp [h0, h1], by simp; intro h; exact h1 (by rw [h])⟩
  by_cases h2 : a.f2 = b.f2
  case neg => exact ⟨false, by simp [h0, h1, h2], by simp; intro h; exact h2 (by rw [h])⟩
  by_cases h3 : a.f3 = b.f3
  case neg => exact ⟨false, by simp [h0, h1, h2, h3], by simp; intro h; exact h3 (by rw [h])⟩
  exact ⟨true, by simp [h0, h1, h2, h3], by simp; exact ext_Ins h0 h1 h2 h3⟩
theorem eqInsS_ev (x y : List S70) (hn : x.length ≤ 9223372036854775807) : ∃ v, Ev (fun k => laws_eqInsS.f k x y) v ∧ (v = true ↔ x = y) := by
  classical
  by_cases hl : x.length = y.length
  · have key := ev_loop x.length (fun i k => laws_eqInsS.l0 k x y (i : Int)) (fun i => decide (x.drop i = y.drop i)) (fun i hi ih => by
      refine Ev.step (fun k => by rw [laws_eqInsS.l0]) ?_
      refine ev_pos (lt_cast hi) (ev_pos (nn_cast i) (ev_pos (lt_cast (hl ▸ hi)) ?_))
      rw [rdi_Ins hi, rdi_Ins (hl ▸ hi), wrap_succ hi hn]
      obtain ⟨v, hv, hvi⟩ := eqIns_some x[i] (y[i]'(hl ▸ hi))
      refine ev_get hv ?_
      simp only [drop_eq hl hi]
      by_cases h1 : v = true
      · simp only [hvi.1 h1, true_and]
        exact ev_pos h1 ih
      · simp only [show ¬ (x[i] = y[i]'(hl ▸ hi)) from fun h => h1 (hvi.2 h), false_and, decide_false]
        exact ev_neg h1 (ev_now _)) (by
      refine Ev.step (fun k => by rw [laws_eqInsS.l0]) ?_
      refine ev_neg (by omega) ?_
      rw [List.drop_length, hl, List.drop_length]
      simp only [decide_true]
      exact ev_now _) 0 (Nat.zero_le _)
    exact ⟨_, Ev.congr (fun k => by unfold laws_eqInsS.f; exact if_pos (by omega)) key, by simp⟩
  · refine ⟨false, ?_, by simp; exact fun h => hl (by rw [h])⟩
    unfold laws_eqInsS.f
    exact ev_neg (by omega) (ev_now _)

/-- The numbers a, a + 1, .. laid into all fields of m elements. -/
def numbIns (a : Int) : Nat → List S70
  | 0 => []
  | m + 1 => ⟨a, a + 1, a + 1 + 1, a + 1 + 1 + 1⟩ :: numbIns (a + 1 + 1 + 1 + 1) m
theorem setmid_Ins (p r : List S70) (x v : S70) : (p ++ x :: r).set (p.length : Int).toNat v = p ++ v :: r := by
  rw [Int.toNat_natCast, List.set_append_right _ _ (Nat.le_refl _), Nat.sub_self]; rfl
theorem rdmid_Ins (p r : List S70) (x : S70) : rd_T70 (p ++ x :: r) (p.length : Int) = x := by
  rw [rdi_Ins (by simp)]; simp
theorem numbIns_len (a : Int) (m : Nat) : (numbIns a m).length = m := by
  induction m generalizing a with
  | zero => rfl
  | succ m ih => simp [numbIns, ih]

theorem markInsS_ev (l : List S70) (a : Int) (h0 : 0 ≤ a) (h1 : a ≤ 1000000000) (hn : l.length ≤ 100000000) : Ev (fun k => laws_markInsS.f k l a) (a + 4 * l.length, numbIns a l.length) := by
  have key : ∀ (r p : List S70) (b : Int), 0 ≤ b → b + 4 * r.length ≤ 5000000000 → p.length + r.length ≤ 100000000 → Ev (fun k => laws_markInsS.l0 k (p ++ r) b (p.length : Int)) (b + 4 * r.length, p ++ numbIns b r.length) := by
    intro r
    induction r with
    | nil =>
      intro p b _ _ _
      refine Ev.step (fun k => by rw [laws_markInsS.l0]) ?_
      refine ev_neg (by simp) ?_
      simpa [numbIns] using ev_now _
    | cons x r ih =>
      intro p b hb hb2 hl
      simp only [List.length_cons] at hb2 hl
      refine Ev.step (fun k => by rw [laws_markInsS.l0]) ?_
      refine ev_pos (by simp; omega) (ev_pos (nn_cast _) ?_)
      have w1 : wrap64 (b + 1) = b + 1 := wrap_id (by omega) (by omega)
      have w2 : wrap64 (b + 1 + 1) = b + 1 + 1 := wrap_id (by omega) (by omega)
      have w3 : wrap64 (b + 1 + 1 + 1) = b + 1 + 1 + 1 := wrap_id (by omega) (by omega)
      have w4 : wrap64 (b + 1 + 1 + 1 + 1) = b + 1 + 1 + 1 + 1 := wrap_id (by omega) (by omega)
      have wi : wrap64 ((p.length : Int) + 1) = ((p.length + 1 : Nat) : Int) := wrap_succ (n := p.length + 1) (by omega) (by omega)
      simp only [Option.bind_some, setmid_Ins, rdmid_Ins, w1, w2, w3, w4, wi]
      have ih2 := ih (p ++ [⟨b, b + 1, b + 1 + 1, b + 1 + 1 + 1⟩]) (b + 1 + 1 + 1 + 1) (by omega) (by omega) (by simp; omega)
      simp only [List.append_assoc, List.singleton_append, List.length_append, List.length_singleton] at ih2
      rw [show b + 4 * ((x :: r).length : Int) = b + 1 + 1 + 1 + 1 + 4 * (r.length : Int) by simp only [List.length_cons]; omega]
      simpa [numbIns] using ih2
  unfold laws_markInsS.f
  simpa using key l [] a h0 (by omega) (by simpa using hn)

theorem FnExactProgPuts : laws_FnExactProgPuts.Pure := by
  intro l ⟨hn, _⟩
  refine Ev.rounds ?_
  unfold laws_FnExactProgPuts.f
  refine ev_get (szInsS_some l 1048576 hn (by omega) (by omega)) ?_
  by_cases hs : (1048576 : Int) < l.length
  · rw [if_pos hs]
    exact ev_pos (by omega) (ev_now _)
  rw [if_neg hs]
  refine ev_neg (by omega) ?_
  have hto := toInsS_ev l (by omega)
  have hv := spec_ProgPuts_ev (l.map toIns) (by simpa using hn)
  have hu := impl_ProgPuts_ev (l.map toIns) (by simpa using hn)
  obtain ⟨e, he, hei⟩ := eqInsS_ev (l.map toIns) (l.map toIns) (by simpa using hn)
  obtain rfl : e = true := hei.2 rfl
  generalize hp : pick (fun i => (l.map toIns).any (hit 2 i)) 4 = p at hv hu
  have hpl : p.length ≤ 4 := by rw [← hp]; exact pick_len _ _
  have heq := eqIntS_self p (by omega)
  have hmk := markInsS_ev (l.map toIns) 1 (by omega) (by omega) (by simp; omega)
  have hmi := markIntS_ev p 1 (by omega) (by omega) (by omega)
  have hhi := heldIntS_ev 1 p.length (by omega) (by omega) (by omega)
  refine hto.bind (hv.bind (hto.bind (hu.bind (heq.bind (ev_pos rfl (hto.bind (he.bind (ev_pos rfl (hmk.bind (ev_neg (by simp; omega) (heq.bind (ev_pos rfl (hmi.bind (hhi.bind ?_))))))))))))))
  refine ev_neg (by simp; omega) (ev_pos rfl (hto.bind (hu.bind (heq.bind (ev_pos rfl (hhi.bind ?_))))))
  exact ev_neg (by simp; omega) (ev_pos rfl (ev_now _))

end Go.Proofs.Ythojmgliknacfaa.Pure
