/- The pure law of FnBoxOpen: what the printed function of the law answers is true, for every input. Its condition: none but what the row says. -/
import Derived.Test.YthojmgliknacfaaPFnBoxOpenx4
namespace Go.Proofs.Ythojmgliknacfaa.Pure
open Go.RowKit Go.Proofs.Ythojmgliknacfaa.PFnBoxOpen Go.Proofs.YthojmgliknacfaaW.PrintWords Go.Proofs.YthojmgliknacfaaW.PrintLast
set_option linter.unusedVariables false
set_option linter.unusedSimpArgs false
set_option linter.unusedSectionVars false

theorem wrap_succ {i n : Nat} (h : i < n) (hn : n ≤ 9223372036854775807) : wrap64 ((i : Int) + 1) = ((i + 1 : Nat) : Int) := by unfold wrap64; omega
theorem wrap_id {a : Int} (h0 : -9223372036854775808 ≤ a) (h1 : a ≤ 9223372036854775807) : wrap64 a = a := by unfold wrap64; omega
theorem ev_pos {α : Type} {c : Prop} [Decidable c] {f g : Nat → Option α} {r : α} (h : c) (e : Ev f r) : Ev (fun k => if c then f k else g k) r := by
  simp only [if_pos h]; exact e
theorem ev_neg {α : Type} {c : Prop} [Decidable c] {f g : Nat → Option α} {r : α} (h : ¬ c) (e : Ev g r) : Ev (fun k => if c then f k else g k) r := by
  simp only [if_neg h]; exact e
theorem ev_ite {α : Type} {c : Prop} [Decidable c] {f g : Nat → Option α} {r : α} (h1 : c → Ev f r) (h2 : ¬ c → Ev g r) : Ev (fun k => if c then f k else g k) r := by
  by_cases h : c
  · exact ev_pos h (h1 h)
  · exact ev_neg h (h2 h)
theorem ev_now {α : Type} (r : α) : Ev (fun _ => some r) r := Ev.now r
theorem ev_get {α β : Type} {g : Option α} {f : Nat → α → Option β} {a : α} {r : β} (h : g = some a) (k : Ev (fun n => f n a) r) : Ev (fun n => g.bind (f n)) r := by
  subst h; exact k
theorem ev_of_eq {α : Type} {g : Nat → Option α} {a : Option α} {r : α} (h : ∀ k, g k = a) (e : a = some r) : Ev g r := ⟨0, fun k _ => (h k).trans e⟩
/-- A loop over 0 .. n - 1: what it answers from i on. -/
theorem ev_loop {α : Type} (n : Nat) (F : Nat → Nat → Option α) (v : Nat → α) (step : ∀ i, i < n → Ev (F (i + 1)) (v (i + 1)) → Ev (F i) (v i)) (last : Ev (F n) (v n)) : ∀ i, i ≤ n → Ev (F i) (v i) := by
  have key : ∀ d i, i + d = n → Ev (F i) (v i) := by
    intro d
    induction d with
    | zero => intro i h; obtain rfl : i = n := by omega
              exact last
    | succ d ih => intro i h; exact step i (by omega) (ih (i + 1) (by omega))
  exact fun i hi => key (n - i) i (by omega)
theorem lt_cast {i n : Nat} (h : i < n) : (i : Int) < (n : Int) := Int.ofNat_lt.2 h
theorem nn_cast (i : Nat) : (0 : Int) ≤ (i : Int) := Int.natCast_nonneg i
theorem set_state {α : Type} (xs : List α) (z : α) (i : Nat) (h : i < xs.length) : (xs.take i ++ List.replicate (xs.length - i) z).set i xs[i] = xs.take (i + 1) ++ List.replicate (xs.length - (i + 1)) z := by
  rw [List.take_succ_eq_append_getElem h, List.append_assoc, List.set_append_right _ _ (by rw [List.length_take]; omega)]
  congr 1
  rw [List.length_take, Nat.min_eq_left (by omega), Nat.sub_self, show xs.length - i = (xs.length - (i + 1)) + 1 by omega, List.replicate_succ]
  rfl
theorem state_len {α : Type} (xs : List α) (z : α) (i : Nat) (h : i ≤ xs.length) : (xs.take i ++ List.replicate (xs.length - i) z).length = xs.length := by
  rw [List.length_append, List.length_take, List.length_replicate]; omega
theorem drop_eq {α : Type} {x y : List α} (hl : x.length = y.length) {i : Nat} (h : i < x.length) : (x.drop i = y.drop i) ↔ (x[i] = y[i]'(hl ▸ h) ∧ x.drop (i + 1) = y.drop (i + 1)) := by
  have h2 : i < y.length := hl ▸ h
  rw [List.drop_eq_getElem_cons h, List.drop_eq_getElem_cons h2, List.cons.injEq]
theorem mem_split {α : Type} {p : α → Prop} {l : List α} {i : Nat} (h : i < l.length) : (∀ b ∈ l.drop i, p b) ↔ p l[i] ∧ ∀ b ∈ l.drop (i + 1), p b := by
  rw [List.drop_eq_getElem_cons h]
  simp only [List.mem_cons, forall_eq_or_imp]

/-- Boxes, as the document has them. -/
def boxIn (b : S44) : Prop := 0 ≤ b.f0 ∧ b.f0 ≤ 1000000 ∧ -1000000 ≤ b.f1 ∧ b.f1 ≤ 1000000
def boxOk (l : List S44) : Prop := l.length = 4 ∧ ∀ b ∈ l, boxIn b
theorem rd_box {l : List S44} {i : Nat} (h : i < l.length) : rd_T44 l (i : Int) = l[i] := by
  unfold rd_T44
  rw [Int.toNat_natCast, List.getD_eq_getElem?_getD, List.getElem?_eq_getElem h]
  rfl
theorem box_ext {a b : S44} (h0 : a.f0 = b.f0) (h1 : a.f1 = b.f1) : a = b := by
  cases a; cases b; simp_all
theorem boxIn_iff (b : S44) : boxIn b ↔ (0 ≤ b.f0 ∧ b.f0 ≤ 1000000) ∧ (-1000000 ≤ b.f1 ∧ b.f1 ≤ 1000000) := by
  unfold boxIn; omega

theorem in_some (a b c : Int) : ∃ v, impl_in.f a b c = some v ∧ (v = true ↔ b ≤ a ∧ a ≤ c) := by
  unfold impl_in.f
  by_cases h : a ≥ b
  · exact ⟨decide (a ≤ c), by simp [h], by simp; omega⟩
  · exact ⟨false, by simp [h], by simp; omega⟩
theorem l1Num_some (a : Int) : ∃ v, spec_l1Num.f a = some v ∧ (v = true ↔ -1000000 ≤ a ∧ a ≤ 1000000) := by
  unfold spec_l1Num.f
  by_cases h : a ≥ -1000000
  · exact ⟨decide (a ≤ 1000000), by simp [h], by simp; omega⟩
  · exact ⟨false, by simp [h], by simp; omega⟩
theorem spec_BoxOk_ev (l : List S44) (hn : l.length ≤ 9223372036854775807) : ∃ v, Ev (fun k => spec_BoxOk.f k l) v ∧ (v = true ↔ boxOk l) := by
  classical
  by_cases h4 : l.length = 4
  · have key := ev_loop l.length (fun i k => spec_BoxOk.l0 k l (i : Int)) (fun i => decide (∀ b ∈ l.drop i, boxIn b)) (fun i hi ih => by
      refine Ev.step (fun k => by rw [spec_BoxOk.l0]) ?_
      refine ev_pos (lt_cast hi) (ev_pos (nn_cast i) ?_)
      rw [rd_box hi, wrap_succ hi hn]
      obtain ⟨v, hv, hvi⟩ := l1Num_some (l[i]).f1
      have hs := mem_split (p := boxIn) hi
      by_cases h0 : (l[i]).f0 < 0
      · have : ¬ boxIn l[i] := by unfold boxIn; omega
        simp only [hs, this, false_and, decide_false]
        exact ev_pos h0 (ev_now _)
      refine ev_neg h0 ?_
      by_cases h1 : (l[i]).f0 > 1000000
      · have : ¬ boxIn l[i] := by unfold boxIn; omega
        simp only [hs, this, false_and, decide_false]
        exact ev_pos h1 (ev_now _)
      refine ev_neg h1 (ev_get hv ?_)
      by_cases h2 : v = true
      · have : boxIn l[i] := by have := hvi.1 h2; unfold boxIn; omega
        simp only [hs, this, true_and]
        exact ev_pos h2 ih
      · have : ¬ boxIn l[i] := fun h => h2 (hvi.2 (by unfold boxIn at h; omega))
        simp only [hs, this, false_and, decide_false]
        exact ev_neg h2 (ev_now _)) (by
      refine Ev.step (fun k => by rw [spec_BoxOk.l0]) ?_
      refine ev_neg (by omega) ?_
      simp only [List.drop_length, List.not_mem_nil, false_implies, implies_true, decide_true]
      exact ev_now _) 0 (Nat.zero_le _)
    exact ⟨_, Ev.congr (fun k => by unfold spec_BoxOk.f; exact if_pos (by omega)) key, by simp [boxOk, h4]⟩
  · refine ⟨false, ?_, by simp [boxOk, h4]⟩
    unfold spec_BoxOk.f
    exact ev_neg (by omega) (ev_now _)
theorem impl_BoxOk_ev (l : List S44) (hn : l.length ≤ 9223372036854775807) : ∃ v, Ev (fun k => impl_BoxOk.f k l) v ∧ (v = true ↔ boxOk l) := by
  classical
  have key := ev_loop l.length (fun i k => impl_BoxOk.l0 k l l (l.length : Int) (i : Int)) (fun i => decide ((∀ b ∈ l.drop i, boxIn b) ∧ l.length = 4)) (fun i hi ih => by
      refine Ev.step (fun k => by rw [impl_BoxOk.l0]) ?_
      refine ev_pos (lt_cast hi) (ev_pos (nn_cast i) (ev_pos (lt_cast hi) ?_))
      rw [rd_box hi, wrap_succ hi hn]
      obtain ⟨v, hv, hvi⟩ := in_some (l[i]).f0 0 1000000
      obtain ⟨u, hu, hui⟩ := in_some (l[i]).f1 (-1000000) 1000000
      have hs := mem_split (p := boxIn) hi
      refine ev_get hv ?_
      by_cases h1 : v = true
      · refine ev_pos h1 (ev_get hu ?_)
        by_cases h2 : u = true
        · have : boxIn l[i] := by have := hvi.1 h1; have := hui.1 h2; unfold boxIn; omega
          simp only [hs, this, true_and]
          exact ev_pos h2 ih
        · have : ¬ boxIn l[i] := fun h => h2 (hui.2 (by unfold boxIn at h; omega))
          simp only [hs, this, false_and, decide_false]
          exact ev_neg h2 (ev_now _)
      · have : ¬ boxIn l[i] := fun h => h1 (hvi.2 (by unfold boxIn at h; omega))
        simp only [hs, this, false_and, decide_false]
        exact ev_neg h1 (ev_now _)) (by
      refine Ev.step (fun k => by rw [impl_BoxOk.l0]) ?_
      refine ev_neg (by omega) ?_
      have : ((l.length : Int) == 4) = decide ((∀ b ∈ l.drop l.length, boxIn b) ∧ l.length = 4) := by
        rw [List.drop_length]
        by_cases h : l.length = 4
        · simp [h]
        · have : (l.length : Int) ≠ 4 := by omega
          simp [h, this]
      rw [← this]
      exact ev_now _) 0 (Nat.zero_le _)
  exact ⟨_, Ev.congr (fun k => by unfold impl_BoxOk.f; exact rfl) key, by simp [boxOk, and_comm]⟩

theorem ext_Box {a b : S44} (h0 : a.f0 = b.f0) (h1 : a.f1 = b.f1) : a = b := by
  cases a; cases b; simp_all
theorem rdi_Box {l : List S44} {i : Nat} (h : i < l.length) : rd_T44 l (i : Int) = l[i] := by
  unfold rd_T44
  rw [Int.toNat_natCast, List.getD_eq_getElem?_getD, List.getElem?_eq_getElem h]
  rfl

theorem sameBox_ev (x y : List S44) (hn : x.length ≤ 9223372036854775807) : ∃ v, Ev (fun k => impl_same_impl_Box.f k x y) v ∧ (v = true ↔ x = y) := by
  classical
  by_cases hl : x.length = y.length
  · have key := ev_loop x.length (fun i k => impl_same_impl_Box.l0 k x y (x.length : Int) (i : Int)) (fun i => decide (x.drop i = y.drop i)) (fun i hi ih => by
      refine Ev.step (fun k => by rw [impl_same_impl_Box.l0]) ?_
      refine ev_pos (lt_cast hi) (ev_pos (nn_cast i) (ev_pos (lt_cast hi) (ev_pos (lt_cast (hl ▸ hi)) ?_)))
      rw [rdi_Box hi, rdi_Box (hl ▸ hi), wrap_succ hi hn]
      simp only [drop_eq hl hi]
      by_cases h1 : x[i] = y[i]'(hl ▸ hi)
      · simp only [h1, true_and]
        exact ev_neg (by simp) ih
      · simp only [h1, false_and, decide_false]
        refine ev_pos ?_ (ev_now _)
        generalize x[i] = a at h1 ⊢
        generalize y[i]'(hl ▸ hi) = b at h1 ⊢
        cases a; cases b
        simp only [S44.mk.injEq, not_and] at h1
        simp
        omega) (by
      refine Ev.step (fun k => by rw [impl_same_impl_Box.l0]) ?_
      refine ev_neg (by omega) ?_
      rw [List.drop_length, hl, List.drop_length]
      simp only [decide_true]
      exact ev_now _) 0 (Nat.zero_le _)
    exact ⟨_, Ev.congr (fun k => by unfold impl_same_impl_Box.f; exact if_pos (by omega)) key, by simp⟩
  · refine ⟨false, ?_, by simp; exact fun h => hl (by rw [h])⟩
    unfold impl_same_impl_Box.f
    exact ev_neg (by omega) (ev_now _)

theorem rd_i {l : List Int} {i : Nat} (h : i < l.length) : rd l (i : Int) = l[i] := by
  unfold rd
  rw [Int.toNat_natCast, List.getD_eq_getElem?_getD, List.getElem?_eq_getElem h]
  rfl

/-- The bytes a draw reads, and the numbers it picks. -/
def bytesOk (s : List Int) : Prop := ∀ x ∈ s, 0 ≤ x ∧ x ≤ 255
theorem rd_byte {s : List Int} (h : bytesOk s) (i : Int) : 0 ≤ rd s i ∧ rd s i ≤ 255 := by
  unfold rd
  rw [List.getD_eq_getElem?_getD]
  cases e : s[i.toNat]? with
  | none => simp
  | some x => exact h x (List.mem_of_getElem? e)
theorem xor_nn (a b : Int) (ha : 0 ≤ a) (ha2 : a < 4611686018427387904) (hb : 0 ≤ b) (hb2 : b < 4611686018427387904) : 0 ≤ Go.bits .xor .i64 a b := by
  obtain ⟨m, rfl⟩ := Int.eq_ofNat_of_zero_le ha
  obtain ⟨n, rfl⟩ := Int.eq_ofNat_of_zero_le hb
  have hm : m < 2 ^ 62 := by omega
  have hn : n < 2 ^ 62 := by omega
  have hx := Nat.xor_lt_two_pow hm hn
  have h1 : m % 2 ^ 64 = m := by omega
  have h2 : n % 2 ^ 64 = n := by omega
  have e : (BitVec.ofNat 64 m ^^^ BitVec.ofNat 64 n).toNat = m ^^^ n := by rw [BitVec.toNat_xor, BitVec.toNat_ofNat, BitVec.toNat_ofNat, h1, h2]
  have e2 : Go.bits .xor .i64 (m : Int) (n : Int) = IntKind.i64.wrap (((BitVec.ofInt 64 (m : Int) ^^^ BitVec.ofInt 64 (n : Int)).toNat : Nat) : Int) := rfl
  rw [e2, BitVec.ofInt_natCast, BitVec.ofInt_natCast, e, IntKind.wrap_i64]
  omega
theorem tmod_in {a n : Int} (ha : 0 ≤ a) (hn : 1 ≤ n) : 0 ≤ Int.tmod a n ∧ Int.tmod a n < n := ⟨Int.tmod_nonneg _ ha, Int.tmod_lt_of_pos _ (by omega)⟩
theorem tdiv_in {a n : Int} (ha : 0 ≤ a) (hn : 1 ≤ n) : 0 ≤ Int.tdiv a n ∧ Int.tdiv a n ≤ a := by
  rw [Int.tdiv_eq_ediv_of_nonneg ha]
  exact ⟨Int.ediv_nonneg ha (by omega), Int.ediv_le_self _ ha⟩
theorem pick_ev {s : List Int} (hs : bytesOk s) (p n : Int) (hp : 0 ≤ p) (hp2 : p ≤ 1000000000000) (hl : s.length ≤ 9223372036854775807) :
    ∃ v, Ev (fun k => spec_l15Rd_pick.f k s p n) (v, p + 1) ∧ 0 ≤ v ∧ (1 ≤ n → v < n) := by
  have wp : wrap64 (p + 1) = p + 1 := wrap_id (by omega) (by omega)
  have wq : wrap64 ((p + 1) - 1) = p := by rw [Int.add_sub_cancel]; exact wrap_id (by omega) (by omega)
  unfold spec_l15Rd_pick.f
  rw [wp]
  by_cases h1 : n < 1
  · refine ⟨0, ev_pos h1 (Ev.step (fun k => by rw [spec_l15Rd_pick.j0]) ?_), by omega, by omega⟩
    exact ev_pos rfl (ev_now _)
  by_cases h2 : s.length = 0
  · refine ⟨0, ev_neg h1 (Ev.step (fun k => by rw [spec_l15Rd_pick.j0]) ?_), by omega, by omega⟩
    exact ev_pos (by simp [h2]) (ev_now _)
  have hf : ¬ (((s.length : Int) == 0) = true) := by simp; intro h; exact h2 (by rw [h]; rfl)
  by_cases h3 : p < s.length
  · have hb := rd_byte hs p
    have wv : wrap64 (rd s p) = rd s p := wrap_id (by omega) (by omega)
    have ht := tmod_in (a := rd s p) (n := n) hb.1 (by omega)
    refine ⟨Int.tmod (rd s p) n, ev_neg h1 (Ev.step (fun k => by rw [spec_l15Rd_pick.j0]) ?_), ht.1, fun _ => ht.2⟩
    rw [wq, wv]
    exact ev_neg hf (ev_pos h3 (ev_pos hp (ev_neg (by omega) (ev_now _))))
  have q1 := tmod_in (a := p) (n := s.length) hp (by omega)
  have w7 : wrap64 (p * 7) = p * 7 := wrap_id (by omega) (by omega)
  have w8 : wrap64 (p * 7 + 3) = p * 7 + 3 := wrap_id (by omega) (by omega)
  have q2 := tmod_in (a := p * 7 + 3) (n := s.length) (by omega) (by omega)
  have b1 := rd_byte hs (Int.tmod p s.length)
  have b2 := rd_byte hs (Int.tmod (p * 7 + 3) s.length)
  have d1 := tdiv_in (a := p) (n := s.length) hp (by omega)
  generalize hx : rd s (Int.tmod p s.length) = x at b1
  generalize hy : rd s (Int.tmod (p * 7 + 3) s.length) = y at b2
  generalize hd : Int.tdiv p s.length = d at d1
  have v1 : wrap64 x = x := wrap_id (by omega) (by omega)
  have v2 : wrap64 (x * 131) = x * 131 := wrap_id (by omega) (by omega)
  have v3 : wrap64 y = y := wrap_id (by omega) (by omega)
  have v4 : wrap64 (y * 1117) = y * 1117 := wrap_id (by omega) (by omega)
  have v5 : wrap64 (x * 131 + y * 1117) = x * 131 + y * 1117 := wrap_id (by omega) (by omega)
  have v6 : wrap64 (p * 29) = p * 29 := wrap_id (by omega) (by omega)
  have v7 : wrap64 (x * 131 + y * 1117 + p * 29) = x * 131 + y * 1117 + p * 29 := wrap_id (by omega) (by omega)
  have v8 : wrap64 d = d := wrap_id (by omega) (by omega)
  have v9 : wrap64 (d * 53) = d * 53 := wrap_id (by omega) (by omega)
  have v10 : wrap64 (x * 131 + y * 1117 + p * 29 + d * 53) = x * 131 + y * 1117 + p * 29 + d * 53 := wrap_id (by omega) (by omega)
  generalize hz : x * 131 + y * 1117 + p * 29 + d * 53 = z at v10
  have z0 : 0 ≤ z := by omega
  have z1 : z < 4611686018427387904 := by omega
  have d2 := tdiv_in (a := z) (n := 64) z0 (by omega)
  have v11 : wrap64 (Int.tdiv z 64) = Int.tdiv z 64 := wrap_id (by omega) (by omega)
  have hxo := xor_nn z (Int.tdiv z 64) z0 z1 d2.1 (by omega)
  have ht := tmod_in (a := Go.bits .xor .i64 z (Int.tdiv z 64)) (n := n) hxo (by omega)
  refine ⟨Int.tmod (Go.bits .xor .i64 z (Int.tdiv z 64)) n, ev_neg h1 (Ev.step (fun k => by rw [spec_l15Rd_pick.j0]) ?_), ht.1, fun _ => ht.2⟩
  rw [wq, w7, w8, hx, hy, hd, v1, v2, v3, v4, v5, v6, v7, v8, v9, hz, v10, v11]
  exact ev_neg hf (ev_neg h3 (ev_neg (by omega) (ev_pos q1.1 (ev_pos q1.2 (ev_pos q2.1 (ev_pos q2.2 (ev_neg (by omega) (ev_now _))))))))
theorem open_some (l : List Int) (hl : bytesOk l) : ∃ s, spec_l15Open.f l = some (s, 0) ∧ bytesOk s ∧ s.length ≤ 2000 := by
  unfold spec_l15Open.f
  by_cases h : (l.length : Int) > 2000
  · refine ⟨l.take 2000, by rw [if_pos h, if_pos (by omega)], fun x hx => hl x (List.mem_of_mem_take hx), by rw [List.length_take]; omega⟩
  · exact ⟨l, by rw [if_neg h], hl, by omega⟩
theorem bytes_wf {l : List Int} (h : ∀ x ∈ l, (Lit.int .u8 x).wf = true) : bytesOk l := by
  intro x hx
  have := h x hx
  simp [Lit.wf, IntKind.min, IntKind.max, IntKind.bits, IntKind.signed] at this
  omega

theorem num_ev {s : List Int} (hs : bytesOk s) (p : Int) (l : List Int) (hp : 0 ≤ p) (hp2 : p ≤ 1000000000000) (hl : s.length ≤ 9223372036854775807) (h0 : 0 < l.length) (h1 : l.length ≤ 1000000) :
    ∃ v, Ev (fun k => spec_l15Rd_num.f k s p l) (v, p + 1) ∧ v ∈ l := by
  obtain ⟨i, hi, i0, i1⟩ := pick_ev hs p l.length hp hp2 hl
  obtain ⟨j, rfl⟩ := Int.eq_ofNat_of_zero_le i0
  have hj : j < l.length := by have := i1 (by omega); omega
  refine ⟨l[j], ?_, List.getElem_mem hj⟩
  unfold spec_l15Rd_num.f
  refine hi.bind (ev_pos i0 (ev_pos (lt_cast hj) ?_))
  rw [rd_i hj]
  exact ev_now _

def boxSmall (b : S44) : Prop := -2000000 ≤ b.f0 ∧ b.f0 ≤ 2000000 ∧ -2000000 ≤ b.f1 ∧ b.f1 ≤ 2000000
theorem set_all {α : Type} {q : α → Prop} {l : List α} {i : Nat} {v : α} (h : ∀ b ∈ l, q b) (hv : q v) : ∀ b ∈ l.set i v, q b := by
  intro b hb
  rcases List.mem_or_eq_of_mem_set hb with h1 | h1
  · exact h b h1
  · rw [h1]; exact hv
theorem rd_boxSmall {l : List S44} (h : ∀ b ∈ l, boxSmall b) (i : Int) : boxSmall (rd_T44 l i) := by
  unfold rd_T44
  rw [List.getD_eq_getElem?_getD]
  cases e : l[i.toNat]? with
  | none => simp [boxSmall, z44]
  | some x => exact h x (List.mem_of_getElem? e)
theorem l1Boxes_ev {s : List Int} (hs : bytesOk s) (p : Int) (hp : 0 ≤ p) (hp2 : p ≤ 100000000000) (hl : s.length ≤ 9223372036854775807) :
    ∃ l q, Ev (fun k => spec_l1Boxes.f k s p) (l, q) ∧ p ≤ q ∧ q ≤ p + 20 ∧ l.length ≤ 4 ∧ ∀ b ∈ l, boxSmall b := by
  have key : ∀ d (i : Nat) (l : List S44) (p : Int), i + d = 4 → l.length = 4 → (∀ b ∈ l, boxSmall b) → 0 ≤ p → p + 2 * d ≤ 200000000000 → ∃ m q, Ev (fun k => spec_l1Boxes.l0 k l (i : Int) s p) (m, q) ∧ p ≤ q ∧ q ≤ p + 2 * d + 3 ∧ m.length ≤ 4 ∧ ∀ b ∈ m, boxSmall b := by
    intro d
    induction d with
    | zero =>
      intro i l p hi hl4 hb h0 h1
      obtain rfl : i = 4 := by omega
      obtain ⟨v, hv, _, _⟩ := pick_ev hs p 30 h0 (by omega) hl
      by_cases v0 : v = 0
      · refine ⟨l.take 3, p + 1, ?_, by omega, by omega, by rw [List.length_take]; omega, fun b h => hb b (List.mem_of_mem_take h)⟩
        refine Ev.step (fun k => by rw [spec_l1Boxes.l0]) ?_
        refine ev_neg (by omega) (hv.bind ?_)
        refine ev_pos v0 ?_
        exact ev_pos (by omega) (ev_now _)
      obtain ⟨i, hi, i0, i1⟩ := pick_ev hs (p + 1) 4 (by omega) (by omega) hl
      have i2 := i1 (by omega)
      by_cases v1 : v = 1
      · obtain ⟨u, hu, hm⟩ := num_ev hs (p + 1 + 1) [(-1), 1000001] (by omega) (by omega) hl (by simp) (by simp)
        refine ⟨l.set i.toNat ⟨u, (rd_T44 l i).f1⟩, p + 1 + 1 + 1, ?_, by omega, by omega, by rw [List.length_set]; omega, ?_⟩
        · refine Ev.step (fun k => by rw [spec_l1Boxes.l0]) ?_
          refine ev_neg (by omega) (hv.bind ?_)
          refine ev_neg v0 ?_
          refine ev_pos v1 (hi.bind (hu.bind ?_))
          exact ev_pos i0 (ev_pos (by omega) (ev_now _))
        refine set_all hb ?_
        have := rd_boxSmall hb i
        simp only [List.mem_cons, List.not_mem_nil, or_false] at hm
        unfold boxSmall at this ⊢
        simp only
        omega
      by_cases v2 : v = 2
      · obtain ⟨u, hu, hm⟩ := num_ev hs (p + 1 + 1) [1000001, (-1000001)] (by omega) (by omega) hl (by simp) (by simp)
        refine ⟨l.set i.toNat ⟨(rd_T44 l i).f0, u⟩, p + 1 + 1 + 1, ?_, by omega, by omega, by rw [List.length_set]; omega, ?_⟩
        · refine Ev.step (fun k => by rw [spec_l1Boxes.l0]) ?_
          refine ev_neg (by omega) (hv.bind ?_)
          refine ev_neg v0 ?_
          refine ev_neg v1 ?_
          refine ev_pos v2 (hi.bind (hu.bind ?_))
          exact ev_pos i0 (ev_pos (by omega) (ev_now _))
        refine set_all hb ?_
        have := rd_boxSmall hb i
        simp only [List.mem_cons, List.not_mem_nil, or_false] at hm
        unfold boxSmall at this ⊢
        simp only
        omega
      refine ⟨l, p + 1, ?_, by omega, by omega, by omega, hb⟩
      refine Ev.step (fun k => by rw [spec_l1Boxes.l0]) ?_
      refine ev_neg (by omega) (hv.bind ?_)
      refine ev_neg v0 ?_
      refine ev_neg v1 ?_
      exact ev_neg v2 (ev_now _)
    | succ d ih =>
      intro i l p hi hl4 hb h0 h1
      obtain ⟨v, hv, hv0, hv1⟩ := pick_ev hs p 5 h0 (by omega) hl
      have hv2 := hv1 (by omega)
      obtain ⟨u, hu, hm⟩ := num_ev hs (p + 1) [0, 1, 2, 5, (-3), 7, 100, 1000000, (-1000000)] (by omega) (by omega) hl (by simp) (by simp)
      have hsm : boxSmall (⟨v, u⟩ : S44) := by
        simp only [List.mem_cons, List.not_mem_nil, or_false] at hm
        unfold boxSmall
        simp only
        omega
      obtain ⟨m, q, hq, q1, q2, q3, q4⟩ := ih (i + 1) (l.set (i : Int).toNat ⟨v, u⟩) (p + 1 + 1) (by omega) (by rw [List.length_set]; exact hl4) (set_all hb hsm) (by omega) (by omega)
      refine ⟨m, q, ?_, by omega, by omega, q3, q4⟩
      refine Ev.step (fun k => by rw [spec_l1Boxes.l0]) ?_
      refine ev_pos (by omega) (hv.bind (hu.bind (ev_pos (by omega) ?_)))
      rw [wrap_succ (n := 4) (by omega) (by omega)]
      exact hq
  obtain ⟨m, q, hq, q1, q2, q3, q4⟩ := key 4 0 (List.replicate 4 z44) p (by omega) (by simp) (by intro b hb; rw [List.eq_of_mem_replicate hb]; simp [boxSmall, z44]) hp (by omega)
  refine ⟨m, q, ?_, q1, by omega, q3, q4⟩
  unfold spec_l1Boxes.f
  refine ev_get (a := List.replicate 4 z44) ?_ hq
  unfold spec_BoxOpen.f
  exact if_pos (by omega)

theorem DrawBoxOk_ev (l : List Int) (hl : bytesOk l) : ∃ m, Ev (fun k => spec_DrawBoxOk.f k l) m ∧ m.length ≤ 4 := by
  obtain ⟨s, hs, hb, hn⟩ := open_some l hl
  obtain ⟨m, q, hq, _, _, h4, _⟩ := l1Boxes_ev hb 0 (by omega) (by omega) (by omega)
  refine ⟨m, ?_, h4⟩
  unfold spec_DrawBoxOk.f
  exact ev_get hs (hq.bind (ev_now _))
theorem BoxSame_ev (x y : List S44) (hn : x.length ≤ 9223372036854775807) : ∃ v, Ev (fun k => impl_BoxSame.f k x y) v ∧ (v = true ↔ x = y) := by
  obtain ⟨v, hv, hvi⟩ := sameBox_ev x y hn
  refine ⟨v, ?_, hvi⟩
  unfold impl_BoxSame.f
  exact hv.bind (ev_now _)
theorem FnBoxOpen : laws_FnBoxOpen.Pure := by
  intro l hn _ hw
  refine Ev.rounds ?_
  unfold laws_FnBoxOpen.f
  refine ev_ite (fun _ => ev_now _) (fun _ => ?_)
  obtain ⟨m, hm, hm4⟩ := DrawBoxOk_ev l (bytes_wf hw)
  have hio : impl_BoxOpen.f = some (List.replicate 4 z44) := by unfold impl_BoxOpen.f; exact if_pos (by omega)
  have hso : spec_BoxOpen.f = some (List.replicate 4 z44) := by unfold spec_BoxOpen.f; exact if_pos (by omega)
  obtain ⟨v, hv, hvi⟩ := spec_BoxOk_ev m (by omega)
  obtain ⟨u, hu, hui⟩ := impl_BoxOk_ev m (by omega)
  obtain ⟨e, he, hei⟩ := BoxSame_ev (List.replicate 4 z44) (List.replicate 4 z44) (by simp)
  have huv : u = v := Bool.eq_iff_iff.2 (hui.trans hvi.symm)
  subst huv
  obtain rfl : e = true := hei.2 rfl
  refine hm.bind (ev_get hio (ev_pos (by simp) (hu.bind (hv.bind (ev_neg (by simp) (ev_get hso (he.bind (ev_pos rfl (hv.bind (ev_ite (fun hok => ?_) (fun _ => ev_now _)))))))))))
  have hok2 := hui.1 hok
  refine ev_loop m.length (fun i k => laws_FnBoxOpen.l0 k m (i : Int)) (fun _ => true) (fun i hi ih => ?_) ?_ 0 (Nat.zero_le _)
  · refine Ev.step (fun k => by rw [laws_FnBoxOpen.l0]) ?_
    simp only [Option.bind_some, List.nil_append, List.length_nil, Nat.zero_add]
    have hin := hok2.2 _ (List.getElem_mem hi)
    obtain ⟨a, ha, hai⟩ := impl_BoxOk_ev (m.set i ⟨(m[i]).f0, 1000001⟩) (by rw [List.length_set]; omega)
    obtain ⟨b, hb, hbi⟩ := impl_BoxOk_ev (m.set i ⟨-1, (m[i]).f1⟩) (by rw [List.length_set]; omega)
    obtain ⟨c, hc, hci⟩ := BoxSame_ev (m.set i ⟨(m[i]).f0, 1000001⟩) m (by rw [List.length_set]; omega)
    have ha0 : ¬ a = true := by
      intro h
      have h2 := (hai.1 h).2 ⟨(m[i]).f0, 1000001⟩ (List.mem_set hi _)
      unfold boxIn at h2; simp only at h2; omega
    have hb0 : ¬ b = true := by
      intro h
      have h2 := (hbi.1 h).2 ⟨-1, (m[i]).f1⟩ (List.mem_set hi _)
      unfold boxIn at h2; simp only at h2; omega
    have hc0 : ¬ c = true := by
      intro h
      have h2 := hci.1 h
      have h3 : (m.set i ⟨(m[i]).f0, 1000001⟩)[i]'(by rw [List.length_set]; exact hi) = m[i] := by simp only [h2]
      rw [List.getElem_set_self] at h3
      have h4 : (1000001 : Int) = (m[i]).f1 := by rw [← h3]
      unfold boxIn at hin; omega
    rw [rd_box hi, wrap_succ hi (by omega), Int.toNat_natCast]
    (try simp only [List.length_set])
    refine ev_pos (lt_cast hi) (ev_pos (by omega) (ev_pos (nn_cast i) (ev_pos (lt_cast hi) (ev_pos (by omega) (ev_pos (lt_cast hi) (ha.bind (ev_neg ha0 (hb.bind (ev_neg hb0 (hc.bind (ev_neg hc0 ih)))))))))))
  · refine Ev.step (fun k => by rw [laws_FnBoxOpen.l0]) ?_
    exact ev_neg (by omega) (ev_now _)

end Go.Proofs.Ythojmgliknacfaa.Pure
