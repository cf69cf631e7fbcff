/- The pure law of FnBox: what the law's function of numbers and lists answers is true, for every input. Its condition: none but what the row says. -/
import Derived.Test.YtlpgpckggnimhaaDoorPFnBoxx3
import Derived.Test.YtlpgpckggnimhaaDoorAm43
namespace Go.Proofs.YtlpgpckggnimhaaDoor.Pure
open Go.RowKit Go.Proofs.YtlpgpckggnimhaaDoor.PFnBox Go.Proofs.YtlpgpckggnimhaaDoorW.PrintWords Go.Proofs.YtlpgpckggnimhaaDoorW.PrintLast
open Am
set_option linter.unusedVariables false
set_option linter.unusedSimpArgs false
set_option linter.unusedSectionVars false

theorem wrap_succ {i n : Nat} (h : i < n) (hn : n ≤ 9223372036854775807) : wrap64 ((i : Int) + 1) = ((i + 1 : Nat) : Int) := by unfold wrap64; omega
theorem wrap_id {a : Int} (h0 : -9223372036854775808 ≤ a) (h1 : a ≤ 9223372036854775807) : wrap64 a = a := by unfold wrap64; omega
theorem ev_pos {α : Type} {c : Prop} [Decidable c] {f g : Nat → Option α} {r : α} (h : c) (e : Ev f r) : Ev (fun k => if c then f k else g k) r := by
  simp only [if_pos h]; exact e
theorem ev_neg {α : Type} {c : Prop} [Decidable c] {f g : Nat → Option α} {r : α} (h : ¬ c) (e : Ev g r) : Ev (fun k => if c then f k else g k) r := by
  simp only [if_neg h]; exact e
theorem ev_ite {α : Type} {c : Prop} [Decidable c] {f g : Nat → Option α} {r : α} (h1 : c → Ev f r) (h2 : ¬ c → Ev g r) : Ev (fun k => if c then f k else g k) r := by
  by_cases h : c
  · exact ev_pos h (h1 h)
  · exact ev_neg h (h2 h)
theorem ev_now {α : Type} (r : α) : Ev (fun _ => some r) r := Ev.now r
theorem ev_get {α β : Type} {g : Option α} {f : Nat → α → Option β} {a : α} {r : β} (h : g = some a) (k : Ev (fun n => f n a) r) : Ev (fun n => g.bind (f n)) r := by
  subst h; exact k
/-- A loop over 0 .. n - 1: what it answers from i on. -/
theorem ev_loop {α : Type} (n : Nat) (F : Nat → Nat → Option α) (v : Nat → α) (step : ∀ i, i < n → Ev (F (i + 1)) (v (i + 1)) → Ev (F i) (v i)) (last : Ev (F n) (v n)) : ∀ i, i ≤ n → Ev (F i) (v i) := by
  have key : ∀ d i, i + d = n → Ev (F i) (v i) := by
    intro d
    induction d with
    | zero => intro i h; obtain rfl : i = n := by omega
              exact last
    | succ d ih => intro i h; exact step i (by omega) (ih (i + 1) (by omega))
  exact fun i hi => key (n - i) i (by omega)
theorem lt_cast {i n : Nat} (h : i < n) : (i : Int) < (n : Int) := Int.ofNat_lt.2 h
theorem nn_cast (i : Nat) : (0 : Int) ≤ (i : Int) := Int.natCast_nonneg i
theorem drop_eq {α : Type} {x y : List α} (hl : x.length = y.length) {i : Nat} (h : i < x.length) : (x.drop i = y.drop i) ↔ (x[i] = y[i]'(hl ▸ h) ∧ x.drop (i + 1) = y.drop (i + 1)) := by
  have h2 : i < y.length := hl ▸ h
  rw [List.drop_eq_getElem_cons h, List.drop_eq_getElem_cons h2, List.cons.injEq]
theorem mem_split {α : Type} {p : α → Prop} {l : List α} {i : Nat} (h : i < l.length) : (∀ b ∈ l.drop i, p b) ↔ p l[i] ∧ ∀ b ∈ l.drop (i + 1), p b := by
  rw [List.drop_eq_getElem_cons h]
  simp only [List.mem_cons, forall_eq_or_imp]
theorem ev_const {α : Type} {X : Option α} {r : α} (h : X = some r) : Ev (fun _ => X) r := ⟨0, fun _ _ => h⟩

/-- Boxes, as the document has them. -/
def boxIn (b : S70) : Prop := 0 ≤ b.f0 ∧ b.f0 ≤ 1000000 ∧ -1000000 ≤ b.f1 ∧ b.f1 ≤ 1000000
def boxOk (l : List S70) : Prop := l.length = 4 ∧ ∀ b ∈ l, boxIn b
theorem rd_box {l : List S70} {i : Nat} (h : i < l.length) : rd_T70 l (i : Int) = l[i] := by
  unfold rd_T70
  rw [Int.toNat_natCast, List.getD_eq_getElem?_getD, List.getElem?_eq_getElem h]
  rfl
theorem box_ext {a b : S70} (h0 : a.f0 = b.f0) (h1 : a.f1 = b.f1) : a = b := by
  cases a; cases b; simp_all
theorem rdi_Box {l : List S70} {i : Nat} (h : i < l.length) : rd_T70 l (i : Int) = l[i] := by
  unfold rd_T70
  rw [Int.toNat_natCast, List.getD_eq_getElem?_getD, List.getElem?_eq_getElem h]
  rfl

theorem sameBox_ev (x y : List S70) (hn : x.length ≤ 9223372036854775807) : ∃ v, Ev (fun k => impl_same_impl_Box.f k x y) v ∧ (v = true ↔ x = y) := by
  classical
  by_cases hl : x.length = y.length
  · have key := ev_loop x.length (fun i k => impl_same_impl_Box.l0 k x y (x.length : Int) (i : Int)) (fun i => decide (x.drop i = y.drop i)) (fun i hi ih => by
      refine Ev.step (fun k => by rw [impl_same_impl_Box.l0]) ?_
      refine ev_pos (lt_cast hi) (ev_pos (nn_cast i) (ev_pos (lt_cast hi) (ev_pos (lt_cast (hl ▸ hi)) ?_)))
      rw [rdi_Box hi, rdi_Box (hl ▸ hi), wrap_succ hi hn]
      simp only [drop_eq hl hi]
      by_cases h1 : x[i] = y[i]'(hl ▸ hi)
      · simp only [h1, true_and]
        exact ev_neg (by simp) ih
      · simp only [h1, false_and, decide_false]
        refine ev_pos ?_ (ev_now _)
        generalize x[i] = a at h1 ⊢
        generalize y[i]'(hl ▸ hi) = b at h1 ⊢
        obtain ⟨a0_, a1_⟩ := a; obtain ⟨b0_, b1_⟩ := b
        simp only [S70.mk.injEq, not_and] at h1
        simp
        omega) (by
      refine Ev.step (fun k => by rw [impl_same_impl_Box.l0]) ?_
      refine ev_neg (by omega) ?_
      rw [List.drop_length, hl, List.drop_length]
      simp only [decide_true]
      exact ev_now _) 0 (Nat.zero_le _)
    exact ⟨_, Ev.congr (fun k => by unfold impl_same_impl_Box.f; exact if_pos (by omega)) key, by simp⟩
  · refine ⟨false, ?_, by simp; exact fun h => hl (by rw [h])⟩
    unfold impl_same_impl_Box.f
    exact ev_neg (by omega) (ev_now _)

theorem rd_i {l : List Int} {i : Nat} (h : i < l.length) : rd l (i : Int) = l[i] := by
  unfold rd
  rw [Int.toNat_natCast, List.getD_eq_getElem?_getD, List.getElem?_eq_getElem h]
  rfl

/-- The bytes a draw reads, and the numbers it picks. -/
def bytesOk (s : List Int) : Prop := ∀ x ∈ s, 0 ≤ x ∧ x ≤ 255
theorem rd_byte {s : List Int} (h : bytesOk s) (i : Int) : 0 ≤ rd s i ∧ rd s i ≤ 255 := by
  unfold rd
  rw [List.getD_eq_getElem?_getD]
  cases e : s[i.toNat]? with
  | none => simp
  | some x => exact h x (List.mem_of_getElem? e)
theorem xor_nn (a b : Int) (ha : 0 ≤ a) (ha2 : a < 4611686018427387904) (hb : 0 ≤ b) (hb2 : b < 4611686018427387904) : 0 ≤ Go.bits .xor .i64 a b := by
  obtain ⟨m, rfl⟩ := Int.eq_ofNat_of_zero_le ha
  obtain ⟨n, rfl⟩ := Int.eq_ofNat_of_zero_le hb
  have hm : m < 2 ^ 62 := by omega
  have hn : n < 2 ^ 62 := by omega
  have hx := Nat.xor_lt_two_pow hm hn
  have h1 : m % 2 ^ 64 = m := by omega
  have h2 : n % 2 ^ 64 = n := by omega
  have e : (BitVec.ofNat 64 m ^^^ BitVec.ofNat 64 n).toNat = m ^^^ n := by rw [BitVec.toNat_xor, BitVec.toNat_ofNat, BitVec.toNat_ofNat, h1, h2]
  have e2 : Go.bits .xor .i64 (m : Int) (n : Int) = IntKind.i64.wrap (((BitVec.ofInt 64 (m : Int) ^^^ BitVec.ofInt 64 (n : Int)).toNat : Nat) : Int) := rfl
  rw [e2, BitVec.ofInt_natCast, BitVec.ofInt_natCast, e, IntKind.wrap_i64]
  omega
theorem tmod_in {a n : Int} (ha : 0 ≤ a) (hn : 1 ≤ n) : 0 ≤ Int.tmod a n ∧ Int.tmod a n < n := ⟨Int.tmod_nonneg _ ha, Int.tmod_lt_of_pos _ (by omega)⟩
theorem tdiv_in {a n : Int} (ha : 0 ≤ a) (hn : 1 ≤ n) : 0 ≤ Int.tdiv a n ∧ Int.tdiv a n ≤ a := by
  rw [Int.tdiv_eq_ediv_of_nonneg ha]
  exact ⟨Int.ediv_nonneg ha (by omega), Int.ediv_le_self _ ha⟩
theorem pick_ev {s : List Int} (hs : bytesOk s) (p n : Int) (hp : 0 ≤ p) (hp2 : p ≤ 1000000000000) (hl : s.length ≤ 9223372036854775807) :
    ∃ v, Ev (fun k => spec_l15Rd_pick.f k s p n) (v, p + 1) ∧ 0 ≤ v ∧ (1 ≤ n → v < n) := by
  have wp : wrap64 (p + 1) = p + 1 := wrap_id (by omega) (by omega)
  have wq : wrap64 ((p + 1) - 1) = p := by rw [Int.add_sub_cancel]; exact wrap_id (by omega) (by omega)
  unfold spec_l15Rd_pick.f
  rw [wp]
  by_cases h1 : n < 1
  · refine ⟨0, ev_pos h1 (Ev.step (fun k => by rw [spec_l15Rd_pick.j0]) ?_), by omega, by omega⟩
    exact ev_pos rfl (ev_now _)
  by_cases h2 : s.length = 0
  · refine ⟨0, ev_neg h1 (Ev.step (fun k => by rw [spec_l15Rd_pick.j0]) ?_), by omega, by omega⟩
    exact ev_pos (by simp [h2]) (ev_now _)
  have hf : ¬ (((s.length : Int) == 0) = true) := by simp; intro h; exact h2 (by rw [h]; rfl)
  by_cases h3 : p < s.length
  · have hb := rd_byte hs p
    have wv : wrap64 (rd s p) = rd s p := wrap_id (by omega) (by omega)
    have ht := tmod_in (a := rd s p) (n := n) hb.1 (by omega)
    refine ⟨Int.tmod (rd s p) n, ev_neg h1 (Ev.step (fun k => by rw [spec_l15Rd_pick.j0]) ?_), ht.1, fun _ => ht.2⟩
    rw [wq, wv]
    exact ev_neg hf (ev_pos h3 (ev_pos hp (ev_neg (by omega) (ev_now _))))
  have q1 := tmod_in (a := p) (n := s.length) hp (by omega)
  have w7 : wrap64 (p * 7) = p * 7 := wrap_id (by omega) (by omega)
  have w8 : wrap64 (p * 7 + 3) = p * 7 + 3 := wrap_id (by omega) (by omega)
  have q2 := tmod_in (a := p * 7 + 3) (n := s.length) (by omega) (by omega)
  have b1 := rd_byte hs (Int.tmod p s.length)
  have b2 := rd_byte hs (Int.tmod (p * 7 + 3) s.length)
  have d1 := tdiv_in (a := p) (n := s.length) hp (by omega)
  generalize hx : rd s (Int.tmod p s.length) = x at b1
  generalize hy : rd s (Int.tmod (p * 7 + 3) s.length) = y at b2
  generalize hd : Int.tdiv p s.length = d at d1
  have v1 : wrap64 x = x := wrap_id (by omega) (by omega)
  have v2 : wrap64 (x * 131) = x * 131 := wrap_id (by omega) (by omega)
  have v3 : wrap64 y = y := wrap_id (by omega) (by omega)
  have v4 : wrap64 (y * 1117) = y * 1117 := wrap_id (by omega) (by omega)
  have v5 : wrap64 (x * 131 + y * 1117) = x * 131 + y * 1117 := wrap_id (by omega) (by omega)
  have v6 : wrap64 (p * 29) = p * 29 := wrap_id (by omega) (by omega)
  have v7 : wrap64 (x * 131 + y * 1117 + p * 29) = x * 131 + y * 1117 + p * 29 := wrap_id (by omega) (by omega)
  have v8 : wrap64 d = d := wrap_id (by omega) (by omega)
  have v9 : wrap64 (d * 53) = d * 53 := wrap_id (by omega) (by omega)
  have v10 : wrap64 (x * 131 + y * 1117 + p * 29 + d * 53) = x * 131 + y * 1117 + p * 29 + d * 53 := wrap_id (by omega) (by omega)
  generalize hz : x * 131 + y * 1117 + p * 29 + d * 53 = z at v10
  have z0 : 0 ≤ z := by omega
  have z1 : z < 4611686018427387904 := by omega
  have d2 := tdiv_in (a := z) (n := 64) z0 (by omega)
  have v11 : wrap64 (Int.tdiv z 64) = Int.tdiv z 64 := wrap_id (by omega) (by omega)
  have hxo := xor_nn z (Int.tdiv z 64) z0 z1 d2.1 (by omega)
  have ht := tmod_in (a := Go.bits .xor .i64 z (Int.tdiv z 64)) (n := n) hxo (by omega)
  refine ⟨Int.tmod (Go.bits .xor .i64 z (Int.tdiv z 64)) n, ev_neg h1 (Ev.step (fun k => by rw [spec_l15Rd_pick.j0]) ?_), ht.1, fun _ => ht.2⟩
  rw [wq, w7, w8, hx, hy, hd, v1, v2, v3, v4, v5, v6, v7, v8, v9, hz, v10, v11]
  exact ev_neg hf (ev_neg h3 (ev_neg (by omega) (ev_pos q1.1 (ev_pos q1.2 (ev_pos q2.1 (ev_pos q2.2 (ev_neg (by omega) (ev_now _))))))))
theorem open_some (l : List Int) (hl : bytesOk l) : ∃ s, spec_l15Open.f l = some (s, 0) ∧ bytesOk s ∧ s.length ≤ 2000 := by
  unfold spec_l15Open.f
  by_cases h : (l.length : Int) > 2000
  · refine ⟨l.take 2000, by rw [if_pos h, if_pos (by omega)], fun x hx => hl x (List.mem_of_mem_take hx), by rw [List.length_take]; omega⟩
  · exact ⟨l, by rw [if_neg h], hl, by omega⟩
theorem bytes_wf {l : List Int} (h : ∀ x ∈ l, (Lit.int .u8 x).wf = true) : bytesOk l := by
  intro x hx
  have := h x hx
  simp [Lit.wf, IntKind.min, IntKind.max, IntKind.bits, IntKind.signed] at this
  omega

/-- What comes of a reckoning, told by a property. -/
def Dr {α : Type} (F : Nat → Option α) (Q : α → Prop) : Prop := ∃ v, Ev F v ∧ Q v
theorem Dr.bind {α β : Type} {F : Nat → Option α} {G : Nat → α → Option β} {Q : α → Prop} {R : β → Prop} (h : Dr F Q) (k : ∀ v, Q v → Dr (fun n => G n v) R) : Dr (fun n => (F n).bind (G n)) R := by
  obtain ⟨v, hv, q⟩ := h
  obtain ⟨u, hu, r⟩ := k v q
  exact ⟨u, hv.bind hu, r⟩
theorem Dr.now {α : Type} {R : α → Prop} {v : α} (h : R v) : Dr (fun _ => some v) R := ⟨v, ev_now v, h⟩
theorem Dr.pos {α : Type} {c : Prop} [Decidable c] {f g : Nat → Option α} {R : α → Prop} (h : c) (d : Dr f R) : Dr (fun k => if c then f k else g k) R := by
  obtain ⟨v, hv, q⟩ := d; exact ⟨v, ev_pos h hv, q⟩
theorem Dr.neg {α : Type} {c : Prop} [Decidable c] {f g : Nat → Option α} {R : α → Prop} (h : ¬ c) (d : Dr g R) : Dr (fun k => if c then f k else g k) R := by
  obtain ⟨v, hv, q⟩ := d; exact ⟨v, ev_neg h hv, q⟩
theorem Dr.ite {α : Type} {c : Prop} [Decidable c] {f g : Nat → Option α} {R : α → Prop} (h1 : c → Dr f R) (h2 : ¬ c → Dr g R) : Dr (fun k => if c then f k else g k) R := by
  by_cases h : c
  · exact Dr.pos h (h1 h)
  · exact Dr.neg h (h2 h)
theorem Dr.mono {α : Type} {F : Nat → Option α} {Q R : α → Prop} (h : Dr F Q) (k : ∀ v, Q v → R v) : Dr F R := by
  obtain ⟨v, hv, q⟩ := h; exact ⟨v, hv, k v q⟩
theorem Dr.step {α : Type} {F G : Nat → Option α} {R : α → Prop} (h : ∀ k, F (k + 1) = G k) (d : Dr G R) : Dr F R := by
  obtain ⟨v, hv, q⟩ := d; exact ⟨v, Ev.step h hv, q⟩
theorem Dr.of {α : Type} {g : Option α} {a : α} {R : α → Prop} (h : g = some a) (r : R a) : Dr (fun _ => g) R := ⟨a, ev_const h, r⟩
theorem pick_dr {s : List Int} (hs : bytesOk s) (p n : Int) (hp : 0 ≤ p) (hp2 : p ≤ 1000000000000) (hl : s.length ≤ 9223372036854775807) :
    Dr (fun k => spec_l15Rd_pick.f k s p n) (fun r => 0 ≤ r.1 ∧ (1 ≤ n → r.1 < n) ∧ r.2 = p + 1) := by
  obtain ⟨v, hv, h0, h1⟩ := pick_ev hs p n hp hp2 hl
  exact ⟨_, hv, h0, h1, rfl⟩

theorem num_ev {s : List Int} (hs : bytesOk s) (p : Int) (l : List Int) (hp : 0 ≤ p) (hp2 : p ≤ 1000000000000) (hl : s.length ≤ 9223372036854775807) (h0 : 0 < l.length) (h1 : l.length ≤ 1000000) :
    ∃ v, Ev (fun k => spec_l15Rd_num.f k s p l) (v, p + 1) ∧ v ∈ l := by
  obtain ⟨i, hi, i0, i1⟩ := pick_ev hs p l.length hp hp2 hl
  obtain ⟨j, rfl⟩ := Int.eq_ofNat_of_zero_le i0
  have hj : j < l.length := by have := i1 (by omega); omega
  refine ⟨l[j], ?_, List.getElem_mem hj⟩
  unfold spec_l15Rd_num.f
  refine hi.bind (ev_pos i0 (ev_pos (lt_cast hj) ?_))
  rw [rd_i hj]
  exact ev_now _

def boxSmall (b : S70) : Prop := -2000000 ≤ b.f0 ∧ b.f0 ≤ 2000000 ∧ -2000000 ≤ b.f1 ∧ b.f1 ≤ 2000000
theorem set_all {α : Type} {q : α → Prop} {l : List α} {i : Nat} {v : α} (h : ∀ b ∈ l, q b) (hv : q v) : ∀ b ∈ l.set i v, q b := by
  intro b hb
  rcases List.mem_or_eq_of_mem_set hb with h1 | h1
  · exact h b h1
  · rw [h1]; exact hv
theorem rd_boxSmall {l : List S70} (h : ∀ b ∈ l, boxSmall b) (i : Int) : boxSmall (rd_T70 l i) := by
  unfold rd_T70
  rw [List.getD_eq_getElem?_getD]
  cases e : l[i.toNat]? with
  | none => simp [boxSmall, z70]
  | some x => exact h x (List.mem_of_getElem? e)
theorem l1Boxes_ev3 {s : List Int} (hs : bytesOk s) (p : Int) (hp : 0 ≤ p) (hp2 : p ≤ 100000000000) (hl : s.length ≤ 9223372036854775807) :
    ∃ l q, Ev (fun k => spec_l1Boxes.f k s p) (l, q) ∧ p ≤ q ∧ q ≤ p + 20 ∧ (3 ≤ l.length ∧ l.length ≤ 4) ∧ ∀ b ∈ l, boxSmall b := by
  have key : ∀ d (i : Nat) (l : List S70) (p : Int), i + d = 4 → l.length = 4 → (∀ b ∈ l, boxSmall b) → 0 ≤ p → p + 2 * d ≤ 200000000000 → ∃ m q, Ev (fun k => spec_l1Boxes.l0 k l (i : Int) s p) (m, q) ∧ p ≤ q ∧ q ≤ p + 2 * d + 3 ∧ (3 ≤ m.length ∧ m.length ≤ 4) ∧ ∀ b ∈ m, boxSmall b := by
    intro d
    induction d with
    | zero =>
      intro i l p hi hl4 hb h0 h1
      obtain rfl : i = 4 := by omega
      obtain ⟨v, hv, _, _⟩ := pick_ev hs p 30 h0 (by omega) hl
      by_cases v0 : v = 0
      · refine ⟨l.take 3, p + 1, ?_, by omega, by omega, by rw [List.length_take]; omega, fun b h => hb b (List.mem_of_mem_take h)⟩
        refine Ev.step (fun k => by rw [spec_l1Boxes.l0]) ?_
        refine ev_neg (by omega) (hv.bind ?_)
        refine ev_pos v0 ?_
        exact ev_pos (by omega) (ev_now _)
      obtain ⟨i, hi, i0, i1⟩ := pick_ev hs (p + 1) 4 (by omega) (by omega) hl
      have i2 := i1 (by omega)
      by_cases v1 : v = 1
      · obtain ⟨u, hu, hm⟩ := num_ev hs (p + 1 + 1) [(-1), 1000001] (by omega) (by omega) hl (by simp) (by simp)
        refine ⟨l.set i.toNat ⟨u, (rd_T70 l i).f1⟩, p + 1 + 1 + 1, ?_, by omega, by omega, by rw [List.length_set]; omega, ?_⟩
        · refine Ev.step (fun k => by rw [spec_l1Boxes.l0]) ?_
          refine ev_neg (by omega) (hv.bind ?_)
          refine ev_neg v0 ?_
          refine ev_pos v1 (hi.bind (hu.bind ?_))
          exact ev_pos i0 (ev_pos (by omega) (ev_now _))
        refine set_all hb ?_
        have := rd_boxSmall hb i
        simp only [List.mem_cons, List.not_mem_nil, or_false] at hm
        unfold boxSmall at this ⊢
        simp only
        omega
      by_cases v2 : v = 2
      · obtain ⟨u, hu, hm⟩ := num_ev hs (p + 1 + 1) [1000001, (-1000001)] (by omega) (by omega) hl (by simp) (by simp)
        refine ⟨l.set i.toNat ⟨(rd_T70 l i).f0, u⟩, p + 1 + 1 + 1, ?_, by omega, by omega, by rw [List.length_set]; omega, ?_⟩
        · refine Ev.step (fun k => by rw [spec_l1Boxes.l0]) ?_
          refine ev_neg (by omega) (hv.bind ?_)
          refine ev_neg v0 ?_
          refine ev_neg v1 ?_
          refine ev_pos v2 (hi.bind (hu.bind ?_))
          exact ev_pos i0 (ev_pos (by omega) (ev_now _))
        refine set_all hb ?_
        have := rd_boxSmall hb i
        simp only [List.mem_cons, List.not_mem_nil, or_false] at hm
        unfold boxSmall at this ⊢
        simp only
        omega
      refine ⟨l, p + 1, ?_, by omega, by omega, by omega, hb⟩
      refine Ev.step (fun k => by rw [spec_l1Boxes.l0]) ?_
      refine ev_neg (by omega) (hv.bind ?_)
      refine ev_neg v0 ?_
      refine ev_neg v1 ?_
      exact ev_neg v2 (ev_now _)
    | succ d ih =>
      intro i l p hi hl4 hb h0 h1
      obtain ⟨v, hv, hv0, hv1⟩ := pick_ev hs p 5 h0 (by omega) hl
      have hv2 := hv1 (by omega)
      obtain ⟨u, hu, hm⟩ := num_ev hs (p + 1) [0, 1, 2, 5, (-3), 7, 100, 1000000, (-1000000)] (by omega) (by omega) hl (by simp) (by simp)
      have hsm : boxSmall (⟨v, u⟩ : S70) := by
        simp only [List.mem_cons, List.not_mem_nil, or_false] at hm
        unfold boxSmall
        simp only
        omega
      obtain ⟨m, q, hq, q1, q2, q3, q4⟩ := ih (i + 1) (l.set (i : Int).toNat ⟨v, u⟩) (p + 1 + 1) (by omega) (by rw [List.length_set]; exact hl4) (set_all hb hsm) (by omega) (by omega)
      refine ⟨m, q, ?_, by omega, by omega, q3, q4⟩
      refine Ev.step (fun k => by rw [spec_l1Boxes.l0]) ?_
      refine ev_pos (by omega) (hv.bind (hu.bind (ev_pos (by omega) ?_)))
      rw [wrap_succ (n := 4) (by omega) (by omega)]
      exact hq
  obtain ⟨m, q, hq, q1, q2, q3, q4⟩ := key 4 0 (List.replicate 4 z70) p (by omega) (by simp) (by intro b hb; rw [List.eq_of_mem_replicate hb]; simp [boxSmall, z70]) hp (by omega)
  refine ⟨m, q, ?_, q1, by omega, q3, q4⟩
  unfold spec_l1Boxes.f
  refine ev_get (a := List.replicate 4 z70) ?_ hq
  unfold spec_BoxOpen.f
  exact if_pos (by omega)

theorem nums_one (d : Int) (u : Nat) (h : d = (48 + u : Nat)) (hu : u < 10) : strOfNums [d] = bs [UInt8.ofNat (48 + u)] := by subst h; rfl
theorem l15Dec_l0 : ∀ (j n : Nat) (x : Bytes), n < 10 ^ (j + 1) → n < 9223372036854775808 → x.length + j ≤ 60 → Ev (fun k => spec_l15Dec.l0 k (n : Int) (bs x)) (bs (Lib.decDigits n ++ x)) := by
  intro j
  induction j with
  | zero =>
    intro n x hn hm hx
    have h9 : n < 10 := by simpa using hn
    refine Ev.step (fun k => by rw [spec_l15Dec.l0]) (ev_neg (by omega) ?_)
    simp only [Option.bind_some]
    rw [nums_one _ n (by rw [wrap_id (by omega) (by omega)]; omega) h9, bs_size, bs_size, bs_app, dec_small h9]
    exact ev_pos (by simp; omega) (ev_now _)
  | succ j ih =>
    intro n x hn hm hx
    by_cases h9 : n < 10
    · refine Ev.step (fun k => by rw [spec_l15Dec.l0]) (ev_neg (by omega) ?_)
      simp only [Option.bind_some]
      rw [nums_one _ n (by rw [wrap_id (by omega) (by omega)]; omega) h9, bs_size, bs_size, bs_app, dec_small h9]
      exact ev_pos (by simp; omega) (ev_now _)
    · refine Ev.step (fun k => by rw [spec_l15Dec.l0]) (ev_pos (by omega) ?_)
      simp only [Option.bind_some]
      have e1 : Int.tmod (n : Int) 10 = ((n % 10 : Nat) : Int) := by rw [Int.tmod_eq_emod_of_nonneg (by omega)]; omega
      have e2 : Int.tdiv (n : Int) 10 = ((n / 10 : Nat) : Int) := by rw [Int.tdiv_eq_ediv_of_nonneg (by omega)]; omega
      rw [nums_one _ (n % 10) (by rw [e1, wrap_id (by omega) (by omega)]; omega) (by omega), bs_size, bs_size, bs_app, e2, wrap_id (by omega) (by omega), dec_big h9, List.append_assoc]
      exact ev_pos (by simp; omega) (ih (n / 10) _ (by rw [Nat.pow_succ] at hn; omega) (by omega) (by simp; omega))
theorem l15Dec_ev (n : Int) (h0 : -9223372036854775808 ≤ n) (h1 : n ≤ 9223372036854775807) : Ev (fun k => spec_l15Dec.f k n) (bs (Lib.itoa n)) := by
  have pos : ∀ m : Int, 0 ≤ m → m ≤ 9223372036854775807 → Ev (fun k => spec_l15Dec.f k m) (bs (Lib.decDigits m.toNat)) := by
    intro m h0 h1
    refine Ev.step (fun k => by rw [spec_l15Dec.f]) (ev_neg (by omega) (ev_neg (by omega) ?_))
    have := l15Dec_l0 18 m.toNat [] (by omega) (by omega) (by simp)
    rw [List.append_nil, Int.toNat_of_nonneg h0] at this
    exact this
  by_cases hneg : n < 0
  · refine Ev.step (fun k => by rw [spec_l15Dec.f]) ?_
    by_cases hm : n < -9223372036854775807
    · have : n = -9223372036854775808 := by omega
      subst this
      refine ev_pos (by omega) ?_
      rw [itoa_neg (by omega)]
      have e : Lib.decDigits (-9223372036854775808 : Int).natAbs = [57, 50, 50, 51, 51, 55, 50, 48, 51, 54, 56, 53, 52, 55, 55, 53, 56, 48, 56] := by
        rw [← good_dec 19 [57, 50, 50, 51, 51, 55, 50, 48, 51, 54, 56, 53, 52, 55, 55, 53, 56, 48, 56] rfl ((goodB _).1 (by decide))]
        congr 1
      rw [e]
      exact ev_now _
    · refine ev_neg hm (ev_pos hneg ?_)
      rw [wrap_id (by omega) (by omega)]
      refine (pos (-n) (by omega) (by omega)).bind ?_
      rw [itoa_neg hneg, show (-n).toNat = n.natAbs by omega, bs_size]
      have hl := dec_len 18 n.natAbs (by omega)
      refine ev_pos (by omega) ?_
      rw [show (⟨#[45]⟩ : ByteArray) = bs [45] from rfl, bs_app]
      exact ev_now _
  · rw [itoa_nn (by omega)]
    exact pos n (by omega) h1
theorem itoa64 {n : Int} (h0 : -9223372036854775808 ≤ n) (h1 : n ≤ 9223372036854775807) : (Lib.itoa n).length ≤ 20 := itoa_len 18 (by omega)
theorem Itoa_ev (n : Int) (h0 : -9223372036854775808 ≤ n) (h1 : n ≤ 9223372036854775807) : Ev (fun k => strconv_Itoa.f k n) (bs (Lib.itoa n)) := by
  unfold strconv_Itoa.f
  exact ev_pos ⟨h0, h1⟩ (ev_now _)
theorem Join_ev (ps : List Bytes) (c : UInt8) (h : ps.length ≤ 140737488355328) (hl : (Lib.join ps [c]).length ≤ 140737488355328) : Ev (fun k => strings_Join.f k (ps.map bs) (bs [c])) (bs (Lib.join ps [c])) := by
  unfold strings_Join.f
  refine ev_pos ⟨by simpa using h, ?_⟩ ?_
  · rw [List.map_map, show ((fun s : ByteArray => s.data.toList) ∘ bs) = id from rfl, List.map_id]; exact hl
  · rw [joinB_bs]; exact ev_now _
theorem join_snoc (ps : List Bytes) (p : Bytes) (c : UInt8) : Lib.join (ps ++ [p]) [c] = if ps = [] then p else Lib.join ps [c] ++ [c] ++ p := by
  cases ps with
  | nil => rw [if_pos rfl, List.nil_append, Lib.join_one]
  | cons q r =>
    rw [if_neg (by simp), List.cons_append, Lib.join_cons, Lib.join_cons]
    simp [Lib.joinTail, List.append_assoc]
theorem join_len (ps : List Bytes) (c : UInt8) (m : Nat) (h : ∀ p ∈ ps, p.length ≤ m) : (Lib.join ps [c]).length ≤ (m + 1) * ps.length := by
  induction ps with
  | nil => simp [Lib.join_nil]
  | cons p r ih =>
    have hp := h p (by simp)
    have := ih (fun q hq => h q (List.mem_cons_of_mem _ hq))
    cases r with
    | nil => rw [Lib.join_one]; simp; omega
    | cons q r =>
      rw [join_cons2, List.length_append, List.length_cons]
      simp only [List.length_cons, Nat.mul_add, Nat.mul_one] at this ⊢
      omega

theorem l15Cut_l0 (l : Bytes) (c : UInt8) (hl : l.length ≤ 1000000) : ∀ (d i j : Nat) (out : List ByteArray), i + d = l.length → j ≤ i → c ∉ (l.drop j).take (i - j) → out.length ≤ i →
    Ev (fun k => spec_l15Cut.l0 k (bs l) (c.toNat : Int) (j : Int) (i : Int) out) (out ++ (cutAt c (l.drop j)).map bs) := by
  intro d
  induction d with
  | zero =>
    intro i j out hi hj hf ho
    have hi' : i = l.length := by omega
    subst hi'
    rw [List.take_of_length_le (by rw [List.length_drop]; omega)] at hf
    refine Ev.step (fun k => by rw [spec_l15Cut.l0]) ?_
    rw [bs_size, bs_extract]
    refine ev_pos (by omega) (ev_pos rfl (ev_pos (by omega) (ev_pos (by omega) (ev_pos (by omega) (ev_pos (by omega) (ev_pos (by omega) ?_))))))
    rw [Int.toNat_natCast, Int.toNat_natCast, List.take_of_length_le (by rw [List.length_drop]; omega), cutAt_free c _ hf]
    refine Ev.step (fun k => by rw [spec_l15Cut.l0]) ?_
    refine ev_neg ?_ (ev_now _)
    rw [bs_size, wrap_id (by omega) (by omega)]; omega
  | succ d ih =>
    intro i j out hi hj hf ho
    have hil : i < l.length := by omega
    refine Ev.step (fun k => by rw [spec_l15Cut.l0]) ?_
    rw [bs_size, bs_extract, bt_bs l i hil, wrap_succ hil (by omega)]
    refine ev_pos (by omega) (ev_neg (by omega) (ev_pos (nn_cast i) (ev_pos (lt_cast hil) (ev_ite (fun h => ?_) (fun h => ?_)))))
    · have hb : l[i] = c := UInt8.toNat_inj.1 (by omega)
      refine ev_pos (nn_cast i) (ev_pos (by omega) (ev_pos (nn_cast j) (ev_pos (by omega) (ev_pos (by omega) ?_))))
      rw [Int.toNat_natCast, Int.toNat_natCast]
      have e : l.drop j = (l.drop j).take (i - j) ++ c :: l.drop (i + 1) := by
        conv => lhs; rw [← List.take_append_drop (i - j) (l.drop j)]
        rw [List.drop_drop, show j + (i - j) = i by omega, List.drop_eq_getElem_cons hil, hb]
      have e2 : cutAt c (l.drop j) = (l.drop j).take (i - j) :: cutAt c (l.drop (i + 1)) := by
        conv => lhs; rw [e]
        exact cutAt_app c _ _ hf
      have := ih (i + 1) (i + 1) (out ++ [bs ((l.drop j).take (i - j))]) (by omega) (Nat.le_refl _) (by simp) (by simp; omega)
      rw [List.append_assoc, List.singleton_append] at this
      rw [e2, List.map_cons]
      exact this
    · refine ih (i + 1) j out (by omega) (by omega) ?_ (by omega)
      rw [show i + 1 - j = (i - j) + 1 by omega, List.take_succ_eq_append_getElem (by rw [List.length_drop]; omega)]
      intro hm
      rcases List.mem_append.1 hm with hm | hm
      · exact hf hm
      · have e := List.mem_singleton.1 hm
        rw [List.getElem_drop] at e
        have e2 : l[i] = c := by rw [e]; congr 1; omega
        exact h (by rw [e2])
theorem l15Cut_ev (l : Bytes) (c : UInt8) (hl : l.length ≤ 1000000) : Ev (fun k => spec_l15Cut.f k (bs l) (c.toNat : Int)) ((cutAt c l).map bs) := by
  have := l15Cut_l0 l c hl l.length 0 0 [] (by omega) (by omega) (by simp) (by simp)
  rw [List.drop_zero, List.nil_append] at this
  unfold spec_l15Cut.f
  exact this
theorem Split_ev (l : Bytes) (c : UInt8) (hl : l.length ≤ 1000000) : Ev (fun k => strings_Split.f k (bs l) (bs [c])) ((cutAt c l).map bs) := by
  unfold strings_Split.f
  refine ev_pos ⟨by rw [bs_size]; omega, by rw [bs_size]; simp⟩ ?_
  rw [splitW_bs]; exact ev_now _
theorem cutAt_len (c : UInt8) : ∀ (l : Bytes), (cutAt c l).length ≤ l.length + 1
  | [] => by simp [cutAt]
  | b :: r => by
    have ih := cutAt_len c r
    rw [cutAt_snoc c []]
    split
    · simp; omega
    · simp [List.length_tail]; omega
theorem rd_bs {ps : List Bytes} {i : Nat} (h : i < ps.length) : rdOf (default : ByteArray) (ps.map bs) (i : Int) = bs ps[i] := by
  unfold rdOf
  rw [Int.toNat_natCast, List.getD_eq_getElem?_getD, List.getElem?_map, List.getElem?_eq_getElem h]; rfl

theorem of_dr {s : List Int} (hs : bytesOk s) (p : Int) (ps : List Bytes) (hp : 0 ≤ p) (hp2 : p ≤ 1000000000000) (hl : s.length ≤ 9223372036854775807) (h0 : 0 < ps.length) (m : Nat) (hm : ∀ x ∈ ps, x.length ≤ m) :
    Dr (fun k => spec_l15Rd_of.f k s p (ps.map bs)) (fun r => (∃ x : Bytes, r.1 = bs x ∧ x.length ≤ m) ∧ r.2 = p + 1) := by
  unfold spec_l15Rd_of.f
  rw [List.length_map]
  refine (pick_dr hs p ps.length hp hp2 hl).bind fun r hr => ?_
  have h1 := hr.2.1 (by omega)
  refine Dr.pos hr.1 (Dr.pos h1 ?_)
  obtain ⟨j, hj⟩ := Int.eq_ofNat_of_zero_le hr.1
  rw [hj] at h1 ⊢
  have hjl : j < ps.length := by omega
  rw [rd_bs hjl]
  exact Dr.now ⟨⟨ps[j], rfl, hm _ (List.getElem_mem hjl)⟩, hr.2.2⟩
/-- Boxes as text. -/
def boxT (b : S70) : Bytes := Lib.itoa b.f1 ++ [47] ++ Lib.itoa b.f0
def boxL (l : List S70) : Bytes := Lib.join (l.map boxT) [32]
def boxW (b : S70) : Prop := (-9223372036854775808 ≤ b.f0 ∧ b.f0 ≤ 9223372036854775807) ∧ (-9223372036854775808 ≤ b.f1 ∧ b.f1 ≤ 9223372036854775807)
theorem boxT_len {b : S70} (h : boxW b) : (boxT b).length ≤ 41 := by
  have h1 := itoa64 h.1.1 h.1.2
  have h2 := itoa64 h.2.1 h.2.2
  unfold boxT; simp; omega
theorem boxL_len (l : List S70) (h : ∀ b ∈ l, boxW b) : (boxL l).length ≤ 42 * l.length := by
  have := join_len (l.map boxT) 32 41 (fun p hp => by obtain ⟨b, hb, rfl⟩ := List.mem_map.1 hp; exact boxT_len (h b hb))
  rw [List.length_map] at this; exact this
theorem boxL_snoc {l : List S70} {i : Nat} (h : i < l.length) : boxL (l.take (i + 1)) = if i = 0 then boxT l[i] else boxL (l.take i) ++ [32] ++ boxT l[i] := by
  unfold boxL
  rw [List.take_succ_eq_append_getElem h, List.map_append, List.map_singleton, join_snoc]
  by_cases hi : i = 0
  · subst hi; simp
  · rw [if_neg hi, if_neg]
    intro e
    have := congrArg List.length e
    rw [List.length_map, List.length_take, List.length_nil] at this; omega

theorem itoa_free {n : Int} {c : UInt8} (h : c ≠ 45) (hd : isD c = false) : c ∉ Lib.itoa n := by
  intro hm
  rcases itoa_bytes n c hm with e | e
  · exact h e
  · rw [hd] at e; cases e

theorem boxT_free (b : S70) : (32 : UInt8) ∉ boxT b := by
  unfold boxT
  simp only [List.mem_append, List.mem_singleton, not_or]
  exact ⟨⟨itoa_free (by decide) (by decide), by decide⟩, itoa_free (by decide) (by decide)⟩
theorem boxT_cut (b : S70) : cutAt 47 (boxT b) = [Lib.itoa b.f1, Lib.itoa b.f0] := by
  unfold boxT
  rw [List.append_assoc, List.singleton_append, cutAt_app 47 _ _ (itoa_free (by decide) (by decide)), cutAt_free 47 _ (itoa_free (by decide) (by decide))]
theorem boxT_inj {a b : S70} (h : boxT a = boxT b) : a = b := by
  have e := congrArg (cutAt 47) h
  rw [boxT_cut, boxT_cut] at e
  simp only [List.cons.injEq, and_true] at e
  exact box_ext (itoa_inj e.2) (itoa_inj e.1)
theorem boxL_nil {l : List S70} (h : boxL l = []) : l = [] := by
  cases l with
  | nil => rfl
  | cons b r =>
    exfalso
    have hb : boxT b ≠ [] := by unfold boxT; simp
    unfold boxL at h
    rw [List.map_cons, Lib.join_cons] at h
    exact hb (List.append_eq_nil_iff.1 h).1
theorem boxL_cut {l : List S70} (h : l ≠ []) : cutAt 32 (boxL l) = l.map boxT := by
  unfold boxL
  refine cutAt_join 32 _ (by simpa using h) (fun p hp => ?_)
  obtain ⟨b, _, rfl⟩ := List.mem_map.1 hp
  exact boxT_free b
theorem map_inj {α β : Type} {f : α → β} (hf : ∀ a b, f a = f b → a = b) : ∀ {x y : List α}, x.map f = y.map f → x = y
  | [], [], _ => rfl
  | [], _ :: _, h => by simp at h
  | _ :: _, [], h => by simp at h
  | a :: x, b :: y, h => by
    simp only [List.map_cons, List.cons.injEq] at h
    rw [hf _ _ h.1, map_inj hf h.2]
theorem boxL_inj {x y : List S70} (h : boxL x = boxL y) : x = y := by
  by_cases hx : x = []
  · subst hx; exact (boxL_nil h.symm).symm
  by_cases hy : y = []
  · subst hy; exact boxL_nil h
  have e := congrArg (cutAt 32) h
  rw [boxL_cut hx, boxL_cut hy] at e
  exact map_inj (fun a b => boxT_inj) e

/-- What a reader of a number answers. -/
def numR : Option Int → Int × Bool
  | some n => (n, true)
  | none => (0, false)
theorem byte_ne {b c : UInt8} (h : b ≠ c) : ¬ ((b.toNat : Int) = (c.toNat : Int)) := fun e => h (UInt8.toNat_inj.1 (by omega))
theorem valD_0 (ds : Bytes) : valD (ds.take 0) < 10 ^ 0 := by simp [valD]
theorem wrapU8 (n : Int) : IntKind.u8.wrap n = n % 256 := by simp [IntKind.wrap, IntKind.bits, IntKind.signed]
theorem bt0 {b : UInt8} {r : Bytes} : btA (bs (b :: r)) (0 : Int) = (b.toNat : Int) := bt_bs (b :: r) 0 (by simp)
theorem dig_step {v : Nat} {b : UInt8} (hb : isD b = true) (hv : v < 100000000000000000) : wrap64 ((wrap64 ((v : Int) * 10)) + (wrap64 (IntKind.wrap .u8 ((b.toNat : Int) - 48)))) = ((v * 10 + (b.toNat - 48) : Nat) : Int) := by
  unfold isD at hb; simp at hb
  rw [wrapU8]
  have e1 : ((b.toNat : Int) - 48) % 256 = (b.toNat : Int) - 48 := by omega
  rw [e1, wrap_id (a := (v : Int) * 10) (by omega) (by omega), wrap_id (a := (b.toNat : Int) - 48) (by omega) (by omega), wrap_id (by omega) (by omega)]
  omega
theorem valD_take {l : Bytes} {j : Nat} (h : j < l.length) : valD (l.take (j + 1)) = valD (l.take j) * 10 + (l[j].toNat - 48) := by
  rw [List.take_succ_eq_append_getElem h, valD_snoc]
/-- A number's sign and digits, read: what is left to test is that all are digits. -/
def loopR (neg : Bool) (ds : Bytes) : Int × Bool := if ds.all isD then (if neg then -(valD ds : Int) else (valD ds : Int), true) else (0, false)
theorem numR_neg {D : Nat} {r : Bytes} (h0 : r ≠ []) (hD : r.length ≤ D) (h48 : r.head? ≠ some 48) : numR (numL D (45 :: r)) = loopR true r := by
  unfold numL loopR
  rw [if_pos (by rfl)]
  simp only [List.drop_succ_cons, List.drop_zero]
  by_cases ha : r.all isD = true
  · rw [if_pos ⟨(goodB r).2 ⟨h0, List.all_eq_true.1 ha, fun e => absurd e h48⟩, hD, h48⟩, if_pos ha]; rfl
  · rw [if_neg (fun h => ha (List.all_eq_true.2 ((goodB r).1 h.1).2.1)), if_neg ha]; rfl
theorem numR_pos {D : Nat} {l : Bytes} (hh : l.head? ≠ some 45) (h0 : l ≠ []) (hD : l.length ≤ D) (h48 : l.head? = some 48 → l.length = 1) : numR (numL D l) = loopR false l := by
  unfold numL loopR
  rw [if_neg hh]
  by_cases ha : l.all isD = true
  · rw [if_pos ⟨(goodB l).2 ⟨h0, List.all_eq_true.1 ha, h48⟩, hD⟩, if_pos ha]; rfl
  · rw [if_neg (fun h => ha (List.all_eq_true.2 ((goodB l).1 h.1).2.1)), if_neg ha]; rfl
theorem numL_negbad {D : Nat} {r : Bytes} (h : r = [] ∨ D < r.length ∨ r.head? = some 48) : numL D (45 :: r) = none := by
  unfold numL
  rw [if_pos (by rfl)]
  simp only [List.drop_succ_cons, List.drop_zero]
  refine if_neg (fun hc => ?_)
  have hg := (goodB r).1 hc.1
  rcases h with h | h | h
  · exact hg.1 h
  · have := hc.2.1; omega
  · exact hc.2.2 h
theorem numL_posbad {D : Nat} {l : Bytes} (hh : l.head? ≠ some 45) (h : l = [] ∨ D < l.length ∨ (l.head? = some 48 ∧ l.length ≠ 1)) : numL D l = none := by
  unfold numL
  rw [if_neg hh]
  refine if_neg (fun hc => ?_)
  have hg := (goodB l).1 hc.1
  rcases h with h | h | ⟨h, h2⟩
  · exact hg.1 h
  · have := hc.2; omega
  · exact h2 (hg.2.2 h)

/-- A box out of its text. -/
def rdBx (D : Nat) (p : Bytes) : Option S70 :=
  match p.dropWhile (fun b => b != 47) with
  | [] => none
  | _ :: y => match numL D (p.takeWhile (fun b => b != 47)), numL D y with
    | some v, some n => some ⟨n, v⟩
    | _, _ => none
theorem tw {x y : Bytes} (h : (47 : UInt8) ∉ x) : (x ++ 47 :: y).takeWhile (fun b => b != 47) = x ∧ (x ++ 47 :: y).dropWhile (fun b => b != 47) = 47 :: y := by
  induction x with
  | nil => simp
  | cons b r ih =>
    have hb : (b != 47) = true := by simp; exact fun e => h (by rw [e]; exact List.mem_cons_self)
    have := ih (fun hm => h (List.mem_cons_of_mem _ hm))
    simp [List.takeWhile_cons, List.dropWhile_cons, hb, this.1, this.2]
theorem tw_none {x : Bytes} (h : (47 : UInt8) ∉ x) : x.dropWhile (fun b => b != 47) = [] := by
  induction x with
  | nil => rfl
  | cons b r ih =>
    have hb : (b != 47) = true := by simp; exact fun e => h (by rw [e]; exact List.mem_cons_self)
    simp only [List.dropWhile_cons, hb, if_true]
    exact ih (fun hm => h (List.mem_cons_of_mem _ hm))
theorem byte_split (p : Bytes) : (47 : UInt8) ∉ p ∨ ∃ x y, p = x ++ 47 :: y ∧ (47 : UInt8) ∉ x := by
  rcases index_byte_spec 47 p with ⟨_, h⟩ | ⟨x, y, e, h, _⟩
  · exact .inl h
  · exact .inr ⟨x, y, e, h⟩
def rdPair (D : Nat) (x y : Bytes) : Option S70 := match numL D x, numL D y with
  | some v, some n => some ⟨n, v⟩
  | _, _ => none
theorem rdBx_at {D : Nat} {x y : Bytes} (h : (47 : UInt8) ∉ x) : rdBx D (x ++ 47 :: y) = rdPair D x y := by
  unfold rdBx
  rw [(tw h).2, (tw h).1]; rfl
theorem rdBx_none {D : Nat} {p : Bytes} (h : (47 : UInt8) ∉ p) : rdBx D p = none := by
  unfold rdBx
  rw [tw_none h]
def smallB (D : Nat) (b : S70) : Prop := (Lib.decDigits b.f0.natAbs).length ≤ D ∧ (Lib.decDigits b.f1.natAbs).length ≤ D
theorem rdBx_iff (D : Nat) (p : Bytes) (b : S70) : rdBx D p = some b ↔ p = boxT b ∧ smallB D b := by
  constructor
  · intro h
    rcases byte_split p with hn | ⟨x, y, rfl, hx⟩
    · rw [rdBx_none hn] at h; cases h
    · rw [rdBx_at hx] at h
      unfold rdPair at h
      split at h
      · rename_i v n e1 e2
        cases h
        have h1 := (numL_iff D x v).1 e1
        have h2 := (numL_iff D y n).1 e2
        refine ⟨?_, h2.2, h1.2⟩
        unfold boxT
        rw [← h1.1, ← h2.1]; simp
      · cases h
  · rintro ⟨rfl, h0, h1⟩
    have e : boxT b = Lib.itoa b.f1 ++ 47 :: Lib.itoa b.f0 := by unfold boxT; simp
    rw [e, rdBx_at (itoa_free (by decide) (by decide))]
    unfold rdPair
    rw [(numL_iff D _ b.f1).2 ⟨rfl, h1⟩, (numL_iff D _ b.f0).2 ⟨rfl, h0⟩]
def rdBs (D : Nat) : List Bytes → Option (List S70)
  | [] => some []
  | p :: ps => match rdBx D p with
    | none => none
    | some b => (rdBs D ps).map (b :: ·)
theorem rdBs_iff (D : Nat) : ∀ (ps : List Bytes) (r : List S70), rdBs D ps = some r ↔ ps = r.map boxT ∧ ∀ b ∈ r, smallB D b
  | [], r => by
    unfold rdBs
    constructor
    · intro h; cases h; exact ⟨rfl, by simp⟩
    · rintro ⟨h, _⟩
      cases r with
      | nil => rfl
      | cons b r => simp at h
  | p :: ps, r => by
    unfold rdBs
    constructor
    · intro h
      split at h
      · cases h
      · rename_i b hb
        obtain ⟨q, hq, rfl⟩ := Option.map_eq_some_iff.1 h
        have h1 := (rdBx_iff D p b).1 hb
        have h2 := (rdBs_iff D ps q).1 hq
        refine ⟨by rw [List.map_cons, ← h1.1, ← h2.1], fun c hc => ?_⟩
        rcases List.mem_cons.1 hc with rfl | hc
        · exact h1.2
        · exact h2.2 c hc
    · rintro ⟨h, hs⟩
      cases r with
      | nil => simp at h
      | cons b r =>
        simp only [List.map_cons, List.cons.injEq] at h
        rw [(rdBx_iff D p b).2 ⟨h.1, hs b (by simp)⟩]
        simp only
        rw [(rdBs_iff D ps r).2 ⟨h.2, fun c hc => hs c (List.mem_cons_of_mem _ hc)⟩]; rfl
open Classical in
noncomputable def rdB (t : Bytes) : List S70 × Bool := if h : ∃ l, boxOk l ∧ t = boxL l then (Classical.choose h, true) else ([], false)
theorem rdB_some {t : Bytes} {l : List S70} (h : boxOk l) (e : t = boxL l) : rdB t = (l, true) := by
  have hx : ∃ l, boxOk l ∧ t = boxL l := ⟨l, h, e⟩
  unfold rdB
  rw [dif_pos hx]
  have := Classical.choose_spec hx
  rw [boxL_inj (this.2.symm.trans e)]
theorem rdB_none {t : Bytes} (h : ¬ ∃ l, boxOk l ∧ t = boxL l) : rdB t = ([], false) := by unfold rdB; exact dif_neg h
theorem boxIn_W {b : S70} (h : boxIn b) : boxW b := by unfold boxIn at h; unfold boxW; omega
theorem boxIn_small {b : S70} (h : boxIn b) (D : Nat) (hD : 7 ≤ D) : smallB D b := by
  unfold boxIn at h
  have h1 := dec_len 6 b.f0.natAbs (by omega)
  have h2 := dec_len 6 b.f1.natAbs (by omega)
  exact ⟨by omega, by omega⟩
/-- What a reader that goes from piece to piece answers in the end. -/
theorem rd_all (D : Nat) (hD : 7 ≤ D) (t : Bytes) : (∃ r, rdBs D (cutAt 32 t) = some r ∧ boxOk r) ↔ ∃ l, boxOk l ∧ t = boxL l := by
  constructor
  · rintro ⟨r, h, ok⟩
    refine ⟨r, ok, ?_⟩
    unfold boxL
    rw [← ((rdBs_iff D _ r).1 h).1, join_cutAt]
  · rintro ⟨l, ok, rfl⟩
    have hne : l ≠ [] := fun e => by have := ok.1; rw [e] at this; simp at this
    exact ⟨l, (rdBs_iff D _ l).2 ⟨boxL_cut hne, fun b hb => boxIn_small (ok.2 b hb) D hD⟩, ok⟩
open Classical in
noncomputable def okR (l : List S70) : List S70 × Bool := if boxOk l then (l, true) else ([], false)
theorem okR_pos {l : List S70} (h : boxOk l) : okR l = (l, true) := by unfold okR; exact if_pos h
theorem okR_neg {l : List S70} (h : ¬ boxOk l) : okR l = ([], false) := by unfold okR; exact if_neg h
noncomputable def endR (o : Option (List S70)) (pre : List S70) : List S70 × Bool := match o with
  | none => ([], false)
  | some r => okR (pre ++ r)
theorem endR_all (D : Nat) (hD : 7 ≤ D) (t : Bytes) : endR (rdBs D (cutAt 32 t)) [] = rdB t := by
  by_cases h : ∃ l, boxOk l ∧ t = boxL l
  · obtain ⟨r, h1, ok⟩ := (rd_all D hD t).2 h
    have e : t = boxL r := by unfold boxL; rw [← ((rdBs_iff D _ r).1 h1).1, join_cutAt]
    rw [rdB_some ok e, h1]
    unfold endR
    simp only [List.nil_append]
    rw [okR_pos ok]
  · rw [rdB_none h]
    unfold endR
    split
    · rfl
    · rename_i r hr
      rw [List.nil_append, okR_neg (fun ok => h ((rd_all D hD t).1 ⟨r, hr, ok⟩))]
/-- A text of more than 100 bytes is none of boxes. -/
theorem long_none {t : Bytes} (h : 100 < t.length) : rdB t = ([], false) := by
  refine rdB_none ?_
  rintro ⟨l, ok, rfl⟩
  have hb : ∀ b ∈ l, (boxT b).length ≤ 17 := fun b hb => by
    have hi := ok.2 b hb
    unfold boxIn at hi
    have h1 := itoa_nn (n := b.f0) (by omega)
    have h2 := dec_len 6 b.f0.toNat (by omega)
    have h3 := itoa_len (n := b.f1) 6 (by omega)
    unfold boxT
    rw [h1]; simp; omega
  have := join_len (l.map boxT) 32 17 (fun p hp => by obtain ⟨b, hbm, rfl⟩ := List.mem_map.1 hp; exact hb b hbm)
  rw [List.length_map, ok.1] at this
  unfold boxL at h; omega

theorem l15Num_l0 (ds : Bytes) (neg : Bool) (hl : ds.length ≤ 17) : ∀ (d j : Nat), j + d = ds.length → valD (ds.take j) < 10 ^ j → (ds.take j).all isD = true →
    Ev (fun k => spec_l15Num.l0 k (bs ds) neg (valD (ds.take j) : Int) (j : Int)) (loopR neg ds) := by
  intro d
  induction d with
  | zero =>
    intro j hj hv ha
    rw [List.take_of_length_le (by omega)] at hv ha
    have hp : (10 : Nat) ^ j ≤ 10 ^ 17 := Nat.pow_le_pow_right (by omega) (by omega)
    refine Ev.step (fun k => by rw [spec_l15Num.l0]) (ev_neg (by rw [bs_size]; omega) ?_)
    rw [List.take_of_length_le (by omega)]
    unfold loopR
    rw [if_pos ha, wrap_id (by omega) (by omega)]
    refine ev_ite (fun h => ?_) (fun h => ?_)
    · rw [if_pos h, Int.zero_sub]; exact ev_now _
    · rw [if_neg h]; exact ev_now _
  | succ d ih =>
    intro j hj hv ha
    have hi : j < ds.length := by omega
    have hp : (10 : Nat) ^ j ≤ 10 ^ 16 := Nat.pow_le_pow_right (by omega) (by omega)
    have bad : isD ds[j] = false → loopR neg ds = (0, false) := fun h => by
      unfold loopR
      rw [if_neg]
      intro hc
      rw [List.all_eq_true.1 hc _ (List.getElem_mem hi)] at h; cases h
    refine Ev.step (fun k => by rw [spec_l15Num.l0]) ?_
    rw [bs_size, bt_bs ds j hi, wrap_succ hi (by omega)]
    refine ev_pos (lt_cast hi) (ev_pos (nn_cast j) (ev_pos (lt_cast hi) (ev_ite (fun h1 => ?_) (fun h1 => ev_pos (nn_cast j) (ev_pos (lt_cast hi) (ev_ite (fun h2 => ?_) (fun h2 => ?_)))))))
    · rw [bad (by unfold isD; simp; omega)]; exact ev_now _
    · rw [bad (by unfold isD; simp; omega)]; exact ev_now _
    · have hd : isD ds[j] = true := by unfold isD; simp; omega
      refine ev_pos (nn_cast j) (ev_pos (lt_cast hi) ?_)
      have e := valD_take hi
      rw [dig_step hd (by omega), ← e]
      refine ih (j + 1) (by omega) ?_ ?_
      · have := isD_val hd
        rw [e, Nat.pow_succ]; omega
      · rw [List.take_succ_eq_append_getElem hi, List.all_append, ha]; simpa using hd
theorem l15Num_ev (l : Bytes) : Ev (fun k => spec_l15Num.f k (bs l)) (numR (numL 17 l)) := by
  have loop : ∀ (ds : Bytes) (neg : Bool), ds.length ≤ 17 → Ev (fun k => spec_l15Num.l0 k (bs ds) neg 0 0) (loopR neg ds) := fun ds neg h => l15Num_l0 ds neg h ds.length 0 (by omega) (valD_0 _) rfl
  unfold spec_l15Num.f
  cases l with
  | nil => exact ev_neg (by decide) (ev_pos (by decide) (by rw [show numL 17 [] = none by decide]; exact ev_now _))
  | cons b r =>
    have hs : (bs (b :: r)).size = r.length + 1 := by rw [bs_size]; rfl
    refine ev_pos (by rw [hs]; omega) (ev_pos (by rw [hs]; omega) ?_)
    rw [bt0]
    by_cases h45 : b = 45
    · subst h45
      refine ev_pos (by decide) (ev_pos (by rw [hs]; omega) ?_)
      rw [bs_drop]
      simp only [List.drop_succ_cons, List.drop_zero]
      refine ev_ite (fun h => ?_) (fun h => ev_ite (fun h2 => ?_) (fun h2 => ?_))
      · rw [numL_negbad (.inl (List.eq_nil_of_length_eq_zero (by rw [bs_size] at h; omega)))]; exact ev_now _
      · rw [numL_negbad (.inr (.inl (by rw [bs_size] at h2; omega)))]; exact ev_now _
      rw [bs_size] at h h2
      cases r with
      | nil => simp at h
      | cons c r =>
        rw [bt0]
        refine ev_pos (by rw [bs_size]; simp only [List.length_cons]; omega) ?_
        have e1 : (decide (((45 : UInt8).toNat : Int) = 45)) = true := by decide
        by_cases h48 : c = 48
        · subst h48
          rw [numL_negbad (.inr (.inr rfl))]
          exact ev_pos (by decide) (ev_ite (fun _ => ev_now _) (fun _ => ev_pos (by decide) (ev_now _)))
        · have hne : ¬ ((c.toNat : Int) = 48) := byte_ne (c := 48) h48
          refine ev_neg hne ?_
          rw [numR_neg (by simp) (by omega) (by simpa using h48), e1]
          exact loop _ true (by omega)
    · have hne : ¬ ((b.toNat : Int) = 45) := byte_ne (c := 45) h45
      have hh : (b :: r).head? ≠ some 45 := by simpa using h45
      refine ev_neg hne (ev_neg (by rw [hs]; omega) (ev_ite (fun h2 => ?_) (fun h2 => ?_)))
      · rw [numL_posbad hh (.inr (.inl (by rw [hs] at h2; simp only [List.length_cons]; omega)))]; exact ev_now _
      rw [hs] at h2
      have hl : (b :: r).length ≤ 17 := by simp; omega
      have e1 : (decide ((b.toNat : Int) = 45)) = false := decide_eq_false hne
      refine ev_pos (by rw [hs]; omega) ?_
      by_cases h48 : b = 48
      · subst h48
        refine ev_pos (by decide) (ev_ite (fun h3 => ?_) (fun h3 => ev_neg (by decide) ?_))
        · rw [numL_posbad hh (.inr (.inr ⟨rfl, by rw [hs] at h3; simp only [List.length_cons]; omega⟩))]; exact ev_now _
        · rw [numR_pos hh (by simp) hl (fun _ => by rw [hs] at h3; simp only [List.length_cons]; omega), e1]
          exact loop _ false hl
      · have hn8 : ¬ ((b.toNat : Int) = 48) := byte_ne (c := 48) h48
        refine ev_neg hn8 ?_
        rw [numR_pos hh (by simp) hl (fun e => absurd (by simpa using e) h48), e1]
        exact loop _ false hl

theorem l1Num_some (a : Int) : ∃ v, spec_l1Num.f a = some v ∧ (v = true ↔ -1000000 ≤ a ∧ a ≤ 1000000) := by
  unfold spec_l1Num.f
  by_cases h : a ≥ -1000000
  · exact ⟨decide (a ≤ 1000000), by simp [h], by simp; omega⟩
  · exact ⟨false, by simp [h], by simp; omega⟩
theorem spec_BoxOk_ev (l : List S70) (hn : l.length ≤ 9223372036854775807) : ∃ v, Ev (fun k => spec_BoxOk.f k l) v ∧ (v = true ↔ boxOk l) := by
  classical
  by_cases h4 : l.length = 4
  · have key := ev_loop l.length (fun i k => spec_BoxOk.l0 k l (i : Int)) (fun i => decide (∀ b ∈ l.drop i, boxIn b)) (fun i hi ih => by
      refine Ev.step (fun k => by rw [spec_BoxOk.l0]) ?_
      refine ev_pos (lt_cast hi) (ev_pos (nn_cast i) ?_)
      rw [rd_box hi, wrap_succ hi hn]
      obtain ⟨v, hv, hvi⟩ := l1Num_some (l[i]).f1
      have hs := mem_split (p := boxIn) hi
      by_cases h0 : (l[i]).f0 < 0
      · have : ¬ boxIn l[i] := by unfold boxIn; omega
        simp only [hs, this, false_and, decide_false]
        exact ev_pos h0 (ev_now _)
      refine ev_neg h0 ?_
      by_cases h1 : (l[i]).f0 > 1000000
      · have : ¬ boxIn l[i] := by unfold boxIn; omega
        simp only [hs, this, false_and, decide_false]
        exact ev_pos h1 (ev_now _)
      refine ev_neg h1 (ev_get hv ?_)
      by_cases h2 : v = true
      · have : boxIn l[i] := by have := hvi.1 h2; unfold boxIn; omega
        simp only [hs, this, true_and]
        exact ev_pos h2 ih
      · have : ¬ boxIn l[i] := fun h => h2 (hvi.2 (by unfold boxIn at h; omega))
        simp only [hs, this, false_and, decide_false]
        exact ev_neg h2 (ev_now _)) (by
      refine Ev.step (fun k => by rw [spec_BoxOk.l0]) ?_
      refine ev_neg (by omega) ?_
      simp only [List.drop_length, List.not_mem_nil, false_implies, implies_true, decide_true]
      exact ev_now _) 0 (Nat.zero_le _)
    exact ⟨_, Ev.congr (fun k => by unfold spec_BoxOk.f; exact if_pos (by omega)) key, by simp [boxOk, h4]⟩
  · refine ⟨false, ?_, by simp [boxOk, h4]⟩
    unfold spec_BoxOk.f
    exact ev_neg (by omega) (ev_now _)

theorem l15Find_none (p : Bytes) (h : (47 : UInt8) ∉ p) (hl : p.length ≤ 1000) : Ev (fun k => spec_l15Find.f k (bs p) 47) (-1) := by
  have key := ev_loop p.length (fun i k => spec_l15Find.l0 k (bs p) 47 (i : Int)) (fun _ => (-1 : Int)) (fun i hi ih => by
    refine Ev.step (fun k => by rw [spec_l15Find.l0]) ?_
    rw [bs_size, bt_bs p i hi, wrap_succ hi (by omega)]
    exact ev_pos (lt_cast hi) (ev_pos (nn_cast i) (ev_pos (lt_cast hi) (ev_neg (byte_ne (c := 47) (fun e => h (by rw [← e]; exact List.getElem_mem hi))) ih)))) (by
    refine Ev.step (fun k => by rw [spec_l15Find.l0]) ?_
    rw [bs_size]
    exact ev_neg (by omega) (ev_now _)) 0 (Nat.zero_le _)
  unfold spec_l15Find.f
  exact key
theorem l15Find_some (x y : Bytes) (h : (47 : UInt8) ∉ x) (hl : x.length ≤ 1000) : Ev (fun k => spec_l15Find.f k (bs (x ++ 47 :: y)) 47) (x.length : Int) := by
  have hlen : x.length < (x ++ 47 :: y).length := by simp
  have key := ev_loop x.length (fun i k => spec_l15Find.l0 k (bs (x ++ 47 :: y)) 47 (i : Int)) (fun _ => (x.length : Int)) (fun i hi ih => by
    have hi2 : i < (x ++ 47 :: y).length := by omega
    refine Ev.step (fun k => by rw [spec_l15Find.l0]) ?_
    rw [bs_size, bt_bs _ i hi2, wrap_succ hi (by omega), List.getElem_append_left hi]
    exact ev_pos (lt_cast hi2) (ev_pos (nn_cast i) (ev_pos (lt_cast hi2) (ev_neg (byte_ne (c := 47) (fun e => h (by rw [← e]; exact List.getElem_mem hi))) ih)))) (by
    refine Ev.step (fun k => by rw [spec_l15Find.l0]) ?_
    rw [bs_size, bt_bs _ x.length hlen]
    refine ev_pos (lt_cast hlen) (ev_pos (nn_cast _) (ev_pos (lt_cast hlen) (ev_pos ?_ (ev_now _))))
    simp) 0 (Nat.zero_le _)
  unfold spec_l15Find.f
  exact key
theorem spec_BoxRead_l0 (ps : List Bytes) (hl : ps.length ≤ 1000) (hp : ∀ p ∈ ps, p.length ≤ 1000) : ∀ (d i : Nat) (out : List S70), i + d = ps.length → out.length = i →
    Ev (fun k => spec_BoxRead.l0 k (i : Int) (ps.map bs) out) (endR (rdBs 17 (ps.drop i)) out) := by
  intro d
  induction d with
  | zero =>
    intro i out hi ho
    refine Ev.step (fun k => by rw [spec_BoxRead.l0]) (ev_neg (by rw [List.length_map]; omega) ?_)
    rw [List.drop_of_length_le (by omega)]
    obtain ⟨v, hv, hvi⟩ := spec_BoxOk_ev out (by omega)
    refine hv.bind ?_
    unfold endR rdBs
    simp only [List.append_nil]
    by_cases c : boxOk out
    · rw [okR_pos c]; exact ev_pos (hvi.2 c) (ev_now _)
    · rw [okR_neg c]; exact ev_neg (fun h => c (hvi.1 h)) (ev_now _)
  | succ d ih =>
    intro i out hi ho
    have hil : i < ps.length := by omega
    have hpl := hp _ (List.getElem_mem hil)
    refine Ev.step (fun k => by rw [spec_BoxRead.l0]) ?_
    rw [List.length_map, rd_bs hil, wrap_succ hil (by omega), List.drop_eq_getElem_cons hil]
    refine ev_pos (lt_cast hil) (ev_pos (nn_cast i) (ev_pos (lt_cast hil) ?_))
    have stop : rdBx 17 ps[i] = none → endR (rdBs 17 (ps[i] :: ps.drop (i + 1))) out = ([], false) := fun e => by unfold rdBs; rw [e]; rfl
    rcases byte_split ps[i] with hn | ⟨x, y, e, hx⟩
    · rw [stop (rdBx_none hn)]
      exact (l15Find_none _ hn hpl).bind (ev_pos (by omega) (ev_now _))
    · have hxl : x.length ≤ 1000 := by rw [e] at hpl; simp at hpl; omega
      have hsz : (bs (x ++ 47 :: y)).size = x.length + 1 + y.length := by rw [bs_size]; simp; omega
      have e1 : (x ++ 47 :: y).take x.length = x := List.take_left' rfl
      have e2 : (x ++ 47 :: y).drop (x.length + 1) = y := by
        rw [show x ++ 47 :: y = (x ++ [47]) ++ y by simp]; exact List.drop_left' (by simp)
      rw [e] at stop ⊢
      refine (l15Find_some x y hx hxl).bind (ev_neg (by omega) (ev_pos (nn_cast i) (ev_pos (lt_cast hil) (ev_pos (nn_cast _) (ev_pos (by rw [hsz]; omega) ?_)))))
      rw [Int.toNat_natCast, bs_take, e1]
      refine (l15Num_ev x).bind (ev_pos (nn_cast i) (ev_pos (lt_cast hil) ?_))
      rw [wrap_succ (n := 1001) (i := x.length) (by omega) (by omega), Int.toNat_natCast, bs_drop, e2]
      refine ev_pos (nn_cast _) (ev_pos (by rw [hsz]; omega) ((l15Num_ev y).bind ?_))
      rw [rdBx_at hx] at stop
      unfold rdPair at stop
      cases ev : numL 17 x with
      | none =>
        rw [stop (by rw [ev])]
        exact ev_neg (by simp [numR]) (ev_now _)
      | some v =>
        refine ev_pos rfl ?_
        cases en : numL 17 y with
        | none =>
          rw [stop (by rw [ev, en])]
          exact ev_neg (by simp [numR]) (ev_now _)
        | some n =>
          refine ev_pos rfl (ev_pos (by omega) ?_)
          have hb : rdBx 17 (x ++ 47 :: y) = some ⟨n, v⟩ := by rw [rdBx_at hx]; unfold rdPair; rw [ev, en]
          have e3 : endR (rdBs 17 ((x ++ 47 :: y) :: ps.drop (i + 1))) out = endR (rdBs 17 (ps.drop (i + 1))) (out ++ [⟨n, v⟩]) := by
            conv => lhs; unfold rdBs
            rw [hb]
            simp only
            cases rdBs 17 (ps.drop (i + 1)) with
            | none => rfl
            | some r => unfold endR; simp only [Option.map_some, List.append_assoc, List.singleton_append]
          rw [e3]
          exact ih (i + 1) (out ++ [⟨n, v⟩]) (by omega) (by simp; omega)
theorem cut_piece (c : UInt8) : ∀ (l : Bytes), ∀ p ∈ cutAt c l, p.length ≤ l.length
  | [], p, hp => by simp [cutAt] at hp; subst hp; simp
  | b :: r, p, hp => by
    have ih := cutAt_mem
    have ih2 := cut_piece c r
    rw [cutAt_snoc c []] at hp
    split at hp
    · rcases List.mem_cons.1 hp with rfl | hp
      · simp
      · have := ih2 p hp; simp; omega
    · rcases List.mem_cons.1 hp with rfl | hp
      · cases e : cutAt c r with
        | nil => exact absurd e (cutAt_ne c r)
        | cons q qs =>
          have := ih2 q (by rw [e]; simp)
          simp; omega
      · have := ih2 p (List.mem_of_mem_tail hp); simp; omega
theorem spec_BoxRead_ev (t : Bytes) : Ev (fun k => spec_BoxRead.f k (bs t)) (rdB t) := by
  unfold spec_BoxRead.f
  rw [bs_size]
  refine ev_ite (fun h => ?_) (fun h => ?_)
  · rw [long_none (by omega)]; exact ev_now _
  · have hc := cutAt_len 32 t
    refine (l15Cut_ev t 32 (by omega)).bind ?_
    have := spec_BoxRead_l0 (cutAt 32 t) (by omega) (fun p hp => by have := cut_piece 32 t p hp; omega) (cutAt 32 t).length 0 [] (by omega) rfl
    rw [List.drop_zero, endR_all 17 (by omega)] at this
    exact this

theorem in_dec (a b c : Int) : impl_in.f a b c = some (decide (b ≤ a ∧ a ≤ c)) := by
  unfold impl_in.f
  by_cases h : a ≥ b
  · rw [if_pos h]; congr 1; rw [Bool.eq_iff_iff]; simp; omega
  · rw [if_neg h]; congr 1; rw [Bool.eq_iff_iff]; simp; omega

theorem integer_l0 (t ds : Bytes) (hl : ds.length ≤ 9) : ∀ (d j : Nat), j + d = ds.length → valD (ds.take j) < 10 ^ j → (ds.take j).all isD = true →
    Ev (fun k => impl_integer.l0 k (bs t) (bs ds) (valD (ds.take j) : Int) (j : Int)) (loopR (decide (ds.length < t.length)) ds) := by
  intro d
  induction d with
  | zero =>
    intro j hj hv ha
    rw [List.take_of_length_le (by omega)] at hv ha
    have hp : (10 : Nat) ^ j ≤ 10 ^ 9 := Nat.pow_le_pow_right (by omega) (by omega)
    refine Ev.step (fun k => by rw [impl_integer.l0]) (ev_neg (by rw [bs_size]; omega) ?_)
    rw [List.take_of_length_le (by omega)]
    unfold loopR
    rw [if_pos ha, wrap_id (by omega) (by omega), bs_size, bs_size]
    refine ev_ite (fun h => ?_) (fun h => ?_)
    · rw [if_pos (decide_eq_true (by omega)), Int.zero_sub]; exact ev_now _
    · rw [if_neg (by simp; omega)]; exact ev_now _
  | succ d ih =>
    intro j hj hv ha
    have hi : j < ds.length := by omega
    have hp : (10 : Nat) ^ j ≤ 10 ^ 9 := Nat.pow_le_pow_right (by omega) (by omega)
    have hb : (ds[j].toNat : Int) < 256 := by have := ds[j].toNat_lt; omega
    refine Ev.step (fun k => by rw [impl_integer.l0]) ?_
    rw [bs_size, bt_bs ds j hi, wrap_succ hi (by omega), wrap_id (a := (ds[j].toNat : Int)) (by omega) (by omega)]
    refine ev_pos (lt_cast hi) (ev_pos (nn_cast j) (ev_pos (lt_cast hi) (ev_get (in_dec _ _ _) (ev_ite (fun h1 => ?_) (fun h1 => ?_)))))
    · have h2 := of_decide_eq_true h1
      have hd : isD ds[j] = true := by unfold isD; simp; omega
      refine ev_pos (nn_cast j) (ev_pos (lt_cast hi) ?_)
      have e := valD_take hi
      rw [Int.mul_comm, dig_step hd (by omega), ← e]
      refine ih (j + 1) (by omega) ?_ ?_
      · have := isD_val hd
        rw [e, Nat.pow_succ]; omega
      · rw [List.take_succ_eq_append_getElem hi, List.all_append, ha]; simpa using hd
    · have hd : isD ds[j] = false := by
        simp at h1
        unfold isD; simp; omega
      have : loopR (decide (ds.length < t.length)) ds = (0, false) := by
        unfold loopR
        rw [if_neg]
        intro hc
        rw [List.all_eq_true.1 hc _ (List.getElem_mem hi)] at hd; cases hd
      rw [this]; exact ev_now _
theorem integer_ev (l : Bytes) : Ev (fun k => impl_integer.f k (bs l)) (numR (numL 9 l)) := by
  have loop : ∀ (t ds : Bytes), ds.length ≤ 9 → Ev (fun k => impl_integer.l0 k (bs t) (bs ds) 0 0) (loopR (decide (ds.length < t.length)) ds) := fun t ds h => integer_l0 t ds h ds.length 0 (by omega) (valD_0 _) rfl
  have trim : Ev (fun k => strings_TrimPrefix.f k (bs l) (bs [45])) (bs (if l.head? = some 45 then l.drop 1 else l)) := by
    unfold strings_TrimPrefix.f; rw [trimB_bs]; exact ev_now _
  unfold impl_integer.f
  refine trim.bind ?_
  by_cases hh : l.head? = some 45
  · rw [if_pos hh]
    obtain ⟨r, rfl⟩ : ∃ r, l = 45 :: r := by
      cases l with
      | nil => simp at hh
      | cons b r => simp at hh; subst hh; exact ⟨r, rfl⟩
    simp only [List.drop_succ_cons, List.drop_zero]
    rw [bs_size, bs_size]
    refine ev_ite (fun h => ?_) (fun h => ev_ite (fun h2 => ?_) (fun h2 => ?_))
    · rw [numL_negbad (.inl (List.eq_nil_of_length_eq_zero (by omega)))]; exact ev_now _
    · rw [numL_negbad (.inr (.inl (by omega)))]; exact ev_now _
    cases r with
    | nil => simp at h
    | cons c r =>
      rw [bt0]
      refine ev_pos (by simp only [List.length_cons]; omega) ?_
      by_cases h48 : c = 48
      · subst h48
        rw [numL_negbad (.inr (.inr rfl))]
        exact ev_pos (by decide) (ev_ite (fun _ => ev_now _) (fun _ => ev_pos (by simp; omega) (ev_now _)))
      · have hne : ¬ ((c.toNat : Int) = 48) := byte_ne (c := 48) h48
        refine ev_neg hne ?_
        rw [numR_neg (by simp) (by omega) (by simpa using h48)]
        have := loop (45 :: c :: r) (c :: r) (by omega)
        rw [show (decide ((c :: r).length < (45 :: c :: r : Bytes).length)) = true from decide_eq_true (by simp)] at this
        exact this
  · rw [if_neg hh, bs_size]
    refine ev_ite (fun h => ?_) (fun h => ev_ite (fun h2 => ?_) (fun h2 => ?_))
    · rw [numL_posbad hh (.inl (List.eq_nil_of_length_eq_zero (by omega)))]; exact ev_now _
    · rw [numL_posbad hh (.inr (.inl (by omega)))]; exact ev_now _
    cases l with
    | nil => simp at h
    | cons c r =>
      rw [bt0]
      have lp := loop (c :: r) (c :: r) (by omega)
      rw [show (decide ((c :: r).length < (c :: r).length)) = false from decide_eq_false (by omega)] at lp
      refine ev_pos (by simp only [List.length_cons]; omega) ?_
      by_cases h48 : c = 48
      · subst h48
        refine ev_pos (by decide) (ev_ite (fun h3 => ?_) (fun h3 => ev_neg (by omega) ?_))
        · rw [numL_posbad hh (.inr (.inr ⟨rfl, by omega⟩))]; exact ev_now _
        · rw [numR_pos hh (by simp) (by omega) (fun _ => by simp only [List.length_cons] at h3 ⊢; omega)]
          exact lp
      · have hn8 : ¬ ((c.toNat : Int) = 48) := byte_ne (c := 48) h48
        refine ev_neg hn8 ?_
        rw [numR_pos hh (by simp) (by omega) (fun e => absurd (by simpa using e) h48)]
        exact lp

theorem in_some (a b c : Int) : ∃ v, impl_in.f a b c = some v ∧ (v = true ↔ b ≤ a ∧ a ≤ c) := by
  unfold impl_in.f
  by_cases h : a ≥ b
  · exact ⟨decide (a ≤ c), by simp [h], by simp; omega⟩
  · exact ⟨false, by simp [h], by simp; omega⟩
theorem impl_BoxOk_ev (l : List S70) (hn : l.length ≤ 9223372036854775807) : ∃ v, Ev (fun k => impl_BoxOk.f k l) v ∧ (v = true ↔ boxOk l) := by
  classical
  have key := ev_loop l.length (fun i k => impl_BoxOk.l0 k l l (l.length : Int) (i : Int)) (fun i => decide ((∀ b ∈ l.drop i, boxIn b) ∧ l.length = 4)) (fun i hi ih => by
      refine Ev.step (fun k => by rw [impl_BoxOk.l0]) ?_
      refine ev_pos (lt_cast hi) (ev_pos (nn_cast i) (ev_pos (lt_cast hi) ?_))
      rw [rd_box hi, wrap_succ hi hn]
      obtain ⟨v, hv, hvi⟩ := in_some (l[i]).f0 0 1000000
      obtain ⟨u, hu, hui⟩ := in_some (l[i]).f1 (-1000000) 1000000
      have hs := mem_split (p := boxIn) hi
      refine ev_get hv ?_
      by_cases h1 : v = true
      · refine ev_pos h1 (ev_get hu ?_)
        by_cases h2 : u = true
        · have : boxIn l[i] := by have := hvi.1 h1; have := hui.1 h2; unfold boxIn; omega
          simp only [hs, this, true_and]
          exact ev_pos h2 ih
        · have : ¬ boxIn l[i] := fun h => h2 (hui.2 (by unfold boxIn at h; omega))
          simp only [hs, this, false_and, decide_false]
          exact ev_neg h2 (ev_now _)
      · have : ¬ boxIn l[i] := fun h => h1 (hvi.2 (by unfold boxIn at h; omega))
        simp only [hs, this, false_and, decide_false]
        exact ev_neg h1 (ev_now _)) (by
      refine Ev.step (fun k => by rw [impl_BoxOk.l0]) ?_
      refine ev_neg (by omega) ?_
      have : ((l.length : Int) == 4) = decide ((∀ b ∈ l.drop l.length, boxIn b) ∧ l.length = 4) := by
        rw [List.drop_length]
        by_cases h : l.length = 4
        · simp [h]
        · have : (l.length : Int) ≠ 4 := by omega
          simp [h, this]
      rw [← this]
      exact ev_now _) 0 (Nat.zero_le _)
  exact ⟨_, Ev.congr (fun k => by unfold impl_BoxOk.f; exact rfl) key, by simp [boxOk, and_comm]⟩

theorem impl_BoxText_ev (l : List S70) (hn : l.length ≤ 1048576) (hw : ∀ b ∈ l, boxW b) : Ev (fun k => impl_BoxText.f k l) (bs (boxL l)) := by
  have key := ev_loop l.length (fun i k => impl_BoxText.l0 k l (l.length : Int) (i : Int) ((l.take i).map (fun b => bs (boxT b)))) (fun _ => bs (boxL l)) (fun i hi ih => by
    refine Ev.step (fun k => by rw [impl_BoxText.l0]) ?_
    have hb := hw _ (List.getElem_mem hi)
    have hb1 := itoa64 hb.1.1 hb.1.2
    have hb2 := itoa64 hb.2.1 hb.2.2
    refine ev_pos (lt_cast hi) (ev_pos (nn_cast i) (ev_pos (lt_cast hi) ?_))
    rw [rd_box hi, wrap_succ hi (by omega)]
    refine (Itoa_ev _ hb.2.1 hb.2.2).bind (ev_pos (by rw [bs_size]; omega) ((Itoa_ev _ hb.1.1 hb.1.2).bind ?_))
    rw [bs_app, bs_app]
    refine ev_pos (by rw [bs_size, bs_size]; simp; omega) (ev_pos (by simp; omega) ?_)
    have e : (l.take i).map (fun b => bs (boxT b)) ++ [bs (Lib.itoa (l[i]).f1 ++ [47] ++ Lib.itoa (l[i]).f0)] = (l.take (i + 1)).map (fun b => bs (boxT b)) := by
      rw [List.take_succ_eq_append_getElem hi, List.map_append]; rfl
    rw [e]; exact ih) (by
    refine Ev.step (fun k => by rw [impl_BoxText.l0]) (ev_neg (by omega) ?_)
    rw [List.take_length, show (l.map fun b => bs (boxT b)) = (l.map boxT).map bs by rw [List.map_map]; rfl]
    have hl := boxL_len l hw
    exact (Join_ev (l.map boxT) 32 (by simp; omega) (by show (boxL l).length ≤ _; omega)).bind (ev_now _)) 0 (Nat.zero_le _)
  unfold impl_BoxText.f
  exact key

theorem impl_BoxRead_l0 (t : Bytes) (ps : List Bytes) (hps : ps = cutAt 32 t) (ht : t.length ≤ 100) : ∀ (d i : Nat) (out : List S70), i + d = ps.length → out.length = i → ps.take i = out.map boxT →
    Ev (fun k => impl_BoxRead.l0 k (bs t) (ps.length : Int) (i : Int) out (ps.map bs)) (endR (rdBs 9 (ps.drop i)) out) := by
  have hl : ps.length ≤ 1000 := by rw [hps]; have := cutAt_len 32 t; omega
  intro d
  induction d with
  | zero =>
    intro i out hi ho hpre
    refine Ev.step (fun k => by rw [impl_BoxRead.l0]) (ev_neg (by omega) ?_)
    rw [List.drop_of_length_le (by omega)]
    obtain ⟨v, hv, hvi⟩ := impl_BoxOk_ev out (by omega)
    refine hv.bind ?_
    unfold endR rdBs
    simp only [List.append_nil]
    by_cases c : boxOk out
    · rw [okR_pos c]
      refine ev_pos (hvi.2 c) ((impl_BoxText_ev out (by omega) (fun b hb => boxIn_W (c.2 b hb))).bind (ev_pos ?_ ?_))
      · rw [bs_inj]
        unfold boxL
        rw [← hpre, List.take_of_length_le (by omega), hps, join_cutAt]
      · refine ev_get (a := out) ?_ (ev_now _)
        unfold impl_copied_impl_Box.f; exact if_pos (by omega)
    · rw [okR_neg c]; exact ev_neg (fun h => c (hvi.1 h)) (ev_now _)
  | succ d ih =>
    intro i out hi ho hpre
    have hil : i < ps.length := by omega
    have hpl : ps[i].length ≤ 1000 := by
      have := cut_piece 32 t ps[i] (by rw [← hps]; exact List.getElem_mem hil); omega
    refine Ev.step (fun k => by rw [impl_BoxRead.l0]) ?_
    rw [List.length_map, rd_bs hil, wrap_succ hil (by omega), List.drop_eq_getElem_cons hil]
    refine ev_pos (lt_cast hil) (ev_pos (nn_cast i) (ev_pos (lt_cast hil) ?_))
    have stop : rdBx 9 ps[i] = none → endR (rdBs 9 (ps[i] :: ps.drop (i + 1))) out = ([], false) := fun e => by unfold rdBs; rw [e]; rfl
    have cutE : ∀ p : Bytes, p.length ≤ 1000 → Ev (fun k => strings_Cut.f k (bs p) (bs [47])) (cutL (bs p) (bs [47]), cutR (bs p) (bs [47]), cutT (bs p) (bs [47])) := fun p hp => by
      unfold strings_Cut.f
      exact ev_pos (by rw [bs_size]; omega) (ev_now _)
    refine (cutE _ hpl).bind ?_
    rcases cut_bs ps[i] 47 with ⟨x, y, e, hx, c1, c2⟩ | ⟨hn, c1, c2⟩
    · simp only [c1, c2]
      refine (integer_ev x).bind ((integer_ev y).bind ?_)
      have hpi : ps[i] = x ++ 47 :: y := e
      rw [hpi, rdBx_at hx] at stop
      rw [hpi]
      unfold rdPair at stop
      cases ev : numL 9 x with
      | none =>
        rw [stop (by rw [ev])]
        exact ev_neg (by simp [numR]) (ev_now _)
      | some v =>
        refine ev_pos rfl ?_
        cases en : numL 9 y with
        | none =>
          rw [stop (by rw [ev, en])]
          exact ev_neg (by simp [numR]) (ev_now _)
        | some n =>
          refine ev_pos rfl (ev_pos (by omega) ?_)
          have hb : rdBx 9 (x ++ 47 :: y) = some ⟨n, v⟩ := by rw [rdBx_at hx]; unfold rdPair; rw [ev, en]
          have e3 : endR (rdBs 9 ((x ++ 47 :: y) :: ps.drop (i + 1))) out = endR (rdBs 9 (ps.drop (i + 1))) (out ++ [⟨n, v⟩]) := by
            conv => lhs; unfold rdBs
            rw [hb]
            simp only
            cases rdBs 9 (ps.drop (i + 1)) with
            | none => rfl
            | some r => unfold endR; simp only [Option.map_some, List.append_assoc, List.singleton_append]
          rw [e3]
          refine ih (i + 1) (out ++ [⟨n, v⟩]) (by omega) (by simp; omega) ?_
          rw [List.take_succ_eq_append_getElem hil, hpre, List.map_append, hpi, ((rdBx_iff 9 _ _).1 hb).1]; rfl
    · simp only [c1, c2]
      rw [stop (rdBx_none hn)]
      refine (integer_ev ps[i]).bind ((integer_ev []).bind ?_)
      exact ev_ite (fun _ => ev_neg (by decide) (ev_now _)) (fun _ => ev_now _)
theorem impl_BoxRead_ev (t : Bytes) : Ev (fun k => impl_BoxRead.f k (bs t)) (rdB t) := by
  unfold impl_BoxRead.f
  rw [bs_size]
  refine ev_ite (fun h => ?_) (fun h => ?_)
  · rw [long_none (by omega)]; exact ev_now _
  · refine (Split_ev t 32 (by omega)).bind ?_
    have := impl_BoxRead_l0 t (cutAt 32 t) rfl (by omega) (cutAt 32 t).length 0 [] (by omega) rfl rfl
    rw [List.drop_zero, endR_all 9 (by omega)] at this
    rw [List.length_map]
    exact this

theorem spec_BoxText_ev (l : List S70) (hn : l.length ≤ 1048576) (hw : ∀ b ∈ l, boxW b) : Ev (fun k => spec_BoxText.f k l) (bs (boxL l)) := by
  have key := ev_loop l.length (fun i k => spec_BoxText.l0 k l (bs (boxL (l.take i))) (i : Int)) (fun _ => bs (boxL l)) (fun i hi ih => by
    refine Ev.step (fun k => by rw [spec_BoxText.l0]) ?_
    have hb := hw _ (List.getElem_mem hi)
    have hb1 := itoa64 hb.1.1 hb.1.2
    have hb2 := itoa64 hb.2.1 hb.2.2
    have hl := boxL_len (l.take i) (fun b h => hw b (List.mem_of_mem_take h))
    rw [List.length_take] at hl
    have hs := boxL_snoc hi
    refine ev_pos (lt_cast hi) ?_
    rw [rd_box hi, wrap_succ hi (by omega)]
    by_cases h0 : i = 0
    · rw [if_pos h0] at hs
      refine ev_neg (by omega) (ev_pos (nn_cast i) (ev_pos (lt_cast hi) (ev_pos (nn_cast i) (ev_pos (lt_cast hi) ?_))))
      have e0 : boxL (l.take i) = [] := by subst h0; rfl
      rw [e0]
      refine (l15Dec_ev _ hb.2.1 hb.2.2).bind ?_
      rw [bs_app, bs_app, List.nil_append]
      refine ev_pos (by rw [bs_size, bs_size]; simp; omega) (ev_pos (by rw [bs_size]; omega) ((l15Dec_ev _ hb.1.1 hb.1.2).bind ?_))
      rw [bs_app]
      refine ev_pos (by rw [bs_size, bs_size]; simp; omega) ?_
      rw [hs] at ih; exact ih
    · rw [if_neg h0] at hs
      refine ev_pos (by omega) (ev_pos (by rw [bs_size]; omega) (ev_pos (nn_cast i) (ev_pos (lt_cast hi) (ev_pos (nn_cast i) (ev_pos (lt_cast hi) ?_)))))
      refine (l15Dec_ev _ hb.2.1 hb.2.2).bind ?_
      rw [bs_app, bs_app, bs_app]
      refine ev_pos (by rw [bs_size, bs_size]; simp; omega) (ev_pos (by rw [bs_size]; simp; omega) ((l15Dec_ev _ hb.1.1 hb.1.2).bind ?_))
      rw [bs_app]
      refine ev_pos (by rw [bs_size, bs_size]; simp; omega) ?_
      have e : boxL (l.take i) ++ [32] ++ Lib.itoa (l[i]).f1 ++ [47] ++ Lib.itoa (l[i]).f0 = boxL (l.take (i + 1)) := by
        rw [hs]; unfold boxT; simp [List.append_assoc]
      rw [e]; exact ih) (by
    refine Ev.step (fun k => by rw [spec_BoxText.l0]) (ev_neg (by omega) ?_)
    rw [List.take_length]; exact ev_now _) 0 (Nat.zero_le _)
  unfold spec_BoxText.f
  exact key

theorem small_boxW {b : S70} (h : boxSmall b) : boxW b := by unfold boxSmall at h; unfold boxW; omega
theorem DrawBoxText_dr (l : List Int) (hl : bytesOk l) : Dr (fun k => spec_DrawBoxText.f k l) (fun r => r.length ≤ 4 ∧ ∀ b ∈ r, boxW b) := by
  obtain ⟨s, hs, hb, hn⟩ := open_some l hl
  obtain ⟨m, q, hq, _, _, h4, hms⟩ := l1Boxes_ev3 hb 0 (by omega) (by omega) (by omega)
  refine ⟨m, ?_, h4.2, fun b hb => small_boxW (hms b hb)⟩
  unfold spec_DrawBoxText.f
  exact ev_get hs (hq.bind (ev_now _))
theorem DrawBoxRead_dr (l : List Int) (hl : bytesOk l) : Dr (fun k => spec_DrawBoxRead.f k l) (fun r => ∃ t : Bytes, r = bs t) := by
  obtain ⟨s, hs, hb, hn⟩ := open_some l hl
  unfold spec_DrawBoxRead.f
  refine (Dr.of hs (R := fun r => r = (s, 0)) rfl).bind fun v hv => ?_
  subst hv
  obtain ⟨m, q, hq, q0, q20, h4, hms⟩ := l1Boxes_ev3 hb 0 (by omega) (by omega) (by omega)
  refine Dr.bind (Q := fun r => r = (m, q)) ⟨_, hq, rfl⟩ fun r hr => ?_
  subst hr
  have hw : ∀ b ∈ m, boxW b := fun b hb => small_boxW (hms b hb)
  refine Dr.bind (Q := fun r => r = bs (boxL m)) ⟨_, spec_BoxText_ev m (by omega) hw, rfl⟩ fun r hr => ?_
  subst hr
  have ht := boxL_len m hw
  have ht0 : 0 < (boxL m).length := by
    rcases Nat.eq_zero_or_pos (boxL m).length with h | h
    · have := boxL_nil (List.eq_nil_of_length_eq_zero h)
      rw [this] at h4; simp at h4
    · exact h
  refine (pick_dr hb q 2 (by omega) (by omega) (by omega)).bind fun r3 h3 => Dr.ite (fun _ => Dr.now ⟨_, rfl⟩) (fun _ => ?_)
  rw [bs_size]
  refine (pick_dr hb r3.2 (boxL m).length (by omega) (by omega) (by omega)).bind fun r4 h4' => ?_
  have h41 := h4'.2.1 (by omega)
  refine Dr.pos h4'.1 (Dr.pos (by omega) ?_)
  refine (of_dr hb r4.2 [[], [48], [47], [32], [45], [120]] (by omega) (by omega) (by omega) (by simp) 1 (by simp)).bind fun r5 h5 => ?_
  obtain ⟨⟨x, hx, hxl⟩, h52⟩ := h5
  rw [hx]
  refine Dr.pos (by rw [bs_take, bs_size, bs_size, List.length_take]; omega) ?_
  refine (pick_dr hb r5.2 2 (by omega) (by omega) (by omega)).bind fun r6 h6 => ?_
  have h61 := h6.2.1 (by omega)
  rw [wrap_id (by omega) (by omega)]
  have ed : (bs (boxL m)).extract (r4.1 + r6.1).toNat (boxL m).length = bs ((boxL m).drop (r4.1 + r6.1).toNat) := by
    have := bs_drop (boxL m) (r4.1 + r6.1).toNat
    rwa [bs_size] at this
  rw [ed, bs_take, bs_app, bs_app, bs_size, bs_size]
  refine Dr.pos (by omega) (Dr.pos (by omega) (Dr.pos ?_ (Dr.now ⟨_, rfl⟩)))
  simp only [List.length_append, List.length_take, List.length_drop]; omega
theorem BoxSame_ev (x y : List S70) (hn : x.length ≤ 9223372036854775807) : ∃ v, Ev (fun k => impl_BoxSame.f k x y) v ∧ (v = true ↔ x = y) := by
  obtain ⟨v, hv, hvi⟩ := sameBox_ev x y hn
  refine ⟨v, ?_, hvi⟩
  unfold impl_BoxSame.f
  exact hv.bind (ev_now _)
theorem BoxOpen_last : Ev (fun k => (impl_BoxOpen.f).bind fun t => ((impl_BoxOk.f k t).bind fun u => (some u))) true := by
  have ho : impl_BoxOpen.f = some (List.replicate 4 z70) := by unfold impl_BoxOpen.f; exact if_pos (by omega)
  obtain ⟨v, hv, hvi⟩ := impl_BoxOk_ev (List.replicate 4 z70) (by simp)
  have ok : boxOk (List.replicate 4 z70) := ⟨by simp, fun b hb => by rw [List.eq_of_mem_replicate hb]; simp [boxIn, z70]⟩
  obtain rfl : v = true := hvi.2 ok
  exact ev_get ho (hv.bind (ev_now _))
theorem FnBox_rest (s : List Int) (hs : bytesOk s) : Ev (fun k => (spec_DrawBoxRead.f k s).bind fun t8 => ((impl_BoxRead.f k t8).bind fun t9 => ((spec_BoxRead.f k t8).bind fun t10 => (if (t9.2 == t10.2) = true then (if t9.2 = true then ((impl_BoxText.f k t9.1).bind fun t13 => (if (t13 = t8) then ((impl_BoxOk.f k t9.1).bind fun t14 => (if t14 = true then ((impl_BoxOpen.f).bind fun t15 => ((impl_BoxOk.f k t15).bind fun t16 => (some (t16)))) else (some (false)))) else (some (false)))) else ((impl_BoxOpen.f).bind fun t11 => ((impl_BoxOk.f k t11).bind fun t12 => (some (t12))))) else (some (false)))))) true := by
  obtain ⟨r, hr, t, rfl⟩ := DrawBoxRead_dr s hs
  refine hr.bind ((impl_BoxRead_ev t).bind ((spec_BoxRead_ev t).bind (ev_pos (by simp) ?_)))
  by_cases h : ∃ l, boxOk l ∧ t = boxL l
  · obtain ⟨l, ok, rfl⟩ := h
    rw [rdB_some ok rfl]
    have hw : ∀ b ∈ l, boxW b := fun b hb => boxIn_W (ok.2 b hb)
    have hl := ok.1
    obtain ⟨v, hv, hvi⟩ := impl_BoxOk_ev l (by omega)
    obtain rfl : v = true := hvi.2 ok
    exact ev_pos rfl ((impl_BoxText_ev l (by omega) hw).bind (ev_pos rfl (hv.bind (ev_pos rfl BoxOpen_last))))
  · rw [rdB_none h]
    exact ev_neg (by simp) BoxOpen_last
theorem FnBox : laws_FnBox.Pure := by
  intro t s ⟨_, ht⟩ ⟨_, hs⟩
  refine Ev.rounds ?_
  unfold laws_FnBox.f
  refine ev_ite (fun _ => ev_now _) (fun _ => ev_ite (fun _ => ev_now _) (fun _ => ?_))
  obtain ⟨b, hb, hbl, hbw⟩ := DrawBoxText_dr t (bytes_wf ht)
  obtain ⟨v, hv, hvi⟩ := impl_BoxOk_ev b (by omega)
  obtain ⟨u, hu, hui⟩ := spec_BoxOk_ev b (by omega)
  obtain rfl : v = u := Bool.eq_iff_iff.2 (hvi.trans hui.symm)
  refine hb.bind ((impl_BoxText_ev b (by omega) hbw).bind ((impl_BoxRead_ev (boxL b)).bind ((spec_BoxText_ev b (by omega) hbw).bind (ev_pos rfl (hv.bind (hu.bind (ev_pos (by simp) (hu.bind ?_))))))))
  by_cases c : boxOk b
  · rw [rdB_some c rfl]
    obtain rfl : v = true := hvi.2 c
    obtain ⟨w, hw, hwi⟩ := BoxSame_ev b b (by omega)
    obtain rfl : w = true := hwi.2 rfl
    exact ev_pos (by simp) (ev_pos rfl (hw.bind (ev_pos rfl (FnBox_rest s (bytes_wf hs)))))
  · rw [rdB_none (fun ⟨l, ok, e⟩ => c (by rw [boxL_inj e]; exact ok))]
    obtain rfl : v = false := by
      cases v with
      | false => rfl
      | true => exact absurd (hvi.1 rfl) c
    exact ev_pos (by simp) (ev_neg (by simp) (FnBox_rest s (bytes_wf hs)))

end Go.Proofs.YtlpgpckggnimhaaDoor.Pure
