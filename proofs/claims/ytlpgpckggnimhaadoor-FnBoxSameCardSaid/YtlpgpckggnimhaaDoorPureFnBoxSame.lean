/- The pure law of FnBoxSame: what the law's function of numbers and lists answers is true, for every input. Its condition: none but what the row says. -/
import Derived.Test.YtlpgpckggnimhaaDoorPFnBoxSamex2
import Derived.Test.YtlpgpckggnimhaaDoorAm43
namespace Go.Proofs.YtlpgpckggnimhaaDoor.Pure
open Go.RowKit Go.Proofs.YtlpgpckggnimhaaDoor.PFnBoxSame Go.Proofs.YtlpgpckggnimhaaDoorW.PrintWords Go.Proofs.YtlpgpckggnimhaaDoorW.PrintLast
open Am
set_option linter.unusedVariables false
set_option linter.unusedSimpArgs false
set_option linter.unusedSectionVars false

theorem wrap_succ {i n : Nat} (h : i < n) (hn : n ≤ 9223372036854775807) : wrap64 ((i : Int) + 1) = ((i + 1 : Nat) : Int) := by unfold wrap64; omega
theorem wrap_id {a : Int} (h0 : -9223372036854775808 ≤ a) (h1 : a ≤ 9223372036854775807) : wrap64 a = a := by unfold wrap64; omega
theorem ev_pos {α : Type} {c : Prop} [Decidable c] {f g : Nat → Option α} {r : α} (h : c) (e : Ev f r) : Ev (fun k => if c then f k else g k) r := by
  simp only [if_pos h]; exact e
theorem ev_neg {α : Type} {c : Prop} [Decidable c] {f g : Nat → Option α} {r : α} (h : ¬ c) (e : Ev g r) : Ev (fun k => if c then f k else g k) r := by
  simp only [if_neg h]; exact e
theorem ev_ite {α : Type} {c : Prop} [Decidable c] {f g : Nat → Option α} {r : α} (h1 : c → Ev f r) (h2 : ¬ c → Ev g r) : Ev (fun k => if c then f k else g k) r := by
  by_cases h : c
  · exact ev_pos h (h1 h)
  · exact ev_neg h (h2 h)
theorem ev_now {α : Type} (r : α) : Ev (fun _ => some r) r := Ev.now r
theorem ev_get {α β : Type} {g : Option α} {f : Nat → α → Option β} {a : α} {r : β} (h : g = some a) (k : Ev (fun n => f n a) r) : Ev (fun n => g.bind (f n)) r := by
  subst h; exact k
/-- A loop over 0 .. n - 1: what it answers from i on. -/
theorem ev_loop {α : Type} (n : Nat) (F : Nat → Nat → Option α) (v : Nat → α) (step : ∀ i, i < n → Ev (F (i + 1)) (v (i + 1)) → Ev (F i) (v i)) (last : Ev (F n) (v n)) : ∀ i, i ≤ n → Ev (F i) (v i) := by
  have key : ∀ d i, i + d = n → Ev (F i) (v i) := by
    intro d
    induction d with
    | zero => intro i h; obtain rfl : i = n := by omega
              exact last
    | succ d ih => intro i h; exact step i (by omega) (ih (i + 1) (by omega))
  exact fun i hi => key (n - i) i (by omega)
theorem lt_cast {i n : Nat} (h : i < n) : (i : Int) < (n : Int) := Int.ofNat_lt.2 h
theorem nn_cast (i : Nat) : (0 : Int) ≤ (i : Int) := Int.natCast_nonneg i
theorem drop_eq {α : Type} {x y : List α} (hl : x.length = y.length) {i : Nat} (h : i < x.length) : (x.drop i = y.drop i) ↔ (x[i] = y[i]'(hl ▸ h) ∧ x.drop (i + 1) = y.drop (i + 1)) := by
  have h2 : i < y.length := hl ▸ h
  rw [List.drop_eq_getElem_cons h, List.drop_eq_getElem_cons h2, List.cons.injEq]
theorem ev_const {α : Type} {X : Option α} {r : α} (h : X = some r) : Ev (fun _ => X) r := ⟨0, fun _ _ => h⟩

theorem rd_box {l : List S70} {i : Nat} (h : i < l.length) : rd_T70 l (i : Int) = l[i] := by
  unfold rd_T70
  rw [Int.toNat_natCast, List.getD_eq_getElem?_getD, List.getElem?_eq_getElem h]
  rfl
theorem box_ext {a b : S70} (h0 : a.f0 = b.f0) (h1 : a.f1 = b.f1) : a = b := by
  cases a; cases b; simp_all
theorem rdi_Box {l : List S70} {i : Nat} (h : i < l.length) : rd_T70 l (i : Int) = l[i] := by
  unfold rd_T70
  rw [Int.toNat_natCast, List.getD_eq_getElem?_getD, List.getElem?_eq_getElem h]
  rfl

theorem sameBox_ev (x y : List S70) (hn : x.length ≤ 9223372036854775807) : ∃ v, Ev (fun k => impl_same_impl_Box.f k x y) v ∧ (v = true ↔ x = y) := by
  classical
  by_cases hl : x.length = y.length
  · have key := ev_loop x.length (fun i k => impl_same_impl_Box.l0 k x y (x.length : Int) (i : Int)) (fun i => decide (x.drop i = y.drop i)) (fun i hi ih => by
      refine Ev.step (fun k => by rw [impl_same_impl_Box.l0]) ?_
      refine ev_pos (lt_cast hi) (ev_pos (nn_cast i) (ev_pos (lt_cast hi) (ev_pos (lt_cast (hl ▸ hi)) ?_)))
      rw [rdi_Box hi, rdi_Box (hl ▸ hi), wrap_succ hi hn]
      simp only [drop_eq hl hi]
      by_cases h1 : x[i] = y[i]'(hl ▸ hi)
      · simp only [h1, true_and]
        exact ev_neg (by simp) ih
      · simp only [h1, false_and, decide_false]
        refine ev_pos ?_ (ev_now _)
        generalize x[i] = a at h1 ⊢
        generalize y[i]'(hl ▸ hi) = b at h1 ⊢
        obtain ⟨a0_, a1_⟩ := a; obtain ⟨b0_, b1_⟩ := b
        simp only [S70.mk.injEq, not_and] at h1
        simp
        omega) (by
      refine Ev.step (fun k => by rw [impl_same_impl_Box.l0]) ?_
      refine ev_neg (by omega) ?_
      rw [List.drop_length, hl, List.drop_length]
      simp only [decide_true]
      exact ev_now _) 0 (Nat.zero_le _)
    exact ⟨_, Ev.congr (fun k => by unfold impl_same_impl_Box.f; exact if_pos (by omega)) key, by simp⟩
  · refine ⟨false, ?_, by simp; exact fun h => hl (by rw [h])⟩
    unfold impl_same_impl_Box.f
    exact ev_neg (by omega) (ev_now _)

theorem ssameBox_ev (x y : List S70) (hn : x.length ≤ 9223372036854775807) : ∃ v, Ev (fun k => spec_BoxSame.f k x y) v ∧ (v = true ↔ x = y) := by
  classical
  by_cases hl : x.length = y.length
  · have key := ev_loop x.length (fun i k => spec_BoxSame.l0 k x y (i : Int)) (fun i => decide (x.drop i = y.drop i)) (fun i hi ih => by
      refine Ev.step (fun k => by rw [spec_BoxSame.l0]) ?_
      refine ev_pos (lt_cast hi) (ev_pos (nn_cast i) (ev_pos (lt_cast (hl ▸ hi)) ?_))
      rw [rdi_Box hi, rdi_Box (hl ▸ hi), wrap_succ hi hn]
      simp only [drop_eq hl hi]
      by_cases h1 : x[i] = y[i]'(hl ▸ hi)
      · simp only [h1, true_and]
        exact ev_neg (by simp) ih
      · simp only [h1, false_and, decide_false]
        refine ev_pos ?_ (ev_now _)
        generalize x[i] = a at h1 ⊢
        generalize y[i]'(hl ▸ hi) = b at h1 ⊢
        obtain ⟨a0_, a1_⟩ := a; obtain ⟨b0_, b1_⟩ := b
        simp only [S70.mk.injEq, not_and] at h1
        simp
        omega) (by
      refine Ev.step (fun k => by rw [spec_BoxSame.l0]) ?_
      refine ev_neg (by omega) ?_
      rw [List.drop_length, hl, List.drop_length]
      simp only [decide_true]
      exact ev_now _) 0 (Nat.zero_le _)
    exact ⟨_, Ev.congr (fun k => by unfold spec_BoxSame.f; exact if_pos (by omega)) key, by simp⟩
  · refine ⟨false, ?_, by simp; exact fun h => hl (by rw [h])⟩
    unfold spec_BoxSame.f
    exact ev_neg (by omega) (ev_now _)

theorem rd_i {l : List Int} {i : Nat} (h : i < l.length) : rd l (i : Int) = l[i] := by
  unfold rd
  rw [Int.toNat_natCast, List.getD_eq_getElem?_getD, List.getElem?_eq_getElem h]
  rfl

/-- The bytes a draw reads, and the numbers it picks. -/
def bytesOk (s : List Int) : Prop := ∀ x ∈ s, 0 ≤ x ∧ x ≤ 255
theorem rd_byte {s : List Int} (h : bytesOk s) (i : Int) : 0 ≤ rd s i ∧ rd s i ≤ 255 := by
  unfold rd
  rw [List.getD_eq_getElem?_getD]
  cases e : s[i.toNat]? with
  | none => simp
  | some x => exact h x (List.mem_of_getElem? e)
theorem xor_nn (a b : Int) (ha : 0 ≤ a) (ha2 : a < 4611686018427387904) (hb : 0 ≤ b) (hb2 : b < 4611686018427387904) : 0 ≤ Go.bits .xor .i64 a b := by
  obtain ⟨m, rfl⟩ := Int.eq_ofNat_of_zero_le ha
  obtain ⟨n, rfl⟩ := Int.eq_ofNat_of_zero_le hb
  have hm : m < 2 ^ 62 := by omega
  have hn : n < 2 ^ 62 := by omega
  have hx := Nat.xor_lt_two_pow hm hn
  have h1 : m % 2 ^ 64 = m := by omega
  have h2 : n % 2 ^ 64 = n := by omega
  have e : (BitVec.ofNat 64 m ^^^ BitVec.ofNat 64 n).toNat = m ^^^ n := by rw [BitVec.toNat_xor, BitVec.toNat_ofNat, BitVec.toNat_ofNat, h1, h2]
  have e2 : Go.bits .xor .i64 (m : Int) (n : Int) = IntKind.i64.wrap (((BitVec.ofInt 64 (m : Int) ^^^ BitVec.ofInt 64 (n : Int)).toNat : Nat) : Int) := rfl
  rw [e2, BitVec.ofInt_natCast, BitVec.ofInt_natCast, e, IntKind.wrap_i64]
  omega
theorem tmod_in {a n : Int} (ha : 0 ≤ a) (hn : 1 ≤ n) : 0 ≤ Int.tmod a n ∧ Int.tmod a n < n := ⟨Int.tmod_nonneg _ ha, Int.tmod_lt_of_pos _ (by omega)⟩
theorem tdiv_in {a n : Int} (ha : 0 ≤ a) (hn : 1 ≤ n) : 0 ≤ Int.tdiv a n ∧ Int.tdiv a n ≤ a := by
  rw [Int.tdiv_eq_ediv_of_nonneg ha]
  exact ⟨Int.ediv_nonneg ha (by omega), Int.ediv_le_self _ ha⟩
theorem pick_ev {s : List Int} (hs : bytesOk s) (p n : Int) (hp : 0 ≤ p) (hp2 : p ≤ 1000000000000) (hl : s.length ≤ 9223372036854775807) :
    ∃ v, Ev (fun k => spec_l15Rd_pick.f k s p n) (v, p + 1) ∧ 0 ≤ v ∧ (1 ≤ n → v < n) := by
  have wp : wrap64 (p + 1) = p + 1 := wrap_id (by omega) (by omega)
  have wq : wrap64 ((p + 1) - 1) = p := by rw [Int.add_sub_cancel]; exact wrap_id (by omega) (by omega)
  unfold spec_l15Rd_pick.f
  rw [wp]
  by_cases h1 : n < 1
  · refine ⟨0, ev_pos h1 (Ev.step (fun k => by rw [spec_l15Rd_pick.j0]) ?_), by omega, by omega⟩
    exact ev_pos rfl (ev_now _)
  by_cases h2 : s.length = 0
  · refine ⟨0, ev_neg h1 (Ev.step (fun k => by rw [spec_l15Rd_pick.j0]) ?_), by omega, by omega⟩
    exact ev_pos (by simp [h2]) (ev_now _)
  have hf : ¬ (((s.length : Int) == 0) = true) := by simp; intro h; exact h2 (by rw [h]; rfl)
  by_cases h3 : p < s.length
  · have hb := rd_byte hs p
    have wv : wrap64 (rd s p) = rd s p := wrap_id (by omega) (by omega)
    have ht := tmod_in (a := rd s p) (n := n) hb.1 (by omega)
    refine ⟨Int.tmod (rd s p) n, ev_neg h1 (Ev.step (fun k => by rw [spec_l15Rd_pick.j0]) ?_), ht.1, fun _ => ht.2⟩
    rw [wq, wv]
    exact ev_neg hf (ev_pos h3 (ev_pos hp (ev_neg (by omega) (ev_now _))))
  have q1 := tmod_in (a := p) (n := s.length) hp (by omega)
  have w7 : wrap64 (p * 7) = p * 7 := wrap_id (by omega) (by omega)
  have w8 : wrap64 (p * 7 + 3) = p * 7 + 3 := wrap_id (by omega) (by omega)
  have q2 := tmod_in (a := p * 7 + 3) (n := s.length) (by omega) (by omega)
  have b1 := rd_byte hs (Int.tmod p s.length)
  have b2 := rd_byte hs (Int.tmod (p * 7 + 3) s.length)
  have d1 := tdiv_in (a := p) (n := s.length) hp (by omega)
  generalize hx : rd s (Int.tmod p s.length) = x at b1
  generalize hy : rd s (Int.tmod (p * 7 + 3) s.length) = y at b2
  generalize hd : Int.tdiv p s.length = d at d1
  have v1 : wrap64 x = x := wrap_id (by omega) (by omega)
  have v2 : wrap64 (x * 131) = x * 131 := wrap_id (by omega) (by omega)
  have v3 : wrap64 y = y := wrap_id (by omega) (by omega)
  have v4 : wrap64 (y * 1117) = y * 1117 := wrap_id (by omega) (by omega)
  have v5 : wrap64 (x * 131 + y * 1117) = x * 131 + y * 1117 := wrap_id (by omega) (by omega)
  have v6 : wrap64 (p * 29) = p * 29 := wrap_id (by omega) (by omega)
  have v7 : wrap64 (x * 131 + y * 1117 + p * 29) = x * 131 + y * 1117 + p * 29 := wrap_id (by omega) (by omega)
  have v8 : wrap64 d = d := wrap_id (by omega) (by omega)
  have v9 : wrap64 (d * 53) = d * 53 := wrap_id (by omega) (by omega)
  have v10 : wrap64 (x * 131 + y * 1117 + p * 29 + d * 53) = x * 131 + y * 1117 + p * 29 + d * 53 := wrap_id (by omega) (by omega)
  generalize hz : x * 131 + y * 1117 + p * 29 + d * 53 = z at v10
  have z0 : 0 ≤ z := by omega
  have z1 : z < 4611686018427387904 := by omega
  have d2 := tdiv_in (a := z) (n := 64) z0 (by omega)
  have v11 : wrap64 (Int.tdiv z 64) = Int.tdiv z 64 := wrap_id (by omega) (by omega)
  have hxo := xor_nn z (Int.tdiv z 64) z0 z1 d2.1 (by omega)
  have ht := tmod_in (a := Go.bits .xor .i64 z (Int.tdiv z 64)) (n := n) hxo (by omega)
  refine ⟨Int.tmod (Go.bits .xor .i64 z (Int.tdiv z 64)) n, ev_neg h1 (Ev.step (fun k => by rw [spec_l15Rd_pick.j0]) ?_), ht.1, fun _ => ht.2⟩
  rw [wq, w7, w8, hx, hy, hd, v1, v2, v3, v4, v5, v6, v7, v8, v9, hz, v10, v11]
  exact ev_neg hf (ev_neg h3 (ev_neg (by omega) (ev_pos q1.1 (ev_pos q1.2 (ev_pos q2.1 (ev_pos q2.2 (ev_neg (by omega) (ev_now _))))))))
theorem open_some (l : List Int) (hl : bytesOk l) : ∃ s, spec_l15Open.f l = some (s, 0) ∧ bytesOk s ∧ s.length ≤ 2000 := by
  unfold spec_l15Open.f
  by_cases h : (l.length : Int) > 2000
  · refine ⟨l.take 2000, by rw [if_pos h, if_pos (by omega)], fun x hx => hl x (List.mem_of_mem_take hx), by rw [List.length_take]; omega⟩
  · exact ⟨l, by rw [if_neg h], hl, by omega⟩
theorem bytes_wf {l : List Int} (h : ∀ x ∈ l, (Lit.int .u8 x).wf = true) : bytesOk l := by
  intro x hx
  have := h x hx
  simp [Lit.wf, IntKind.min, IntKind.max, IntKind.bits, IntKind.signed] at this
  omega

/-- What comes of a reckoning, told by a property. -/
def Dr {α : Type} (F : Nat → Option α) (Q : α → Prop) : Prop := ∃ v, Ev F v ∧ Q v
theorem Dr.bind {α β : Type} {F : Nat → Option α} {G : Nat → α → Option β} {Q : α → Prop} {R : β → Prop} (h : Dr F Q) (k : ∀ v, Q v → Dr (fun n => G n v) R) : Dr (fun n => (F n).bind (G n)) R := by
  obtain ⟨v, hv, q⟩ := h
  obtain ⟨u, hu, r⟩ := k v q
  exact ⟨u, hv.bind hu, r⟩
theorem Dr.now {α : Type} {R : α → Prop} {v : α} (h : R v) : Dr (fun _ => some v) R := ⟨v, ev_now v, h⟩
theorem Dr.pos {α : Type} {c : Prop} [Decidable c] {f g : Nat → Option α} {R : α → Prop} (h : c) (d : Dr f R) : Dr (fun k => if c then f k else g k) R := by
  obtain ⟨v, hv, q⟩ := d; exact ⟨v, ev_pos h hv, q⟩
theorem Dr.neg {α : Type} {c : Prop} [Decidable c] {f g : Nat → Option α} {R : α → Prop} (h : ¬ c) (d : Dr g R) : Dr (fun k => if c then f k else g k) R := by
  obtain ⟨v, hv, q⟩ := d; exact ⟨v, ev_neg h hv, q⟩
theorem Dr.ite {α : Type} {c : Prop} [Decidable c] {f g : Nat → Option α} {R : α → Prop} (h1 : c → Dr f R) (h2 : ¬ c → Dr g R) : Dr (fun k => if c then f k else g k) R := by
  by_cases h : c
  · exact Dr.pos h (h1 h)
  · exact Dr.neg h (h2 h)
theorem Dr.mono {α : Type} {F : Nat → Option α} {Q R : α → Prop} (h : Dr F Q) (k : ∀ v, Q v → R v) : Dr F R := by
  obtain ⟨v, hv, q⟩ := h; exact ⟨v, hv, k v q⟩
theorem Dr.step {α : Type} {F G : Nat → Option α} {R : α → Prop} (h : ∀ k, F (k + 1) = G k) (d : Dr G R) : Dr F R := by
  obtain ⟨v, hv, q⟩ := d; exact ⟨v, Ev.step h hv, q⟩
theorem Dr.of {α : Type} {g : Option α} {a : α} {R : α → Prop} (h : g = some a) (r : R a) : Dr (fun _ => g) R := ⟨a, ev_const h, r⟩
theorem num_ev {s : List Int} (hs : bytesOk s) (p : Int) (l : List Int) (hp : 0 ≤ p) (hp2 : p ≤ 1000000000000) (hl : s.length ≤ 9223372036854775807) (h0 : 0 < l.length) (h1 : l.length ≤ 1000000) :
    ∃ v, Ev (fun k => spec_l15Rd_num.f k s p l) (v, p + 1) ∧ v ∈ l := by
  obtain ⟨i, hi, i0, i1⟩ := pick_ev hs p l.length hp hp2 hl
  obtain ⟨j, rfl⟩ := Int.eq_ofNat_of_zero_le i0
  have hj : j < l.length := by have := i1 (by omega); omega
  refine ⟨l[j], ?_, List.getElem_mem hj⟩
  unfold spec_l15Rd_num.f
  refine hi.bind (ev_pos i0 (ev_pos (lt_cast hj) ?_))
  rw [rd_i hj]
  exact ev_now _

def boxSmall (b : S70) : Prop := -2000000 ≤ b.f0 ∧ b.f0 ≤ 2000000 ∧ -2000000 ≤ b.f1 ∧ b.f1 ≤ 2000000
theorem set_all {α : Type} {q : α → Prop} {l : List α} {i : Nat} {v : α} (h : ∀ b ∈ l, q b) (hv : q v) : ∀ b ∈ l.set i v, q b := by
  intro b hb
  rcases List.mem_or_eq_of_mem_set hb with h1 | h1
  · exact h b h1
  · rw [h1]; exact hv
theorem rd_boxSmall {l : List S70} (h : ∀ b ∈ l, boxSmall b) (i : Int) : boxSmall (rd_T70 l i) := by
  unfold rd_T70
  rw [List.getD_eq_getElem?_getD]
  cases e : l[i.toNat]? with
  | none => simp [boxSmall, z70]
  | some x => exact h x (List.mem_of_getElem? e)
theorem l1Boxes_ev3 {s : List Int} (hs : bytesOk s) (p : Int) (hp : 0 ≤ p) (hp2 : p ≤ 100000000000) (hl : s.length ≤ 9223372036854775807) :
    ∃ l q, Ev (fun k => spec_l1Boxes.f k s p) (l, q) ∧ p ≤ q ∧ q ≤ p + 20 ∧ (3 ≤ l.length ∧ l.length ≤ 4) ∧ ∀ b ∈ l, boxSmall b := by
  have key : ∀ d (i : Nat) (l : List S70) (p : Int), i + d = 4 → l.length = 4 → (∀ b ∈ l, boxSmall b) → 0 ≤ p → p + 2 * d ≤ 200000000000 → ∃ m q, Ev (fun k => spec_l1Boxes.l0 k l (i : Int) s p) (m, q) ∧ p ≤ q ∧ q ≤ p + 2 * d + 3 ∧ (3 ≤ m.length ∧ m.length ≤ 4) ∧ ∀ b ∈ m, boxSmall b := by
    intro d
    induction d with
    | zero =>
      intro i l p hi hl4 hb h0 h1
      obtain rfl : i = 4 := by omega
      obtain ⟨v, hv, _, _⟩ := pick_ev hs p 30 h0 (by omega) hl
      by_cases v0 : v = 0
      · refine ⟨l.take 3, p + 1, ?_, by omega, by omega, by rw [List.length_take]; omega, fun b h => hb b (List.mem_of_mem_take h)⟩
        refine Ev.step (fun k => by rw [spec_l1Boxes.l0]) ?_
        refine ev_neg (by omega) (hv.bind ?_)
        refine ev_pos v0 ?_
        exact ev_pos (by omega) (ev_now _)
      obtain ⟨i, hi, i0, i1⟩ := pick_ev hs (p + 1) 4 (by omega) (by omega) hl
      have i2 := i1 (by omega)
      by_cases v1 : v = 1
      · obtain ⟨u, hu, hm⟩ := num_ev hs (p + 1 + 1) [(-1), 1000001] (by omega) (by omega) hl (by simp) (by simp)
        refine ⟨l.set i.toNat ⟨u, (rd_T70 l i).f1⟩, p + 1 + 1 + 1, ?_, by omega, by omega, by rw [List.length_set]; omega, ?_⟩
        · refine Ev.step (fun k => by rw [spec_l1Boxes.l0]) ?_
          refine ev_neg (by omega) (hv.bind ?_)
          refine ev_neg v0 ?_
          refine ev_pos v1 (hi.bind (hu.bind ?_))
          exact ev_pos i0 (ev_pos (by omega) (ev_now _))
        refine set_all hb ?_
        have := rd_boxSmall hb i
        simp only [List.mem_cons, List.not_mem_nil, or_false] at hm
        unfold boxSmall at this ⊢
        simp only
        omega
      by_cases v2 : v = 2
      · obtain ⟨u, hu, hm⟩ := num_ev hs (p + 1 + 1) [1000001, (-1000001)] (by omega) (by omega) hl (by simp) (by simp)
        refine ⟨l.set i.toNat ⟨(rd_T70 l i).f0, u⟩, p + 1 + 1 + 1, ?_, by omega, by omega, by rw [List.length_set]; omega, ?_⟩
        · refine Ev.step (fun k => by rw [spec_l1Boxes.l0]) ?_
          refine ev_neg (by omega) (hv.bind ?_)
          refine ev_neg v0 ?_
          refine ev_neg v1 ?_
          refine ev_pos v2 (hi.bind (hu.bind ?_))
          exact ev_pos i0 (ev_pos (by omega) (ev_now _))
        refine set_all hb ?_
        have := rd_boxSmall hb i
        simp only [List.mem_cons, List.not_mem_nil, or_false] at hm
        unfold boxSmall at this ⊢
        simp only
        omega
      refine ⟨l, p + 1, ?_, by omega, by omega, by omega, hb⟩
      refine Ev.step (fun k => by rw [spec_l1Boxes.l0]) ?_
      refine ev_neg (by omega) (hv.bind ?_)
      refine ev_neg v0 ?_
      refine ev_neg v1 ?_
      exact ev_neg v2 (ev_now _)
    | succ d ih =>
      intro i l p hi hl4 hb h0 h1
      obtain ⟨v, hv, hv0, hv1⟩ := pick_ev hs p 5 h0 (by omega) hl
      have hv2 := hv1 (by omega)
      obtain ⟨u, hu, hm⟩ := num_ev hs (p + 1) [0, 1, 2, 5, (-3), 7, 100, 1000000, (-1000000)] (by omega) (by omega) hl (by simp) (by simp)
      have hsm : boxSmall (⟨v, u⟩ : S70) := by
        simp only [List.mem_cons, List.not_mem_nil, or_false] at hm
        unfold boxSmall
        simp only
        omega
      obtain ⟨m, q, hq, q1, q2, q3, q4⟩ := ih (i + 1) (l.set (i : Int).toNat ⟨v, u⟩) (p + 1 + 1) (by omega) (by rw [List.length_set]; exact hl4) (set_all hb hsm) (by omega) (by omega)
      refine ⟨m, q, ?_, by omega, by omega, q3, q4⟩
      refine Ev.step (fun k => by rw [spec_l1Boxes.l0]) ?_
      refine ev_pos (by omega) (hv.bind (hu.bind (ev_pos (by omega) ?_)))
      rw [wrap_succ (n := 4) (by omega) (by omega)]
      exact hq
  obtain ⟨m, q, hq, q1, q2, q3, q4⟩ := key 4 0 (List.replicate 4 z70) p (by omega) (by simp) (by intro b hb; rw [List.eq_of_mem_replicate hb]; simp [boxSmall, z70]) hp (by omega)
  refine ⟨m, q, ?_, q1, by omega, q3, q4⟩
  unfold spec_l1Boxes.f
  refine ev_get (a := List.replicate 4 z70) ?_ hq
  unfold spec_BoxOpen.f
  exact if_pos (by omega)

theorem itoa64 {n : Int} (h0 : -9223372036854775808 ≤ n) (h1 : n ≤ 9223372036854775807) : (Lib.itoa n).length ≤ 20 := itoa_len 18 (by omega)
theorem Itoa_ev (n : Int) (h0 : -9223372036854775808 ≤ n) (h1 : n ≤ 9223372036854775807) : Ev (fun k => strconv_Itoa.f k n) (bs (Lib.itoa n)) := by
  unfold strconv_Itoa.f
  exact ev_pos ⟨h0, h1⟩ (ev_now _)
theorem Join_ev (ps : List Bytes) (c : UInt8) (h : ps.length ≤ 140737488355328) (hl : (Lib.join ps [c]).length ≤ 140737488355328) : Ev (fun k => strings_Join.f k (ps.map bs) (bs [c])) (bs (Lib.join ps [c])) := by
  unfold strings_Join.f
  refine ev_pos ⟨by simpa using h, ?_⟩ ?_
  · rw [List.map_map, show ((fun s : ByteArray => s.data.toList) ∘ bs) = id from rfl, List.map_id]; exact hl
  · rw [joinB_bs]; exact ev_now _
theorem join_len (ps : List Bytes) (c : UInt8) (m : Nat) (h : ∀ p ∈ ps, p.length ≤ m) : (Lib.join ps [c]).length ≤ (m + 1) * ps.length := by
  induction ps with
  | nil => simp [Lib.join_nil]
  | cons p r ih =>
    have hp := h p (by simp)
    have := ih (fun q hq => h q (List.mem_cons_of_mem _ hq))
    cases r with
    | nil => rw [Lib.join_one]; simp; omega
    | cons q r =>
      rw [join_cons2, List.length_append, List.length_cons]
      simp only [List.length_cons, Nat.mul_add, Nat.mul_one] at this ⊢
      omega

/-- Boxes as text. -/
def boxT (b : S70) : Bytes := Lib.itoa b.f1 ++ [47] ++ Lib.itoa b.f0
def boxL (l : List S70) : Bytes := Lib.join (l.map boxT) [32]
def boxW (b : S70) : Prop := (-9223372036854775808 ≤ b.f0 ∧ b.f0 ≤ 9223372036854775807) ∧ (-9223372036854775808 ≤ b.f1 ∧ b.f1 ≤ 9223372036854775807)
theorem boxT_len {b : S70} (h : boxW b) : (boxT b).length ≤ 41 := by
  have h1 := itoa64 h.1.1 h.1.2
  have h2 := itoa64 h.2.1 h.2.2
  unfold boxT; simp; omega
theorem boxL_len (l : List S70) (h : ∀ b ∈ l, boxW b) : (boxL l).length ≤ 42 * l.length := by
  have := join_len (l.map boxT) 32 41 (fun p hp => by obtain ⟨b, hb, rfl⟩ := List.mem_map.1 hp; exact boxT_len (h b hb))
  rw [List.length_map] at this; exact this
theorem itoa_free {n : Int} {c : UInt8} (h : c ≠ 45) (hd : isD c = false) : c ∉ Lib.itoa n := by
  intro hm
  rcases itoa_bytes n c hm with e | e
  · exact h e
  · rw [hd] at e; cases e
theorem boxT_free (b : S70) : (32 : UInt8) ∉ boxT b := by
  unfold boxT
  simp only [List.mem_append, List.mem_singleton, not_or]
  exact ⟨⟨itoa_free (by decide) (by decide), by decide⟩, itoa_free (by decide) (by decide)⟩
theorem boxT_cut (b : S70) : cutAt 47 (boxT b) = [Lib.itoa b.f1, Lib.itoa b.f0] := by
  unfold boxT
  rw [List.append_assoc, List.singleton_append, cutAt_app 47 _ _ (itoa_free (by decide) (by decide)), cutAt_free 47 _ (itoa_free (by decide) (by decide))]
theorem boxT_inj {a b : S70} (h : boxT a = boxT b) : a = b := by
  have e := congrArg (cutAt 47) h
  rw [boxT_cut, boxT_cut] at e
  simp only [List.cons.injEq, and_true] at e
  exact box_ext (itoa_inj e.2) (itoa_inj e.1)
theorem boxL_nil {l : List S70} (h : boxL l = []) : l = [] := by
  cases l with
  | nil => rfl
  | cons b r =>
    exfalso
    have hb : boxT b ≠ [] := by unfold boxT; simp
    unfold boxL at h
    rw [List.map_cons, Lib.join_cons] at h
    exact hb (List.append_eq_nil_iff.1 h).1
theorem boxL_cut {l : List S70} (h : l ≠ []) : cutAt 32 (boxL l) = l.map boxT := by
  unfold boxL
  refine cutAt_join 32 _ (by simpa using h) (fun p hp => ?_)
  obtain ⟨b, _, rfl⟩ := List.mem_map.1 hp
  exact boxT_free b
theorem map_inj {α β : Type} {f : α → β} (hf : ∀ a b, f a = f b → a = b) : ∀ {x y : List α}, x.map f = y.map f → x = y
  | [], [], _ => rfl
  | [], _ :: _, h => by simp at h
  | _ :: _, [], h => by simp at h
  | a :: x, b :: y, h => by
    simp only [List.map_cons, List.cons.injEq] at h
    rw [hf _ _ h.1, map_inj hf h.2]
theorem boxL_inj {x y : List S70} (h : boxL x = boxL y) : x = y := by
  by_cases hx : x = []
  · subst hx; exact (boxL_nil h.symm).symm
  by_cases hy : y = []
  · subst hy; exact boxL_nil h
  have e := congrArg (cutAt 32) h
  rw [boxL_cut hx, boxL_cut hy] at e
  exact map_inj (fun a b => boxT_inj) e

theorem impl_BoxText_ev (l : List S70) (hn : l.length ≤ 1048576) (hw : ∀ b ∈ l, boxW b) : Ev (fun k => impl_BoxText.f k l) (bs (boxL l)) := by
  have key := ev_loop l.length (fun i k => impl_BoxText.l0 k l (l.length : Int) (i : Int) ((l.take i).map (fun b => bs (boxT b)))) (fun _ => bs (boxL l)) (fun i hi ih => by
    refine Ev.step (fun k => by rw [impl_BoxText.l0]) ?_
    have hb := hw _ (List.getElem_mem hi)
    have hb1 := itoa64 hb.1.1 hb.1.2
    have hb2 := itoa64 hb.2.1 hb.2.2
    refine ev_pos (lt_cast hi) (ev_pos (nn_cast i) (ev_pos (lt_cast hi) ?_))
    rw [rd_box hi, wrap_succ hi (by omega)]
    refine (Itoa_ev _ hb.2.1 hb.2.2).bind (ev_pos (by rw [bs_size]; omega) ((Itoa_ev _ hb.1.1 hb.1.2).bind ?_))
    rw [bs_app, bs_app]
    refine ev_pos (by rw [bs_size, bs_size]; simp; omega) (ev_pos (by simp; omega) ?_)
    have e : (l.take i).map (fun b => bs (boxT b)) ++ [bs (Lib.itoa (l[i]).f1 ++ [47] ++ Lib.itoa (l[i]).f0)] = (l.take (i + 1)).map (fun b => bs (boxT b)) := by
      rw [List.take_succ_eq_append_getElem hi, List.map_append]; rfl
    rw [e]; exact ih) (by
    refine Ev.step (fun k => by rw [impl_BoxText.l0]) (ev_neg (by omega) ?_)
    rw [List.take_length, show (l.map fun b => bs (boxT b)) = (l.map boxT).map bs by rw [List.map_map]; rfl]
    have hl := boxL_len l hw
    exact (Join_ev (l.map boxT) 32 (by simp; omega) (by show (boxL l).length ≤ _; omega)).bind (ev_now _)) 0 (Nat.zero_le _)
  unfold impl_BoxText.f
  exact key

theorem small_boxW {b : S70} (h : boxSmall b) : boxW b := by unfold boxSmall at h; unfold boxW; omega
theorem DrawBoxSame_dr (l : List Int) (hl : bytesOk l) : Dr (fun k => spec_DrawBoxSame.f k l) (fun r => (r.1.length ≤ 4 ∧ ∀ b ∈ r.1, boxW b) ∧ (r.2.length ≤ 4 ∧ ∀ b ∈ r.2, boxW b)) := by
  obtain ⟨s, hs, hb, hn⟩ := open_some l hl
  unfold spec_DrawBoxSame.f
  refine (Dr.of hs (R := fun r => r = (s, 0)) rfl).bind fun v hv => ?_
  subst hv
  obtain ⟨m, q, hq, _, _, hm, hms⟩ := l1Boxes_ev3 hb 0 (by omega) (by omega) (by omega)
  have d : Dr (fun k => spec_l1Boxes.f k s 0) (fun r => (3 ≤ r.1.length ∧ r.1.length ≤ 4) ∧ ∀ b ∈ r.1, boxSmall b) := ⟨(m, q), hq, hm, hms⟩
  refine d.bind fun r1 h1 => ?_
  refine (Dr.of hs (R := fun r => r = (s, 0)) rfl).bind fun v hv => ?_
  subst hv
  refine d.bind fun r3 h3 => ?_
  refine Dr.ite (fun c => Dr.pos (by omega) (Dr.ite (fun _ => Dr.pos (by omega) (Dr.pos (by omega) (Dr.now ?_))) (fun _ => Dr.now ?_))) (fun _ => Dr.now ?_)
  · refine ⟨⟨h1.1.2, fun b hb => small_boxW (h1.2 b hb)⟩, by simp only [List.length_set]; exact h3.1.2, set_all (fun b hb => small_boxW (h3.2 b hb)) ?_⟩
    have := rd_boxSmall h3.2 0
    unfold boxSmall at this
    have e : wrap64 ((rd_T70 r3.1 0).f0 + 1) = (rd_T70 r3.1 0).f0 + 1 := wrap_id (by omega) (by omega)
    unfold boxW; simp only [e]; omega
  all_goals exact ⟨⟨h1.1.2, fun b hb => small_boxW (h1.2 b hb)⟩, h3.1.2, fun b hb => small_boxW (h3.2 b hb)⟩
theorem DrawBoxOk_dr (l : List Int) (hl : bytesOk l) : Dr (fun k => spec_DrawBoxOk.f k l) (fun r => r.length ≤ 4 ∧ ∀ b ∈ r, boxW b) := by
  obtain ⟨s, hs, hb, hn⟩ := open_some l hl
  obtain ⟨m, q, hq, _, _, h4, hms⟩ := l1Boxes_ev3 hb 0 (by omega) (by omega) (by omega)
  refine ⟨m, ?_, h4.2, fun b hb => small_boxW (hms b hb)⟩
  unfold spec_DrawBoxOk.f
  exact ev_get hs (hq.bind (ev_now _))
theorem BoxSame_ev (x y : List S70) (hn : x.length ≤ 9223372036854775807) : ∃ v, Ev (fun k => impl_BoxSame.f k x y) v ∧ (v = true ↔ x = y) := by
  obtain ⟨v, hv, hvi⟩ := sameBox_ev x y hn
  refine ⟨v, ?_, hvi⟩
  unfold impl_BoxSame.f
  exact hv.bind (ev_now _)
theorem texts_same (x y : List S70) : (decide (bs (boxL x) = bs (boxL y)) = true) ↔ x = y := by
  rw [decide_eq_true_iff, bs_inj]
  exact ⟨boxL_inj, fun h => h ▸ rfl⟩
theorem FnBoxSame : laws_FnBoxSame.Pure := by
  intro t s ⟨_, ht⟩ ⟨_, hs⟩
  refine Ev.rounds ?_
  unfold laws_FnBoxSame.f
  refine ev_ite (fun _ => ev_now _) (fun _ => ev_ite (fun _ => ev_now _) (fun _ => ?_))
  obtain ⟨⟨a, b⟩, hab, ⟨ha, haw⟩, hb, hbw⟩ := DrawBoxSame_dr t (bytes_wf ht)
  obtain ⟨c, hc, hcl, hcw⟩ := DrawBoxOk_dr s (bytes_wf hs)
  simp only at ha haw hb hbw
  obtain ⟨v2, e2, i2⟩ := BoxSame_ev a b (by omega)
  obtain ⟨v3, e3, i3⟩ := ssameBox_ev a b (by omega)
  obtain ⟨v4, e4, i4⟩ := BoxSame_ev a c (by omega)
  obtain ⟨v5, e5, i5⟩ := BoxSame_ev c a (by omega)
  obtain ⟨v6, e6, i6⟩ := BoxSame_ev a a (by omega)
  obtain rfl : v2 = v3 := Bool.eq_iff_iff.2 (i2.trans i3.symm)
  obtain rfl : v4 = v5 := Bool.eq_iff_iff.2 (i4.trans (Iff.trans eq_comm i5.symm))
  obtain rfl : v6 = true := i6.2 rfl
  have ta := impl_BoxText_ev a (by omega) haw
  have tb := impl_BoxText_ev b (by omega) hbw
  have tc := impl_BoxText_ev c (by omega) hcw
  have q1 : v2 = decide (bs (boxL a) = bs (boxL b)) := Bool.eq_iff_iff.2 (i2.trans (texts_same a b).symm)
  have q2 : v4 = decide (bs (boxL a) = bs (boxL c)) := Bool.eq_iff_iff.2 (i4.trans (texts_same a c).symm)
  refine hab.bind (hc.bind (e2.bind (e3.bind (ev_pos (by simp) (e4.bind (e5.bind (ev_pos (by simp) (e6.bind (ev_pos rfl (e2.bind (ta.bind (tb.bind (ev_pos (by rw [← q1]; simp) (e4.bind (ta.bind (tc.bind ?_))))))))))))))))
  rw [← q2, beq_self_eq_true]
  exact ev_now _

end Go.Proofs.YtlpgpckggnimhaaDoor.Pure
