/- The pure law of FnProgSame: what the law's function of numbers and lists answers is true, for every input. Its condition: none but what the row says. -/
import Derived.Test.YtlpgpckggnimhaaDoorPFnProgSamex2
import Derived.Test.YtlpgpckggnimhaaDoorAm43
namespace Go.Proofs.YtlpgpckggnimhaaDoor.Pure
open Go.RowKit Go.Proofs.YtlpgpckggnimhaaDoor.PFnProgSame Go.Proofs.YtlpgpckggnimhaaDoorW.PrintWords Go.Proofs.YtlpgpckggnimhaaDoorW.PrintLast
open Am
set_option linter.unusedVariables false
set_option linter.unusedSimpArgs false
set_option linter.unusedSectionVars false

theorem wrap_succ {i n : Nat} (h : i < n) (hn : n ≤ 9223372036854775807) : wrap64 ((i : Int) + 1) = ((i + 1 : Nat) : Int) := by unfold wrap64; omega
theorem wrap_id {a : Int} (h0 : -9223372036854775808 ≤ a) (h1 : a ≤ 9223372036854775807) : wrap64 a = a := by unfold wrap64; omega
theorem ev_pos {α : Type} {c : Prop} [Decidable c] {f g : Nat → Option α} {r : α} (h : c) (e : Ev f r) : Ev (fun k => if c then f k else g k) r := by
  simp only [if_pos h]; exact e
theorem ev_neg {α : Type} {c : Prop} [Decidable c] {f g : Nat → Option α} {r : α} (h : ¬ c) (e : Ev g r) : Ev (fun k => if c then f k else g k) r := by
  simp only [if_neg h]; exact e
theorem ev_ite {α : Type} {c : Prop} [Decidable c] {f g : Nat → Option α} {r : α} (h1 : c → Ev f r) (h2 : ¬ c → Ev g r) : Ev (fun k => if c then f k else g k) r := by
  by_cases h : c
  · exact ev_pos h (h1 h)
  · exact ev_neg h (h2 h)
theorem ev_now {α : Type} (r : α) : Ev (fun _ => some r) r := Ev.now r
theorem ev_get {α β : Type} {g : Option α} {f : Nat → α → Option β} {a : α} {r : β} (h : g = some a) (k : Ev (fun n => f n a) r) : Ev (fun n => g.bind (f n)) r := by
  subst h; exact k
/-- A loop over 0 .. n - 1: what it answers from i on. -/
theorem ev_loop {α : Type} (n : Nat) (F : Nat → Nat → Option α) (v : Nat → α) (step : ∀ i, i < n → Ev (F (i + 1)) (v (i + 1)) → Ev (F i) (v i)) (last : Ev (F n) (v n)) : ∀ i, i ≤ n → Ev (F i) (v i) := by
  have key : ∀ d i, i + d = n → Ev (F i) (v i) := by
    intro d
    induction d with
    | zero => intro i h; obtain rfl : i = n := by omega
              exact last
    | succ d ih => intro i h; exact step i (by omega) (ih (i + 1) (by omega))
  exact fun i hi => key (n - i) i (by omega)
theorem lt_cast {i n : Nat} (h : i < n) : (i : Int) < (n : Int) := Int.ofNat_lt.2 h
theorem nn_cast (i : Nat) : (0 : Int) ≤ (i : Int) := Int.natCast_nonneg i
theorem drop_eq {α : Type} {x y : List α} (hl : x.length = y.length) {i : Nat} (h : i < x.length) : (x.drop i = y.drop i) ↔ (x[i] = y[i]'(hl ▸ h) ∧ x.drop (i + 1) = y.drop (i + 1)) := by
  have h2 : i < y.length := hl ▸ h
  rw [List.drop_eq_getElem_cons h, List.drop_eq_getElem_cons h2, List.cons.injEq]
theorem mem_split {α : Type} {p : α → Prop} {l : List α} {i : Nat} (h : i < l.length) : (∀ b ∈ l.drop i, p b) ↔ p l[i] ∧ ∀ b ∈ l.drop (i + 1), p b := by
  rw [List.drop_eq_getElem_cons h]
  simp only [List.mem_cons, forall_eq_or_imp]
theorem ev_const {α : Type} {X : Option α} {r : α} (h : X = some r) : Ev (fun _ => X) r := ⟨0, fun _ _ => h⟩

theorem rd_i {l : List Int} {i : Nat} (h : i < l.length) : rd l (i : Int) = l[i] := by
  unfold rd
  rw [Int.toNat_natCast, List.getD_eq_getElem?_getD, List.getElem?_eq_getElem h]
  rfl

/-- The bytes a draw reads, and the numbers it picks. -/
def bytesOk (s : List Int) : Prop := ∀ x ∈ s, 0 ≤ x ∧ x ≤ 255
theorem rd_byte {s : List Int} (h : bytesOk s) (i : Int) : 0 ≤ rd s i ∧ rd s i ≤ 255 := by
  unfold rd
  rw [List.getD_eq_getElem?_getD]
  cases e : s[i.toNat]? with
  | none => simp
  | some x => exact h x (List.mem_of_getElem? e)
theorem xor_nn (a b : Int) (ha : 0 ≤ a) (ha2 : a < 4611686018427387904) (hb : 0 ≤ b) (hb2 : b < 4611686018427387904) : 0 ≤ Go.bits .xor .i64 a b := by
  obtain ⟨m, rfl⟩ := Int.eq_ofNat_of_zero_le ha
  obtain ⟨n, rfl⟩ := Int.eq_ofNat_of_zero_le hb
  have hm : m < 2 ^ 62 := by omega
  have hn : n < 2 ^ 62 := by omega
  have hx := Nat.xor_lt_two_pow hm hn
  have h1 : m % 2 ^ 64 = m := by omega
  have h2 : n % 2 ^ 64 = n := by omega
  have e : (BitVec.ofNat 64 m ^^^ BitVec.ofNat 64 n).toNat = m ^^^ n := by rw [BitVec.toNat_xor, BitVec.toNat_ofNat, BitVec.toNat_ofNat, h1, h2]
  have e2 : Go.bits .xor .i64 (m : Int) (n : Int) = IntKind.i64.wrap (((BitVec.ofInt 64 (m : Int) ^^^ BitVec.ofInt 64 (n : Int)).toNat : Nat) : Int) := rfl
  rw [e2, BitVec.ofInt_natCast, BitVec.ofInt_natCast, e, IntKind.wrap_i64]
  omega
theorem tmod_in {a n : Int} (ha : 0 ≤ a) (hn : 1 ≤ n) : 0 ≤ Int.tmod a n ∧ Int.tmod a n < n := ⟨Int.tmod_nonneg _ ha, Int.tmod_lt_of_pos _ (by omega)⟩
theorem tdiv_in {a n : Int} (ha : 0 ≤ a) (hn : 1 ≤ n) : 0 ≤ Int.tdiv a n ∧ Int.tdiv a n ≤ a := by
  rw [Int.tdiv_eq_ediv_of_nonneg ha]
  exact ⟨Int.ediv_nonneg ha (by omega), Int.ediv_le_self _ ha⟩
theorem pick_ev {s : List Int} (hs : bytesOk s) (p n : Int) (hp : 0 ≤ p) (hp2 : p ≤ 1000000000000) (hl : s.length ≤ 9223372036854775807) :
    ∃ v, Ev (fun k => spec_l15Rd_pick.f k s p n) (v, p + 1) ∧ 0 ≤ v ∧ (1 ≤ n → v < n) := by
  have wp : wrap64 (p + 1) = p + 1 := wrap_id (by omega) (by omega)
  have wq : wrap64 ((p + 1) - 1) = p := by rw [Int.add_sub_cancel]; exact wrap_id (by omega) (by omega)
  unfold spec_l15Rd_pick.f
  rw [wp]
  by_cases h1 : n < 1
  · refine ⟨0, ev_pos h1 (Ev.step (fun k => by rw [spec_l15Rd_pick.j0]) ?_), by omega, by omega⟩
    exact ev_pos rfl (ev_now _)
  by_cases h2 : s.length = 0
  · refine ⟨0, ev_neg h1 (Ev.step (fun k => by rw [spec_l15Rd_pick.j0]) ?_), by omega, by omega⟩
    exact ev_pos (by simp [h2]) (ev_now _)
  have hf : ¬ (((s.length : Int) == 0) = true) := by simp; intro h; exact h2 (by rw [h]; rfl)
  by_cases h3 : p < s.length
  · have hb := rd_byte hs p
    have wv : wrap64 (rd s p) = rd s p := wrap_id (by omega) (by omega)
    have ht := tmod_in (a := rd s p) (n := n) hb.1 (by omega)
    refine ⟨Int.tmod (rd s p) n, ev_neg h1 (Ev.step (fun k => by rw [spec_l15Rd_pick.j0]) ?_), ht.1, fun _ => ht.2⟩
    rw [wq, wv]
    exact ev_neg hf (ev_pos h3 (ev_pos hp (ev_neg (by omega) (ev_now _))))
  have q1 := tmod_in (a := p) (n := s.length) hp (by omega)
  have w7 : wrap64 (p * 7) = p * 7 := wrap_id (by omega) (by omega)
  have w8 : wrap64 (p * 7 + 3) = p * 7 + 3 := wrap_id (by omega) (by omega)
  have q2 := tmod_in (a := p * 7 + 3) (n := s.length) (by omega) (by omega)
  have b1 := rd_byte hs (Int.tmod p s.length)
  have b2 := rd_byte hs (Int.tmod (p * 7 + 3) s.length)
  have d1 := tdiv_in (a := p) (n := s.length) hp (by omega)
  generalize hx : rd s (Int.tmod p s.length) = x at b1
  generalize hy : rd s (Int.tmod (p * 7 + 3) s.length) = y at b2
  generalize hd : Int.tdiv p s.length = d at d1
  have v1 : wrap64 x = x := wrap_id (by omega) (by omega)
  have v2 : wrap64 (x * 131) = x * 131 := wrap_id (by omega) (by omega)
  have v3 : wrap64 y = y := wrap_id (by omega) (by omega)
  have v4 : wrap64 (y * 1117) = y * 1117 := wrap_id (by omega) (by omega)
  have v5 : wrap64 (x * 131 + y * 1117) = x * 131 + y * 1117 := wrap_id (by omega) (by omega)
  have v6 : wrap64 (p * 29) = p * 29 := wrap_id (by omega) (by omega)
  have v7 : wrap64 (x * 131 + y * 1117 + p * 29) = x * 131 + y * 1117 + p * 29 := wrap_id (by omega) (by omega)
  have v8 : wrap64 d = d := wrap_id (by omega) (by omega)
  have v9 : wrap64 (d * 53) = d * 53 := wrap_id (by omega) (by omega)
  have v10 : wrap64 (x * 131 + y * 1117 + p * 29 + d * 53) = x * 131 + y * 1117 + p * 29 + d * 53 := wrap_id (by omega) (by omega)
  generalize hz : x * 131 + y * 1117 + p * 29 + d * 53 = z at v10
  have z0 : 0 ≤ z := by omega
  have z1 : z < 4611686018427387904 := by omega
  have d2 := tdiv_in (a := z) (n := 64) z0 (by omega)
  have v11 : wrap64 (Int.tdiv z 64) = Int.tdiv z 64 := wrap_id (by omega) (by omega)
  have hxo := xor_nn z (Int.tdiv z 64) z0 z1 d2.1 (by omega)
  have ht := tmod_in (a := Go.bits .xor .i64 z (Int.tdiv z 64)) (n := n) hxo (by omega)
  refine ⟨Int.tmod (Go.bits .xor .i64 z (Int.tdiv z 64)) n, ev_neg h1 (Ev.step (fun k => by rw [spec_l15Rd_pick.j0]) ?_), ht.1, fun _ => ht.2⟩
  rw [wq, w7, w8, hx, hy, hd, v1, v2, v3, v4, v5, v6, v7, v8, v9, hz, v10, v11]
  exact ev_neg hf (ev_neg h3 (ev_neg (by omega) (ev_pos q1.1 (ev_pos q1.2 (ev_pos q2.1 (ev_pos q2.2 (ev_neg (by omega) (ev_now _))))))))
theorem open_some (l : List Int) (hl : bytesOk l) : ∃ s, spec_l15Open.f l = some (s, 0) ∧ bytesOk s ∧ s.length ≤ 2000 := by
  unfold spec_l15Open.f
  by_cases h : (l.length : Int) > 2000
  · refine ⟨l.take 2000, by rw [if_pos h, if_pos (by omega)], fun x hx => hl x (List.mem_of_mem_take hx), by rw [List.length_take]; omega⟩
  · exact ⟨l, by rw [if_neg h], hl, by omega⟩
theorem bytes_wf {l : List Int} (h : ∀ x ∈ l, (Lit.int .u8 x).wf = true) : bytesOk l := by
  intro x hx
  have := h x hx
  simp [Lit.wf, IntKind.min, IntKind.max, IntKind.bits, IntKind.signed] at this
  omega

/-- What comes of a reckoning, told by a property. -/
def Dr {α : Type} (F : Nat → Option α) (Q : α → Prop) : Prop := ∃ v, Ev F v ∧ Q v
theorem Dr.bind {α β : Type} {F : Nat → Option α} {G : Nat → α → Option β} {Q : α → Prop} {R : β → Prop} (h : Dr F Q) (k : ∀ v, Q v → Dr (fun n => G n v) R) : Dr (fun n => (F n).bind (G n)) R := by
  obtain ⟨v, hv, q⟩ := h
  obtain ⟨u, hu, r⟩ := k v q
  exact ⟨u, hv.bind hu, r⟩
theorem Dr.now {α : Type} {R : α → Prop} {v : α} (h : R v) : Dr (fun _ => some v) R := ⟨v, ev_now v, h⟩
theorem Dr.pos {α : Type} {c : Prop} [Decidable c] {f g : Nat → Option α} {R : α → Prop} (h : c) (d : Dr f R) : Dr (fun k => if c then f k else g k) R := by
  obtain ⟨v, hv, q⟩ := d; exact ⟨v, ev_pos h hv, q⟩
theorem Dr.neg {α : Type} {c : Prop} [Decidable c] {f g : Nat → Option α} {R : α → Prop} (h : ¬ c) (d : Dr g R) : Dr (fun k => if c then f k else g k) R := by
  obtain ⟨v, hv, q⟩ := d; exact ⟨v, ev_neg h hv, q⟩
theorem Dr.ite {α : Type} {c : Prop} [Decidable c] {f g : Nat → Option α} {R : α → Prop} (h1 : c → Dr f R) (h2 : ¬ c → Dr g R) : Dr (fun k => if c then f k else g k) R := by
  by_cases h : c
  · exact Dr.pos h (h1 h)
  · exact Dr.neg h (h2 h)
theorem Dr.mono {α : Type} {F : Nat → Option α} {Q R : α → Prop} (h : Dr F Q) (k : ∀ v, Q v → R v) : Dr F R := by
  obtain ⟨v, hv, q⟩ := h; exact ⟨v, hv, k v q⟩
theorem Dr.step {α : Type} {F G : Nat → Option α} {R : α → Prop} (h : ∀ k, F (k + 1) = G k) (d : Dr G R) : Dr F R := by
  obtain ⟨v, hv, q⟩ := d; exact ⟨v, Ev.step h hv, q⟩
theorem Dr.of {α : Type} {g : Option α} {a : α} {R : α → Prop} (h : g = some a) (r : R a) : Dr (fun _ => g) R := ⟨a, ev_const h, r⟩
theorem pick_dr {s : List Int} (hs : bytesOk s) (p n : Int) (hp : 0 ≤ p) (hp2 : p ≤ 1000000000000) (hl : s.length ≤ 9223372036854775807) :
    Dr (fun k => spec_l15Rd_pick.f k s p n) (fun r => 0 ≤ r.1 ∧ (1 ≤ n → r.1 < n) ∧ r.2 = p + 1) := by
  obtain ⟨v, hv, h0, h1⟩ := pick_ev hs p n hp hp2 hl
  exact ⟨_, hv, h0, h1, rfl⟩

theorem num_ev {s : List Int} (hs : bytesOk s) (p : Int) (l : List Int) (hp : 0 ≤ p) (hp2 : p ≤ 1000000000000) (hl : s.length ≤ 9223372036854775807) (h0 : 0 < l.length) (h1 : l.length ≤ 1000000) :
    ∃ v, Ev (fun k => spec_l15Rd_num.f k s p l) (v, p + 1) ∧ v ∈ l := by
  obtain ⟨i, hi, i0, i1⟩ := pick_ev hs p l.length hp hp2 hl
  obtain ⟨j, rfl⟩ := Int.eq_ofNat_of_zero_le i0
  have hj : j < l.length := by have := i1 (by omega); omega
  refine ⟨l[j], ?_, List.getElem_mem hj⟩
  unfold spec_l15Rd_num.f
  refine hi.bind (ev_pos i0 (ev_pos (lt_cast hj) ?_))
  rw [rd_i hj]
  exact ev_now _

theorem num_dr {s : List Int} (hs : bytesOk s) (p : Int) (l : List Int) (hp : 0 ≤ p) (hp2 : p ≤ 1000000000000) (hl : s.length ≤ 9223372036854775807) (h0 : 0 < l.length) (h1 : l.length ≤ 1000000) :
    Dr (fun k => spec_l15Rd_num.f k s p l) (fun r => r.1 ∈ l ∧ r.2 = p + 1) := by
  obtain ⟨v, hv, h⟩ := num_ev hs p l hp hp2 hl h0 h1
  exact ⟨_, hv, h, rfl⟩

theorem rdi_Ins {l : List S60} {i : Nat} (h : i < l.length) : rd_T60 l (i : Int) = l[i] := by
  unfold rd_T60
  rw [Int.toNat_natCast, List.getD_eq_getElem?_getD, List.getElem?_eq_getElem h]
  rfl

/-- An instruction that is right. -/
def insIn (x : S60) : Prop :=
  (x.f0 = 1 ∧ 0 ≤ x.f1 ∧ x.f1 ≤ 3 ∧ 0 ≤ x.f2 ∧ x.f2 ≤ 3 ∧ x.f3 = 0) ∨ (x.f0 = 2 ∧ 0 ≤ x.f1 ∧ x.f1 ≤ 3 ∧ 0 ≤ x.f2 ∧ x.f2 ≤ 3 ∧ x.f3 = 0) ∨
  (x.f0 = 3 ∧ 0 ≤ x.f1 ∧ x.f1 ≤ 3 ∧ x.f2 = 0 ∧ -1000000 ≤ x.f3 ∧ x.f3 ≤ 1000000) ∨ ((x.f0 = 4 ∨ x.f0 = 5) ∧ 0 ≤ x.f1 ∧ x.f1 ≤ 3 ∧ 0 ≤ x.f2 ∧ x.f2 ≤ 3 ∧ x.f3 = 0) ∨
  (x.f0 = 6 ∧ 0 ≤ x.f1 ∧ x.f1 ≤ 3 ∧ 0 ≤ x.f2 ∧ x.f2 ≤ 3 ∧ 1 ≤ x.f3 ∧ x.f3 ≤ 10) ∨ (x.f0 = 7 ∧ x.f1 = 0 ∧ x.f2 = 0 ∧ x.f3 = 0)
instance (x : S60) : Decidable (insIn x) := by unfold insIn; infer_instance
def progOk (l : List S60) : Prop := l.length ≤ 10 ∧ ∀ x ∈ l, insIn x

def insSmall (b : S60) : Prop := -2000000 ≤ b.f0 ∧ b.f0 ≤ 2000000 ∧ -2000000 ≤ b.f1 ∧ b.f1 ≤ 2000000 ∧ -2000000 ≤ b.f2 ∧ b.f2 ≤ 2000000 ∧ -2000000 ≤ b.f3 ∧ b.f3 ≤ 2000000
theorem l2Any_dr {s : List Int} (hs : bytesOk s) (p : Int) (hp : 0 ≤ p) (hp2 : p ≤ 100000000000) (hl : s.length ≤ 9223372036854775807) :
    Dr (fun k => spec_l2Any.f k s p) (fun r => insSmall ⟨r.1, r.2.1, r.2.2.1, r.2.2.2.1⟩ ∧ p ≤ r.2.2.2.2 ∧ r.2.2.2.2 ≤ p + 6) := by
  unfold spec_l2Any.f
  refine (num_dr hs p _ hp (by omega) hl (by simp) (by simp)).bind fun r1 h1 => ?_
  obtain ⟨h1, e1⟩ := h1
  simp only [List.mem_cons, List.not_mem_nil, or_false] at h1
  refine (pick_dr hs r1.2 _ (by omega) (by omega) hl).bind fun r2 h2 => ?_
  refine (pick_dr hs r2.2 _ (by omega) (by omega) hl).bind fun r3 h3 => ?_
  refine Dr.ite (fun c => ?_) (fun c => Dr.ite (fun d => ?_) (fun d => Dr.ite (fun e => ?_) (fun e => ?_)))
  · refine (num_dr hs r3.2 _ (by omega) (by omega) hl (by simp) (by simp)).bind fun r4 h4 => Dr.now ?_
    obtain ⟨h4, e4⟩ := h4
    simp only [List.mem_cons, List.not_mem_nil, or_false] at h4
    unfold insSmall; simp only; omega
  · refine (pick_dr hs r3.2 _ (by omega) (by omega) hl).bind fun r4 h4 => Dr.now ?_
    have : wrap64 (1 + r4.1) = 1 + r4.1 := wrap_id (by omega) (by omega)
    unfold insSmall; simp only [this]; omega
  · refine (pick_dr hs r3.2 _ (by omega) (by omega) hl).bind fun r4 h4 => Dr.ite (fun f => ?_) (fun f => Dr.now ?_)
    · refine (pick_dr hs r4.2 _ (by omega) (by omega) hl).bind fun r5 h5 => ?_
      refine (pick_dr hs r5.2 _ (by omega) (by omega) hl).bind fun r6 h6 => Dr.now ?_
      unfold insSmall; simp only; omega
    · unfold insSmall; simp only; omega
  · refine Dr.now ?_
    unfold insSmall; simp only; omega
theorem l2Prog_l0 {s : List Int} (hs : bytesOk s) (hl : s.length ≤ 9223372036854775807) : ∀ (d : Nat) (l : List S60) (p : Int), d ≤ 100 → l.length + d ≤ 1000 → (∀ b ∈ l, insSmall b) → 0 ≤ p → p + 6 * d ≤ 90000000000 →
    Dr (fun k => spec_l2Prog.l0 k l d s p) (fun r => r.1.length = l.length + d ∧ (∀ b ∈ r.1, insSmall b) ∧ p ≤ r.2 ∧ r.2 ≤ p + 6 * d) := by
  intro d
  induction d with
  | zero =>
    intro l p _ _ hb _ _
    refine Dr.step (fun k => by rw [spec_l2Prog.l0]) ?_
    exact Dr.neg (by omega) (Dr.now ⟨by simp, hb, by simp, by simp⟩)
  | succ d ih =>
    intro l p hd hn hb h0 h1
    refine Dr.step (fun k => by rw [spec_l2Prog.l0]) ?_
    refine Dr.pos (by omega) ((l2Any_dr hs p h0 (by omega) hl).bind fun r hr => Dr.pos (by omega) ?_)
    have hw : wrap64 (((d + 1 : Nat) : Int) - 1) = (d : Int) := by
      rw [show ((d + 1 : Nat) : Int) - 1 = (d : Int) by omega]
      exact wrap_id (by omega) (by omega)
    rw [hw]
    refine (ih (l ++ [(⟨r.1, r.2.1, r.2.2.1, r.2.2.2.1⟩ : S60)]) r.2.2.2.2 (by omega) (by simp; omega) ?_ (by omega) (by omega)).mono fun v hv => ⟨by rw [hv.1]; simp; omega, hv.2.1, by omega, by omega⟩
    intro b hb2
    rcases List.mem_append.1 hb2 with h | h
    · exact hb b h
    · rw [List.mem_singleton.1 h]; exact hr.1
theorem l2Prog_dr {s : List Int} (hs : bytesOk s) (p : Int) (hp : 0 ≤ p) (hp2 : p ≤ 10000000000) (hl : s.length ≤ 9223372036854775807) :
    Dr (fun k => spec_l2Prog.f k s p) (fun r => r.1.length ≤ 7 ∧ (∀ b ∈ r.1, insSmall b) ∧ p ≤ r.2 ∧ r.2 ≤ p + 50) := by
  unfold spec_l2Prog.f
  refine (pick_dr hs p _ hp (by omega) hl).bind fun r1 h1 => Dr.ite (fun c => ?_) (fun c => ?_)
  · refine (pick_dr hs r1.2 _ (by omega) (by omega) hl).bind fun r2 h2 => ?_
    refine (pick_dr hs r2.2 _ (by omega) (by omega) hl).bind fun r3 h3 => ?_
    refine (pick_dr hs r3.2 _ (by omega) (by omega) hl).bind fun r4 h4 => Dr.now ?_
    have hw : wrap64 (1 + r4.1) = 1 + r4.1 := wrap_id (by omega) (by omega)
    refine ⟨by simp, ?_, by omega, by omega⟩
    intro b hb
    simp only [List.mem_cons, List.not_mem_nil, or_false, hw] at hb
    rcases hb with rfl | rfl | rfl | rfl <;> (unfold insSmall; simp only; omega)
  · refine (pick_dr hs r1.2 _ (by omega) (by omega) hl).bind fun r2 h2 => ?_
    have h3 := h2.2.1 (by omega)
    obtain ⟨d, hd⟩ := Int.eq_ofNat_of_zero_le h2.1
    rw [hd] at h3 ⊢
    refine (l2Prog_l0 hs hl d [] r2.2 (by omega) (by simp; omega) (by simp) (by omega) (by omega)).mono fun v hv => ⟨by rw [hv.1]; simp; omega, hv.2.1, by omega, by omega⟩
theorem insSmall_rd {l : List S60} (h : ∀ b ∈ l, insSmall b) (i : Int) : insSmall (rd_T60 l i) := by
  unfold rd_T60
  rw [List.getD_eq_getElem?_getD]
  cases e : l[i.toNat]? with
  | none => simp [insSmall, z60]
  | some x => exact h x (List.mem_of_getElem? e)
theorem insSmall_set {l : List S60} {i : Nat} {v : S60} (h : ∀ b ∈ l, insSmall b) (hv : insSmall v) : ∀ b ∈ l.set i v, insSmall b := by
  intro b hb
  rcases List.mem_or_eq_of_mem_set hb with h1 | h1
  · exact h b h1
  · rw [h1]; exact hv
theorem l2Bent_l0 {s : List Int} : ∀ (d : Nat) (l : List S60) (i p : Int), l.length + d = 11 → 0 ≤ i → i < l.length → (∀ b ∈ l, insSmall b) →
    Dr (fun k => spec_l2Bent.l0 k l i s p) (fun r => r.1.length ≤ 11 ∧ (∀ b ∈ r.1, insSmall b) ∧ p ≤ r.2 ∧ r.2 ≤ p) := by
  intro d
  induction d with
  | zero =>
    intro l i p hd _ _ hb
    refine Dr.step (fun k => by rw [spec_l2Bent.l0]) ?_
    exact Dr.neg (by omega) (Dr.now ⟨by simp; omega, hb, by simp, by simp⟩)
  | succ d ih =>
    intro l i p hd h0 h1 hb
    refine Dr.step (fun k => by rw [spec_l2Bent.l0]) ?_
    refine Dr.pos (by omega) (Dr.pos h0 (Dr.pos h1 (Dr.pos (by omega) ?_)))
    refine ih _ i p (by simp; omega) h0 (by simp; omega) ?_
    intro b hb2
    rcases List.mem_append.1 hb2 with h | h
    · exact hb b h
    · rw [List.mem_singleton.1 h]; exact insSmall_rd hb i
theorem l2Bent_dr {s : List Int} (hs : bytesOk s) (p : Int) (hp : 0 ≤ p) (hp2 : p ≤ 1000000000) (hl : s.length ≤ 9223372036854775807) :
    Dr (fun k => spec_l2Bent.f k s p) (fun r => r.1.length ≤ 11 ∧ (∀ b ∈ r.1, insSmall b) ∧ p ≤ r.2 ∧ r.2 ≤ p + 60) := by
  unfold spec_l2Bent.f
  refine (l2Prog_dr hs p hp (by omega) hl).bind fun r1 h1 => Dr.ite (fun c => Dr.now ⟨by simp only; omega, h1.2.1, by simp only; omega, by simp only; omega⟩) (fun c => ?_)
  obtain ⟨n1, b1, p1, p2⟩ := h1
  refine (pick_dr hs r1.2 _ (by omega) (by omega) hl).bind fun r2 h2 => ?_
  have i2 := h2.2.1 (by omega)
  have sm := insSmall_rd b1 r2.1
  unfold insSmall at sm
  refine (pick_dr hs r2.2 _ (by omega) (by omega) hl).bind fun r3 h3 => Dr.ite (fun d => ?_) (fun d => Dr.ite (fun e => ?_) (fun e => Dr.ite (fun f => ?_) (fun f => Dr.ite (fun g => ?_) (fun g => Dr.now ⟨by simp only; omega, b1, by simp only; omega, by simp only; omega⟩))))
  · refine (num_dr hs r3.2 _ (by omega) (by omega) hl (by simp) (by simp)).bind fun r4 h4 => Dr.pos h2.1 (Dr.pos i2 (Dr.now ?_))
    obtain ⟨h4, e4⟩ := h4
    simp only [List.mem_cons, List.not_mem_nil, or_false] at h4
    refine ⟨by simp; omega, insSmall_set b1 ?_, by simp only; omega, by simp only; omega⟩
    unfold insSmall; simp only; omega
  · refine (num_dr hs r3.2 _ (by omega) (by omega) hl (by simp) (by simp)).bind fun r4 h4 => Dr.pos h2.1 (Dr.pos i2 (Dr.now ?_))
    obtain ⟨h4, e4⟩ := h4
    simp only [List.mem_cons, List.not_mem_nil, or_false] at h4
    refine ⟨by simp; omega, insSmall_set b1 ?_, by simp only; omega, by simp only; omega⟩
    unfold insSmall; simp only; omega
  · refine (num_dr hs r3.2 _ (by omega) (by omega) hl (by simp) (by simp)).bind fun r4 h4 => Dr.pos h2.1 (Dr.pos i2 (Dr.now ?_))
    obtain ⟨h4, e4⟩ := h4
    simp only [List.mem_cons, List.not_mem_nil, or_false] at h4
    refine ⟨by simp; omega, insSmall_set b1 ?_, by simp only; omega, by simp only; omega⟩
    unfold insSmall; simp only; omega
  · exact (l2Bent_l0 (11 - r1.1.length) r1.1 r2.1 r3.2 (by omega) h2.1 i2 b1).mono fun v hv => ⟨hv.1, hv.2.1, by omega, by omega⟩

theorem l2Box_some (a : Int) : spec_l2Box.f a = some (decide (0 ≤ a ∧ a ≤ 3)) := by
  unfold spec_l2Box.f
  by_cases h : a ≥ 0
  · rw [if_pos h]; congr 1; rw [Bool.eq_iff_iff]; simp; omega
  · rw [if_neg h]; congr 1; rw [Bool.eq_iff_iff]; simp; omega

theorem l1Num_dec (a : Int) : spec_l1Num.f a = some (decide (-1000000 ≤ a ∧ a ≤ 1000000)) := by
  unfold spec_l1Num.f
  by_cases h : a ≥ -1000000
  · rw [if_pos h]; congr 1; rw [Bool.eq_iff_iff]; simp; omega
  · rw [if_neg h]; congr 1; rw [Bool.eq_iff_iff]; simp; omega

theorem l2Reg_some (a : Int) : spec_l2Reg.f a = some (decide (0 ≤ a ∧ a ≤ 3)) := by
  unfold spec_l2Reg.f
  by_cases h : a ≥ 0
  · rw [if_pos h]; congr 1; rw [Bool.eq_iff_iff]; simp; omega
  · rw [if_neg h]; congr 1; rw [Bool.eq_iff_iff]; simp; omega
theorem l2Ins_ev (x : S60) : Ev (fun k => spec_l2Ins.f k x.f0 x.f1 x.f2 x.f3) (decide (insIn x)) := by
  obtain ⟨kd, a, b, n⟩ := x
  unfold spec_l2Ins.f
  simp only [l2Reg_some, l2Box_some, l1Num_dec, Option.bind_some, decide_eq_true_eq]
  have fin : ∀ {X : Option Bool}, X = some (decide (insIn ⟨kd, a, b, n⟩)) → Ev (fun _ => X) (decide (insIn ⟨kd, a, b, n⟩)) := fun h => ev_const h
  refine ev_ite (fun h => fin ?_) (fun h1 => ev_ite (fun h => fin ?_) (fun h2 => ev_ite (fun h => fin ?_) (fun h3 => ?_)))
  · repeat' split
    all_goals (congr 1; rw [Bool.eq_iff_iff]; simp only [decide_eq_true_eq, beq_iff_eq, Bool.false_eq_true]; simp only [insIn]; constructor <;> intro hh_ <;> first | exact hh_.elim | omega)
  · repeat' split
    all_goals (congr 1; rw [Bool.eq_iff_iff]; simp only [decide_eq_true_eq, beq_iff_eq, Bool.false_eq_true]; simp only [insIn]; constructor <;> intro hh_ <;> first | exact hh_.elim | omega)
  · repeat' split
    all_goals (congr 1; rw [Bool.eq_iff_iff]; simp only [decide_eq_true_eq, beq_iff_eq, Bool.false_eq_true]; simp only [insIn]; constructor <;> intro hh_ <;> first | exact hh_.elim | omega)
  · have key : ∀ t : Bool, (t = true ↔ kd = 4 ∨ kd = 5) → Ev (fun k => spec_l2Ins.j0 k kd t kd a b n) (decide (insIn ⟨kd, a, b, n⟩)) := by
      intro t ht
      refine Ev.step (fun k => by rw [spec_l2Ins.j0]) ?_
      simp only [l2Reg_some, l2Box_some, l1Num_dec, Option.bind_some, decide_eq_true_eq]
      refine fin ?_
      by_cases h4 : t = true
      · have := ht.1 h4
        rw [if_pos h4]
        repeat' split
        all_goals (congr 1; rw [Bool.eq_iff_iff]; simp only [decide_eq_true_eq, beq_iff_eq, Bool.false_eq_true]; simp only [insIn]; constructor <;> intro hh_ <;> first | exact hh_.elim | omega)
      · have : ¬ (kd = 4 ∨ kd = 5) := fun h => h4 (ht.2 h)
        rw [if_neg h4]
        repeat' split
        all_goals (congr 1; rw [Bool.eq_iff_iff]; simp only [decide_eq_true_eq, beq_iff_eq, Bool.false_eq_true]; simp only [insIn]; constructor <;> intro hh_ <;> first | exact hh_.elim | omega)
    refine ev_ite (fun h4 => key _ (by simp [h4])) (fun h4 => key _ (by simp [h4]))
theorem spec_ProgOk_ev (l : List S60) (hn : l.length ≤ 9223372036854775807) : ∃ v, Ev (fun k => spec_ProgOk.f k l) v ∧ (v = true ↔ progOk l) := by
  by_cases h10 : l.length ≤ 10
  · have key := ev_loop l.length (fun i k => spec_ProgOk.l0 k l (i : Int)) (fun i => decide (∀ b ∈ l.drop i, insIn b)) (fun i hi ih => by
      refine Ev.step (fun k => by rw [spec_ProgOk.l0]) ?_
      refine ev_pos (lt_cast hi) (ev_pos (nn_cast i) ?_)
      rw [rdi_Ins hi, wrap_succ hi hn]
      refine (l2Ins_ev l[i]).bind ?_
      have hs : (∀ b ∈ l.drop i, insIn b) ↔ insIn l[i] ∧ ∀ b ∈ l.drop (i + 1), insIn b := mem_split (p := insIn) hi
      simp only [hs, decide_eq_true_eq]
      by_cases h1 : insIn l[i]
      · simp only [h1, true_and]
        exact ev_pos trivial ih
      · simp only [h1, false_and, decide_false]
        exact ev_neg (fun h => h) (ev_now _)) (by
      refine Ev.step (fun k => by rw [spec_ProgOk.l0]) ?_
      refine ev_neg (by omega) ?_
      simp only [List.drop_length, List.not_mem_nil, false_implies, implies_true, decide_true]
      exact ev_now _) 0 (Nat.zero_le _)
    exact ⟨_, Ev.congr (fun k => by unfold spec_ProgOk.f; exact if_neg (by omega)) key, by simp [progOk, h10]⟩
  · refine ⟨false, ?_, by simp [progOk]; omega⟩
    unfold spec_ProgOk.f
    exact ev_pos (by omega) (ev_now _)

theorem in_dec (a b c : Int) : impl_in.f a b c = some (decide (b ≤ a ∧ a ≤ c)) := by
  unfold impl_in.f
  by_cases h : a ≥ b
  · rw [if_pos h]; congr 1; rw [Bool.eq_iff_iff]; simp; omega
  · rw [if_neg h]; congr 1; rw [Bool.eq_iff_iff]; simp; omega

theorem insOk1_dec (a : Int) : impl_insOk_1.f a = some (decide (0 ≤ a ∧ a ≤ 3)) := by
  unfold impl_insOk_1.f
  rw [in_dec]; rfl
theorem insOk2_dec (a : Int) : impl_insOk_2.f a = some (decide (0 ≤ a ∧ a ≤ 3)) := by
  unfold impl_insOk_2.f
  rw [in_dec]; rfl
theorem insOk_ev (x : S60) : Ev (fun k => impl_insOk.f k x.f0 x.f1 x.f2 x.f3) (decide (insIn x)) := by
  obtain ⟨kd, a, b, n⟩ := x
  unfold impl_insOk.f
  simp only [insOk1_dec, insOk2_dec, in_dec, Option.bind_some, decide_eq_true_eq]
  have fin : ∀ {X : Option Bool}, X = some (decide (insIn ⟨kd, a, b, n⟩)) → Ev (fun _ => X) (decide (insIn ⟨kd, a, b, n⟩)) := fun h => ev_const h
  refine ev_ite (fun h => fin ?_) (fun h1 => ev_ite (fun h => fin ?_) (fun h2 => ev_ite (fun h => fin ?_) (fun h3 => ?_)))
  · repeat' split
    all_goals (congr 1; rw [Bool.eq_iff_iff]; simp only [decide_eq_true_eq, beq_iff_eq, Bool.false_eq_true]; simp only [insIn]; constructor <;> intro hh_ <;> first | exact hh_.elim | omega)
  · repeat' split
    all_goals (congr 1; rw [Bool.eq_iff_iff]; simp only [decide_eq_true_eq, beq_iff_eq, Bool.false_eq_true]; simp only [insIn]; constructor <;> intro hh_ <;> first | exact hh_.elim | omega)
  · repeat' split
    all_goals (congr 1; rw [Bool.eq_iff_iff]; simp only [decide_eq_true_eq, beq_iff_eq, Bool.false_eq_true]; simp only [insIn]; constructor <;> intro hh_ <;> first | exact hh_.elim | omega)
  · have key : ∀ t : Bool, (t = true ↔ kd = 4 ∨ kd = 5) → Ev (fun k => impl_insOk.j0 k kd t kd a b n) (decide (insIn ⟨kd, a, b, n⟩)) := by
      intro t ht
      refine Ev.step (fun k => by rw [impl_insOk.j0]) ?_
      simp only [insOk1_dec, insOk2_dec, in_dec, Option.bind_some, decide_eq_true_eq]
      refine fin ?_
      by_cases h4 : t = true
      · have := ht.1 h4
        rw [if_pos h4]
        repeat' split
        all_goals (congr 1; rw [Bool.eq_iff_iff]; simp only [decide_eq_true_eq, beq_iff_eq, Bool.false_eq_true]; simp only [insIn]; constructor <;> intro hh_ <;> first | exact hh_.elim | omega)
      · have : ¬ (kd = 4 ∨ kd = 5) := fun h => h4 (ht.2 h)
        rw [if_neg h4]
        repeat' split
        all_goals (congr 1; rw [Bool.eq_iff_iff]; simp only [decide_eq_true_eq, beq_iff_eq, Bool.false_eq_true]; simp only [insIn]; constructor <;> intro hh_ <;> first | exact hh_.elim | omega)
    refine ev_ite (fun h4 => key _ (by simp [h4])) (fun h4 => key _ (by simp [h4]))
theorem impl_ProgOk_ev (l : List S60) (hn : l.length ≤ 9223372036854775807) : ∃ v, Ev (fun k => impl_ProgOk.f k l) v ∧ (v = true ↔ progOk l) := by
  have key := ev_loop l.length (fun i k => impl_ProgOk.l0 k l l (l.length : Int) (i : Int)) (fun i => decide ((∀ b ∈ l.drop i, insIn b) ∧ l.length ≤ 10)) (fun i hi ih => by
      refine Ev.step (fun k => by rw [impl_ProgOk.l0]) ?_
      refine ev_pos (lt_cast hi) (ev_pos (nn_cast i) (ev_pos (lt_cast hi) ?_))
      rw [rdi_Ins hi, wrap_succ hi hn]
      refine (insOk_ev l[i]).bind ?_
      have hs : (∀ b ∈ l.drop i, insIn b) ↔ insIn l[i] ∧ ∀ b ∈ l.drop (i + 1), insIn b := mem_split (p := insIn) hi
      simp only [hs, decide_eq_true_eq]
      by_cases h1 : insIn l[i]
      · simp only [h1, true_and]
        exact ev_pos trivial ih
      · simp only [h1, false_and, decide_false]
        exact ev_neg (fun h => h) (ev_now _)) (by
      refine Ev.step (fun k => by rw [impl_ProgOk.l0]) ?_
      refine ev_neg (by omega) ?_
      have : decide ((l.length : Int) ≤ 10) = decide ((∀ b ∈ l.drop l.length, insIn b) ∧ l.length ≤ 10) := by
        rw [List.drop_length, Bool.eq_iff_iff]
        simp; omega
      rw [this]
      exact ev_now _) 0 (Nat.zero_le _)
  exact ⟨_, Ev.congr (fun k => by unfold impl_ProgOk.f; exact rfl) key, by simp [progOk, and_comm]⟩

theorem sameIns_ev (x y : List S60) (hn : x.length ≤ 9223372036854775807) : ∃ v, Ev (fun k => impl_same_impl_Ins.f k x y) v ∧ (v = true ↔ x = y) := by
  classical
  by_cases hl : x.length = y.length
  · have key := ev_loop x.length (fun i k => impl_same_impl_Ins.l0 k x y (x.length : Int) (i : Int)) (fun i => decide (x.drop i = y.drop i)) (fun i hi ih => by
      refine Ev.step (fun k => by rw [impl_same_impl_Ins.l0]) ?_
      refine ev_pos (lt_cast hi) (ev_pos (nn_cast i) (ev_pos (lt_cast hi) (ev_pos (lt_cast (hl ▸ hi)) ?_)))
      rw [rdi_Ins hi, rdi_Ins (hl ▸ hi), wrap_succ hi hn]
      simp only [drop_eq hl hi]
      by_cases h1 : x[i] = y[i]'(hl ▸ hi)
      · simp only [h1, true_and]
        exact ev_neg (by simp) ih
      · simp only [h1, false_and, decide_false]
        refine ev_pos ?_ (ev_now _)
        generalize x[i] = a at h1 ⊢
        generalize y[i]'(hl ▸ hi) = b at h1 ⊢
        obtain ⟨a0_, a1_, a2_, a3_⟩ := a; obtain ⟨b0_, b1_, b2_, b3_⟩ := b
        simp only [S60.mk.injEq, not_and] at h1
        simp
        omega) (by
      refine Ev.step (fun k => by rw [impl_same_impl_Ins.l0]) ?_
      refine ev_neg (by omega) ?_
      rw [List.drop_length, hl, List.drop_length]
      simp only [decide_true]
      exact ev_now _) 0 (Nat.zero_le _)
    exact ⟨_, Ev.congr (fun k => by unfold impl_same_impl_Ins.f; exact if_pos (by omega)) key, by simp⟩
  · refine ⟨false, ?_, by simp; exact fun h => hl (by rw [h])⟩
    unfold impl_same_impl_Ins.f
    exact ev_neg (by omega) (ev_now _)

theorem ssameIns_ev (x y : List S60) (hn : x.length ≤ 9223372036854775807) : ∃ v, Ev (fun k => spec_ProgSame.f k x y) v ∧ (v = true ↔ x = y) := by
  classical
  by_cases hl : x.length = y.length
  · have key := ev_loop x.length (fun i k => spec_ProgSame.l0 k x y (i : Int)) (fun i => decide (x.drop i = y.drop i)) (fun i hi ih => by
      refine Ev.step (fun k => by rw [spec_ProgSame.l0]) ?_
      refine ev_pos (lt_cast hi) (ev_pos (nn_cast i) (ev_pos (lt_cast (hl ▸ hi)) ?_))
      rw [rdi_Ins hi, rdi_Ins (hl ▸ hi), wrap_succ hi hn]
      simp only [drop_eq hl hi]
      by_cases h1 : x[i] = y[i]'(hl ▸ hi)
      · simp only [h1, true_and]
        exact ev_neg (by simp) ih
      · simp only [h1, false_and, decide_false]
        refine ev_pos ?_ (ev_now _)
        generalize x[i] = a at h1 ⊢
        generalize y[i]'(hl ▸ hi) = b at h1 ⊢
        obtain ⟨a0_, a1_, a2_, a3_⟩ := a; obtain ⟨b0_, b1_, b2_, b3_⟩ := b
        simp only [S60.mk.injEq, not_and] at h1
        simp
        omega) (by
      refine Ev.step (fun k => by rw [spec_ProgSame.l0]) ?_
      refine ev_neg (by omega) ?_
      rw [List.drop_length, hl, List.drop_length]
      simp only [decide_true]
      exact ev_now _) 0 (Nat.zero_le _)
    exact ⟨_, Ev.congr (fun k => by unfold spec_ProgSame.f; exact if_pos (by omega)) key, by simp⟩
  · refine ⟨false, ?_, by simp; exact fun h => hl (by rw [h])⟩
    unfold spec_ProgSame.f
    exact ev_neg (by omega) (ev_now _)

/-- Of 0 .. m - 1, those that p names. -/
def pick (p : Int → Bool) (m : Nat) : List Int := ((List.range m).map (fun i : Nat => (i : Int))).filter p
theorem pick_succ (p : Int → Bool) (m : Nat) : pick p (m + 1) = if p m = true then pick p m ++ [(m : Int)] else pick p m := by
  unfold pick
  rw [List.range_succ, List.map_append, List.filter_append]
  by_cases h : p m = true
  · simp [h]
  · simp [h]
theorem pick_len (p : Int → Bool) (m : Nat) : (pick p m).length ≤ m := by
  unfold pick
  exact Nat.le_trans (List.length_filter_le _ _) (by simp)
theorem pick_same {p q : Int → Bool} (m : Nat) (h : ∀ i : Nat, i < m → p i = q i) : pick p m = pick q m := by
  unfold pick
  refine List.filter_congr ?_
  intro x hx
  simp only [List.mem_map, List.mem_range] at hx
  obtain ⟨i, hi, rfl⟩ := hx
  exact h i hi
/-- What an instruction of kind c touches. -/
def hit (c : Int) (i : Int) (x : S60) : Bool := decide (x.f0 = c) && ((decide (c = 1) && decide (x.f2 = i)) || (decide (c = 2) && decide (x.f1 = i)))
theorem any_drop {α : Type} (l : List α) (p : α → Bool) {j : Nat} (h : j < l.length) : (l.drop j).any p = (p l[j] || (l.drop (j + 1)).any p) := by
  rw [List.drop_eq_getElem_cons h, List.any_cons]
theorem boxesOf_ev (g0 g1 g2 g3 : Bool) : Ev (fun k => impl_boxesOf.f k g0 g1 g2 g3) (pick (fun i => rdOf false [g0, g1, g2, g3] i) 4) := by
  have key := ev_loop 4 (fun i k => impl_boxesOf.l0 k (pick (fun i => rdOf false [g0, g1, g2, g3] i) i) (i : Int) g0 g1 g2 g3) (fun _ => pick (fun i => rdOf false [g0, g1, g2, g3] i) 4) (fun i hi ih => by
    have wi : wrap64 ((i : Int) + 1) = ((i + 1 : Nat) : Int) := wrap_succ hi (by omega)
    refine Ev.step (fun k => by rw [impl_boxesOf.l0]) ?_
    refine ev_pos (by omega) (ev_pos (by omega) ?_)
    rw [pick_succ] at ih
    rw [wi]
    refine ev_ite (fun h => ev_pos (by have := pick_len (fun i => rdOf false [g0, g1, g2, g3] i) i; omega) ?_) (fun h => ?_)
    · rw [if_pos h] at ih; exact ih
    · rw [if_neg h] at ih; exact ih) (by
    refine Ev.step (fun k => by rw [impl_boxesOf.l0]) ?_
    refine ev_neg (by omega) ?_
    refine ev_get (a := pick (fun i => rdOf false [g0, g1, g2, g3] i) 4) ?_ (ev_now _)
    unfold impl_copied_int.f
    exact if_pos (by have := pick_len (fun i => rdOf false [g0, g1, g2, g3] i) 4; omega)) 0 (Nat.zero_le _)
  exact key
theorem ixB_true (j i : Int) (f : Bool) : ixB j i true f = (f || decide (j = i)) := by
  unfold ixB
  by_cases h : j = i
  · rw [if_pos h]; simp [h]
  · rw [if_neg h]; simp [h]
theorem hit_ne {c : Int} (i : Int) {x : S60} (h : x.f0 ≠ c) : hit c i x = false := by simp [hit, h]

theorem impl_ProgPuts_ev (l : List S60) (hn : l.length ≤ 9223372036854775807) : Ev (fun k => impl_ProgPuts.f k l) (pick (fun i => l.any (hit 2 i)) 4) := by
  have key : ∀ d j (b0 b1 b2 b3 : Bool), j + d = l.length → (b0 || (l.drop j).any (hit 2 0)) = l.any (hit 2 0) → (b1 || (l.drop j).any (hit 2 1)) = l.any (hit 2 1) → (b2 || (l.drop j).any (hit 2 2)) = l.any (hit 2 2) → (b3 || (l.drop j).any (hit 2 3)) = l.any (hit 2 3) → Ev (fun k => impl_ProgPuts.l0 k l (l.length : Int) (j : Int) b0 b1 b2 b3) (pick (fun i => l.any (hit 2 i)) 4) := by
    intro d
    induction d with
    | zero =>
      intro j b0 b1 b2 b3 h h0 h1 h2 h3
      obtain rfl : j = l.length := by omega
      rw [List.drop_length, List.any_nil, Bool.or_false] at h0 h1 h2 h3
      subst h0 h1 h2 h3
      refine Ev.step (fun k => by rw [impl_ProgPuts.l0]) ?_
      refine ev_neg (by omega) ?_
      refine (boxesOf_ev _ _ _ _).bind ?_
      rw [pick_same (q := fun i => l.any (hit 2 i)) 4 (fun i hi => by
        rcases i with _ | _ | _ | _ | i
        · rfl
        · rfl
        · rfl
        · rfl
        · omega)]
      exact ev_now _
    | succ d ih =>
      intro j b0 b1 b2 b3 h h0 h1 h2 h3
      have hj : j < l.length := by omega
      rw [any_drop l _ hj, ← Bool.or_assoc] at h0 h1 h2 h3
      refine Ev.step (fun k => by rw [impl_ProgPuts.l0]) ?_
      refine ev_pos (lt_cast hj) (ev_pos (nn_cast j) (ev_pos (lt_cast hj) ?_))
      rw [rdi_Ins hj, wrap_succ hj hn]
      have nx : ∀ c0 c1 c2 c3, c0 = (b0 || hit 2 0 l[j]) → c1 = (b1 || hit 2 1 l[j]) → c2 = (b2 || hit 2 2 l[j]) → c3 = (b3 || hit 2 3 l[j]) → Ev (fun k => impl_ProgPuts.l0 k l (l.length : Int) ((j + 1 : Nat) : Int) c0 c1 c2 c3) (pick (fun i => l.any (hit 2 i)) 4) := by
        intro c0 c1 c2 c3 e0 e1 e2 e3
        exact ih (j + 1) c0 c1 c2 c3 (by omega) (by rw [e0]; exact h0) (by rw [e1]; exact h1) (by rw [e2]; exact h2) (by rw [e3]; exact h3)
      by_cases hk : (l[j]).f0 = 2
      · refine ev_pos hk (ev_get (in_dec _ _ _) ?_)
        have hh : ∀ i : Int, hit 2 i l[j] = decide ((l[j]).f1 = i) := by intro i; simp [hit, hk]
        by_cases hr : 0 ≤ (l[j]).f1 ∧ (l[j]).f1 ≤ 3
        · refine ev_pos (by simpa using hr) (ev_pos (by omega) (ev_pos (by omega) ?_))
          exact nx _ _ _ _ (by rw [hh, ixB_true]) (by rw [hh, ixB_true]) (by rw [hh, ixB_true]) (by rw [hh, ixB_true])
        · refine ev_neg (by simpa using hr) ?_
          refine nx _ _ _ _ ?_ ?_ ?_ ?_ <;> (rw [hh, decide_eq_false (by omega), Bool.or_false])
      · refine ev_neg hk ?_
        exact nx _ _ _ _ (by rw [hit_ne _ hk, Bool.or_false]) (by rw [hit_ne _ hk, Bool.or_false]) (by rw [hit_ne _ hk, Bool.or_false]) (by rw [hit_ne _ hk, Bool.or_false])
  exact Ev.congr (fun k => by unfold impl_ProgPuts.f; exact rfl) (key l.length 0 false false false false (by omega) (by simp) (by simp) (by simp) (by simp))

theorem itoa64 {n : Int} (h0 : -9223372036854775808 ≤ n) (h1 : n ≤ 9223372036854775807) : (Lib.itoa n).length ≤ 20 := itoa_len 18 (by omega)
theorem Itoa_ev (n : Int) (h0 : -9223372036854775808 ≤ n) (h1 : n ≤ 9223372036854775807) : Ev (fun k => strconv_Itoa.f k n) (bs (Lib.itoa n)) := by
  unfold strconv_Itoa.f
  exact ev_pos ⟨h0, h1⟩ (ev_now _)
theorem Join_ev (ps : List Bytes) (c : UInt8) (h : ps.length ≤ 140737488355328) (hl : (Lib.join ps [c]).length ≤ 140737488355328) : Ev (fun k => strings_Join.f k (ps.map bs) (bs [c])) (bs (Lib.join ps [c])) := by
  unfold strings_Join.f
  refine ev_pos ⟨by simpa using h, ?_⟩ ?_
  · rw [List.map_map, show ((fun s : ByteArray => s.data.toList) ∘ bs) = id from rfl, List.map_id]; exact hl
  · rw [joinB_bs]; exact ev_now _
theorem join_len (ps : List Bytes) (c : UInt8) (m : Nat) (h : ∀ p ∈ ps, p.length ≤ m) : (Lib.join ps [c]).length ≤ (m + 1) * ps.length := by
  induction ps with
  | nil => simp [Lib.join_nil]
  | cons p r ih =>
    have hp := h p (by simp)
    have := ih (fun q hq => h q (List.mem_cons_of_mem _ hq))
    cases r with
    | nil => rw [Lib.join_one]; simp; omega
    | cons q r =>
      rw [join_cons2, List.length_append, List.length_cons]
      simp only [List.length_cons, Nat.mul_add, Nat.mul_one] at this ⊢
      omega

/-- Instructions as text. -/
def spN (n : Int) : Bytes := 32 :: Lib.itoa n
def insT (k a b n : Int) : Bytes :=
  if k = 1 then [108, 111, 97, 100] ++ spN a ++ spN b else if k = 2 then [112, 117, 116] ++ spN a ++ spN b else if k = 3 then [110, 117, 109] ++ spN a ++ spN n else if k = 4 then [97, 100, 100] ++ spN a ++ spN b
  else if k = 5 then [115, 117, 98] ++ spN a ++ spN b else if k = 6 then [108, 101, 115, 115] ++ spN a ++ spN b ++ spN n else if k = 7 then [102, 97, 105, 108] else [110, 111, 110, 101]
def i64 (n : Int) : Prop := -9223372036854775808 ≤ n ∧ n ≤ 9223372036854775807
def insW (x : S60) : Prop := i64 x.f1 ∧ i64 x.f2 ∧ i64 x.f3
def insTx (x : S60) : Bytes := insT x.f0 x.f1 x.f2 x.f3
def progL (l : List S60) : Bytes := Lib.join (l.map insTx) [44]
theorem spN_len {n : Int} (h : i64 n) : (spN n).length ≤ 21 := by have := itoa64 h.1 h.2; unfold spN; simp; omega
theorem insT_len {k a b n : Int} (ha : i64 a) (hb : i64 b) (hn : i64 n) : (insT k a b n).length ≤ 67 := by
  have h1 := spN_len ha; have h2 := spN_len hb; have h3 := spN_len hn
  unfold insT
  repeat' split
  all_goals (simp; try omega)
theorem progL_len (l : List S60) (h : ∀ x ∈ l, insW x) : (progL l).length ≤ 68 * l.length := by
  have := join_len (l.map insTx) 44 67 (fun p hp => by obtain ⟨x, hx, rfl⟩ := List.mem_map.1 hp; exact insT_len (h x hx).1 (h x hx).2.1 (h x hx).2.2)
  rw [List.length_map] at this; exact this
theorem itoa_free {n : Int} {c : UInt8} (h : c ≠ 45) (hd : isD c = false) : c ∉ Lib.itoa n := by
  intro hm
  rcases itoa_bytes n c hm with e | e
  · exact h e
  · rw [hd] at e; cases e

/-- An instruction's words. -/
def wordT (k : Int) : Bytes := if k = 1 then [108, 111, 97, 100] else if k = 2 then [112, 117, 116] else if k = 3 then [110, 117, 109] else if k = 4 then [97, 100, 100] else if k = 5 then [115, 117, 98] else if k = 6 then [108, 101, 115, 115] else if k = 7 then [102, 97, 105, 108] else [110, 111, 110, 101]
def argsT (k a b n : Int) : List Int := if k = 1 then [a, b] else if k = 2 then [a, b] else if k = 3 then [a, n] else if k = 4 then [a, b] else if k = 5 then [a, b] else if k = 6 then [a, b, n] else []
theorem insT_join (k a b n : Int) : insT k a b n = Lib.join (wordT k :: (argsT k a b n).map Lib.itoa) [32] := by
  have two : ∀ (w : Bytes) (x y : Int), w ++ spN x ++ spN y = Lib.join [w, Lib.itoa x, Lib.itoa y] [32] := by
    intro w x y; rw [join_cons2, join_cons2, Lib.join_one]; unfold spN; simp
  have three : ∀ (w : Bytes) (x y z : Int), w ++ spN x ++ spN y ++ spN z = Lib.join [w, Lib.itoa x, Lib.itoa y, Lib.itoa z] [32] := by
    intro w x y z; rw [join_cons2, join_cons2, join_cons2, Lib.join_one]; unfold spN; simp
  unfold insT wordT argsT
  by_cases h1 : k = 1
  · simp only [if_pos h1]; exact two _ _ _
  by_cases h2 : k = 2
  · simp only [if_neg h1, if_pos h2]; exact two _ _ _
  by_cases h3 : k = 3
  · simp only [if_neg h1, if_neg h2, if_pos h3]; exact two _ _ _
  by_cases h4 : k = 4
  · simp only [if_neg h1, if_neg h2, if_neg h3, if_pos h4]; exact two _ _ _
  by_cases h5 : k = 5
  · simp only [if_neg h1, if_neg h2, if_neg h3, if_neg h4, if_pos h5]; exact two _ _ _
  by_cases h6 : k = 6
  · simp only [if_neg h1, if_neg h2, if_neg h3, if_neg h4, if_neg h5, if_pos h6]; exact three _ _ _ _
  simp only [if_neg h1, if_neg h2, if_neg h3, if_neg h4, if_neg h5, if_neg h6, List.map_nil, Lib.join_one]
theorem wordT_free (k : Int) : (32 : UInt8) ∉ wordT k ∧ (44 : UInt8) ∉ wordT k := by
  unfold wordT
  repeat' split
  all_goals decide
theorem insT_cut (k a b n : Int) : cutAt 32 (insT k a b n) = wordT k :: (argsT k a b n).map Lib.itoa := by
  rw [insT_join]
  refine cutAt_join 32 _ (by simp) (fun p hp => ?_)
  rcases List.mem_cons.1 hp with rfl | hp
  · exact (wordT_free k).1
  · obtain ⟨x, _, rfl⟩ := List.mem_map.1 hp
    exact itoa_free (by decide) (by decide)
theorem insT_free (k a b n : Int) : (44 : UInt8) ∉ insT k a b n := by
  have h1 : ∀ x, (44 : UInt8) ∉ spN x := fun x => by
    unfold spN
    simp only [List.mem_cons, not_or]
    exact ⟨by decide, itoa_free (by decide) (by decide)⟩
  unfold insT
  repeat' split
  all_goals ((try simp only [List.mem_append, not_or]); first | exact ⟨⟨by decide, h1 _⟩, h1 _⟩ | exact ⟨⟨⟨by decide, h1 _⟩, h1 _⟩, h1 _⟩ | decide)
theorem wordT_inj {j k : Int} (hj : 1 ≤ j ∧ j ≤ 7) (hk : 1 ≤ k ∧ k ≤ 7) (h : wordT j = wordT k) : j = k := by
  have a : j = 1 ∨ j = 2 ∨ j = 3 ∨ j = 4 ∨ j = 5 ∨ j = 6 ∨ j = 7 := by omega
  have b : k = 1 ∨ k = 2 ∨ k = 3 ∨ k = 4 ∨ k = 5 ∨ k = 6 ∨ k = 7 := by omega
  rcases a with rfl | rfl | rfl | rfl | rfl | rfl | rfl <;> rcases b with rfl | rfl | rfl | rfl | rfl | rfl | rfl <;> first | rfl | exact absurd h (by decide)
theorem insIn_kind {x : S60} (h : insIn x) : 1 ≤ x.f0 ∧ x.f0 ≤ 7 := by unfold insIn at h; omega
theorem lmap_inj {α β : Type} {f : α → β} (hf : ∀ a b, f a = f b → a = b) : ∀ {x y : List α}, x.map f = y.map f → x = y
  | [], [], _ => rfl
  | [], _ :: _, h => by simp at h
  | _ :: _, [], h => by simp at h
  | a :: x, b :: y, h => by
    simp only [List.map_cons, List.cons.injEq] at h
    rw [hf _ _ h.1, lmap_inj hf h.2]
theorem insTx_inj {x y : S60} (hx : insIn x) (hy : insIn y) (h : insTx x = insTx y) : x = y := by
  have e := congrArg (cutAt 32) h
  unfold insTx at e
  rw [insT_cut, insT_cut] at e
  simp only [List.cons.injEq] at e
  have ek := wordT_inj (insIn_kind hx) (insIn_kind hy) e.1
  have ea := lmap_inj (fun a b => itoa_inj) e.2
  obtain ⟨a0, a1, a2, a3⟩ := x
  obtain ⟨b0, b1, b2, b3⟩ := y
  simp only at ek ea
  subst ek
  unfold insIn at hx hy
  simp only at hx hy
  unfold argsT at ea
  have c : a0 = 1 ∨ a0 = 2 ∨ a0 = 3 ∨ a0 = 4 ∨ a0 = 5 ∨ a0 = 6 ∨ a0 = 7 := by omega
  have fin : a1 = b1 ∧ a2 = b2 ∧ a3 = b3 := by
    rcases c with rfl | rfl | rfl | rfl | rfl | rfl | rfl <;> simp at ea hx hy <;> omega
  obtain ⟨rfl, rfl, rfl⟩ := fin
  rfl
theorem insTx_ne (x : S60) : insTx x ≠ [] := by
  unfold insTx insT
  repeat' split
  all_goals simp
theorem progL_nil {l : List S60} (h : progL l = []) : l = [] := by
  cases l with
  | nil => rfl
  | cons b r =>
    exfalso
    unfold progL at h
    rw [List.map_cons, Lib.join_cons] at h
    exact insTx_ne b (List.append_eq_nil_iff.1 h).1
theorem progL_cut {l : List S60} (h : l ≠ []) : cutAt 44 (progL l) = l.map insTx := by
  unfold progL
  refine cutAt_join 44 _ (by simpa using h) (fun p hp => ?_)
  obtain ⟨b, _, rfl⟩ := List.mem_map.1 hp
  exact insT_free _ _ _ _
theorem map_inj_on {α β : Type} {f : α → β} {p : α → Prop} (hf : ∀ a b, p a → p b → f a = f b → a = b) : ∀ {x y : List α}, (∀ a ∈ x, p a) → (∀ a ∈ y, p a) → x.map f = y.map f → x = y
  | [], [], _, _, _ => rfl
  | [], _ :: _, _, _, h => by simp at h
  | _ :: _, [], _, _, h => by simp at h
  | a :: x, b :: y, hx, hy, h => by
    simp only [List.map_cons, List.cons.injEq] at h
    rw [hf _ _ (hx a (by simp)) (hy b (by simp)) h.1, map_inj_on hf (fun c hc => hx c (List.mem_cons_of_mem _ hc)) (fun c hc => hy c (List.mem_cons_of_mem _ hc)) h.2]
theorem progL_inj {x y : List S60} (hx : ∀ a ∈ x, insIn a) (hy : ∀ a ∈ y, insIn a) (h : progL x = progL y) : x = y := by
  by_cases ex : x = []
  · subst ex; exact (progL_nil h.symm).symm
  by_cases ey : y = []
  · subst ey; exact progL_nil h
  have e := congrArg (cutAt 44) h
  rw [progL_cut ex, progL_cut ey] at e
  exact map_inj_on (fun a b ha hb => insTx_inj ha hb) hx hy e

theorem impl_insText_ev (k a b n : Int) (ha : i64 a) (hb : i64 b) (hn : i64 n) : Ev (fun j => impl_insText.f j k a b n) (bs (insT k a b n)) := by
  have l1 := itoa64 ha.1 ha.2
  have l2 := itoa64 hb.1 hb.2
  have l3 := itoa64 hn.1 hn.2
  unfold impl_insText.f
  refine (Itoa_ev a ha.1 ha.2).bind (ev_pos (by rw [bs_size]; omega) ((Itoa_ev b hb.1 hb.2).bind (ev_pos (by rw [bs_size]; omega) ((Itoa_ev n hn.1 hn.2).bind (ev_pos (by rw [bs_size]; omega) ?_)))))
  simp only [bs_app, bs_size]
  unfold insT spN
  refine ev_ite (fun h => ?_) (fun h => ?_)
  · rw [if_pos h]; exact ev_pos (by simp; omega) (ev_pos (by simp; omega) (ev_now _))
  rw [if_neg h]
  refine ev_ite (fun h => ?_) (fun h => ?_)
  · rw [if_pos h]; exact ev_pos (by simp; omega) (ev_pos (by simp; omega) (ev_now _))
  rw [if_neg h]
  refine ev_ite (fun h => ?_) (fun h => ?_)
  · rw [if_pos h]; exact ev_pos (by simp; omega) (ev_pos (by simp; omega) (ev_now _))
  rw [if_neg h]
  refine ev_ite (fun h => ?_) (fun h => ?_)
  · rw [if_pos h]; exact ev_pos (by simp; omega) (ev_pos (by simp; omega) (ev_now _))
  rw [if_neg h]
  refine ev_ite (fun h => ?_) (fun h => ?_)
  · rw [if_pos h]; exact ev_pos (by simp; omega) (ev_pos (by simp; omega) (ev_now _))
  rw [if_neg h]
  refine ev_ite (fun h => ?_) (fun h => ?_)
  · rw [if_pos h]; exact ev_pos (by simp; omega) (ev_pos (by simp; omega) (ev_pos (by simp; omega) (ev_now _)))
  rw [if_neg h]
  refine ev_ite (fun h => ?_) (fun h => ?_)
  · rw [if_pos h]; exact ev_now _
  rw [if_neg h]; exact ev_now _

theorem impl_ProgText_ev (l : List S60) (hn : l.length ≤ 1048576) (hw : ∀ x ∈ l, insW x) : Ev (fun k => impl_ProgText.f k l) (bs (progL l)) := by
  have key := ev_loop l.length (fun i k => impl_ProgText.l0 k l (l.length : Int) (i : Int) ((l.take i).map (fun b => bs (insTx b)))) (fun _ => bs (progL l)) (fun i hi ih => by
    refine Ev.step (fun k => by rw [impl_ProgText.l0]) ?_
    have hb := hw _ (List.getElem_mem hi)
    refine ev_pos (lt_cast hi) (ev_pos (nn_cast i) (ev_pos (lt_cast hi) ?_))
    rw [rdi_Ins hi, wrap_succ hi (by omega)]
    refine (impl_insText_ev _ _ _ _ hb.1 hb.2.1 hb.2.2).bind (ev_pos (by simp; omega) ?_)
    have e : (l.take i).map (fun b => bs (insTx b)) ++ [bs (insT (l[i]).f0 (l[i]).f1 (l[i]).f2 (l[i]).f3)] = (l.take (i + 1)).map (fun b => bs (insTx b)) := by
      rw [List.take_succ_eq_append_getElem hi, List.map_append]; rfl
    rw [e]; exact ih) (by
    refine Ev.step (fun k => by rw [impl_ProgText.l0]) (ev_neg (by omega) ?_)
    rw [List.take_length, show (l.map fun b => bs (insTx b)) = (l.map insTx).map bs by rw [List.map_map]; rfl]
    have hl := progL_len l hw
    exact (Join_ev (l.map insTx) 44 (by simp; omega) (by show (progL l).length ≤ _; omega)).bind (ev_now _)) 0 (Nat.zero_le _)
  unfold impl_ProgText.f
  exact key

theorem small_insW {b : S60} (h : insSmall b) : insW b := by unfold insSmall at h; unfold insW i64; omega
theorem DrawProgSame_dr (l : List Int) (hl : bytesOk l) : Dr (fun k => spec_DrawProgSame.f k l) (fun r => (r.1.length ≤ 12 ∧ ∀ b ∈ r.1, insW b) ∧ (r.2.length ≤ 12 ∧ ∀ b ∈ r.2, insW b)) := by
  obtain ⟨s, hs, hb, hn⟩ := open_some l hl
  unfold spec_DrawProgSame.f
  refine (Dr.of hs (R := fun r => r = (s, 0)) rfl).bind fun v hv => ?_
  subst hv
  have d := l2Bent_dr hb 0 (by omega) (by omega) (by omega)
  refine d.bind fun r1 h1 => ?_
  refine (Dr.of hs (R := fun r => r = (s, 0)) rfl).bind fun v hv => ?_
  subst hv
  refine d.bind fun r3 h3 => ?_
  have f1 : r1.1.length ≤ 12 ∧ ∀ b ∈ r1.1, insW b := ⟨by omega, fun b hb => small_insW (h1.2.1 b hb)⟩
  have f3 : r3.1.length ≤ 12 ∧ ∀ b ∈ r3.1, insW b := ⟨by omega, fun b hb => small_insW (h3.2.1 b hb)⟩
  refine Dr.ite (fun c => Dr.pos (by omega) (Dr.ite (fun _ => Dr.pos (by omega) (Dr.now ⟨f1, ?_⟩)) (fun _ => Dr.now ⟨f1, f3⟩))) (fun _ => Dr.now ⟨f1, f3⟩)
  refine ⟨by simp only [List.length_append, List.length_singleton]; omega, fun b hb => ?_⟩
  rcases List.mem_append.1 hb with h | h
  · exact f3.2 b h
  · rw [List.mem_singleton.1 h]; unfold insW i64; simp only; omega
theorem DrawProgLoads_dr (l : List Int) (hl : bytesOk l) : Dr (fun k => spec_DrawProgLoads.f k l) (fun m => m.length ≤ 12 ∧ ∀ b ∈ m, insW b) := by
  obtain ⟨s, hs, hb, hn⟩ := open_some l hl
  unfold spec_DrawProgLoads.f
  refine (Dr.of hs (R := fun r => r = (s, 0)) rfl).bind fun v hv => ?_
  subst hv
  exact (l2Bent_dr hb 0 (by omega) (by omega) (by omega)).bind fun r hr => Dr.now ⟨by omega, fun b hb => small_insW (hr.2.1 b hb)⟩
theorem ProgSame_ev (x y : List S60) (hn : x.length ≤ 9223372036854775807) : ∃ v, Ev (fun k => impl_ProgSame.f k x y) v ∧ (v = true ↔ x = y) := by
  obtain ⟨v, hv, hvi⟩ := sameIns_ev x y hn
  refine ⟨v, ?_, hvi⟩
  unfold impl_ProgSame.f
  exact hv.bind (ev_now _)
def putsO (l : List S60) : List Int := pick (fun i => l.any (hit 2 i)) 4
def isI (i : Int) (e : Int) : Bool := decide (e = i)
theorem mem_pk {p : Int → Bool} {a : Int} : ∀ {m : Nat}, a ∈ pick p m ↔ (0 ≤ a ∧ a < m) ∧ p a = true
  | 0 => by simp [pick]; omega
  | m + 1 => by
    rw [pick_succ]
    by_cases c : p m = true
    · rw [if_pos c, List.mem_append, mem_pk, List.mem_singleton]
      constructor
      · rintro (⟨h, k⟩ | rfl)
        · exact ⟨by omega, k⟩
        · exact ⟨by omega, c⟩
      · rintro ⟨h, k⟩
        by_cases e : a = m
        · exact .inr e
        · exact .inl ⟨by omega, k⟩
    · rw [if_neg c, mem_pk]
      constructor
      · rintro ⟨h, k⟩; exact ⟨by omega, k⟩
      · rintro ⟨h, k⟩
        by_cases e : a = m
        · subst e; exact absurd k c
        · exact ⟨by omega, k⟩
theorem any_isI {l : List Int} {i : Int} : l.any (isI i) = true ↔ i ∈ l := by
  rw [List.any_eq_true]
  constructor
  · rintro ⟨x, hx, h⟩; unfold isI at h; rw [← of_decide_eq_true h]; exact hx
  · intro h; exact ⟨i, h, by simp [isI]⟩
theorem puts_app (a c : List S60) (i : Int) : (putsO (a ++ c)).any (isI i) = ((putsO a).any (isI i) || (putsO c).any (isI i)) := by
  refine Bool.eq_iff_iff.2 ?_
  rw [Bool.or_eq_true, any_isI, any_isI, any_isI]
  unfold putsO
  rw [mem_pk, mem_pk, mem_pk, List.any_append, Bool.or_eq_true]
  constructor
  · rintro ⟨h, k | k⟩
    · exact .inl ⟨h, k⟩
    · exact .inr ⟨h, k⟩
  · rintro (⟨h, k⟩ | ⟨h, k⟩)
    · exact ⟨h, .inl k⟩
    · exact ⟨h, .inr k⟩
theorem puts_lt (l : List S60) : (putsO l).length ≤ 4 := pick_len _ 4
theorem any_end {l : List Int} {i : Int} {j : Nat} (h : j = l.length) : (l.drop j).any (isI i) = false := by subst h; simp
section
variable (a b c both : List S60) (n : List Int) (i : Int)
theorem ps_l3 (has : Bool) (y : List Int) (hy : y.length ≤ 1000) (nx : Ev (fun k => laws_FnProgSame.l0 k (wrap64 (i + 1)) a b c both n) true) : ∀ (d j : Nat) (one : Bool), j + d = y.length → has = (one || (y.drop j).any (isI i)) →
    Ev (fun k => laws_FnProgSame.l3 k i has one (j : Int) a b c both n y) true := by
  intro d
  induction d with
  | zero =>
    intro j one hj hh
    rw [any_end (by omega), Bool.or_false] at hh
    subst hh
    exact Ev.step (fun k => by rw [laws_FnProgSame.l3]) (ev_neg (by omega) (ev_pos (by simp) nx))
  | succ d ih =>
    intro j one hj hh
    have hl : j < y.length := by omega
    rw [any_drop y _ hl] at hh
    refine Ev.step (fun k => by rw [laws_FnProgSame.l3]) (ev_pos (lt_cast hl) ?_)
    rw [wrap_succ hl (by omega)]
    refine ev_ite (fun h1 => ?_) (fun h1 => ?_)
    · subst h1; exact ih (j + 1) true (by omega) (by rw [hh]; simp)
    · have h1' : one = false := by simpa using h1
      subst h1'
      refine ev_pos (nn_cast j) (ev_pos (lt_cast hl) ?_)
      rw [rd_i hl]
      exact ih (j + 1) _ (by omega) (by rw [hh]; simp [isI])
theorem ps_l2 (has : Bool) (x y : List Int) (hx : x.length ≤ 1000) (hy : y.length ≤ 1000) (nx : Ev (fun k => laws_FnProgSame.l0 k (wrap64 (i + 1)) a b c both n) true) : ∀ (d j : Nat) (one : Bool), j + d = x.length → has = (one || (x.drop j).any (isI i) || y.any (isI i)) →
    Ev (fun k => laws_FnProgSame.l2 k i has one (j : Int) a b c both n x y) true := by
  intro d
  induction d with
  | zero =>
    intro j one hj hh
    rw [any_end (by omega), Bool.or_false] at hh
    refine Ev.step (fun k => by rw [laws_FnProgSame.l2]) (ev_neg (by omega) ?_)
    exact ps_l3 a b c both n i has y hy nx y.length 0 one (by omega) (by rw [hh]; rfl)
  | succ d ih =>
    intro j one hj hh
    have hl : j < x.length := by omega
    rw [any_drop x _ hl] at hh
    refine Ev.step (fun k => by rw [laws_FnProgSame.l2]) (ev_pos (lt_cast hl) ?_)
    rw [wrap_succ hl (by omega)]
    refine ev_ite (fun h1 => ?_) (fun h1 => ?_)
    · subst h1; exact ih (j + 1) true (by omega) (by rw [hh]; simp)
    · have h1' : one = false := by simpa using h1
      subst h1'
      refine ev_pos (nn_cast j) (ev_pos (lt_cast hl) ?_)
      rw [rd_i hl]
      exact ih (j + 1) _ (by omega) (by rw [hh]; simp [isI])
theorem ps_l1 (ha : a.length ≤ 1000) (hc : c.length ≤ 1000) (hn : n.length ≤ 1000) (nx : Ev (fun k => laws_FnProgSame.l0 k (wrap64 (i + 1)) a b c both n) true) : ∀ (d j : Nat) (has : Bool), j + d = n.length → (has || (n.drop j).any (isI i)) = ((putsO a).any (isI i) || (putsO c).any (isI i)) →
    Ev (fun k => laws_FnProgSame.l1 k i has (j : Int) a b c both n) true := by
  intro d
  induction d with
  | zero =>
    intro j has hj hh
    rw [any_end (by omega), Bool.or_false] at hh
    refine Ev.step (fun k => by rw [laws_FnProgSame.l1]) (ev_neg (by omega) ?_)
    refine (impl_ProgPuts_ev a (by omega)).bind ((impl_ProgPuts_ev c (by omega)).bind ?_)
    have p1 := puts_lt a
    have p2 := puts_lt c
    exact ps_l2 a b c both n i has (putsO a) (putsO c) (by omega) (by omega) nx (putsO a).length 0 false (by omega) (by rw [hh]; rfl)
  | succ d ih =>
    intro j has hj hh
    have hl : j < n.length := by omega
    rw [any_drop n _ hl] at hh
    refine Ev.step (fun k => by rw [laws_FnProgSame.l1]) (ev_pos (lt_cast hl) ?_)
    rw [wrap_succ hl (by omega)]
    refine ev_ite (fun h1 => ?_) (fun h1 => ?_)
    · subst h1; exact ih (j + 1) true (by omega) (by rw [← hh]; simp)
    · have h1' : has = false := by simpa using h1
      subst h1'
      refine ev_pos (nn_cast j) (ev_pos (lt_cast hl) ?_)
      rw [rd_i hl]
      exact ih (j + 1) _ (by omega) (by rw [← hh]; simp [isI])
end
theorem ptexts_same (x y : List S60) (hx : progOk x) (hy : progOk y) : (decide (bs (progL x) = bs (progL y)) = true) ↔ x = y := by
  rw [decide_eq_true_iff, bs_inj]
  exact ⟨progL_inj hx.2 hy.2, fun h => h ▸ rfl⟩
theorem ps_l0 (a b c : List S60) (ha : a.length ≤ 12 ∧ ∀ x ∈ a, insW x) (hb : b.length ≤ 12 ∧ ∀ x ∈ b, insW x) (hc : c.length ≤ 12 ∧ ∀ x ∈ c, insW x) : ∀ (d i : Nat), i + d = 4 →
    Ev (fun k => laws_FnProgSame.l0 k (i : Int) a b c (a ++ c) (putsO (a ++ c))) true := by
  intro d
  induction d with
  | zero =>
    intro i hi
    refine Ev.step (fun k => by rw [laws_FnProgSame.l0]) (ev_neg (by omega) ?_)
    obtain ⟨va, ea, ia⟩ := spec_ProgOk_ev a (by omega)
    obtain ⟨vb, eb, ib⟩ := spec_ProgOk_ev b (by omega)
    obtain ⟨vc, ec, ic⟩ := spec_ProgOk_ev c (by omega)
    obtain ⟨ua, fa, ja⟩ := impl_ProgOk_ev a (by omega)
    obtain rfl : ua = va := Bool.eq_iff_iff.2 (ja.trans ia.symm)
    have alike : Ev (fun k => (impl_ProgOk.f k a).bind fun t14 => ((spec_ProgOk.f k a).bind fun t15 => (some ((t14 == t15))))) true := by
      refine fa.bind (ea.bind ?_)
      rw [beq_self_eq_true]; exact ev_now _
    refine ea.bind (ev_ite (fun ka => eb.bind (ev_ite (fun kb => ec.bind (ev_ite (fun kc => ?_) (fun _ => alike))) (fun _ => alike))) (fun _ => alike))
    have oa := ia.1 ka
    have ob := ib.1 kb
    have oc := ic.1 kc
    obtain ⟨v1, e1, i1⟩ := ProgSame_ev a b (by omega)
    obtain ⟨v2, e2, i2⟩ := ProgSame_ev a c (by omega)
    have ta := impl_ProgText_ev a (by omega) ha.2
    have tb := impl_ProgText_ev b (by omega) hb.2
    have tc := impl_ProgText_ev c (by omega) hc.2
    have q1 : v1 = decide (bs (progL a) = bs (progL b)) := Bool.eq_iff_iff.2 (i1.trans (ptexts_same a b oa ob).symm)
    have q2 : v2 = decide (bs (progL a) = bs (progL c)) := Bool.eq_iff_iff.2 (i2.trans (ptexts_same a c oa oc).symm)
    obtain ⟨w, ew, iw⟩ := impl_ProgOk_ev (a ++ c) (by simp; omega)
    have q3 : w = decide ((((a ++ c).length : Nat) : Int) ≤ (10 : Int)) := by
      refine Bool.eq_iff_iff.2 (iw.trans ?_)
      rw [decide_eq_true_iff]
      constructor
      · intro h; have := h.1; omega
      · intro h
        refine ⟨by omega, fun x hx => ?_⟩
        rcases List.mem_append.1 hx with h | h
        · exact oa.2 x h
        · exact oc.2 x h
    refine e1.bind (ta.bind (tb.bind (ev_pos (by rw [← q1]; simp) (e2.bind (ta.bind (tc.bind (ev_pos (by rw [← q2]; simp) (ew.bind ?_))))))))
    rw [← q3, beq_self_eq_true]; exact ev_now _
  | succ d ih =>
    intro i hi
    refine Ev.step (fun k => by rw [laws_FnProgSame.l0]) (ev_pos (by omega) ?_)
    have nx := ih (i + 1) (by omega)
    rw [← wrap_succ (n := 4) (i := i) (by omega) (by omega)] at nx
    have hp := puts_lt (a ++ c)
    exact ps_l1 a b c (a ++ c) (putsO (a ++ c)) (i : Int) (by omega) (by omega) (by omega) nx (putsO (a ++ c)).length 0 false (by omega) (by rw [Bool.false_or, List.drop_zero]; exact puts_app a c _)
theorem FnProgSame : laws_FnProgSame.Pure := by
  intro t s ⟨_, ht⟩ ⟨_, hs⟩
  refine Ev.rounds ?_
  unfold laws_FnProgSame.f
  refine ev_ite (fun _ => ev_now _) (fun _ => ev_ite (fun _ => ev_now _) (fun _ => ?_))
  obtain ⟨⟨a, b⟩, hab, ha, hb⟩ := DrawProgSame_dr t (bytes_wf ht)
  obtain ⟨c, hc, hcw⟩ := DrawProgLoads_dr s (bytes_wf hs)
  simp only at ha hb
  obtain ⟨v2, e2, i2⟩ := ProgSame_ev a b (by omega)
  obtain ⟨v3, e3, i3⟩ := ssameIns_ev a b (by omega)
  obtain ⟨v4, e4, i4⟩ := ProgSame_ev a c (by omega)
  obtain ⟨v5, e5, i5⟩ := ProgSame_ev c a (by omega)
  obtain rfl : v2 = v3 := Bool.eq_iff_iff.2 (i2.trans i3.symm)
  obtain rfl : v4 = v5 := Bool.eq_iff_iff.2 (i4.trans (Iff.trans eq_comm i5.symm))
  refine hab.bind (hc.bind (e2.bind (e3.bind (ev_pos (by simp) (e4.bind (e5.bind (ev_pos (by simp) (ev_pos (by show 0 + a.length ≤ 4398046511104; omega) (ev_pos (by show a.length + c.length ≤ 4398046511104; omega) ((impl_ProgPuts_ev (a ++ c) (by simp; omega)).bind ?_))))))))))
  exact ps_l0 a b c ha hb hcw 4 0 rfl

end Go.Proofs.YtlpgpckggnimhaaDoor.Pure
