/- The pure law of FnProg: what the law's function of numbers and lists answers is true, for every input. Its condition: none but what the row says. -/
import Derived.Test.YtlpgpckggnimhaaDoorPFnProgx3
import Derived.Test.YtlpgpckggnimhaaDoorAm43
namespace Go.Proofs.YtlpgpckggnimhaaDoor.Pure
open Go.RowKit Go.Proofs.YtlpgpckggnimhaaDoor.PFnProg Go.Proofs.YtlpgpckggnimhaaDoorW.PrintWords Go.Proofs.YtlpgpckggnimhaaDoorW.PrintLast
open Am
set_option linter.unusedVariables false
set_option linter.unusedSimpArgs false
set_option linter.unusedSectionVars false

theorem wrap_succ {i n : Nat} (h : i < n) (hn : n ≤ 9223372036854775807) : wrap64 ((i : Int) + 1) = ((i + 1 : Nat) : Int) := by unfold wrap64; omega
theorem wrap_id {a : Int} (h0 : -9223372036854775808 ≤ a) (h1 : a ≤ 9223372036854775807) : wrap64 a = a := by unfold wrap64; omega
theorem ev_pos {α : Type} {c : Prop} [Decidable c] {f g : Nat → Option α} {r : α} (h : c) (e : Ev f r) : Ev (fun k => if c then f k else g k) r := by
  simp only [if_pos h]; exact e
theorem ev_neg {α : Type} {c : Prop} [Decidable c] {f g : Nat → Option α} {r : α} (h : ¬ c) (e : Ev g r) : Ev (fun k => if c then f k else g k) r := by
  simp only [if_neg h]; exact e
theorem ev_ite {α : Type} {c : Prop} [Decidable c] {f g : Nat → Option α} {r : α} (h1 : c → Ev f r) (h2 : ¬ c → Ev g r) : Ev (fun k => if c then f k else g k) r := by
  by_cases h : c
  · exact ev_pos h (h1 h)
  · exact ev_neg h (h2 h)
theorem ev_now {α : Type} (r : α) : Ev (fun _ => some r) r := Ev.now r
theorem ev_get {α β : Type} {g : Option α} {f : Nat → α → Option β} {a : α} {r : β} (h : g = some a) (k : Ev (fun n => f n a) r) : Ev (fun n => g.bind (f n)) r := by
  subst h; exact k
/-- A loop over 0 .. n - 1: what it answers from i on. -/
theorem ev_loop {α : Type} (n : Nat) (F : Nat → Nat → Option α) (v : Nat → α) (step : ∀ i, i < n → Ev (F (i + 1)) (v (i + 1)) → Ev (F i) (v i)) (last : Ev (F n) (v n)) : ∀ i, i ≤ n → Ev (F i) (v i) := by
  have key : ∀ d i, i + d = n → Ev (F i) (v i) := by
    intro d
    induction d with
    | zero => intro i h; obtain rfl : i = n := by omega
              exact last
    | succ d ih => intro i h; exact step i (by omega) (ih (i + 1) (by omega))
  exact fun i hi => key (n - i) i (by omega)
theorem lt_cast {i n : Nat} (h : i < n) : (i : Int) < (n : Int) := Int.ofNat_lt.2 h
theorem nn_cast (i : Nat) : (0 : Int) ≤ (i : Int) := Int.natCast_nonneg i
theorem drop_eq {α : Type} {x y : List α} (hl : x.length = y.length) {i : Nat} (h : i < x.length) : (x.drop i = y.drop i) ↔ (x[i] = y[i]'(hl ▸ h) ∧ x.drop (i + 1) = y.drop (i + 1)) := by
  have h2 : i < y.length := hl ▸ h
  rw [List.drop_eq_getElem_cons h, List.drop_eq_getElem_cons h2, List.cons.injEq]
theorem mem_split {α : Type} {p : α → Prop} {l : List α} {i : Nat} (h : i < l.length) : (∀ b ∈ l.drop i, p b) ↔ p l[i] ∧ ∀ b ∈ l.drop (i + 1), p b := by
  rw [List.drop_eq_getElem_cons h]
  simp only [List.mem_cons, forall_eq_or_imp]
theorem ev_const {α : Type} {X : Option α} {r : α} (h : X = some r) : Ev (fun _ => X) r := ⟨0, fun _ _ => h⟩

theorem rd_i {l : List Int} {i : Nat} (h : i < l.length) : rd l (i : Int) = l[i] := by
  unfold rd
  rw [Int.toNat_natCast, List.getD_eq_getElem?_getD, List.getElem?_eq_getElem h]
  rfl

/-- The bytes a draw reads, and the numbers it picks. -/
def bytesOk (s : List Int) : Prop := ∀ x ∈ s, 0 ≤ x ∧ x ≤ 255
theorem rd_byte {s : List Int} (h : bytesOk s) (i : Int) : 0 ≤ rd s i ∧ rd s i ≤ 255 := by
  unfold rd
  rw [List.getD_eq_getElem?_getD]
  cases e : s[i.toNat]? with
  | none => simp
  | some x => exact h x (List.mem_of_getElem? e)
theorem xor_nn (a b : Int) (ha : 0 ≤ a) (ha2 : a < 4611686018427387904) (hb : 0 ≤ b) (hb2 : b < 4611686018427387904) : 0 ≤ Go.bits .xor .i64 a b := by
  obtain ⟨m, rfl⟩ := Int.eq_ofNat_of_zero_le ha
  obtain ⟨n, rfl⟩ := Int.eq_ofNat_of_zero_le hb
  have hm : m < 2 ^ 62 := by omega
  have hn : n < 2 ^ 62 := by omega
  have hx := Nat.xor_lt_two_pow hm hn
  have h1 : m % 2 ^ 64 = m := by omega
  have h2 : n % 2 ^ 64 = n := by omega
  have e : (BitVec.ofNat 64 m ^^^ BitVec.ofNat 64 n).toNat = m ^^^ n := by rw [BitVec.toNat_xor, BitVec.toNat_ofNat, BitVec.toNat_ofNat, h1, h2]
  have e2 : Go.bits .xor .i64 (m : Int) (n : Int) = IntKind.i64.wrap (((BitVec.ofInt 64 (m : Int) ^^^ BitVec.ofInt 64 (n : Int)).toNat : Nat) : Int) := rfl
  rw [e2, BitVec.ofInt_natCast, BitVec.ofInt_natCast, e, IntKind.wrap_i64]
  omega
theorem tmod_in {a n : Int} (ha : 0 ≤ a) (hn : 1 ≤ n) : 0 ≤ Int.tmod a n ∧ Int.tmod a n < n := ⟨Int.tmod_nonneg _ ha, Int.tmod_lt_of_pos _ (by omega)⟩
theorem tdiv_in {a n : Int} (ha : 0 ≤ a) (hn : 1 ≤ n) : 0 ≤ Int.tdiv a n ∧ Int.tdiv a n ≤ a := by
  rw [Int.tdiv_eq_ediv_of_nonneg ha]
  exact ⟨Int.ediv_nonneg ha (by omega), Int.ediv_le_self _ ha⟩
theorem pick_ev {s : List Int} (hs : bytesOk s) (p n : Int) (hp : 0 ≤ p) (hp2 : p ≤ 1000000000000) (hl : s.length ≤ 9223372036854775807) :
    ∃ v, Ev (fun k => spec_l15Rd_pick.f k s p n) (v, p + 1) ∧ 0 ≤ v ∧ (1 ≤ n → v < n) := by
  have wp : wrap64 (p + 1) = p + 1 := wrap_id (by omega) (by omega)
  have wq : wrap64 ((p + 1) - 1) = p := by rw [Int.add_sub_cancel]; exact wrap_id (by omega) (by omega)
  unfold spec_l15Rd_pick.f
  rw [wp]
  by_cases h1 : n < 1
  · refine ⟨0, ev_pos h1 (Ev.step (fun k => by rw [spec_l15Rd_pick.j0]) ?_), by omega, by omega⟩
    exact ev_pos rfl (ev_now _)
  by_cases h2 : s.length = 0
  · refine ⟨0, ev_neg h1 (Ev.step (fun k => by rw [spec_l15Rd_pick.j0]) ?_), by omega, by omega⟩
    exact ev_pos (by simp [h2]) (ev_now _)
  have hf : ¬ (((s.length : Int) == 0) = true) := by simp; intro h; exact h2 (by rw [h]; rfl)
  by_cases h3 : p < s.length
  · have hb := rd_byte hs p
    have wv : wrap64 (rd s p) = rd s p := wrap_id (by omega) (by omega)
    have ht := tmod_in (a := rd s p) (n := n) hb.1 (by omega)
    refine ⟨Int.tmod (rd s p) n, ev_neg h1 (Ev.step (fun k => by rw [spec_l15Rd_pick.j0]) ?_), ht.1, fun _ => ht.2⟩
    rw [wq, wv]
    exact ev_neg hf (ev_pos h3 (ev_pos hp (ev_neg (by omega) (ev_now _))))
  have q1 := tmod_in (a := p) (n := s.length) hp (by omega)
  have w7 : wrap64 (p * 7) = p * 7 := wrap_id (by omega) (by omega)
  have w8 : wrap64 (p * 7 + 3) = p * 7 + 3 := wrap_id (by omega) (by omega)
  have q2 := tmod_in (a := p * 7 + 3) (n := s.length) (by omega) (by omega)
  have b1 := rd_byte hs (Int.tmod p s.length)
  have b2 := rd_byte hs (Int.tmod (p * 7 + 3) s.length)
  have d1 := tdiv_in (a := p) (n := s.length) hp (by omega)
  generalize hx : rd s (Int.tmod p s.length) = x at b1
  generalize hy : rd s (Int.tmod (p * 7 + 3) s.length) = y at b2
  generalize hd : Int.tdiv p s.length = d at d1
  have v1 : wrap64 x = x := wrap_id (by omega) (by omega)
  have v2 : wrap64 (x * 131) = x * 131 := wrap_id (by omega) (by omega)
  have v3 : wrap64 y = y := wrap_id (by omega) (by omega)
  have v4 : wrap64 (y * 1117) = y * 1117 := wrap_id (by omega) (by omega)
  have v5 : wrap64 (x * 131 + y * 1117) = x * 131 + y * 1117 := wrap_id (by omega) (by omega)
  have v6 : wrap64 (p * 29) = p * 29 := wrap_id (by omega) (by omega)
  have v7 : wrap64 (x * 131 + y * 1117 + p * 29) = x * 131 + y * 1117 + p * 29 := wrap_id (by omega) (by omega)
  have v8 : wrap64 d = d := wrap_id (by omega) (by omega)
  have v9 : wrap64 (d * 53) = d * 53 := wrap_id (by omega) (by omega)
  have v10 : wrap64 (x * 131 + y * 1117 + p * 29 + d * 53) = x * 131 + y * 1117 + p * 29 + d * 53 := wrap_id (by omega) (by omega)
  generalize hz : x * 131 + y * 1117 + p * 29 + d * 53 = z at v10
  have z0 : 0 ≤ z := by omega
  have z1 : z < 4611686018427387904 := by omega
  have d2 := tdiv_in (a := z) (n := 64) z0 (by omega)
  have v11 : wrap64 (Int.tdiv z 64) = Int.tdiv z 64 := wrap_id (by omega) (by omega)
  have hxo := xor_nn z (Int.tdiv z 64) z0 z1 d2.1 (by omega)
  have ht := tmod_in (a := Go.bits .xor .i64 z (Int.tdiv z 64)) (n := n) hxo (by omega)
  refine ⟨Int.tmod (Go.bits .xor .i64 z (Int.tdiv z 64)) n, ev_neg h1 (Ev.step (fun k => by rw [spec_l15Rd_pick.j0]) ?_), ht.1, fun _ => ht.2⟩
  rw [wq, w7, w8, hx, hy, hd, v1, v2, v3, v4, v5, v6, v7, v8, v9, hz, v10, v11]
  exact ev_neg hf (ev_neg h3 (ev_neg (by omega) (ev_pos q1.1 (ev_pos q1.2 (ev_pos q2.1 (ev_pos q2.2 (ev_neg (by omega) (ev_now _))))))))
theorem open_some (l : List Int) (hl : bytesOk l) : ∃ s, spec_l15Open.f l = some (s, 0) ∧ bytesOk s ∧ s.length ≤ 2000 := by
  unfold spec_l15Open.f
  by_cases h : (l.length : Int) > 2000
  · refine ⟨l.take 2000, by rw [if_pos h, if_pos (by omega)], fun x hx => hl x (List.mem_of_mem_take hx), by rw [List.length_take]; omega⟩
  · exact ⟨l, by rw [if_neg h], hl, by omega⟩
theorem bytes_wf {l : List Int} (h : ∀ x ∈ l, (Lit.int .u8 x).wf = true) : bytesOk l := by
  intro x hx
  have := h x hx
  simp [Lit.wf, IntKind.min, IntKind.max, IntKind.bits, IntKind.signed] at this
  omega

/-- What comes of a reckoning, told by a property. -/
def Dr {α : Type} (F : Nat → Option α) (Q : α → Prop) : Prop := ∃ v, Ev F v ∧ Q v
theorem Dr.bind {α β : Type} {F : Nat → Option α} {G : Nat → α → Option β} {Q : α → Prop} {R : β → Prop} (h : Dr F Q) (k : ∀ v, Q v → Dr (fun n => G n v) R) : Dr (fun n => (F n).bind (G n)) R := by
  obtain ⟨v, hv, q⟩ := h
  obtain ⟨u, hu, r⟩ := k v q
  exact ⟨u, hv.bind hu, r⟩
theorem Dr.now {α : Type} {R : α → Prop} {v : α} (h : R v) : Dr (fun _ => some v) R := ⟨v, ev_now v, h⟩
theorem Dr.pos {α : Type} {c : Prop} [Decidable c] {f g : Nat → Option α} {R : α → Prop} (h : c) (d : Dr f R) : Dr (fun k => if c then f k else g k) R := by
  obtain ⟨v, hv, q⟩ := d; exact ⟨v, ev_pos h hv, q⟩
theorem Dr.neg {α : Type} {c : Prop} [Decidable c] {f g : Nat → Option α} {R : α → Prop} (h : ¬ c) (d : Dr g R) : Dr (fun k => if c then f k else g k) R := by
  obtain ⟨v, hv, q⟩ := d; exact ⟨v, ev_neg h hv, q⟩
theorem Dr.ite {α : Type} {c : Prop} [Decidable c] {f g : Nat → Option α} {R : α → Prop} (h1 : c → Dr f R) (h2 : ¬ c → Dr g R) : Dr (fun k => if c then f k else g k) R := by
  by_cases h : c
  · exact Dr.pos h (h1 h)
  · exact Dr.neg h (h2 h)
theorem Dr.mono {α : Type} {F : Nat → Option α} {Q R : α → Prop} (h : Dr F Q) (k : ∀ v, Q v → R v) : Dr F R := by
  obtain ⟨v, hv, q⟩ := h; exact ⟨v, hv, k v q⟩
theorem Dr.step {α : Type} {F G : Nat → Option α} {R : α → Prop} (h : ∀ k, F (k + 1) = G k) (d : Dr G R) : Dr F R := by
  obtain ⟨v, hv, q⟩ := d; exact ⟨v, Ev.step h hv, q⟩
theorem Dr.of {α : Type} {g : Option α} {a : α} {R : α → Prop} (h : g = some a) (r : R a) : Dr (fun _ => g) R := ⟨a, ev_const h, r⟩
theorem pick_dr {s : List Int} (hs : bytesOk s) (p n : Int) (hp : 0 ≤ p) (hp2 : p ≤ 1000000000000) (hl : s.length ≤ 9223372036854775807) :
    Dr (fun k => spec_l15Rd_pick.f k s p n) (fun r => 0 ≤ r.1 ∧ (1 ≤ n → r.1 < n) ∧ r.2 = p + 1) := by
  obtain ⟨v, hv, h0, h1⟩ := pick_ev hs p n hp hp2 hl
  exact ⟨_, hv, h0, h1, rfl⟩

theorem num_ev {s : List Int} (hs : bytesOk s) (p : Int) (l : List Int) (hp : 0 ≤ p) (hp2 : p ≤ 1000000000000) (hl : s.length ≤ 9223372036854775807) (h0 : 0 < l.length) (h1 : l.length ≤ 1000000) :
    ∃ v, Ev (fun k => spec_l15Rd_num.f k s p l) (v, p + 1) ∧ v ∈ l := by
  obtain ⟨i, hi, i0, i1⟩ := pick_ev hs p l.length hp hp2 hl
  obtain ⟨j, rfl⟩ := Int.eq_ofNat_of_zero_le i0
  have hj : j < l.length := by have := i1 (by omega); omega
  refine ⟨l[j], ?_, List.getElem_mem hj⟩
  unfold spec_l15Rd_num.f
  refine hi.bind (ev_pos i0 (ev_pos (lt_cast hj) ?_))
  rw [rd_i hj]
  exact ev_now _

theorem num_dr {s : List Int} (hs : bytesOk s) (p : Int) (l : List Int) (hp : 0 ≤ p) (hp2 : p ≤ 1000000000000) (hl : s.length ≤ 9223372036854775807) (h0 : 0 < l.length) (h1 : l.length ≤ 1000000) :
    Dr (fun k => spec_l15Rd_num.f k s p l) (fun r => r.1 ∈ l ∧ r.2 = p + 1) := by
  obtain ⟨v, hv, h⟩ := num_ev hs p l hp hp2 hl h0 h1
  exact ⟨_, hv, h, rfl⟩

theorem rdi_Ins {l : List S60} {i : Nat} (h : i < l.length) : rd_T60 l (i : Int) = l[i] := by
  unfold rd_T60
  rw [Int.toNat_natCast, List.getD_eq_getElem?_getD, List.getElem?_eq_getElem h]
  rfl

/-- An instruction that is right. -/
def insIn (x : S60) : Prop :=
  (x.f0 = 1 ∧ 0 ≤ x.f1 ∧ x.f1 ≤ 3 ∧ 0 ≤ x.f2 ∧ x.f2 ≤ 3 ∧ x.f3 = 0) ∨ (x.f0 = 2 ∧ 0 ≤ x.f1 ∧ x.f1 ≤ 3 ∧ 0 ≤ x.f2 ∧ x.f2 ≤ 3 ∧ x.f3 = 0) ∨
  (x.f0 = 3 ∧ 0 ≤ x.f1 ∧ x.f1 ≤ 3 ∧ x.f2 = 0 ∧ -1000000 ≤ x.f3 ∧ x.f3 ≤ 1000000) ∨ ((x.f0 = 4 ∨ x.f0 = 5) ∧ 0 ≤ x.f1 ∧ x.f1 ≤ 3 ∧ 0 ≤ x.f2 ∧ x.f2 ≤ 3 ∧ x.f3 = 0) ∨
  (x.f0 = 6 ∧ 0 ≤ x.f1 ∧ x.f1 ≤ 3 ∧ 0 ≤ x.f2 ∧ x.f2 ≤ 3 ∧ 1 ≤ x.f3 ∧ x.f3 ≤ 10) ∨ (x.f0 = 7 ∧ x.f1 = 0 ∧ x.f2 = 0 ∧ x.f3 = 0)
instance (x : S60) : Decidable (insIn x) := by unfold insIn; infer_instance
def progOk (l : List S60) : Prop := l.length ≤ 10 ∧ ∀ x ∈ l, insIn x

def insSmall (b : S60) : Prop := -2000000 ≤ b.f0 ∧ b.f0 ≤ 2000000 ∧ -2000000 ≤ b.f1 ∧ b.f1 ≤ 2000000 ∧ -2000000 ≤ b.f2 ∧ b.f2 ≤ 2000000 ∧ -2000000 ≤ b.f3 ∧ b.f3 ≤ 2000000
theorem l2Any_dr {s : List Int} (hs : bytesOk s) (p : Int) (hp : 0 ≤ p) (hp2 : p ≤ 100000000000) (hl : s.length ≤ 9223372036854775807) :
    Dr (fun k => spec_l2Any.f k s p) (fun r => insSmall ⟨r.1, r.2.1, r.2.2.1, r.2.2.2.1⟩ ∧ p ≤ r.2.2.2.2 ∧ r.2.2.2.2 ≤ p + 6) := by
  unfold spec_l2Any.f
  refine (num_dr hs p _ hp (by omega) hl (by simp) (by simp)).bind fun r1 h1 => ?_
  obtain ⟨h1, e1⟩ := h1
  simp only [List.mem_cons, List.not_mem_nil, or_false] at h1
  refine (pick_dr hs r1.2 _ (by omega) (by omega) hl).bind fun r2 h2 => ?_
  refine (pick_dr hs r2.2 _ (by omega) (by omega) hl).bind fun r3 h3 => ?_
  refine Dr.ite (fun c => ?_) (fun c => Dr.ite (fun d => ?_) (fun d => Dr.ite (fun e => ?_) (fun e => ?_)))
  · refine (num_dr hs r3.2 _ (by omega) (by omega) hl (by simp) (by simp)).bind fun r4 h4 => Dr.now ?_
    obtain ⟨h4, e4⟩ := h4
    simp only [List.mem_cons, List.not_mem_nil, or_false] at h4
    unfold insSmall; simp only; omega
  · refine (pick_dr hs r3.2 _ (by omega) (by omega) hl).bind fun r4 h4 => Dr.now ?_
    have : wrap64 (1 + r4.1) = 1 + r4.1 := wrap_id (by omega) (by omega)
    unfold insSmall; simp only [this]; omega
  · refine (pick_dr hs r3.2 _ (by omega) (by omega) hl).bind fun r4 h4 => Dr.ite (fun f => ?_) (fun f => Dr.now ?_)
    · refine (pick_dr hs r4.2 _ (by omega) (by omega) hl).bind fun r5 h5 => ?_
      refine (pick_dr hs r5.2 _ (by omega) (by omega) hl).bind fun r6 h6 => Dr.now ?_
      unfold insSmall; simp only; omega
    · unfold insSmall; simp only; omega
  · refine Dr.now ?_
    unfold insSmall; simp only; omega
theorem l2Prog_l0 {s : List Int} (hs : bytesOk s) (hl : s.length ≤ 9223372036854775807) : ∀ (d : Nat) (l : List S60) (p : Int), d ≤ 100 → l.length + d ≤ 1000 → (∀ b ∈ l, insSmall b) → 0 ≤ p → p + 6 * d ≤ 90000000000 →
    Dr (fun k => spec_l2Prog.l0 k l d s p) (fun r => r.1.length = l.length + d ∧ (∀ b ∈ r.1, insSmall b) ∧ p ≤ r.2 ∧ r.2 ≤ p + 6 * d) := by
  intro d
  induction d with
  | zero =>
    intro l p _ _ hb _ _
    refine Dr.step (fun k => by rw [spec_l2Prog.l0]) ?_
    exact Dr.neg (by omega) (Dr.now ⟨by simp, hb, by simp, by simp⟩)
  | succ d ih =>
    intro l p hd hn hb h0 h1
    refine Dr.step (fun k => by rw [spec_l2Prog.l0]) ?_
    refine Dr.pos (by omega) ((l2Any_dr hs p h0 (by omega) hl).bind fun r hr => Dr.pos (by omega) ?_)
    have hw : wrap64 (((d + 1 : Nat) : Int) - 1) = (d : Int) := by
      rw [show ((d + 1 : Nat) : Int) - 1 = (d : Int) by omega]
      exact wrap_id (by omega) (by omega)
    rw [hw]
    refine (ih (l ++ [(⟨r.1, r.2.1, r.2.2.1, r.2.2.2.1⟩ : S60)]) r.2.2.2.2 (by omega) (by simp; omega) ?_ (by omega) (by omega)).mono fun v hv => ⟨by rw [hv.1]; simp; omega, hv.2.1, by omega, by omega⟩
    intro b hb2
    rcases List.mem_append.1 hb2 with h | h
    · exact hb b h
    · rw [List.mem_singleton.1 h]; exact hr.1
theorem l2Prog_dr {s : List Int} (hs : bytesOk s) (p : Int) (hp : 0 ≤ p) (hp2 : p ≤ 10000000000) (hl : s.length ≤ 9223372036854775807) :
    Dr (fun k => spec_l2Prog.f k s p) (fun r => r.1.length ≤ 7 ∧ (∀ b ∈ r.1, insSmall b) ∧ p ≤ r.2 ∧ r.2 ≤ p + 50) := by
  unfold spec_l2Prog.f
  refine (pick_dr hs p _ hp (by omega) hl).bind fun r1 h1 => Dr.ite (fun c => ?_) (fun c => ?_)
  · refine (pick_dr hs r1.2 _ (by omega) (by omega) hl).bind fun r2 h2 => ?_
    refine (pick_dr hs r2.2 _ (by omega) (by omega) hl).bind fun r3 h3 => ?_
    refine (pick_dr hs r3.2 _ (by omega) (by omega) hl).bind fun r4 h4 => Dr.now ?_
    have hw : wrap64 (1 + r4.1) = 1 + r4.1 := wrap_id (by omega) (by omega)
    refine ⟨by simp, ?_, by omega, by omega⟩
    intro b hb
    simp only [List.mem_cons, List.not_mem_nil, or_false, hw] at hb
    rcases hb with rfl | rfl | rfl | rfl <;> (unfold insSmall; simp only; omega)
  · refine (pick_dr hs r1.2 _ (by omega) (by omega) hl).bind fun r2 h2 => ?_
    have h3 := h2.2.1 (by omega)
    obtain ⟨d, hd⟩ := Int.eq_ofNat_of_zero_le h2.1
    rw [hd] at h3 ⊢
    refine (l2Prog_l0 hs hl d [] r2.2 (by omega) (by simp; omega) (by simp) (by omega) (by omega)).mono fun v hv => ⟨by rw [hv.1]; simp; omega, hv.2.1, by omega, by omega⟩
theorem insSmall_rd {l : List S60} (h : ∀ b ∈ l, insSmall b) (i : Int) : insSmall (rd_T60 l i) := by
  unfold rd_T60
  rw [List.getD_eq_getElem?_getD]
  cases e : l[i.toNat]? with
  | none => simp [insSmall, z60]
  | some x => exact h x (List.mem_of_getElem? e)
theorem insSmall_set {l : List S60} {i : Nat} {v : S60} (h : ∀ b ∈ l, insSmall b) (hv : insSmall v) : ∀ b ∈ l.set i v, insSmall b := by
  intro b hb
  rcases List.mem_or_eq_of_mem_set hb with h1 | h1
  · exact h b h1
  · rw [h1]; exact hv
theorem l2Bent_l0 {s : List Int} : ∀ (d : Nat) (l : List S60) (i p : Int), l.length + d = 11 → 0 ≤ i → i < l.length → (∀ b ∈ l, insSmall b) →
    Dr (fun k => spec_l2Bent.l0 k l i s p) (fun r => r.1.length ≤ 11 ∧ (∀ b ∈ r.1, insSmall b) ∧ p ≤ r.2 ∧ r.2 ≤ p) := by
  intro d
  induction d with
  | zero =>
    intro l i p hd _ _ hb
    refine Dr.step (fun k => by rw [spec_l2Bent.l0]) ?_
    exact Dr.neg (by omega) (Dr.now ⟨by simp; omega, hb, by simp, by simp⟩)
  | succ d ih =>
    intro l i p hd h0 h1 hb
    refine Dr.step (fun k => by rw [spec_l2Bent.l0]) ?_
    refine Dr.pos (by omega) (Dr.pos h0 (Dr.pos h1 (Dr.pos (by omega) ?_)))
    refine ih _ i p (by simp; omega) h0 (by simp; omega) ?_
    intro b hb2
    rcases List.mem_append.1 hb2 with h | h
    · exact hb b h
    · rw [List.mem_singleton.1 h]; exact insSmall_rd hb i
theorem l2Bent_dr {s : List Int} (hs : bytesOk s) (p : Int) (hp : 0 ≤ p) (hp2 : p ≤ 1000000000) (hl : s.length ≤ 9223372036854775807) :
    Dr (fun k => spec_l2Bent.f k s p) (fun r => r.1.length ≤ 11 ∧ (∀ b ∈ r.1, insSmall b) ∧ p ≤ r.2 ∧ r.2 ≤ p + 60) := by
  unfold spec_l2Bent.f
  refine (l2Prog_dr hs p hp (by omega) hl).bind fun r1 h1 => Dr.ite (fun c => Dr.now ⟨by simp only; omega, h1.2.1, by simp only; omega, by simp only; omega⟩) (fun c => ?_)
  obtain ⟨n1, b1, p1, p2⟩ := h1
  refine (pick_dr hs r1.2 _ (by omega) (by omega) hl).bind fun r2 h2 => ?_
  have i2 := h2.2.1 (by omega)
  have sm := insSmall_rd b1 r2.1
  unfold insSmall at sm
  refine (pick_dr hs r2.2 _ (by omega) (by omega) hl).bind fun r3 h3 => Dr.ite (fun d => ?_) (fun d => Dr.ite (fun e => ?_) (fun e => Dr.ite (fun f => ?_) (fun f => Dr.ite (fun g => ?_) (fun g => Dr.now ⟨by simp only; omega, b1, by simp only; omega, by simp only; omega⟩))))
  · refine (num_dr hs r3.2 _ (by omega) (by omega) hl (by simp) (by simp)).bind fun r4 h4 => Dr.pos h2.1 (Dr.pos i2 (Dr.now ?_))
    obtain ⟨h4, e4⟩ := h4
    simp only [List.mem_cons, List.not_mem_nil, or_false] at h4
    refine ⟨by simp; omega, insSmall_set b1 ?_, by simp only; omega, by simp only; omega⟩
    unfold insSmall; simp only; omega
  · refine (num_dr hs r3.2 _ (by omega) (by omega) hl (by simp) (by simp)).bind fun r4 h4 => Dr.pos h2.1 (Dr.pos i2 (Dr.now ?_))
    obtain ⟨h4, e4⟩ := h4
    simp only [List.mem_cons, List.not_mem_nil, or_false] at h4
    refine ⟨by simp; omega, insSmall_set b1 ?_, by simp only; omega, by simp only; omega⟩
    unfold insSmall; simp only; omega
  · refine (num_dr hs r3.2 _ (by omega) (by omega) hl (by simp) (by simp)).bind fun r4 h4 => Dr.pos h2.1 (Dr.pos i2 (Dr.now ?_))
    obtain ⟨h4, e4⟩ := h4
    simp only [List.mem_cons, List.not_mem_nil, or_false] at h4
    refine ⟨by simp; omega, insSmall_set b1 ?_, by simp only; omega, by simp only; omega⟩
    unfold insSmall; simp only; omega
  · exact (l2Bent_l0 (11 - r1.1.length) r1.1 r2.1 r3.2 (by omega) h2.1 i2 b1).mono fun v hv => ⟨hv.1, hv.2.1, by omega, by omega⟩

theorem nums_one (d : Int) (u : Nat) (h : d = (48 + u : Nat)) (hu : u < 10) : strOfNums [d] = bs [UInt8.ofNat (48 + u)] := by subst h; rfl
theorem l15Dec_l0 : ∀ (j n : Nat) (x : Bytes), n < 10 ^ (j + 1) → n < 9223372036854775808 → x.length + j ≤ 60 → Ev (fun k => spec_l15Dec.l0 k (n : Int) (bs x)) (bs (Lib.decDigits n ++ x)) := by
  intro j
  induction j with
  | zero =>
    intro n x hn hm hx
    have h9 : n < 10 := by simpa using hn
    refine Ev.step (fun k => by rw [spec_l15Dec.l0]) (ev_neg (by omega) ?_)
    simp only [Option.bind_some]
    rw [nums_one _ n (by rw [wrap_id (by omega) (by omega)]; omega) h9, bs_size, bs_size, bs_app, dec_small h9]
    exact ev_pos (by simp; omega) (ev_now _)
  | succ j ih =>
    intro n x hn hm hx
    by_cases h9 : n < 10
    · refine Ev.step (fun k => by rw [spec_l15Dec.l0]) (ev_neg (by omega) ?_)
      simp only [Option.bind_some]
      rw [nums_one _ n (by rw [wrap_id (by omega) (by omega)]; omega) h9, bs_size, bs_size, bs_app, dec_small h9]
      exact ev_pos (by simp; omega) (ev_now _)
    · refine Ev.step (fun k => by rw [spec_l15Dec.l0]) (ev_pos (by omega) ?_)
      simp only [Option.bind_some]
      have e1 : Int.tmod (n : Int) 10 = ((n % 10 : Nat) : Int) := by rw [Int.tmod_eq_emod_of_nonneg (by omega)]; omega
      have e2 : Int.tdiv (n : Int) 10 = ((n / 10 : Nat) : Int) := by rw [Int.tdiv_eq_ediv_of_nonneg (by omega)]; omega
      rw [nums_one _ (n % 10) (by rw [e1, wrap_id (by omega) (by omega)]; omega) (by omega), bs_size, bs_size, bs_app, e2, wrap_id (by omega) (by omega), dec_big h9, List.append_assoc]
      exact ev_pos (by simp; omega) (ih (n / 10) _ (by rw [Nat.pow_succ] at hn; omega) (by omega) (by simp; omega))
theorem l15Dec_ev (n : Int) (h0 : -9223372036854775808 ≤ n) (h1 : n ≤ 9223372036854775807) : Ev (fun k => spec_l15Dec.f k n) (bs (Lib.itoa n)) := by
  have pos : ∀ m : Int, 0 ≤ m → m ≤ 9223372036854775807 → Ev (fun k => spec_l15Dec.f k m) (bs (Lib.decDigits m.toNat)) := by
    intro m h0 h1
    refine Ev.step (fun k => by rw [spec_l15Dec.f]) (ev_neg (by omega) (ev_neg (by omega) ?_))
    have := l15Dec_l0 18 m.toNat [] (by omega) (by omega) (by simp)
    rw [List.append_nil, Int.toNat_of_nonneg h0] at this
    exact this
  by_cases hneg : n < 0
  · refine Ev.step (fun k => by rw [spec_l15Dec.f]) ?_
    by_cases hm : n < -9223372036854775807
    · have : n = -9223372036854775808 := by omega
      subst this
      refine ev_pos (by omega) ?_
      rw [itoa_neg (by omega)]
      have e : Lib.decDigits (-9223372036854775808 : Int).natAbs = [57, 50, 50, 51, 51, 55, 50, 48, 51, 54, 56, 53, 52, 55, 55, 53, 56, 48, 56] := by
        rw [← good_dec 19 [57, 50, 50, 51, 51, 55, 50, 48, 51, 54, 56, 53, 52, 55, 55, 53, 56, 48, 56] rfl ((goodB _).1 (by decide))]
        congr 1
      rw [e]
      exact ev_now _
    · refine ev_neg hm (ev_pos hneg ?_)
      rw [wrap_id (by omega) (by omega)]
      refine (pos (-n) (by omega) (by omega)).bind ?_
      rw [itoa_neg hneg, show (-n).toNat = n.natAbs by omega, bs_size]
      have hl := dec_len 18 n.natAbs (by omega)
      refine ev_pos (by omega) ?_
      rw [show (⟨#[45]⟩ : ByteArray) = bs [45] from rfl, bs_app]
      exact ev_now _
  · rw [itoa_nn (by omega)]
    exact pos n (by omega) h1
theorem itoa64 {n : Int} (h0 : -9223372036854775808 ≤ n) (h1 : n ≤ 9223372036854775807) : (Lib.itoa n).length ≤ 20 := itoa_len 18 (by omega)
theorem Itoa_ev (n : Int) (h0 : -9223372036854775808 ≤ n) (h1 : n ≤ 9223372036854775807) : Ev (fun k => strconv_Itoa.f k n) (bs (Lib.itoa n)) := by
  unfold strconv_Itoa.f
  exact ev_pos ⟨h0, h1⟩ (ev_now _)
theorem Join_ev (ps : List Bytes) (c : UInt8) (h : ps.length ≤ 140737488355328) (hl : (Lib.join ps [c]).length ≤ 140737488355328) : Ev (fun k => strings_Join.f k (ps.map bs) (bs [c])) (bs (Lib.join ps [c])) := by
  unfold strings_Join.f
  refine ev_pos ⟨by simpa using h, ?_⟩ ?_
  · rw [List.map_map, show ((fun s : ByteArray => s.data.toList) ∘ bs) = id from rfl, List.map_id]; exact hl
  · rw [joinB_bs]; exact ev_now _
theorem join_snoc (ps : List Bytes) (p : Bytes) (c : UInt8) : Lib.join (ps ++ [p]) [c] = if ps = [] then p else Lib.join ps [c] ++ [c] ++ p := by
  cases ps with
  | nil => rw [if_pos rfl, List.nil_append, Lib.join_one]
  | cons q r =>
    rw [if_neg (by simp), List.cons_append, Lib.join_cons, Lib.join_cons]
    simp [Lib.joinTail, List.append_assoc]
theorem join_len (ps : List Bytes) (c : UInt8) (m : Nat) (h : ∀ p ∈ ps, p.length ≤ m) : (Lib.join ps [c]).length ≤ (m + 1) * ps.length := by
  induction ps with
  | nil => simp [Lib.join_nil]
  | cons p r ih =>
    have hp := h p (by simp)
    have := ih (fun q hq => h q (List.mem_cons_of_mem _ hq))
    cases r with
    | nil => rw [Lib.join_one]; simp; omega
    | cons q r =>
      rw [join_cons2, List.length_append, List.length_cons]
      simp only [List.length_cons, Nat.mul_add, Nat.mul_one] at this ⊢
      omega

theorem l15Cut_l0 (l : Bytes) (c : UInt8) (hl : l.length ≤ 1000000) : ∀ (d i j : Nat) (out : List ByteArray), i + d = l.length → j ≤ i → c ∉ (l.drop j).take (i - j) → out.length ≤ i →
    Ev (fun k => spec_l15Cut.l0 k (bs l) (c.toNat : Int) (j : Int) (i : Int) out) (out ++ (cutAt c (l.drop j)).map bs) := by
  intro d
  induction d with
  | zero =>
    intro i j out hi hj hf ho
    have hi' : i = l.length := by omega
    subst hi'
    rw [List.take_of_length_le (by rw [List.length_drop]; omega)] at hf
    refine Ev.step (fun k => by rw [spec_l15Cut.l0]) ?_
    rw [bs_size, bs_extract]
    refine ev_pos (by omega) (ev_pos rfl (ev_pos (by omega) (ev_pos (by omega) (ev_pos (by omega) (ev_pos (by omega) (ev_pos (by omega) ?_))))))
    rw [Int.toNat_natCast, Int.toNat_natCast, List.take_of_length_le (by rw [List.length_drop]; omega), cutAt_free c _ hf]
    refine Ev.step (fun k => by rw [spec_l15Cut.l0]) ?_
    refine ev_neg ?_ (ev_now _)
    rw [bs_size, wrap_id (by omega) (by omega)]; omega
  | succ d ih =>
    intro i j out hi hj hf ho
    have hil : i < l.length := by omega
    refine Ev.step (fun k => by rw [spec_l15Cut.l0]) ?_
    rw [bs_size, bs_extract, bt_bs l i hil, wrap_succ hil (by omega)]
    refine ev_pos (by omega) (ev_neg (by omega) (ev_pos (nn_cast i) (ev_pos (lt_cast hil) (ev_ite (fun h => ?_) (fun h => ?_)))))
    · have hb : l[i] = c := UInt8.toNat_inj.1 (by omega)
      refine ev_pos (nn_cast i) (ev_pos (by omega) (ev_pos (nn_cast j) (ev_pos (by omega) (ev_pos (by omega) ?_))))
      rw [Int.toNat_natCast, Int.toNat_natCast]
      have e : l.drop j = (l.drop j).take (i - j) ++ c :: l.drop (i + 1) := by
        conv => lhs; rw [← List.take_append_drop (i - j) (l.drop j)]
        rw [List.drop_drop, show j + (i - j) = i by omega, List.drop_eq_getElem_cons hil, hb]
      have e2 : cutAt c (l.drop j) = (l.drop j).take (i - j) :: cutAt c (l.drop (i + 1)) := by
        conv => lhs; rw [e]
        exact cutAt_app c _ _ hf
      have := ih (i + 1) (i + 1) (out ++ [bs ((l.drop j).take (i - j))]) (by omega) (Nat.le_refl _) (by simp) (by simp; omega)
      rw [List.append_assoc, List.singleton_append] at this
      rw [e2, List.map_cons]
      exact this
    · refine ih (i + 1) j out (by omega) (by omega) ?_ (by omega)
      rw [show i + 1 - j = (i - j) + 1 by omega, List.take_succ_eq_append_getElem (by rw [List.length_drop]; omega)]
      intro hm
      rcases List.mem_append.1 hm with hm | hm
      · exact hf hm
      · have e := List.mem_singleton.1 hm
        rw [List.getElem_drop] at e
        have e2 : l[i] = c := by rw [e]; congr 1; omega
        exact h (by rw [e2])
theorem l15Cut_ev (l : Bytes) (c : UInt8) (hl : l.length ≤ 1000000) : Ev (fun k => spec_l15Cut.f k (bs l) (c.toNat : Int)) ((cutAt c l).map bs) := by
  have := l15Cut_l0 l c hl l.length 0 0 [] (by omega) (by omega) (by simp) (by simp)
  rw [List.drop_zero, List.nil_append] at this
  unfold spec_l15Cut.f
  exact this
theorem Split_ev (l : Bytes) (c : UInt8) (hl : l.length ≤ 1000000) : Ev (fun k => strings_Split.f k (bs l) (bs [c])) ((cutAt c l).map bs) := by
  unfold strings_Split.f
  refine ev_pos ⟨by rw [bs_size]; omega, by rw [bs_size]; simp⟩ ?_
  rw [splitW_bs]; exact ev_now _
theorem cutAt_len (c : UInt8) : ∀ (l : Bytes), (cutAt c l).length ≤ l.length + 1
  | [] => by simp [cutAt]
  | b :: r => by
    have ih := cutAt_len c r
    rw [cutAt_snoc c []]
    split
    · simp; omega
    · simp [List.length_tail]; omega
theorem rd_bs {ps : List Bytes} {i : Nat} (h : i < ps.length) : rdOf (default : ByteArray) (ps.map bs) (i : Int) = bs ps[i] := by
  unfold rdOf
  rw [Int.toNat_natCast, List.getD_eq_getElem?_getD, List.getElem?_map, List.getElem?_eq_getElem h]; rfl

theorem of_dr {s : List Int} (hs : bytesOk s) (p : Int) (ps : List Bytes) (hp : 0 ≤ p) (hp2 : p ≤ 1000000000000) (hl : s.length ≤ 9223372036854775807) (h0 : 0 < ps.length) (m : Nat) (hm : ∀ x ∈ ps, x.length ≤ m) :
    Dr (fun k => spec_l15Rd_of.f k s p (ps.map bs)) (fun r => (∃ x : Bytes, r.1 = bs x ∧ x.length ≤ m) ∧ r.2 = p + 1) := by
  unfold spec_l15Rd_of.f
  rw [List.length_map]
  refine (pick_dr hs p ps.length hp hp2 hl).bind fun r hr => ?_
  have h1 := hr.2.1 (by omega)
  refine Dr.pos hr.1 (Dr.pos h1 ?_)
  obtain ⟨j, hj⟩ := Int.eq_ofNat_of_zero_le hr.1
  rw [hj] at h1 ⊢
  have hjl : j < ps.length := by omega
  rw [rd_bs hjl]
  exact Dr.now ⟨⟨ps[j], rfl, hm _ (List.getElem_mem hjl)⟩, hr.2.2⟩
theorem l2Box_some (a : Int) : spec_l2Box.f a = some (decide (0 ≤ a ∧ a ≤ 3)) := by
  unfold spec_l2Box.f
  by_cases h : a ≥ 0
  · rw [if_pos h]; congr 1; rw [Bool.eq_iff_iff]; simp; omega
  · rw [if_neg h]; congr 1; rw [Bool.eq_iff_iff]; simp; omega

theorem l1Num_dec (a : Int) : spec_l1Num.f a = some (decide (-1000000 ≤ a ∧ a ≤ 1000000)) := by
  unfold spec_l1Num.f
  by_cases h : a ≥ -1000000
  · rw [if_pos h]; congr 1; rw [Bool.eq_iff_iff]; simp; omega
  · rw [if_neg h]; congr 1; rw [Bool.eq_iff_iff]; simp; omega

theorem l2Reg_some (a : Int) : spec_l2Reg.f a = some (decide (0 ≤ a ∧ a ≤ 3)) := by
  unfold spec_l2Reg.f
  by_cases h : a ≥ 0
  · rw [if_pos h]; congr 1; rw [Bool.eq_iff_iff]; simp; omega
  · rw [if_neg h]; congr 1; rw [Bool.eq_iff_iff]; simp; omega
theorem l2Ins_ev (x : S60) : Ev (fun k => spec_l2Ins.f k x.f0 x.f1 x.f2 x.f3) (decide (insIn x)) := by
  obtain ⟨kd, a, b, n⟩ := x
  unfold spec_l2Ins.f
  simp only [l2Reg_some, l2Box_some, l1Num_dec, Option.bind_some, decide_eq_true_eq]
  have fin : ∀ {X : Option Bool}, X = some (decide (insIn ⟨kd, a, b, n⟩)) → Ev (fun _ => X) (decide (insIn ⟨kd, a, b, n⟩)) := fun h => ev_const h
  refine ev_ite (fun h => fin ?_) (fun h1 => ev_ite (fun h => fin ?_) (fun h2 => ev_ite (fun h => fin ?_) (fun h3 => ?_)))
  · repeat' split
    all_goals (congr 1; rw [Bool.eq_iff_iff]; simp only [decide_eq_true_eq, beq_iff_eq, Bool.false_eq_true]; simp only [insIn]; constructor <;> intro hh_ <;> first | exact hh_.elim | omega)
  · repeat' split
    all_goals (congr 1; rw [Bool.eq_iff_iff]; simp only [decide_eq_true_eq, beq_iff_eq, Bool.false_eq_true]; simp only [insIn]; constructor <;> intro hh_ <;> first | exact hh_.elim | omega)
  · repeat' split
    all_goals (congr 1; rw [Bool.eq_iff_iff]; simp only [decide_eq_true_eq, beq_iff_eq, Bool.false_eq_true]; simp only [insIn]; constructor <;> intro hh_ <;> first | exact hh_.elim | omega)
  · have key : ∀ t : Bool, (t = true ↔ kd = 4 ∨ kd = 5) → Ev (fun k => spec_l2Ins.j0 k kd t kd a b n) (decide (insIn ⟨kd, a, b, n⟩)) := by
      intro t ht
      refine Ev.step (fun k => by rw [spec_l2Ins.j0]) ?_
      simp only [l2Reg_some, l2Box_some, l1Num_dec, Option.bind_some, decide_eq_true_eq]
      refine fin ?_
      by_cases h4 : t = true
      · have := ht.1 h4
        rw [if_pos h4]
        repeat' split
        all_goals (congr 1; rw [Bool.eq_iff_iff]; simp only [decide_eq_true_eq, beq_iff_eq, Bool.false_eq_true]; simp only [insIn]; constructor <;> intro hh_ <;> first | exact hh_.elim | omega)
      · have : ¬ (kd = 4 ∨ kd = 5) := fun h => h4 (ht.2 h)
        rw [if_neg h4]
        repeat' split
        all_goals (congr 1; rw [Bool.eq_iff_iff]; simp only [decide_eq_true_eq, beq_iff_eq, Bool.false_eq_true]; simp only [insIn]; constructor <;> intro hh_ <;> first | exact hh_.elim | omega)
    refine ev_ite (fun h4 => key _ (by simp [h4])) (fun h4 => key _ (by simp [h4]))
theorem spec_ProgOk_ev (l : List S60) (hn : l.length ≤ 9223372036854775807) : ∃ v, Ev (fun k => spec_ProgOk.f k l) v ∧ (v = true ↔ progOk l) := by
  by_cases h10 : l.length ≤ 10
  · have key := ev_loop l.length (fun i k => spec_ProgOk.l0 k l (i : Int)) (fun i => decide (∀ b ∈ l.drop i, insIn b)) (fun i hi ih => by
      refine Ev.step (fun k => by rw [spec_ProgOk.l0]) ?_
      refine ev_pos (lt_cast hi) (ev_pos (nn_cast i) ?_)
      rw [rdi_Ins hi, wrap_succ hi hn]
      refine (l2Ins_ev l[i]).bind ?_
      have hs : (∀ b ∈ l.drop i, insIn b) ↔ insIn l[i] ∧ ∀ b ∈ l.drop (i + 1), insIn b := mem_split (p := insIn) hi
      simp only [hs, decide_eq_true_eq]
      by_cases h1 : insIn l[i]
      · simp only [h1, true_and]
        exact ev_pos trivial ih
      · simp only [h1, false_and, decide_false]
        exact ev_neg (fun h => h) (ev_now _)) (by
      refine Ev.step (fun k => by rw [spec_ProgOk.l0]) ?_
      refine ev_neg (by omega) ?_
      simp only [List.drop_length, List.not_mem_nil, false_implies, implies_true, decide_true]
      exact ev_now _) 0 (Nat.zero_le _)
    exact ⟨_, Ev.congr (fun k => by unfold spec_ProgOk.f; exact if_neg (by omega)) key, by simp [progOk, h10]⟩
  · refine ⟨false, ?_, by simp [progOk]; omega⟩
    unfold spec_ProgOk.f
    exact ev_pos (by omega) (ev_now _)

theorem in_dec (a b c : Int) : impl_in.f a b c = some (decide (b ≤ a ∧ a ≤ c)) := by
  unfold impl_in.f
  by_cases h : a ≥ b
  · rw [if_pos h]; congr 1; rw [Bool.eq_iff_iff]; simp; omega
  · rw [if_neg h]; congr 1; rw [Bool.eq_iff_iff]; simp; omega

theorem insOk1_dec (a : Int) : impl_insOk_1.f a = some (decide (0 ≤ a ∧ a ≤ 3)) := by
  unfold impl_insOk_1.f
  rw [in_dec]; rfl
theorem insOk2_dec (a : Int) : impl_insOk_2.f a = some (decide (0 ≤ a ∧ a ≤ 3)) := by
  unfold impl_insOk_2.f
  rw [in_dec]; rfl
theorem insOk_ev (x : S60) : Ev (fun k => impl_insOk.f k x.f0 x.f1 x.f2 x.f3) (decide (insIn x)) := by
  obtain ⟨kd, a, b, n⟩ := x
  unfold impl_insOk.f
  simp only [insOk1_dec, insOk2_dec, in_dec, Option.bind_some, decide_eq_true_eq]
  have fin : ∀ {X : Option Bool}, X = some (decide (insIn ⟨kd, a, b, n⟩)) → Ev (fun _ => X) (decide (insIn ⟨kd, a, b, n⟩)) := fun h => ev_const h
  refine ev_ite (fun h => fin ?_) (fun h1 => ev_ite (fun h => fin ?_) (fun h2 => ev_ite (fun h => fin ?_) (fun h3 => ?_)))
  · repeat' split
    all_goals (congr 1; rw [Bool.eq_iff_iff]; simp only [decide_eq_true_eq, beq_iff_eq, Bool.false_eq_true]; simp only [insIn]; constructor <;> intro hh_ <;> first | exact hh_.elim | omega)
  · repeat' split
    all_goals (congr 1; rw [Bool.eq_iff_iff]; simp only [decide_eq_true_eq, beq_iff_eq, Bool.false_eq_true]; simp only [insIn]; constructor <;> intro hh_ <;> first | exact hh_.elim | omega)
  · repeat' split
    all_goals (congr 1; rw [Bool.eq_iff_iff]; simp only [decide_eq_true_eq, beq_iff_eq, Bool.false_eq_true]; simp only [insIn]; constructor <;> intro hh_ <;> first | exact hh_.elim | omega)
  · have key : ∀ t : Bool, (t = true ↔ kd = 4 ∨ kd = 5) → Ev (fun k => impl_insOk.j0 k kd t kd a b n) (decide (insIn ⟨kd, a, b, n⟩)) := by
      intro t ht
      refine Ev.step (fun k => by rw [impl_insOk.j0]) ?_
      simp only [insOk1_dec, insOk2_dec, in_dec, Option.bind_some, decide_eq_true_eq]
      refine fin ?_
      by_cases h4 : t = true
      · have := ht.1 h4
        rw [if_pos h4]
        repeat' split
        all_goals (congr 1; rw [Bool.eq_iff_iff]; simp only [decide_eq_true_eq, beq_iff_eq, Bool.false_eq_true]; simp only [insIn]; constructor <;> intro hh_ <;> first | exact hh_.elim | omega)
      · have : ¬ (kd = 4 ∨ kd = 5) := fun h => h4 (ht.2 h)
        rw [if_neg h4]
        repeat' split
        all_goals (congr 1; rw [Bool.eq_iff_iff]; simp only [decide_eq_true_eq, beq_iff_eq, Bool.false_eq_true]; simp only [insIn]; constructor <;> intro hh_ <;> first | exact hh_.elim | omega)
    refine ev_ite (fun h4 => key _ (by simp [h4])) (fun h4 => key _ (by simp [h4]))
theorem impl_ProgOk_ev (l : List S60) (hn : l.length ≤ 9223372036854775807) : ∃ v, Ev (fun k => impl_ProgOk.f k l) v ∧ (v = true ↔ progOk l) := by
  have key := ev_loop l.length (fun i k => impl_ProgOk.l0 k l l (l.length : Int) (i : Int)) (fun i => decide ((∀ b ∈ l.drop i, insIn b) ∧ l.length ≤ 10)) (fun i hi ih => by
      refine Ev.step (fun k => by rw [impl_ProgOk.l0]) ?_
      refine ev_pos (lt_cast hi) (ev_pos (nn_cast i) (ev_pos (lt_cast hi) ?_))
      rw [rdi_Ins hi, wrap_succ hi hn]
      refine (insOk_ev l[i]).bind ?_
      have hs : (∀ b ∈ l.drop i, insIn b) ↔ insIn l[i] ∧ ∀ b ∈ l.drop (i + 1), insIn b := mem_split (p := insIn) hi
      simp only [hs, decide_eq_true_eq]
      by_cases h1 : insIn l[i]
      · simp only [h1, true_and]
        exact ev_pos trivial ih
      · simp only [h1, false_and, decide_false]
        exact ev_neg (fun h => h) (ev_now _)) (by
      refine Ev.step (fun k => by rw [impl_ProgOk.l0]) ?_
      refine ev_neg (by omega) ?_
      have : decide ((l.length : Int) ≤ 10) = decide ((∀ b ∈ l.drop l.length, insIn b) ∧ l.length ≤ 10) := by
        rw [List.drop_length, Bool.eq_iff_iff]
        simp; omega
      rw [this]
      exact ev_now _) 0 (Nat.zero_le _)
  exact ⟨_, Ev.congr (fun k => by unfold impl_ProgOk.f; exact rfl) key, by simp [progOk, and_comm]⟩

theorem sameIns_ev (x y : List S60) (hn : x.length ≤ 9223372036854775807) : ∃ v, Ev (fun k => impl_same_impl_Ins.f k x y) v ∧ (v = true ↔ x = y) := by
  classical
  by_cases hl : x.length = y.length
  · have key := ev_loop x.length (fun i k => impl_same_impl_Ins.l0 k x y (x.length : Int) (i : Int)) (fun i => decide (x.drop i = y.drop i)) (fun i hi ih => by
      refine Ev.step (fun k => by rw [impl_same_impl_Ins.l0]) ?_
      refine ev_pos (lt_cast hi) (ev_pos (nn_cast i) (ev_pos (lt_cast hi) (ev_pos (lt_cast (hl ▸ hi)) ?_)))
      rw [rdi_Ins hi, rdi_Ins (hl ▸ hi), wrap_succ hi hn]
      simp only [drop_eq hl hi]
      by_cases h1 : x[i] = y[i]'(hl ▸ hi)
      · simp only [h1, true_and]
        exact ev_neg (by simp) ih
      · simp only [h1, false_and, decide_false]
        refine ev_pos ?_ (ev_now _)
        generalize x[i] = a at h1 ⊢
        generalize y[i]'(hl ▸ hi) = b at h1 ⊢
        obtain ⟨a0_, a1_, a2_, a3_⟩ := a; obtain ⟨b0_, b1_, b2_, b3_⟩ := b
        simp only [S60.mk.injEq, not_and] at h1
        simp
        omega) (by
      refine Ev.step (fun k => by rw [impl_same_impl_Ins.l0]) ?_
      refine ev_neg (by omega) ?_
      rw [List.drop_length, hl, List.drop_length]
      simp only [decide_true]
      exact ev_now _) 0 (Nat.zero_le _)
    exact ⟨_, Ev.congr (fun k => by unfold impl_same_impl_Ins.f; exact if_pos (by omega)) key, by simp⟩
  · refine ⟨false, ?_, by simp; exact fun h => hl (by rw [h])⟩
    unfold impl_same_impl_Ins.f
    exact ev_neg (by omega) (ev_now _)

/-- Of 0 .. m - 1, those that p names. -/
def pick (p : Int → Bool) (m : Nat) : List Int := ((List.range m).map (fun i : Nat => (i : Int))).filter p
theorem pick_succ (p : Int → Bool) (m : Nat) : pick p (m + 1) = if p m = true then pick p m ++ [(m : Int)] else pick p m := by
  unfold pick
  rw [List.range_succ, List.map_append, List.filter_append]
  by_cases h : p m = true
  · simp [h]
  · simp [h]
theorem pick_len (p : Int → Bool) (m : Nat) : (pick p m).length ≤ m := by
  unfold pick
  exact Nat.le_trans (List.length_filter_le _ _) (by simp)
theorem pick_same {p q : Int → Bool} (m : Nat) (h : ∀ i : Nat, i < m → p i = q i) : pick p m = pick q m := by
  unfold pick
  refine List.filter_congr ?_
  intro x hx
  simp only [List.mem_map, List.mem_range] at hx
  obtain ⟨i, hi, rfl⟩ := hx
  exact h i hi
/-- What an instruction of kind c touches. -/
def hit (c : Int) (i : Int) (x : S60) : Bool := decide (x.f0 = c) && ((decide (c = 1) && decide (x.f2 = i)) || (decide (c = 2) && decide (x.f1 = i)))
theorem any_drop {α : Type} (l : List α) (p : α → Bool) {j : Nat} (h : j < l.length) : (l.drop j).any p = (p l[j] || (l.drop (j + 1)).any p) := by
  rw [List.drop_eq_getElem_cons h, List.any_cons]
theorem boxesOf_ev (g0 g1 g2 g3 : Bool) : Ev (fun k => impl_boxesOf.f k g0 g1 g2 g3) (pick (fun i => rdOf false [g0, g1, g2, g3] i) 4) := by
  have key := ev_loop 4 (fun i k => impl_boxesOf.l0 k (pick (fun i => rdOf false [g0, g1, g2, g3] i) i) (i : Int) g0 g1 g2 g3) (fun _ => pick (fun i => rdOf false [g0, g1, g2, g3] i) 4) (fun i hi ih => by
    have wi : wrap64 ((i : Int) + 1) = ((i + 1 : Nat) : Int) := wrap_succ hi (by omega)
    refine Ev.step (fun k => by rw [impl_boxesOf.l0]) ?_
    refine ev_pos (by omega) (ev_pos (by omega) ?_)
    rw [pick_succ] at ih
    rw [wi]
    refine ev_ite (fun h => ev_pos (by have := pick_len (fun i => rdOf false [g0, g1, g2, g3] i) i; omega) ?_) (fun h => ?_)
    · rw [if_pos h] at ih; exact ih
    · rw [if_neg h] at ih; exact ih) (by
    refine Ev.step (fun k => by rw [impl_boxesOf.l0]) ?_
    refine ev_neg (by omega) ?_
    refine ev_get (a := pick (fun i => rdOf false [g0, g1, g2, g3] i) 4) ?_ (ev_now _)
    unfold impl_copied_int.f
    exact if_pos (by have := pick_len (fun i => rdOf false [g0, g1, g2, g3] i) 4; omega)) 0 (Nat.zero_le _)
  exact key
theorem ixB_true (j i : Int) (f : Bool) : ixB j i true f = (f || decide (j = i)) := by
  unfold ixB
  by_cases h : j = i
  · rw [if_pos h]; simp [h]
  · rw [if_neg h]; simp [h]
theorem hit_ne {c : Int} (i : Int) {x : S60} (h : x.f0 ≠ c) : hit c i x = false := by simp [hit, h]

theorem impl_ProgLoads_ev (l : List S60) (hn : l.length ≤ 9223372036854775807) : Ev (fun k => impl_ProgLoads.f k l) (pick (fun i => l.any (hit 1 i)) 4) := by
  have key : ∀ d j (b0 b1 b2 b3 : Bool), j + d = l.length → (b0 || (l.drop j).any (hit 1 0)) = l.any (hit 1 0) → (b1 || (l.drop j).any (hit 1 1)) = l.any (hit 1 1) → (b2 || (l.drop j).any (hit 1 2)) = l.any (hit 1 2) → (b3 || (l.drop j).any (hit 1 3)) = l.any (hit 1 3) → Ev (fun k => impl_ProgLoads.l0 k l (l.length : Int) (j : Int) b0 b1 b2 b3) (pick (fun i => l.any (hit 1 i)) 4) := by
    intro d
    induction d with
    | zero =>
      intro j b0 b1 b2 b3 h h0 h1 h2 h3
      obtain rfl : j = l.length := by omega
      rw [List.drop_length, List.any_nil, Bool.or_false] at h0 h1 h2 h3
      subst h0 h1 h2 h3
      refine Ev.step (fun k => by rw [impl_ProgLoads.l0]) ?_
      refine ev_neg (by omega) ?_
      refine (boxesOf_ev _ _ _ _).bind ?_
      rw [pick_same (q := fun i => l.any (hit 1 i)) 4 (fun i hi => by
        rcases i with _ | _ | _ | _ | i
        · rfl
        · rfl
        · rfl
        · rfl
        · omega)]
      exact ev_now _
    | succ d ih =>
      intro j b0 b1 b2 b3 h h0 h1 h2 h3
      have hj : j < l.length := by omega
      rw [any_drop l _ hj, ← Bool.or_assoc] at h0 h1 h2 h3
      refine Ev.step (fun k => by rw [impl_ProgLoads.l0]) ?_
      refine ev_pos (lt_cast hj) (ev_pos (nn_cast j) (ev_pos (lt_cast hj) ?_))
      rw [rdi_Ins hj, wrap_succ hj hn]
      have nx : ∀ c0 c1 c2 c3, c0 = (b0 || hit 1 0 l[j]) → c1 = (b1 || hit 1 1 l[j]) → c2 = (b2 || hit 1 2 l[j]) → c3 = (b3 || hit 1 3 l[j]) → Ev (fun k => impl_ProgLoads.l0 k l (l.length : Int) ((j + 1 : Nat) : Int) c0 c1 c2 c3) (pick (fun i => l.any (hit 1 i)) 4) := by
        intro c0 c1 c2 c3 e0 e1 e2 e3
        exact ih (j + 1) c0 c1 c2 c3 (by omega) (by rw [e0]; exact h0) (by rw [e1]; exact h1) (by rw [e2]; exact h2) (by rw [e3]; exact h3)
      by_cases hk : (l[j]).f0 = 1
      · refine ev_pos hk (ev_get (in_dec _ _ _) ?_)
        have hh : ∀ i : Int, hit 1 i l[j] = decide ((l[j]).f2 = i) := by intro i; simp [hit, hk]
        by_cases hr : 0 ≤ (l[j]).f2 ∧ (l[j]).f2 ≤ 3
        · refine ev_pos (by simpa using hr) (ev_pos (by omega) (ev_pos (by omega) ?_))
          exact nx _ _ _ _ (by rw [hh, ixB_true]) (by rw [hh, ixB_true]) (by rw [hh, ixB_true]) (by rw [hh, ixB_true])
        · refine ev_neg (by simpa using hr) ?_
          refine nx _ _ _ _ ?_ ?_ ?_ ?_ <;> (rw [hh, decide_eq_false (by omega), Bool.or_false])
      · refine ev_neg hk ?_
        exact nx _ _ _ _ (by rw [hit_ne _ hk, Bool.or_false]) (by rw [hit_ne _ hk, Bool.or_false]) (by rw [hit_ne _ hk, Bool.or_false]) (by rw [hit_ne _ hk, Bool.or_false])
  exact Ev.congr (fun k => by unfold impl_ProgLoads.f; exact rfl) (key l.length 0 false false false false (by omega) (by simp) (by simp) (by simp) (by simp))

theorem impl_ProgPuts_ev (l : List S60) (hn : l.length ≤ 9223372036854775807) : Ev (fun k => impl_ProgPuts.f k l) (pick (fun i => l.any (hit 2 i)) 4) := by
  have key : ∀ d j (b0 b1 b2 b3 : Bool), j + d = l.length → (b0 || (l.drop j).any (hit 2 0)) = l.any (hit 2 0) → (b1 || (l.drop j).any (hit 2 1)) = l.any (hit 2 1) → (b2 || (l.drop j).any (hit 2 2)) = l.any (hit 2 2) → (b3 || (l.drop j).any (hit 2 3)) = l.any (hit 2 3) → Ev (fun k => impl_ProgPuts.l0 k l (l.length : Int) (j : Int) b0 b1 b2 b3) (pick (fun i => l.any (hit 2 i)) 4) := by
    intro d
    induction d with
    | zero =>
      intro j b0 b1 b2 b3 h h0 h1 h2 h3
      obtain rfl : j = l.length := by omega
      rw [List.drop_length, List.any_nil, Bool.or_false] at h0 h1 h2 h3
      subst h0 h1 h2 h3
      refine Ev.step (fun k => by rw [impl_ProgPuts.l0]) ?_
      refine ev_neg (by omega) ?_
      refine (boxesOf_ev _ _ _ _).bind ?_
      rw [pick_same (q := fun i => l.any (hit 2 i)) 4 (fun i hi => by
        rcases i with _ | _ | _ | _ | i
        · rfl
        · rfl
        · rfl
        · rfl
        · omega)]
      exact ev_now _
    | succ d ih =>
      intro j b0 b1 b2 b3 h h0 h1 h2 h3
      have hj : j < l.length := by omega
      rw [any_drop l _ hj, ← Bool.or_assoc] at h0 h1 h2 h3
      refine Ev.step (fun k => by rw [impl_ProgPuts.l0]) ?_
      refine ev_pos (lt_cast hj) (ev_pos (nn_cast j) (ev_pos (lt_cast hj) ?_))
      rw [rdi_Ins hj, wrap_succ hj hn]
      have nx : ∀ c0 c1 c2 c3, c0 = (b0 || hit 2 0 l[j]) → c1 = (b1 || hit 2 1 l[j]) → c2 = (b2 || hit 2 2 l[j]) → c3 = (b3 || hit 2 3 l[j]) → Ev (fun k => impl_ProgPuts.l0 k l (l.length : Int) ((j + 1 : Nat) : Int) c0 c1 c2 c3) (pick (fun i => l.any (hit 2 i)) 4) := by
        intro c0 c1 c2 c3 e0 e1 e2 e3
        exact ih (j + 1) c0 c1 c2 c3 (by omega) (by rw [e0]; exact h0) (by rw [e1]; exact h1) (by rw [e2]; exact h2) (by rw [e3]; exact h3)
      by_cases hk : (l[j]).f0 = 2
      · refine ev_pos hk (ev_get (in_dec _ _ _) ?_)
        have hh : ∀ i : Int, hit 2 i l[j] = decide ((l[j]).f1 = i) := by intro i; simp [hit, hk]
        by_cases hr : 0 ≤ (l[j]).f1 ∧ (l[j]).f1 ≤ 3
        · refine ev_pos (by simpa using hr) (ev_pos (by omega) (ev_pos (by omega) ?_))
          exact nx _ _ _ _ (by rw [hh, ixB_true]) (by rw [hh, ixB_true]) (by rw [hh, ixB_true]) (by rw [hh, ixB_true])
        · refine ev_neg (by simpa using hr) ?_
          refine nx _ _ _ _ ?_ ?_ ?_ ?_ <;> (rw [hh, decide_eq_false (by omega), Bool.or_false])
      · refine ev_neg hk ?_
        exact nx _ _ _ _ (by rw [hit_ne _ hk, Bool.or_false]) (by rw [hit_ne _ hk, Bool.or_false]) (by rw [hit_ne _ hk, Bool.or_false]) (by rw [hit_ne _ hk, Bool.or_false])
  exact Ev.congr (fun k => by unfold impl_ProgPuts.f; exact rfl) (key l.length 0 false false false false (by omega) (by simp) (by simp) (by simp) (by simp))



theorem l2Boxes_l1 (l : List S60) (c : Int) (acc : List Int) (i : Int) (r : List Int) (hn : l.length ≤ 9223372036854775807) (ha : acc.length < 4) (hi : 0 ≤ i) (hi4 : i < 4)
    (H : Ev (fun k => spec_l2Boxes.l0 k l c (if (l.any (hit c i)) = true then acc ++ [i] else acc) (i + 1)) r) : Ev (fun k => spec_l2Boxes.l1 k l c acc i false 0) r := by
  have wi : wrap64 (i + 1) = i + 1 := wrap_id (by omega) (by omega)
  have key : ∀ d j b, j + d = l.length → (b || (l.drop j).any (hit c i)) = l.any (hit c i) → Ev (fun k => spec_l2Boxes.l1 k l c acc i b (j : Int)) r := by
    intro d
    induction d with
    | zero =>
      intro j b h hb
      obtain rfl : j = l.length := by omega
      rw [List.drop_length, List.any_nil, Bool.or_false] at hb
      subst hb
      refine Ev.step (fun k => by rw [spec_l2Boxes.l1]) ?_
      refine ev_neg (by omega) ?_
      refine ev_ite (fun h => ev_pos (by omega) ?_) (fun h => ?_)
      · rw [if_pos h] at H; rw [wi]; exact H
      · rw [if_neg h] at H; rw [wi]; exact H
    | succ d ih =>
      intro j b h hb
      have hj : j < l.length := by omega
      have nx : ∀ b', b' = (b || hit c i l[j]) → Ev (fun k => spec_l2Boxes.l1 k l c acc i b' (wrap64 ((j : Int) + 1))) r := by
        intro b' hb'
        rw [wrap_succ hj hn]
        refine ih (j + 1) b' (by omega) ?_
        rw [hb', ← hb, any_drop l _ hj, Bool.or_assoc]
      refine Ev.step (fun k => by rw [spec_l2Boxes.l1]) ?_
      refine ev_pos (lt_cast hj) ?_
      refine ev_ite (fun hbt => nx true (by simp [hbt])) (fun hbt => ev_pos (nn_cast j) ?_)
      rw [Bool.not_eq_true] at hbt
      subst hbt
      rw [rdi_Ins hj]
      refine ev_ite (fun h0 => ev_ite (fun h1 => ev_ite (fun h2 => nx true (by simp [hit, h0, h1, h2])) (fun h2 => ev_neg (by omega) (nx false (by simp [hit, h0, h1, h2])))) (fun h1 => ev_ite (fun h2 => nx _ ?_) (fun h2 => nx false (by simp [hit, h1, h2])))) (fun h0 => nx false (by simp [hit, h0]))
      rw [Bool.eq_iff_iff]; simp [hit, h0, h2]
  exact key l.length 0 false (by omega) (by simp)
theorem l2Boxes_ev (l : List S60) (c : Int) (hn : l.length ≤ 9223372036854775807) : Ev (fun k => spec_l2Boxes.f k l c) (pick (fun i => l.any (hit c i)) 4) := by
  have key := ev_loop 4 (fun i k => spec_l2Boxes.l0 k l c (pick (fun i => l.any (hit c i)) i) (i : Int)) (fun _ => pick (fun i => l.any (hit c i)) 4) (fun i hi ih => by
    refine Ev.step (fun k => by rw [spec_l2Boxes.l0]) ?_
    refine ev_pos (by omega) ?_
    refine l2Boxes_l1 l c _ i _ hn (by have := pick_len (fun i => l.any (hit c i)) i; omega) (by omega) (by omega) ?_
    rw [pick_succ] at ih
    exact ih) (by
    refine Ev.step (fun k => by rw [spec_l2Boxes.l0]) ?_
    refine ev_neg (by omega) ?_
    exact ev_now _) 0 (Nat.zero_le _)
  exact key

theorem spec_ProgLoads_ev (l : List S60) (hn : l.length ≤ 9223372036854775807) : Ev (fun k => spec_ProgLoads.f k l) (pick (fun i => l.any (hit 1 i)) 4) := by
  unfold spec_ProgLoads.f
  exact (l2Boxes_ev l 1 hn).bind (ev_now _)

theorem spec_ProgPuts_ev (l : List S60) (hn : l.length ≤ 9223372036854775807) : Ev (fun k => spec_ProgPuts.f k l) (pick (fun i => l.any (hit 2 i)) 4) := by
  unfold spec_ProgPuts.f
  exact (l2Boxes_ev l 2 hn).bind (ev_now _)

/-- Instructions as text. -/
def spN (n : Int) : Bytes := 32 :: Lib.itoa n
def insT (k a b n : Int) : Bytes :=
  if k = 1 then [108, 111, 97, 100] ++ spN a ++ spN b else if k = 2 then [112, 117, 116] ++ spN a ++ spN b else if k = 3 then [110, 117, 109] ++ spN a ++ spN n else if k = 4 then [97, 100, 100] ++ spN a ++ spN b
  else if k = 5 then [115, 117, 98] ++ spN a ++ spN b else if k = 6 then [108, 101, 115, 115] ++ spN a ++ spN b ++ spN n else if k = 7 then [102, 97, 105, 108] else [110, 111, 110, 101]
def i64 (n : Int) : Prop := -9223372036854775808 ≤ n ∧ n ≤ 9223372036854775807
def insW (x : S60) : Prop := i64 x.f1 ∧ i64 x.f2 ∧ i64 x.f3
def insTx (x : S60) : Bytes := insT x.f0 x.f1 x.f2 x.f3
def progL (l : List S60) : Bytes := Lib.join (l.map insTx) [44]
theorem spN_len {n : Int} (h : i64 n) : (spN n).length ≤ 21 := by have := itoa64 h.1 h.2; unfold spN; simp; omega
theorem insT_len {k a b n : Int} (ha : i64 a) (hb : i64 b) (hn : i64 n) : (insT k a b n).length ≤ 67 := by
  have h1 := spN_len ha; have h2 := spN_len hb; have h3 := spN_len hn
  unfold insT
  repeat' split
  all_goals (simp; try omega)
theorem progL_len (l : List S60) (h : ∀ x ∈ l, insW x) : (progL l).length ≤ 68 * l.length := by
  have := join_len (l.map insTx) 44 67 (fun p hp => by obtain ⟨x, hx, rfl⟩ := List.mem_map.1 hp; exact insT_len (h x hx).1 (h x hx).2.1 (h x hx).2.2)
  rw [List.length_map] at this; exact this
theorem progL_snoc {l : List S60} {i : Nat} (h : i < l.length) : progL (l.take (i + 1)) = if i = 0 then insTx l[i] else progL (l.take i) ++ [44] ++ insTx l[i] := by
  unfold progL
  rw [List.take_succ_eq_append_getElem h, List.map_append, List.map_singleton, join_snoc]
  by_cases hi : i = 0
  · subst hi; simp
  · rw [if_neg hi, if_neg]
    intro e
    have := congrArg List.length e
    rw [List.length_map, List.length_take, List.length_nil] at this; omega

theorem itoa_free {n : Int} {c : UInt8} (h : c ≠ 45) (hd : isD c = false) : c ∉ Lib.itoa n := by
  intro hm
  rcases itoa_bytes n c hm with e | e
  · exact h e
  · rw [hd] at e; cases e

/-- An instruction's words. -/
def wordT (k : Int) : Bytes := if k = 1 then [108, 111, 97, 100] else if k = 2 then [112, 117, 116] else if k = 3 then [110, 117, 109] else if k = 4 then [97, 100, 100] else if k = 5 then [115, 117, 98] else if k = 6 then [108, 101, 115, 115] else if k = 7 then [102, 97, 105, 108] else [110, 111, 110, 101]
def argsT (k a b n : Int) : List Int := if k = 1 then [a, b] else if k = 2 then [a, b] else if k = 3 then [a, n] else if k = 4 then [a, b] else if k = 5 then [a, b] else if k = 6 then [a, b, n] else []
theorem insT_join (k a b n : Int) : insT k a b n = Lib.join (wordT k :: (argsT k a b n).map Lib.itoa) [32] := by
  have two : ∀ (w : Bytes) (x y : Int), w ++ spN x ++ spN y = Lib.join [w, Lib.itoa x, Lib.itoa y] [32] := by
    intro w x y; rw [join_cons2, join_cons2, Lib.join_one]; unfold spN; simp
  have three : ∀ (w : Bytes) (x y z : Int), w ++ spN x ++ spN y ++ spN z = Lib.join [w, Lib.itoa x, Lib.itoa y, Lib.itoa z] [32] := by
    intro w x y z; rw [join_cons2, join_cons2, join_cons2, Lib.join_one]; unfold spN; simp
  unfold insT wordT argsT
  by_cases h1 : k = 1
  · simp only [if_pos h1]; exact two _ _ _
  by_cases h2 : k = 2
  · simp only [if_neg h1, if_pos h2]; exact two _ _ _
  by_cases h3 : k = 3
  · simp only [if_neg h1, if_neg h2, if_pos h3]; exact two _ _ _
  by_cases h4 : k = 4
  · simp only [if_neg h1, if_neg h2, if_neg h3, if_pos h4]; exact two _ _ _
  by_cases h5 : k = 5
  · simp only [if_neg h1, if_neg h2, if_neg h3, if_neg h4, if_pos h5]; exact two _ _ _
  by_cases h6 : k = 6
  · simp only [if_neg h1, if_neg h2, if_neg h3, if_neg h4, if_neg h5, if_pos h6]; exact three _ _ _ _
  simp only [if_neg h1, if_neg h2, if_neg h3, if_neg h4, if_neg h5, if_neg h6, List.map_nil, Lib.join_one]
theorem wordT_free (k : Int) : (32 : UInt8) ∉ wordT k ∧ (44 : UInt8) ∉ wordT k := by
  unfold wordT
  repeat' split
  all_goals decide
theorem insT_cut (k a b n : Int) : cutAt 32 (insT k a b n) = wordT k :: (argsT k a b n).map Lib.itoa := by
  rw [insT_join]
  refine cutAt_join 32 _ (by simp) (fun p hp => ?_)
  rcases List.mem_cons.1 hp with rfl | hp
  · exact (wordT_free k).1
  · obtain ⟨x, _, rfl⟩ := List.mem_map.1 hp
    exact itoa_free (by decide) (by decide)
theorem insT_free (k a b n : Int) : (44 : UInt8) ∉ insT k a b n := by
  have h1 : ∀ x, (44 : UInt8) ∉ spN x := fun x => by
    unfold spN
    simp only [List.mem_cons, not_or]
    exact ⟨by decide, itoa_free (by decide) (by decide)⟩
  unfold insT
  repeat' split
  all_goals ((try simp only [List.mem_append, not_or]); first | exact ⟨⟨by decide, h1 _⟩, h1 _⟩ | exact ⟨⟨⟨by decide, h1 _⟩, h1 _⟩, h1 _⟩ | decide)
theorem wordT_inj {j k : Int} (hj : 1 ≤ j ∧ j ≤ 7) (hk : 1 ≤ k ∧ k ≤ 7) (h : wordT j = wordT k) : j = k := by
  have a : j = 1 ∨ j = 2 ∨ j = 3 ∨ j = 4 ∨ j = 5 ∨ j = 6 ∨ j = 7 := by omega
  have b : k = 1 ∨ k = 2 ∨ k = 3 ∨ k = 4 ∨ k = 5 ∨ k = 6 ∨ k = 7 := by omega
  rcases a with rfl | rfl | rfl | rfl | rfl | rfl | rfl <;> rcases b with rfl | rfl | rfl | rfl | rfl | rfl | rfl <;> first | rfl | exact absurd h (by decide)
theorem insIn_kind {x : S60} (h : insIn x) : 1 ≤ x.f0 ∧ x.f0 ≤ 7 := by unfold insIn at h; omega
theorem lmap_inj {α β : Type} {f : α → β} (hf : ∀ a b, f a = f b → a = b) : ∀ {x y : List α}, x.map f = y.map f → x = y
  | [], [], _ => rfl
  | [], _ :: _, h => by simp at h
  | _ :: _, [], h => by simp at h
  | a :: x, b :: y, h => by
    simp only [List.map_cons, List.cons.injEq] at h
    rw [hf _ _ h.1, lmap_inj hf h.2]
theorem insTx_inj {x y : S60} (hx : insIn x) (hy : insIn y) (h : insTx x = insTx y) : x = y := by
  have e := congrArg (cutAt 32) h
  unfold insTx at e
  rw [insT_cut, insT_cut] at e
  simp only [List.cons.injEq] at e
  have ek := wordT_inj (insIn_kind hx) (insIn_kind hy) e.1
  have ea := lmap_inj (fun a b => itoa_inj) e.2
  obtain ⟨a0, a1, a2, a3⟩ := x
  obtain ⟨b0, b1, b2, b3⟩ := y
  simp only at ek ea
  subst ek
  unfold insIn at hx hy
  simp only at hx hy
  unfold argsT at ea
  have c : a0 = 1 ∨ a0 = 2 ∨ a0 = 3 ∨ a0 = 4 ∨ a0 = 5 ∨ a0 = 6 ∨ a0 = 7 := by omega
  have fin : a1 = b1 ∧ a2 = b2 ∧ a3 = b3 := by
    rcases c with rfl | rfl | rfl | rfl | rfl | rfl | rfl <;> simp at ea hx hy <;> omega
  obtain ⟨rfl, rfl, rfl⟩ := fin
  rfl
theorem insTx_ne (x : S60) : insTx x ≠ [] := by
  unfold insTx insT
  repeat' split
  all_goals simp
theorem progL_nil {l : List S60} (h : progL l = []) : l = [] := by
  cases l with
  | nil => rfl
  | cons b r =>
    exfalso
    unfold progL at h
    rw [List.map_cons, Lib.join_cons] at h
    exact insTx_ne b (List.append_eq_nil_iff.1 h).1
theorem progL_cut {l : List S60} (h : l ≠ []) : cutAt 44 (progL l) = l.map insTx := by
  unfold progL
  refine cutAt_join 44 _ (by simpa using h) (fun p hp => ?_)
  obtain ⟨b, _, rfl⟩ := List.mem_map.1 hp
  exact insT_free _ _ _ _
theorem map_inj_on {α β : Type} {f : α → β} {p : α → Prop} (hf : ∀ a b, p a → p b → f a = f b → a = b) : ∀ {x y : List α}, (∀ a ∈ x, p a) → (∀ a ∈ y, p a) → x.map f = y.map f → x = y
  | [], [], _, _, _ => rfl
  | [], _ :: _, _, _, h => by simp at h
  | _ :: _, [], _, _, h => by simp at h
  | a :: x, b :: y, hx, hy, h => by
    simp only [List.map_cons, List.cons.injEq] at h
    rw [hf _ _ (hx a (by simp)) (hy b (by simp)) h.1, map_inj_on hf (fun c hc => hx c (List.mem_cons_of_mem _ hc)) (fun c hc => hy c (List.mem_cons_of_mem _ hc)) h.2]
theorem progL_inj {x y : List S60} (hx : ∀ a ∈ x, insIn a) (hy : ∀ a ∈ y, insIn a) (h : progL x = progL y) : x = y := by
  by_cases ex : x = []
  · subst ex; exact (progL_nil h.symm).symm
  by_cases ey : y = []
  · subst ey; exact progL_nil h
  have e := congrArg (cutAt 44) h
  rw [progL_cut ex, progL_cut ey] at e
  exact map_inj_on (fun a b ha hb => insTx_inj ha hb) hx hy e

theorem impl_insText_ev (k a b n : Int) (ha : i64 a) (hb : i64 b) (hn : i64 n) : Ev (fun j => impl_insText.f j k a b n) (bs (insT k a b n)) := by
  have l1 := itoa64 ha.1 ha.2
  have l2 := itoa64 hb.1 hb.2
  have l3 := itoa64 hn.1 hn.2
  unfold impl_insText.f
  refine (Itoa_ev a ha.1 ha.2).bind (ev_pos (by rw [bs_size]; omega) ((Itoa_ev b hb.1 hb.2).bind (ev_pos (by rw [bs_size]; omega) ((Itoa_ev n hn.1 hn.2).bind (ev_pos (by rw [bs_size]; omega) ?_)))))
  simp only [bs_app, bs_size]
  unfold insT spN
  refine ev_ite (fun h => ?_) (fun h => ?_)
  · rw [if_pos h]; exact ev_pos (by simp; omega) (ev_pos (by simp; omega) (ev_now _))
  rw [if_neg h]
  refine ev_ite (fun h => ?_) (fun h => ?_)
  · rw [if_pos h]; exact ev_pos (by simp; omega) (ev_pos (by simp; omega) (ev_now _))
  rw [if_neg h]
  refine ev_ite (fun h => ?_) (fun h => ?_)
  · rw [if_pos h]; exact ev_pos (by simp; omega) (ev_pos (by simp; omega) (ev_now _))
  rw [if_neg h]
  refine ev_ite (fun h => ?_) (fun h => ?_)
  · rw [if_pos h]; exact ev_pos (by simp; omega) (ev_pos (by simp; omega) (ev_now _))
  rw [if_neg h]
  refine ev_ite (fun h => ?_) (fun h => ?_)
  · rw [if_pos h]; exact ev_pos (by simp; omega) (ev_pos (by simp; omega) (ev_now _))
  rw [if_neg h]
  refine ev_ite (fun h => ?_) (fun h => ?_)
  · rw [if_pos h]; exact ev_pos (by simp; omega) (ev_pos (by simp; omega) (ev_pos (by simp; omega) (ev_now _)))
  rw [if_neg h]
  refine ev_ite (fun h => ?_) (fun h => ?_)
  · rw [if_pos h]; exact ev_now _
  rw [if_neg h]; exact ev_now _

theorem impl_ProgText_ev (l : List S60) (hn : l.length ≤ 1048576) (hw : ∀ x ∈ l, insW x) : Ev (fun k => impl_ProgText.f k l) (bs (progL l)) := by
  have key := ev_loop l.length (fun i k => impl_ProgText.l0 k l (l.length : Int) (i : Int) ((l.take i).map (fun b => bs (insTx b)))) (fun _ => bs (progL l)) (fun i hi ih => by
    refine Ev.step (fun k => by rw [impl_ProgText.l0]) ?_
    have hb := hw _ (List.getElem_mem hi)
    refine ev_pos (lt_cast hi) (ev_pos (nn_cast i) (ev_pos (lt_cast hi) ?_))
    rw [rdi_Ins hi, wrap_succ hi (by omega)]
    refine (impl_insText_ev _ _ _ _ hb.1 hb.2.1 hb.2.2).bind (ev_pos (by simp; omega) ?_)
    have e : (l.take i).map (fun b => bs (insTx b)) ++ [bs (insT (l[i]).f0 (l[i]).f1 (l[i]).f2 (l[i]).f3)] = (l.take (i + 1)).map (fun b => bs (insTx b)) := by
      rw [List.take_succ_eq_append_getElem hi, List.map_append]; rfl
    rw [e]; exact ih) (by
    refine Ev.step (fun k => by rw [impl_ProgText.l0]) (ev_neg (by omega) ?_)
    rw [List.take_length, show (l.map fun b => bs (insTx b)) = (l.map insTx).map bs by rw [List.map_map]; rfl]
    have hl := progL_len l hw
    exact (Join_ev (l.map insTx) 44 (by simp; omega) (by show (progL l).length ≤ _; omega)).bind (ev_now _)) 0 (Nat.zero_le _)
  unfold impl_ProgText.f
  exact key

def wordsL : List ByteArray := [bs [], bs [108, 111, 97, 100], bs [112, 117, 116], bs [110, 117, 109], bs [97, 100, 100], bs [115, 117, 98], bs [108, 101, 115, 115], bs [102, 97, 105, 108]]
theorem words_ev : Ev (fun k => spec_l2Words.f k) wordsL := ev_now _

theorem l2two (j : Int) (w : Bytes) (e : rdOf (default : ByteArray) wordsL j = bs w) (j0 : 0 ≤ j) (j1 : j < 8) (hw : w.length ≤ 10) (a b : Int) (ha : i64 a) (hb : i64 b) :
    Ev (fun k => (spec_l2Words.f k).bind fun t0 => (if ((0 : Int) ≤ j) then (if (j < ((t0.length : Nat) : Int)) then (if ((((rdOf (default : ByteArray) t0 j)).size + 1) ≤ 9223372036854775807) then ((spec_l15Dec.f k a).bind fun t1 => (if (((((rdOf (default : ByteArray) t0 j) ++ (bs [32]))).size + t1.size) ≤ 9223372036854775807) then (if ((((((rdOf (default : ByteArray) t0 j) ++ (bs [32])) ++ t1)).size + 1) ≤ 9223372036854775807) then ((spec_l15Dec.f k b).bind fun t2 => (if (((((((rdOf (default : ByteArray) t0 j) ++ (bs [32])) ++ t1) ++ (bs [32]))).size + t2.size) ≤ 9223372036854775807) then (some ((((((rdOf (default : ByteArray) t0 j) ++ (bs [32])) ++ t1) ++ (bs [32])) ++ t2))) else (none))) else (none)) else (none))) else (none)) else (none)) else (none))) (bs (w ++ spN a ++ spN b)) := by
  have l1 := itoa64 ha.1 ha.2
  have l2 := itoa64 hb.1 hb.2
  refine words_ev.bind (ev_pos j0 (ev_pos (by simpa [wordsL] using j1) ?_))
  rw [e]
  refine ev_pos (by rw [bs_size]; omega) ((l15Dec_ev a ha.1 ha.2).bind ?_)
  simp only [bs_app, bs_size]
  refine ev_pos (by simp; omega) (ev_pos (by simp; omega) ((l15Dec_ev b hb.1 hb.2).bind ?_))
  simp only [bs_app, bs_size]
  refine ev_pos (by simp; omega) ?_
  have : w ++ [32] ++ Lib.itoa a ++ [32] ++ Lib.itoa b = w ++ spN a ++ spN b := by unfold spN; simp
  rw [this]; exact ev_now _
theorem l2Text_ev (k a b n : Int) (ha : i64 a) (hb : i64 b) (hn : i64 n) : Ev (fun j => spec_l2Text.f j k a b n) (bs (insT k a b n)) := by
  have l1 := itoa64 ha.1 ha.2
  have l2 := itoa64 hb.1 hb.2
  have l3 := itoa64 hn.1 hn.2
  unfold spec_l2Text.f
  by_cases h1 : k = 1
  · subst h1; exact ev_pos rfl (ev_pos rfl (l2two 1 [108, 111, 97, 100] rfl (by omega) (by omega) (by simp) a b ha hb))
  refine ev_neg h1 ?_
  by_cases h2 : k = 2
  · subst h2; exact ev_pos rfl (ev_pos rfl (l2two 2 [112, 117, 116] rfl (by omega) (by omega) (by simp) a b ha hb))
  refine ev_neg h2 ?_
  by_cases h4 : k = 4
  · subst h4; exact ev_pos rfl (ev_pos rfl (l2two 4 [97, 100, 100] rfl (by omega) (by omega) (by simp) a b ha hb))
  refine ev_neg h4 ?_
  by_cases h5 : k = 5
  · subst h5
    first
      | exact ev_pos rfl (ev_pos rfl (l2two 5 [115, 117, 98] rfl (by omega) (by omega) (by simp) a b ha hb))
      | exact ev_pos rfl (l2two 5 [115, 117, 98] rfl (by omega) (by omega) (by simp) a b ha hb)
  first
    | refine ev_neg h5 ?_
    | skip
  by_cases h3 : k = 3
  · subst h3
    refine ev_pos rfl ((l15Dec_ev a ha.1 ha.2).bind ?_)
    simp only [bs_app, bs_size]
    refine ev_pos (by omega) (ev_pos (by simp; omega) ((l15Dec_ev n hn.1 hn.2).bind ?_))
    simp only [bs_app, bs_size]
    refine ev_pos (by simp; omega) ?_
    have : [110, 117, 109, 32] ++ Lib.itoa a ++ [32] ++ Lib.itoa n = insT 3 a b n := by unfold insT spN; simp
    rw [this]; exact ev_now _
  refine ev_neg h3 ?_
  by_cases h6 : k = 6
  · subst h6
    refine ev_pos rfl ((l15Dec_ev a ha.1 ha.2).bind ?_)
    simp only [bs_app, bs_size]
    refine ev_pos (by omega) (ev_pos (by simp; omega) ((l15Dec_ev b hb.1 hb.2).bind ?_))
    simp only [bs_app, bs_size]
    refine ev_pos (by simp; omega) (ev_pos (by simp; omega) ((l15Dec_ev n hn.1 hn.2).bind ?_))
    simp only [bs_app, bs_size]
    refine ev_pos (by simp; omega) ?_
    have : [108, 101, 115, 115, 32] ++ Lib.itoa a ++ [32] ++ Lib.itoa b ++ [32] ++ Lib.itoa n = insT 6 a b n := by unfold insT spN; simp
    rw [this]; exact ev_now _
  refine ev_neg h6 ?_
  by_cases h7 : k = 7
  · subst h7; exact ev_pos rfl (ev_now _)
  refine ev_neg h7 ?_
  have : insT k a b n = [110, 111, 110, 101] := by unfold insT; simp [h1, h2, h3, h4, h5, h6, h7]
  rw [this]; exact ev_now _
theorem spec_ProgText_ev (l : List S60) (hn : l.length ≤ 1048576) (hw : ∀ x ∈ l, insW x) : Ev (fun k => spec_ProgText.f k l) (bs (progL l)) := by
  have key := ev_loop l.length (fun i k => spec_ProgText.l0 k l (bs (progL (l.take i))) (i : Int)) (fun _ => bs (progL l)) (fun i hi ih => by
    refine Ev.step (fun k => by rw [spec_ProgText.l0]) ?_
    have hb := hw _ (List.getElem_mem hi)
    have hb1 := insT_len (k := (l[i]).f0) hb.1 hb.2.1 hb.2.2
    have hl := progL_len (l.take i) (fun b h => hw b (List.mem_of_mem_take h))
    rw [List.length_take] at hl
    have hs := progL_snoc hi
    refine ev_pos (lt_cast hi) ?_
    rw [rdi_Ins hi, wrap_succ hi (by omega)]
    by_cases h0 : i = 0
    · rw [if_pos h0] at hs
      refine ev_neg (by omega) (ev_pos (nn_cast i) (ev_pos (lt_cast hi) ?_))
      have e0 : progL (l.take i) = [] := by subst h0; rfl
      rw [e0]
      refine (l2Text_ev _ _ _ _ hb.1 hb.2.1 hb.2.2).bind ?_
      rw [bs_app, List.nil_append]
      refine ev_pos (by rw [bs_size, bs_size]; simp; omega) ?_
      rw [hs] at ih; exact ih
    · rw [if_neg h0] at hs
      refine ev_pos (by omega) (ev_pos (by rw [bs_size]; omega) (ev_pos (nn_cast i) (ev_pos (lt_cast hi) ?_)))
      refine (l2Text_ev _ _ _ _ hb.1 hb.2.1 hb.2.2).bind ?_
      rw [bs_app, bs_app]
      refine ev_pos (by rw [bs_size, bs_size]; simp; omega) ?_
      rw [hs] at ih; exact ih) (by
    refine Ev.step (fun k => by rw [spec_ProgText.l0]) (ev_neg (by omega) ?_)
    rw [List.take_length]; exact ev_now _) 0 (Nat.zero_le _)
  unfold spec_ProgText.f
  exact key

/-- What a reader of a number answers. -/
def numR : Option Int → Int × Bool
  | some n => (n, true)
  | none => (0, false)
theorem byte_ne {b c : UInt8} (h : b ≠ c) : ¬ ((b.toNat : Int) = (c.toNat : Int)) := fun e => h (UInt8.toNat_inj.1 (by omega))
theorem valD_0 (ds : Bytes) : valD (ds.take 0) < 10 ^ 0 := by simp [valD]
theorem wrapU8 (n : Int) : IntKind.u8.wrap n = n % 256 := by simp [IntKind.wrap, IntKind.bits, IntKind.signed]
theorem bt0 {b : UInt8} {r : Bytes} : btA (bs (b :: r)) (0 : Int) = (b.toNat : Int) := bt_bs (b :: r) 0 (by simp)
theorem dig_step {v : Nat} {b : UInt8} (hb : isD b = true) (hv : v < 100000000000000000) : wrap64 ((wrap64 ((v : Int) * 10)) + (wrap64 (IntKind.wrap .u8 ((b.toNat : Int) - 48)))) = ((v * 10 + (b.toNat - 48) : Nat) : Int) := by
  unfold isD at hb; simp at hb
  rw [wrapU8]
  have e1 : ((b.toNat : Int) - 48) % 256 = (b.toNat : Int) - 48 := by omega
  rw [e1, wrap_id (a := (v : Int) * 10) (by omega) (by omega), wrap_id (a := (b.toNat : Int) - 48) (by omega) (by omega), wrap_id (by omega) (by omega)]
  omega
theorem valD_take {l : Bytes} {j : Nat} (h : j < l.length) : valD (l.take (j + 1)) = valD (l.take j) * 10 + (l[j].toNat - 48) := by
  rw [List.take_succ_eq_append_getElem h, valD_snoc]
/-- A number's sign and digits, read: what is left to test is that all are digits. -/
def loopR (neg : Bool) (ds : Bytes) : Int × Bool := if ds.all isD then (if neg then -(valD ds : Int) else (valD ds : Int), true) else (0, false)
theorem numR_neg {D : Nat} {r : Bytes} (h0 : r ≠ []) (hD : r.length ≤ D) (h48 : r.head? ≠ some 48) : numR (numL D (45 :: r)) = loopR true r := by
  unfold numL loopR
  rw [if_pos (by rfl)]
  simp only [List.drop_succ_cons, List.drop_zero]
  by_cases ha : r.all isD = true
  · rw [if_pos ⟨(goodB r).2 ⟨h0, List.all_eq_true.1 ha, fun e => absurd e h48⟩, hD, h48⟩, if_pos ha]; rfl
  · rw [if_neg (fun h => ha (List.all_eq_true.2 ((goodB r).1 h.1).2.1)), if_neg ha]; rfl
theorem numR_pos {D : Nat} {l : Bytes} (hh : l.head? ≠ some 45) (h0 : l ≠ []) (hD : l.length ≤ D) (h48 : l.head? = some 48 → l.length = 1) : numR (numL D l) = loopR false l := by
  unfold numL loopR
  rw [if_neg hh]
  by_cases ha : l.all isD = true
  · rw [if_pos ⟨(goodB l).2 ⟨h0, List.all_eq_true.1 ha, h48⟩, hD⟩, if_pos ha]; rfl
  · rw [if_neg (fun h => ha (List.all_eq_true.2 ((goodB l).1 h.1).2.1)), if_neg ha]; rfl
theorem numL_negbad {D : Nat} {r : Bytes} (h : r = [] ∨ D < r.length ∨ r.head? = some 48) : numL D (45 :: r) = none := by
  unfold numL
  rw [if_pos (by rfl)]
  simp only [List.drop_succ_cons, List.drop_zero]
  refine if_neg (fun hc => ?_)
  have hg := (goodB r).1 hc.1
  rcases h with h | h | h
  · exact hg.1 h
  · have := hc.2.1; omega
  · exact hc.2.2 h
theorem numL_posbad {D : Nat} {l : Bytes} (hh : l.head? ≠ some 45) (h : l = [] ∨ D < l.length ∨ (l.head? = some 48 ∧ l.length ≠ 1)) : numL D l = none := by
  unfold numL
  rw [if_neg hh]
  refine if_neg (fun hc => ?_)
  have hg := (goodB l).1 hc.1
  rcases h with h | h | ⟨h, h2⟩
  · exact hg.1 h
  · have := hc.2; omega
  · exact h2 (hg.2.2 h)

/-- An instruction as it is written: what is not written is nought. -/
def shapeI (x : S60) : Prop := ((x.f0 = 1 ∨ x.f0 = 2 ∨ x.f0 = 4 ∨ x.f0 = 5) ∧ x.f3 = 0) ∨ (x.f0 = 3 ∧ x.f2 = 0) ∨ x.f0 = 6 ∨ (x.f0 = 7 ∧ x.f1 = 0 ∧ x.f2 = 0 ∧ x.f3 = 0)
def digI (D : Nat) (x : S60) : Prop := (Lib.decDigits x.f1.natAbs).length ≤ D ∧ (Lib.decDigits x.f2.natAbs).length ≤ D ∧ (Lib.decDigits x.f3.natAbs).length ≤ D
theorem insIn_shape {x : S60} (h : insIn x) : shapeI x := by unfold insIn at h; unfold shapeI; omega
theorem insIn_dig {x : S60} (h : insIn x) (D : Nat) (hD : 7 ≤ D) : digI D x := by
  unfold insIn at h
  have h1 := dec_len 6 x.f1.natAbs (by omega)
  have h2 := dec_len 6 x.f2.natAbs (by omega)
  have h3 := dec_len 6 x.f3.natAbs (by omega)
  exact ⟨by omega, by omega, by omega⟩
theorem shape_kind {x : S60} (h : shapeI x) : 1 ≤ x.f0 ∧ x.f0 ≤ 7 := by unfold shapeI at h; omega
/-- The kind that a word says. -/
def kindW (w : Bytes) : Int := if w = wordT 1 then 1 else if w = wordT 2 then 2 else if w = wordT 3 then 3 else if w = wordT 4 then 4 else if w = wordT 5 then 5 else if w = wordT 6 then 6 else if w = wordT 7 then 7 else 0
theorem kindW_le (w : Bytes) : 0 ≤ kindW w ∧ kindW w ≤ 7 := by
  unfold kindW
  repeat' split
  all_goals omega
theorem kindW_word (w : Bytes) (h : kindW w ≠ 0) : w = wordT (kindW w) := by
  unfold kindW at h ⊢
  repeat' split
  all_goals first | assumption | (exfalso; revert h; simp_all)
theorem kindW_of {k : Int} (hk : 1 ≤ k ∧ k ≤ 7) : kindW (wordT k) = k := by
  have b : k = 1 ∨ k = 2 ∨ k = 3 ∨ k = 4 ∨ k = 5 ∨ k = 6 ∨ k = 7 := by omega
  rcases b with rfl | rfl | rfl | rfl | rfl | rfl | rfl <;> decide
/-- Numbers read, one behind the other. -/
def numsL (D : Nat) : List Bytes → Option (List Int)
  | [] => some []
  | p :: ps => match numL D p with
    | none => none
    | some n => (numsL D ps).map (n :: ·)
theorem numsL_iff (D : Nat) : ∀ (ps : List Bytes) (r : List Int), numsL D ps = some r ↔ ps = r.map Lib.itoa ∧ ∀ n ∈ r, (Lib.decDigits n.natAbs).length ≤ D
  | [], r => by
    unfold numsL
    constructor
    · intro h; cases h; exact ⟨rfl, by simp⟩
    · rintro ⟨h, _⟩
      cases r with
      | nil => rfl
      | cons b r => simp at h
  | p :: ps, r => by
    unfold numsL
    constructor
    · intro h
      split at h
      · cases h
      · rename_i b hb
        obtain ⟨q, hq, rfl⟩ := Option.map_eq_some_iff.1 h
        have h1 := (numL_iff D p b).1 hb
        have h2 := (numsL_iff D ps q).1 hq
        refine ⟨by rw [List.map_cons, ← h1.1, ← h2.1], fun c hc => ?_⟩
        rcases List.mem_cons.1 hc with rfl | hc
        · exact h1.2
        · exact h2.2 c hc
    · rintro ⟨h, hs⟩
      cases r with
      | nil => simp at h
      | cons b r =>
        simp only [List.map_cons, List.cons.injEq] at h
        rw [(numL_iff D p b).2 ⟨h.1, hs b (by simp)⟩]
        simp only
        rw [(numsL_iff D ps r).2 ⟨h.2, fun c hc => hs c (List.mem_cons_of_mem _ hc)⟩]; rfl
/-- An instruction out of its kind and numbers. -/
def mkI (k : Int) (n : List Int) : Option S60 :=
  if (k = 1 ∨ k = 2 ∨ k = 4 ∨ k = 5) ∧ n.length = 2 then some ⟨k, n.getD 0 0, n.getD 1 0, 0⟩
  else if k = 3 ∧ n.length = 2 then some ⟨k, n.getD 0 0, 0, n.getD 1 0⟩
  else if k = 6 ∧ n.length = 3 then some ⟨k, n.getD 0 0, n.getD 1 0, n.getD 2 0⟩
  else if k = 7 ∧ n.length = 0 then some ⟨7, 0, 0, 0⟩ else none
def rdI (D : Nat) (p : Bytes) : Option S60 := match cutAt 32 p with
  | [] => none
  | w :: r => match numsL D r with
    | none => none
    | some n => mkI (kindW w) n
theorem mkI_shape {k : Int} {n : List Int} {x : S60} (h : mkI k n = some x) : shapeI x ∧ x.f0 = k ∧ argsT x.f0 x.f1 x.f2 x.f3 = n := by
  unfold mkI at h
  split at h
  · rename_i c
    obtain ⟨c, hn⟩ := c
    cases h
    refine ⟨.inl ⟨c, rfl⟩, rfl, ?_⟩
    match n, hn with
    | [a, b], _ =>
      unfold argsT
      rcases c with rfl | rfl | rfl | rfl <;> rfl
  · split at h
    · rename_i c
      obtain ⟨rfl, hn⟩ := c
      cases h
      refine ⟨.inr (.inl ⟨rfl, rfl⟩), rfl, ?_⟩
      match n, hn with
      | [a, b], _ => rfl
    · split at h
      · rename_i c
        obtain ⟨rfl, hn⟩ := c
        cases h
        refine ⟨.inr (.inr (.inl rfl)), rfl, ?_⟩
        match n, hn with
        | [a, b, d], _ => rfl
      · split at h
        · rename_i c
          obtain ⟨rfl, hn⟩ := c
          cases h
          refine ⟨.inr (.inr (.inr ⟨rfl, rfl, rfl, rfl⟩)), rfl, ?_⟩
          rw [List.eq_nil_of_length_eq_zero hn]; rfl
        · cases h
theorem mkI_of {x : S60} (h : shapeI x) : mkI x.f0 (argsT x.f0 x.f1 x.f2 x.f3) = some x := by
  obtain ⟨a0, a1, a2, a3⟩ := x
  unfold shapeI at h
  simp only at h ⊢
  rcases h with ⟨c, rfl⟩ | ⟨rfl, rfl⟩ | rfl | ⟨rfl, rfl, rfl, rfl⟩
  · rcases c with rfl | rfl | rfl | rfl <;> rfl
  all_goals rfl
theorem args_dig {D : Nat} {x : S60} (h : digI D x) : ∀ n ∈ argsT x.f0 x.f1 x.f2 x.f3, (Lib.decDigits n.natAbs).length ≤ D := by
  unfold argsT
  repeat' split
  all_goals simp only [List.mem_cons, List.not_mem_nil, or_false, forall_eq_or_imp, forall_eq, false_implies, implies_true]
  all_goals first | exact ⟨h.1, h.2.1, h.2.2⟩ | exact ⟨h.1, h.2.1⟩ | exact ⟨h.1, h.2.2⟩ | trivial
/-- What is read out of a text is what was written. -/
theorem rdI_text {D : Nat} {p : Bytes} {x : S60} (h : rdI D p = some x) : shapeI x ∧ p = insTx x := by
  unfold rdI at h
  split at h
  · cases h
  · rename_i w r e
    split at h
    · cases h
    · rename_i n hn
      obtain ⟨hs, hk, ha⟩ := mkI_shape h
      have hw : w = wordT (kindW w) := kindW_word w (by rw [← hk]; have := shape_kind hs; omega)
      refine ⟨hs, ?_⟩
      unfold insTx
      rw [insT_join, ha, ← ((numsL_iff D r n).1 hn).1, hk, ← hw, ← e, join_cutAt]
theorem rdI_of {D : Nat} {x : S60} (h : shapeI x) (hd : digI D x) : rdI D (insTx x) = some x := by
  unfold rdI insTx
  rw [insT_cut]
  simp only
  rw [(numsL_iff D _ (argsT x.f0 x.f1 x.f2 x.f3)).2 ⟨rfl, args_dig hd⟩]
  simp only
  rw [kindW_of (shape_kind h)]
  exact mkI_of h

/-- Readers of instructions that may be taken for one another. -/
def goodR (f : Bytes → Option S60) : Prop := (∀ p x, f p = some x → p = insTx x) ∧ ∀ x, insIn x → f (insTx x) = some x
def rdPs (f : Bytes → Option S60) : List Bytes → Option (List S60)
  | [] => some []
  | p :: ps => match f p with
    | none => none
    | some x => (rdPs f ps).map (x :: ·)
theorem rdPs_text {f : Bytes → Option S60} (hf : goodR f) : ∀ (ps : List Bytes) (r : List S60), rdPs f ps = some r → ps = r.map insTx
  | [], r, h => by unfold rdPs at h; cases h; rfl
  | p :: ps, r, h => by
    unfold rdPs at h
    split at h
    · cases h
    · rename_i x hx
      obtain ⟨q, hq, rfl⟩ := Option.map_eq_some_iff.1 h
      rw [List.map_cons, ← hf.1 p x hx, ← rdPs_text hf ps q hq]
theorem rdPs_of {f : Bytes → Option S60} (hf : goodR f) : ∀ (r : List S60), (∀ x ∈ r, insIn x) → rdPs f (r.map insTx) = some r
  | [], _ => rfl
  | x :: r, h => by
    rw [List.map_cons]
    unfold rdPs
    rw [hf.2 x (h x (by simp))]
    simp only
    rw [rdPs_of hf r (fun y hy => h y (List.mem_cons_of_mem _ hy))]; rfl
open Classical in
noncomputable def rdP (t : Bytes) : List S60 × Bool := if h : ∃ l, progOk l ∧ t = progL l then (Classical.choose h, true) else ([], false)
theorem rdP_some {t : Bytes} {l : List S60} (h : progOk l) (e : t = progL l) : rdP t = (l, true) := by
  have hx : ∃ l, progOk l ∧ t = progL l := ⟨l, h, e⟩
  unfold rdP
  rw [dif_pos hx]
  have := Classical.choose_spec hx
  rw [progL_inj this.1.2 h.2 (this.2.symm.trans e)]
theorem rdP_none {t : Bytes} (h : ¬ ∃ l, progOk l ∧ t = progL l) : rdP t = ([], false) := by unfold rdP; exact dif_neg h
theorem rdP_nil : rdP [] = ([], true) := rdP_some (l := []) ⟨by simp, by simp⟩ rfl
open Classical in
noncomputable def okP (l : List S60) : List S60 × Bool := if progOk l then (l, true) else ([], false)
theorem okP_pos {l : List S60} (h : progOk l) : okP l = (l, true) := by unfold okP; exact if_pos h
theorem okP_neg {l : List S60} (h : ¬ progOk l) : okP l = ([], false) := by unfold okP; exact if_neg h
noncomputable def endP (o : Option (List S60)) (pre : List S60) : List S60 × Bool := match o with
  | none => ([], false)
  | some r => okP (pre ++ r)
theorem endP_all {f : Bytes → Option S60} (hf : goodR f) (t : Bytes) (ht : t ≠ []) : endP (rdPs f (cutAt 44 t)) [] = rdP t := by
  by_cases h : ∃ l, progOk l ∧ t = progL l
  · obtain ⟨l, ok, rfl⟩ := h
    have hne : l ≠ [] := fun e => ht (by rw [e]; rfl)
    rw [rdP_some ok rfl, progL_cut hne, rdPs_of hf l ok.2]
    unfold endP
    simp only [List.nil_append]
    rw [okP_pos ok]
  · rw [rdP_none h]
    unfold endP
    split
    · rfl
    · rename_i r hr
      rw [List.nil_append, okP_neg (fun ok => h ⟨r, ok, ?_⟩)]
      unfold progL
      rw [← rdPs_text hf _ r hr, join_cutAt]
theorem endP_step {f : Bytes → Option S60} {p : Bytes} {ps : List Bytes} {x : S60} (h : f p = some x) (out : List S60) : endP (rdPs f (p :: ps)) out = endP (rdPs f ps) (out ++ [x]) := by
  conv => lhs; unfold rdPs
  rw [h]
  simp only
  cases rdPs f ps with
  | none => rfl
  | some r => unfold endP; simp only [Option.map_some, List.append_assoc, List.singleton_append]
theorem endP_stop {f : Bytes → Option S60} {p : Bytes} {ps : List Bytes} (h : f p = none) (out : List S60) : endP (rdPs f (p :: ps)) out = ([], false) := by
  unfold rdPs; rw [h]; rfl
theorem plong_none {t : Bytes} (h : 400 < t.length) : rdP t = ([], false) := by
  refine rdP_none ?_
  rintro ⟨l, ok, rfl⟩
  have hb : ∀ x ∈ l, (insTx x).length ≤ 31 := fun x hx => by
    have hi := ok.2 x hx
    unfold insIn at hi
    have e1 : (spN x.f1).length ≤ 9 := by have := itoa_len (n := x.f1) 6 (by omega); unfold spN; simp; omega
    have e2 : (spN x.f2).length ≤ 9 := by have := itoa_len (n := x.f2) 6 (by omega); unfold spN; simp; omega
    have e3 : (spN x.f3).length ≤ 9 := by have := itoa_len (n := x.f3) 6 (by omega); unfold spN; simp; omega
    unfold insTx insT
    repeat' split
    all_goals (simp; try omega)
  have := join_len (l.map insTx) 44 31 (fun p hp => by obtain ⟨x, hx, rfl⟩ := List.mem_map.1 hp; exact hb x hx)
  rw [List.length_map] at this
  have h10 := ok.1
  unfold progL at h; omega

theorem l15Num_l0 (ds : Bytes) (neg : Bool) (hl : ds.length ≤ 17) : ∀ (d j : Nat), j + d = ds.length → valD (ds.take j) < 10 ^ j → (ds.take j).all isD = true →
    Ev (fun k => spec_l15Num.l0 k (bs ds) neg (valD (ds.take j) : Int) (j : Int)) (loopR neg ds) := by
  intro d
  induction d with
  | zero =>
    intro j hj hv ha
    rw [List.take_of_length_le (by omega)] at hv ha
    have hp : (10 : Nat) ^ j ≤ 10 ^ 17 := Nat.pow_le_pow_right (by omega) (by omega)
    refine Ev.step (fun k => by rw [spec_l15Num.l0]) (ev_neg (by rw [bs_size]; omega) ?_)
    rw [List.take_of_length_le (by omega)]
    unfold loopR
    rw [if_pos ha, wrap_id (by omega) (by omega)]
    refine ev_ite (fun h => ?_) (fun h => ?_)
    · rw [if_pos h, Int.zero_sub]; exact ev_now _
    · rw [if_neg h]; exact ev_now _
  | succ d ih =>
    intro j hj hv ha
    have hi : j < ds.length := by omega
    have hp : (10 : Nat) ^ j ≤ 10 ^ 16 := Nat.pow_le_pow_right (by omega) (by omega)
    have bad : isD ds[j] = false → loopR neg ds = (0, false) := fun h => by
      unfold loopR
      rw [if_neg]
      intro hc
      rw [List.all_eq_true.1 hc _ (List.getElem_mem hi)] at h; cases h
    refine Ev.step (fun k => by rw [spec_l15Num.l0]) ?_
    rw [bs_size, bt_bs ds j hi, wrap_succ hi (by omega)]
    refine ev_pos (lt_cast hi) (ev_pos (nn_cast j) (ev_pos (lt_cast hi) (ev_ite (fun h1 => ?_) (fun h1 => ev_pos (nn_cast j) (ev_pos (lt_cast hi) (ev_ite (fun h2 => ?_) (fun h2 => ?_)))))))
    · rw [bad (by unfold isD; simp; omega)]; exact ev_now _
    · rw [bad (by unfold isD; simp; omega)]; exact ev_now _
    · have hd : isD ds[j] = true := by unfold isD; simp; omega
      refine ev_pos (nn_cast j) (ev_pos (lt_cast hi) ?_)
      have e := valD_take hi
      rw [dig_step hd (by omega), ← e]
      refine ih (j + 1) (by omega) ?_ ?_
      · have := isD_val hd
        rw [e, Nat.pow_succ]; omega
      · rw [List.take_succ_eq_append_getElem hi, List.all_append, ha]; simpa using hd
theorem l15Num_ev (l : Bytes) : Ev (fun k => spec_l15Num.f k (bs l)) (numR (numL 17 l)) := by
  have loop : ∀ (ds : Bytes) (neg : Bool), ds.length ≤ 17 → Ev (fun k => spec_l15Num.l0 k (bs ds) neg 0 0) (loopR neg ds) := fun ds neg h => l15Num_l0 ds neg h ds.length 0 (by omega) (valD_0 _) rfl
  unfold spec_l15Num.f
  cases l with
  | nil => exact ev_neg (by decide) (ev_pos (by decide) (by rw [show numL 17 [] = none by decide]; exact ev_now _))
  | cons b r =>
    have hs : (bs (b :: r)).size = r.length + 1 := by rw [bs_size]; rfl
    refine ev_pos (by rw [hs]; omega) (ev_pos (by rw [hs]; omega) ?_)
    rw [bt0]
    by_cases h45 : b = 45
    · subst h45
      refine ev_pos (by decide) (ev_pos (by rw [hs]; omega) ?_)
      rw [bs_drop]
      simp only [List.drop_succ_cons, List.drop_zero]
      refine ev_ite (fun h => ?_) (fun h => ev_ite (fun h2 => ?_) (fun h2 => ?_))
      · rw [numL_negbad (.inl (List.eq_nil_of_length_eq_zero (by rw [bs_size] at h; omega)))]; exact ev_now _
      · rw [numL_negbad (.inr (.inl (by rw [bs_size] at h2; omega)))]; exact ev_now _
      rw [bs_size] at h h2
      cases r with
      | nil => simp at h
      | cons c r =>
        rw [bt0]
        refine ev_pos (by rw [bs_size]; simp only [List.length_cons]; omega) ?_
        have e1 : (decide (((45 : UInt8).toNat : Int) = 45)) = true := by decide
        by_cases h48 : c = 48
        · subst h48
          rw [numL_negbad (.inr (.inr rfl))]
          exact ev_pos (by decide) (ev_ite (fun _ => ev_now _) (fun _ => ev_pos (by decide) (ev_now _)))
        · have hne : ¬ ((c.toNat : Int) = 48) := byte_ne (c := 48) h48
          refine ev_neg hne ?_
          rw [numR_neg (by simp) (by omega) (by simpa using h48), e1]
          exact loop _ true (by omega)
    · have hne : ¬ ((b.toNat : Int) = 45) := byte_ne (c := 45) h45
      have hh : (b :: r).head? ≠ some 45 := by simpa using h45
      refine ev_neg hne (ev_neg (by rw [hs]; omega) (ev_ite (fun h2 => ?_) (fun h2 => ?_)))
      · rw [numL_posbad hh (.inr (.inl (by rw [hs] at h2; simp only [List.length_cons]; omega)))]; exact ev_now _
      rw [hs] at h2
      have hl : (b :: r).length ≤ 17 := by simp; omega
      have e1 : (decide ((b.toNat : Int) = 45)) = false := decide_eq_false hne
      refine ev_pos (by rw [hs]; omega) ?_
      by_cases h48 : b = 48
      · subst h48
        refine ev_pos (by decide) (ev_ite (fun h3 => ?_) (fun h3 => ev_neg (by decide) ?_))
        · rw [numL_posbad hh (.inr (.inr ⟨rfl, by rw [hs] at h3; simp only [List.length_cons]; omega⟩))]; exact ev_now _
        · rw [numR_pos hh (by simp) hl (fun _ => by rw [hs] at h3; simp only [List.length_cons]; omega), e1]
          exact loop _ false hl
      · have hn8 : ¬ ((b.toNat : Int) = 48) := byte_ne (c := 48) h48
        refine ev_neg hn8 ?_
        rw [numR_pos hh (by simp) hl (fun e => absurd (by simpa using e) h48), e1]
        exact loop _ false hl

theorem words_at {j : Int} (h : 1 ≤ j ∧ j ≤ 7) : rdOf (default : ByteArray) wordsL j = bs (wordT j) := by
  have b : j = 1 ∨ j = 2 ∨ j = 3 ∨ j = 4 ∨ j = 5 ∨ j = 6 ∨ j = 7 := by omega
  rcases b with rfl | rfl | rfl | rfl | rfl | rfl | rfl <;> rfl
def outI (K : Int) (n : List Int) : Int × Int × Int × Int × Bool := match mkI K n with
  | some x => (x.f0, x.f1, x.f2, x.f3, true)
  | none => (K, 0, 0, 0, false)
def finI (K : Int) (o : Option (List Int)) (n : List Int) : Int × Int × Int × Int × Bool := match o with
  | some r => outI K (n ++ r)
  | none => (K, 0, 0, 0, false)
theorem rd_n {n : List Int} {i : Nat} (h : i < n.length) : rd n (i : Int) = n.getD i 0 := by
  rw [rd_i h, List.getD_eq_getElem?_getD, List.getElem?_eq_getElem h]; rfl
theorem l2One_end (w : List ByteArray) (K : Int) (n : List Int) (hK : 0 ≤ K ∧ K ≤ 7) : Ev (fun k => spec_l2One.l1 k (w.length : Int) 0 0 0 0 K 0 0 0 w n) (outI K n) := by
  refine Ev.step (fun k => by rw [spec_l2One.l1]) (ev_neg (by omega) (ev_pos hK.1 (ev_pos (by omega) ?_)))
  have two : ∀ (h : n.length = 2), rd n 0 = n.getD 0 0 ∧ rd n 1 = n.getD 1 0 := fun h => ⟨rd_n (i := 0) (by omega), rd_n (i := 1) (by omega)⟩
  have b : K = 0 ∨ (K = 1 ∨ K = 2 ∨ K = 4 ∨ K = 5) ∨ K = 3 ∨ K = 6 ∨ K = 7 := by omega
  rcases b with rfl | c | rfl | rfl | rfl
  · exact ev_neg (by rw [show rd ([(-1 : Int), 2, 2, 2, 2, 2, 3, 0] : List Int) 0 = -1 from rfl]; omega) (ev_now _)
  · have e : rd ([(-1 : Int), 2, 2, 2, 2, 2, 3, 0] : List Int) K = 2 := by rcases c with rfl | rfl | rfl | rfl <;> rfl
    rw [e]
    by_cases h : n.length = 2
    · have ho : outI K n = (K, n.getD 0 0, n.getD 1 0, 0, true) := by unfold outI mkI; rw [if_pos ⟨c, h⟩]
      rw [ho, (two h).1, (two h).2]
      exact ev_pos (by omega) (ev_pos (by omega) (ev_pos (by omega) (ev_pos (by omega) (ev_neg (by omega) (ev_neg (by omega) (ev_now _))))))
    · have ho : outI K n = (K, 0, 0, 0, false) := by
        unfold outI mkI
        rw [if_neg (fun q => h q.2), if_neg (fun q => h q.2), if_neg (by omega), if_neg (by omega)]
      rw [ho]; exact ev_neg (by omega) (ev_now _)
  · rw [show rd ([(-1 : Int), 2, 2, 2, 2, 2, 3, 0] : List Int) 3 = 2 from rfl]
    by_cases h : n.length = 2
    · have ho : outI 3 n = (3, n.getD 0 0, 0, n.getD 1 0, true) := by unfold outI mkI; rw [if_neg (by omega), if_pos ⟨rfl, h⟩]
      rw [ho, (two h).1, (two h).2]
      exact ev_pos (by omega) (ev_pos (by omega) (ev_pos (by omega) (ev_pos (by omega) (ev_pos rfl (ev_pos (by omega) (ev_neg (by omega) (ev_now _)))))))
    · have ho : outI 3 n = (3, 0, 0, 0, false) := by
        unfold outI mkI
        rw [if_neg (fun q => h q.2), if_neg (fun q => h q.2), if_neg (by omega), if_neg (by omega)]
      rw [ho]; exact ev_neg (by omega) (ev_now _)
  · rw [show rd ([(-1 : Int), 2, 2, 2, 2, 2, 3, 0] : List Int) 6 = 3 from rfl]
    by_cases h : n.length = 3
    · have ho : outI 6 n = (6, n.getD 0 0, n.getD 1 0, n.getD 2 0, true) := by unfold outI mkI; rw [if_neg (by omega), if_neg (by omega), if_pos ⟨rfl, h⟩]
      have e0 : rd n 0 = n.getD 0 0 := rd_n (i := 0) (by omega)
      have e1 : rd n 1 = n.getD 1 0 := rd_n (i := 1) (by omega)
      have e2 : rd n 2 = n.getD 2 0 := rd_n (i := 2) (by omega)
      rw [ho, e0, e1, e2]
      exact ev_pos (by omega) (ev_pos (by omega) (ev_pos (by omega) (ev_pos (by omega) (ev_neg (by omega) (ev_pos rfl (ev_pos (by omega) (ev_now _)))))))
    · have ho : outI 6 n = (6, 0, 0, 0, false) := by
        unfold outI mkI
        rw [if_neg (by omega), if_neg (by omega), if_neg (fun q => h q.2), if_neg (by omega)]
      rw [ho]; exact ev_neg (by omega) (ev_now _)
  · rw [show rd ([(-1 : Int), 2, 2, 2, 2, 2, 3, 0] : List Int) 7 = 0 from rfl]
    by_cases h : n.length = 0
    · have ho : outI 7 n = (7, 0, 0, 0, true) := by unfold outI mkI; rw [if_neg (by omega), if_neg (by omega), if_neg (by omega), if_pos ⟨rfl, h⟩]
      rw [ho]
      exact ev_pos (by omega) (ev_neg (by omega) (ev_neg (by omega) (ev_neg (by omega) (ev_now _))))
    · have ho : outI 7 n = (7, 0, 0, 0, false) := by
        unfold outI mkI
        rw [if_neg (by omega), if_neg (by omega), if_neg (by omega), if_neg (fun q => h q.2)]
      rw [ho]; exact ev_neg (by omega) (ev_now _)
theorem l2One_l1 (ps : List Bytes) (K : Int) (hK : 0 ≤ K ∧ K ≤ 7) (hl : ps.length ≤ 1000000) : ∀ (d j : Nat) (n : List Int), j + d = ps.length → n.length ≤ j →
    Ev (fun k => spec_l2One.l1 k (j : Int) 0 0 0 0 K 0 0 0 (ps.map bs) n) (finI K (numsL 17 (ps.drop j)) n) := by
  intro d
  induction d with
  | zero =>
    intro j n hj hn
    rw [List.drop_of_length_le (by omega)]
    have := l2One_end (ps.map bs) K n hK
    rw [List.length_map, show ps.length = j by omega] at this
    unfold finI numsL
    simp only [List.append_nil]
    exact this
  | succ d ih =>
    intro j n hj hn
    have hi : j < ps.length := by omega
    refine Ev.step (fun k => by rw [spec_l2One.l1]) ?_
    rw [List.length_map, rd_bs hi, wrap_succ hi (by omega), List.drop_eq_getElem_cons hi]
    refine ev_pos (lt_cast hi) (ev_pos (nn_cast j) (ev_pos (lt_cast hi) ((l15Num_ev ps[j]).bind ?_)))
    cases e : numL 17 ps[j] with
    | none =>
      have : finI K (numsL 17 (ps[j] :: ps.drop (j + 1))) n = (K, 0, 0, 0, false) := by unfold numsL; rw [e]; rfl
      rw [this]; exact ev_neg (by simp [numR]) (ev_now _)
    | some v =>
      have : finI K (numsL 17 (ps[j] :: ps.drop (j + 1))) n = finI K (numsL 17 (ps.drop (j + 1))) (n ++ [v]) := by
        conv => lhs; unfold numsL
        rw [e]
        simp only
        cases numsL 17 (ps.drop (j + 1)) with
        | none => rfl
        | some r => unfold finI; simp only [Option.map_some, List.append_assoc, List.singleton_append]
      rw [this]
      exact ev_pos rfl (ev_pos (by omega) (ih (j + 1) (n ++ [v]) (by omega) (by simp; omega)))
theorem l2One_l0 (w : Bytes) (ps : List Bytes) (hl : ps.length ≤ 999999) : ∀ (d j : Nat), j + d = 8 → 1 ≤ j →
    Ev (fun k => spec_l2One.l0 k (j : Int) 0 0 0 0 (if kindW w < j then kindW w else 0) 0 0 0 ((w :: ps).map bs)) (finI (kindW w) (numsL 17 ps) []) := by
  have hk := kindW_le w
  intro d
  induction d with
  | zero =>
    intro j hj h1
    refine Ev.step (fun k => by rw [spec_l2One.l0]) (ev_neg (by omega) ?_)
    rw [if_pos (by omega)]
    exact l2One_l1 (w :: ps) (kindW w) hk (by simp; omega) ps.length 1 [] (by simp; omega) (by simp)
  | succ d ih =>
    intro j hj h1
    refine Ev.step (fun k => by rw [spec_l2One.l0]) ?_
    refine ev_pos (by omega) (ev_pos (by simp) (words_ev.bind (ev_pos (by omega) (ev_pos (by simp [wordsL]; omega) ?_))))
    rw [words_at (by omega), show rdOf (default : ByteArray) ((w :: ps).map bs) (0 : Int) = bs w from rd_bs (ps := w :: ps) (i := 0) (by simp), wrap_succ (n := 8) (by omega) (by omega)]
    have nx := ih (j + 1) (by omega) (by omega)
    refine ev_ite (fun h => ?_) (fun h => ?_)
    · have e : kindW w = (j : Int) := by rw [← bs_inj.1 h]; exact kindW_of (by omega)
      rw [if_pos (by omega), e] at nx
      rw [e]; exact nx
    · have hne : kindW w ≠ (j : Int) := fun e => h (by rw [← e, ← kindW_word w (by omega)])
      by_cases c : kindW w < (j : Int)
      · rw [if_pos c]; rw [if_pos (by omega)] at nx; exact nx
      · rw [if_neg c]; rw [if_neg (by omega)] at nx; exact nx
def resI (p : Bytes) : Int × Int × Int × Int × Bool := match cutAt 32 p with
  | [] => (0, 0, 0, 0, false)
  | w :: r => finI (kindW w) (numsL 17 r) []
theorem l2One_ev (p : Bytes) (hl : p.length ≤ 1000) : Ev (fun k => spec_l2One.f k (bs p)) (resI p) := by
  unfold spec_l2One.f
  refine (l15Cut_ev p 32 (by omega)).bind ?_
  have hc := cutAt_len 32 p
  unfold resI
  cases e : cutAt 32 p with
  | nil => exact absurd e (cutAt_ne 32 p)
  | cons w r =>
    rw [e] at hc
    simp at hc
    have := l2One_l0 w r (by omega) 7 1 (by omega) (by omega)
    have hk := kindW_le w
    by_cases c : kindW w < ((1 : Nat) : Int)
    · have h0 : kindW w = 0 := by omega
      rw [if_pos c, h0] at this
      simp only
      rw [h0]; exact this
    · rw [if_neg c] at this; exact this
theorem resI_some {p : Bytes} {x : S60} (h : rdI 17 p = some x) : resI p = (x.f0, x.f1, x.f2, x.f3, true) := by
  unfold rdI at h
  unfold resI
  cases e : cutAt 32 p with
  | nil => exact absurd e (cutAt_ne 32 p)
  | cons w r =>
    rw [e] at h
    simp only at h ⊢
    cases en : numsL 17 r with
    | none => rw [en] at h; cases h
    | some n => rw [en] at h; unfold finI outI; simp only [List.nil_append]; simp only at h; rw [h]
theorem resI_none {p : Bytes} (h : rdI 17 p = none) : (resI p).2.2.2.2 = false := by
  unfold rdI at h
  unfold resI
  cases e : cutAt 32 p with
  | nil => exact absurd e (cutAt_ne 32 p)
  | cons w r =>
    rw [e] at h
    simp only at h ⊢
    cases en : numsL 17 r with
    | none => rfl
    | some n => rw [en] at h; unfold finI outI; simp only [List.nil_append]; simp only at h; rw [h]

theorem cut_piece (c : UInt8) : ∀ (l : Bytes), ∀ p ∈ cutAt c l, p.length ≤ l.length
  | [], p, hp => by simp [cutAt] at hp; subst hp; simp
  | b :: r, p, hp => by
    have ih := cutAt_mem
    have ih2 := cut_piece c r
    rw [cutAt_snoc c []] at hp
    split at hp
    · rcases List.mem_cons.1 hp with rfl | hp
      · simp
      · have := ih2 p hp; simp; omega
    · rcases List.mem_cons.1 hp with rfl | hp
      · cases e : cutAt c r with
        | nil => exact absurd e (cutAt_ne c r)
        | cons q qs =>
          have := ih2 q (by rw [e]; simp)
          simp; omega
      · have := ih2 p (List.mem_of_mem_tail hp); simp; omega

theorem good17 : goodR (rdI 17) := ⟨fun p x h => (rdI_text h).2, fun x h => rdI_of (insIn_shape h) (insIn_dig h 17 (by omega))⟩
theorem spec_ProgRead_l0 (ps : List Bytes) (hl : ps.length ≤ 1000) (hp : ∀ p ∈ ps, p.length ≤ 1000) : ∀ (d i : Nat) (out : List S60), i + d = ps.length → out.length = i →
    Ev (fun k => spec_ProgRead.l0 k (i : Int) out (ps.map bs)) (endP (rdPs (rdI 17) (ps.drop i)) out) := by
  intro d
  induction d with
  | zero =>
    intro i out hi ho
    refine Ev.step (fun k => by rw [spec_ProgRead.l0]) (ev_neg (by rw [List.length_map]; omega) ?_)
    rw [List.drop_of_length_le (by omega)]
    obtain ⟨v, hv, hvi⟩ := spec_ProgOk_ev out (by omega)
    refine hv.bind ?_
    unfold endP rdPs
    simp only [List.append_nil]
    by_cases c : progOk out
    · rw [okP_pos c]; exact ev_pos (hvi.2 c) (ev_now _)
    · rw [okP_neg c]; exact ev_neg (fun h => c (hvi.1 h)) (ev_now _)
  | succ d ih =>
    intro i out hi ho
    have hil : i < ps.length := by omega
    refine Ev.step (fun k => by rw [spec_ProgRead.l0]) ?_
    rw [List.length_map, rd_bs hil, wrap_succ hil (by omega), List.drop_eq_getElem_cons hil]
    refine ev_pos (lt_cast hil) (ev_pos (nn_cast i) (ev_pos (lt_cast hil) ((l2One_ev ps[i] (hp _ (List.getElem_mem hil))).bind ?_)))
    cases e : rdI 17 ps[i] with
    | none =>
      rw [endP_stop e]
      exact ev_neg (by rw [resI_none e]; simp) (ev_now _)
    | some x =>
      rw [endP_step e, resI_some e]
      exact ev_pos rfl (ev_pos (by omega) (ih (i + 1) (out ++ [x]) (by omega) (by simp; omega)))
theorem bs_nil {t : Bytes} : bs t = bs [] ↔ t = [] := bs_inj
theorem spec_ProgRead_ev (t : Bytes) : Ev (fun k => spec_ProgRead.f k (bs t)) (rdP t) := by
  unfold spec_ProgRead.f
  rw [bs_size]
  refine ev_ite (fun h => ?_) (fun h => ev_ite (fun h0 => ?_) (fun h0 => ?_))
  · rw [plong_none (by omega)]; exact ev_now _
  · rw [bs_nil.1 h0, rdP_nil]; exact ev_now _
  · have hc := cutAt_len 44 t
    refine (l15Cut_ev t 44 (by omega)).bind ?_
    have := spec_ProgRead_l0 (cutAt 44 t) (by omega) (fun p hp => by have := cut_piece 44 t p hp; omega) (cutAt 44 t).length 0 [] (by omega) rfl
    rw [List.drop_zero, endP_all good17 t (fun e => h0 (bs_nil.2 e))] at this
    exact this

theorem integer_l0 (t ds : Bytes) (hl : ds.length ≤ 9) : ∀ (d j : Nat), j + d = ds.length → valD (ds.take j) < 10 ^ j → (ds.take j).all isD = true →
    Ev (fun k => impl_integer.l0 k (bs t) (bs ds) (valD (ds.take j) : Int) (j : Int)) (loopR (decide (ds.length < t.length)) ds) := by
  intro d
  induction d with
  | zero =>
    intro j hj hv ha
    rw [List.take_of_length_le (by omega)] at hv ha
    have hp : (10 : Nat) ^ j ≤ 10 ^ 9 := Nat.pow_le_pow_right (by omega) (by omega)
    refine Ev.step (fun k => by rw [impl_integer.l0]) (ev_neg (by rw [bs_size]; omega) ?_)
    rw [List.take_of_length_le (by omega)]
    unfold loopR
    rw [if_pos ha, wrap_id (by omega) (by omega), bs_size, bs_size]
    refine ev_ite (fun h => ?_) (fun h => ?_)
    · rw [if_pos (decide_eq_true (by omega)), Int.zero_sub]; exact ev_now _
    · rw [if_neg (by simp; omega)]; exact ev_now _
  | succ d ih =>
    intro j hj hv ha
    have hi : j < ds.length := by omega
    have hp : (10 : Nat) ^ j ≤ 10 ^ 9 := Nat.pow_le_pow_right (by omega) (by omega)
    have hb : (ds[j].toNat : Int) < 256 := by have := ds[j].toNat_lt; omega
    refine Ev.step (fun k => by rw [impl_integer.l0]) ?_
    rw [bs_size, bt_bs ds j hi, wrap_succ hi (by omega), wrap_id (a := (ds[j].toNat : Int)) (by omega) (by omega)]
    refine ev_pos (lt_cast hi) (ev_pos (nn_cast j) (ev_pos (lt_cast hi) (ev_get (in_dec _ _ _) (ev_ite (fun h1 => ?_) (fun h1 => ?_)))))
    · have h2 := of_decide_eq_true h1
      have hd : isD ds[j] = true := by unfold isD; simp; omega
      refine ev_pos (nn_cast j) (ev_pos (lt_cast hi) ?_)
      have e := valD_take hi
      rw [Int.mul_comm, dig_step hd (by omega), ← e]
      refine ih (j + 1) (by omega) ?_ ?_
      · have := isD_val hd
        rw [e, Nat.pow_succ]; omega
      · rw [List.take_succ_eq_append_getElem hi, List.all_append, ha]; simpa using hd
    · have hd : isD ds[j] = false := by
        simp at h1
        unfold isD; simp; omega
      have : loopR (decide (ds.length < t.length)) ds = (0, false) := by
        unfold loopR
        rw [if_neg]
        intro hc
        rw [List.all_eq_true.1 hc _ (List.getElem_mem hi)] at hd; cases hd
      rw [this]; exact ev_now _
theorem integer_ev (l : Bytes) : Ev (fun k => impl_integer.f k (bs l)) (numR (numL 9 l)) := by
  have loop : ∀ (t ds : Bytes), ds.length ≤ 9 → Ev (fun k => impl_integer.l0 k (bs t) (bs ds) 0 0) (loopR (decide (ds.length < t.length)) ds) := fun t ds h => integer_l0 t ds h ds.length 0 (by omega) (valD_0 _) rfl
  have trim : Ev (fun k => strings_TrimPrefix.f k (bs l) (bs [45])) (bs (if l.head? = some 45 then l.drop 1 else l)) := by
    unfold strings_TrimPrefix.f; rw [trimB_bs]; exact ev_now _
  unfold impl_integer.f
  refine trim.bind ?_
  by_cases hh : l.head? = some 45
  · rw [if_pos hh]
    obtain ⟨r, rfl⟩ : ∃ r, l = 45 :: r := by
      cases l with
      | nil => simp at hh
      | cons b r => simp at hh; subst hh; exact ⟨r, rfl⟩
    simp only [List.drop_succ_cons, List.drop_zero]
    rw [bs_size, bs_size]
    refine ev_ite (fun h => ?_) (fun h => ev_ite (fun h2 => ?_) (fun h2 => ?_))
    · rw [numL_negbad (.inl (List.eq_nil_of_length_eq_zero (by omega)))]; exact ev_now _
    · rw [numL_negbad (.inr (.inl (by omega)))]; exact ev_now _
    cases r with
    | nil => simp at h
    | cons c r =>
      rw [bt0]
      refine ev_pos (by simp only [List.length_cons]; omega) ?_
      by_cases h48 : c = 48
      · subst h48
        rw [numL_negbad (.inr (.inr rfl))]
        exact ev_pos (by decide) (ev_ite (fun _ => ev_now _) (fun _ => ev_pos (by simp; omega) (ev_now _)))
      · have hne : ¬ ((c.toNat : Int) = 48) := byte_ne (c := 48) h48
        refine ev_neg hne ?_
        rw [numR_neg (by simp) (by omega) (by simpa using h48)]
        have := loop (45 :: c :: r) (c :: r) (by omega)
        rw [show (decide ((c :: r).length < (45 :: c :: r : Bytes).length)) = true from decide_eq_true (by simp)] at this
        exact this
  · rw [if_neg hh, bs_size]
    refine ev_ite (fun h => ?_) (fun h => ev_ite (fun h2 => ?_) (fun h2 => ?_))
    · rw [numL_posbad hh (.inl (List.eq_nil_of_length_eq_zero (by omega)))]; exact ev_now _
    · rw [numL_posbad hh (.inr (.inl (by omega)))]; exact ev_now _
    cases l with
    | nil => simp at h
    | cons c r =>
      rw [bt0]
      have lp := loop (c :: r) (c :: r) (by omega)
      rw [show (decide ((c :: r).length < (c :: r).length)) = false from decide_eq_false (by omega)] at lp
      refine ev_pos (by simp only [List.length_cons]; omega) ?_
      by_cases h48 : c = 48
      · subst h48
        refine ev_pos (by decide) (ev_ite (fun h3 => ?_) (fun h3 => ev_neg (by omega) ?_))
        · rw [numL_posbad hh (.inr (.inr ⟨rfl, by omega⟩))]; exact ev_now _
        · rw [numR_pos hh (by simp) (by omega) (fun _ => by simp only [List.length_cons] at h3 ⊢; omega)]
          exact lp
      · have hn8 : ¬ ((c.toNat : Int) = 48) := byte_ne (c := 48) h48
        refine ev_neg hn8 ?_
        rw [numR_pos hh (by simp) (by omega) (fun e => absurd (by simpa using e) h48)]
        exact lp

open Classical in
noncomputable def rdJ (p : Bytes) : Option S60 := if h : ∃ x, insIn x ∧ p = insTx x then some (Classical.choose h) else none
theorem rdJ_some {p : Bytes} {x : S60} (h : insIn x) (e : p = insTx x) : rdJ p = some x := by
  have hx : ∃ x, insIn x ∧ p = insTx x := ⟨x, h, e⟩
  unfold rdJ
  rw [dif_pos hx]
  have := Classical.choose_spec hx
  rw [insTx_inj this.1 h (this.2.symm.trans e)]
theorem rdJ_none {p : Bytes} (h : ¬ ∃ x, insIn x ∧ p = insTx x) : rdJ p = none := by unfold rdJ; exact dif_neg h
theorem goodJ : goodR rdJ := by
  refine ⟨fun p x h => ?_, fun x h => rdJ_some h rfl⟩
  by_cases c : ∃ x, insIn x ∧ p = insTx x
  · obtain ⟨y, hy, e⟩ := c
    rw [rdJ_some hy e] at h
    cases h; exact e
  · rw [rdJ_none c] at h; cases h
def ansI (o : Option S60) : Int × Int × Int × Int × Bool := match o with
  | some x => (x.f0, x.f1, x.f2, x.f3, true)
  | none => (0, 0, 0, 0, false)
/-- The candidates, one behind the other. -/
theorem insRead_l1 (p : Bytes) (q : List S60) (hq : q.length = 7) (hw : ∀ x ∈ q, insW x) : ∀ (d j : Nat), j + d = 7 → (∀ x ∈ q.take j, ¬ (insIn x ∧ p = insTx x)) → ((∃ x, insIn x ∧ p = insTx x) → ∃ x ∈ q, insIn x ∧ p = insTx x) →
    Ev (fun k => impl_insRead.l1 k (bs p) 7 (j : Int) 0 0 0 0 q) (ansI (rdJ p)) := by
  intro d
  induction d with
  | zero =>
    intro j hj hpre hall
    refine Ev.step (fun k => by rw [impl_insRead.l1]) (ev_neg (by omega) ?_)
    have : rdJ p = none := rdJ_none (fun h => by
      obtain ⟨x, hx, hh⟩ := hall h
      exact hpre x (by rw [List.take_of_length_le (by omega)]; exact hx) hh)
    rw [this]; exact ev_now _
  | succ d ih =>
    intro j hj hpre hall
    have hi : j < q.length := by omega
    have hwj := hw _ (List.getElem_mem hi)
    refine Ev.step (fun k => by rw [impl_insRead.l1]) ?_
    rw [rdi_Ins hi, wrap_succ (n := 7) (by omega) (by omega)]
    refine ev_pos (by omega) (ev_pos (nn_cast j) (ev_pos (lt_cast hi) ((insOk_ev q[j]).bind ?_)))
    have next : ¬ (insIn q[j] ∧ p = insTx q[j]) → Ev (fun k => impl_insRead.l1 k (bs p) 7 ((j + 1 : Nat) : Int) 0 0 0 0 q) (ansI (rdJ p)) := fun hn => by
      refine ih (j + 1) (by omega) (fun x hx => ?_) hall
      rw [List.take_succ_eq_append_getElem hi] at hx
      rcases List.mem_append.1 hx with hx | hx
      · exact hpre x hx
      · rw [List.mem_singleton.1 hx]; exact hn
    by_cases c : insIn q[j]
    · refine ev_pos (decide_eq_true c) ((impl_insText_ev _ _ _ _ hwj.1 hwj.2.1 hwj.2.2).bind ?_)
      by_cases e : p = insTx q[j]
      · refine ev_pos (by rw [bs_inj]; exact e.symm) ?_
        rw [rdJ_some c e]; exact ev_now _
      · exact ev_neg (by rw [bs_inj]; exact fun h => e h.symm) (next (fun h => e h.2))
    · exact ev_neg (by simpa using c) (next (fun h => c h.1))
theorem numsL_wide {D : Nat} {ps : List Bytes} {n : List Int} (h : numsL D ps = some n) (hD : D ≤ 17) : ∀ v ∈ n, i64 v := by
  intro v hv
  have := len_dec D v.natAbs (((numsL_iff D ps n).1 h).2 v hv)
  have h2 : (10 : Nat) ^ D ≤ 10 ^ 17 := Nat.pow_le_pow_right (by omega) hD
  unfold i64; omega
def cands (a b c : Int) : List S60 := [⟨1, a, b, 0⟩, ⟨2, a, b, 0⟩, ⟨3, a, 0, b⟩, ⟨4, a, b, 0⟩, ⟨5, a, b, 0⟩, ⟨6, a, b, c⟩, ⟨7, 0, 0, 0⟩]
theorem cands_W {a b c : Int} (ha : i64 a) (hb : i64 b) (hc : i64 c) : ∀ x ∈ cands a b c, insW x := by
  have h0 : i64 0 := by unfold i64; omega
  intro x hx
  unfold cands at hx
  simp only [List.mem_cons, List.not_mem_nil, or_false] at hx
  rcases hx with rfl | rfl | rfl | rfl | rfl | rfl | rfl
  · exact ⟨ha, hb, h0⟩
  · exact ⟨ha, hb, h0⟩
  · exact ⟨ha, h0, hb⟩
  · exact ⟨ha, hb, h0⟩
  · exact ⟨ha, hb, h0⟩
  · exact ⟨ha, hb, hc⟩
  · exact ⟨h0, h0, h0⟩
theorem cands_mem {x : S60} (h : shapeI x) : x ∈ cands (((argsT x.f0 x.f1 x.f2 x.f3) ++ [0, 0, 0]).getD 0 0) (((argsT x.f0 x.f1 x.f2 x.f3) ++ [0, 0, 0]).getD 1 0) (((argsT x.f0 x.f1 x.f2 x.f3) ++ [0, 0, 0]).getD 2 0) := by
  obtain ⟨a0, a1, a2, a3⟩ := x
  unfold shapeI at h
  simp only at h
  unfold cands
  rcases h with ⟨c, rfl⟩ | ⟨rfl, rfl⟩ | rfl | ⟨rfl, rfl, rfl, rfl⟩
  · rcases c with rfl | rfl | rfl | rfl <;> simp [argsT]
  all_goals simp [argsT]
theorem insRead_l0 (p w : Bytes) (ps : List Bytes) (hp : cutAt 32 p = w :: ps) (hl : ps.length ≤ 1000) : ∀ (d j : Nat) (n : List Int), j + d = ps.length → n.length ≤ j → numsL 9 (ps.take j) = some n →
    Ev (fun k => impl_insRead.l0 k (bs p) (ps.map bs) (ps.length : Int) (j : Int) 0 0 0 0 n) (ansI (rdJ p)) := by
  intro d
  induction d with
  | zero =>
    intro j n hj hn hpre
    rw [List.take_of_length_le (by omega)] at hpre
    have hlen : (n ++ [0, 0, 0] : List Int).length = n.length + 3 := by simp
    have hwide := numsL_wide hpre (by omega)
    have hwide2 : ∀ i : Nat, i64 ((n ++ [0, 0, 0] : List Int).getD i 0) := fun i => by
      rw [List.getD_eq_getElem?_getD]
      cases e : (n ++ [0, 0, 0] : List Int)[i]? with
      | none => simp [i64]
      | some v =>
        rcases List.mem_append.1 (List.mem_of_getElem? e) with h | h
        · exact hwide v h
        · simp at h; subst h; simp [i64]
    have e0 : rd (n ++ [0, 0, 0]) 0 = (n ++ [0, 0, 0] : List Int).getD 0 0 := rfl
    have e1 : rd (n ++ [0, 0, 0]) 1 = (n ++ [0, 0, 0] : List Int).getD 1 0 := rfl
    have e2 : rd (n ++ [0, 0, 0]) 2 = (n ++ [0, 0, 0] : List Int).getD 2 0 := rfl
    refine Ev.step (fun k => by rw [impl_insRead.l0]) (ev_neg (by omega) ?_)
    rw [hlen, e0, e1, e2]
    have main := insRead_l1 p (cands ((n ++ [0, 0, 0] : List Int).getD 0 0) ((n ++ [0, 0, 0] : List Int).getD 1 0) ((n ++ [0, 0, 0] : List Int).getD 2 0)) rfl (cands_W (hwide2 0) (hwide2 1) (hwide2 2)) 7 0 (by omega) (by simp) (fun ⟨x, hx, e⟩ => by
      refine ⟨x, ?_, hx, e⟩
      have hs := insIn_shape hx
      have hc := insT_cut x.f0 x.f1 x.f2 x.f3
      have e' : p = insT x.f0 x.f1 x.f2 x.f3 := e
      rw [← e', hp] at hc
      have ha : n = argsT x.f0 x.f1 x.f2 x.f3 := by
        have h1 := (numsL_iff 9 ps n).1 hpre
        have h2 : n.map Lib.itoa = (argsT x.f0 x.f1 x.f2 x.f3).map Lib.itoa := by rw [← h1.1]; exact (List.cons.inj hc).2
        exact lmap_inj (fun a b => itoa_inj) h2
      rw [ha]; exact cands_mem hs)
    refine ev_pos (by omega) (ev_pos (by omega) (ev_pos (by omega) (ev_pos (by omega) (ev_pos (by omega) (ev_pos (by omega) (ev_pos (by omega) (ev_pos (by omega) (ev_pos (by omega) (ev_pos (by omega) (ev_pos (by omega) (ev_pos (by omega) (ev_pos (by omega) (ev_pos (by omega) main)))))))))))))
  | succ d ih =>
    intro j n hj hn hpre
    have hi : j < ps.length := by omega
    refine Ev.step (fun k => by rw [impl_insRead.l0]) ?_
    rw [List.length_map, rd_bs hi, wrap_succ hi (by omega)]
    refine ev_pos (lt_cast hi) (ev_pos (nn_cast j) (ev_pos (lt_cast hi) ((integer_ev ps[j]).bind ?_)))
    cases e : numL 9 ps[j] with
    | none =>
      have : rdJ p = none := rdJ_none (fun ⟨x, hx, ex⟩ => by
        have hc := insT_cut x.f0 x.f1 x.f2 x.f3
        have e' : p = insT x.f0 x.f1 x.f2 x.f3 := ex
        rw [← e', hp] at hc
        have hps : ps = (argsT x.f0 x.f1 x.f2 x.f3).map Lib.itoa := (List.cons.inj hc).2
        have hm : ps[j] ∈ (argsT x.f0 x.f1 x.f2 x.f3).map Lib.itoa := by rw [← hps]; exact List.getElem_mem hi
        obtain ⟨v, hv, ev⟩ := List.mem_map.1 hm
        rw [(numL_iff 9 _ v).2 ⟨ev.symm, args_dig (insIn_dig hx 9 (by omega)) v hv⟩] at e
        cases e)
      rw [this]
      exact ev_neg (by simp [numR]) (ev_now _)
    | some v =>
      refine ev_pos rfl (ev_pos (by omega) (ih (j + 1) (n ++ [v]) (by omega) (by simp; omega) ?_))
      have h1 := (numsL_iff 9 (ps.take j) n).1 hpre
      have h2 := (numL_iff 9 ps[j] v).1 e
      refine (numsL_iff 9 _ _).2 ⟨?_, fun u hu => ?_⟩
      · rw [List.take_succ_eq_append_getElem hi, h1.1, List.map_append, h2.1]; rfl
      · rcases List.mem_append.1 hu with hu | hu
        · exact h1.2 u hu
        · rw [List.mem_singleton.1 hu]; exact h2.2
theorem insRead_ev (p : Bytes) (hl : p.length ≤ 900) : Ev (fun k => impl_insRead.f k (bs p)) (ansI (rdJ p)) := by
  unfold impl_insRead.f
  refine (Split_ev p 32 (by omega)).bind ?_
  have hc := cutAt_len 32 p
  cases e : cutAt 32 p with
  | nil => exact absurd e (cutAt_ne 32 p)
  | cons w ps =>
    rw [e] at hc
    simp at hc
    refine ev_pos (by simp; omega) ?_
    rw [List.map_cons, List.drop_succ_cons, List.drop_zero, List.length_map]
    exact insRead_l0 p w ps e (by omega) ps.length 0 [] (by omega) (by simp) rfl

theorem impl_ProgRead_l0 (ps : List Bytes) (hl : ps.length ≤ 1000) (hp : ∀ p ∈ ps, p.length ≤ 900) : ∀ (d i : Nat) (out : List S60), i + d = ps.length → out.length = i →
    Ev (fun k => impl_ProgRead.l0 k (ps.length : Int) (i : Int) out (ps.map bs)) (endP (rdPs rdJ (ps.drop i)) out) := by
  intro d
  induction d with
  | zero =>
    intro i out hi ho
    refine Ev.step (fun k => by rw [impl_ProgRead.l0]) (ev_neg (by omega) ?_)
    rw [List.drop_of_length_le (by omega)]
    obtain ⟨v, hv, hvi⟩ := impl_ProgOk_ev out (by omega)
    refine hv.bind ?_
    unfold endP rdPs
    simp only [List.append_nil]
    by_cases c : progOk out
    · rw [okP_pos c]
      refine ev_pos (hvi.2 c) (ev_get (a := out) ?_ (ev_now _))
      unfold impl_copied_impl_Ins.f; exact if_pos (by omega)
    · rw [okP_neg c]; exact ev_neg (fun h => c (hvi.1 h)) (ev_now _)
  | succ d ih =>
    intro i out hi ho
    have hil : i < ps.length := by omega
    refine Ev.step (fun k => by rw [impl_ProgRead.l0]) ?_
    rw [List.length_map, rd_bs hil, wrap_succ hil (by omega), List.drop_eq_getElem_cons hil]
    refine ev_pos (lt_cast hil) (ev_pos (nn_cast i) (ev_pos (lt_cast hil) ((insRead_ev ps[i] (hp _ (List.getElem_mem hil))).bind ?_)))
    cases e : rdJ ps[i] with
    | none =>
      rw [endP_stop e]
      exact ev_neg (by simp [ansI]) (ev_now _)
    | some x =>
      rw [endP_step e]
      exact ev_pos rfl (ev_pos (by omega) (ih (i + 1) (out ++ [x]) (by omega) (by simp; omega)))
theorem impl_ProgRead_ev (t : Bytes) : Ev (fun k => impl_ProgRead.f k (bs t)) (rdP t) := by
  unfold impl_ProgRead.f
  rw [bs_size]
  refine ev_ite (fun h => ?_) (fun h => ev_ite (fun h0 => ?_) (fun h0 => ?_))
  · rw [plong_none (by omega)]; exact ev_now _
  · rw [bs_inj.1 h0, rdP_nil]; exact ev_now _
  · have hc := cutAt_len 44 t
    refine (Split_ev t 44 (by omega)).bind ?_
    have := impl_ProgRead_l0 (cutAt 44 t) (by omega) (fun p hp => by have := cut_piece 44 t p hp; omega) (cutAt 44 t).length 0 [] (by omega) rfl
    rw [List.drop_zero, endP_all goodJ t (fun e => h0 (by rw [e]))] at this
    rw [List.length_map]
    exact this

theorem small_insW {b : S60} (h : insSmall b) : insW b := by unfold insSmall at h; unfold insW i64; omega
theorem DrawProgText_dr (l : List Int) (hl : bytesOk l) : Dr (fun k => spec_DrawProgText.f k l) (fun m => m.length ≤ 12 ∧ ∀ b ∈ m, insW b) := by
  obtain ⟨s, hs, hb, hn⟩ := open_some l hl
  unfold spec_DrawProgText.f
  refine (Dr.of hs (R := fun r => r = (s, 0)) rfl).bind fun v hv => ?_
  subst hv
  exact (l2Bent_dr hb 0 (by omega) (by omega) (by omega)).bind fun r hr => Dr.now ⟨by omega, fun b hb => small_insW (hr.2.1 b hb)⟩
theorem ProgSame_ev (x y : List S60) (hn : x.length ≤ 9223372036854775807) : ∃ v, Ev (fun k => impl_ProgSame.f k x y) v ∧ (v = true ↔ x = y) := by
  obtain ⟨v, hv, hvi⟩ := sameIns_ev x y hn
  refine ⟨v, ?_, hvi⟩
  unfold impl_ProgSame.f
  exact hv.bind (ev_now _)
theorem mem_pk {p : Int → Bool} {a : Int} : ∀ {m : Nat}, a ∈ pick p m ↔ (0 ≤ a ∧ a < m) ∧ p a = true
  | 0 => by simp [pick]; omega
  | m + 1 => by
    rw [pick_succ]
    by_cases c : p m = true
    · rw [if_pos c, List.mem_append, mem_pk, List.mem_singleton]
      constructor
      · rintro (⟨h, k⟩ | rfl)
        · exact ⟨by omega, k⟩
        · exact ⟨by omega, c⟩
      · rintro ⟨h, k⟩
        by_cases e : a = m
        · exact .inr e
        · exact .inl ⟨by omega, k⟩
    · rw [if_neg c, mem_pk]
      constructor
      · rintro ⟨h, k⟩; exact ⟨by omega, k⟩
      · rintro ⟨h, k⟩
        by_cases e : a = m
        · subst e; exact absurd k c
        · exact ⟨by omega, k⟩
theorem pick_lt (p : Int → Bool) : ∀ (m : Nat), ∀ a ∈ pick p m, a < m := fun m a h => (mem_pk.1 h).1.2
theorem pick_sorted (p : Int → Bool) : ∀ (m : Nat), (pick p m).Pairwise (· < ·)
  | 0 => by simp [pick]
  | m + 1 => by
    rw [pick_succ]
    split
    · rw [List.pairwise_append]
      exact ⟨pick_sorted p m, by simp, fun a ha b hb => by rw [List.mem_singleton.1 hb]; exact pick_lt p m a ha⟩
    · exact pick_sorted p m
theorem fp_l1 (t : List S60) (ht : t.length ≤ 1000) : ∀ (d j : Nat), j + d = (pick (fun i => t.any (hit 2 i)) 4).length →
    Ev (fun k => laws_FnProg.l1 k (j : Int) t (pick (fun i => t.any (hit 1 i)) 4) (pick (fun i => t.any (hit 2 i)) 4)) true := by
  have hs := spec_ProgLoads_ev t (by omega)
  have hp := spec_ProgPuts_ev t (by omega)
  have so := pick_sorted (fun i => t.any (hit 2 i)) 4
  have mem : ∀ a ∈ pick (fun i => t.any (hit 2 i)) 4, 0 ≤ a ∧ a < 4 := fun a h => (mem_pk.1 h).1
  have hlen := pick_len (fun i => t.any (hit 2 i)) 4
  generalize pick (fun i => t.any (hit 1 i)) 4 = x at hs ⊢
  generalize pick (fun i => t.any (hit 2 i)) 4 = y at hp so mem hlen ⊢
  intro d
  induction d with
  | zero =>
    intro j hj
    refine Ev.step (fun k => by rw [laws_FnProg.l1]) (ev_neg (by omega) (hs.bind (ev_pos rfl (hp.bind ?_))))
    rw [decide_eq_true rfl]; exact ev_now _
  | succ d ih =>
    intro j hj
    have hi : j < y.length := by omega
    have hm := mem _ (List.getElem_mem hi)
    refine Ev.step (fun k => by rw [laws_FnProg.l1]) ?_
    rw [rd_i hi, wrap_succ hi (by omega)]
    refine ev_pos (lt_cast hi) (ev_pos (nn_cast j) (ev_pos (lt_cast hi) (ev_neg (by omega) (ev_pos (nn_cast j) (ev_pos (lt_cast hi) (ev_neg (by omega) (ev_ite (fun h0 => ?_) (fun h0 => ih (j + 1) (by omega)))))))))
    have hi1 : j - 1 < y.length := by omega
    have e : wrap64 ((j : Int) - 1) = ((j - 1 : Nat) : Int) := by rw [wrap_id (by omega) (by omega)]; omega
    rw [e, rd_i hi1]
    have hlt := List.pairwise_iff_getElem.1 so (j - 1) j hi1 hi (by omega)
    exact ev_pos (nn_cast j) (ev_pos (lt_cast hi) (ev_pos (nn_cast _) (ev_pos (lt_cast hi1) (ev_neg (by omega) (ih (j + 1) (by omega))))))
theorem fp_l0 (t : List S60) (ht : t.length ≤ 1000) : ∀ (d j : Nat), j + d = (pick (fun i => t.any (hit 1 i)) 4).length →
    Ev (fun k => laws_FnProg.l0 k (j : Int) t (pick (fun i => t.any (hit 1 i)) 4) (pick (fun i => t.any (hit 2 i)) 4)) true := by
  have l1 := fp_l1 t ht (pick (fun i => t.any (hit 2 i)) 4).length 0 (by omega)
  have so := pick_sorted (fun i => t.any (hit 1 i)) 4
  have mem : ∀ a ∈ pick (fun i => t.any (hit 1 i)) 4, 0 ≤ a ∧ a < 4 := fun a h => (mem_pk.1 h).1
  have hlen := pick_len (fun i => t.any (hit 1 i)) 4
  generalize pick (fun i => t.any (hit 1 i)) 4 = x at l1 so mem hlen ⊢
  generalize pick (fun i => t.any (hit 2 i)) 4 = y at l1 ⊢
  intro d
  induction d with
  | zero =>
    intro j hj
    refine Ev.step (fun k => by rw [laws_FnProg.l0]) ?_
    refine ev_neg (by omega) ?_
    exact l1
  | succ d ih =>
    intro j hj
    have hi : j < x.length := by omega
    have hm := mem _ (List.getElem_mem hi)
    refine Ev.step (fun k => by rw [laws_FnProg.l0]) ?_
    rw [rd_i hi, wrap_succ hi (by omega)]
    refine ev_pos (lt_cast hi) (ev_pos (nn_cast j) (ev_pos (lt_cast hi) (ev_neg (by omega) (ev_pos (nn_cast j) (ev_pos (lt_cast hi) (ev_neg (by omega) (ev_ite (fun h0 => ?_) (fun h0 => ih (j + 1) (by omega)))))))))
    have hi1 : j - 1 < x.length := by omega
    have e : wrap64 ((j : Int) - 1) = ((j - 1 : Nat) : Int) := by rw [wrap_id (by omega) (by omega)]; omega
    rw [e, rd_i hi1]
    have hlt := List.pairwise_iff_getElem.1 so (j - 1) j hi1 hi (by omega)
    exact ev_pos (nn_cast j) (ev_pos (lt_cast hi) (ev_pos (nn_cast _) (ev_pos (lt_cast hi1) (ev_neg (by omega) (ih (j + 1) (by omega))))))
theorem DrawProgRead_dr (l : List Int) (hl : bytesOk l) : Dr (fun k => spec_DrawProgRead.f k l) (fun r => ∃ t : Bytes, r = bs t) := by
  obtain ⟨s, hs, hb, hn⟩ := open_some l hl
  unfold spec_DrawProgRead.f
  refine (Dr.of hs (R := fun r => r = (s, 0)) rfl).bind fun v hv => ?_
  subst hv
  refine (l2Bent_dr hb 0 (by omega) (by omega) (by omega)).bind fun r1 h1 => ?_
  obtain ⟨hm11, hms, q0, q60⟩ := h1
  have hw : ∀ b ∈ r1.1, insW b := fun b hb => small_insW (hms b hb)
  refine Dr.bind (Q := fun r => r = bs (progL r1.1)) ⟨_, spec_ProgText_ev r1.1 (by omega) hw, rfl⟩ fun r hr => ?_
  subst hr
  have ht := progL_len r1.1 hw
  rw [bs_size]
  refine Dr.ite (fun _ => Dr.now ⟨_, rfl⟩) (fun h0 => ?_)
  have ht0 : 0 < (progL r1.1).length := by omega
  refine (pick_dr hb r1.2 2 (by omega) (by omega) (by omega)).bind fun r3 h3 => Dr.ite (fun _ => Dr.now ⟨_, rfl⟩) (fun _ => ?_)
  refine (pick_dr hb r3.2 (progL r1.1).length (by omega) (by omega) (by omega)).bind fun r4 h4' => ?_
  have h41 := h4'.2.1 (by omega)
  refine Dr.pos h4'.1 (Dr.pos (by omega) ?_)
  refine (of_dr hb r4.2 [[], [48], [44], [32], [45], [102, 97, 105, 108], [49]] (by omega) (by omega) (by omega) (by simp) 4 (by simp)).bind fun r5 h5 => ?_
  obtain ⟨⟨x, hx, hxl⟩, h52⟩ := h5
  rw [hx]
  refine Dr.pos (by rw [bs_take, bs_size, bs_size, List.length_take]; omega) ?_
  refine (pick_dr hb r5.2 2 (by omega) (by omega) (by omega)).bind fun r6 h6 => ?_
  have h61 := h6.2.1 (by omega)
  rw [wrap_id (by omega) (by omega)]
  have ed : (bs (progL r1.1)).extract (r4.1 + r6.1).toNat (progL r1.1).length = bs ((progL r1.1).drop (r4.1 + r6.1).toNat) := by
    have := bs_drop (progL r1.1) (r4.1 + r6.1).toNat
    rwa [bs_size] at this
  rw [ed, bs_take, bs_app, bs_app, bs_size, bs_size]
  refine Dr.pos (by omega) (Dr.pos (by omega) (Dr.pos ?_ (Dr.now ⟨_, rfl⟩)))
  simp only [List.length_append, List.length_take, List.length_drop]; omega
theorem FnProg_rest (p : List S60) (hp : p.length ≤ 12) (s : List Int) (hs : bytesOk s) : Ev (fun k => (spec_DrawProgRead.f k s).bind fun t8 => ((impl_ProgRead.f k t8).bind fun t9 => ((spec_ProgRead.f k t8).bind fun t10 => (if (t9.2 == t10.2) = true then (if t9.2 = true then ((impl_ProgText.f k t9.1).bind fun t11 => (if (t11 = t8) then ((impl_ProgOk.f k t9.1).bind fun t12 => (if t12 = true then ((impl_ProgLoads.f k p).bind fun t13 => ((impl_ProgPuts.f k p).bind fun t14 => (laws_FnProg.l0 k (0 : Int) p t13 t14))) else (some (false)))) else (some (false)))) else ((impl_ProgLoads.f k p).bind fun t15 => ((impl_ProgPuts.f k p).bind fun t16 => (laws_FnProg.l0 k (0 : Int) p t15 t16)))) else (some (false)))))) true := by
  have last : Ev (fun k => (impl_ProgLoads.f k p).bind fun t13 => ((impl_ProgPuts.f k p).bind fun t14 => (laws_FnProg.l0 k (0 : Int) p t13 t14))) true :=
    (impl_ProgLoads_ev p (by omega)).bind ((impl_ProgPuts_ev p (by omega)).bind (fp_l0 p (by omega) (pick (fun i => p.any (hit 1 i)) 4).length 0 (by omega)))
  obtain ⟨r, hr, t, rfl⟩ := DrawProgRead_dr s hs
  refine hr.bind ((impl_ProgRead_ev t).bind ((spec_ProgRead_ev t).bind (ev_pos (by simp) ?_)))
  by_cases h : ∃ l, progOk l ∧ t = progL l
  · obtain ⟨l, ok, rfl⟩ := h
    rw [rdP_some ok rfl]
    have hw : ∀ b ∈ l, insW b := fun b hb => by
      have := ok.2 b hb
      unfold insIn at this
      unfold insW i64; omega
    have hl := ok.1
    obtain ⟨v, hv, hvi⟩ := impl_ProgOk_ev l (by omega)
    obtain rfl : v = true := hvi.2 ok
    exact ev_pos rfl ((impl_ProgText_ev l (by omega) hw).bind (ev_pos rfl (hv.bind (ev_pos rfl last))))
  · rw [rdP_none h]
    exact ev_neg (by simp) last
theorem FnProg : laws_FnProg.Pure := by
  intro t s ⟨_, ht⟩ ⟨_, hs⟩
  refine Ev.rounds ?_
  unfold laws_FnProg.f
  refine ev_ite (fun _ => ev_now _) (fun _ => ev_ite (fun _ => ev_now _) (fun _ => ?_))
  obtain ⟨p, hb, hbl, hbw⟩ := DrawProgText_dr t (bytes_wf ht)
  obtain ⟨v, hv, hvi⟩ := impl_ProgOk_ev p (by omega)
  obtain ⟨u, hu, hui⟩ := spec_ProgOk_ev p (by omega)
  obtain rfl : v = u := Bool.eq_iff_iff.2 (hvi.trans hui.symm)
  have rest := FnProg_rest p hbl s (bytes_wf hs)
  refine hb.bind ((impl_ProgText_ev p (by omega) hbw).bind ((impl_ProgRead_ev (progL p)).bind ((spec_ProgText_ev p (by omega) hbw).bind (ev_pos rfl (hv.bind (hu.bind (ev_pos (by simp) (hu.bind ?_))))))))
  by_cases c : progOk p
  · rw [rdP_some c rfl]
    obtain rfl : v = true := hvi.2 c
    obtain ⟨w, hw, hwi⟩ := ProgSame_ev p p (by omega)
    obtain rfl : w = true := hwi.2 rfl
    exact ev_pos rfl (ev_pos rfl (hw.bind (ev_pos rfl rest)))
  · exact ev_neg (fun h => c (hvi.1 h)) rest

end Go.Proofs.YtlpgpckggnimhaaDoor.Pure
