/- The pure law of FnExactProgText: what the law's function of numbers and lists answers is true, for every input. Its condition: none but what the row says. -/
import Derived.Test.YtlpgpckggnimhaaDoorPFnExactProgTextx3
import Derived.Test.YtlpgpckggnimhaaDoorAm43
namespace Go.Proofs.YtlpgpckggnimhaaDoor.Pure
open Go.RowKit Go.Proofs.YtlpgpckggnimhaaDoor.PFnExactProgText Go.Proofs.YtlpgpckggnimhaaDoorW.PrintWords Go.Proofs.YtlpgpckggnimhaaDoorW.PrintLast
open Am
set_option linter.unusedVariables false
set_option linter.unusedSimpArgs false
set_option linter.unusedSectionVars false

theorem wrap_succ {i n : Nat} (h : i < n) (hn : n ≤ 9223372036854775807) : wrap64 ((i : Int) + 1) = ((i + 1 : Nat) : Int) := by unfold wrap64; omega
theorem wrap_id {a : Int} (h0 : -9223372036854775808 ≤ a) (h1 : a ≤ 9223372036854775807) : wrap64 a = a := by unfold wrap64; omega
theorem ev_pos {α : Type} {c : Prop} [Decidable c] {f g : Nat → Option α} {r : α} (h : c) (e : Ev f r) : Ev (fun k => if c then f k else g k) r := by
  simp only [if_pos h]; exact e
theorem ev_neg {α : Type} {c : Prop} [Decidable c] {f g : Nat → Option α} {r : α} (h : ¬ c) (e : Ev g r) : Ev (fun k => if c then f k else g k) r := by
  simp only [if_neg h]; exact e
theorem ev_ite {α : Type} {c : Prop} [Decidable c] {f g : Nat → Option α} {r : α} (h1 : c → Ev f r) (h2 : ¬ c → Ev g r) : Ev (fun k => if c then f k else g k) r := by
  by_cases h : c
  · exact ev_pos h (h1 h)
  · exact ev_neg h (h2 h)
theorem ev_now {α : Type} (r : α) : Ev (fun _ => some r) r := Ev.now r
theorem ev_get {α β : Type} {g : Option α} {f : Nat → α → Option β} {a : α} {r : β} (h : g = some a) (k : Ev (fun n => f n a) r) : Ev (fun n => g.bind (f n)) r := by
  subst h; exact k
/-- A loop over 0 .. n - 1: what it answers from i on. -/
theorem ev_loop {α : Type} (n : Nat) (F : Nat → Nat → Option α) (v : Nat → α) (step : ∀ i, i < n → Ev (F (i + 1)) (v (i + 1)) → Ev (F i) (v i)) (last : Ev (F n) (v n)) : ∀ i, i ≤ n → Ev (F i) (v i) := by
  have key : ∀ d i, i + d = n → Ev (F i) (v i) := by
    intro d
    induction d with
    | zero => intro i h; obtain rfl : i = n := by omega
              exact last
    | succ d ih => intro i h; exact step i (by omega) (ih (i + 1) (by omega))
  exact fun i hi => key (n - i) i (by omega)
theorem lt_cast {i n : Nat} (h : i < n) : (i : Int) < (n : Int) := Int.ofNat_lt.2 h
theorem nn_cast (i : Nat) : (0 : Int) ≤ (i : Int) := Int.natCast_nonneg i
theorem set_state {α : Type} (xs : List α) (z : α) (i : Nat) (h : i < xs.length) : (xs.take i ++ List.replicate (xs.length - i) z).set i xs[i] = xs.take (i + 1) ++ List.replicate (xs.length - (i + 1)) z := by
  rw [List.take_succ_eq_append_getElem h, List.append_assoc, List.set_append_right _ _ (by rw [List.length_take]; omega)]
  congr 1
  rw [List.length_take, Nat.min_eq_left (by omega), Nat.sub_self, show xs.length - i = (xs.length - (i + 1)) + 1 by omega, List.replicate_succ]
  rfl
theorem state_len {α : Type} (xs : List α) (z : α) (i : Nat) (h : i ≤ xs.length) : (xs.take i ++ List.replicate (xs.length - i) z).length = xs.length := by
  rw [List.length_append, List.length_take, List.length_replicate]; omega
theorem drop_eq {α : Type} {x y : List α} (hl : x.length = y.length) {i : Nat} (h : i < x.length) : (x.drop i = y.drop i) ↔ (x[i] = y[i]'(hl ▸ h) ∧ x.drop (i + 1) = y.drop (i + 1)) := by
  have h2 : i < y.length := hl ▸ h
  rw [List.drop_eq_getElem_cons h, List.drop_eq_getElem_cons h2, List.cons.injEq]
theorem ext_Ins {a b : S60} (h0 : a.f0 = b.f0) (h1 : a.f1 = b.f1) (h2 : a.f2 = b.f2) (h3 : a.f3 = b.f3) : a = b := by
  obtain ⟨a0_, a1_, a2_, a3_⟩ := a; obtain ⟨b0_, b1_, b2_, b3_⟩ := b; simp_all
theorem rdi_Ins {l : List S60} {i : Nat} (h : i < l.length) : rd_T60 l (i : Int) = l[i] := by
  unfold rd_T60
  rw [Int.toNat_natCast, List.getD_eq_getElem?_getD, List.getElem?_eq_getElem h]
  rfl

/-- An instruction that is right. -/
def insIn (x : S60) : Prop :=
  (x.f0 = 1 ∧ 0 ≤ x.f1 ∧ x.f1 ≤ 3 ∧ 0 ≤ x.f2 ∧ x.f2 ≤ 3 ∧ x.f3 = 0) ∨ (x.f0 = 2 ∧ 0 ≤ x.f1 ∧ x.f1 ≤ 3 ∧ 0 ≤ x.f2 ∧ x.f2 ≤ 3 ∧ x.f3 = 0) ∨
  (x.f0 = 3 ∧ 0 ≤ x.f1 ∧ x.f1 ≤ 3 ∧ x.f2 = 0 ∧ -1000000 ≤ x.f3 ∧ x.f3 ≤ 1000000) ∨ ((x.f0 = 4 ∨ x.f0 = 5) ∧ 0 ≤ x.f1 ∧ x.f1 ≤ 3 ∧ 0 ≤ x.f2 ∧ x.f2 ≤ 3 ∧ x.f3 = 0) ∨
  (x.f0 = 6 ∧ 0 ≤ x.f1 ∧ x.f1 ≤ 3 ∧ 0 ≤ x.f2 ∧ x.f2 ≤ 3 ∧ 1 ≤ x.f3 ∧ x.f3 ≤ 10) ∨ (x.f0 = 7 ∧ x.f1 = 0 ∧ x.f2 = 0 ∧ x.f3 = 0)
instance (x : S60) : Decidable (insIn x) := by unfold insIn; infer_instance
theorem nums_one (d : Int) (u : Nat) (h : d = (48 + u : Nat)) (hu : u < 10) : strOfNums [d] = bs [UInt8.ofNat (48 + u)] := by subst h; rfl
theorem l15Dec_l0 : ∀ (j n : Nat) (x : Bytes), n < 10 ^ (j + 1) → n < 9223372036854775808 → x.length + j ≤ 60 → Ev (fun k => spec_l15Dec.l0 k (n : Int) (bs x)) (bs (Lib.decDigits n ++ x)) := by
  intro j
  induction j with
  | zero =>
    intro n x hn hm hx
    have h9 : n < 10 := by simpa using hn
    refine Ev.step (fun k => by rw [spec_l15Dec.l0]) (ev_neg (by omega) ?_)
    simp only [Option.bind_some]
    rw [nums_one _ n (by rw [wrap_id (by omega) (by omega)]; omega) h9, bs_size, bs_size, bs_app, dec_small h9]
    exact ev_pos (by simp; omega) (ev_now _)
  | succ j ih =>
    intro n x hn hm hx
    by_cases h9 : n < 10
    · refine Ev.step (fun k => by rw [spec_l15Dec.l0]) (ev_neg (by omega) ?_)
      simp only [Option.bind_some]
      rw [nums_one _ n (by rw [wrap_id (by omega) (by omega)]; omega) h9, bs_size, bs_size, bs_app, dec_small h9]
      exact ev_pos (by simp; omega) (ev_now _)
    · refine Ev.step (fun k => by rw [spec_l15Dec.l0]) (ev_pos (by omega) ?_)
      simp only [Option.bind_some]
      have e1 : Int.tmod (n : Int) 10 = ((n % 10 : Nat) : Int) := by rw [Int.tmod_eq_emod_of_nonneg (by omega)]; omega
      have e2 : Int.tdiv (n : Int) 10 = ((n / 10 : Nat) : Int) := by rw [Int.tdiv_eq_ediv_of_nonneg (by omega)]; omega
      rw [nums_one _ (n % 10) (by rw [e1, wrap_id (by omega) (by omega)]; omega) (by omega), bs_size, bs_size, bs_app, e2, wrap_id (by omega) (by omega), dec_big h9, List.append_assoc]
      exact ev_pos (by simp; omega) (ih (n / 10) _ (by rw [Nat.pow_succ] at hn; omega) (by omega) (by simp; omega))
theorem l15Dec_ev (n : Int) (h0 : -9223372036854775808 ≤ n) (h1 : n ≤ 9223372036854775807) : Ev (fun k => spec_l15Dec.f k n) (bs (Lib.itoa n)) := by
  have pos : ∀ m : Int, 0 ≤ m → m ≤ 9223372036854775807 → Ev (fun k => spec_l15Dec.f k m) (bs (Lib.decDigits m.toNat)) := by
    intro m h0 h1
    refine Ev.step (fun k => by rw [spec_l15Dec.f]) (ev_neg (by omega) (ev_neg (by omega) ?_))
    have := l15Dec_l0 18 m.toNat [] (by omega) (by omega) (by simp)
    rw [List.append_nil, Int.toNat_of_nonneg h0] at this
    exact this
  by_cases hneg : n < 0
  · refine Ev.step (fun k => by rw [spec_l15Dec.f]) ?_
    by_cases hm : n < -9223372036854775807
    · have : n = -9223372036854775808 := by omega
      subst this
      refine ev_pos (by omega) ?_
      rw [itoa_neg (by omega)]
      have e : Lib.decDigits (-9223372036854775808 : Int).natAbs = [57, 50, 50, 51, 51, 55, 50, 48, 51, 54, 56, 53, 52, 55, 55, 53, 56, 48, 56] := by
        rw [← good_dec 19 [57, 50, 50, 51, 51, 55, 50, 48, 51, 54, 56, 53, 52, 55, 55, 53, 56, 48, 56] rfl ((goodB _).1 (by decide))]
        congr 1
      rw [e]
      exact ev_now _
    · refine ev_neg hm (ev_pos hneg ?_)
      rw [wrap_id (by omega) (by omega)]
      refine (pos (-n) (by omega) (by omega)).bind ?_
      rw [itoa_neg hneg, show (-n).toNat = n.natAbs by omega, bs_size]
      have hl := dec_len 18 n.natAbs (by omega)
      refine ev_pos (by omega) ?_
      rw [show (⟨#[45]⟩ : ByteArray) = bs [45] from rfl, bs_app]
      exact ev_now _
  · rw [itoa_nn (by omega)]
    exact pos n (by omega) h1
theorem itoa64 {n : Int} (h0 : -9223372036854775808 ≤ n) (h1 : n ≤ 9223372036854775807) : (Lib.itoa n).length ≤ 20 := itoa_len 18 (by omega)
theorem Itoa_ev (n : Int) (h0 : -9223372036854775808 ≤ n) (h1 : n ≤ 9223372036854775807) : Ev (fun k => strconv_Itoa.f k n) (bs (Lib.itoa n)) := by
  unfold strconv_Itoa.f
  exact ev_pos ⟨h0, h1⟩ (ev_now _)
theorem Join_ev (ps : List Bytes) (c : UInt8) (h : ps.length ≤ 140737488355328) (hl : (Lib.join ps [c]).length ≤ 140737488355328) : Ev (fun k => strings_Join.f k (ps.map bs) (bs [c])) (bs (Lib.join ps [c])) := by
  unfold strings_Join.f
  refine ev_pos ⟨by simpa using h, ?_⟩ ?_
  · rw [List.map_map, show ((fun s : ByteArray => s.data.toList) ∘ bs) = id from rfl, List.map_id]; exact hl
  · rw [joinB_bs]; exact ev_now _
theorem join_snoc (ps : List Bytes) (p : Bytes) (c : UInt8) : Lib.join (ps ++ [p]) [c] = if ps = [] then p else Lib.join ps [c] ++ [c] ++ p := by
  cases ps with
  | nil => rw [if_pos rfl, List.nil_append, Lib.join_one]
  | cons q r =>
    rw [if_neg (by simp), List.cons_append, Lib.join_cons, Lib.join_cons]
    simp [Lib.joinTail, List.append_assoc]
theorem join_len (ps : List Bytes) (c : UInt8) (m : Nat) (h : ∀ p ∈ ps, p.length ≤ m) : (Lib.join ps [c]).length ≤ (m + 1) * ps.length := by
  induction ps with
  | nil => simp [Lib.join_nil]
  | cons p r ih =>
    have hp := h p (by simp)
    have := ih (fun q hq => h q (List.mem_cons_of_mem _ hq))
    cases r with
    | nil => rw [Lib.join_one]; simp; omega
    | cons q r =>
      rw [join_cons2, List.length_append, List.length_cons]
      simp only [List.length_cons, Nat.mul_add, Nat.mul_one] at this ⊢
      omega

theorem wf64 {n : Int} (h : (Lit.int .i64 n).wf = true) : -9223372036854775808 ≤ n ∧ n ≤ 9223372036854775807 := by
  simp [Lit.wf, IntKind.min, IntKind.max, IntKind.bits, IntKind.signed] at h
  omega

/-- Instructions as text. -/
def spN (n : Int) : Bytes := 32 :: Lib.itoa n
def insT (k a b n : Int) : Bytes :=
  if k = 1 then [108, 111, 97, 100] ++ spN a ++ spN b else if k = 2 then [112, 117, 116] ++ spN a ++ spN b else if k = 3 then [110, 117, 109] ++ spN a ++ spN n else if k = 4 then [97, 100, 100] ++ spN a ++ spN b
  else if k = 5 then [115, 117, 98] ++ spN a ++ spN b else if k = 6 then [108, 101, 115, 115] ++ spN a ++ spN b ++ spN n else if k = 7 then [102, 97, 105, 108] else [110, 111, 110, 101]
def i64 (n : Int) : Prop := -9223372036854775808 ≤ n ∧ n ≤ 9223372036854775807
def insW (x : S60) : Prop := i64 x.f1 ∧ i64 x.f2 ∧ i64 x.f3
def insTx (x : S60) : Bytes := insT x.f0 x.f1 x.f2 x.f3
def progL (l : List S60) : Bytes := Lib.join (l.map insTx) [44]
theorem spN_len {n : Int} (h : i64 n) : (spN n).length ≤ 21 := by have := itoa64 h.1 h.2; unfold spN; simp; omega
theorem insT_len {k a b n : Int} (ha : i64 a) (hb : i64 b) (hn : i64 n) : (insT k a b n).length ≤ 67 := by
  have h1 := spN_len ha; have h2 := spN_len hb; have h3 := spN_len hn
  unfold insT
  repeat' split
  all_goals (simp; try omega)
theorem progL_len (l : List S60) (h : ∀ x ∈ l, insW x) : (progL l).length ≤ 68 * l.length := by
  have := join_len (l.map insTx) 44 67 (fun p hp => by obtain ⟨x, hx, rfl⟩ := List.mem_map.1 hp; exact insT_len (h x hx).1 (h x hx).2.1 (h x hx).2.2)
  rw [List.length_map] at this; exact this
theorem progL_snoc {l : List S60} {i : Nat} (h : i < l.length) : progL (l.take (i + 1)) = if i = 0 then insTx l[i] else progL (l.take i) ++ [44] ++ insTx l[i] := by
  unfold progL
  rw [List.take_succ_eq_append_getElem h, List.map_append, List.map_singleton, join_snoc]
  by_cases hi : i = 0
  · subst hi; simp
  · rw [if_neg hi, if_neg]
    intro e
    have := congrArg List.length e
    rw [List.length_map, List.length_take, List.length_nil] at this; omega

def wordsL : List ByteArray := [bs [], bs [108, 111, 97, 100], bs [112, 117, 116], bs [110, 117, 109], bs [97, 100, 100], bs [115, 117, 98], bs [108, 101, 115, 115], bs [102, 97, 105, 108]]
theorem words_ev : Ev (fun k => spec_l2Words.f k) wordsL := ev_now _
theorem l2two (j : Int) (w : Bytes) (e : rdOf (default : ByteArray) wordsL j = bs w) (j0 : 0 ≤ j) (j1 : j < 8) (hw : w.length ≤ 10) (a b : Int) (ha : i64 a) (hb : i64 b) :
    Ev (fun k => (spec_l2Words.f k).bind fun t0 => (if ((0 : Int) ≤ j) then (if (j < ((t0.length : Nat) : Int)) then (if ((((rdOf (default : ByteArray) t0 j)).size + 1) ≤ 9223372036854775807) then ((spec_l15Dec.f k a).bind fun t1 => (if (((((rdOf (default : ByteArray) t0 j) ++ (bs [32]))).size + t1.size) ≤ 9223372036854775807) then (if ((((((rdOf (default : ByteArray) t0 j) ++ (bs [32])) ++ t1)).size + 1) ≤ 9223372036854775807) then ((spec_l15Dec.f k b).bind fun t2 => (if (((((((rdOf (default : ByteArray) t0 j) ++ (bs [32])) ++ t1) ++ (bs [32]))).size + t2.size) ≤ 9223372036854775807) then (some ((((((rdOf (default : ByteArray) t0 j) ++ (bs [32])) ++ t1) ++ (bs [32])) ++ t2))) else (none))) else (none)) else (none))) else (none)) else (none)) else (none))) (bs (w ++ spN a ++ spN b)) := by
  have l1 := itoa64 ha.1 ha.2
  have l2 := itoa64 hb.1 hb.2
  refine words_ev.bind (ev_pos j0 (ev_pos (by simpa [wordsL] using j1) ?_))
  rw [e]
  refine ev_pos (by rw [bs_size]; omega) ((l15Dec_ev a ha.1 ha.2).bind ?_)
  simp only [bs_app, bs_size]
  refine ev_pos (by simp; omega) (ev_pos (by simp; omega) ((l15Dec_ev b hb.1 hb.2).bind ?_))
  simp only [bs_app, bs_size]
  refine ev_pos (by simp; omega) ?_
  have : w ++ [32] ++ Lib.itoa a ++ [32] ++ Lib.itoa b = w ++ spN a ++ spN b := by unfold spN; simp
  rw [this]; exact ev_now _
theorem l2Text_ev (k a b n : Int) (ha : i64 a) (hb : i64 b) (hn : i64 n) : Ev (fun j => spec_l2Text.f j k a b n) (bs (insT k a b n)) := by
  have l1 := itoa64 ha.1 ha.2
  have l2 := itoa64 hb.1 hb.2
  have l3 := itoa64 hn.1 hn.2
  unfold spec_l2Text.f
  by_cases h1 : k = 1
  · subst h1; exact ev_pos rfl (ev_pos rfl (l2two 1 [108, 111, 97, 100] rfl (by omega) (by omega) (by simp) a b ha hb))
  refine ev_neg h1 ?_
  by_cases h2 : k = 2
  · subst h2; exact ev_pos rfl (ev_pos rfl (l2two 2 [112, 117, 116] rfl (by omega) (by omega) (by simp) a b ha hb))
  refine ev_neg h2 ?_
  by_cases h4 : k = 4
  · subst h4; exact ev_pos rfl (ev_pos rfl (l2two 4 [97, 100, 100] rfl (by omega) (by omega) (by simp) a b ha hb))
  refine ev_neg h4 ?_
  by_cases h5 : k = 5
  · subst h5
    first
      | exact ev_pos rfl (ev_pos rfl (l2two 5 [115, 117, 98] rfl (by omega) (by omega) (by simp) a b ha hb))
      | exact ev_pos rfl (l2two 5 [115, 117, 98] rfl (by omega) (by omega) (by simp) a b ha hb)
  first
    | refine ev_neg h5 ?_
    | skip
  by_cases h3 : k = 3
  · subst h3
    refine ev_pos rfl ((l15Dec_ev a ha.1 ha.2).bind ?_)
    simp only [bs_app, bs_size]
    refine ev_pos (by omega) (ev_pos (by simp; omega) ((l15Dec_ev n hn.1 hn.2).bind ?_))
    simp only [bs_app, bs_size]
    refine ev_pos (by simp; omega) ?_
    have : [110, 117, 109, 32] ++ Lib.itoa a ++ [32] ++ Lib.itoa n = insT 3 a b n := by unfold insT spN; simp
    rw [this]; exact ev_now _
  refine ev_neg h3 ?_
  by_cases h6 : k = 6
  · subst h6
    refine ev_pos rfl ((l15Dec_ev a ha.1 ha.2).bind ?_)
    simp only [bs_app, bs_size]
    refine ev_pos (by omega) (ev_pos (by simp; omega) ((l15Dec_ev b hb.1 hb.2).bind ?_))
    simp only [bs_app, bs_size]
    refine ev_pos (by simp; omega) (ev_pos (by simp; omega) ((l15Dec_ev n hn.1 hn.2).bind ?_))
    simp only [bs_app, bs_size]
    refine ev_pos (by simp; omega) ?_
    have : [108, 101, 115, 115, 32] ++ Lib.itoa a ++ [32] ++ Lib.itoa b ++ [32] ++ Lib.itoa n = insT 6 a b n := by unfold insT spN; simp
    rw [this]; exact ev_now _
  refine ev_neg h6 ?_
  by_cases h7 : k = 7
  · subst h7; exact ev_pos rfl (ev_now _)
  refine ev_neg h7 ?_
  have : insT k a b n = [110, 111, 110, 101] := by unfold insT; simp [h1, h2, h3, h4, h5, h6, h7]
  rw [this]; exact ev_now _
theorem spec_ProgText_ev (l : List S60) (hn : l.length ≤ 1048576) (hw : ∀ x ∈ l, insW x) : Ev (fun k => spec_ProgText.f k l) (bs (progL l)) := by
  have key := ev_loop l.length (fun i k => spec_ProgText.l0 k l (bs (progL (l.take i))) (i : Int)) (fun _ => bs (progL l)) (fun i hi ih => by
    refine Ev.step (fun k => by rw [spec_ProgText.l0]) ?_
    have hb := hw _ (List.getElem_mem hi)
    have hb1 := insT_len (k := (l[i]).f0) hb.1 hb.2.1 hb.2.2
    have hl := progL_len (l.take i) (fun b h => hw b (List.mem_of_mem_take h))
    rw [List.length_take] at hl
    have hs := progL_snoc hi
    refine ev_pos (lt_cast hi) ?_
    rw [rdi_Ins hi, wrap_succ hi (by omega)]
    by_cases h0 : i = 0
    · rw [if_pos h0] at hs
      refine ev_neg (by omega) (ev_pos (nn_cast i) (ev_pos (lt_cast hi) ?_))
      have e0 : progL (l.take i) = [] := by subst h0; rfl
      rw [e0]
      refine (l2Text_ev _ _ _ _ hb.1 hb.2.1 hb.2.2).bind ?_
      rw [bs_app, List.nil_append]
      refine ev_pos (by rw [bs_size, bs_size]; simp; omega) ?_
      rw [hs] at ih; exact ih
    · rw [if_neg h0] at hs
      refine ev_pos (by omega) (ev_pos (by rw [bs_size]; omega) (ev_pos (nn_cast i) (ev_pos (lt_cast hi) ?_)))
      refine (l2Text_ev _ _ _ _ hb.1 hb.2.1 hb.2.2).bind ?_
      rw [bs_app, bs_app]
      refine ev_pos (by rw [bs_size, bs_size]; simp; omega) ?_
      rw [hs] at ih; exact ih) (by
    refine Ev.step (fun k => by rw [spec_ProgText.l0]) (ev_neg (by omega) ?_)
    rw [List.take_length]; exact ev_now _) 0 (Nat.zero_le _)
  unfold spec_ProgText.f
  exact key

theorem impl_insText_ev (k a b n : Int) (ha : i64 a) (hb : i64 b) (hn : i64 n) : Ev (fun j => impl_insText.f j k a b n) (bs (insT k a b n)) := by
  have l1 := itoa64 ha.1 ha.2
  have l2 := itoa64 hb.1 hb.2
  have l3 := itoa64 hn.1 hn.2
  unfold impl_insText.f
  refine (Itoa_ev a ha.1 ha.2).bind (ev_pos (by rw [bs_size]; omega) ((Itoa_ev b hb.1 hb.2).bind (ev_pos (by rw [bs_size]; omega) ((Itoa_ev n hn.1 hn.2).bind (ev_pos (by rw [bs_size]; omega) ?_)))))
  simp only [bs_app, bs_size]
  unfold insT spN
  refine ev_ite (fun h => ?_) (fun h => ?_)
  · rw [if_pos h]; exact ev_pos (by simp; omega) (ev_pos (by simp; omega) (ev_now _))
  rw [if_neg h]
  refine ev_ite (fun h => ?_) (fun h => ?_)
  · rw [if_pos h]; exact ev_pos (by simp; omega) (ev_pos (by simp; omega) (ev_now _))
  rw [if_neg h]
  refine ev_ite (fun h => ?_) (fun h => ?_)
  · rw [if_pos h]; exact ev_pos (by simp; omega) (ev_pos (by simp; omega) (ev_now _))
  rw [if_neg h]
  refine ev_ite (fun h => ?_) (fun h => ?_)
  · rw [if_pos h]; exact ev_pos (by simp; omega) (ev_pos (by simp; omega) (ev_now _))
  rw [if_neg h]
  refine ev_ite (fun h => ?_) (fun h => ?_)
  · rw [if_pos h]; exact ev_pos (by simp; omega) (ev_pos (by simp; omega) (ev_now _))
  rw [if_neg h]
  refine ev_ite (fun h => ?_) (fun h => ?_)
  · rw [if_pos h]; exact ev_pos (by simp; omega) (ev_pos (by simp; omega) (ev_pos (by simp; omega) (ev_now _)))
  rw [if_neg h]
  refine ev_ite (fun h => ?_) (fun h => ?_)
  · rw [if_pos h]; exact ev_now _
  rw [if_neg h]; exact ev_now _

theorem impl_ProgText_ev (l : List S60) (hn : l.length ≤ 1048576) (hw : ∀ x ∈ l, insW x) : Ev (fun k => impl_ProgText.f k l) (bs (progL l)) := by
  have key := ev_loop l.length (fun i k => impl_ProgText.l0 k l (l.length : Int) (i : Int) ((l.take i).map (fun b => bs (insTx b)))) (fun _ => bs (progL l)) (fun i hi ih => by
    refine Ev.step (fun k => by rw [impl_ProgText.l0]) ?_
    have hb := hw _ (List.getElem_mem hi)
    refine ev_pos (lt_cast hi) (ev_pos (nn_cast i) (ev_pos (lt_cast hi) ?_))
    rw [rdi_Ins hi, wrap_succ hi (by omega)]
    refine (impl_insText_ev _ _ _ _ hb.1 hb.2.1 hb.2.2).bind (ev_pos (by simp; omega) ?_)
    have e : (l.take i).map (fun b => bs (insTx b)) ++ [bs (insT (l[i]).f0 (l[i]).f1 (l[i]).f2 (l[i]).f3)] = (l.take (i + 1)).map (fun b => bs (insTx b)) := by
      rw [List.take_succ_eq_append_getElem hi, List.map_append]; rfl
    rw [e]; exact ih) (by
    refine Ev.step (fun k => by rw [impl_ProgText.l0]) (ev_neg (by omega) ?_)
    rw [List.take_length, show (l.map fun b => bs (insTx b)) = (l.map insTx).map bs by rw [List.map_map]; rfl]
    have hl := progL_len l hw
    exact (Join_ev (l.map insTx) 44 (by simp; omega) (by show (progL l).length ≤ _; omega)).bind (ev_now _)) 0 (Nat.zero_le _)
  unfold impl_ProgText.f
  exact key

theorem szInsS_some (l : List S93) (a : Int) (hn : l.length ≤ 9223372036854775807) (h0 : 0 ≤ a) (h1 : a ≤ 1048576) : laws_szInsS.f l a = some (if a < l.length then -1 else a - l.length) := by
  unfold laws_szInsS.f
  have hw : wrap64 (a - (l.length : Int)) = a - l.length := wrap_id (by omega) (by omega)
  rw [hw]
  by_cases h : a < l.length
  · rw [if_pos (by omega), if_pos h]
  · rw [if_neg (by omega), if_neg h]

theorem rdl_Ins {l : List S93} {i : Nat} (h : i < l.length) : rd_T93 l (i : Int) = l[i] := by
  unfold rd_T93
  rw [Int.toNat_natCast, List.getD_eq_getElem?_getD, List.getElem?_eq_getElem h]
  rfl

def toIns (x : S93) : S60 := ⟨x.f0, x.f1, x.f2, x.f3⟩
theorem toInsS_ev (l : List S93) (hn : l.length ≤ 8796093022208) : Ev (fun k => laws_toInsS.f k l) (l.map toIns) := by
  unfold laws_toInsS.f
  refine ev_pos (nn_cast _) (ev_pos (by rw [Int.toNat_natCast]; omega) ?_)
  rw [Int.toNat_natCast]
  have hm : (l.map toIns).length = l.length := List.length_map _
  have key := ev_loop l.length (fun i k => laws_toInsS.l0 k l ((l.map toIns).take i ++ List.replicate ((l.map toIns).length - i) z60) (i : Int)) (fun _ => l.map toIns) (fun i hi ih => by
      refine Ev.step (fun k => by rw [laws_toInsS.l0]) ?_
      refine ev_pos (lt_cast hi) (ev_pos (nn_cast i) ?_)
      rw [rdl_Ins hi, wrap_succ hi (by omega)]
      refine ev_get (a := ((l[i]).f0, (l[i]).f1, (l[i]).f2, (l[i]).f3)) rfl ?_
      refine ev_pos (by rw [state_len _ _ _ (by omega), hm]; exact lt_cast hi) ?_
      have hs := set_state (l.map toIns) z60 i (by rw [hm]; exact hi)
      rw [List.getElem_map] at hs
      rw [Int.toNat_natCast]
      simp only [toIns] at hs ⊢ ih
      rw [hs]
      exact ih) (by
      refine Ev.step (fun k => by rw [laws_toInsS.l0]) ?_
      refine ev_neg (by omega) ?_
      rw [hm, Nat.sub_self, List.replicate_zero, List.append_nil, ← hm, List.take_length]
      exact ev_now _) 0 (Nat.zero_le _)
  simpa [hm] using key

theorem eqIns_some (a b : S60) : ∃ v, laws_eqIns.f a.f0 a.f1 a.f2 a.f3 b.f0 b.f1 b.f2 b.f3 = some v ∧ (v = true ↔ a = b) := by
  unfold laws_eqIns.f
  by_cases h0 : a.f0 = b.f0
  case neg => exact ⟨false, by simp [h0], by simp; intro h; exact h0 (by rw [h])⟩
  by_cases h1 : a.f1 = b.f1
  case neg => exact ⟨false, by simp [h0, h1], by simp; intro h; exact h1 (by rw [h])⟩
  by_cases h2 : a.f2 = b.f2
  case neg => exact ⟨false, by simp [h0, h1, h2], by simp; intro h; exact h2 (by rw [h])⟩
  by_cases h3 : a.f3 = b.f3
  case neg => exact ⟨false, by simp [h0, h1, h2, h3], by simp; intro h; exact h3 (by rw [h])⟩
  exact ⟨true, by simp [h0, h1, h2, h3], by simp; exact ext_Ins h0 h1 h2 h3⟩
theorem eqInsS_ev (x y : List S60) (hn : x.length ≤ 9223372036854775807) : ∃ v, Ev (fun k => laws_eqInsS.f k x y) v ∧ (v = true ↔ x = y) := by
  classical
  by_cases hl : x.length = y.length
  · have key := ev_loop x.length (fun i k => laws_eqInsS.l0 k x y (i : Int)) (fun i => decide (x.drop i = y.drop i)) (fun i hi ih => by
      refine Ev.step (fun k => by rw [laws_eqInsS.l0]) ?_
      refine ev_pos (lt_cast hi) (ev_pos (nn_cast i) (ev_pos (lt_cast (hl ▸ hi)) ?_))
      rw [rdi_Ins hi, rdi_Ins (hl ▸ hi), wrap_succ hi hn]
      obtain ⟨v, hv, hvi⟩ := eqIns_some x[i] (y[i]'(hl ▸ hi))
      refine ev_get hv ?_
      simp only [drop_eq hl hi]
      by_cases h1 : v = true
      · simp only [hvi.1 h1, true_and]
        exact ev_pos h1 ih
      · simp only [show ¬ (x[i] = y[i]'(hl ▸ hi)) from fun h => h1 (hvi.2 h), false_and, decide_false]
        exact ev_neg h1 (ev_now _)) (by
      refine Ev.step (fun k => by rw [laws_eqInsS.l0]) ?_
      refine ev_neg (by omega) ?_
      rw [List.drop_length, hl, List.drop_length]
      simp only [decide_true]
      exact ev_now _) 0 (Nat.zero_le _)
    exact ⟨_, Ev.congr (fun k => by unfold laws_eqInsS.f; exact if_pos (by omega)) key, by simp⟩
  · refine ⟨false, ?_, by simp; exact fun h => hl (by rw [h])⟩
    unfold laws_eqInsS.f
    exact ev_neg (by omega) (ev_now _)

theorem FnExactProgText : laws_FnExactProgText.Pure := by
  intro l ⟨hn, hw⟩
  refine Ev.rounds ?_
  unfold laws_FnExactProgText.f
  refine ev_get (szInsS_some l 1048576 hn (by omega) (by omega)) ?_
  by_cases hs : (1048576 : Int) < l.length
  · rw [if_pos hs]
    exact ev_pos (by omega) (ev_now _)
  rw [if_neg hs]
  refine ev_neg (by omega) ?_
  have hto := toInsS_ev l (by omega)
  have hb : ∀ b ∈ l.map toIns, insW b := by
    intro b hb
    obtain ⟨x, hx, rfl⟩ := List.mem_map.1 hb
    exact ⟨wf64 (hw x hx).2.1, wf64 (hw x hx).2.2.1, wf64 (hw x hx).2.2.2⟩
  have hv := spec_ProgText_ev (l.map toIns) (by simp; omega) hb
  have hu := impl_ProgText_ev (l.map toIns) (by simp; omega) hb
  obtain ⟨e, he, hei⟩ := eqInsS_ev (l.map toIns) (l.map toIns) (by simpa using hn)
  obtain rfl : e = true := hei.2 rfl
  refine hto.bind (hv.bind (hto.bind (hu.bind (ev_pos rfl (hto.bind (he.bind ?_))))))
  exact ev_pos rfl (ev_now _)

end Go.Proofs.YtlpgpckggnimhaaDoor.Pure
