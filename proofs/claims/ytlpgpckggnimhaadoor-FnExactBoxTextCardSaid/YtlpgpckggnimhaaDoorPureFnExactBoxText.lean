/- The pure law of FnExactBoxText: what the law's function of numbers and lists answers is true, for every input. Its condition: none but what the row says. -/
import Derived.Test.YtlpgpckggnimhaaDoorPFnExactBoxTextx3
import Derived.Test.YtlpgpckggnimhaaDoorAm43
namespace Go.Proofs.YtlpgpckggnimhaaDoor.Pure
open Go.RowKit Go.Proofs.YtlpgpckggnimhaaDoor.PFnExactBoxText Go.Proofs.YtlpgpckggnimhaaDoorW.PrintWords Go.Proofs.YtlpgpckggnimhaaDoorW.PrintLast
open Am
set_option linter.unusedVariables false
set_option linter.unusedSimpArgs false
set_option linter.unusedSectionVars false

theorem wrap_succ {i n : Nat} (h : i < n) (hn : n ≤ 9223372036854775807) : wrap64 ((i : Int) + 1) = ((i + 1 : Nat) : Int) := by unfold wrap64; omega
theorem wrap_id {a : Int} (h0 : -9223372036854775808 ≤ a) (h1 : a ≤ 9223372036854775807) : wrap64 a = a := by unfold wrap64; omega
theorem ev_pos {α : Type} {c : Prop} [Decidable c] {f g : Nat → Option α} {r : α} (h : c) (e : Ev f r) : Ev (fun k => if c then f k else g k) r := by
  simp only [if_pos h]; exact e
theorem ev_neg {α : Type} {c : Prop} [Decidable c] {f g : Nat → Option α} {r : α} (h : ¬ c) (e : Ev g r) : Ev (fun k => if c then f k else g k) r := by
  simp only [if_neg h]; exact e
theorem ev_now {α : Type} (r : α) : Ev (fun _ => some r) r := Ev.now r
theorem ev_get {α β : Type} {g : Option α} {f : Nat → α → Option β} {a : α} {r : β} (h : g = some a) (k : Ev (fun n => f n a) r) : Ev (fun n => g.bind (f n)) r := by
  subst h; exact k
/-- A loop over 0 .. n - 1: what it answers from i on. -/
theorem ev_loop {α : Type} (n : Nat) (F : Nat → Nat → Option α) (v : Nat → α) (step : ∀ i, i < n → Ev (F (i + 1)) (v (i + 1)) → Ev (F i) (v i)) (last : Ev (F n) (v n)) : ∀ i, i ≤ n → Ev (F i) (v i) := by
  have key : ∀ d i, i + d = n → Ev (F i) (v i) := by
    intro d
    induction d with
    | zero => intro i h; obtain rfl : i = n := by omega
              exact last
    | succ d ih => intro i h; exact step i (by omega) (ih (i + 1) (by omega))
  exact fun i hi => key (n - i) i (by omega)
theorem lt_cast {i n : Nat} (h : i < n) : (i : Int) < (n : Int) := Int.ofNat_lt.2 h
theorem nn_cast (i : Nat) : (0 : Int) ≤ (i : Int) := Int.natCast_nonneg i
theorem set_state {α : Type} (xs : List α) (z : α) (i : Nat) (h : i < xs.length) : (xs.take i ++ List.replicate (xs.length - i) z).set i xs[i] = xs.take (i + 1) ++ List.replicate (xs.length - (i + 1)) z := by
  rw [List.take_succ_eq_append_getElem h, List.append_assoc, List.set_append_right _ _ (by rw [List.length_take]; omega)]
  congr 1
  rw [List.length_take, Nat.min_eq_left (by omega), Nat.sub_self, show xs.length - i = (xs.length - (i + 1)) + 1 by omega, List.replicate_succ]
  rfl
theorem state_len {α : Type} (xs : List α) (z : α) (i : Nat) (h : i ≤ xs.length) : (xs.take i ++ List.replicate (xs.length - i) z).length = xs.length := by
  rw [List.length_append, List.length_take, List.length_replicate]; omega
theorem drop_eq {α : Type} {x y : List α} (hl : x.length = y.length) {i : Nat} (h : i < x.length) : (x.drop i = y.drop i) ↔ (x[i] = y[i]'(hl ▸ h) ∧ x.drop (i + 1) = y.drop (i + 1)) := by
  have h2 : i < y.length := hl ▸ h
  rw [List.drop_eq_getElem_cons h, List.drop_eq_getElem_cons h2, List.cons.injEq]
theorem rd_box {l : List S70} {i : Nat} (h : i < l.length) : rd_T70 l (i : Int) = l[i] := by
  unfold rd_T70
  rw [Int.toNat_natCast, List.getD_eq_getElem?_getD, List.getElem?_eq_getElem h]
  rfl
theorem nums_one (d : Int) (u : Nat) (h : d = (48 + u : Nat)) (hu : u < 10) : strOfNums [d] = bs [UInt8.ofNat (48 + u)] := by subst h; rfl
theorem l15Dec_l0 : ∀ (j n : Nat) (x : Bytes), n < 10 ^ (j + 1) → n < 9223372036854775808 → x.length + j ≤ 60 → Ev (fun k => spec_l15Dec.l0 k (n : Int) (bs x)) (bs (Lib.decDigits n ++ x)) := by
  intro j
  induction j with
  | zero =>
    intro n x hn hm hx
    have h9 : n < 10 := by simpa using hn
    refine Ev.step (fun k => by rw [spec_l15Dec.l0]) (ev_neg (by omega) ?_)
    simp only [Option.bind_some]
    rw [nums_one _ n (by rw [wrap_id (by omega) (by omega)]; omega) h9, bs_size, bs_size, bs_app, dec_small h9]
    exact ev_pos (by simp; omega) (ev_now _)
  | succ j ih =>
    intro n x hn hm hx
    by_cases h9 : n < 10
    · refine Ev.step (fun k => by rw [spec_l15Dec.l0]) (ev_neg (by omega) ?_)
      simp only [Option.bind_some]
      rw [nums_one _ n (by rw [wrap_id (by omega) (by omega)]; omega) h9, bs_size, bs_size, bs_app, dec_small h9]
      exact ev_pos (by simp; omega) (ev_now _)
    · refine Ev.step (fun k => by rw [spec_l15Dec.l0]) (ev_pos (by omega) ?_)
      simp only [Option.bind_some]
      have e1 : Int.tmod (n : Int) 10 = ((n % 10 : Nat) : Int) := by rw [Int.tmod_eq_emod_of_nonneg (by omega)]; omega
      have e2 : Int.tdiv (n : Int) 10 = ((n / 10 : Nat) : Int) := by rw [Int.tdiv_eq_ediv_of_nonneg (by omega)]; omega
      rw [nums_one _ (n % 10) (by rw [e1, wrap_id (by omega) (by omega)]; omega) (by omega), bs_size, bs_size, bs_app, e2, wrap_id (by omega) (by omega), dec_big h9, List.append_assoc]
      exact ev_pos (by simp; omega) (ih (n / 10) _ (by rw [Nat.pow_succ] at hn; omega) (by omega) (by simp; omega))
theorem l15Dec_ev (n : Int) (h0 : -9223372036854775808 ≤ n) (h1 : n ≤ 9223372036854775807) : Ev (fun k => spec_l15Dec.f k n) (bs (Lib.itoa n)) := by
  have pos : ∀ m : Int, 0 ≤ m → m ≤ 9223372036854775807 → Ev (fun k => spec_l15Dec.f k m) (bs (Lib.decDigits m.toNat)) := by
    intro m h0 h1
    refine Ev.step (fun k => by rw [spec_l15Dec.f]) (ev_neg (by omega) (ev_neg (by omega) ?_))
    have := l15Dec_l0 18 m.toNat [] (by omega) (by omega) (by simp)
    rw [List.append_nil, Int.toNat_of_nonneg h0] at this
    exact this
  by_cases hneg : n < 0
  · refine Ev.step (fun k => by rw [spec_l15Dec.f]) ?_
    by_cases hm : n < -9223372036854775807
    · have : n = -9223372036854775808 := by omega
      subst this
      refine ev_pos (by omega) ?_
      rw [itoa_neg (by omega)]
      have e : Lib.decDigits (-9223372036854775808 : Int).natAbs = [57, 50, 50, 51, 51, 55, 50, 48, 51, 54, 56, 53, 52, 55, 55, 53, 56, 48, 56] := by
        rw [← good_dec 19 [57, 50, 50, 51, 51, 55, 50, 48, 51, 54, 56, 53, 52, 55, 55, 53, 56, 48, 56] rfl ((goodB _).1 (by decide))]
        congr 1
      rw [e]
      exact ev_now _
    · refine ev_neg hm (ev_pos hneg ?_)
      rw [wrap_id (by omega) (by omega)]
      refine (pos (-n) (by omega) (by omega)).bind ?_
      rw [itoa_neg hneg, show (-n).toNat = n.natAbs by omega, bs_size]
      have hl := dec_len 18 n.natAbs (by omega)
      refine ev_pos (by omega) ?_
      rw [show (⟨#[45]⟩ : ByteArray) = bs [45] from rfl, bs_app]
      exact ev_now _
  · rw [itoa_nn (by omega)]
    exact pos n (by omega) h1
theorem itoa64 {n : Int} (h0 : -9223372036854775808 ≤ n) (h1 : n ≤ 9223372036854775807) : (Lib.itoa n).length ≤ 20 := itoa_len 18 (by omega)
theorem Itoa_ev (n : Int) (h0 : -9223372036854775808 ≤ n) (h1 : n ≤ 9223372036854775807) : Ev (fun k => strconv_Itoa.f k n) (bs (Lib.itoa n)) := by
  unfold strconv_Itoa.f
  exact ev_pos ⟨h0, h1⟩ (ev_now _)
theorem Join_ev (ps : List Bytes) (c : UInt8) (h : ps.length ≤ 140737488355328) (hl : (Lib.join ps [c]).length ≤ 140737488355328) : Ev (fun k => strings_Join.f k (ps.map bs) (bs [c])) (bs (Lib.join ps [c])) := by
  unfold strings_Join.f
  refine ev_pos ⟨by simpa using h, ?_⟩ ?_
  · rw [List.map_map, show ((fun s : ByteArray => s.data.toList) ∘ bs) = id from rfl, List.map_id]; exact hl
  · rw [joinB_bs]; exact ev_now _
theorem join_snoc (ps : List Bytes) (p : Bytes) (c : UInt8) : Lib.join (ps ++ [p]) [c] = if ps = [] then p else Lib.join ps [c] ++ [c] ++ p := by
  cases ps with
  | nil => rw [if_pos rfl, List.nil_append, Lib.join_one]
  | cons q r =>
    rw [if_neg (by simp), List.cons_append, Lib.join_cons, Lib.join_cons]
    simp [Lib.joinTail, List.append_assoc]
theorem join_len (ps : List Bytes) (c : UInt8) (m : Nat) (h : ∀ p ∈ ps, p.length ≤ m) : (Lib.join ps [c]).length ≤ (m + 1) * ps.length := by
  induction ps with
  | nil => simp [Lib.join_nil]
  | cons p r ih =>
    have hp := h p (by simp)
    have := ih (fun q hq => h q (List.mem_cons_of_mem _ hq))
    cases r with
    | nil => rw [Lib.join_one]; simp; omega
    | cons q r =>
      rw [join_cons2, List.length_append, List.length_cons]
      simp only [List.length_cons, Nat.mul_add, Nat.mul_one] at this ⊢
      omega

theorem wf64 {n : Int} (h : (Lit.int .i64 n).wf = true) : -9223372036854775808 ≤ n ∧ n ≤ 9223372036854775807 := by
  simp [Lit.wf, IntKind.min, IntKind.max, IntKind.bits, IntKind.signed] at h
  omega

/-- Boxes as text. -/
def boxT (b : S70) : Bytes := Lib.itoa b.f1 ++ [47] ++ Lib.itoa b.f0
def boxL (l : List S70) : Bytes := Lib.join (l.map boxT) [32]
def boxW (b : S70) : Prop := (-9223372036854775808 ≤ b.f0 ∧ b.f0 ≤ 9223372036854775807) ∧ (-9223372036854775808 ≤ b.f1 ∧ b.f1 ≤ 9223372036854775807)
theorem boxT_len {b : S70} (h : boxW b) : (boxT b).length ≤ 41 := by
  have h1 := itoa64 h.1.1 h.1.2
  have h2 := itoa64 h.2.1 h.2.2
  unfold boxT; simp; omega
theorem boxL_len (l : List S70) (h : ∀ b ∈ l, boxW b) : (boxL l).length ≤ 42 * l.length := by
  have := join_len (l.map boxT) 32 41 (fun p hp => by obtain ⟨b, hb, rfl⟩ := List.mem_map.1 hp; exact boxT_len (h b hb))
  rw [List.length_map] at this; exact this
theorem boxL_snoc {l : List S70} {i : Nat} (h : i < l.length) : boxL (l.take (i + 1)) = if i = 0 then boxT l[i] else boxL (l.take i) ++ [32] ++ boxT l[i] := by
  unfold boxL
  rw [List.take_succ_eq_append_getElem h, List.map_append, List.map_singleton, join_snoc]
  by_cases hi : i = 0
  · subst hi; simp
  · rw [if_neg hi, if_neg]
    intro e
    have := congrArg List.length e
    rw [List.length_map, List.length_take, List.length_nil] at this; omega

theorem spec_BoxText_ev (l : List S70) (hn : l.length ≤ 1048576) (hw : ∀ b ∈ l, boxW b) : Ev (fun k => spec_BoxText.f k l) (bs (boxL l)) := by
  have key := ev_loop l.length (fun i k => spec_BoxText.l0 k l (bs (boxL (l.take i))) (i : Int)) (fun _ => bs (boxL l)) (fun i hi ih => by
    refine Ev.step (fun k => by rw [spec_BoxText.l0]) ?_
    have hb := hw _ (List.getElem_mem hi)
    have hb1 := itoa64 hb.1.1 hb.1.2
    have hb2 := itoa64 hb.2.1 hb.2.2
    have hl := boxL_len (l.take i) (fun b h => hw b (List.mem_of_mem_take h))
    rw [List.length_take] at hl
    have hs := boxL_snoc hi
    refine ev_pos (lt_cast hi) ?_
    rw [rd_box hi, wrap_succ hi (by omega)]
    by_cases h0 : i = 0
    · rw [if_pos h0] at hs
      refine ev_neg (by omega) (ev_pos (nn_cast i) (ev_pos (lt_cast hi) (ev_pos (nn_cast i) (ev_pos (lt_cast hi) ?_))))
      have e0 : boxL (l.take i) = [] := by subst h0; rfl
      rw [e0]
      refine (l15Dec_ev _ hb.2.1 hb.2.2).bind ?_
      rw [bs_app, bs_app, List.nil_append]
      refine ev_pos (by rw [bs_size, bs_size]; simp; omega) (ev_pos (by rw [bs_size]; omega) ((l15Dec_ev _ hb.1.1 hb.1.2).bind ?_))
      rw [bs_app]
      refine ev_pos (by rw [bs_size, bs_size]; simp; omega) ?_
      rw [hs] at ih; exact ih
    · rw [if_neg h0] at hs
      refine ev_pos (by omega) (ev_pos (by rw [bs_size]; omega) (ev_pos (nn_cast i) (ev_pos (lt_cast hi) (ev_pos (nn_cast i) (ev_pos (lt_cast hi) ?_)))))
      refine (l15Dec_ev _ hb.2.1 hb.2.2).bind ?_
      rw [bs_app, bs_app, bs_app]
      refine ev_pos (by rw [bs_size, bs_size]; simp; omega) (ev_pos (by rw [bs_size]; simp; omega) ((l15Dec_ev _ hb.1.1 hb.1.2).bind ?_))
      rw [bs_app]
      refine ev_pos (by rw [bs_size, bs_size]; simp; omega) ?_
      have e : boxL (l.take i) ++ [32] ++ Lib.itoa (l[i]).f1 ++ [47] ++ Lib.itoa (l[i]).f0 = boxL (l.take (i + 1)) := by
        rw [hs]; unfold boxT; simp [List.append_assoc]
      rw [e]; exact ih) (by
    refine Ev.step (fun k => by rw [spec_BoxText.l0]) (ev_neg (by omega) ?_)
    rw [List.take_length]; exact ev_now _) 0 (Nat.zero_le _)
  unfold spec_BoxText.f
  exact key

theorem impl_BoxText_ev (l : List S70) (hn : l.length ≤ 1048576) (hw : ∀ b ∈ l, boxW b) : Ev (fun k => impl_BoxText.f k l) (bs (boxL l)) := by
  have key := ev_loop l.length (fun i k => impl_BoxText.l0 k l (l.length : Int) (i : Int) ((l.take i).map (fun b => bs (boxT b)))) (fun _ => bs (boxL l)) (fun i hi ih => by
    refine Ev.step (fun k => by rw [impl_BoxText.l0]) ?_
    have hb := hw _ (List.getElem_mem hi)
    have hb1 := itoa64 hb.1.1 hb.1.2
    have hb2 := itoa64 hb.2.1 hb.2.2
    refine ev_pos (lt_cast hi) (ev_pos (nn_cast i) (ev_pos (lt_cast hi) ?_))
    rw [rd_box hi, wrap_succ hi (by omega)]
    refine (Itoa_ev _ hb.2.1 hb.2.2).bind (ev_pos (by rw [bs_size]; omega) ((Itoa_ev _ hb.1.1 hb.1.2).bind ?_))
    rw [bs_app, bs_app]
    refine ev_pos (by rw [bs_size, bs_size]; simp; omega) (ev_pos (by simp; omega) ?_)
    have e : (l.take i).map (fun b => bs (boxT b)) ++ [bs (Lib.itoa (l[i]).f1 ++ [47] ++ Lib.itoa (l[i]).f0)] = (l.take (i + 1)).map (fun b => bs (boxT b)) := by
      rw [List.take_succ_eq_append_getElem hi, List.map_append]; rfl
    rw [e]; exact ih) (by
    refine Ev.step (fun k => by rw [impl_BoxText.l0]) (ev_neg (by omega) ?_)
    rw [List.take_length, show (l.map fun b => bs (boxT b)) = (l.map boxT).map bs by rw [List.map_map]; rfl]
    have hl := boxL_len l hw
    exact (Join_ev (l.map boxT) 32 (by simp; omega) (by show (boxL l).length ≤ _; omega)).bind (ev_now _)) 0 (Nat.zero_le _)
  unfold impl_BoxText.f
  exact key

theorem szBoxS_some (l : List S90) (a : Int) (hn : l.length ≤ 9223372036854775807) (h0 : 0 ≤ a) (h1 : a ≤ 1048576) : laws_szBoxS.f l a = some (if a < l.length then -1 else a - l.length) := by
  unfold laws_szBoxS.f
  have hw : wrap64 (a - (l.length : Int)) = a - l.length := wrap_id (by omega) (by omega)
  rw [hw]
  by_cases h : a < l.length
  · rw [if_pos (by omega), if_pos h]
  · rw [if_neg (by omega), if_neg h]

theorem ext_Box {a b : S70} (h0 : a.f0 = b.f0) (h1 : a.f1 = b.f1) : a = b := by
  obtain ⟨a0_, a1_⟩ := a; obtain ⟨b0_, b1_⟩ := b; simp_all
theorem rdi_Box {l : List S70} {i : Nat} (h : i < l.length) : rd_T70 l (i : Int) = l[i] := by
  unfold rd_T70
  rw [Int.toNat_natCast, List.getD_eq_getElem?_getD, List.getElem?_eq_getElem h]
  rfl

theorem rdl_Box {l : List S90} {i : Nat} (h : i < l.length) : rd_T90 l (i : Int) = l[i] := by
  unfold rd_T90
  rw [Int.toNat_natCast, List.getD_eq_getElem?_getD, List.getElem?_eq_getElem h]
  rfl

def toBox (x : S90) : S70 := ⟨x.f0, x.f1⟩
theorem toBoxS_ev (l : List S90) (hn : l.length ≤ 8796093022208) : Ev (fun k => laws_toBoxS.f k l) (l.map toBox) := by
  unfold laws_toBoxS.f
  refine ev_pos (nn_cast _) (ev_pos (by rw [Int.toNat_natCast]; omega) ?_)
  rw [Int.toNat_natCast]
  have hm : (l.map toBox).length = l.length := List.length_map _
  have key := ev_loop l.length (fun i k => laws_toBoxS.l0 k l ((l.map toBox).take i ++ List.replicate ((l.map toBox).length - i) z70) (i : Int)) (fun _ => l.map toBox) (fun i hi ih => by
      refine Ev.step (fun k => by rw [laws_toBoxS.l0]) ?_
      refine ev_pos (lt_cast hi) (ev_pos (nn_cast i) ?_)
      rw [rdl_Box hi, wrap_succ hi (by omega)]
      refine ev_get (a := ((l[i]).f0, (l[i]).f1)) rfl ?_
      refine ev_pos (by rw [state_len _ _ _ (by omega), hm]; exact lt_cast hi) ?_
      have hs := set_state (l.map toBox) z70 i (by rw [hm]; exact hi)
      rw [List.getElem_map] at hs
      rw [Int.toNat_natCast]
      simp only [toBox] at hs ⊢ ih
      rw [hs]
      exact ih) (by
      refine Ev.step (fun k => by rw [laws_toBoxS.l0]) ?_
      refine ev_neg (by omega) ?_
      rw [hm, Nat.sub_self, List.replicate_zero, List.append_nil, ← hm, List.take_length]
      exact ev_now _) 0 (Nat.zero_le _)
  simpa [hm] using key

theorem eqBox_some (a b : S70) : ∃ v, laws_eqBox.f a.f0 a.f1 b.f0 b.f1 = some v ∧ (v = true ↔ a = b) := by
  unfold laws_eqBox.f
  by_cases h0 : a.f0 = b.f0
  case neg => exact ⟨false, by simp [h0], by simp; intro h; exact h0 (by rw [h])⟩
  by_cases h1 : a.f1 = b.f1
  case neg => exact ⟨false, by simp [h0, h1], by simp; intro h; exact h1 (by rw [h])⟩
  exact ⟨true, by simp [h0, h1], by simp; exact ext_Box h0 h1⟩
theorem eqBoxS_ev (x y : List S70) (hn : x.length ≤ 9223372036854775807) : ∃ v, Ev (fun k => laws_eqBoxS.f k x y) v ∧ (v = true ↔ x = y) := by
  classical
  by_cases hl : x.length = y.length
  · have key := ev_loop x.length (fun i k => laws_eqBoxS.l0 k x y (i : Int)) (fun i => decide (x.drop i = y.drop i)) (fun i hi ih => by
      refine Ev.step (fun k => by rw [laws_eqBoxS.l0]) ?_
      refine ev_pos (lt_cast hi) (ev_pos (nn_cast i) (ev_pos (lt_cast (hl ▸ hi)) ?_))
      rw [rdi_Box hi, rdi_Box (hl ▸ hi), wrap_succ hi hn]
      obtain ⟨v, hv, hvi⟩ := eqBox_some x[i] (y[i]'(hl ▸ hi))
      refine ev_get hv ?_
      simp only [drop_eq hl hi]
      by_cases h1 : v = true
      · simp only [hvi.1 h1, true_and]
        exact ev_pos h1 ih
      · simp only [show ¬ (x[i] = y[i]'(hl ▸ hi)) from fun h => h1 (hvi.2 h), false_and, decide_false]
        exact ev_neg h1 (ev_now _)) (by
      refine Ev.step (fun k => by rw [laws_eqBoxS.l0]) ?_
      refine ev_neg (by omega) ?_
      rw [List.drop_length, hl, List.drop_length]
      simp only [decide_true]
      exact ev_now _) 0 (Nat.zero_le _)
    exact ⟨_, Ev.congr (fun k => by unfold laws_eqBoxS.f; exact if_pos (by omega)) key, by simp⟩
  · refine ⟨false, ?_, by simp; exact fun h => hl (by rw [h])⟩
    unfold laws_eqBoxS.f
    exact ev_neg (by omega) (ev_now _)

theorem FnExactBoxText : laws_FnExactBoxText.Pure := by
  intro l ⟨hn, hw⟩
  refine Ev.rounds ?_
  unfold laws_FnExactBoxText.f
  refine ev_get (szBoxS_some l 1048576 hn (by omega) (by omega)) ?_
  by_cases hs : (1048576 : Int) < l.length
  · rw [if_pos hs]
    exact ev_pos (by omega) (ev_now _)
  rw [if_neg hs]
  refine ev_neg (by omega) ?_
  have hto := toBoxS_ev l (by omega)
  have hb : ∀ b ∈ l.map toBox, boxW b := by
    intro b hb
    obtain ⟨x, hx, rfl⟩ := List.mem_map.1 hb
    exact ⟨wf64 (hw x hx).1, wf64 (hw x hx).2⟩
  have hv := spec_BoxText_ev (l.map toBox) (by simp; omega) hb
  have hu := impl_BoxText_ev (l.map toBox) (by simp; omega) hb
  obtain ⟨e, he, hei⟩ := eqBoxS_ev (l.map toBox) (l.map toBox) (by simpa using hn)
  obtain rfl : e = true := hei.2 rfl
  refine hto.bind (hv.bind (hto.bind (hu.bind (ev_pos rfl (hto.bind (he.bind ?_))))))
  exact ev_pos rfl (ev_now _)

end Go.Proofs.YtlpgpckggnimhaaDoor.Pure
