/- The abstract machine, part 38: the walk of a function told beside the function of numbers and lists. -/
import Derived.Test.YtkkmhlfpombgfaaAm37
set_option linter.unusedVariables false
set_option linter.unusedSectionVars false
set_option linter.unusedSimpArgs false
namespace Am
open Go
section
variable {ρ σ : Type} {p : Prop} [Decidable p] {b : Bool} {A B : Option ρ} {r : ρ} {X Y : Option Unit}
theorem br_ite (h : (if p then A else B) = some r) (hb : b = decide p) (h1 : p → A = some r → X = some ()) (h2 : ¬p → B = some r → Y = some ()) : brA b X Y = some () := by
  subst hb
  by_cases c : p
  · rw [if_pos c] at h; rw [decide_eq_true c]; exact h1 c h
  · rw [if_neg c] at h; rw [decide_eq_false c]; exact h2 c h
theorem br_itn (h : (if p then A else B) = some r) (hb : b = !decide p) (h1 : p → A = some r → Y = some ()) (h2 : ¬p → B = some r → X = some ()) : brA b X Y = some () := by
  subst hb
  by_cases c : p
  · rw [if_pos c] at h; rw [decide_eq_true c]; exact h1 c h
  · rw [if_neg c] at h; rw [decide_eq_false c]; exact h2 c h
/-- The other way round: the second way first. -/
theorem br_eti (h : (if p then A else B) = some r) (hb : b = decide p) (h2 : ¬p → B = some r → Y = some ()) (h1 : p → A = some r → X = some ()) : brA b X Y = some () := br_ite h hb h1 h2
theorem br_etn (h : (if p then A else B) = some r) (hb : b = !decide p) (h2 : ¬p → B = some r → X = some ()) (h1 : p → A = some r → Y = some ()) : brA b X Y = some () := br_itn h hb h1 h2
theorem br_g (h : (if p then A else none) = some r) (hb : b = decide p) (h1 : p → A = some r → X = some ()) : brA b X Y = some () := br_ite h hb h1 (fun _ h => by cases h)
theorem br_gn (h : (if p then A else none) = some r) (hb : b = !decide p) (h1 : p → A = some r → Y = some ()) : brA b X Y = some () := br_itn h hb h1 (fun _ h => by cases h)
theorem br_n (h : (if p then none else B) = some r) (hb : b = decide p) (h1 : ¬p → B = some r → Y = some ()) : brA b X Y = some () := br_ite h hb (fun _ h => by cases h) h1
theorem br_nn (h : (if p then none else B) = some r) (hb : b = !decide p) (h1 : ¬p → B = some r → X = some ()) : brA b X Y = some () := br_itn h hb (fun _ h => by cases h) h1
theorem br_t (hb : b = true) (h : X = some ()) : brA b X Y = some () := by subst hb; exact h
theorem br_f (hb : b = false) (h : Y = some ()) : brA b X Y = some () := by subst hb; exact h
theorem ite_t (h : (if p then A else B) = some r) (c : p) : A = some r := by rwa [if_pos c] at h
theorem ite_f (h : (if p then A else B) = some r) (c : ¬p) : B = some r := by rwa [if_neg c] at h
/-- A test that the machine does not make. -/
theorem ite_x {Z : Option Unit} (h : (if p then A else B) = some r) (h1 : p → A = some r → Z = some ()) (h2 : ¬p → B = some r → Z = some ()) : Z = some () := by
  by_cases c : p
  · rw [if_pos c] at h; exact h1 c h
  · rw [if_neg c] at h; exact h2 c h
theorem andA_of (h1 : X = some ()) (h2 : Y = some ()) : andA X Y = some () := by subst h1; exact h2
theorem call_h {P : Nat → Option ρ} {q : ρ → Option Unit} {f : ρ → Option σ} {r : σ} (N : Nat) (h : (P N).bind f = some r) (h1 : ∀ t, P N = some t → f t = some r → q t = some ()) : callX P q = some () := by
  cases ht : P N with
  | none => rw [ht] at h; cases h
  | some t => rw [ht] at h; exact callX_of ht (h1 t ht h)
theorem call_t {P : Nat → Option ρ} {q : ρ → Option Unit} (N : Nat) (h : P N = some r) (h1 : q r = some ()) : callX P q = some () := callX_of h h1
theorem let_h {a : ρ} {f : ρ → Option σ} {r : σ} (h : (some a).bind f = some r) : f a = some r := h
theorem beqI (a b : Int) : (a == b) = decide (a = b) := by
  by_cases h : a = b <;> simp [h]
theorem dect {b : Bool} : b = decide (b = true) := by cases b <;> rfl
end
section
variable {τ : TypeId → Type}
theorem wts_i {k : IntKind} {ls : List LT} {l : List (Lf τ)} (h : wts (.int k :: ls) l = true) : ∃ n l', l = .i n :: l' ∧ wts ls l' = true := by
  cases l with
  | nil => simp [wts] at h
  | cons x l =>
    simp only [wts, Bool.and_eq_true] at h
    cases x <;> simp [wt] at h
    exact ⟨_, _, rfl, h⟩
theorem wts_b {ls : List LT} {l : List (Lf τ)} (h : wts (.bool :: ls) l = true) : ∃ n l', l = .b n :: l' ∧ wts ls l' = true := by
  cases l with
  | nil => simp [wts] at h
  | cons x l =>
    simp only [wts, Bool.and_eq_true] at h
    cases x <;> simp [wt] at h
    exact ⟨_, _, rfl, h⟩
theorem wts_s {ls : List LT} {l : List (Lf τ)} (h : wts (.str :: ls) l = true) : ∃ n l', l = .s n :: l' ∧ wts ls l' = true := by
  cases l with
  | nil => simp [wts] at h
  | cons x l =>
    simp only [wts, Bool.and_eq_true] at h
    cases x <;> simp [wt] at h
    exact ⟨_, _, rfl, h⟩
theorem wts_l {e : TypeId} {ls : List LT} {l : List (Lf τ)} (h : wts (.sl e :: ls) l = true) : ∃ (n : List (τ e)) (l' : List (Lf τ)), l = .l e n :: l' ∧ wts ls l' = true := by
  cases l with
  | nil => simp [wts] at h
  | cons x l =>
    simp only [wts, Bool.and_eq_true] at h
    cases x <;> simp [wt] at h
    obtain ⟨rfl, h⟩ := h
    exact ⟨_, _, rfl, h⟩
theorem wts_nil {l : List (Lf τ)} (h : wts [] l = true) : l = [] := by
  cases l with
  | nil => rfl
  | cons x l => simp [wts] at h
end
/-- The rest of a length: both words say one. -/
theorem pct_len {α : Type} (l : List α) (n : Int) : ((l.length : Nat) : Int) % n = Int.tmod ((l.length : Nat) : Int) n := (Int.tmod_eq_emod_of_nonneg (Int.natCast_nonneg _)).symm
theorem pct_wrap {α : Type} (l : List α) (c n : Int) (h0 : 0 ≤ c) (h1 : c ≤ 1000000000) (h2 : 0 < n) (h3 : n ≤ 1000000000) : c + ((l.length : Nat) : Int) % n = Go.RowKit.wrap64 (c + Int.tmod ((l.length : Nat) : Int) n) := by
  rw [← pct_len]
  have := Int.emod_nonneg ((l.length : Nat) : Int) (show n ≠ 0 by omega)
  have := Int.emod_lt_of_pos ((l.length : Nat) : Int) h2
  unfold Go.RowKit.wrap64
  omega
/-- A row copied whole. -/
theorem copied_of {α : Type} (l : List α) (z : α) (M : Nat) {k : List α → Option Unit} (hM : l.length ≤ M) (hk : k l = some ()) :
    brA (decide (((l.length : Nat) : Int) = (0 : Int))) (k []) (brA (decide ((Int.toNat ((l.length : Nat) : Int)) ≤ M)) (k (List.take ((List.replicate (Int.toNat ((l.length : Nat) : Int)) z).length) l ++ List.drop l.length (List.replicate (Int.toNat ((l.length : Nat) : Int)) z))) none) = some () := by
  by_cases c : ((l.length : Nat) : Int) = 0
  · refine br_t (decide_eq_true c) ?_
    have : l = [] := List.eq_nil_of_length_eq_zero (by omega)
    rw [this] at hk; exact hk
  · refine br_f (decide_eq_false c) (br_t (decide_eq_true (by simpa using hM)) ?_)
    have e : List.take ((List.replicate (Int.toNat ((l.length : Nat) : Int)) z).length) l ++ List.drop l.length (List.replicate (Int.toNat ((l.length : Nat) : Int)) z) = l := by simp
    rw [e]; exact hk
end Am
