/- Texts as lists of bytes: numbers in decimals, pieces between bytes (plain law, no program in sight). -/
import Derived.Test.YtlpgpckggnimhaaDoorAm41
import Derived.Lib.Join
import Derived.Lib.ItoaNum
import Derived.Lib.Split
import Derived.Lib.IndexBytes
import Derived.Lib.IndexMore
import Derived.Lib.Strings
set_option linter.unusedVariables false
set_option linter.unusedSimpArgs false
namespace Am
open Go
abbrev Bytes := List UInt8
theorem bs_data (s : ByteArray) : bs s.data.toList = s := by obtain ⟨⟨l⟩⟩ := s; rfl
theorem data_bs (l : Bytes) : (bs l).data.toList = l := rfl
theorem bs_inj {a b : Bytes} : bs a = bs b ↔ a = b := ⟨fun h => by have := congrArg (fun s : ByteArray => s.data.toList) h; exact this, fun h => h ▸ rfl⟩
theorem bs_size (l : Bytes) : (bs l).size = l.length := by rw [Lib.size_eq]; rfl
theorem bs_app (a b : Bytes) : bs a ++ bs b = bs (a ++ b) := by
  have h : (bs a ++ bs b).data = (bs (a ++ b)).data := by
    rw [ByteArray.data_append]; simp [bs]
  exact congrArg ByteArray.mk h
theorem bs_extract (l : Bytes) (i j : Nat) : (bs l).extract i j = bs ((l.drop i).take (j - i)) := by
  rw [← bs_data ((bs l).extract i j), Lib.extract_data]; rfl
theorem bs_take (l : Bytes) (j : Nat) : (bs l).extract 0 j = bs (l.take j) := by rw [bs_extract]; simp
theorem bs_drop (l : Bytes) (i : Nat) : (bs l).extract i (bs l).size = bs (l.drop i) := by rw [bs_extract, bs_size, List.take_of_length_le (by rw [List.length_drop]; omega)]
theorem bt_bs (l : Bytes) (i : Nat) (h : i < l.length) : btA (bs l) (i : Int) = (l[i].toNat : Int) := by
  unfold btA
  have h2 : (i : Int).toNat < (bs l).size := by rw [bs_size, Int.toNat_natCast]; exact h
  rw [dif_pos h2]
  rfl
/- ### Numbers in decimals -/
def isD (b : UInt8) : Bool := decide (48 ≤ b.toNat) && decide (b.toNat ≤ 57)
def valD (l : Bytes) : Nat := l.foldl (fun n b => n * 10 + (b.toNat - 48)) 0
theorem valD_snoc (l : Bytes) (b : UInt8) : valD (l ++ [b]) = valD l * 10 + (b.toNat - 48) := by unfold valD; rw [List.foldl_append]; rfl
theorem valD_nil : valD [] = 0 := rfl
/-- Digits as a number is written with. -/
def goodD (l : Bytes) : Prop := l ≠ [] ∧ (∀ b ∈ l, isD b = true) ∧ (l.head? = some 48 → l.length = 1)
theorem dig_lt {u : Nat} (h : u < 10) : (UInt8.ofNat (48 + u)).toNat = 48 + u := by simp; omega
theorem dig_isD {u : Nat} (h : u < 10) : isD (UInt8.ofNat (48 + u)) = true := by unfold isD; rw [dig_lt h]; simp; omega
theorem isD_val {b : UInt8} (h : isD b = true) : b.toNat - 48 < 10 ∧ b = UInt8.ofNat (48 + (b.toNat - 48)) := by
  unfold isD at h; simp at h
  refine ⟨by omega, ?_⟩
  apply UInt8.toNat_inj.1
  rw [dig_lt (by omega)]; omega
theorem dec_small {u : Nat} (h : u < 10) : Lib.decDigits u = [UInt8.ofNat (48 + u)] := by rw [Lib.decDigits, dif_pos h]
theorem dec_big {u : Nat} (h : ¬ u < 10) : Lib.decDigits u = Lib.decDigits (u / 10) ++ [UInt8.ofNat (48 + u % 10)] := by rw [Lib.decDigits, dif_neg h]
theorem dec_ne (u : Nat) : Lib.decDigits u ≠ [] := by
  by_cases h : u < 10
  · rw [dec_small h]; simp
  · rw [dec_big h]; simp
theorem dec_val (u : Nat) : valD (Lib.decDigits u) = u := by
  induction u using Nat.strongRecOn with
  | _ u ih =>
    by_cases h : u < 10
    · rw [dec_small h]
      have := valD_snoc [] (UInt8.ofNat (48 + u))
      rw [List.nil_append] at this
      rw [this, dig_lt h, valD_nil]; omega
    · rw [dec_big h, valD_snoc, ih _ (by omega), dig_lt (by omega)]; omega
theorem dec_head (u : Nat) (hu : 0 < u) : (Lib.decDigits u).head? ≠ some 48 := by
  induction u using Nat.strongRecOn with
  | _ u ih =>
    by_cases h : u < 10
    · rw [dec_small h]
      intro e
      have e2 := congrArg UInt8.toNat (Option.some.inj e)
      rw [dig_lt h] at e2
      simp at e2; omega
    · rw [dec_big h, List.head?_append]
      have := ih (u / 10) (by omega) (by omega)
      cases hx : (Lib.decDigits (u / 10)).head? with
      | none => exact absurd (List.head?_eq_none_iff.1 hx) (dec_ne _)
      | some b => rw [hx] at this; simpa using this
theorem dec_good (u : Nat) : goodD (Lib.decDigits u) := by
  refine ⟨dec_ne u, ?_, fun h => ?_⟩
  · induction u using Nat.strongRecOn with
    | _ u ih =>
      intro b hb
      by_cases h : u < 10
      · rw [dec_small h] at hb; rw [List.mem_singleton.1 hb]; exact dig_isD h
      · rw [dec_big h] at hb
        rcases List.mem_append.1 hb with hb | hb
        · exact ih _ (by omega) b hb
        · rw [List.mem_singleton.1 hb]; exact dig_isD (by omega)
  · by_cases hu : 0 < u
    · exact absurd h (dec_head u hu)
    · have : u = 0 := by omega
      subst this; rw [dec_small (by omega)]; rfl
/-- What is written as a number is written, is that number's digits. -/
theorem good_dec : ∀ (n : Nat) (l : Bytes), l.length = n → goodD l → Lib.decDigits (valD l) = l := by
  intro n
  induction n with
  | zero => intro l hl hg; exact absurd (List.eq_nil_of_length_eq_zero hl) hg.1
  | succ n ih =>
    intro l hl hg
    obtain ⟨a, b, rfl⟩ : ∃ a b, l = a ++ [b] := ⟨l.dropLast, l.getLast hg.1, (List.dropLast_concat_getLast hg.1).symm⟩
    have hb := isD_val (hg.2.1 b (by simp))
    rw [valD_snoc]
    by_cases ha : a = []
    · subst ha
      rw [valD_nil, Nat.zero_mul, Nat.zero_add, dec_small hb.1, ← hb.2]; rfl
    · have hga : goodD a := by
        refine ⟨ha, fun c hc => hg.2.1 c (by simp [hc]), fun h => ?_⟩
        have := hg.2.2 (by rw [List.head?_append]; rw [h]; rfl)
        simp at this
        exact absurd this ha
      have hpos : 0 < valD a := by
        rcases Nat.eq_zero_or_pos (valD a) with h0 | h0
        · exfalso
          have e := ih a (by simpa using hl) hga
          rw [h0, dec_small (by omega)] at e
          have := hg.2.2 (by rw [← e]; rfl)
          simp at this
          exact ha this
        · exact h0
      rw [dec_big (by omega), show (valD a * 10 + (b.toNat - 48)) / 10 = valD a by omega, show (valD a * 10 + (b.toNat - 48)) % 10 = b.toNat - 48 by omega, ih a (by simpa using hl) hga, ← hb.2]
theorem dec_len : ∀ (k u : Nat), u < 10 ^ (k + 1) → (Lib.decDigits u).length ≤ k + 1 := by
  intro k
  induction k with
  | zero => intro u h; rw [dec_small (by simpa using h)]; simp
  | succ k ih =>
    intro u h
    by_cases h0 : u < 10
    · rw [dec_small h0]; simp
    · rw [dec_big h0, List.length_append]
      have := ih (u / 10) (by rw [Nat.pow_succ] at h; omega)
      simp; omega
theorem len_dec (k u : Nat) (h : (Lib.decDigits u).length ≤ k) : u < 10 ^ k := by
  have := Lib.lt_pow_nDigits u
  rw [← Lib.decDigits_length] at this
  exact Nat.lt_of_lt_of_le this (Nat.pow_le_pow_right (by omega) h)
theorem itoa_nn {n : Int} (h : 0 ≤ n) : Lib.itoa n = Lib.decDigits n.toNat := by unfold Lib.itoa; rw [if_neg (by omega)]
theorem itoa_neg {n : Int} (h : n < 0) : Lib.itoa n = 45 :: Lib.decDigits n.natAbs := by unfold Lib.itoa; rw [if_pos h]
theorem dec_no45 (u : Nat) : (Lib.decDigits u).head? ≠ some 45 := by
  intro h
  have : (45 : UInt8) ∈ Lib.decDigits u := List.mem_of_mem_head? h
  have := (dec_good u).2.1 _ this
  revert this; decide
theorem itoa_inj {a b : Int} (h : Lib.itoa a = Lib.itoa b) : a = b := by
  by_cases ha : a < 0 <;> by_cases hb : b < 0
  · rw [itoa_neg ha, itoa_neg hb] at h
    have := congrArg valD (List.cons.inj h).2
    rw [dec_val, dec_val] at this; omega
  · rw [itoa_neg ha, itoa_nn (by omega)] at h
    exact absurd (by rw [← h]; rfl) (dec_no45 b.toNat)
  · rw [itoa_nn (by omega), itoa_neg hb] at h
    exact absurd (by rw [h]; rfl) (dec_no45 a.toNat)
  · rw [itoa_nn (by omega), itoa_nn (by omega)] at h
    have := congrArg valD h
    rw [dec_val, dec_val] at this; omega
/-- A number's bytes: a sign, digits. -/
theorem itoa_bytes (n : Int) : ∀ b ∈ Lib.itoa n, b = 45 ∨ isD b = true := by
  intro b hb
  by_cases h : n < 0
  · rw [itoa_neg h] at hb
    rcases List.mem_cons.1 hb with hb | hb
    · exact .inl hb
    · exact .inr ((dec_good _).2.1 b hb)
  · rw [itoa_nn (by omega)] at hb
    exact .inr ((dec_good _).2.1 b hb)
theorem itoa_ne (n : Int) : Lib.itoa n ≠ [] := by
  by_cases h : n < 0
  · rw [itoa_neg h]; simp
  · rw [itoa_nn (by omega)]; exact dec_ne _
theorem itoa_len {n : Int} (k : Nat) (h : n.natAbs < 10 ^ (k + 1)) : (Lib.itoa n).length ≤ k + 2 := by
  by_cases h0 : n < 0
  · rw [itoa_neg h0]; have := dec_len k _ h; simp; omega
  · rw [itoa_nn (by omega)]; have := dec_len k n.toNat (by omega); omega
/-- A number of at most D digits, as it is written. -/
def numL (D : Nat) (l : Bytes) : Option Int :=
  if l.head? = some 45 then (if goodD (l.drop 1) ∧ (l.drop 1).length ≤ D ∧ (l.drop 1).head? ≠ some 48 then some (-(valD (l.drop 1) : Int)) else none)
  else (if goodD l ∧ l.length ≤ D then some (valD l : Int) else none)
where
  goodD (l : Bytes) : Bool := !l.isEmpty && l.all isD && (!(decide (l.head? = some 48)) || decide (l.length = 1))
theorem goodB (l : Bytes) : numL.goodD l = true ↔ goodD l := by
  unfold numL.goodD goodD
  simp only [Bool.and_eq_true, Bool.or_eq_true, Bool.not_eq_true', decide_eq_true_eq, decide_eq_false_iff_not, List.all_eq_true, List.isEmpty_eq_false_iff, ne_eq, and_assoc]
  refine and_congr_right fun _ => and_congr_right fun _ => ?_
  constructor
  · rintro (h | h) e
    · exact absurd e h
    · exact h
  · intro h
    by_cases e : l.head? = some 48
    · exact .inr (h e)
    · exact .inl e
theorem numL_iff (D : Nat) (l : Bytes) (n : Int) : numL D l = some n ↔ l = Lib.itoa n ∧ (Lib.decDigits n.natAbs).length ≤ D := by
  unfold numL
  by_cases h : l.head? = some 45
  · rw [if_pos h]
    obtain ⟨r, rfl⟩ : ∃ r, l = 45 :: r := by
      cases l with
      | nil => simp at h
      | cons b r => simp at h; subst h; exact ⟨r, rfl⟩
    simp only [List.drop_succ_cons, List.drop_zero]
    constructor
    · intro e
      split at e
      · rename_i hc
        have hg := (goodB r).1 hc.1
        cases e
        have hd := good_dec _ r rfl hg
        have hv : 0 < valD r := by
          rcases Nat.eq_zero_or_pos (valD r) with h0 | h0
          · rw [h0, dec_small (by omega)] at hd
            exact absurd (by rw [← hd]; rfl) hc.2.2
          · exact h0
        rw [itoa_neg (by omega), show (-(valD r : Int)).natAbs = valD r by omega, hd]
        exact ⟨rfl, hc.2.1⟩
      · cases e
    · rintro ⟨e, hl⟩
      have hn : n < 0 := by
        rcases Int.lt_or_le n 0 with h0 | h0
        · exact h0
        · rw [itoa_nn h0] at e
          exact absurd (by rw [← e]; rfl) (dec_no45 n.toNat)
      rw [itoa_neg hn] at e
      obtain rfl := (List.cons.inj e).2
      rw [if_pos ⟨(goodB _).2 (dec_good _), hl, dec_head _ (by omega)⟩, dec_val]
      congr 1; omega
  · rw [if_neg h]
    constructor
    · intro e
      split at e
      · rename_i hc
        have hg := (goodB l).1 hc.1
        cases e
        rw [itoa_nn (by omega), Int.toNat_natCast, Int.natAbs_natCast, good_dec _ l rfl hg]
        exact ⟨rfl, hc.2⟩
      · cases e
    · rintro ⟨e, hl⟩
      have hn : 0 ≤ n := by
        rcases Int.lt_or_le n 0 with h0 | h0
        · rw [itoa_neg h0] at e
          exact absurd (by rw [e]; rfl) h
        · exact h0
      rw [itoa_nn hn] at e
      subst e
      rw [if_pos ⟨(goodB _).2 (dec_good _), by rw [show n.toNat = n.natAbs by omega]; exact hl⟩, dec_val]
      congr 1; omega
end Am
