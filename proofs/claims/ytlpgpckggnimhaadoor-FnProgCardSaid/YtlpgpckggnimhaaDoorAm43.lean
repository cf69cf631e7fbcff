/- Texts as lists of bytes: pieces between bytes (plain law, no program in sight). -/
import Derived.Test.YtlpgpckggnimhaaDoorAm42
set_option linter.unusedVariables false
set_option linter.unusedSimpArgs false
namespace Am
open Go
/-- The pieces of a text between bytes c. -/
def cutAt (c : UInt8) : Bytes → List Bytes
  | [] => [[]]
  | b :: r => if b = c then [] :: cutAt c r else (match cutAt c r with | [] => [[b]] | p :: ps => (b :: p) :: ps)
theorem cutAt_ne (c : UInt8) (l : Bytes) : cutAt c l ≠ [] := by
  cases l with
  | nil => simp [cutAt]
  | cons b r =>
    unfold cutAt
    split
    · simp
    · split <;> simp
theorem cutAt_sep (c : UInt8) (r : Bytes) : cutAt c (c :: r) = [] :: cutAt c r := by conv => lhs; unfold cutAt; rw [if_pos rfl]
theorem cutAt_other {c b : UInt8} (h : b ≠ c) {r p : Bytes} {ps : List Bytes} (e : cutAt c r = p :: ps) : cutAt c (b :: r) = (b :: p) :: ps := by conv => lhs; unfold cutAt; rw [if_neg h, e]
theorem cutAt_free (c : UInt8) : ∀ (l : Bytes), c ∉ l → cutAt c l = [l]
  | [], _ => rfl
  | b :: r, h => cutAt_other (fun e => h (by rw [e]; exact List.mem_cons_self)) (cutAt_free c r (fun hm => h (List.mem_cons_of_mem _ hm)))
/-- The first piece, and what is behind it. -/
theorem cutAt_app (c : UInt8) : ∀ (p r : Bytes), c ∉ p → cutAt c (p ++ c :: r) = p :: cutAt c r
  | [], r, _ => cutAt_sep c r
  | b :: p, r, h => cutAt_other (fun e => h (by rw [e]; exact List.mem_cons_self)) (cutAt_app c p r (fun hm => h (List.mem_cons_of_mem _ hm)))
theorem cutAt_mem (c : UInt8) : ∀ (l : Bytes), ∀ p ∈ cutAt c l, c ∉ p
  | [], p, hp => by simp [cutAt] at hp; subst hp; simp
  | b :: r, p, hp => by
    have ih := cutAt_mem c r
    unfold cutAt at hp
    split at hp
    · rcases List.mem_cons.1 hp with rfl | hp
      · simp
      · exact ih p hp
    · rename_i hne
      split at hp
      · rename_i e; exact absurd e (cutAt_ne c r)
      · rename_i q qs e
        rcases List.mem_cons.1 hp with rfl | hp
        · intro hm
          rcases List.mem_cons.1 hm with rfl | hm
          · exact hne rfl
          · exact ih q (by rw [e]; exact List.mem_cons_self) hm
        · exact ih p (by rw [e]; exact List.mem_cons_of_mem _ hp)
theorem join_cons2 (x y : Bytes) (r : List Bytes) (c : UInt8) : Lib.join (x :: y :: r) [c] = x ++ c :: Lib.join (y :: r) [c] := by
  rw [Lib.join_cons, Lib.join_cons]; simp [Lib.joinTail]
theorem join_cutAt (c : UInt8) : ∀ (l : Bytes), Lib.join (cutAt c l) [c] = l
  | [] => by show Lib.join [[]] [c] = []; rw [Lib.join_one]
  | b :: r => by
    have ih := join_cutAt c r
    by_cases h : b = c
    · subst h
      rw [cutAt_sep]
      cases e : cutAt b r with
      | nil => exact absurd e (cutAt_ne b r)
      | cons p ps => rw [join_cons2, ← e, ih]; rfl
    · cases e : cutAt c r with
      | nil => exact absurd e (cutAt_ne c r)
      | cons p ps =>
        rw [cutAt_other h e]
        cases ps with
        | nil => rw [Lib.join_one]; rw [e, Lib.join_one] at ih; rw [ih]
        | cons q qs => rw [join_cons2]; rw [e, join_cons2] at ih; rw [← ih]; rfl
theorem cutAt_join (c : UInt8) : ∀ (ps : List Bytes), ps ≠ [] → (∀ p ∈ ps, c ∉ p) → cutAt c (Lib.join ps [c]) = ps
  | [], h, _ => absurd rfl h
  | [p], _, h => by rw [Lib.join_one, cutAt_free c p (h p (by simp))]
  | p :: q :: r, _, h => by
    rw [join_cons2, cutAt_app c p _ (h p (by simp)), cutAt_join c (q :: r) (by simp) (fun x hx => h x (List.mem_cons_of_mem _ hx))]
/-- A loop that cuts: the byte at place i, what was begun at place 'from'. -/
theorem cutAt_snoc (c : UInt8) (l : Bytes) : ∀ (b : UInt8) (r : Bytes), cutAt c (b :: r) = if b = c then [] :: cutAt c r else ((b :: (cutAt c r).headD []) :: (cutAt c r).tail) := by
  intro b r
  by_cases h : b = c
  · subst h; rw [if_pos rfl, cutAt_sep]
  · rw [if_neg h]
    cases e : cutAt c r with
    | nil => exact absurd e (cutAt_ne c r)
    | cons p ps => rw [cutAt_other h e]; rfl
theorem cutAt_pre (c : UInt8) : ∀ (p r : Bytes), c ∉ p → ∃ q qs, cutAt c r = q :: qs ∧ cutAt c (p ++ r) = (p ++ q) :: qs
  | [], r, _ => by
    cases e : cutAt c r with
    | nil => exact absurd e (cutAt_ne c r)
    | cons q qs => exact ⟨q, qs, rfl, e⟩
  | b :: p, r, h => by
    obtain ⟨q, qs, e1, e2⟩ := cutAt_pre c p r (fun hm => h (List.mem_cons_of_mem _ hm))
    exact ⟨q, qs, e1, cutAt_other (fun e => h (by rw [e]; exact List.mem_cons_self)) e2⟩
/-- What the library cuts, at a byte. -/
theorem index_byte_spec (c : UInt8) : ∀ (l : Bytes), (Lib.index l [c] = -1 ∧ c ∉ l) ∨ (∃ p r, l = p ++ c :: r ∧ c ∉ p ∧ Lib.index l [c] = (p.length : Int))
  | [] => .inl ⟨rfl, by simp⟩
  | b :: r => by
    rw [Lib.index_one]
    unfold Lib.indexByte
    by_cases h : b = c
    · subst h; exact .inr ⟨[], r, rfl, by simp, by simp⟩
    · have hb : (b == c) = false := by simpa using h
      rw [if_neg (by simp [hb])]
      rcases index_byte_spec c r with ⟨h1, h2⟩ | ⟨p, q, h1, h2, h3⟩
      · rw [Lib.index_one] at h1
        exact .inl ⟨by rw [h1]; rfl, fun hm => by
          rcases List.mem_cons.1 hm with rfl | hm
          · exact h rfl
          · exact h2 hm⟩
      · rw [Lib.index_one] at h3
        refine .inr ⟨b :: p, q, by rw [h1]; rfl, fun hm => ?_, ?_⟩
        · rcases List.mem_cons.1 hm with rfl | hm
          · exact h rfl
          · exact h2 hm
        · rw [h3, if_neg (by simp)]; simp
theorem split_cut (c : UInt8) : ∀ (n : Nat) (l : Bytes), l.length ≤ n → Lib.splitK [c] 0 (Lib.count l [c]) l = cutAt c l := by
  intro n
  induction n with
  | zero =>
    intro l hl
    have : l = [] := List.eq_nil_of_length_eq_zero (by omega)
    subst this; rfl
  | succ n ih =>
    intro l hl
    rcases index_byte_spec c l with ⟨h1, h2⟩ | ⟨p, r, h1, h2, h3⟩
    · rw [Lib.count_miss h1, cutAt_free c l h2]; rfl
    · have hn : ¬ (Lib.index l [c] == -1) = true := by rw [h3]; simp
      rw [Lib.count_hit (by simp) h3, Nat.add_comm 1]
      unfold Lib.splitK
      rw [if_neg hn, h3, Int.toNat_natCast]
      simp only [Nat.add_zero, List.length_singleton]
      subst h1
      rw [List.take_left' rfl, show p.length + 1 = (p ++ [c]).length by simp, show p ++ c :: r = (p ++ [c]) ++ r by simp, List.drop_left' rfl, ih r (by simp at hl; omega)]
      rw [show (p ++ [c]) ++ r = p ++ c :: r by simp, cutAt_app c p r h2]
theorem splitW_bs (l : Bytes) (c : UInt8) : splitW (bs l) (bs [c]) = (cutAt c l).map bs := by
  have h := Lib.splitB_data (bs [c]) 0 (Lib.countB (bs l) (bs [c])) (bs l)
  have h2 : Lib.splitK (bs [c]).data.toList 0 (Lib.countB (bs l) (bs [c])) (bs l).data.toList = cutAt c l := split_cut c l.length l (Nat.le_refl _)
  rw [h2] at h
  rw [← h, List.map_map]
  unfold splitW
  exact (List.map_id'' (fun s => bs_data s) _).symm
theorem joinB_bs (ps : List Bytes) (c : UInt8) : joinB (ps.map bs) (bs [c]) = bs (Lib.join ps [c]) := by
  unfold joinB
  rw [List.map_map, show ((fun s : ByteArray => s.data.toList) ∘ bs) = id from rfl, List.map_id]; rfl
theorem trimB_bs (l : Bytes) (c : UInt8) : trimB (bs l) (bs [c]) = bs (if l.head? = some c then l.drop 1 else l) := by
  unfold trimB Lib.trimPrefix
  show (⟨(if Lib.hasPrefix l [c] = true then l.drop 1 else l).toArray⟩ : ByteArray) = _
  have : Lib.hasPrefix l [c] = true ↔ l.head? = some c := by
    unfold Lib.hasPrefix
    rw [List.isPrefixOf_iff_prefix]
    cases l with
    | nil => simp
    | cons b r => simp [List.cons_prefix_cons, eq_comm]
  by_cases h : l.head? = some c
  · rw [if_pos h, if_pos (this.2 h)]; rfl
  · rw [if_neg h, if_neg (fun e => h (this.1 e))]; rfl
theorem cut_bs (l : Bytes) (c : UInt8) : (∃ p r, l = p ++ c :: r ∧ c ∉ p ∧ cutL (bs l) (bs [c]) = bs p ∧ cutR (bs l) (bs [c]) = bs r) ∨ (c ∉ l ∧ cutL (bs l) (bs [c]) = bs l ∧ cutR (bs l) (bs [c]) = bs []) := by
  unfold cutL cutR Lib.cut
  rw [data_bs, data_bs]
  rcases index_byte_spec c l with ⟨h1, h2⟩ | ⟨p, r, h1, h2, h3⟩
  · refine .inr ⟨h2, ?_, ?_⟩ <;> rw [if_neg (by rw [h1]; decide)] <;> rfl
  · refine .inl ⟨p, r, h1, h2, ?_, ?_⟩ <;> rw [if_pos (by rw [h3]; omega), h3]
    · subst h1; rw [Int.toNat_natCast, List.take_left' rfl]; rfl
    · subst h1
      rw [Int.toNat_natCast]
      show (⟨((p ++ c :: r).drop (p.length + 1)).toArray⟩ : ByteArray) = bs r
      rw [show p.length + 1 = (p ++ [c]).length by simp, show p ++ c :: r = (p ++ [c]) ++ r by simp, List.drop_left' rfl]; rfl
end Am
