/- The abstract machine, part 7: stores. -/
import Derived.Test.YtkkmhlfpombgfaaAm6
import Derived.Laws.IdiomCopy
set_option linter.unusedVariables false
set_option linter.unusedSectionVars false
set_option linter.unusedSimpArgs false
namespace Am
open Go
variable {τ : TypeId → Type}
def putMany {α : Type _} (vs : List α) (o : Nat) (cs : List α) : List α := vs.take o ++ cs ++ vs.drop (o + cs.length)
section
variable {T : Tab τ} {P : Program} {w w' w2 : World} {m m' m2 : Mem τ} {η η' η2 : Eta} {tm : List (AV τ)} {S : Nat → Prop}
theorem Later.trans (h : Later m η m' η') (k : Later m' η' m2 η2) : Later m η m2 η2 := by
  refine ⟨Nat.le_trans h.bl k.bl, Nat.le_trans h.rl k.rl, fun b hb => ?_, fun r hr x hx => ?_⟩
  · rw [k.b b (Nat.lt_of_lt_of_le hb h.bl), h.b b hb]
  · obtain ⟨y, hy, hle, he⟩ := k.r r (Nat.lt_of_lt_of_le hr h.rl) x hx
    obtain ⟨z, hz, hle2, he2⟩ := h.r r hr y hy
    refine ⟨z, hz, Nat.le_trans hle2 hle, fun e => ?_⟩
    have e1 : x.g = y.g := by omega
    have e2 : y.g = z.g := by omega
    exact ⟨(he e1).1.trans (he2 e2).1, (he e1).2.trans (he2 e2).2⟩
theorem Step.trans (s : Step T w m η w' m' η') (k : Step T w' m' η' w2 m2 η2) : Step T w m η w2 m2 η2 := by
  refine ⟨k.mr, s.later.trans k.later, fun b hb hs => k.safe b (Nat.lt_of_lt_of_le hb s.agree.size) (s.safe b hb hs), ?_, k.x.trans s.x, fun b hb => (k.fx b (by rw [s.x]; exact hb)).trans (s.fx b hb)⟩
  refine ⟨k.agree.os.trans s.agree.os, k.agree.tape.trans s.agree.tape, k.agree.output.trans s.agree.output, Nat.le_trans s.agree.size k.agree.size, fun b hs hl => ?_⟩
  rw [k.agree.block b (s.safe b hl hs) (Nat.lt_of_lt_of_le hl s.agree.size), s.agree.block b hs hl]
theorem Step.refl (h : MR T w η m) : Step T w m η w m η := ⟨h, .refl m η, fun _ _ h => h, .refl _ _, rfl, fun _ _ => rfl⟩
theorem putMany_at {α : Type _} {vs cs : List α} {o i : Nat} {a : α} (hl : o + cs.length ≤ vs.length) (h : (putMany vs o cs)[i]? = some a) : (o ≤ i ∧ cs[i - o]? = some a) ∨ ((i < o ∨ o + cs.length ≤ i) ∧ vs[i]? = some a) := by
  unfold putMany at h
  rcases Nat.lt_or_ge i o with c | c
  · right
    rw [List.append_assoc, List.getElem?_append_left (by simp; omega), List.getElem?_take, if_pos c] at h
    exact ⟨.inl c, h⟩
  · rcases Nat.lt_or_ge i (o + cs.length) with d | d
    · left
      rw [List.getElem?_append_left (by simp; omega), List.getElem?_append_right (by simp; omega)] at h
      refine ⟨c, ?_⟩
      rw [← h]; congr 1; simp; omega
    · right
      rw [List.getElem?_append_right (by simp; omega), List.getElem?_drop] at h
      refine ⟨.inr d, ?_⟩
      rw [← h]; congr 1; simp; omega
theorem putMany_len {α : Type _} {vs cs : List α} {o : Nat} (hl : o + cs.length ≤ vs.length) : (putMany vs o cs).length = vs.length := by unfold putMany; simp; omega
theorem setCells_frame (g : Nat) : ∀ (news : List Value) (o : Nat) (w : World), Agree (fun k => k ≠ g) w (w.setCells g o news) ∧ (w.setCells g o news).heap.size = w.heap.size
  | [], _, w => ⟨.refl _ _, rfl⟩
  | v :: r, o, w => by
    obtain ⟨h1, h2⟩ := setCells_frame g r (o + 1) (w.setCell ⟨g, o, none⟩ v)
    exact ⟨(setCell_agree w ⟨g, o, none⟩ v (fun h => h rfl)).trans h1, h2.trans (by simp [World.setCell])⟩
theorem setCells_heap {g : Nat} {t : TypeId} : ∀ (news : List Value) (o : Nat) (w : World) (cur : List Value), w.heap[g]? = some (.cells cur.toArray t (0, 0)) → o + news.length ≤ cur.length →
    (w.setCells g o news).heap[g]? = some (.cells (putMany cur o news).toArray t (0, 0))
  | [], o, w, cur, h, hl => by simpa [World.setCells, putMany] using h
  | v :: r, o, w, cur, h, hl => by
    have h1 := blk_set h o v
    rw [List.setIfInBounds_toArray] at h1
    have := setCells_heap r (o + 1) (w.setCell ⟨g, o, none⟩ v) (cur.set o v) h1 (by simp at hl ⊢; omega)
    unfold World.setCells
    rw [this]
    congr 3
    unfold putMany
    simp at hl
    have e1 : (cur.set o v).take (o + 1) = cur.take o ++ [v] := by
      rw [List.take_set, List.set_eq_take_append_cons_drop, if_pos (by simp; omega)]
      simp [List.take_take]
    have e2 : (cur.set o v).drop (o + 1 + r.length) = cur.drop (o + (v :: r).length) := by
      rw [List.drop_set_of_lt (by omega)]; congr 1; simp; omega
    rw [e1, e2]; simp
/-- Cells written into a block that is the machine's own. -/
theorem run_storeVar (hP : PT P T) {t : TypeId} {ti : TI} (hT : T t = some ti) {g o : Nat} {t' : TypeId} {cur : List Value} {v : Value} (hg : w.heap[g]? = some (.cells cur.toArray t' (0, 0))) (hl : o + v.cells.size ≤ cur.length) (hs : v.cells.size = ti.sz)
    (h1 : ∀ u ∈ v.cells.toList, u.oneCell' = true) : (Instr.storeAt t (.pointer (some ⟨g, o, none⟩)) v).run P w = .ok () (w.setCells g o v.cells.toList) := by
  obtain ⟨i, hi, hsz⟩ := hP.info t ti hT
  have hst := run_storeCells_cells (P := P) g o v.cells.toList 0 w (fun j hj => by
      rw [cell_of_row w g _ _ t' (0, 0) hg]; simp at hj ⊢; omega) (fun j hj => by simp [World.frozen?, hg]) h1
  have hz : (Go.sizeOf t).run P w = .ok i.size w := by simp [Go.sizeOf, typeInfo, hi]
  unfold Instr.storeAt storeVar
  simp only [Instr.sureAddr, Sem.run_bind, Sem.run_pure, Result.andThen_ok, hz, Sem.run_ite]
  rw [if_neg (by rw [hs, hsz]; simp)]
  simpa using hst
/-- A store into a variable. -/
theorem MR.setMany (h : MR T w η m) {b t o : Nat} {vs cs : List (AV τ)} {us : List Value} (hb : m.bx[b]? = some (some (t, vs))) (hl : o + cs.length ≤ vs.length) (hv : VRs T (Safe η m) w m η cs us) :
    Step T w m η (w.setCells (η.b b) o us) { m with bx := m.bx.set b (some (t, putMany vs o cs)) } η := by
  have live : ∀ (b' : Nat) (x : TypeId × List (AV τ)), (m.bx.set b (some (t, putMany vs o cs)))[b']? = some (some x) → ∃ x' : TypeId × List (AV τ), m.bx[b']? = some (some x') := by
    intro b' x hx
    rcases getElem?_set' hx with ⟨rfl, _, _⟩ | ⟨_, hx⟩
    · exact ⟨_, hb⟩
    · exact ⟨x, hx⟩
  obtain ⟨hfr, hsz⟩ := setCells_frame (η.b b) us o w
  have hag : Agree (Safe η m) w (w.setCells (η.b b) o us) := hfr.mono (fun k hk e => hk (.inl (.inl ⟨b, _, hb, e.symm⟩)))
  have hsafe : ∀ k, k < w.heap.size → Safe η m k → Safe η { m with bx := m.bx.set b (some (t, putMany vs o cs)) } k := by
    rintro k _ hs ((⟨b', x, hx, e⟩ | hr) | hx)
    · obtain ⟨x', hx'⟩ := live b' x hx; exact hs (.inl (.inl ⟨b', x', hx', e⟩))
    · exact hs (.inl (.inr hr))
    · exact hs (.inr hx)
  have hlat : Later m η { m with bx := m.bx.set b (some (t, putMany vs o cs)) } η := .of_rw (by simp) rfl
  refine ⟨h.next hlat hsafe hag (fun b' t' vs' hb' => ?_) (fun r x hr => ?_) ?_ ?_ h.rr rfl (fun b' x' hb' => ?_) h.xr, hlat, hsafe, hag, rfl, fun k hk => hfr.block k (fun e => h.xb b _ hb (by rw [← e]; exact hk)) (h.xl k hk)⟩
  rotate_right 1
  · obtain ⟨y, hy⟩ := live b' x' hb'; exact h.xb b' _ hy
  · rcases getElem?_set' hb' with ⟨rfl, he, _⟩ | ⟨hne, hb'⟩
    · cases he
      obtain ⟨cur, hc, hcv⟩ := h.bx b t vs hb
      right
      refine ⟨putMany cur o us, setCells_heap us o w cur hc (by rw [← hv.1, ← hcv.1]; exact hl), by rw [putMany_len hl, putMany_len (by rw [← hv.1, ← hcv.1]; exact hl)]; exact hcv.1, fun i a c ha hcc => ?_⟩
      rcases putMany_at hl ha with ⟨h1, h2⟩ | ⟨h1, h2⟩ <;> rcases putMany_at (by rw [← hv.1, ← hcv.1]; exact hl) hcc with ⟨h3, h4⟩ | ⟨h3, h4⟩
      · exact (hv.2 _ a c h2 h4).next hlat hsafe hag
      · have := some_lt h2; have := hv.1; omega
      · have := some_lt h4; have := hv.1; omega
      · exact (hcv.2 _ a c h2 h4).next hlat hsafe hag
    · refine .inl ⟨some_lt hb', hb', hfr.block _ (fun e => hne (h.bb b b' _ _ hb hb' e.symm)) ?_⟩
      exact h.owned_lt (.inl (.inl ⟨b', _, hb', rfl⟩))
  · refine .inl ⟨some_lt hr, hr, rfl, fun k hk => hfr.block k (fun e => h.br b r _ _ hb hr (by rw [← e]; exact hk)) (h.owned_lt (.inl (.inr ⟨r, x, hr, hk⟩)))⟩
  · intro b1 b2 x1 x2 h1 h2 e
    obtain ⟨y1, hy1⟩ := live b1 x1 h1
    obtain ⟨y2, hy2⟩ := live b2 x2 h2
    exact h.bb b1 b2 _ _ hy1 hy2 e
  · intro b1 r x y h1 h2
    obtain ⟨y1, hy1⟩ := live b1 x h1
    exact h.br b1 r _ _ hy1 h2
end
end Am
