/- Words of this session for seat Ytbocpmlppkdhmaa: arguments that read as data (slices of structs, structs by value), opened as the print's kinds. -/
import Derived.Test.YtbocpmlppkdhmaaWWords
import Derived.Test.YtbocpmlppkdhmaaWMore
import Derived.Deep.Slices
import Derived.ChangeArms
import Derived.DataReads
namespace Go.Proofs.YtbocpmlppkdhmaaTh
open Go.RowKit Go.Proofs.YtbocpmlppkdhmaaW.PrintWords Go.Proofs.YtbocpmlppkdhmaaW.PrintLast Go.Proofs.YtbocpmlppkdhmaaW.PrintMore
/-- What reads as data at type T is of kind d, and well formed. -/
def Opens {α : Type} (P : Program) (T : TypeId) (d : Kd α) (wf : α → Prop) : Prop :=
  ∀ {H : Type} (enc : TypeId × Value → H) (w : World) (fuel : Nat) (cs : List Value) (x : DataW H × List MemPlace), DataW.trod enc P w 0 (fun _ => true) true fuel T cs = some x → ∃ a, d.K w a cs ∧ wf a
section
variable {P : Program} {T E : TypeId} {α : Type} {d : Kd α} {wf : α → Prop}
theorem opens_int {k : IntKind} (hu : P.underlying T = some (.int k)) : Opens P T (Kd.int k) (fun a => (Lit.int k a).wf = true) := by
  intro H enc w fuel cs x h
  obtain ⟨n, rfl, _, hw⟩ := DataW.trod_int hu h
  exact ⟨n, rfl, hw⟩
theorem opens_bool (hu : P.underlying T = some .bool) : Opens P T Kd.bool (fun _ => True) := by
  intro H enc w fuel cs x h
  obtain ⟨n, rfl, _⟩ := DataW.trod_bool hu h
  exact ⟨n, rfl, trivial⟩
theorem cells_at {w : World} {b n : Nat} {a : Addr} {cs : List Value} (h : w.cells? b a n = some cs) : cs.length = n ∧ ∀ i u, cs[i]? = some u → w.cell? (a.add i) = some u := by
  obtain ⟨_, hl, hc⟩ := World.cells?_some h
  refine ⟨hl, fun i u hu => ?_⟩
  have hi : i < n := by rw [← hl]; exact (List.getElem?_eq_some_iff.1 hu).1
  rw [hc i hi, hu]
theorem opens_slice (hu : P.underlying T = some (.slice E)) (hc : P.cellsOf E = d.sz) (ho : Opens P E d wf) : Opens P T (Kd.slice E d) (fun xs => xs.length ≤ 9223372036854775807 ∧ ∀ a ∈ xs, wf a) := by
  intro H enc w fuel cs x h
  rcases Go.Deep.open_slice hu h with ⟨rfl, _⟩ | ⟨a, len, cap, m, n, D, Pl, rfl, hb, hl, hm, hmm, _, hx⟩
  · exact ⟨[], ⟨none, 0, rfl, Nat.le_refl _, Kd.C_nil _ _⟩, by simp, fun a h => by cases h⟩
  · simp only [if_true] at hmm
    subst hmm
    have key : ∀ i, i < len → ∃ q : α × List Value, w.cells? 0 (a.add (i * d.sz)) d.sz = some q.2 ∧ d.K w q.1 q.2 ∧ wf q.1 := by
      intro i hi
      obtain ⟨cs', h1, h2⟩ := hx i (by omega)
      obtain ⟨y, hy, hw⟩ := ho enc w n cs' _ h2
      rw [hc] at h1
      exact ⟨(y, cs'), h1, hy, hw⟩
    have key2 : ∀ k, k ≤ len → ∃ xs : List (α × List Value), xs.length = k ∧ ∀ i q, xs[i]? = some q → w.cells? 0 (a.add (i * d.sz)) d.sz = some q.2 ∧ d.K w q.1 q.2 ∧ wf q.1 := by
      intro k
      induction k with
      | zero => exact fun _ => ⟨[], rfl, fun i q h => by simp at h⟩
      | succ k ih =>
        intro hk
        obtain ⟨xs, hxl, hxs⟩ := ih (by omega)
        obtain ⟨q, hq⟩ := key k (by omega)
        refine ⟨xs ++ [q], by simp [hxl], fun i r hr => ?_⟩
        rcases Nat.lt_or_ge i xs.length with hlt | hge
        · rw [List.getElem?_append_left hlt] at hr
          exact hxs i r hr
        · have hi : i = k := by
            have := (List.getElem?_eq_some_iff.1 hr).1
            simp at this
            omega
          subst hi
          rw [List.getElem?_append_right hge, hxl] at hr
          simp at hr
          subst hr
          exact hq
    obtain ⟨xs, hxl, hxs⟩ := key2 len (Nat.le_refl _)
    have hlm : len ≤ 9223372036854775807 := by unfold maxLen at hm; omega
    refine ⟨xs.map (·.1), ⟨some a, m, by simp [hxl], by simpa [hxl] using hl, by simp, by simpa [hxl] using hlm, fun _ => ⟨a, rfl, fun j p hj => ?_⟩⟩, by simpa [hxl] using hlm, fun y hy => ?_⟩
    · rw [List.getElem?_map, Option.map_eq_some_iff] at hj
      obtain ⟨q, hq, rfl⟩ := hj
      obtain ⟨h1, h2, h3⟩ := hxs j q hq
      obtain ⟨h4, h5⟩ := cells_at h1
      exact ⟨q.2, h4, h2, fun i u hu => by rw [← Go.Deep.add_add]; exact h5 i u hu⟩
    · obtain ⟨q, hq, rfl⟩ := List.mem_map.1 hy
      obtain ⟨j, hj⟩ := List.mem_iff_getElem?.1 hq
      exact (hxs j q hj).2.2
end
end Go.Proofs.YtbocpmlppkdhmaaTh
