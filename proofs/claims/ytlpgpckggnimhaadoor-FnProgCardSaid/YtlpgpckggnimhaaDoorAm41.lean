/- The abstract machine, part 41: what the library's functions on texts leave. -/
import Derived.Test.YtlpgpckggnimhaaDoorAm39
import Derived.Lib.LaidTab
import Derived.Lib.Join
import Derived.Lib.ItoaNum
import Derived.Lib.Split
import Derived.Lib.IndexMore
import Derived.Lib.Strings
import Derived.Sort.Grow
import Derived.Deep.Draws
set_option linter.unusedVariables false
set_option linter.unusedSectionVars false
namespace Am
open Go Go.RowKit Go.Sort
variable {τ : TypeId → Type}
/-- What is asked of the program's variables: a number at block mb, a table at block tb. -/
def glA (P : Program) (nm : String) (zs : List Int) (mb tb : Nat) (w : World) (S : Nat → Prop) : Prop :=
  (S mb ∧ mb < w.heap.size ∧ ∃ m, w.cell? ⟨mb, 0, none⟩ = some (.int .i64 m)) ∧ S tb ∧ tb < w.heap.size ∧ P.globalNamed nm = some tb ∧ Lib.TabIs P w nm .u64 zs
theorem glA_next {P : Program} {nm : String} {zs : List Int} {mb tb : Nat} (w w' : World) (S S' : Nat → Prop) (h : glA P nm zs mb tb w S) (hs : ∀ k, k < w.heap.size → S k → S' k) (ha : Agree S w w') : glA P nm zs mb tb w' S' := by
  obtain ⟨⟨h1, h2, m, h3⟩, h4, h5, h6, h7⟩ := h
  refine ⟨⟨hs _ h2 h1, Nat.lt_of_lt_of_le h2 ha.size, m, cell_agree ha h1 h2 h3⟩, hs _ h5 h4, Nat.lt_of_lt_of_le h5 ha.size, h6, ?_⟩
  unfold Lib.TabIs World.var? at h7 ⊢
  rw [h6] at h7 ⊢
  simp only [Option.bind_some] at h7 ⊢
  rw [ha.block _ h4 h5]; exact h7
theorem tab_lt {P : Program} {W : World} {nm : String} {k : IntKind} {zs : List Int} {tb : Nat} (hg : P.globalNamed nm = some tb) (h : Lib.TabIs P W nm k zs) : tb < W.heap.size := by
  unfold Lib.TabIs World.var? at h
  rw [hg] at h
  simp only [Option.bind_some] at h
  split at h
  · rename_i hb; exact (Array.getElem?_eq_some_iff.1 hb).1
  · cases h
def bs (l : List UInt8) : ByteArray := ⟨⟨l⟩⟩
def itoaB (n : Int) : ByteArray := ⟨(Lib.itoa n).toArray⟩
def joinB (xs : List ByteArray) (sep : ByteArray) : ByteArray := ⟨(Lib.join (xs.map (·.data.toList)) sep.data.toList).toArray⟩
def splitW (s sep : ByteArray) : List ByteArray := Lib.splitB sep 0 (Lib.countB s sep) s
def cutL (s sep : ByteArray) : ByteArray := ⟨(Lib.cut s.data.toList sep.data.toList).1.toArray⟩
def cutR (s sep : ByteArray) : ByteArray := ⟨(Lib.cut s.data.toList sep.data.toList).2.1.toArray⟩
def cutT (s sep : ByteArray) : Bool := (Lib.cut s.data.toList sep.data.toList).2.2
def trimB (s p : ByteArray) : ByteArray := ⟨(Lib.trimPrefix s.data.toList p.data.toList).toArray⟩
/- What they answer, where the contracts speak. -/
def strconv_Itoa.f (k : Nat) (a0 : Int) : Option ByteArray := if -9223372036854775808 ≤ a0 ∧ a0 ≤ 9223372036854775807 then some (itoaB a0) else none
def strings_Join.f (k : Nat) (l0 : List ByteArray) (a1 : ByteArray) : Option ByteArray := if l0.length ≤ 140737488355328 ∧ (Lib.join (l0.map (·.data.toList)) a1.data.toList).length ≤ 140737488355328 then some (joinB l0 a1) else none
def strings_Split.f (k : Nat) (a0 a1 : ByteArray) : Option (List ByteArray) := if a0.size < 4294967281 ∧ 1 ≤ a1.size then some (splitW a0 a1) else none
def strings_Cut.f (k : Nat) (a0 a1 : ByteArray) : Option (ByteArray × ByteArray × Bool) := if a0.size < 4294967281 then some (cutL a0 a1, cutR a0 a1, cutT a0 a1) else none
def strings_TrimPrefix.f (k : Nat) (a0 a1 : ByteArray) : Option ByteArray := some (trimB a0 a1)
section
variable {T : Tab τ} {P : Program} {n : Nat} {f : FuncId}
theorem below_all {w w' : World} (h : Below w.heap.size w w') : Agree (fun _ => True) w w' := ⟨h.os, h.tape, h.output, h.size, fun k _ hk => h.block k hk⟩
theorem below_grown (w : World) (k : Nat) (os : Array Obj) : Below w.heap.size w (grow (w.drewN k) os) :=
  ⟨rfl, rfl, rfl, by simp [grow, World.drewN], fun i hi => by
    show (w.heap ++ os)[i]? = _
    rw [Array.getElem?_append_left hi]⟩
theorem below_drawn (w : World) (k : Nat) : Below w.heap.size w (w.drewN k) := ⟨rfl, rfl, rfl, Nat.le_refl _, fun _ _ => rfl⟩
theorem told_same {args : List (AV τ)} {m : Mem τ} {av : AV τ} (he : Enters P f) (h : ∀ (w : World) (η : Eta) (vs : Array Value), MR T w η m → VRs T (Safe η m) w m η args vs.toList →
    Calls P f vs w (fun e w' => ∃ v, e = .returned v ∧ Below w.heap.size w w' ∧ VR T (Safe η m) w' m η av v)) : ToldA P T n f args m av m := by
  refine ⟨he, fun w η vs hm hv => (h w η vs hm hv).mono fun e w' hx => ?_⟩
  obtain ⟨v, rfl, hb, hr⟩ := hx
  have ha := below_all hb
  exact ⟨v, η, rfl, ⟨hm.agree ha, fun k _ hs => hs, ha.mono fun _ _ => trivial, rfl, fun k hk => ha.block k trivial (hm.xl k hk), fun _ _ => rfl, Nat.le_refl _, fun r _ x' hx => ⟨x', hx, Nat.le_refl _, fun _ => ⟨rfl, rfl⟩⟩⟩, hr⟩
/-- One number in, one text out. -/
theorem told_num {k : IntKind} {a : Int} {s : ByteArray} {m : Mem τ} (he : Enters P f) (h : ∀ (w : World) (S : Nat → Prop), T.gl w S → Calls P f #[.int k a] w (fun e w' => e = .returned (.string s) ∧ Below w.heap.size w w')) :
    ToldA P T n f [.int k a] m (.str s) m := by
  refine told_same he (fun w η vs hm hv => ?_)
  obtain ⟨vs⟩ := vs
  obtain ⟨hl, hv⟩ := hv
  match vs, hl, hv with
  | [v], _, hv =>
    have := (hv 0 _ _ rfl rfl).int_inv
    subst this
    exact (h w _ hm.gl).mono fun e w' hx => by
      obtain ⟨rfl, hb⟩ := hx
      exact ⟨_, rfl, hb, .str _⟩
/-- Two texts in, a value out. -/
theorem told_two {a b : ByteArray} {av : AV τ} {u : Value} {m : Mem τ} (he : Enters P f) (hu : ∀ w (η : Eta) S, VR T S w m η av u) (h : ∀ (w : World) (S : Nat → Prop), T.gl w S → Calls P f #[.string a, .string b] w (fun e w' => e = .returned u ∧ Below w.heap.size w w')) :
    ToldA P T n f [.str a, .str b] m av m := by
  refine told_same he (fun w η vs hm hv => ?_)
  obtain ⟨vs⟩ := vs
  obtain ⟨hl, hv⟩ := hv
  match vs, hl, hv with
  | [v, v'], _, hv =>
    have h1 := (hv 0 _ _ rfl rfl).str_inv
    have h2 := (hv 1 _ _ rfl rfl).str_inv
    subst h1; subst h2
    exact (h w _ hm.gl).mono fun e w' hx => by
      obtain ⟨rfl, hb⟩ := hx
      exact ⟨_, rfl, hb, hu _ _ _⟩
/-- A row of texts and a text in, a text out; the row stays. -/
theorem told_join {e : TypeId} {s b : ByteArray} {xs : List (τ e)} {ys : List ByteArray} (he : Enters P f) (hT : T e = some ⟨[.str], .scal⟩) (hl : ys.length = xs.length) (hy : ∀ (j : Nat) (x : τ e) (y : ByteArray), xs[j]? = some x → ys[j]? = some y → T.row e x = [.s y])
    (h0 : xs.length = 0 → ∀ (w : World) (A : Option Addr) (c : Nat), Calls P f #[.slice A 0 c, .string b] w (fun e w' => e = .returned (.string s) ∧ w' = w))
    (h : ∀ (w : World) (g o c : Nat), (∀ (j : Nat) x, ys[j]? = some x → w.cell? ⟨g, o + j, none⟩ = some (.string x)) → g < w.heap.size → ys.length ≤ c → Calls P f #[.slice (some ⟨g, o, none⟩) ys.length c, .string b] w (fun e w' => e = .returned (.string s) ∧ Below w.heap.size w w')) :
    ToldA P T n f [.own 0 0, .str b] ⟨[], [some ⟨e, xs, 0⟩]⟩ (.str s) ⟨[], [some ⟨e, xs, 0⟩]⟩ := by
  refine told_same he (fun w η vs hm hv => ?_)
  obtain ⟨vs⟩ := vs
  obtain ⟨hl2, hv⟩ := hv
  match vs, hl2, hv with
  | [v, v'], _, hv =>
    have h1 := (hv 0 _ _ rfl rfl)
    have h2 := (hv 1 _ _ rfl rfl).str_inv
    subst h2
    have hr : (⟨[], [some ⟨e, xs, 0⟩]⟩ : Mem τ).rw[0]? = some (some ⟨e, xs, 0⟩) := rfl
    have hval : (⟨[], [some ⟨e, xs, 0⟩]⟩ : Mem τ).valid 0 0 = some ⟨e, xs, 0⟩ := rfl
    have hv0 := h1.own_inv hval
    subst hv0
    obtain ⟨ti, inner, hti, ho, hR⟩ := hm.rw 0 _ hr
    replace hti : T e = some ti := hti
    rw [hT] at hti; cases hti
    have hcells := ho
    obtain ⟨hlen, hrest⟩ := ho
    have hsz : (⟨[.str], .scal⟩ : TI).sz = 1 := rfl
    rw [hsz] at hlen hcells hrest
    rcases hrest with ⟨e1, hn⟩ | ⟨g, cap, cur, e1, _, hg, hnc, hcm, hcs, htake⟩
    · have hn' : xs.length = 0 := hn
      rw [e1]
      exact (h0 hn' w none 0).mono fun e w' hx => by
        obtain ⟨rfl, rfl⟩ := hx
        exact ⟨_, rfl, .refl _ _, .str _⟩
    · rw [e1]
      have key : Calls P f #[.slice (some ⟨g, 0, none⟩) ys.length cap, .string b] w (fun e w' => e = .returned (.string s) ∧ Below w.heap.size w w') := by
        refine h w g 0 cap (fun j y hj => ?_) (blk_lt hg) (by rw [hl]; exact hnc)
        have hjl : j < xs.length := by rw [← hl]; exact some_lt hj
        have hx : xs[j]? = some xs[j] := List.getElem?_eq_getElem hjl
        have hrow := hy j _ _ hx hj
        have hin : j < inner.length := by rw [hlen]; show j < xs.length * 1; omega
        have hc := own_cell hcells e1 (j := j) (by show j < xs.length * 1; omega)
        rw [Nat.zero_add]
        rw [hc]
        have hLR := hR.2 j [.s y] 0 (.s y) .str inner[j] (by rw [List.getElem?_map, hx]; exact congrArg some hrow) rfl rfl (by rw [hsz]; simp [List.getElem?_eq_getElem hin])
        have : inner[j] = .string y := by
          generalize inner[j] = q at hLR
          cases hLR; rfl
        rw [List.getElem?_eq_getElem hin, this]
      rw [hl] at key
      exact key.mono fun e w' hx => by
        obtain ⟨rfl, hb⟩ := hx
        exact ⟨_, rfl, hb, .str _⟩
/-- Two texts in, a row of texts out. -/
theorem told_split {a b : ByteArray} {e : TypeId} {xs : List (τ e)} {ys : List ByteArray} {k : Nat} (he : Enters P f) (hT : T e = some ⟨[.str], .scal⟩) (hl : ys.length = xs.length) (hy : ∀ (j : Nat) (x : τ e) (y : ByteArray), xs[j]? = some x → ys[j]? = some y → T.row e x = [.s y]) (hk : ys.length = k) (hm0 : k ≤ maxLen)
    (h : ∀ (w : World) (S : Nat → Prop), T.gl w S → Calls P f #[.string a, .string b] w (fun q w' => q = .returned (.slice (some ⟨w.heap.size, 0, none⟩) k k) ∧ w' = w.alloc (.cells (ys.map Value.string).toArray e))) :
    ToldA P T 0 f [.str a, .str b] ⟨[], []⟩ (.own 0 0) ⟨[], [some ⟨e, xs, 0⟩]⟩ := by
  refine ⟨he, fun w η vs hm hv => ?_⟩
  obtain ⟨vs⟩ := vs
  obtain ⟨hl2, hv⟩ := hv
  match vs, hl2, hv with
  | [v, v'], _, hv =>
    have h1 := (hv 0 _ _ rfl rfl).str_inv
    have h2 := (hv 1 _ _ rfl rfl).str_inv
    subst h1; subst h2
    refine (h w _ hm.gl).mono fun q w' hx => ?_
    obtain ⟨rfl, rfl⟩ := hx
    obtain ⟨s1, s2⟩ := newRow_step (us := ys.map Value.string) (rs := xs) hm hT (by simp [TI.sz, hl]) (by rw [← hl, hk]; exact hm0) ⟨fun row hr => by
        obtain ⟨x, hx, rfl⟩ := List.mem_map.1 hr
        obtain ⟨j, hj⟩ := List.mem_iff_getElem?.1 hx
        have hjl : j < ys.length := by rw [hl]; exact some_lt hj
        rw [hy j x _ hj (List.getElem?_eq_getElem hjl)]; rfl,
      fun j row o lf lt v h1 h2 h3 h4 => by
        obtain ⟨x, hx, rfl⟩ := map_of_at h1
        have hjl : j < ys.length := by rw [hl]; exact some_lt hx
        have hys : ys[j]? = some ys[j] := List.getElem?_eq_getElem hjl
        rw [hy j x _ hx hys] at h2
        cases o with
        | succ o => simp at h2
        | zero =>
          simp at h2 h3; subst h2; subst h3
          simp [TI.sz, hys] at h4; subst h4; exact .str _⟩
    have hkx : xs.length = k := by rw [← hl]; exact hk
    rw [hkx] at s1 s2
    refine ⟨_, _, rfl, ⟨s1.mr, s1.safe, s1.agree, s1.x, s1.fx, fun b hb => by simp at hb, Nat.zero_le _, fun r hr => by omega⟩, s2⟩
end
end Am
