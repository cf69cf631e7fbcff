/- The abstract machine, part 16: copies; small operations; equality. -/
import Derived.Test.YtkkmhlfpombgfaaAm15
import Derived.Laws.StructEq
import Derived.Laws.Small
import Derived.Laws.Slices
set_option linter.unusedVariables false
set_option linter.unusedSectionVars false
set_option linter.unusedSimpArgs false
namespace Am
open Go
variable {τ : TypeId → Type}
/-- What more the program says: which scalars a type holds, and that structs compare field by field. -/
structure PQ (P : Program) (T : Tab τ) (by_ : TypeId → Nat) : Prop extends PZ P T by_ where
  sI : ∀ t ti k, T t = some ti → ti.d = .scal → ti.lts = [.int k] → P.underlying t = some (.int k)
  sB : ∀ t ti, T t = some ti → ti.d = .scal → ti.lts = [.bool] → P.underlying t = some .bool
  sS : ∀ t ti, T t = some ti → ti.d = .scal → ti.lts = [.str] → P.underlying t = some .string
  eqs : ∀ t ti fs, T t = some ti → ti.d = .st fs → P.eqGuardType P.depth t = false ∧ P.stoodInHeld t = false ∧ ∀ fields, P.underlying t = some (.struct fields) → ∀ f ∈ fields.toList, (f.name == "_") = false
def unA : UnOp → AV τ → Option (AV τ)
  | .not, .bool b => some (.bool !b)
  | .neg, .int k n => some (.int k (k.wrap (0 - n)))
  | _, _ => none
def pickA : AV τ → AV τ → AV τ → Option (AV τ)
  | .bool true, a, _ => some a
  | .bool false, _, b => some b
  | _, _, _ => none
def extractA (x : AV τ) (i : Nat) : Option (AV τ) := match x with | .tup vs => vs[i]? | _ => none
def nilCheckA : AV τ → Option (AV τ)
  | .ptr b o => some (.ptr b o)
  | .eptr e rows i o => some (.eptr e rows i o)
  | .fn f => some (.fn f)
  | _ => none
def TI.scI (ti : TI) : Option IntKind := match ti.d, ti.lts with | .scal, [.int k] => some k | _, _ => none
def convA (T : Tab τ) (src dst : TypeId) (x : AV τ) : Option (AV τ) :=
  match T src with
  | some ts => match T dst with
    | some td => match ts.scI with
      | some _ => match td.scI with
        | some k => match x with
          | .int _ n => some (.int k (k.wrap n))
          | _ => none
        | none => none
      | none => none
    | none => none
  | none => none
def minA : AV τ → AV τ → Option (AV τ)
  | .int k x, .int _ y => some (.int k (if y < x then y else x))
  | _, _ => none
def partA (T : Tab τ) (t : TypeId) (cs : List (AV τ)) (off : Nat) : Option (AV τ) :=
  match T t with
  | some ti => if ti.plain = true ∧ off + ti.sz ≤ cs.length then packA ti ((cs.drop off).take ti.sz) else none
  | none => none
def valFieldA (T : Tab τ) (t : TypeId) (x : AV τ) (f : Nat) : Option (AV τ) :=
  match T t, x with
  | some ti, .agg cs => if ti.isSt then match ti.fields[f]? with
      | some (off, ft) => partA T ft cs off
      | none => none
    else none
  | _, _ => none
/-- An element of an array's value: what must hold, and what comes out. -/
def valIndexC (T : Tab τ) (t : TypeId) (x i : AV τ) : Option (List Bool × AV τ) :=
  match T t, i, x with
  | some ti, .int _ n, .agg cs => match ti.d with
    | .arr len e => match T e with
      | some te => if te.plain = true ∧ te.isAgg = false ∧ te.sz = 1 ∧ cs.length = len then
          match kindOf cs with
          | some k => match intsA k cs with
            | some fs => some ([decide (0 ≤ n), decide (n < len)], .int k (fs.getD n.toNat 0))
            | none => none
          | none => match boolsA cs with
            | some fs => some ([decide (0 ≤ n), decide (n < len)], .bool (fs.getD n.toNat false))
            | none => none
        else none
      | none => none
    | _ => none
  | _, _, _ => none
section
variable {T : Tab τ} {P : Program} {by_ : TypeId → Nat} {w w' w2 : World} {m m' m2 : Mem τ} {η η' η2 : Eta} {tm : List (AV τ)} {S : Nat → Prop}
theorem unA_sound {op : UnOp} {x r : AV τ} {v : Value} (h : unA op x = some r) (hv : VR T S w m η x v) : ∃ z, (Op.unary op v).run P w = .ok z w ∧ VR T S w m η r z := by
  unfold unA at h
  split at h
  · cases h; rw [hv.bool_inv]; exact ⟨_, by simp [Op.unary], .bool _⟩
  · cases h; rw [hv.int_inv]; exact ⟨_, by simp [Op.unary, Op.intArith], .int _ _⟩
  · cases h
theorem pickA_sound {c a b r : AV τ} {vc va vb : Value} (h : pickA c a b = some r) (hc : VR T S w m η c vc) (ha : VR T S w m η a va) (hb : VR T S w m η b vb) :
    ∃ z, (do pure (Next.value (if ← asBool vc then va else vb)) : Sem Next).run P w = .ok (.value z) w ∧ VR T S w m η r z := by
  unfold pickA at h
  split at h
  · cases h; rw [hc.bool_inv]; exact ⟨va, by simp [asBool], ha⟩
  · cases h; rw [hc.bool_inv]; exact ⟨vb, by simp [asBool], hb⟩
  · cases h
theorem extractA_sound {x r : AV τ} {v : Value} {i : Nat} (h : extractA x i = some r) (hv : VR T S w m η x v) : ∃ z, (Instr.extract v i).run P w = .ok z w ∧ VR T S w m η r z := by
  unfold extractA at h
  split at h
  · rename_i vs
    cases hv with
    | tup _ cs hl hh =>
      have hi : i < cs.length := by rw [← hl]; exact some_lt h
      exact ⟨cs[i], by simp [Instr.extract, List.getElem?_eq_getElem hi], hh i r _ h (List.getElem?_eq_getElem hi)⟩
  · cases h
theorem nilCheckA_sound {x r : AV τ} {v : Value} (h : nilCheckA x = some r) (hv : VR T S w m η x v) :
    VR T S w m η r v ∧ ((∃ a, v = .pointer (some a)) ∨ ∃ f, v = .func (.func f) #[] #[]) := by
  unfold nilCheckA at h
  split at h
  · cases h; exact ⟨hv, .inl ⟨_, hv.ptr_inv⟩⟩
  · cases h; obtain ⟨_, _, _, _, _, _, _, e⟩ := hv.eptr_inv; exact ⟨hv, .inl ⟨_, e⟩⟩
  · cases h; cases hv; exact ⟨.fn _, .inr ⟨_, rfl⟩⟩
  · cases h
theorem TI.scI_some {ti : TI} {k : IntKind} (h : ti.scI = some k) : ti.d = .scal ∧ ti.lts = [.int k] := by
  unfold TI.scI at h
  split at h
  · rename_i e1 e2; cases h; exact ⟨e1, e2⟩
  · cases h
theorem convA_sound (hP : PQ P T by_) {src dst : TypeId} {x r : AV τ} {v : Value} (h : convA T src dst x = some r) (hv : VR T S w m η x v) : ∃ z, (convert src dst v).run P w = .ok z w ∧ VR T S w m η r z := by
  unfold convA at h
  split at h
  case h_2 => cases h
  rename_i ts hts
  split at h
  case h_2 => cases h
  rename_i td htd
  split at h
  case h_2 => cases h
  rename_i k1 hk1
  split at h
  case h_2 => cases h
  rename_i k2 hk2
  split at h
  case h_2 => cases h
  cases h
  obtain ⟨a1, a2⟩ := TI.scI_some hk1
  obtain ⟨b1, b2⟩ := TI.scI_some hk2
  rw [hv.int_inv]
  refine ⟨_, ?_, .int _ _⟩
  unfold convert
  simp [run_underlying (hP.sI src ts k1 hts a1 a2), run_underlying (hP.sI dst td k2 htd b1 b2), Conv.intToInt]
theorem minA_sound {x y r : AV τ} {u v : Value} (h : minA x y = some r) (hx : VR T S w m η x u) (hy : VR T S w m η y v) (ts : Array TypeId) (t : TypeId) :
    ∃ z, (Builtin.min_ ts t #[u, v]).run P w = .ok z w ∧ VR T S w m η r z := by
  unfold minA at h
  split at h
  · cases h; rw [hx.int_inv, hy.int_inv]; exact ⟨_, run_min_int2 _ _ _ _ _ _ _, .int _ _⟩
  · cases h
/-- A part of a value. -/
theorem partA_sound (hP : PT P T) {t : TypeId} {cs : List (AV τ)} {us : List Value} {off : Nat} {r : AV τ} (h : partA T t cs off = some r) (hv : VRs T S w m η cs us) :
    ∃ z, (part t us.toArray off).run P w = .ok z w ∧ VR T S w m η r z := by
  unfold partA at h
  split at h
  case h_2 => cases h
  rename_i ti hT
  split at h
  case isFalse => cases h
  rename_i hc
  obtain ⟨hp, hlen⟩ := hc
  obtain ⟨i, hi, hsz⟩ := hP.info t ti hT
  have hpart := hv.part off ti.sz
  unfold part
  simp only [Sem.run_bind, run_isAgg_ti hP hT (TI.plain_iff hp), Result.andThen_ok, Sem.run_ite]
  unfold packA at h
  by_cases hag : ti.isAgg = true
  · rw [if_pos hag] at h ⊢
    cases h
    refine ⟨.agg ((us.drop off).take ti.sz).toArray, ?_, .agg _ _ hpart.1 hpart.2⟩
    simp [Go.sizeOf, typeInfo, hi, hsz, List.extract_eq_take_drop]
  · rw [if_neg hag] at h ⊢
    split at h
    · rename_i a hcs
      cases h
      have h1 : ((us.drop off).take ti.sz).length = 1 := by rw [← hpart.1, hcs]; rfl
      match hus : (us.drop off).take ti.sz, h1 with
      | [c], _ =>
        have hlt : off < us.length := by
          have h2 : ((us.drop off).take ti.sz).length = 1 := by rw [hus]; rfl
          rw [List.length_take, List.length_drop] at h2; omega
        have hc : us[off]? = some c := by
          have h2 : ((us.drop off).take ti.sz)[0]? = some c := by rw [hus]; rfl
          rw [List.getElem?_take] at h2
          split at h2
          · simpa using h2
          · cases h2
        refine ⟨c, by simp [hc], ?_⟩
        refine hpart.2 0 r c (by rw [hcs]; rfl) (by rw [hus]; rfl)
    · cases h
theorem valFieldA_sound (hP : PT P T) {t : TypeId} {x r : AV τ} {v : Value} {f : Nat} (h : valFieldA T t x f = some r) (hv : VR T S w m η x v) :
    ∃ z, (Instr.field t v f).run P w = .ok z w ∧ VR T S w m η r z := by
  unfold valFieldA at h
  split at h
  case h_2 => cases h
  rename_i ti cs hT
  split at h
  case isFalse => cases h
  rename_i hst
  split at h
  case h_2 => cases h
  rename_i off ft hf
  obtain ⟨us, rfl, hus⟩ := hv.agg_inv
  obtain ⟨fs, hd⟩ : ∃ fs, ti.d = .st fs := by unfold TI.isSt at hst; cases hd : ti.d <;> rw [hd] at hst <;> simp at hst; exact ⟨_, rfl⟩
  obtain ⟨fields, hu, hfs⟩ := hP.st t ti fs hT hd
  have hf' : fs[f]? = some (off, ft) := by unfold TI.fields at hf; rw [hd] at hf; exact hf
  obtain ⟨fd, hfd, e⟩ : ∃ fd, fields[f]? = some fd ∧ (fd.offset, fd.type) = (off, ft) := by
    rw [← hfs, List.getElem?_map] at hf'
    cases hq : fields.toList[f]? with
    | none => rw [hq] at hf'; simp at hf'
    | some fd => rw [hq] at hf'; exact ⟨fd, by simpa using hq, by simpa using hf'⟩
  simp only [Prod.mk.injEq] at e
  obtain ⟨rfl, rfl⟩ := e
  obtain ⟨z, h1, h2⟩ := partA_sound hP h hus
  refine ⟨z, ?_, h2⟩
  unfold Instr.field
  simp only [Sem.run_bind, run_underlying hu, Result.andThen_ok, hfd, asAgg, Sem.run_pure]
  exact h1
theorem take1 {α : Type} {l : List α} {i : Nat} {a : α} (h : l[i]? = some a) : (l.drop i).take 1 = [a] := by
  obtain ⟨hi, e⟩ := List.getElem?_eq_some_iff.1 h
  rw [List.drop_eq_getElem_cons hi, e]; rfl
theorem valIndexC_sound (hP : PT P T) {t : TypeId} {x i r : AV τ} {cs0 : List Bool} {v u : Value} (h : valIndexC T t x i = some (cs0, r)) (hcs : cs0.all id = true) (hv : VR T S w m η x v) (hi : VR T S w m η i u) :
    ∃ z, (Instr.index t v u).run P w = .ok z w ∧ VR T S w m η r z := by
  unfold valIndexC at h
  split at h
  case h_2 => cases h
  rename_i ti k0 n cs hT
  have hu := hi.int_inv
  subst hu
  split at h
  case h_2 => cases h
  rename_i len e hd
  split at h
  case h_2 => cases h
  rename_i te hTe
  split at h
  case isFalse => cases h
  rename_i hc
  obtain ⟨hpl, hag, hsz, hlen⟩ := hc
  obtain ⟨us, rfl, hus⟩ := hv.agg_inv
  obtain ⟨j, hj, hjs⟩ := hP.info _ te hTe
  have hz : (Go.sizeOf e).run P w = .ok j.size w := by simp [Go.sizeOf, typeInfo, hj]
  have key : ∀ {a : AV τ}, 0 ≤ n → n < len → cs[n.toNat]? = some a → ∃ z, (Instr.index t (.agg us.toArray) (.int k0 n)).run P w = .ok z w ∧ VR T S w m η a z := fun {a} h0 h1 ha => by
    have hp : partA T e cs n.toNat = some a := by
      unfold partA
      rw [hTe]
      simp only
      rw [if_pos ⟨hpl, by rw [hsz, hlen]; omega⟩, hsz, take1 ha]
      unfold packA
      rw [hag]; rfl
    obtain ⟨z, hz1, hz2⟩ := partA_sound hP hp hus
    refine ⟨z, ?_, hz2⟩
    unfold Instr.index
    simp only [asIntOf, Sem.run_bind, Sem.run_pure, Result.andThen_ok, run_underlying (hP.arr t ti len e hT hd), Sem.run_ite, hz]
    rw [if_pos ⟨h0, h1⟩, hjs, hsz, Nat.mul_one]; exact hz1
  split at h
  · rename_i k hk
    split at h
    case h_2 => cases h
    rename_i fs hfs
    cases h
    simp only [List.all_cons, id, List.all_nil, Bool.and_true, Bool.and_eq_true, decide_eq_true_eq] at hcs
    have e := intsA_spec hfs
    have hl : fs.length = len := by rw [← hlen, e]; simp
    have hi : n.toNat < fs.length := by omega
    rw [List.getD_eq_getElem?_getD, List.getElem?_eq_getElem hi]
    exact key hcs.1 hcs.2 (by rw [e]; simp [hi])
  · split at h
    case h_2 => cases h
    rename_i fs hfs
    cases h
    simp only [List.all_cons, id, List.all_nil, Bool.and_true, Bool.and_eq_true, decide_eq_true_eq] at hcs
    have e := boolsA_spec hfs
    have hl : fs.length = len := by rw [← hlen, e]; simp
    have hi : n.toNat < fs.length := by omega
    rw [List.getD_eq_getElem?_getD, List.getElem?_eq_getElem hi]
    exact key hcs.1 hcs.2 (by rw [e]; simp [hi])
end
end Am
