/- The abstract machine, part 14: rows made, and appended to. -/
import Derived.Test.YtkkmhlfpombgfaaAm13
import Derived.Laws.MakeOwn
set_option linter.unusedVariables false
set_option linter.unusedSectionVars false
set_option linter.unusedSimpArgs false
namespace Am
open Go
variable {τ : TypeId → Type}
def zeros (lts : List LT) (n : Nat) : List (AV τ) := (List.range n).map fun i => zA (lts.getD (i % lts.length) .bool)
def rowsOf (lts : List LT) : Nat → List (AV τ) → Option (List (List (Lf τ)))
  | 0, _ => some []
  | n + 1, cs => match toLfs lts (cs.take lts.length), rowsOf lts n (cs.drop lts.length) with
    | some r, some rs => some (r :: rs)
    | _, _ => none
def buildSliceA (T : Tab τ) (m : Mem τ) (t : TypeId) (len : Nat) (parts : List (Nat × AV τ)) : Option (AV τ × Mem τ) :=
  match T t with
  | some ts => match ts.d with
    | .sl e => match T e with
      | some te => if te.plain ∧ 0 < te.sz then
          if len = 0 then (match parts with | [] => some (.own m.rw.length 0, m.addRw e []) | _ => none)
          else if len * te.sz ≤ 65536 then
            match fillA m (fun i => some (i * te.sz, te.sz)) (zeros te.lts (len * te.sz)) parts with
            | some cs => match rowsOf te.lts len cs with
              | some rs => if T.el e = true then some (.own m.rw.length 0, m.addRw e (rs.map (T.of e))) else none
              | none => none
            | none => none
          else none
        else none
      | none => none
    | _ => none
  | none => none
def makeSliceA (T : Tab τ) (by_ : TypeId → Nat) (m : Mem τ) (t : TypeId) (n : AV τ) : Option (AV τ × Mem τ) :=
  match T t, n with
  | some ts, .int _ k => match ts.d with
    | .sl e => match T e with
      | some te => if te.plain ∧ 0 < te.sz ∧ T.el e = true then
          (if 0 ≤ k then (if k.toNat ≤ 281474976710656 / by_ e then some (.own m.rw.length 0, m.addRw e (List.replicate k.toNat (T.of e (te.lts.map zLf)))) else none) else none)
        else none
      | none => none
    | _ => none
  | _, _ => none
section
variable {T : Tab τ} {P : Program} {by_ : TypeId → Nat} {w w' w2 : World} {m m' m2 : Mem τ} {η η' η2 : Eta} {tm : List (AV τ)} {S : Nat → Prop}
theorem rowsOf_len {lts : List LT} : ∀ {n : Nat} {cs : List (AV τ)} {rs : List (List (Lf τ))}, rowsOf lts n cs = some rs → rs.length = n ∧ ∀ (j : Nat) (row : List (Lf τ)), rs[j]? = some row → toLfs lts ((cs.drop (j * lts.length)).take lts.length) = some row
  | 0, cs, rs, h => by simp [rowsOf] at h; subst h; simp
  | n + 1, cs, rs, h => by
    simp only [rowsOf] at h
    split at h
    · rename_i r rs' h1 h2
      cases h
      obtain ⟨a, b⟩ := rowsOf_len h2
      refine ⟨by simp [a], fun j row hj => ?_⟩
      cases j with
      | zero => simp at hj; subst hj; simpa using h1
      | succ j =>
        simp at hj
        have := b j row hj
        rw [List.drop_drop] at this
        rwa [show (j + 1) * lts.length = lts.length + j * lts.length by rw [Nat.add_mul, Nat.one_mul, Nat.add_comm]]
    · cases h
theorem toLfs_wt : ∀ {lts : List LT} {as : List (AV τ)} {lfs : List (Lf τ)}, toLfs lts as = some lfs → wts lts lfs = true
  | [], [], lfs, h => by simp [toLfs] at h; subst h; rfl
  | [], _ :: _, lfs, h => by simp [toLfs] at h
  | _ :: _, [], lfs, h => by simp [toLfs] at h
  | lt :: ls, a :: as, lfs, h => by
    simp only [toLfs] at h
    split at h
    · rename_i x xs h1 h2
      cases h
      simp [wts, toLf_wt h1, toLfs_wt h2]
    · cases h
theorem zLf_wt : ∀ (lts : List LT), wts lts (lts.map (zLf (τ := τ))) = true
  | [] => rfl
  | lt :: ls => by simp only [List.map_cons, wts, zLf_wt ls, Bool.and_true]; cases lt <;> simp [zLf, wt]
theorem rowsOf_row (hP : PT P T) {e : TypeId} {te : TI} (hT : T e = some te) (hel : T.el e = true) {n : Nat} {cs : List (AV τ)} {rs : List (List (Lf τ))} (h : rowsOf te.lts n cs = some rs) : (rs.map (T.of e)).map (T.row e) = rs := by
  rw [List.map_map]
  conv => rhs; rw [← List.map_id rs]
  refine List.map_congr_left (fun row hrow => ?_)
  obtain ⟨j, hj⟩ := List.getElem?_of_mem hrow
  exact hP.of e te row hT hel (toLfs_wt ((rowsOf_len h).2 j row hj))
theorem rows_cells (hP : PT P T) {e : TypeId} {te : TI} (hT : T e = some te) {n : Nat} {cs : List (AV τ)} {us : List Value} {rs : List (List (Lf τ))} (h : rowsOf te.lts n cs = some rs) (hv : VRs T S w m η cs us) : RowR T S w te rs us := by
  obtain ⟨hl, hr⟩ := rowsOf_len h
  refine ⟨fun row hrow => ?_, fun j row o lf lt v h1 h2 h3 h4 => ?_⟩
  · obtain ⟨j, hj⟩ := List.getElem?_of_mem hrow
    exact (toLfs_len (hr j row hj)).1
  · have hlf := hr j row h1
    have ho : o < te.lts.length := some_lt h3
    have hjo : j * te.sz + o < cs.length := by rw [hv.1]; exact some_lt h4
    have ha : ((cs.drop (j * te.lts.length)).take te.lts.length)[o]? = some cs[j * te.sz + o] := by
      rw [List.getElem?_take, if_pos ho, List.getElem?_drop]; exact List.getElem?_eq_getElem hjo
    exact toLf_sound (toLfs_at hlf o lf lt _ h2 h3 ha) (hv.2 _ _ v (List.getElem?_eq_getElem hjo) h4) (fun e he => by subst he; exact hP.closed _ te hT e (List.mem_of_getElem? h3))
theorem newRow_step (hm : MR T w η m) {e : TypeId} {te : TI} (hT : T e = some te) {rs : List (τ e)} {us : List Value} (hl : us.length = rs.length * te.sz) (hml : rs.length ≤ maxLen) (hR : RowR T (Safe η m) w te (rs.map (T.row e)) us) :
    Step T w m η (w.alloc (.cells us.toArray e)) (m.addRw e rs) (η.addR m.rw.length (.slice (some ⟨w.heap.size, 0, none⟩) rs.length rs.length)) ∧
    VR T (Safe (η.addR m.rw.length (.slice (some ⟨w.heap.size, 0, none⟩) rs.length rs.length)) (m.addRw e rs)) (w.alloc (.cells us.toArray e)) (m.addRw e rs) (η.addR m.rw.length (.slice (some ⟨w.heap.size, 0, none⟩) rs.length rs.length)) (.own m.rw.length 0) (.slice (some ⟨w.heap.size, 0, none⟩) rs.length rs.length) := by
  have ho := World.ownsRow_lit (base := 0) (e := e) (size := te.sz) w us.toArray rs.length (Nat.zero_le _) hml (by simpa using hl)
  have hs := hm.addR (v := .slice (some ⟨w.heap.size, 0, none⟩) rs.length rs.length) (inner := us) hT (alloc_agree w (.cells us.toArray e) _) (by simpa using ho) (fun k hk => by simp [Value.ownBlock] at hk; omega) hR
  refine ⟨hs, .own _ _ _ (by simp [Mem.addRw]) (fun x hx => ?_)⟩
  simp [Mem.addRw] at hx; subst hx
  exact ⟨Nat.le_refl _, fun _ => by simp [Eta.addR]⟩
theorem zeros_sound (lts : List LT) (hpos : 0 < lts.length) (z : Value) (hz : z.cells.toList = lts.map zV) (n : Nat) : VRs T S w m η (zeros lts n) ((Array.range n).map (z.cells[· % z.cells.size]!)).toList := by
  have hsz : z.cells.size = lts.length := by rw [← Array.length_toList, hz]; simp
  refine ⟨by simp [zeros], fun i a c ha hc => ?_⟩
  unfold zeros at ha
  rw [List.getElem?_map] at ha
  have hi : i < n := by
    rcases Nat.lt_or_ge i n with h | h
    · exact h
    · rw [List.getElem?_eq_none (by simpa using h)] at ha; simp at ha
  rw [List.getElem?_range hi] at ha
  simp at ha; subst ha
  simp [hi] at hc
  rw [hsz] at hc
  have hm : i % lts.length < lts.length := Nat.mod_lt _ hpos
  have e : z.cells[i % lts.length]! = zV (lts[i % lts.length]) := by
    rw [getElem!_pos z.cells _ (by omega)]
    have : z.cells.toList[i % lts.length]'(by rw [hz]; simpa using hm) = zV lts[i % lts.length] := by simp [hz]
    simpa using this
  rw [e] at hc; subst hc
  rw [List.getElem?_eq_getElem hm]
  simp only [Option.getD_some]
  generalize lts[i % lts.length] = lt
  cases lt <;> constructor
theorem buildSliceA_sound (hP : PZ P T by_) (hm : MR T w η m) {t : TypeId} {len : Nat} {parts : List (Nat × AV τ)} {vparts : Array (Nat × Value)} {r : AV τ} (h : buildSliceA T m t len parts = some (r, m')) (hl : parts.length = vparts.toList.length)
    (hp : ∀ (i : Nat) (p : Nat × AV τ) (q : Nat × Value), parts[i]? = some p → vparts.toList[i]? = some q → p.1 = q.1 ∧ VR T (Safe η m) w m η p.2 q.2) :
    ∃ v w' η', (Instr.buildSlice t len vparts).run P w = .ok v w' ∧ Step T w m η w' m' η' ∧ VR T (Safe η' m') w' m' η' r v := by
  unfold buildSliceA at h
  split at h
  case h_2 => cases h
  rename_i ts hTs
  split at h
  case h_2 => cases h
  rename_i e hd
  split at h
  case h_2 => cases h
  rename_i te hT
  split at h
  case isFalse => cases h
  rename_i hpl
  obtain ⟨hpl, hpos⟩ := hpl
  have hu := hP.sl t ts e hTs hd
  obtain ⟨i, z, hi, hsz, hz, hzc, _⟩ := hP.zero e te hT hpl
  split at h
  · rename_i hlen
    subst hlen
    split at h
    case h_2 => cases h
    cases h
    have hvp : vparts = #[] := by
      have : vparts.toList = [] := List.eq_nil_of_length_eq_zero (by simpa using hl.symm)
      simpa using this
    subst hvp
    obtain ⟨h1, h2⟩ := newRow_step hm (e := e) (rs := []) (us := []) hT (by simp) (by simp [maxLen]) ⟨by simp, fun j row o lf lt v h => by simp at h⟩
    refine ⟨_, _, _, ?_, h1, h2⟩
    have hzz : (Go.sizeOf e).run P w = .ok i.size w := by simp [Go.sizeOf, typeInfo, hi]
    unfold Instr.buildSlice
    simp [run_underlying hu, hzz, Instr.fill, newRow, Array.range_zero']
  · rename_i hlen
    split at h
    case isFalse => cases h
    rename_i hsmall
    split at h
    case h_2 => cases h
    rename_i cs hcs
    split at h
    case h_2 => cases h
    rename_i rs hrs
    split at h
    case isFalse => cases h
    rename_i hel
    cases h
    obtain ⟨cells, h1, h2⟩ := fill_sound hm _ vparts.toList _ ((Array.range (len * te.sz)).map (z.cells[· % z.cells.size]!)) cs hcs hl hp (zeros_sound te.lts hpos z hzc _)
    obtain ⟨hrl, _⟩ := rowsOf_len hrs
    have hcl : cs.length = len * te.sz := by
      have : ∀ (ps : List (Nat × AV τ)) (a b : List (AV τ)), fillA m (fun i => some (i * te.sz, te.sz)) a ps = some b → b.length = a.length := by
        intro ps
        induction ps with
        | nil => intro a b h; simp [fillA] at h; rw [h]
        | cons p ps ih =>
          intro a b h
          simp only [fillA] at h
          split at h
          · rename_i c _ _
            split at h
            · rename_i hc2
              rw [ih _ _ h, putMany_len (by simp at *; omega)]
            · cases h
          · cases h
      rw [this _ _ _ hcs]; simp [zeros]
    obtain ⟨s1, s2⟩ := newRow_step hm (e := e) (rs := rs.map (T.of e)) (us := cells.toList) hT (by rw [← h2.1, hcl, List.length_map, hrl]) (by
      rw [List.length_map, hrl]
      have : len ≤ len * te.sz := Nat.le_mul_of_pos_right _ hpos
      simp only [maxLen]; omega) (by rw [rowsOf_row hP.toPT hT hel hrs]; exact rows_cells hP.toPT hT hrs h2)
    rw [List.length_map, hrl] at s1 s2
    refine ⟨_, _, _, ?_, s1, s2⟩
    have := run_buildSlice (P := P) w t e len vparts cells i z hu hi hz (by rw [hsz]; omega) (by
      rw [hsz]
      have : 0 < len * te.sz := Nat.mul_pos (by omega) hpos
      omega) (by rw [hsz]; exact h1)
    simpa using this
theorem repl_cells (hP : PT P T) {e : TypeId} {te : TI} (hT : T e = some te) (hpos : 0 < te.sz) (n : Nat) (z : Value) (hz : z.cells.toList = te.lts.map zV) :
    RowR T S w te (List.replicate n (te.lts.map zLf)) ((Array.range (n * te.sz)).map (z.cells[· % z.cells.size]!)).toList := by
  refine ⟨fun row hr => by rw [(List.mem_replicate.1 hr).2]; simp [TI.sz], fun j row o lf lt v h1 h2 h3 h4 => ?_⟩
  have hj : j < n := by have := some_lt h1; simpa using this
  have ho : o < te.sz := some_lt h3
  rw [List.getElem?_replicate, if_pos hj] at h1
  cases h1
  rw [List.getElem?_map, h3] at h2
  cases h2
  have hz2 := (zeros_sound (T := T) (S := S) (w := w) (m := ⟨[], []⟩) (η := ⟨fun _ => 0, fun _ => undef, fun _ => False⟩) te.lts hpos z hz (n * te.sz)).2 (j * te.sz + o) (zA lt) v (by
    unfold zeros
    have hlt : j * te.sz + o < n * te.sz := by
      have : (j + 1) * te.sz ≤ n * te.sz := Nat.mul_le_mul_right _ hj
      rw [Nat.add_mul, Nat.one_mul] at this; omega
    rw [List.getElem?_map, List.getElem?_range hlt]
    have : (j * te.sz + o) % te.lts.length = o := by
      rw [Nat.add_comm]
      exact (Nat.add_mul_mod_self_right o j te.sz).trans (Nat.mod_eq_of_lt ho)
    simp [this, h3]) h4
  cases lt with
  | int k => rw [hz2.int_inv]; exact .int k 0
  | bool => rw [hz2.bool_inv]; exact .bool false
  | str => rw [hz2.str_inv]; exact .str _
  | sl e' =>
    cases hz2
    obtain ⟨ti, hti⟩ := Option.isSome_iff_exists.1 (hP.closed _ te hT e' (List.mem_of_getElem? h3))
    exact .sl e' ti hti [] none 0 (Nat.le_refl _) (fun _ _ => undef) (fun h => absurd rfl h) (fun j row h => by simp at h) (fun j row o lf lt h => by simp at h)
theorem makeSliceA_sound (hP : PZ P T by_) (hm : MR T w η m) {t : TypeId} {n r : AV τ} {u : Value} (h : makeSliceA T by_ m t n = some (r, m')) (hn : VR T (Safe η m) w m η n u) :
    ∃ v w' η', (Instr.makeSlice t u u).run P w = .ok v w' ∧ Step T w m η w' m' η' ∧ VR T (Safe η' m') w' m' η' r v := by
  unfold makeSliceA at h
  split at h
  case h_2 => cases h
  rename_i ts kk k hTs
  have hu := hn.int_inv
  subst hu
  split at h
  case h_2 => cases h
  rename_i e hd
  split at h
  case h_2 => cases h
  rename_i te hT
  split at h
  case isFalse => cases h
  rename_i hpl
  obtain ⟨hpl, hpos, hel⟩ := hpl
  split at h
  case isFalse => cases h
  rename_i h0
  split at h
  case isFalse => cases h
  rename_i h1
  cases h
  have hu := hP.sl t ts e hTs hd
  obtain ⟨i, z, hi, hsz, hz, hzc, hby, hb0, _⟩ := hP.zero e te hT hpl
  have hle : k.toNat * by_ e ≤ 281474976710656 := by
    have := (Nat.le_div_iff_mul_le hb0).1 h1; exact this
  have hk : k.toNat ≤ 281474976710656 := Nat.le_trans (Nat.le_mul_of_pos_right _ hb0) hle
  obtain ⟨s1, s2⟩ := newRow_step hm (e := e) (rs := List.replicate k.toNat (T.of e (te.lts.map zLf))) (us := ((Array.range (k.toNat * te.sz)).map (z.cells[· % z.cells.size]!)).toList) hT (by simp) (by simp [maxLen]; omega) (by rw [List.map_replicate, hP.of e te _ hT hel (zLf_wt _)]; exact repl_cells hP.toPT hT hpos _ z hzc)
  simp only [List.length_replicate] at s1 s2
  refine ⟨_, _, _, ?_, s1, s2⟩
  have hkk : ((k.toNat : Nat) : Int) = k := by omega
  have hb' : (i.bytes : Int) * k ≤ 281474976710656 := by
    have h9 : ((i.bytes * k.toNat : Nat) : Int) ≤ 281474976710656 := by rw [hby, Nat.mul_comm]; omega
    rw [Int.natCast_mul, hkk] at h9; exact h9
  have hr := run_make (P := P) w t e i z hu hi hz kk kk k k h0 (Int.le_refl _) hb' (by omega)
  rw [hsz] at hr
  rw [Array.toArray_toList]; exact hr
end
end Am
