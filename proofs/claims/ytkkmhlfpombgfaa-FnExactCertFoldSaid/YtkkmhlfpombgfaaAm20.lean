/- The abstract machine, part 20: one operation. -/
import Derived.Test.YtkkmhlfpombgfaaAm19
set_option linter.unusedVariables false
set_option linter.unusedSectionVars false
set_option linter.unusedSimpArgs false
namespace Am
open Go
variable {τ : TypeId → Type}
/-- The wrap of 64 bits, told so that the kernel stands still at a letter at once. -/
def wrapS (n : Int) : Int := match n with
  | .ofNat m => bif Nat.ble m 9223372036854775807 then .ofNat m else Go.RowKit.wrap64 (.ofNat m)
  | .negSucc m => bif Nat.ble m 9223372036854775807 then .negSucc m else Go.RowKit.wrap64 (.negSucc m)
def wrapA (k : IntKind) (n : Int) : Int := match k with | .i64 => wrapS n | k => k.wrap n
/-- Numbers: what must hold, and what comes out. -/
def numA (op : BinOp) (x y : AV τ) : Option (List Bool × AV τ) :=
  match x, y with
  | .int k a, .int k' b =>
    if k = k' then
      match op with
      | .add => some ([], .int k (wrapA k (a + b)))
      | .sub => some ([], .int k (wrapA k (a - b)))
      | .mul => some ([], .int k (wrapA k (a * b)))
      | .quo => some ([!decide (b = 0)], .int k (wrapA k (a.tdiv b)))
      | .rem => some ([!decide (b = 0)], .int k (a.tmod b))
      | .xor => some ([], .int k (bits .xor k a b))
      | .eql => some ([], .bool (decide (a = b)))
      | .neq => some ([], .bool (!decide (a = b)))
      | .lss => some ([], .bool (decide (a < b)))
      | .leq => some ([], .bool (decide (a ≤ b)))
      | .gtr => some ([], .bool (decide (a > b)))
      | .geq => some ([], .bool (decide (a ≥ b)))
      | _ => none
    else none
  | _, _ => none
/-- The place of an element: what must hold, and what comes out. -/
def indexC (T : Tab τ) (m : Mem τ) (t : TypeId) (x : AV τ) (i : AV τ) : Option (List Bool × AV τ) :=
  match T t, i with
  | some ti, .int _ n =>
    match ti.d, x with
    | .sl e, .sl e' rows => if e = e' ∧ (T e).isSome then some ([decide (0 ≤ n), decide (n < rows.length)], .eptr e' rows n 0) else none
    | .sl e, .own r g => match m.valid r g with
      | some y => if e = y.e then some ([decide (0 ≤ n), decide (n < y.xs.length)], .optr r g n 0) else none
      | none => none
    | .arr len e, .ptr b o => match T e with
      | some te => if te.sz = 1 ∧ 2 ≤ len then some ([decide (0 ≤ n), decide (n < len)], .xptr b o len n) else none
      | none => none
    | _, _ => none
  | _, _ => none
def limA (by_ : TypeId → Nat) (e : TypeId) : Nat := 140737488355328 / by_ e
/-- What the machine asks of a row made by length. -/
def limM (by_ : TypeId → Nat) (e : TypeId) : Nat := 281474976710656 / by_ e
def appendC (T : Tab τ) (by_ : TypeId → Nat) (m : Mem τ) (t : TypeId) (s x : AV τ) : Option (List Bool × AV τ × Mem τ) :=
  match T t with
  | some ts => match ts.d with
    | .sl e => match T e with
      | some te => if te.plain = true ∧ 0 < te.sz then
          match s with
          | .own r g => match m.valid r g with
            | some y => if y.e = e then
                match elemsA m y.e x with
                | some ys => some ([decide (y.xs.length + ys.length ≤ limA by_ e)], .own r (g + 1), { m with rw := m.rw.set r (some ⟨y.e, y.xs ++ ys, g + 1⟩) })
                | none => none
              else none
            | none => none
          | .nil => match elemsA m e x with
            | some ys => some ([decide (ys.length ≤ limA by_ e)], .own m.rw.length 0, m.addRw e ys)
            | none => none
          | _ => none
        else none
      | none => none
    | _ => none
  | none => none
def makeSliceC (T : Tab τ) (by_ : TypeId → Nat) (m : Mem τ) (t : TypeId) (n : AV τ) : Option (List Bool × AV τ × Mem τ) :=
  match T t, n with
  | some ts, .int _ k => match ts.d with
    | .sl e => match T e with
      | some te => if te.plain ∧ 0 < te.sz ∧ T.el e = true then
          some ([decide (0 ≤ k), decide (k.toNat ≤ limM by_ e)], .own m.rw.length 0, m.addRw e (List.replicate k.toNat (T.of e (te.lts.map zLf))))
        else none
      | none => none
    | _ => none
  | _, _ => none
def convC (T : Tab τ) (src dst : TypeId) (x : AV τ) : Option (AV τ) :=
  match T src with
  | some ts => match T dst with
    | some td => match ts.scI with
      | some _ => match td.scI with
        | some k => match x with
          | .int _ n => some (.int k (wrapA k n))
          | _ => none
        | none => none
      | none => none
    | none => none
  | none => none
def unC : UnOp → AV τ → Option (AV τ)
  | .not, .bool b => some (.bool !b)
  | .neg, .int k n => some (.int k (wrapA k (0 - n)))
  | _, _ => none
def pickC (c a b : AV τ) : Option (AV τ) :=
  match c with
  | .bool v => match a, b with
    | .bool p, .bool q => some (.bool (cond v p q))
    | .int k p, .int k' q => if k = k' then some (.int k (cond v p q)) else none
    | .str p, .str q => some (.str (cond v p q))
    | a, b => match v with | true => some a | false => some b
  | _ => none
/-- Texts. -/
def isStrT (T : Tab τ) (t : TypeId) : Bool := match T t with
  | some ti => match ti.d, ti.lts with
    | .scal, [.str] => true
    | _, _ => false
  | none => false
def btA (s : ByteArray) (i : Int) : Int := if h : i.toNat < s.size then ((s[i.toNat]'h).toNat : Int) else 0
def strA (op : BinOp) (a b : ByteArray) : Option (List Bool × AV τ) := match op with
  | .add => some ([decide (a.size + b.size ≤ 9223372036854775807)], .str (a ++ b))
  | .eql => some ([], .bool (decide (a = b)))
  | .neq => some ([], .bool (!decide (a = b)))
  | _ => none
def strOp (op : BinOp) (x y : AV τ) : Option (List Bool × AV τ) := match x, y with
  | .str a, .str b => strA op a b
  | _, _ => none
def lenS (T : Tab τ) (m : Mem τ) (t : TypeId) (x : AV τ) : Option (AV τ) := match x with
  | .str s => cond (isStrT T t) (some (.int .i64 (s.size : Nat))) none
  | x => lenA T m t x
def valIndexS (T : Tab τ) (t : TypeId) (x i : AV τ) : Option (List Bool × AV τ) := match x with
  | .str s => match i with
    | .int _ n => cond (isStrT T t) (some ([decide (0 ≤ n), decide (n < (s.size : Nat))], .int .u8 (btA s n))) none
    | _ => none
  | x => valIndexC T t x i
def strSl (s : ByteArray) (lo hi : Option (AV τ)) : Option (List Bool × AV τ) := match lo, hi with
  | none, some (.int _ h) => some ([decide (0 ≤ h), decide (h ≤ (s.size : Nat))], .str (s.extract 0 h.toNat))
  | some (.int _ l), none => some ([decide (0 ≤ l), decide (l ≤ (s.size : Nat))], .str (s.extract l.toNat s.size))
  | some (.int _ l), some (.int _ h) => some ([decide (0 ≤ h), decide (h ≤ (s.size : Nat)), decide (0 ≤ l), decide (l ≤ h)], .str (s.extract l.toNat h.toNat))
  | _, _ => none
def valOnly (m : Mem τ) (x : Option (AV τ)) : Option (List Bool × AV τ × Mem τ) := match x with | some v => some ([], v, m) | none => none
def valC (m : Mem τ) (x : Option (List Bool × AV τ)) : Option (List Bool × AV τ × Mem τ) := match x with | some (cs, v) => some (cs, v, m) | none => none
def memOnly (x : Option (AV τ × Mem τ)) : Option (List Bool × AV τ × Mem τ) := match x with | some (v, m) => some ([], v, m) | none => none
def storeOnly (x : Option (Mem τ)) : Option (List Bool × AV τ × Mem τ) := match x with | some m => some ([], .bad, m) | none => none
def sameOp : Operand → Operand → Bool
  | .tmp a, .tmp b => a == b
  | .const (.int k a), .const (.int k' b) => k == k' && a == b
  | _, _ => false
def builtinA (T : Tab τ) (by_ : TypeId → Nat) (m : Mem τ) (b : Builtin) (ats : Array TypeId) (args : List (AV τ)) : Option (List Bool × AV τ × Mem τ) :=
  match b, ats.toList, args with
  | .len, [t], [x] => valOnly m (lenS T m t x)
  | .append, [t, t'], [s, x] => if t = t' then appendC T by_ m t s x else none
  | .copy, [t, _], [d, s] => memOnly (copyA T m t d s)
  | .min, _, [x, y] => valOnly m (minA x y)
  | _, _, _ => none
def sliceS (T : Tab τ) (m : Mem τ) (t : TypeId) (x : AV τ) (lo hi : Option (AV τ)) : Option (List Bool × AV τ × Mem τ) := match x with
  | .str s => cond (isStrT T t) (valC m (strSl s lo hi)) none
  | x => sliceA T m t x lo hi
/-- One operation that calls no function. -/
def opA (T : Tab τ) (by_ : TypeId → Nat) (tm : List (AV τ)) (m : Mem τ) (op : Op) : Option (List Bool × AV τ × Mem τ) :=
  match op with
  | .move x => some ([], eA tm x, m)
  | .assign x => some ([], eA tm x, m)
  | .pick c a b => valOnly m (pickC (eA tm c) (eA tm a) (eA tm b))
  | .alloc t => memOnly (allocA T m t)
  | .box t x => memOnly (boxA T m t (eA tm x))
  | .build t parts => valOnly m (buildA T m t (parts.toList.map fun p => (p.1, eA tm p.2)))
  | .buildSlice t len parts => memOnly (buildSliceA T m t len (parts.toList.map fun p => (p.1, eA tm p.2)))
  | .load t a => valOnly m (loadAny T m t (eA tm a))
  | .store t a x => storeOnly (storeA T m t (eA tm a) (eA tm x))
  | .nilCheck x => valOnly m (nilCheckA (eA tm x))
  | .binOp op t x y _ => if isNum (eA tm x) then valC m (numA op (eA tm x) (eA tm y)) else if isStr (eA tm x) then valC m (strOp op (eA tm x) (eA tm y)) else valOnly m (eqOpA T op t (eA tm x) (eA tm y))
  | .unOp op _ x => valOnly m (unC op (eA tm x))
  | .convert s d x => valOnly m (convC T s d (eA tm x))
  | .makeSlice t l c => if sameOp l c then makeSliceC T by_ m t (eA tm l) else none
  | .slice t x lo hi none => sliceS T m t (eA tm x) (lo.map (eA tm)) (hi.map (eA tm))
  | .fieldAddr s x f => valOnly m (fieldA T m s (eA tm x) f)
  | .field t x f => valOnly m (valFieldA T t (eA tm x) f)
  | .indexAddr t x i => valC m (indexC T m t (eA tm x) (eA tm i))
  | .index t x i => valC m (valIndexS T t (eA tm x) (eA tm i))
  | .extract t i => valOnly m (extractA (eA tm t) i)
  | .call c => match c.callee with
    | .builtin b => builtinA T by_ m b c.argTypes (c.args.toList.map (eA tm))
    | _ => none
  | _ => none
section
variable {T : Tab τ} {P : Program} {by_ : TypeId → Nat} {w w' w2 : World} {m m' m2 : Mem τ} {η η' η2 : Eta} {tm : List (AV τ)} {S : Nat → Prop}
theorem w64_id {a : Int} (h0 : -9223372036854775808 ≤ a) (h1 : a ≤ 9223372036854775807) : Go.RowKit.wrap64 a = a := by unfold Go.RowKit.wrap64; omega
theorem cond_both {α : Type} {b : Bool} {x y : α} (h : b = true → x = y) : (bif b then x else y) = y := by
  cases b with
  | false => rfl
  | true => exact h rfl
theorem wrapS_eq (n : Int) : wrapS n = Go.RowKit.wrap64 n := by
  unfold wrapS
  split
  · rename_i m
    refine cond_both (fun h => ?_)
    have h2 := Nat.le_of_ble_eq_true h
    have h3 : Int.ofNat m = (m : Int) := Int.ofNat_eq_natCast m
    rw [h3]
    exact (w64_id (by omega) (by omega)).symm
  · rename_i m
    refine cond_both (fun h => ?_)
    have h2 := Nat.le_of_ble_eq_true h
    have h3 : Int.negSucc m = -((m : Int) + 1) := Int.negSucc_eq m
    rw [h3]
    exact (w64_id (by omega) (by omega)).symm
theorem wrapA_i64 (n : Int) : wrapA .i64 n = Go.RowKit.wrap64 n := wrapS_eq n
theorem wrapA_eq (k : IntKind) (n : Int) : wrapA k n = k.wrap n := by
  unfold wrapA
  cases k <;> first | rfl | (rw [wrapS_eq]; unfold Go.RowKit.wrap64; exact (IntKind.wrap_i64 n).symm)
theorem convC_eq (T : Tab τ) (src dst : TypeId) (x : AV τ) : convC T src dst x = convA T src dst x := by
  unfold convC convA
  simp only [wrapA_eq]
  rfl
theorem unC_eq (op : UnOp) (x : AV τ) : unC op x = unA op x := by
  unfold unC unA
  split
  · rfl
  · simp only [wrapA_eq]
  · rename_i h1 h2
    split
    · exact absurd rfl (h1 _ rfl)
    · exact absurd rfl (h2 _ _ rfl)
    · rfl
theorem numA_sound {op : BinOp} {x y r : AV τ} {cs : List Bool} {u v : Value} (t : TypeId) (ox oy : Operand) (h : numA op x y = some (cs, r)) (hcs : cs.all id = true) (hx : VR T S w m η x u) (hy : VR T S w m η y v) :
    ∃ z, (do eqGuard op t ox oy u v; binOp op t u v : Sem Value).run P w = .ok z w ∧ VR T S w m η r z := by
  refine bin_sound t ox oy ?_ hx hy
  unfold numA at h
  unfold binA
  split at h
  case h_2 => cases h
  rename_i k a k' b
  split at h
  case isFalse => cases h
  rename_i hk
  subst hk
  simp only [if_true]
  cases op <;> simp only at h <;> first
    | (cases h; done)
    | (injection h with h; injection h with h1 h2; subst h1; subst h2
       first
        | (simp only [wrapA_eq]; done)
        | (simp at hcs; simp [hcs, wrapA_eq]; done)
        | (rfl)
        | (simp [bne]; done)
        | (congr 1; congr 1; simp [Bool.beq_eq_decide_eq]; done))
theorem indexC_sound (hP : PT P T) (hm : MR T w η m) {t : TypeId} {x i r : AV τ} {cs : List Bool} {v u : Value} (h : indexC T m t x i = some (cs, r)) (hcs : cs.all id = true) (hv : VR T (Safe η m) w m η x v) (hi : VR T (Safe η m) w m η i u) :
    ∃ z, (Instr.indexAt t v u).run P w = .ok z w ∧ VR T (Safe η m) w m η r z := by
  refine indexA_sound hP hm (x := x) (i := i) ?_ hv hi
  unfold indexC at h
  unfold indexA
  split at h
  case h_2 => cases h
  rename_i ti k n hT
  rw [hT]
  simp only
  split at h
  · rename_i e e' rows hd
    rw [hd]
    simp only
    split at h
    case isFalse => cases h
    rename_i hc
    injection h with h; injection h with h1 h2; subst h1; subst h2
    simp at hcs
    rw [if_pos hc, if_pos hcs.1, if_pos hcs.2]
  · rename_i e r' g hd
    rw [hd]
    simp only
    split at h
    case h_2 => cases h
    rename_i y hy
    split at h
    case isFalse => cases h
    rename_i hc
    injection h with h; injection h with h1 h2; subst h1; subst h2
    simp at hcs
    rw [hy]
    simp only
    rw [if_pos hc, if_pos hcs.1, if_pos hcs.2]
  · rename_i len e b o hd
    rw [hd]
    simp only
    split at h
    case h_2 => cases h
    rename_i te hTe
    split at h
    case isFalse => cases h
    rename_i hc
    injection h with h; injection h with h1 h2; subst h1; subst h2
    simp at hcs
    rw [hTe]
    simp only
    rw [if_pos hc, if_pos hcs.1, if_pos hcs.2]
  · cases h
theorem appendC_spec {t : TypeId} {s x r : AV τ} {cs : List Bool} (h : appendC T by_ m t s x = some (cs, r, m')) (hcs : cs.all id = true) : appendA T by_ m t s x = some (r, m') := by
  unfold appendC at h
  unfold appendA
  split at h
  case h_2 => cases h
  rename_i ts hTs
  rw [hTs]; simp only
  split at h
  case h_2 => cases h
  rename_i e hd
  rw [hd]; simp only
  split at h
  case h_2 => cases h
  rename_i te hT
  rw [hT]; simp only
  split at h
  case isFalse => cases h
  rename_i hc
  rw [if_pos hc]
  split at h
  · rename_i r' g
    simp only
    split at h
    case h_2 => cases h
    rename_i y hy
    rw [hy]; simp only
    split at h
    case isFalse => cases h
    rename_i he
    rw [if_pos he]
    split at h
    case h_2 => cases h
    rename_i ys hys
    injection h with h; injection h with h1 h2; subst h1
    rw [hys]; simp only
    simp only [limA, List.all_cons, id, List.all_nil, Bool.and_true] at hcs
    rw [if_pos (of_decide_eq_true hcs), h2]
  · simp only
    split at h
    case h_2 => cases h
    rename_i ys hys
    injection h with h; injection h with h1 h2; subst h1
    rw [hys]; simp only
    simp only [limA, List.all_cons, id, List.all_nil, Bool.and_true] at hcs
    rw [if_pos (of_decide_eq_true hcs), h2]
  · cases h
theorem makeSliceC_spec {t : TypeId} {n r : AV τ} {cs : List Bool} (h : makeSliceC T by_ m t n = some (cs, r, m')) (hcs : cs.all id = true) : makeSliceA T by_ m t n = some (r, m') := by
  unfold makeSliceC at h
  unfold makeSliceA
  split at h
  case h_2 => cases h
  rename_i ts k0 k hTs
  rw [hTs]; simp only
  split at h
  case h_2 => cases h
  rename_i e hd
  rw [hd]; simp only
  split at h
  case h_2 => cases h
  rename_i te hT
  rw [hT]; simp only
  split at h
  case isFalse => cases h
  rename_i hc
  injection h with h; injection h with h1 h2; subst h1
  simp only [limM, List.all_cons, id, List.all_nil, Bool.and_true, Bool.and_eq_true] at hcs
  rw [if_pos hc, if_pos (of_decide_eq_true hcs.1), if_pos (of_decide_eq_true hcs.2), h2]
theorem pickC_sound {c a b r : AV τ} {vc va vb : Value} (h : pickC c a b = some r) (hc : VR T S w m η c vc) (ha : VR T S w m η a va) (hb : VR T S w m η b vb) :
    ∃ z, (do pure (Next.value (if ← asBool vc then va else vb)) : Sem Next).run P w = .ok (.value z) w ∧ VR T S w m η r z := by
  unfold pickC at h
  split at h
  case h_2 => cases h
  rename_i v
  rw [hc.bool_inv]
  split at h
  · cases h; rw [ha.bool_inv, hb.bool_inv]; cases v <;> exact ⟨_, by simp [asBool], .bool _⟩
  · split at h
    case isFalse => cases h
    rename_i hk; subst hk
    cases h; rw [ha.int_inv, hb.int_inv]; cases v <;> exact ⟨_, by simp [asBool], .int _ _⟩
  · cases h; rw [ha.str_inv, hb.str_inv]; cases v <;> exact ⟨_, by simp [asBool], .str _⟩
  · split at h
    · cases h; exact ⟨va, by simp [asBool], ha⟩
    · cases h; exact ⟨vb, by simp [asBool], hb⟩
end
end Am
