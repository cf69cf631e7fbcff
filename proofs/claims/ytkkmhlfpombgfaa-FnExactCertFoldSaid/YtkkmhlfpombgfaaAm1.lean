/- An abstract machine for the model's code, over mathematical values; what it means in memory (part 1: values, what they mean, what leaves that as it is). -/
import Derived.Calls
import Derived.LoopN
import Derived.Below
import Derived.Laws.AppendOwn
import Derived.WalkKit
set_option linter.unusedVariables false
set_option linter.unusedSectionVars false
namespace Am
open Go

/-- What a cell holds, read as data. -/
inductive Lf (τ : TypeId → Type) where
  | i (n : Int)
  | b (v : Bool)
  | s (v : ByteArray)
  | l (e : TypeId) (rows : List (τ e))
/-- The kinds of cells. -/
inductive LT where
  | int (k : IntKind)
  | bool
  | str
  | sl (e : TypeId)
  deriving DecidableEq, Inhabited
section
variable {τ : TypeId → Type}
def Lf.toInt : Lf τ → Int | .i n => n | _ => 0
def Lf.toBool : Lf τ → Bool | .b v => v | _ => false
def Lf.toStr : Lf τ → ByteArray | .s v => v | _ => default
/-- What the machine knows of a type: its cells, and how it is laid out. -/
inductive D where
  | scal
  | st (fs : List (Nat × TypeId))
  | arr (n : Nat) (e : TypeId)
  | sl (e : TypeId)
  | ptr
structure TI where
  lts : List LT
  d : D
def TI.sz (t : TI) : Nat := t.lts.length
/-- Nobody has written into the blocks of S. -/
structure Agree (S : Nat → Prop) (w w' : World) : Prop where
  os : w'.os = w.os
  tape : w'.tape = w.tape
  output : w'.output = w.output
  size : w.heap.size ≤ w'.heap.size
  block : ∀ k, S k → k < w.heap.size → w'.heap[k]? = w.heap[k]?
/-- What the machine knows of types: cells and layout, and elements as data; and what is known of the program's variables (gl), which stands as long as nobody writes into their blocks. -/
structure Tab (τ : TypeId → Type) where
  get : TypeId → Option TI
  row : (e : TypeId) → τ e → List (Lf τ)
  of : (e : TypeId) → List (Lf τ) → τ e
  el : TypeId → Bool
  val : Nat → Value := fun _ => .nilIface
  gl : World → (Nat → Prop) → Prop := fun _ _ => True
  glN : ∀ w w' S S', gl w S → (∀ k, k < w.heap.size → S k → S' k) → Agree S w w' → gl w' S' := by intros; trivial
instance : CoeFun (Tab τ) (fun _ => TypeId → Option TI) := ⟨Tab.get⟩
end
/-- The machine's values. -/
inductive AV (τ : TypeId → Type) where
  | int (k : IntKind) (n : Int)
  | bool (b : Bool)
  | str (s : ByteArray)
  | sl (e : TypeId) (rows : List (τ e))
  | own (r g : Nat)
  | nil
  | agg (vs : List (AV τ))
  | tup (vs : List (AV τ))
  | ptr (b o : Nat)
  | eptr (e : TypeId) (rows : List (τ e)) (i : Int) (o : Nat)
  | optr (r g : Nat) (i : Int) (o : Nat)
  | xptr (b o n : Nat) (i : Int)
  | fn (f : FuncId)
  | opq (n : Nat)
  | und
  | bad
def AV.of {τ : TypeId → Type} : LT → Lf τ → AV τ
  | .int k, x => .int k x.toInt
  | .bool, x => .bool x.toBool
  | .str, x => .str x.toStr
  | .sl _, .l e rows => .sl e rows
  | .sl _, _ => .nil
/-- A row of one's own: the elements' type, what stands in it, how often its value was made anew. -/
structure Rw (τ : TypeId → Type) where
  e : TypeId
  xs : List (τ e)
  g : Nat
/-- The machine's memory: variables, and rows. -/
structure Mem (τ : TypeId → Type) where
  bx : List (Option (TypeId × List (AV τ)))
  rw : List (Option (Rw τ))
/-- Where variables and rows stand in the model's memory. -/
structure Eta where
  b : Nat → Nat
  r : Nat → Value
  x : Nat → Prop

section
variable {τ : TypeId → Type} (T : Tab τ) (S : Nat → Prop) (w : World)
/-- A cell holds this, and may be read as long as nobody writes into the blocks of S. -/
inductive LR : LT → Lf τ → Value → Prop where
  | int (k : IntKind) (n : Int) : LR (.int k) (.i n) (.int k n)
  | bool (b : Bool) : LR .bool (.b b) (.bool b)
  | str (s : ByteArray) : LR .str (.s s) (.string s)
  | sl (e : TypeId) (ti : TI) (hT : T e = some ti) (rows : List (τ e)) (A : Option Addr) (c : Nat) (hc : rows.length ≤ c) (vf : Nat → Nat → Value)
      (hA : rows ≠ [] → ∃ ad, A = some ad ∧ S ad.block ∧ ad.block < w.heap.size ∧ ∀ j o, j < rows.length → o < ti.sz → w.cell? (ad.add (j * ti.sz + o)) = some (vf j o))
      (hl : ∀ (j : Nat) (row : List (Lf τ)), (rows.map (T.row e))[j]? = some row → row.length = ti.sz)
      (h : ∀ (j : Nat) (row : List (Lf τ)) (o : Nat) (lf : Lf τ) (lt : LT), (rows.map (T.row e))[j]? = some row → row[o]? = some lf → ti.lts[o]? = some lt → LR lt lf (vf j o)) :
      LR (.sl e) (.l e rows) (.slice A rows.length c)
end
section
variable {τ : TypeId → Type} {T : Tab τ} {S S' : Nat → Prop} {w w' : World}
theorem Agree.refl (S : Nat → Prop) (w : World) : Agree S w w := ⟨rfl, rfl, rfl, Nat.le_refl _, fun _ _ _ => rfl⟩
theorem Agree.trans {w2 : World} (h : Agree S w w') (k : Agree S w' w2) : Agree S w w2 := ⟨k.os.trans h.os, k.tape.trans h.tape, k.output.trans h.output, Nat.le_trans h.size k.size, fun i hi hl => (k.block i hi (Nat.lt_of_lt_of_le hl h.size)).trans (h.block i hi hl)⟩
theorem Agree.mono (h : Agree S' w w') (hs : ∀ k, S k → S' k) : Agree S w w' := ⟨h.os, h.tape, h.output, h.size, fun k hk hl => h.block k (hs k hk) hl⟩
theorem add_block (a : Addr) (n : Nat) : (a.add n).block = a.block := by unfold Addr.add; split <;> rfl
theorem cell_agree {a : Addr} {v : Value} (h : Agree S w w') (hs : S a.block) (hl : a.block < w.heap.size) (hc : w.cell? a = some v) : w'.cell? a = some v := by
  unfold World.cell? at hc ⊢
  rw [h.block _ hs hl]; exact hc
theorem LR.agree {lt : LT} {lf : Lf τ} {v : Value} (h : LR T S w lt lf v) (ha : Agree S w w') : LR T S w' lt lf v := by
  induction h with
  | int k n => exact .int k n
  | bool b => exact .bool b
  | str s => exact .str s
  | sl e ti hT rows A c hc vf hA hl h ih =>
    refine .sl e ti hT rows A c hc vf (fun hne => ?_) hl ih
    obtain ⟨ad, rfl, hs, hlt, hcell⟩ := hA hne
    exact ⟨ad, rfl, hs, Nat.lt_of_lt_of_le hlt ha.size, fun j o hj ho => cell_agree ha (by rw [add_block]; exact hs) (by rw [add_block]; exact hlt) (hcell j o hj ho)⟩
theorem LR.mono {lt : LT} {lf : Lf τ} {v : Value} (h : LR T S w lt lf v) (hs : ∀ k, k < w.heap.size → S k → S' k) : LR T S' w lt lf v := by
  induction h with
  | int k n => exact .int k n
  | bool b => exact .bool b
  | str s => exact .str s
  | sl e ti hT rows A c hc vf hA hl h ih =>
    refine .sl e ti hT rows A c hc vf (fun hne => ?_) hl ih
    obtain ⟨ad, rfl, hS, hlt, hcell⟩ := hA hne
    exact ⟨ad, rfl, hs _ hlt hS, hlt, hcell⟩
/-- A row's value is what it is. -/
def Mem.ok (m : Mem τ) (r g : Nat) : Prop := ∃ x, m.rw[r]? = some (some x) ∧ x.g = g
end
section
variable {τ : TypeId → Type} (T : Tab τ) (S : Nat → Prop) (w : World) (m : Mem τ) (η : Eta)
/-- What a value of the machine is in the model. -/
inductive VR : AV τ → Value → Prop where
  | int (k : IntKind) (n : Int) : VR (.int k n) (.int k n)
  | bool (b : Bool) : VR (.bool b) (.bool b)
  | str (s : ByteArray) : VR (.str s) (.string s)
  | sl (e : TypeId) (rows : List (τ e)) (v : Value) (h : LR T S w (.sl e) (.l e rows) v) : VR (.sl e rows) v
  | own (r g : Nat) (v : Value) (hr : r < m.rw.length) (h : ∀ x, m.rw[r]? = some (some x) → g ≤ x.g ∧ (x.g = g → v = η.r r)) : VR (.own r g) v
  | nil : VR .nil (.slice none 0 0)
  | agg (vs : List (AV τ)) (cs : List Value) (hl : vs.length = cs.length) (h : ∀ (i : Nat) (a : AV τ) (c : Value), vs[i]? = some a → cs[i]? = some c → VR a c) : VR (.agg vs) (.agg cs.toArray)
  | tup (vs : List (AV τ)) (cs : List Value) (hl : vs.length = cs.length) (h : ∀ (i : Nat) (a : AV τ) (c : Value), vs[i]? = some a → cs[i]? = some c → VR a c) : VR (.tup vs) (.tuple cs.toArray)
  | ptr (b o : Nat) (hb : b < m.bx.length) : VR (.ptr b o) (.pointer (some ⟨η.b b, o, none⟩))
  | eptr (e : TypeId) (rows : List (τ e)) (i : Int) (o : Nat) (ti : TI) (ad : Addr) (c : Nat) (hT : T e = some ti) (h : LR T S w (.sl e) (.l e rows) (.slice (some ad) rows.length c)) (h0 : 0 ≤ i) (h1 : i < rows.length) :
      VR (.eptr e rows i o) (.pointer (some (ad.add (i.toNat * ti.sz + o))))
  | optr (r g : Nat) (i : Int) (o : Nat) (v : Value) (hr : r < m.rw.length) (h : ∀ x, m.rw[r]? = some (some x) → g ≤ x.g ∧ (x.g = g → ∃ ti gb n c, T x.e = some ti ∧ η.r r = .slice (some ⟨gb, 0, none⟩) n c ∧ 0 ≤ i ∧ i < n ∧ v = .pointer (some ((⟨gb, 0, none⟩ : Addr).add (i.toNat * ti.sz + o))))) : VR (.optr r g i o) v
  | xptr (b o n : Nat) (i : Int) (hb : b < m.bx.length) (h0 : 0 ≤ i) (h1 : i < n) : VR (.xptr b o n i) (.pointer (some ((⟨η.b b, o, none⟩ : Addr).add i.toNat)))
  | fn (f : FuncId) : VR (.fn f) (.func (.func f) #[] #[])
  | opq (n : Nat) : VR (.opq n) (T.val n)
  | und : VR .und undef
  | bad (v : Value) : VR .bad v
end
end Am
