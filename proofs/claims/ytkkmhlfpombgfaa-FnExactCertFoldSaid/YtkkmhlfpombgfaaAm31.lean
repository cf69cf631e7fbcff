/- The abstract machine, part 31: regions whose order is drawn. -/
import Derived.Test.YtkkmhlfpombgfaaAm30
set_option linter.unusedVariables false
set_option linter.unusedSectionVars false
set_option linter.unusedSimpArgs false
namespace Am
open Go
variable {τ : TypeId → Type}
def needsA (o : Oper) : List Nat := (o.after.toList.filter (fun e => Region.binds .any e)).map (fun e => e.on)
def bitsA : List Nat → List Nat → Nat
  | [], _ => 0
  | d :: ds, acc => Nat.lor (Nat.lor (Nat.shiftLeft 1 d) (acc.getD d 0)) (bitsA ds acc)
/-- For each operation: all that it waits for, by any chain. -/
def ancsA : List Oper → List Nat → List Nat
  | [], acc => acc
  | o :: os, acc => ancsA os (acc ++ [bitsA (needsA o) acc])
def memN (x : Nat) (l : List Nat) : Bool := (idxA x l).isSome
def dstIs (o : Oper) (d : Nat) : Bool := match o.dst with | some e => Nat.beq e d | none => false
/-- A read whose result nobody else touches but who waits for it. -/
def freshA (ops : Array Oper) (ancs : List Nat) (i : Nat) (o : Oper) (d : Nat) : Nat → List Oper → Bool
  | _, [] => true
  | k, x :: xs => (cond (Nat.beq k i) (!memN d (o.looksAt ops)) (!dstIs x d && (!memN d (x.looksAt ops) || Nat.testBit (ancs.getD k 0) i))) && freshA ops ancs i o d (k + 1) xs
def rdOk (ops : Array Oper) (ancs : List Nat) (i : Nat) (o : Oper) : Bool := isRdK o.op && match o.dst with
  | some d => freshA ops ancs i o d 0 ops.toList
  | none => false
def readyB (l : List Bool) (i : Nat) (o : Oper) : Bool := !(l.getD i true) && (needsA o).all (fun d => l.getD d false)
def firstRd (ops : Array Oper) (ancs : List Nat) (l : List Bool) : Nat → List Oper → Option (Nat × Oper)
  | _, [] => none
  | i, o :: os => cond (readyB l i o && rdOk ops ancs i o) (some (i, o)) (firstRd ops ancs l (i + 1) os)
def readyL (l : List Bool) : Nat → List Oper → List (Nat × Oper)
  | _, [] => []
  | i, o :: os => cond (readyB l i o) ((i, o) :: readyL l (i + 1) os) (readyL l (i + 1) os)
def noRows : List (Bool × Nat) → Bool
  | [] => true
  | (true, _) :: l => noRows l
  | (false, _) :: _ => false
def pairB : List Nat → List (Bool × Nat)
  | [] => []
  | b :: l => (true, b) :: pairB l
def pairR : List Nat → List (Bool × Nat)
  | [] => []
  | b :: l => (false, b) :: pairR l
/-- What an operation may write. -/
def touchA (E : Env τ) (s : St τ) (o : Oper) : Option (List (Bool × Nat)) :=
  match calleeA s.tm o.op with
  | some (f, xs) => match E.mode f with
    | 0 => match handA s.m (E.pers f) true (evalsA s.tm xs) with
      | (bs, rs) => some (pairB bs ++ pairR rs)
    | 1 => match handA s.m (E.pers f) false (evalsA s.tm xs) with
      | (bs, rs) => some (pairB bs ++ pairR rs)
    | _ => none
  | none => match o.op with
    | .alloc _ | .box _ _ | .assign _ | .makeSlice _ _ _ | .move _ => some []
    | .buildSlice _ _ parts => cond (noRows (refsDs (parts.toList.map fun p => eA s.tm p.2))) (some []) none
    | .store _ a x => match eA s.tm a with
      | .ptr b _ => some [(true, b)]
      | .xptr b _ _ _ => some [(true, b)]
      | .optr r _ _ _ => cond (noRows (refsD (eA s.tm x))) (some [(false, r)]) none
      | _ => none
    | .call c => match c.callee, c.args.toList.map (eA s.tm) with
      | .builtin .append, .own r _ :: _ => some [(false, r)]
      | .builtin .append, .nil :: _ => some []
      | _, _ => none
    | _ => none
def rangeOk (m : Mem τ) : List (Bool × Nat) → Bool
  | [] => true
  | (true, b) :: l => Nat.blt b m.bx.length && rangeOk m l
  | (false, r) :: l => Nat.blt r m.rw.length && rangeOk m l
def apartB : List (Bool × Nat) → List (Bool × Nat) → Bool
  | [], _ => true
  | (t, x) :: l, tl => !(tl.any fun p => (t == p.1) && Nat.beq x p.2) && apartB l tl
/-- A write may come ahead of the reads that have come up and do not wait for it. -/
def fitsA (ops : Array Oper) (ancs : List Nat) (l : List Bool) (s : St τ) (j : Nat) (o : Oper) (tl : List (Bool × Nat)) : Nat → List Oper → Bool
  | _, [] => true
  | i, x :: xs => (!(l.getD i false) || (Nat.testBit (ancs.getD j 0) i || (rangeOk s.m (opRefs s.tm x.op) && (apartB (opRefs s.tm x.op) tl && (match o.dst with | some d => !memN d (x.looksAt ops) | none => true))))) && fitsA ops ancs l s j o tl (i + 1) xs
def andA (x y : Option Unit) : Option Unit := match x with
  | some _ => y
  | none => none
def allW : List (Nat × Oper) → (Nat → Oper → Option Unit) → Option Unit
  | [], _ => none
  | [(j, o)], f => f j o
  | (j, o) :: js, f => andA (f j o) (allW js f)
/-- An operation under its guard: carried out, or passed over. -/
def guardA (ops : Array Oper) (o : Oper) (s : St τ) (go : St τ → Option Unit) (skip : St τ → Option Unit) : Option Unit :=
  match o.guard with
  | none => go s
  | some (j, want) => match (ops[j]?).bind (·.dst) with
    | some t => match s.tm.getD t .bad with
      | .bool v => brA v
          (cond want (go ⟨s.tm.set t (.bool true), s.m⟩) (skip ⟨s.tm.set t (.bool true), s.m⟩))
          (cond want (skip ⟨s.tm.set t (.bool false), s.m⟩) (go ⟨s.tm.set t (.bool false), s.m⟩))
      | .und => skip s
      | _ => none
    | none => none
def drA (E : Env τ) (C : Ctr τ Unit) (ops : Array Oper) (k : St τ → Option Unit) : Nat → List Bool → St τ → Option Unit
  | 0, l, s => cond (l.all id) (k s) none
  | n + 1, l, s => match firstRd ops (ancsA ops.toList []) l 0 ops.toList with
    | some (i, o) => guardA ops o s
        (fun s' => match rdA E.T E.by_ s'.tm s'.m o.op with
          | some (cs, v) => condsA cs (drA E C ops k n (l.set i true) ⟨putA s'.tm o.dst v, s'.m⟩)
          | none => none)
        (fun s' => drA E C ops k n (l.set i true) ⟨putA s'.tm o.dst .und, s'.m⟩)
    | none => cond (l.all id) (k s) (allW (readyL l 0 ops.toList) fun j o => guardA ops o s
        (fun s' => match touchA E s' o with
          | some tl => cond (fitsA ops (ancsA ops.toList []) l s' j o tl 0 ops.toList) (stepA E C o s' fun s'' => drA E C ops k n (l.set j true) s'') none
          | none => none)
        (fun s' => cond (fitsA ops (ancsA ops.toList []) l s' j o [] 0 ops.toList) (drA E C ops k n (l.set j true) ⟨putA s'.tm o.dst .und, s'.m⟩) none))
def backOk (n : Nat) : Nat → List Oper → Bool
  | _, [] => true
  | i, o :: os => ((needsA o).all fun d => Nat.blt d i) && backOk n (i + 1) os
/-- A region whose order is drawn. -/
def drawA (E : Env τ) (C : Ctr τ Unit) : Drw τ := fun ops s k => cond (backOk ops.size 0 ops.toList) (drA E C ops k ops.size (List.replicate ops.size false) s) none
end Am
