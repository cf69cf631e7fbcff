/-
  No cell of these rows narrows 'for every input' (looked for: loops, veiled, ifaces, maps, wideKeys, modest, calm, conditions, laid).
  DERIVED. THE GIVEN ROWS OF THIS SEAT. 11 by the template 'for every input the law returns true; each argument reads behind the call as it read before'; 0 by the template 'total and deterministic' (their statements: YthojmgliknacfaaTotals.lean).
  GIVEN WITH THE SEED: the statements are not yours to turn. If you find one false, say at which input.
  Laid BY PROGRAM, IN A SANDBOX (cutbox-rows.mjs): the forced cells as the released guide's own fill.sh prints them over the translation 910c734dc8977a72… (all of the seat's roots in one cut). By AI agents, Wed Nov 11 2026. No macro, syntax, notation, axiom, sorry.
-/
import Derived.Test.YthojmgliknacfaaChecked
import GoSem.Claim
import GoSem.ClaimJoined
import GoSem.ClaimMapViews
import Derived.JoinedTies
import Derived.KernelRfl
namespace Go.Proofs.Ythojmgliknacfaa
/- THE CELL 'sum', in the pinned program and in every row, IS THE sha256 OF THE DUMP (.gsa) THAT YthojmgliknacfaaProg.lean LOADS. Nothing in Lean hashes anything: it is a label: what it is worth is what the hold of that sum in a sandbox is worth. -/
noncomputable def Try.pinned : Pinned := { name := "ythojmgliknacfaa", sum := "910c734dc8977a72d4dba89b048a540d7e36610c48be3dfbb95e8595b916831d", checked := Try.checked }
namespace Rows
def none {H : Type} : Left H := { results := [], args := [] }

/-- 'laws.FnExactConstants': WHATEVER THE INPUT: true; the input reads as it did. -/
def fnExactConstantsSpec : ChangeSpec := { name := "fnExactConstants", fn := fun _ => fun
  | [] => { results := [.lit (.bool true)], args := [] }
  | _ => none }
def fnExactConstantsRow : OpenClaim := { program := "ythojmgliknacfaa", sum := "910c734dc8977a72d4dba89b048a540d7e36610c48be3dfbb95e8595b916831d", func := "loop.example/thingstead/laws.FnExactConstants", spec := "fnExactConstants", apart := false }
def FnExactConstantsSaid : Prop := fnExactConstantsRow.holds Try.pinned (OpenSpec.ofChange fnExactConstantsSpec)

/-- ITS FALSE NEIGHBOUR: 'it returns false'. Refute it at one input. -/
def fnExactConstantsWrong : ChangeSpec := { name := "fnExactConstants", fn := fun _ => fun
  | [] => { results := [.lit (.bool false)], args := [] }
  | _ => none }
def FnExactConstantsWrongFalsely : Prop := fnExactConstantsRow.holds Try.pinned (OpenSpec.ofChange fnExactConstantsWrong)

/-- 'laws.FnExactAccOwner': WHATEVER THE INPUT: true; the input reads as it did. -/
def fnExactAccOwnerSpec : ChangeSpec := { name := "fnExactAccOwner", fn := fun _ => fun
  | [d] => { results := [.lit (.bool true)], args := [d] }
  | _ => none }
def fnExactAccOwnerRow : OpenClaim := { program := "ythojmgliknacfaa", sum := "910c734dc8977a72d4dba89b048a540d7e36610c48be3dfbb95e8595b916831d", func := "loop.example/thingstead/laws.FnExactAccOwner", spec := "fnExactAccOwner", apart := false }
def FnExactAccOwnerSaid : Prop := fnExactAccOwnerRow.holds Try.pinned (OpenSpec.ofChange fnExactAccOwnerSpec)

/-- ITS FALSE NEIGHBOUR: 'it returns false'. Refute it at one input. -/
def fnExactAccOwnerWrong : ChangeSpec := { name := "fnExactAccOwner", fn := fun _ => fun
  | [d] => { results := [.lit (.bool false)], args := [d] }
  | _ => none }
def FnExactAccOwnerWrongFalsely : Prop := fnExactAccOwnerRow.holds Try.pinned (OpenSpec.ofChange fnExactAccOwnerWrong)

/-- 'laws.FnExactBoxOpen': WHATEVER THE INPUT: true; the input reads as it did. -/
def fnExactBoxOpenSpec : ChangeSpec := { name := "fnExactBoxOpen", fn := fun _ => fun
  | [] => { results := [.lit (.bool true)], args := [] }
  | _ => none }
def fnExactBoxOpenRow : OpenClaim := { program := "ythojmgliknacfaa", sum := "910c734dc8977a72d4dba89b048a540d7e36610c48be3dfbb95e8595b916831d", func := "loop.example/thingstead/laws.FnExactBoxOpen", spec := "fnExactBoxOpen", apart := false }
def FnExactBoxOpenSaid : Prop := fnExactBoxOpenRow.holds Try.pinned (OpenSpec.ofChange fnExactBoxOpenSpec)

/-- ITS FALSE NEIGHBOUR: 'it returns false'. Refute it at one input. -/
def fnExactBoxOpenWrong : ChangeSpec := { name := "fnExactBoxOpen", fn := fun _ => fun
  | [] => { results := [.lit (.bool false)], args := [] }
  | _ => none }
def FnExactBoxOpenWrongFalsely : Prop := fnExactBoxOpenRow.holds Try.pinned (OpenSpec.ofChange fnExactBoxOpenWrong)

/-- 'laws.FnExactBoxSame': WHATEVER THE INPUT: true; the input reads as it did. -/
def fnExactBoxSameSpec : ChangeSpec := { name := "fnExactBoxSame", fn := fun _ => fun
  | [d1, d2] => { results := [.lit (.bool true)], args := [d1, d2] }
  | _ => none }
def fnExactBoxSameRow : OpenClaim := { program := "ythojmgliknacfaa", sum := "910c734dc8977a72d4dba89b048a540d7e36610c48be3dfbb95e8595b916831d", func := "loop.example/thingstead/laws.FnExactBoxSame", spec := "fnExactBoxSame", apart := false }
def FnExactBoxSameSaid : Prop := fnExactBoxSameRow.holds Try.pinned (OpenSpec.ofChange fnExactBoxSameSpec)

/-- ITS FALSE NEIGHBOUR: 'it returns false'. Refute it at one input. -/
def fnExactBoxSameWrong : ChangeSpec := { name := "fnExactBoxSame", fn := fun _ => fun
  | [d1, d2] => { results := [.lit (.bool false)], args := [d1, d2] }
  | _ => none }
def FnExactBoxSameWrongFalsely : Prop := fnExactBoxSameRow.holds Try.pinned (OpenSpec.ofChange fnExactBoxSameWrong)

/-- 'laws.FnExactBoxOk': WHATEVER THE INPUT: true; the input reads as it did. -/
def fnExactBoxOkSpec : ChangeSpec := { name := "fnExactBoxOk", fn := fun _ => fun
  | [d] => { results := [.lit (.bool true)], args := [d] }
  | _ => none }
def fnExactBoxOkRow : OpenClaim := { program := "ythojmgliknacfaa", sum := "910c734dc8977a72d4dba89b048a540d7e36610c48be3dfbb95e8595b916831d", func := "loop.example/thingstead/laws.FnExactBoxOk", spec := "fnExactBoxOk", apart := false }
def FnExactBoxOkSaid : Prop := fnExactBoxOkRow.holds Try.pinned (OpenSpec.ofChange fnExactBoxOkSpec)

/-- ITS FALSE NEIGHBOUR: 'it returns false'. Refute it at one input. -/
def fnExactBoxOkWrong : ChangeSpec := { name := "fnExactBoxOk", fn := fun _ => fun
  | [d] => { results := [.lit (.bool false)], args := [d] }
  | _ => none }
def FnExactBoxOkWrongFalsely : Prop := fnExactBoxOkRow.holds Try.pinned (OpenSpec.ofChange fnExactBoxOkWrong)

/-- 'laws.FnExactProgSame': WHATEVER THE INPUT: true; the input reads as it did. -/
def fnExactProgSameSpec : ChangeSpec := { name := "fnExactProgSame", fn := fun _ => fun
  | [d1, d2] => { results := [.lit (.bool true)], args := [d1, d2] }
  | _ => none }
def fnExactProgSameRow : OpenClaim := { program := "ythojmgliknacfaa", sum := "910c734dc8977a72d4dba89b048a540d7e36610c48be3dfbb95e8595b916831d", func := "loop.example/thingstead/laws.FnExactProgSame", spec := "fnExactProgSame", apart := false }
def FnExactProgSameSaid : Prop := fnExactProgSameRow.holds Try.pinned (OpenSpec.ofChange fnExactProgSameSpec)

/-- ITS FALSE NEIGHBOUR: 'it returns false'. Refute it at one input. -/
def fnExactProgSameWrong : ChangeSpec := { name := "fnExactProgSame", fn := fun _ => fun
  | [d1, d2] => { results := [.lit (.bool false)], args := [d1, d2] }
  | _ => none }
def FnExactProgSameWrongFalsely : Prop := fnExactProgSameRow.holds Try.pinned (OpenSpec.ofChange fnExactProgSameWrong)

/-- 'laws.FnBoxOpen': WHATEVER THE INPUT: true; the input reads as it did. -/
def fnBoxOpenSpec : ChangeSpec := { name := "fnBoxOpen", fn := fun _ => fun
  | [d] => { results := [.lit (.bool true)], args := [d] }
  | _ => none }
def fnBoxOpenRow : OpenClaim := { program := "ythojmgliknacfaa", sum := "910c734dc8977a72d4dba89b048a540d7e36610c48be3dfbb95e8595b916831d", func := "loop.example/thingstead/laws.FnBoxOpen", spec := "fnBoxOpen", apart := false }
def FnBoxOpenSaid : Prop := fnBoxOpenRow.holds Try.pinned (OpenSpec.ofChange fnBoxOpenSpec)

/-- ITS FALSE NEIGHBOUR: 'it returns false'. Refute it at one input. -/
def fnBoxOpenWrong : ChangeSpec := { name := "fnBoxOpen", fn := fun _ => fun
  | [d] => { results := [.lit (.bool false)], args := [d] }
  | _ => none }
def FnBoxOpenWrongFalsely : Prop := fnBoxOpenRow.holds Try.pinned (OpenSpec.ofChange fnBoxOpenWrong)

/-- 'laws.FnExactProgOk': WHATEVER THE INPUT: true; the input reads as it did. -/
def fnExactProgOkSpec : ChangeSpec := { name := "fnExactProgOk", fn := fun _ => fun
  | [d] => { results := [.lit (.bool true)], args := [d] }
  | _ => none }
def fnExactProgOkRow : OpenClaim := { program := "ythojmgliknacfaa", sum := "910c734dc8977a72d4dba89b048a540d7e36610c48be3dfbb95e8595b916831d", func := "loop.example/thingstead/laws.FnExactProgOk", spec := "fnExactProgOk", unfollowed := true, recurses := true, apart := false }
def FnExactProgOkSaid : Prop := fnExactProgOkRow.holds Try.pinned (OpenSpec.ofChange fnExactProgOkSpec)

/-- ITS FALSE NEIGHBOUR: 'it returns false'. Refute it at one input. -/
def fnExactProgOkWrong : ChangeSpec := { name := "fnExactProgOk", fn := fun _ => fun
  | [d] => { results := [.lit (.bool false)], args := [d] }
  | _ => none }
def FnExactProgOkWrongFalsely : Prop := fnExactProgOkRow.holds Try.pinned (OpenSpec.ofChange fnExactProgOkWrong)

/-- 'laws.FnExactProgLoads': WHATEVER THE INPUT: true; the input reads as it did. -/
def fnExactProgLoadsSpec : ChangeSpec := { name := "fnExactProgLoads", fn := fun _ => fun
  | [d] => { results := [.lit (.bool true)], args := [d] }
  | _ => none }
def fnExactProgLoadsRow : OpenClaim := { program := "ythojmgliknacfaa", sum := "910c734dc8977a72d4dba89b048a540d7e36610c48be3dfbb95e8595b916831d", func := "loop.example/thingstead/laws.FnExactProgLoads", spec := "fnExactProgLoads", apart := false }
def FnExactProgLoadsSaid : Prop := fnExactProgLoadsRow.holds Try.pinned (OpenSpec.ofChange fnExactProgLoadsSpec)

/-- ITS FALSE NEIGHBOUR: 'it returns false'. Refute it at one input. -/
def fnExactProgLoadsWrong : ChangeSpec := { name := "fnExactProgLoads", fn := fun _ => fun
  | [d] => { results := [.lit (.bool false)], args := [d] }
  | _ => none }
def FnExactProgLoadsWrongFalsely : Prop := fnExactProgLoadsRow.holds Try.pinned (OpenSpec.ofChange fnExactProgLoadsWrong)

/-- 'laws.FnExactProgPuts': WHATEVER THE INPUT: true; the input reads as it did. -/
def fnExactProgPutsSpec : ChangeSpec := { name := "fnExactProgPuts", fn := fun _ => fun
  | [d] => { results := [.lit (.bool true)], args := [d] }
  | _ => none }
def fnExactProgPutsRow : OpenClaim := { program := "ythojmgliknacfaa", sum := "910c734dc8977a72d4dba89b048a540d7e36610c48be3dfbb95e8595b916831d", func := "loop.example/thingstead/laws.FnExactProgPuts", spec := "fnExactProgPuts", apart := false }
def FnExactProgPutsSaid : Prop := fnExactProgPutsRow.holds Try.pinned (OpenSpec.ofChange fnExactProgPutsSpec)

/-- ITS FALSE NEIGHBOUR: 'it returns false'. Refute it at one input. -/
def fnExactProgPutsWrong : ChangeSpec := { name := "fnExactProgPuts", fn := fun _ => fun
  | [d] => { results := [.lit (.bool false)], args := [d] }
  | _ => none }
def FnExactProgPutsWrongFalsely : Prop := fnExactProgPutsRow.holds Try.pinned (OpenSpec.ofChange fnExactProgPutsWrong)

/-- 'laws.FnExactExecSame': WHATEVER THE INPUT: true; the input reads as it did. -/
def fnExactExecSameSpec : ChangeSpec := { name := "fnExactExecSame", fn := fun _ => fun
  | [d1, d2] => { results := [.lit (.bool true)], args := [d1, d2] }
  | _ => none }
def fnExactExecSameRow : OpenClaim := { program := "ythojmgliknacfaa", sum := "910c734dc8977a72d4dba89b048a540d7e36610c48be3dfbb95e8595b916831d", func := "loop.example/thingstead/laws.FnExactExecSame", spec := "fnExactExecSame", apart := false }
def FnExactExecSameSaid : Prop := fnExactExecSameRow.holds Try.pinned (OpenSpec.ofChange fnExactExecSameSpec)

/-- ITS FALSE NEIGHBOUR: 'it returns false'. Refute it at one input. -/
def fnExactExecSameWrong : ChangeSpec := { name := "fnExactExecSame", fn := fun _ => fun
  | [d1, d2] => { results := [.lit (.bool false)], args := [d1, d2] }
  | _ => none }
def FnExactExecSameWrongFalsely : Prop := fnExactExecSameRow.holds Try.pinned (OpenSpec.ofChange fnExactExecSameWrong)

/- THE SECOND FORM. 'bulk': how many values and letters a reading holds, each counted each time it is reached (what is shared counts as often as it is met; a slice's spare places count too). A statement '..UptoSaid' is the law's where the arguments, and the package variables that the reading takes, are together of bulk at most 1048576: NARROWER than '..Said'. Prove '..Said' where nothing that the law and all that it calls make is longer than what came in: it says more and counts as full. Else prove '..UptoSaid'. A law counts once. -/
mutual
def uptoBulk {H : Type} : DataW H → Nat
  | .lit (.string bytes) => bytes.length + 1
  | .lit _ => 1
  | .nil => 1
  | .ptr d => uptoBulk d + 1
  | .slice elems spare => uptoBulkAll elems + uptoBulkAll spare + 1
  | .agg parts => uptoBulkAll parts + 1
  | .iface _ d => uptoBulk d + 1
  | .map entries => uptoBulkEntries entries + 1
  | .held _ => 1
def uptoBulkAll {H : Type} : List (DataW H) → Nat
  | [] => 0
  | d :: r => uptoBulk d + uptoBulkAll r
def uptoBulkEntries {H : Type} : List (Lit × DataW H) → Nat
  | [] => 0
  | x :: r => uptoBulkEntry x + uptoBulkEntries r
def uptoBulkEntry {H : Type} : Lit × DataW H → Nat
  | (.string bytes, d) => bytes.length + uptoBulk d + 1
  | (_, d) => uptoBulk d + 1
 end
def uptoSmall : (H : Type) → List (DataW H) → Bool := fun _ ds => decide (uptoBulkAll ds ≤ 1048576)
def OpenSpec.upto (s : _root_.Go.ChangeSpec) : _root_.Go.OpenSpec := { _root_.Go.OpenSpec.ofChange s with cond := some uptoSmall }

/-- 'laws.FnExactConstants', WHERE WHAT IT READS IS OF BULK AT MOST 1048576: true; the input reads as it did. -/
def fnExactConstantsUptoRow : OpenClaim := { program := "ythojmgliknacfaa", sum := "910c734dc8977a72d4dba89b048a540d7e36610c48be3dfbb95e8595b916831d", func := "loop.example/thingstead/laws.FnExactConstants", spec := "fnExactConstants", apart := false, narrowed := true }
def FnExactConstantsUptoSaid : Prop := fnExactConstantsUptoRow.holds Try.pinned (OpenSpec.upto fnExactConstantsSpec)

/-- 'laws.FnExactAccOwner', WHERE WHAT IT READS IS OF BULK AT MOST 1048576: true; the input reads as it did. -/
def fnExactAccOwnerUptoRow : OpenClaim := { program := "ythojmgliknacfaa", sum := "910c734dc8977a72d4dba89b048a540d7e36610c48be3dfbb95e8595b916831d", func := "loop.example/thingstead/laws.FnExactAccOwner", spec := "fnExactAccOwner", apart := false, narrowed := true }
def FnExactAccOwnerUptoSaid : Prop := fnExactAccOwnerUptoRow.holds Try.pinned (OpenSpec.upto fnExactAccOwnerSpec)

/-- 'laws.FnExactBoxOpen', WHERE WHAT IT READS IS OF BULK AT MOST 1048576: true; the input reads as it did. -/
def fnExactBoxOpenUptoRow : OpenClaim := { program := "ythojmgliknacfaa", sum := "910c734dc8977a72d4dba89b048a540d7e36610c48be3dfbb95e8595b916831d", func := "loop.example/thingstead/laws.FnExactBoxOpen", spec := "fnExactBoxOpen", apart := false, narrowed := true }
def FnExactBoxOpenUptoSaid : Prop := fnExactBoxOpenUptoRow.holds Try.pinned (OpenSpec.upto fnExactBoxOpenSpec)

/-- 'laws.FnExactBoxSame', WHERE WHAT IT READS IS OF BULK AT MOST 1048576: true; the input reads as it did. -/
def fnExactBoxSameUptoRow : OpenClaim := { program := "ythojmgliknacfaa", sum := "910c734dc8977a72d4dba89b048a540d7e36610c48be3dfbb95e8595b916831d", func := "loop.example/thingstead/laws.FnExactBoxSame", spec := "fnExactBoxSame", apart := false, narrowed := true }
def FnExactBoxSameUptoSaid : Prop := fnExactBoxSameUptoRow.holds Try.pinned (OpenSpec.upto fnExactBoxSameSpec)

/-- 'laws.FnExactBoxOk', WHERE WHAT IT READS IS OF BULK AT MOST 1048576: true; the input reads as it did. -/
def fnExactBoxOkUptoRow : OpenClaim := { program := "ythojmgliknacfaa", sum := "910c734dc8977a72d4dba89b048a540d7e36610c48be3dfbb95e8595b916831d", func := "loop.example/thingstead/laws.FnExactBoxOk", spec := "fnExactBoxOk", apart := false, narrowed := true }
def FnExactBoxOkUptoSaid : Prop := fnExactBoxOkUptoRow.holds Try.pinned (OpenSpec.upto fnExactBoxOkSpec)

/-- 'laws.FnExactProgSame', WHERE WHAT IT READS IS OF BULK AT MOST 1048576: true; the input reads as it did. -/
def fnExactProgSameUptoRow : OpenClaim := { program := "ythojmgliknacfaa", sum := "910c734dc8977a72d4dba89b048a540d7e36610c48be3dfbb95e8595b916831d", func := "loop.example/thingstead/laws.FnExactProgSame", spec := "fnExactProgSame", apart := false, narrowed := true }
def FnExactProgSameUptoSaid : Prop := fnExactProgSameUptoRow.holds Try.pinned (OpenSpec.upto fnExactProgSameSpec)

/-- 'laws.FnBoxOpen', WHERE WHAT IT READS IS OF BULK AT MOST 1048576: true; the input reads as it did. -/
def fnBoxOpenUptoRow : OpenClaim := { program := "ythojmgliknacfaa", sum := "910c734dc8977a72d4dba89b048a540d7e36610c48be3dfbb95e8595b916831d", func := "loop.example/thingstead/laws.FnBoxOpen", spec := "fnBoxOpen", apart := false, narrowed := true }
def FnBoxOpenUptoSaid : Prop := fnBoxOpenUptoRow.holds Try.pinned (OpenSpec.upto fnBoxOpenSpec)

/-- 'laws.FnExactProgOk', WHERE WHAT IT READS IS OF BULK AT MOST 1048576: true; the input reads as it did. -/
def fnExactProgOkUptoRow : OpenClaim := { program := "ythojmgliknacfaa", sum := "910c734dc8977a72d4dba89b048a540d7e36610c48be3dfbb95e8595b916831d", func := "loop.example/thingstead/laws.FnExactProgOk", spec := "fnExactProgOk", unfollowed := true, recurses := true, apart := false, narrowed := true }
def FnExactProgOkUptoSaid : Prop := fnExactProgOkUptoRow.holds Try.pinned (OpenSpec.upto fnExactProgOkSpec)

/-- 'laws.FnExactProgLoads', WHERE WHAT IT READS IS OF BULK AT MOST 1048576: true; the input reads as it did. -/
def fnExactProgLoadsUptoRow : OpenClaim := { program := "ythojmgliknacfaa", sum := "910c734dc8977a72d4dba89b048a540d7e36610c48be3dfbb95e8595b916831d", func := "loop.example/thingstead/laws.FnExactProgLoads", spec := "fnExactProgLoads", apart := false, narrowed := true }
def FnExactProgLoadsUptoSaid : Prop := fnExactProgLoadsUptoRow.holds Try.pinned (OpenSpec.upto fnExactProgLoadsSpec)

/-- 'laws.FnExactProgPuts', WHERE WHAT IT READS IS OF BULK AT MOST 1048576: true; the input reads as it did. -/
def fnExactProgPutsUptoRow : OpenClaim := { program := "ythojmgliknacfaa", sum := "910c734dc8977a72d4dba89b048a540d7e36610c48be3dfbb95e8595b916831d", func := "loop.example/thingstead/laws.FnExactProgPuts", spec := "fnExactProgPuts", apart := false, narrowed := true }
def FnExactProgPutsUptoSaid : Prop := fnExactProgPutsUptoRow.holds Try.pinned (OpenSpec.upto fnExactProgPutsSpec)

/-- 'laws.FnExactExecSame', WHERE WHAT IT READS IS OF BULK AT MOST 1048576: true; the input reads as it did. -/
def fnExactExecSameUptoRow : OpenClaim := { program := "ythojmgliknacfaa", sum := "910c734dc8977a72d4dba89b048a540d7e36610c48be3dfbb95e8595b916831d", func := "loop.example/thingstead/laws.FnExactExecSame", spec := "fnExactExecSame", apart := false, narrowed := true }
def FnExactExecSameUptoSaid : Prop := fnExactExecSameUptoRow.holds Try.pinned (OpenSpec.upto fnExactExecSameSpec)

end Rows
end Go.Proofs.Ythojmgliknacfaa
