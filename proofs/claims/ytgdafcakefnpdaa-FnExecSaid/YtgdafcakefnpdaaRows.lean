/-
  No cell of these rows narrows 'for every input' (looked for: loops, veiled, ifaces, maps, wideKeys, modest, calm, conditions, laid).
  DERIVED. THE GIVEN ROWS OF THIS SEAT. 9 by the template 'for every input the law returns true; each argument reads behind the call as it read before'; 0 by the template 'total and deterministic' (their statements: YtgdafcakefnpdaaTotals.lean).
  GIVEN WITH THE SEED: the statements are not yours to turn. If you find one false, say at which input.
  Laid BY PROGRAM, IN A SANDBOX (cutbox-rows.mjs): the forced cells as the released guide's own fill.sh prints them over the translation 29cb5c77c412f67d… (all of the seat's roots in one cut). By AI agents, Wed Nov 11 2026. No macro, syntax, notation, axiom, sorry.
-/
import Derived.Test.YtgdafcakefnpdaaChecked
import GoSem.Claim
import GoSem.ClaimJoined
import GoSem.ClaimMapViews
import Derived.JoinedTies
import Derived.KernelRfl
namespace Go.Proofs.Ytgdafcakefnpdaa
/- THE CELL 'sum', in the pinned program and in every row, IS THE sha256 OF THE DUMP (.gsa) THAT YtgdafcakefnpdaaProg.lean LOADS. Nothing in Lean hashes anything: it is a label: what it is worth is what the hold of that sum in a sandbox is worth. -/
noncomputable def Try.pinned : Pinned := { name := "ytgdafcakefnpdaa", sum := "29cb5c77c412f67d3551e2dce8397d7a2a46dd01ab75250794ab6071d0a56702", checked := Try.checked }
namespace Rows
def none {H : Type} : Left H := { results := [], args := [] }

/-- 'laws.FnExecOwn': WHATEVER THE INPUT: true; the input reads as it did. -/
def fnExecOwnSpec : ChangeSpec := { name := "fnExecOwn", fn := fun _ => fun
  | [d1, d2] => { results := [.lit (.bool true)], args := [d1, d2] }
  | _ => none }
def fnExecOwnRow : OpenClaim := { program := "ytgdafcakefnpdaa", sum := "29cb5c77c412f67d3551e2dce8397d7a2a46dd01ab75250794ab6071d0a56702", func := "loop.example/thingstead/laws.FnExecOwn", spec := "fnExecOwn", unfollowed := true, recurses := true, apart := false }
def FnExecOwnSaid : Prop := fnExecOwnRow.holds Try.pinned (OpenSpec.ofChange fnExecOwnSpec)

/-- ITS FALSE NEIGHBOUR: 'it returns false'. Refute it at one input. -/
def fnExecOwnWrong : ChangeSpec := { name := "fnExecOwn", fn := fun _ => fun
  | [d1, d2] => { results := [.lit (.bool false)], args := [d1, d2] }
  | _ => none }
def FnExecOwnWrongFalsely : Prop := fnExecOwnRow.holds Try.pinned (OpenSpec.ofChange fnExecOwnWrong)

/-- 'laws.FnExecDo': WHATEVER THE INPUT: true; the input reads as it did. -/
def fnExecDoSpec : ChangeSpec := { name := "fnExecDo", fn := fun _ => fun
  | [d] => { results := [.lit (.bool true)], args := [d] }
  | _ => none }
def fnExecDoRow : OpenClaim := { program := "ytgdafcakefnpdaa", sum := "29cb5c77c412f67d3551e2dce8397d7a2a46dd01ab75250794ab6071d0a56702", func := "loop.example/thingstead/laws.FnExecDo", spec := "fnExecDo", apart := false }
def FnExecDoSaid : Prop := fnExecDoRow.holds Try.pinned (OpenSpec.ofChange fnExecDoSpec)

/-- ITS FALSE NEIGHBOUR: 'it returns false'. Refute it at one input. -/
def fnExecDoWrong : ChangeSpec := { name := "fnExecDo", fn := fun _ => fun
  | [d] => { results := [.lit (.bool false)], args := [d] }
  | _ => none }
def FnExecDoWrongFalsely : Prop := fnExecDoRow.holds Try.pinned (OpenSpec.ofChange fnExecDoWrong)

/-- 'laws.FnExecGrow': WHATEVER THE INPUT: true; the input reads as it did. -/
def fnExecGrowSpec : ChangeSpec := { name := "fnExecGrow", fn := fun _ => fun
  | [d1, d2] => { results := [.lit (.bool true)], args := [d1, d2] }
  | _ => none }
def fnExecGrowRow : OpenClaim := { program := "ytgdafcakefnpdaa", sum := "29cb5c77c412f67d3551e2dce8397d7a2a46dd01ab75250794ab6071d0a56702", func := "loop.example/thingstead/laws.FnExecGrow", spec := "fnExecGrow", unfollowed := true, recurses := true, apart := false }
def FnExecGrowSaid : Prop := fnExecGrowRow.holds Try.pinned (OpenSpec.ofChange fnExecGrowSpec)

/-- ITS FALSE NEIGHBOUR: 'it returns false'. Refute it at one input. -/
def fnExecGrowWrong : ChangeSpec := { name := "fnExecGrow", fn := fun _ => fun
  | [d1, d2] => { results := [.lit (.bool false)], args := [d1, d2] }
  | _ => none }
def FnExecGrowWrongFalsely : Prop := fnExecGrowRow.holds Try.pinned (OpenSpec.ofChange fnExecGrowWrong)

/-- 'laws.FnExec': WHATEVER THE INPUT: true; the input reads as it did. -/
def fnExecSpec : ChangeSpec := { name := "fnExec", fn := fun _ => fun
  | [d1, d2] => { results := [.lit (.bool true)], args := [d1, d2] }
  | _ => none }
def fnExecRow : OpenClaim := { program := "ytgdafcakefnpdaa", sum := "29cb5c77c412f67d3551e2dce8397d7a2a46dd01ab75250794ab6071d0a56702", func := "loop.example/thingstead/laws.FnExec", spec := "fnExec", unfollowed := true, recurses := true, apart := false }
def FnExecSaid : Prop := fnExecRow.holds Try.pinned (OpenSpec.ofChange fnExecSpec)

/-- ITS FALSE NEIGHBOUR: 'it returns false'. Refute it at one input. -/
def fnExecWrong : ChangeSpec := { name := "fnExec", fn := fun _ => fun
  | [d1, d2] => { results := [.lit (.bool false)], args := [d1, d2] }
  | _ => none }
def FnExecWrongFalsely : Prop := fnExecRow.holds Try.pinned (OpenSpec.ofChange fnExecWrong)

/-- 'laws.FnExactSerialOne': WHATEVER THE INPUT: true; the input reads as it did. -/
def fnExactSerialOneSpec : ChangeSpec := { name := "fnExactSerialOne", fn := fun _ => fun
  | [d1, d2] => { results := [.lit (.bool true)], args := [d1, d2] }
  | _ => none }
def fnExactSerialOneRow : OpenClaim := { program := "ytgdafcakefnpdaa", sum := "29cb5c77c412f67d3551e2dce8397d7a2a46dd01ab75250794ab6071d0a56702", func := "loop.example/thingstead/laws.FnExactSerialOne", spec := "fnExactSerialOne", unfollowed := true, recurses := true, apart := false }
def FnExactSerialOneSaid : Prop := fnExactSerialOneRow.holds Try.pinned (OpenSpec.ofChange fnExactSerialOneSpec)

/-- ITS FALSE NEIGHBOUR: 'it returns false'. Refute it at one input. -/
def fnExactSerialOneWrong : ChangeSpec := { name := "fnExactSerialOne", fn := fun _ => fun
  | [d1, d2] => { results := [.lit (.bool false)], args := [d1, d2] }
  | _ => none }
def FnExactSerialOneWrongFalsely : Prop := fnExactSerialOneRow.holds Try.pinned (OpenSpec.ofChange fnExactSerialOneWrong)

/-- 'laws.FnSerialOne': WHATEVER THE INPUT: true; the input reads as it did. -/
def fnSerialOneSpec : ChangeSpec := { name := "fnSerialOne", fn := fun _ => fun
  | [d] => { results := [.lit (.bool true)], args := [d] }
  | _ => none }
def fnSerialOneRow : OpenClaim := { program := "ytgdafcakefnpdaa", sum := "29cb5c77c412f67d3551e2dce8397d7a2a46dd01ab75250794ab6071d0a56702", func := "loop.example/thingstead/laws.FnSerialOne", spec := "fnSerialOne", unfollowed := true, recurses := true, apart := false }
def FnSerialOneSaid : Prop := fnSerialOneRow.holds Try.pinned (OpenSpec.ofChange fnSerialOneSpec)

/-- ITS FALSE NEIGHBOUR: 'it returns false'. Refute it at one input. -/
def fnSerialOneWrong : ChangeSpec := { name := "fnSerialOne", fn := fun _ => fun
  | [d] => { results := [.lit (.bool false)], args := [d] }
  | _ => none }
def FnSerialOneWrongFalsely : Prop := fnSerialOneRow.holds Try.pinned (OpenSpec.ofChange fnSerialOneWrong)

/-- 'laws.FnExactExecRun': WHATEVER THE INPUT: true; the input reads as it did. -/
def fnExactExecRunSpec : ChangeSpec := { name := "fnExactExecRun", fn := fun _ => fun
  | [d1, d2] => { results := [.lit (.bool true)], args := [d1, d2] }
  | _ => none }
def fnExactExecRunRow : OpenClaim := { program := "ytgdafcakefnpdaa", sum := "29cb5c77c412f67d3551e2dce8397d7a2a46dd01ab75250794ab6071d0a56702", func := "loop.example/thingstead/laws.FnExactExecRun", spec := "fnExactExecRun", unfollowed := true, recurses := true, apart := false }
def FnExactExecRunSaid : Prop := fnExactExecRunRow.holds Try.pinned (OpenSpec.ofChange fnExactExecRunSpec)

/-- ITS FALSE NEIGHBOUR: 'it returns false'. Refute it at one input. -/
def fnExactExecRunWrong : ChangeSpec := { name := "fnExactExecRun", fn := fun _ => fun
  | [d1, d2] => { results := [.lit (.bool false)], args := [d1, d2] }
  | _ => none }
def FnExactExecRunWrongFalsely : Prop := fnExactExecRunRow.holds Try.pinned (OpenSpec.ofChange fnExactExecRunWrong)

/-- 'laws.FnExactSerialAll': WHATEVER THE INPUT: true; the input reads as it did. -/
def fnExactSerialAllSpec : ChangeSpec := { name := "fnExactSerialAll", fn := fun _ => fun
  | [d1, d2] => { results := [.lit (.bool true)], args := [d1, d2] }
  | _ => none }
def fnExactSerialAllRow : OpenClaim := { program := "ytgdafcakefnpdaa", sum := "29cb5c77c412f67d3551e2dce8397d7a2a46dd01ab75250794ab6071d0a56702", func := "loop.example/thingstead/laws.FnExactSerialAll", spec := "fnExactSerialAll", unfollowed := true, recurses := true, apart := false }
def FnExactSerialAllSaid : Prop := fnExactSerialAllRow.holds Try.pinned (OpenSpec.ofChange fnExactSerialAllSpec)

/-- ITS FALSE NEIGHBOUR: 'it returns false'. Refute it at one input. -/
def fnExactSerialAllWrong : ChangeSpec := { name := "fnExactSerialAll", fn := fun _ => fun
  | [d1, d2] => { results := [.lit (.bool false)], args := [d1, d2] }
  | _ => none }
def FnExactSerialAllWrongFalsely : Prop := fnExactSerialAllRow.holds Try.pinned (OpenSpec.ofChange fnExactSerialAllWrong)

/-- 'laws.FnSerial': WHATEVER THE INPUT: true; the input reads as it did. -/
def fnSerialSpec : ChangeSpec := { name := "fnSerial", fn := fun _ => fun
  | [d1, d2] => { results := [.lit (.bool true)], args := [d1, d2] }
  | _ => none }
def fnSerialRow : OpenClaim := { program := "ytgdafcakefnpdaa", sum := "29cb5c77c412f67d3551e2dce8397d7a2a46dd01ab75250794ab6071d0a56702", func := "loop.example/thingstead/laws.FnSerial", spec := "fnSerial", unfollowed := true, recurses := true, apart := false }
def FnSerialSaid : Prop := fnSerialRow.holds Try.pinned (OpenSpec.ofChange fnSerialSpec)

/-- ITS FALSE NEIGHBOUR: 'it returns false'. Refute it at one input. -/
def fnSerialWrong : ChangeSpec := { name := "fnSerial", fn := fun _ => fun
  | [d1, d2] => { results := [.lit (.bool false)], args := [d1, d2] }
  | _ => none }
def FnSerialWrongFalsely : Prop := fnSerialRow.holds Try.pinned (OpenSpec.ofChange fnSerialWrong)

/- THE SECOND FORM. 'bulk': how many values and letters a reading holds, each counted each time it is reached (what is shared counts as often as it is met; a slice's spare places count too). A statement '..UptoSaid' is the law's where the arguments, and the package variables that the reading takes, are together of bulk at most 1048576: NARROWER than '..Said'. Prove '..Said' where nothing that the law and all that it calls make is longer than what came in: it says more and counts as full. Else prove '..UptoSaid'. A law counts once. -/
mutual
def uptoBulk {H : Type} : DataW H → Nat
  | .lit (.string bytes) => bytes.length + 1
  | .lit _ => 1
  | .nil => 1
  | .ptr d => uptoBulk d + 1
  | .slice elems spare => uptoBulkAll elems + uptoBulkAll spare + 1
  | .agg parts => uptoBulkAll parts + 1
  | .iface _ d => uptoBulk d + 1
  | .map entries => uptoBulkEntries entries + 1
  | .held _ => 1
def uptoBulkAll {H : Type} : List (DataW H) → Nat
  | [] => 0
  | d :: r => uptoBulk d + uptoBulkAll r
def uptoBulkEntries {H : Type} : List (Lit × DataW H) → Nat
  | [] => 0
  | x :: r => uptoBulkEntry x + uptoBulkEntries r
def uptoBulkEntry {H : Type} : Lit × DataW H → Nat
  | (.string bytes, d) => bytes.length + uptoBulk d + 1
  | (_, d) => uptoBulk d + 1
 end
def uptoSmall : (H : Type) → List (DataW H) → Bool := fun _ ds => decide (uptoBulkAll ds ≤ 1048576)
def OpenSpec.upto (s : _root_.Go.ChangeSpec) : _root_.Go.OpenSpec := { _root_.Go.OpenSpec.ofChange s with cond := some uptoSmall }

/-- 'laws.FnExecOwn', WHERE WHAT IT READS IS OF BULK AT MOST 1048576: true; the input reads as it did. -/
def fnExecOwnUptoRow : OpenClaim := { program := "ytgdafcakefnpdaa", sum := "29cb5c77c412f67d3551e2dce8397d7a2a46dd01ab75250794ab6071d0a56702", func := "loop.example/thingstead/laws.FnExecOwn", spec := "fnExecOwn", unfollowed := true, recurses := true, apart := false, narrowed := true }
def FnExecOwnUptoSaid : Prop := fnExecOwnUptoRow.holds Try.pinned (OpenSpec.upto fnExecOwnSpec)

/-- 'laws.FnExecDo', WHERE WHAT IT READS IS OF BULK AT MOST 1048576: true; the input reads as it did. -/
def fnExecDoUptoRow : OpenClaim := { program := "ytgdafcakefnpdaa", sum := "29cb5c77c412f67d3551e2dce8397d7a2a46dd01ab75250794ab6071d0a56702", func := "loop.example/thingstead/laws.FnExecDo", spec := "fnExecDo", apart := false, narrowed := true }
def FnExecDoUptoSaid : Prop := fnExecDoUptoRow.holds Try.pinned (OpenSpec.upto fnExecDoSpec)

/-- 'laws.FnExecGrow', WHERE WHAT IT READS IS OF BULK AT MOST 1048576: true; the input reads as it did. -/
def fnExecGrowUptoRow : OpenClaim := { program := "ytgdafcakefnpdaa", sum := "29cb5c77c412f67d3551e2dce8397d7a2a46dd01ab75250794ab6071d0a56702", func := "loop.example/thingstead/laws.FnExecGrow", spec := "fnExecGrow", unfollowed := true, recurses := true, apart := false, narrowed := true }
def FnExecGrowUptoSaid : Prop := fnExecGrowUptoRow.holds Try.pinned (OpenSpec.upto fnExecGrowSpec)

/-- 'laws.FnExec', WHERE WHAT IT READS IS OF BULK AT MOST 1048576: true; the input reads as it did. -/
def fnExecUptoRow : OpenClaim := { program := "ytgdafcakefnpdaa", sum := "29cb5c77c412f67d3551e2dce8397d7a2a46dd01ab75250794ab6071d0a56702", func := "loop.example/thingstead/laws.FnExec", spec := "fnExec", unfollowed := true, recurses := true, apart := false, narrowed := true }
def FnExecUptoSaid : Prop := fnExecUptoRow.holds Try.pinned (OpenSpec.upto fnExecSpec)

/-- 'laws.FnExactSerialOne', WHERE WHAT IT READS IS OF BULK AT MOST 1048576: true; the input reads as it did. -/
def fnExactSerialOneUptoRow : OpenClaim := { program := "ytgdafcakefnpdaa", sum := "29cb5c77c412f67d3551e2dce8397d7a2a46dd01ab75250794ab6071d0a56702", func := "loop.example/thingstead/laws.FnExactSerialOne", spec := "fnExactSerialOne", unfollowed := true, recurses := true, apart := false, narrowed := true }
def FnExactSerialOneUptoSaid : Prop := fnExactSerialOneUptoRow.holds Try.pinned (OpenSpec.upto fnExactSerialOneSpec)

/-- 'laws.FnSerialOne', WHERE WHAT IT READS IS OF BULK AT MOST 1048576: true; the input reads as it did. -/
def fnSerialOneUptoRow : OpenClaim := { program := "ytgdafcakefnpdaa", sum := "29cb5c77c412f67d3551e2dce8397d7a2a46dd01ab75250794ab6071d0a56702", func := "loop.example/thingstead/laws.FnSerialOne", spec := "fnSerialOne", unfollowed := true, recurses := true, apart := false, narrowed := true }
def FnSerialOneUptoSaid : Prop := fnSerialOneUptoRow.holds Try.pinned (OpenSpec.upto fnSerialOneSpec)

/-- 'laws.FnExactExecRun', WHERE WHAT IT READS IS OF BULK AT MOST 1048576: true; the input reads as it did. -/
def fnExactExecRunUptoRow : OpenClaim := { program := "ytgdafcakefnpdaa", sum := "29cb5c77c412f67d3551e2dce8397d7a2a46dd01ab75250794ab6071d0a56702", func := "loop.example/thingstead/laws.FnExactExecRun", spec := "fnExactExecRun", unfollowed := true, recurses := true, apart := false, narrowed := true }
def FnExactExecRunUptoSaid : Prop := fnExactExecRunUptoRow.holds Try.pinned (OpenSpec.upto fnExactExecRunSpec)

/-- 'laws.FnExactSerialAll', WHERE WHAT IT READS IS OF BULK AT MOST 1048576: true; the input reads as it did. -/
def fnExactSerialAllUptoRow : OpenClaim := { program := "ytgdafcakefnpdaa", sum := "29cb5c77c412f67d3551e2dce8397d7a2a46dd01ab75250794ab6071d0a56702", func := "loop.example/thingstead/laws.FnExactSerialAll", spec := "fnExactSerialAll", unfollowed := true, recurses := true, apart := false, narrowed := true }
def FnExactSerialAllUptoSaid : Prop := fnExactSerialAllUptoRow.holds Try.pinned (OpenSpec.upto fnExactSerialAllSpec)

/-- 'laws.FnSerial', WHERE WHAT IT READS IS OF BULK AT MOST 1048576: true; the input reads as it did. -/
def fnSerialUptoRow : OpenClaim := { program := "ytgdafcakefnpdaa", sum := "29cb5c77c412f67d3551e2dce8397d7a2a46dd01ab75250794ab6071d0a56702", func := "loop.example/thingstead/laws.FnSerial", spec := "fnSerial", unfollowed := true, recurses := true, apart := false, narrowed := true }
def FnSerialUptoSaid : Prop := fnSerialUptoRow.holds Try.pinned (OpenSpec.upto fnSerialSpec)

end Rows
end Go.Proofs.Ytgdafcakefnpdaa
