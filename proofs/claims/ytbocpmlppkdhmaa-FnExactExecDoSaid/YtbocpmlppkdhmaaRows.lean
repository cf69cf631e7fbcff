/-
  No cell of these rows narrows 'for every input' (looked for: loops, veiled, ifaces, maps, wideKeys, modest, calm, conditions, laid).
  DERIVED. THE GIVEN ROWS OF THIS SEAT. 12 by the template 'for every input the law returns true; each argument reads behind the call as it read before'; 0 by the template 'total and deterministic' (their statements: YtbocpmlppkdhmaaTotals.lean).
  GIVEN WITH THE SEED: the statements are not yours to turn. If you find one false, say at which input.
  Laid BY PROGRAM, IN A SANDBOX (cutbox-rows.mjs): the forced cells as the released guide's own fill.sh prints them over the translation c3d5fd3d111b7c63… (all of the seat's roots in one cut). By AI agents, Wed Nov 11 2026. No macro, syntax, notation, axiom, sorry.
-/
import Derived.Test.YtbocpmlppkdhmaaChecked
import GoSem.Claim
import GoSem.ClaimJoined
import GoSem.ClaimMapViews
import Derived.JoinedTies
import Derived.KernelRfl
namespace Go.Proofs.Ytbocpmlppkdhmaa
/- THE CELL 'sum', in the pinned program and in every row, IS THE sha256 OF THE DUMP (.gsa) THAT YtbocpmlppkdhmaaProg.lean LOADS. Nothing in Lean hashes anything: it is a label: what it is worth is what the hold of that sum in a sandbox is worth. -/
noncomputable def Try.pinned : Pinned := { name := "ytbocpmlppkdhmaa", sum := "c3d5fd3d111b7c63122c6f3cb199cd65a8c52baab3b9aeb151d66313c59cfa29", checked := Try.checked }
namespace Rows
def none {H : Type} : Left H := { results := [], args := [] }

/-- 'laws.FnExactCertOpen': WHATEVER THE INPUT: true; the input reads as it did. -/
def fnExactCertOpenSpec : ChangeSpec := { name := "fnExactCertOpen", fn := fun _ => fun
  | [] => { results := [.lit (.bool true)], args := [] }
  | _ => none }
def fnExactCertOpenRow : OpenClaim := { program := "ytbocpmlppkdhmaa", sum := "c3d5fd3d111b7c63122c6f3cb199cd65a8c52baab3b9aeb151d66313c59cfa29", func := "loop.example/thingstead/laws.FnExactCertOpen", spec := "fnExactCertOpen", apart := false }
def FnExactCertOpenSaid : Prop := fnExactCertOpenRow.holds Try.pinned (OpenSpec.ofChange fnExactCertOpenSpec)

/-- ITS FALSE NEIGHBOUR: 'it returns false'. Refute it at one input. -/
def fnExactCertOpenWrong : ChangeSpec := { name := "fnExactCertOpen", fn := fun _ => fun
  | [] => { results := [.lit (.bool false)], args := [] }
  | _ => none }
def FnExactCertOpenWrongFalsely : Prop := fnExactCertOpenRow.holds Try.pinned (OpenSpec.ofChange fnExactCertOpenWrong)

/-- 'laws.FnExactCertSame': WHATEVER THE INPUT: true; the input reads as it did. -/
def fnExactCertSameSpec : ChangeSpec := { name := "fnExactCertSame", fn := fun _ => fun
  | [d1, d2] => { results := [.lit (.bool true)], args := [d1, d2] }
  | _ => none }
def fnExactCertSameRow : OpenClaim := { program := "ytbocpmlppkdhmaa", sum := "c3d5fd3d111b7c63122c6f3cb199cd65a8c52baab3b9aeb151d66313c59cfa29", func := "loop.example/thingstead/laws.FnExactCertSame", spec := "fnExactCertSame", apart := false }
def FnExactCertSameSaid : Prop := fnExactCertSameRow.holds Try.pinned (OpenSpec.ofChange fnExactCertSameSpec)

/-- ITS FALSE NEIGHBOUR: 'it returns false'. Refute it at one input. -/
def fnExactCertSameWrong : ChangeSpec := { name := "fnExactCertSame", fn := fun _ => fun
  | [d1, d2] => { results := [.lit (.bool false)], args := [d1, d2] }
  | _ => none }
def FnExactCertSameWrongFalsely : Prop := fnExactCertSameRow.holds Try.pinned (OpenSpec.ofChange fnExactCertSameWrong)

/-- 'laws.FnProgPart': WHATEVER THE INPUT: true; the input reads as it did. -/
def fnProgPartSpec : ChangeSpec := { name := "fnProgPart", fn := fun _ => fun
  | [d1, d2] => { results := [.lit (.bool true)], args := [d1, d2] }
  | _ => none }
def fnProgPartRow : OpenClaim := { program := "ytbocpmlppkdhmaa", sum := "c3d5fd3d111b7c63122c6f3cb199cd65a8c52baab3b9aeb151d66313c59cfa29", func := "loop.example/thingstead/laws.FnProgPart", spec := "fnProgPart", unfollowed := true, recurses := true, apart := false }
def FnProgPartSaid : Prop := fnProgPartRow.holds Try.pinned (OpenSpec.ofChange fnProgPartSpec)

/-- ITS FALSE NEIGHBOUR: 'it returns false'. Refute it at one input. -/
def fnProgPartWrong : ChangeSpec := { name := "fnProgPart", fn := fun _ => fun
  | [d1, d2] => { results := [.lit (.bool false)], args := [d1, d2] }
  | _ => none }
def FnProgPartWrongFalsely : Prop := fnProgPartRow.holds Try.pinned (OpenSpec.ofChange fnProgPartWrong)

/-- 'laws.FnExactExecOk': WHATEVER THE INPUT: true; the input reads as it did. -/
def fnExactExecOkSpec : ChangeSpec := { name := "fnExactExecOk", fn := fun _ => fun
  | [d] => { results := [.lit (.bool true)], args := [d] }
  | _ => none }
def fnExactExecOkRow : OpenClaim := { program := "ytbocpmlppkdhmaa", sum := "c3d5fd3d111b7c63122c6f3cb199cd65a8c52baab3b9aeb151d66313c59cfa29", func := "loop.example/thingstead/laws.FnExactExecOk", spec := "fnExactExecOk", apart := false }
def FnExactExecOkSaid : Prop := fnExactExecOkRow.holds Try.pinned (OpenSpec.ofChange fnExactExecOkSpec)

/-- ITS FALSE NEIGHBOUR: 'it returns false'. Refute it at one input. -/
def fnExactExecOkWrong : ChangeSpec := { name := "fnExactExecOk", fn := fun _ => fun
  | [d] => { results := [.lit (.bool false)], args := [d] }
  | _ => none }
def FnExactExecOkWrongFalsely : Prop := fnExactExecOkRow.holds Try.pinned (OpenSpec.ofChange fnExactExecOkWrong)

/-- 'laws.FnExactCertOk': WHATEVER THE INPUT: true; the input reads as it did. -/
def fnExactCertOkSpec : ChangeSpec := { name := "fnExactCertOk", fn := fun _ => fun
  | [d] => { results := [.lit (.bool true)], args := [d] }
  | _ => none }
def fnExactCertOkRow : OpenClaim := { program := "ytbocpmlppkdhmaa", sum := "c3d5fd3d111b7c63122c6f3cb199cd65a8c52baab3b9aeb151d66313c59cfa29", func := "loop.example/thingstead/laws.FnExactCertOk", spec := "fnExactCertOk", apart := false }
def FnExactCertOkSaid : Prop := fnExactCertOkRow.holds Try.pinned (OpenSpec.ofChange fnExactCertOkSpec)

/-- ITS FALSE NEIGHBOUR: 'it returns false'. Refute it at one input. -/
def fnExactCertOkWrong : ChangeSpec := { name := "fnExactCertOk", fn := fun _ => fun
  | [d] => { results := [.lit (.bool false)], args := [d] }
  | _ => none }
def FnExactCertOkWrongFalsely : Prop := fnExactCertOkRow.holds Try.pinned (OpenSpec.ofChange fnExactCertOkWrong)

/-- 'laws.FnExactCertLike': WHATEVER THE INPUT: true; the input reads as it did. -/
def fnExactCertLikeSpec : ChangeSpec := { name := "fnExactCertLike", fn := fun _ => fun
  | [d1, d2] => { results := [.lit (.bool true)], args := [d1, d2] }
  | _ => none }
def fnExactCertLikeRow : OpenClaim := { program := "ytbocpmlppkdhmaa", sum := "c3d5fd3d111b7c63122c6f3cb199cd65a8c52baab3b9aeb151d66313c59cfa29", func := "loop.example/thingstead/laws.FnExactCertLike", spec := "fnExactCertLike", apart := false }
def FnExactCertLikeSaid : Prop := fnExactCertLikeRow.holds Try.pinned (OpenSpec.ofChange fnExactCertLikeSpec)

/-- ITS FALSE NEIGHBOUR: 'it returns false'. Refute it at one input. -/
def fnExactCertLikeWrong : ChangeSpec := { name := "fnExactCertLike", fn := fun _ => fun
  | [d1, d2] => { results := [.lit (.bool false)], args := [d1, d2] }
  | _ => none }
def FnExactCertLikeWrongFalsely : Prop := fnExactCertLikeRow.holds Try.pinned (OpenSpec.ofChange fnExactCertLikeWrong)

/-- 'laws.FnExactSerialFree': WHATEVER THE INPUT: true; the input reads as it did. -/
def fnExactSerialFreeSpec : ChangeSpec := { name := "fnExactSerialFree", fn := fun _ => fun
  | [d1, d2] => { results := [.lit (.bool true)], args := [d1, d2] }
  | _ => none }
def fnExactSerialFreeRow : OpenClaim := { program := "ytbocpmlppkdhmaa", sum := "c3d5fd3d111b7c63122c6f3cb199cd65a8c52baab3b9aeb151d66313c59cfa29", func := "loop.example/thingstead/laws.FnExactSerialFree", spec := "fnExactSerialFree", unfollowed := true, recurses := true, apart := false }
def FnExactSerialFreeSaid : Prop := fnExactSerialFreeRow.holds Try.pinned (OpenSpec.ofChange fnExactSerialFreeSpec)

/-- ITS FALSE NEIGHBOUR: 'it returns false'. Refute it at one input. -/
def fnExactSerialFreeWrong : ChangeSpec := { name := "fnExactSerialFree", fn := fun _ => fun
  | [d1, d2] => { results := [.lit (.bool false)], args := [d1, d2] }
  | _ => none }
def FnExactSerialFreeWrongFalsely : Prop := fnExactSerialFreeRow.holds Try.pinned (OpenSpec.ofChange fnExactSerialFreeWrong)

/-- 'laws.FnSerialFree': WHATEVER THE INPUT: true; the input reads as it did. -/
def fnSerialFreeSpec : ChangeSpec := { name := "fnSerialFree", fn := fun _ => fun
  | [d] => { results := [.lit (.bool true)], args := [d] }
  | _ => none }
def fnSerialFreeRow : OpenClaim := { program := "ytbocpmlppkdhmaa", sum := "c3d5fd3d111b7c63122c6f3cb199cd65a8c52baab3b9aeb151d66313c59cfa29", func := "loop.example/thingstead/laws.FnSerialFree", spec := "fnSerialFree", unfollowed := true, recurses := true, apart := false }
def FnSerialFreeSaid : Prop := fnSerialFreeRow.holds Try.pinned (OpenSpec.ofChange fnSerialFreeSpec)

/-- ITS FALSE NEIGHBOUR: 'it returns false'. Refute it at one input. -/
def fnSerialFreeWrong : ChangeSpec := { name := "fnSerialFree", fn := fun _ => fun
  | [d] => { results := [.lit (.bool false)], args := [d] }
  | _ => none }
def FnSerialFreeWrongFalsely : Prop := fnSerialFreeRow.holds Try.pinned (OpenSpec.ofChange fnSerialFreeWrong)

/-- 'laws.FnExactExecFresh': WHATEVER THE INPUT: true; the input reads as it did. -/
def fnExactExecFreshSpec : ChangeSpec := { name := "fnExactExecFresh", fn := fun _ => fun
  | [d1, d2] => { results := [.lit (.bool true)], args := [d1, d2] }
  | _ => none }
def fnExactExecFreshRow : OpenClaim := { program := "ytbocpmlppkdhmaa", sum := "c3d5fd3d111b7c63122c6f3cb199cd65a8c52baab3b9aeb151d66313c59cfa29", func := "loop.example/thingstead/laws.FnExactExecFresh", spec := "fnExactExecFresh", apart := false }
def FnExactExecFreshSaid : Prop := fnExactExecFreshRow.holds Try.pinned (OpenSpec.ofChange fnExactExecFreshSpec)

/-- ITS FALSE NEIGHBOUR: 'it returns false'. Refute it at one input. -/
def fnExactExecFreshWrong : ChangeSpec := { name := "fnExactExecFresh", fn := fun _ => fun
  | [d1, d2] => { results := [.lit (.bool false)], args := [d1, d2] }
  | _ => none }
def FnExactExecFreshWrongFalsely : Prop := fnExactExecFreshRow.holds Try.pinned (OpenSpec.ofChange fnExactExecFreshWrong)

/-- 'laws.FnExactCertEntry': WHATEVER THE INPUT: true; the input reads as it did. -/
def fnExactCertEntrySpec : ChangeSpec := { name := "fnExactCertEntry", fn := fun _ => fun
  | [d] => { results := [.lit (.bool true)], args := [d] }
  | _ => none }
def fnExactCertEntryRow : OpenClaim := { program := "ytbocpmlppkdhmaa", sum := "c3d5fd3d111b7c63122c6f3cb199cd65a8c52baab3b9aeb151d66313c59cfa29", func := "loop.example/thingstead/laws.FnExactCertEntry", spec := "fnExactCertEntry", apart := false }
def FnExactCertEntrySaid : Prop := fnExactCertEntryRow.holds Try.pinned (OpenSpec.ofChange fnExactCertEntrySpec)

/-- ITS FALSE NEIGHBOUR: 'it returns false'. Refute it at one input. -/
def fnExactCertEntryWrong : ChangeSpec := { name := "fnExactCertEntry", fn := fun _ => fun
  | [d] => { results := [.lit (.bool false)], args := [d] }
  | _ => none }
def FnExactCertEntryWrongFalsely : Prop := fnExactCertEntryRow.holds Try.pinned (OpenSpec.ofChange fnExactCertEntryWrong)

/-- 'laws.FnExactExecDo': WHATEVER THE INPUT: true; the input reads as it did. -/
def fnExactExecDoSpec : ChangeSpec := { name := "fnExactExecDo", fn := fun _ => fun
  | [d1, d2] => { results := [.lit (.bool true)], args := [d1, d2] }
  | _ => none }
def fnExactExecDoRow : OpenClaim := { program := "ytbocpmlppkdhmaa", sum := "c3d5fd3d111b7c63122c6f3cb199cd65a8c52baab3b9aeb151d66313c59cfa29", func := "loop.example/thingstead/laws.FnExactExecDo", spec := "fnExactExecDo", apart := false }
def FnExactExecDoSaid : Prop := fnExactExecDoRow.holds Try.pinned (OpenSpec.ofChange fnExactExecDoSpec)

/-- ITS FALSE NEIGHBOUR: 'it returns false'. Refute it at one input. -/
def fnExactExecDoWrong : ChangeSpec := { name := "fnExactExecDo", fn := fun _ => fun
  | [d1, d2] => { results := [.lit (.bool false)], args := [d1, d2] }
  | _ => none }
def FnExactExecDoWrongFalsely : Prop := fnExactExecDoRow.holds Try.pinned (OpenSpec.ofChange fnExactExecDoWrong)

/-- 'laws.FnExecSame': WHATEVER THE INPUT: true; the input reads as it did. -/
def fnExecSameSpec : ChangeSpec := { name := "fnExecSame", fn := fun _ => fun
  | [d] => { results := [.lit (.bool true)], args := [d] }
  | _ => none }
def fnExecSameRow : OpenClaim := { program := "ytbocpmlppkdhmaa", sum := "c3d5fd3d111b7c63122c6f3cb199cd65a8c52baab3b9aeb151d66313c59cfa29", func := "loop.example/thingstead/laws.FnExecSame", spec := "fnExecSame", apart := false }
def FnExecSameSaid : Prop := fnExecSameRow.holds Try.pinned (OpenSpec.ofChange fnExecSameSpec)

/-- ITS FALSE NEIGHBOUR: 'it returns false'. Refute it at one input. -/
def fnExecSameWrong : ChangeSpec := { name := "fnExecSame", fn := fun _ => fun
  | [d] => { results := [.lit (.bool false)], args := [d] }
  | _ => none }
def FnExecSameWrongFalsely : Prop := fnExecSameRow.holds Try.pinned (OpenSpec.ofChange fnExecSameWrong)

/- THE SECOND FORM. 'bulk': how many values and letters a reading holds, each counted each time it is reached (what is shared counts as often as it is met; a slice's spare places count too). A statement '..UptoSaid' is the law's where the arguments, and the package variables that the reading takes, are together of bulk at most 1048576: NARROWER than '..Said'. Prove '..Said' where nothing that the law and all that it calls make is longer than what came in: it says more and counts as full. Else prove '..UptoSaid'. A law counts once. -/
mutual
def uptoBulk {H : Type} : DataW H → Nat
  | .lit (.string bytes) => bytes.length + 1
  | .lit _ => 1
  | .nil => 1
  | .ptr d => uptoBulk d + 1
  | .slice elems spare => uptoBulkAll elems + uptoBulkAll spare + 1
  | .agg parts => uptoBulkAll parts + 1
  | .iface _ d => uptoBulk d + 1
  | .map entries => uptoBulkEntries entries + 1
  | .held _ => 1
def uptoBulkAll {H : Type} : List (DataW H) → Nat
  | [] => 0
  | d :: r => uptoBulk d + uptoBulkAll r
def uptoBulkEntries {H : Type} : List (Lit × DataW H) → Nat
  | [] => 0
  | x :: r => uptoBulkEntry x + uptoBulkEntries r
def uptoBulkEntry {H : Type} : Lit × DataW H → Nat
  | (.string bytes, d) => bytes.length + uptoBulk d + 1
  | (_, d) => uptoBulk d + 1
 end
def uptoSmall : (H : Type) → List (DataW H) → Bool := fun _ ds => decide (uptoBulkAll ds ≤ 1048576)
def OpenSpec.upto (s : _root_.Go.ChangeSpec) : _root_.Go.OpenSpec := { _root_.Go.OpenSpec.ofChange s with cond := some uptoSmall }

/-- 'laws.FnExactCertOpen', WHERE WHAT IT READS IS OF BULK AT MOST 1048576: true; the input reads as it did. -/
def fnExactCertOpenUptoRow : OpenClaim := { program := "ytbocpmlppkdhmaa", sum := "c3d5fd3d111b7c63122c6f3cb199cd65a8c52baab3b9aeb151d66313c59cfa29", func := "loop.example/thingstead/laws.FnExactCertOpen", spec := "fnExactCertOpen", apart := false, narrowed := true }
def FnExactCertOpenUptoSaid : Prop := fnExactCertOpenUptoRow.holds Try.pinned (OpenSpec.upto fnExactCertOpenSpec)

/-- 'laws.FnExactCertSame', WHERE WHAT IT READS IS OF BULK AT MOST 1048576: true; the input reads as it did. -/
def fnExactCertSameUptoRow : OpenClaim := { program := "ytbocpmlppkdhmaa", sum := "c3d5fd3d111b7c63122c6f3cb199cd65a8c52baab3b9aeb151d66313c59cfa29", func := "loop.example/thingstead/laws.FnExactCertSame", spec := "fnExactCertSame", apart := false, narrowed := true }
def FnExactCertSameUptoSaid : Prop := fnExactCertSameUptoRow.holds Try.pinned (OpenSpec.upto fnExactCertSameSpec)

/-- 'laws.FnProgPart', WHERE WHAT IT READS IS OF BULK AT MOST 1048576: true; the input reads as it did. -/
def fnProgPartUptoRow : OpenClaim := { program := "ytbocpmlppkdhmaa", sum := "c3d5fd3d111b7c63122c6f3cb199cd65a8c52baab3b9aeb151d66313c59cfa29", func := "loop.example/thingstead/laws.FnProgPart", spec := "fnProgPart", unfollowed := true, recurses := true, apart := false, narrowed := true }
def FnProgPartUptoSaid : Prop := fnProgPartUptoRow.holds Try.pinned (OpenSpec.upto fnProgPartSpec)

/-- 'laws.FnExactExecOk', WHERE WHAT IT READS IS OF BULK AT MOST 1048576: true; the input reads as it did. -/
def fnExactExecOkUptoRow : OpenClaim := { program := "ytbocpmlppkdhmaa", sum := "c3d5fd3d111b7c63122c6f3cb199cd65a8c52baab3b9aeb151d66313c59cfa29", func := "loop.example/thingstead/laws.FnExactExecOk", spec := "fnExactExecOk", apart := false, narrowed := true }
def FnExactExecOkUptoSaid : Prop := fnExactExecOkUptoRow.holds Try.pinned (OpenSpec.upto fnExactExecOkSpec)

/-- 'laws.FnExactCertOk', WHERE WHAT IT READS IS OF BULK AT MOST 1048576: true; the input reads as it did. -/
def fnExactCertOkUptoRow : OpenClaim := { program := "ytbocpmlppkdhmaa", sum := "c3d5fd3d111b7c63122c6f3cb199cd65a8c52baab3b9aeb151d66313c59cfa29", func := "loop.example/thingstead/laws.FnExactCertOk", spec := "fnExactCertOk", apart := false, narrowed := true }
def FnExactCertOkUptoSaid : Prop := fnExactCertOkUptoRow.holds Try.pinned (OpenSpec.upto fnExactCertOkSpec)

/-- 'laws.FnExactCertLike', WHERE WHAT IT READS IS OF BULK AT MOST 1048576: true; the input reads as it did. -/
def fnExactCertLikeUptoRow : OpenClaim := { program := "ytbocpmlppkdhmaa", sum := "c3d5fd3d111b7c63122c6f3cb199cd65a8c52baab3b9aeb151d66313c59cfa29", func := "loop.example/thingstead/laws.FnExactCertLike", spec := "fnExactCertLike", apart := false, narrowed := true }
def FnExactCertLikeUptoSaid : Prop := fnExactCertLikeUptoRow.holds Try.pinned (OpenSpec.upto fnExactCertLikeSpec)

/-- 'laws.FnExactSerialFree', WHERE WHAT IT READS IS OF BULK AT MOST 1048576: true; the input reads as it did. -/
def fnExactSerialFreeUptoRow : OpenClaim := { program := "ytbocpmlppkdhmaa", sum := "c3d5fd3d111b7c63122c6f3cb199cd65a8c52baab3b9aeb151d66313c59cfa29", func := "loop.example/thingstead/laws.FnExactSerialFree", spec := "fnExactSerialFree", unfollowed := true, recurses := true, apart := false, narrowed := true }
def FnExactSerialFreeUptoSaid : Prop := fnExactSerialFreeUptoRow.holds Try.pinned (OpenSpec.upto fnExactSerialFreeSpec)

/-- 'laws.FnSerialFree', WHERE WHAT IT READS IS OF BULK AT MOST 1048576: true; the input reads as it did. -/
def fnSerialFreeUptoRow : OpenClaim := { program := "ytbocpmlppkdhmaa", sum := "c3d5fd3d111b7c63122c6f3cb199cd65a8c52baab3b9aeb151d66313c59cfa29", func := "loop.example/thingstead/laws.FnSerialFree", spec := "fnSerialFree", unfollowed := true, recurses := true, apart := false, narrowed := true }
def FnSerialFreeUptoSaid : Prop := fnSerialFreeUptoRow.holds Try.pinned (OpenSpec.upto fnSerialFreeSpec)

/-- 'laws.FnExactExecFresh', WHERE WHAT IT READS IS OF BULK AT MOST 1048576: true; the input reads as it did. -/
def fnExactExecFreshUptoRow : OpenClaim := { program := "ytbocpmlppkdhmaa", sum := "c3d5fd3d111b7c63122c6f3cb199cd65a8c52baab3b9aeb151d66313c59cfa29", func := "loop.example/thingstead/laws.FnExactExecFresh", spec := "fnExactExecFresh", apart := false, narrowed := true }
def FnExactExecFreshUptoSaid : Prop := fnExactExecFreshUptoRow.holds Try.pinned (OpenSpec.upto fnExactExecFreshSpec)

/-- 'laws.FnExactCertEntry', WHERE WHAT IT READS IS OF BULK AT MOST 1048576: true; the input reads as it did. -/
def fnExactCertEntryUptoRow : OpenClaim := { program := "ytbocpmlppkdhmaa", sum := "c3d5fd3d111b7c63122c6f3cb199cd65a8c52baab3b9aeb151d66313c59cfa29", func := "loop.example/thingstead/laws.FnExactCertEntry", spec := "fnExactCertEntry", apart := false, narrowed := true }
def FnExactCertEntryUptoSaid : Prop := fnExactCertEntryUptoRow.holds Try.pinned (OpenSpec.upto fnExactCertEntrySpec)

/-- 'laws.FnExactExecDo', WHERE WHAT IT READS IS OF BULK AT MOST 1048576: true; the input reads as it did. -/
def fnExactExecDoUptoRow : OpenClaim := { program := "ytbocpmlppkdhmaa", sum := "c3d5fd3d111b7c63122c6f3cb199cd65a8c52baab3b9aeb151d66313c59cfa29", func := "loop.example/thingstead/laws.FnExactExecDo", spec := "fnExactExecDo", apart := false, narrowed := true }
def FnExactExecDoUptoSaid : Prop := fnExactExecDoUptoRow.holds Try.pinned (OpenSpec.upto fnExactExecDoSpec)

/-- 'laws.FnExecSame', WHERE WHAT IT READS IS OF BULK AT MOST 1048576: true; the input reads as it did. -/
def fnExecSameUptoRow : OpenClaim := { program := "ytbocpmlppkdhmaa", sum := "c3d5fd3d111b7c63122c6f3cb199cd65a8c52baab3b9aeb151d66313c59cfa29", func := "loop.example/thingstead/laws.FnExecSame", spec := "fnExecSame", apart := false, narrowed := true }
def FnExecSameUptoSaid : Prop := fnExecSameUptoRow.holds Try.pinned (OpenSpec.upto fnExecSameSpec)

end Rows
end Go.Proofs.Ytbocpmlppkdhmaa
