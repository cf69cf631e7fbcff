/-
  No cell of these rows narrows 'for every input' (looked for: loops, veiled, ifaces, maps, wideKeys, modest, calm, conditions, laid).
  DERIVED. THE GIVEN ROWS OF THIS SEAT. 13 by the template 'for every input the law returns true; each argument reads behind the call as it read before'; 0 by the template 'total and deterministic' (their statements: YtkkmhlfpombgfaaTotals.lean).
  GIVEN WITH THE SEED: the statements are not yours to turn. If you find one false, say at which input.
  Laid BY PROGRAM, IN A SANDBOX (cutbox-rows.mjs): the forced cells as the released guide's own fill.sh prints them over the translation 233f07f532306c5d… (all of the seat's roots in one cut). By AI agents, Wed Nov 11 2026. No macro, syntax, notation, axiom, sorry.
-/
import Derived.Test.YtkkmhlfpombgfaaChecked
import GoSem.Claim
import GoSem.ClaimJoined
import GoSem.ClaimMapViews
import Derived.JoinedTies
import Derived.KernelRfl
namespace Go.Proofs.Ytkkmhlfpombgfaa
/- THE CELL 'sum', in the pinned program and in every row, IS THE sha256 OF THE DUMP (.gsa) THAT YtkkmhlfpombgfaaProg.lean LOADS. Nothing in Lean hashes anything: it is a label: what it is worth is what the hold of that sum in a sandbox is worth. -/
noncomputable def Try.pinned : Pinned := { name := "ytkkmhlfpombgfaa", sum := "233f07f532306c5d414cfa046a10bf644bdddc725092a2d5bf6f5256048197f4", checked := Try.checked }
namespace Rows
def none {H : Type} : Left H := { results := [], args := [] }

/-- 'laws.FnExecSame': WHATEVER THE INPUT: true; the input reads as it did. -/
def fnExecSameSpec : ChangeSpec := { name := "fnExecSame", fn := fun _ => fun
  | [d] => { results := [.lit (.bool true)], args := [d] }
  | _ => none }
def fnExecSameRow : OpenClaim := { program := "ytkkmhlfpombgfaa", sum := "233f07f532306c5d414cfa046a10bf644bdddc725092a2d5bf6f5256048197f4", func := "loop.example/thingstead/laws.FnExecSame", spec := "fnExecSame", apart := false }
def FnExecSameSaid : Prop := fnExecSameRow.holds Try.pinned (OpenSpec.ofChange fnExecSameSpec)

/-- ITS FALSE NEIGHBOUR: 'it returns false'. Refute it at one input. -/
def fnExecSameWrong : ChangeSpec := { name := "fnExecSame", fn := fun _ => fun
  | [d] => { results := [.lit (.bool false)], args := [d] }
  | _ => none }
def FnExecSameWrongFalsely : Prop := fnExecSameRow.holds Try.pinned (OpenSpec.ofChange fnExecSameWrong)

/-- 'laws.FnExactSerialAll': WHATEVER THE INPUT: true; the input reads as it did. -/
def fnExactSerialAllSpec : ChangeSpec := { name := "fnExactSerialAll", fn := fun _ => fun
  | [d1, d2] => { results := [.lit (.bool true)], args := [d1, d2] }
  | _ => none }
def fnExactSerialAllRow : OpenClaim := { program := "ytkkmhlfpombgfaa", sum := "233f07f532306c5d414cfa046a10bf644bdddc725092a2d5bf6f5256048197f4", func := "loop.example/thingstead/laws.FnExactSerialAll", spec := "fnExactSerialAll", unfollowed := true, recurses := true, apart := false }
def FnExactSerialAllSaid : Prop := fnExactSerialAllRow.holds Try.pinned (OpenSpec.ofChange fnExactSerialAllSpec)

/-- ITS FALSE NEIGHBOUR: 'it returns false'. Refute it at one input. -/
def fnExactSerialAllWrong : ChangeSpec := { name := "fnExactSerialAll", fn := fun _ => fun
  | [d1, d2] => { results := [.lit (.bool false)], args := [d1, d2] }
  | _ => none }
def FnExactSerialAllWrongFalsely : Prop := fnExactSerialAllRow.holds Try.pinned (OpenSpec.ofChange fnExactSerialAllWrong)

/-- 'laws.FnSerial': WHATEVER THE INPUT: true; the input reads as it did. -/
def fnSerialSpec : ChangeSpec := { name := "fnSerial", fn := fun _ => fun
  | [d1, d2] => { results := [.lit (.bool true)], args := [d1, d2] }
  | _ => none }
def fnSerialRow : OpenClaim := { program := "ytkkmhlfpombgfaa", sum := "233f07f532306c5d414cfa046a10bf644bdddc725092a2d5bf6f5256048197f4", func := "loop.example/thingstead/laws.FnSerial", spec := "fnSerial", unfollowed := true, recurses := true, apart := false }
def FnSerialSaid : Prop := fnSerialRow.holds Try.pinned (OpenSpec.ofChange fnSerialSpec)

/-- ITS FALSE NEIGHBOUR: 'it returns false'. Refute it at one input. -/
def fnSerialWrong : ChangeSpec := { name := "fnSerial", fn := fun _ => fun
  | [d1, d2] => { results := [.lit (.bool false)], args := [d1, d2] }
  | _ => none }
def FnSerialWrongFalsely : Prop := fnSerialRow.holds Try.pinned (OpenSpec.ofChange fnSerialWrong)

/-- 'laws.FnCertFold': WHATEVER THE INPUT: true; the input reads as it did. -/
def fnCertFoldSpec : ChangeSpec := { name := "fnCertFold", fn := fun _ => fun
  | [d1, d2] => { results := [.lit (.bool true)], args := [d1, d2] }
  | _ => none }
def fnCertFoldRow : OpenClaim := { program := "ytkkmhlfpombgfaa", sum := "233f07f532306c5d414cfa046a10bf644bdddc725092a2d5bf6f5256048197f4", func := "loop.example/thingstead/laws.FnCertFold", spec := "fnCertFold", apart := false }
def FnCertFoldSaid : Prop := fnCertFoldRow.holds Try.pinned (OpenSpec.ofChange fnCertFoldSpec)

/-- ITS FALSE NEIGHBOUR: 'it returns false'. Refute it at one input. -/
def fnCertFoldWrong : ChangeSpec := { name := "fnCertFold", fn := fun _ => fun
  | [d1, d2] => { results := [.lit (.bool false)], args := [d1, d2] }
  | _ => none }
def FnCertFoldWrongFalsely : Prop := fnCertFoldRow.holds Try.pinned (OpenSpec.ofChange fnCertFoldWrong)

/-- 'laws.FnCertLater': WHATEVER THE INPUT: true; the input reads as it did. -/
def fnCertLaterSpec : ChangeSpec := { name := "fnCertLater", fn := fun _ => fun
  | [d1, d2] => { results := [.lit (.bool true)], args := [d1, d2] }
  | _ => none }
def fnCertLaterRow : OpenClaim := { program := "ytkkmhlfpombgfaa", sum := "233f07f532306c5d414cfa046a10bf644bdddc725092a2d5bf6f5256048197f4", func := "loop.example/thingstead/laws.FnCertLater", spec := "fnCertLater", apart := false }
def FnCertLaterSaid : Prop := fnCertLaterRow.holds Try.pinned (OpenSpec.ofChange fnCertLaterSpec)

/-- ITS FALSE NEIGHBOUR: 'it returns false'. Refute it at one input. -/
def fnCertLaterWrong : ChangeSpec := { name := "fnCertLater", fn := fun _ => fun
  | [d1, d2] => { results := [.lit (.bool false)], args := [d1, d2] }
  | _ => none }
def FnCertLaterWrongFalsely : Prop := fnCertLaterRow.holds Try.pinned (OpenSpec.ofChange fnCertLaterWrong)

/-- 'laws.FnCertApply': WHATEVER THE INPUT: true; the input reads as it did. -/
def fnCertApplySpec : ChangeSpec := { name := "fnCertApply", fn := fun _ => fun
  | [d] => { results := [.lit (.bool true)], args := [d] }
  | _ => none }
def fnCertApplyRow : OpenClaim := { program := "ytkkmhlfpombgfaa", sum := "233f07f532306c5d414cfa046a10bf644bdddc725092a2d5bf6f5256048197f4", func := "loop.example/thingstead/laws.FnCertApply", spec := "fnCertApply", apart := false }
def FnCertApplySaid : Prop := fnCertApplyRow.holds Try.pinned (OpenSpec.ofChange fnCertApplySpec)

/-- ITS FALSE NEIGHBOUR: 'it returns false'. Refute it at one input. -/
def fnCertApplyWrong : ChangeSpec := { name := "fnCertApply", fn := fun _ => fun
  | [d] => { results := [.lit (.bool false)], args := [d] }
  | _ => none }
def FnCertApplyWrongFalsely : Prop := fnCertApplyRow.holds Try.pinned (OpenSpec.ofChange fnCertApplyWrong)

/-- 'laws.FnCertFull': WHATEVER THE INPUT: true; the input reads as it did. -/
def fnCertFullSpec : ChangeSpec := { name := "fnCertFull", fn := fun _ => fun
  | [d] => { results := [.lit (.bool true)], args := [d] }
  | _ => none }
def fnCertFullRow : OpenClaim := { program := "ytkkmhlfpombgfaa", sum := "233f07f532306c5d414cfa046a10bf644bdddc725092a2d5bf6f5256048197f4", func := "loop.example/thingstead/laws.FnCertFull", spec := "fnCertFull", apart := false }
def FnCertFullSaid : Prop := fnCertFullRow.holds Try.pinned (OpenSpec.ofChange fnCertFullSpec)

/-- ITS FALSE NEIGHBOUR: 'it returns false'. Refute it at one input. -/
def fnCertFullWrong : ChangeSpec := { name := "fnCertFull", fn := fun _ => fun
  | [d] => { results := [.lit (.bool false)], args := [d] }
  | _ => none }
def FnCertFullWrongFalsely : Prop := fnCertFullRow.holds Try.pinned (OpenSpec.ofChange fnCertFullWrong)

/-- 'laws.FnCertLike': WHATEVER THE INPUT: true; the input reads as it did. -/
def fnCertLikeSpec : ChangeSpec := { name := "fnCertLike", fn := fun _ => fun
  | [d] => { results := [.lit (.bool true)], args := [d] }
  | _ => none }
def fnCertLikeRow : OpenClaim := { program := "ytkkmhlfpombgfaa", sum := "233f07f532306c5d414cfa046a10bf644bdddc725092a2d5bf6f5256048197f4", func := "loop.example/thingstead/laws.FnCertLike", spec := "fnCertLike", apart := false }
def FnCertLikeSaid : Prop := fnCertLikeRow.holds Try.pinned (OpenSpec.ofChange fnCertLikeSpec)

/-- ITS FALSE NEIGHBOUR: 'it returns false'. Refute it at one input. -/
def fnCertLikeWrong : ChangeSpec := { name := "fnCertLike", fn := fun _ => fun
  | [d] => { results := [.lit (.bool false)], args := [d] }
  | _ => none }
def FnCertLikeWrongFalsely : Prop := fnCertLikeRow.holds Try.pinned (OpenSpec.ofChange fnCertLikeWrong)

/-- 'laws.FnCertBlind': WHATEVER THE INPUT: true; the input reads as it did. -/
def fnCertBlindSpec : ChangeSpec := { name := "fnCertBlind", fn := fun _ => fun
  | [d1, d2] => { results := [.lit (.bool true)], args := [d1, d2] }
  | _ => none }
def fnCertBlindRow : OpenClaim := { program := "ytkkmhlfpombgfaa", sum := "233f07f532306c5d414cfa046a10bf644bdddc725092a2d5bf6f5256048197f4", func := "loop.example/thingstead/laws.FnCertBlind", spec := "fnCertBlind", unfollowed := true, recurses := true, apart := false }
def FnCertBlindSaid : Prop := fnCertBlindRow.holds Try.pinned (OpenSpec.ofChange fnCertBlindSpec)

/-- ITS FALSE NEIGHBOUR: 'it returns false'. Refute it at one input. -/
def fnCertBlindWrong : ChangeSpec := { name := "fnCertBlind", fn := fun _ => fun
  | [d1, d2] => { results := [.lit (.bool false)], args := [d1, d2] }
  | _ => none }
def FnCertBlindWrongFalsely : Prop := fnCertBlindRow.holds Try.pinned (OpenSpec.ofChange fnCertBlindWrong)

/-- 'laws.FnCertPair': WHATEVER THE INPUT: true; the input reads as it did. -/
def fnCertPairSpec : ChangeSpec := { name := "fnCertPair", fn := fun _ => fun
  | [d1, d2] => { results := [.lit (.bool true)], args := [d1, d2] }
  | _ => none }
def fnCertPairRow : OpenClaim := { program := "ytkkmhlfpombgfaa", sum := "233f07f532306c5d414cfa046a10bf644bdddc725092a2d5bf6f5256048197f4", func := "loop.example/thingstead/laws.FnCertPair", spec := "fnCertPair", unfollowed := true, recurses := true, apart := false }
def FnCertPairSaid : Prop := fnCertPairRow.holds Try.pinned (OpenSpec.ofChange fnCertPairSpec)

/-- ITS FALSE NEIGHBOUR: 'it returns false'. Refute it at one input. -/
def fnCertPairWrong : ChangeSpec := { name := "fnCertPair", fn := fun _ => fun
  | [d1, d2] => { results := [.lit (.bool false)], args := [d1, d2] }
  | _ => none }
def FnCertPairWrongFalsely : Prop := fnCertPairRow.holds Try.pinned (OpenSpec.ofChange fnCertPairWrong)

/-- 'laws.FnCert': WHATEVER THE INPUT: true; the input reads as it did. -/
def fnCertSpec : ChangeSpec := { name := "fnCert", fn := fun _ => fun
  | [d1, d2] => { results := [.lit (.bool true)], args := [d1, d2] }
  | _ => none }
def fnCertRow : OpenClaim := { program := "ytkkmhlfpombgfaa", sum := "233f07f532306c5d414cfa046a10bf644bdddc725092a2d5bf6f5256048197f4", func := "loop.example/thingstead/laws.FnCert", spec := "fnCert", unfollowed := true, recurses := true, apart := false }
def FnCertSaid : Prop := fnCertRow.holds Try.pinned (OpenSpec.ofChange fnCertSpec)

/-- ITS FALSE NEIGHBOUR: 'it returns false'. Refute it at one input. -/
def fnCertWrong : ChangeSpec := { name := "fnCert", fn := fun _ => fun
  | [d1, d2] => { results := [.lit (.bool false)], args := [d1, d2] }
  | _ => none }
def FnCertWrongFalsely : Prop := fnCertRow.holds Try.pinned (OpenSpec.ofChange fnCertWrong)

/-- 'laws.FnExactCertApply': WHATEVER THE INPUT: true; the input reads as it did. -/
def fnExactCertApplySpec : ChangeSpec := { name := "fnExactCertApply", fn := fun _ => fun
  | [d1, d2] => { results := [.lit (.bool true)], args := [d1, d2] }
  | _ => none }
def fnExactCertApplyRow : OpenClaim := { program := "ytkkmhlfpombgfaa", sum := "233f07f532306c5d414cfa046a10bf644bdddc725092a2d5bf6f5256048197f4", func := "loop.example/thingstead/laws.FnExactCertApply", spec := "fnExactCertApply", apart := false }
def FnExactCertApplySaid : Prop := fnExactCertApplyRow.holds Try.pinned (OpenSpec.ofChange fnExactCertApplySpec)

/-- ITS FALSE NEIGHBOUR: 'it returns false'. Refute it at one input. -/
def fnExactCertApplyWrong : ChangeSpec := { name := "fnExactCertApply", fn := fun _ => fun
  | [d1, d2] => { results := [.lit (.bool false)], args := [d1, d2] }
  | _ => none }
def FnExactCertApplyWrongFalsely : Prop := fnExactCertApplyRow.holds Try.pinned (OpenSpec.ofChange fnExactCertApplyWrong)

/-- 'laws.FnExactCertFold': WHATEVER THE INPUT: true; the input reads as it did. -/
def fnExactCertFoldSpec : ChangeSpec := { name := "fnExactCertFold", fn := fun _ => fun
  | [d] => { results := [.lit (.bool true)], args := [d] }
  | _ => none }
def fnExactCertFoldRow : OpenClaim := { program := "ytkkmhlfpombgfaa", sum := "233f07f532306c5d414cfa046a10bf644bdddc725092a2d5bf6f5256048197f4", func := "loop.example/thingstead/laws.FnExactCertFold", spec := "fnExactCertFold", apart := false }
def FnExactCertFoldSaid : Prop := fnExactCertFoldRow.holds Try.pinned (OpenSpec.ofChange fnExactCertFoldSpec)

/-- ITS FALSE NEIGHBOUR: 'it returns false'. Refute it at one input. -/
def fnExactCertFoldWrong : ChangeSpec := { name := "fnExactCertFold", fn := fun _ => fun
  | [d] => { results := [.lit (.bool false)], args := [d] }
  | _ => none }
def FnExactCertFoldWrongFalsely : Prop := fnExactCertFoldRow.holds Try.pinned (OpenSpec.ofChange fnExactCertFoldWrong)

/- THE SECOND FORM. 'bulk': how many values and letters a reading holds, each counted each time it is reached (what is shared counts as often as it is met; a slice's spare places count too). A statement '..UptoSaid' is the law's where the arguments, and the package variables that the reading takes, are together of bulk at most 1048576: NARROWER than '..Said'. Prove '..Said' where nothing that the law and all that it calls make is longer than what came in: it says more and counts as full. Else prove '..UptoSaid'. A law counts once. -/
mutual
def uptoBulk {H : Type} : DataW H → Nat
  | .lit (.string bytes) => bytes.length + 1
  | .lit _ => 1
  | .nil => 1
  | .ptr d => uptoBulk d + 1
  | .slice elems spare => uptoBulkAll elems + uptoBulkAll spare + 1
  | .agg parts => uptoBulkAll parts + 1
  | .iface _ d => uptoBulk d + 1
  | .map entries => uptoBulkEntries entries + 1
  | .held _ => 1
def uptoBulkAll {H : Type} : List (DataW H) → Nat
  | [] => 0
  | d :: r => uptoBulk d + uptoBulkAll r
def uptoBulkEntries {H : Type} : List (Lit × DataW H) → Nat
  | [] => 0
  | x :: r => uptoBulkEntry x + uptoBulkEntries r
def uptoBulkEntry {H : Type} : Lit × DataW H → Nat
  | (.string bytes, d) => bytes.length + uptoBulk d + 1
  | (_, d) => uptoBulk d + 1
 end
def uptoSmall : (H : Type) → List (DataW H) → Bool := fun _ ds => decide (uptoBulkAll ds ≤ 1048576)
def OpenSpec.upto (s : _root_.Go.ChangeSpec) : _root_.Go.OpenSpec := { _root_.Go.OpenSpec.ofChange s with cond := some uptoSmall }

/-- 'laws.FnExecSame', WHERE WHAT IT READS IS OF BULK AT MOST 1048576: true; the input reads as it did. -/
def fnExecSameUptoRow : OpenClaim := { program := "ytkkmhlfpombgfaa", sum := "233f07f532306c5d414cfa046a10bf644bdddc725092a2d5bf6f5256048197f4", func := "loop.example/thingstead/laws.FnExecSame", spec := "fnExecSame", apart := false, narrowed := true }
def FnExecSameUptoSaid : Prop := fnExecSameUptoRow.holds Try.pinned (OpenSpec.upto fnExecSameSpec)

/-- 'laws.FnExactSerialAll', WHERE WHAT IT READS IS OF BULK AT MOST 1048576: true; the input reads as it did. -/
def fnExactSerialAllUptoRow : OpenClaim := { program := "ytkkmhlfpombgfaa", sum := "233f07f532306c5d414cfa046a10bf644bdddc725092a2d5bf6f5256048197f4", func := "loop.example/thingstead/laws.FnExactSerialAll", spec := "fnExactSerialAll", unfollowed := true, recurses := true, apart := false, narrowed := true }
def FnExactSerialAllUptoSaid : Prop := fnExactSerialAllUptoRow.holds Try.pinned (OpenSpec.upto fnExactSerialAllSpec)

/-- 'laws.FnSerial', WHERE WHAT IT READS IS OF BULK AT MOST 1048576: true; the input reads as it did. -/
def fnSerialUptoRow : OpenClaim := { program := "ytkkmhlfpombgfaa", sum := "233f07f532306c5d414cfa046a10bf644bdddc725092a2d5bf6f5256048197f4", func := "loop.example/thingstead/laws.FnSerial", spec := "fnSerial", unfollowed := true, recurses := true, apart := false, narrowed := true }
def FnSerialUptoSaid : Prop := fnSerialUptoRow.holds Try.pinned (OpenSpec.upto fnSerialSpec)

/-- 'laws.FnCertFold', WHERE WHAT IT READS IS OF BULK AT MOST 1048576: true; the input reads as it did. -/
def fnCertFoldUptoRow : OpenClaim := { program := "ytkkmhlfpombgfaa", sum := "233f07f532306c5d414cfa046a10bf644bdddc725092a2d5bf6f5256048197f4", func := "loop.example/thingstead/laws.FnCertFold", spec := "fnCertFold", apart := false, narrowed := true }
def FnCertFoldUptoSaid : Prop := fnCertFoldUptoRow.holds Try.pinned (OpenSpec.upto fnCertFoldSpec)

/-- 'laws.FnCertLater', WHERE WHAT IT READS IS OF BULK AT MOST 1048576: true; the input reads as it did. -/
def fnCertLaterUptoRow : OpenClaim := { program := "ytkkmhlfpombgfaa", sum := "233f07f532306c5d414cfa046a10bf644bdddc725092a2d5bf6f5256048197f4", func := "loop.example/thingstead/laws.FnCertLater", spec := "fnCertLater", apart := false, narrowed := true }
def FnCertLaterUptoSaid : Prop := fnCertLaterUptoRow.holds Try.pinned (OpenSpec.upto fnCertLaterSpec)

/-- 'laws.FnCertApply', WHERE WHAT IT READS IS OF BULK AT MOST 1048576: true; the input reads as it did. -/
def fnCertApplyUptoRow : OpenClaim := { program := "ytkkmhlfpombgfaa", sum := "233f07f532306c5d414cfa046a10bf644bdddc725092a2d5bf6f5256048197f4", func := "loop.example/thingstead/laws.FnCertApply", spec := "fnCertApply", apart := false, narrowed := true }
def FnCertApplyUptoSaid : Prop := fnCertApplyUptoRow.holds Try.pinned (OpenSpec.upto fnCertApplySpec)

/-- 'laws.FnCertFull', WHERE WHAT IT READS IS OF BULK AT MOST 1048576: true; the input reads as it did. -/
def fnCertFullUptoRow : OpenClaim := { program := "ytkkmhlfpombgfaa", sum := "233f07f532306c5d414cfa046a10bf644bdddc725092a2d5bf6f5256048197f4", func := "loop.example/thingstead/laws.FnCertFull", spec := "fnCertFull", apart := false, narrowed := true }
def FnCertFullUptoSaid : Prop := fnCertFullUptoRow.holds Try.pinned (OpenSpec.upto fnCertFullSpec)

/-- 'laws.FnCertLike', WHERE WHAT IT READS IS OF BULK AT MOST 1048576: true; the input reads as it did. -/
def fnCertLikeUptoRow : OpenClaim := { program := "ytkkmhlfpombgfaa", sum := "233f07f532306c5d414cfa046a10bf644bdddc725092a2d5bf6f5256048197f4", func := "loop.example/thingstead/laws.FnCertLike", spec := "fnCertLike", apart := false, narrowed := true }
def FnCertLikeUptoSaid : Prop := fnCertLikeUptoRow.holds Try.pinned (OpenSpec.upto fnCertLikeSpec)

/-- 'laws.FnCertBlind', WHERE WHAT IT READS IS OF BULK AT MOST 1048576: true; the input reads as it did. -/
def fnCertBlindUptoRow : OpenClaim := { program := "ytkkmhlfpombgfaa", sum := "233f07f532306c5d414cfa046a10bf644bdddc725092a2d5bf6f5256048197f4", func := "loop.example/thingstead/laws.FnCertBlind", spec := "fnCertBlind", unfollowed := true, recurses := true, apart := false, narrowed := true }
def FnCertBlindUptoSaid : Prop := fnCertBlindUptoRow.holds Try.pinned (OpenSpec.upto fnCertBlindSpec)

/-- 'laws.FnCertPair', WHERE WHAT IT READS IS OF BULK AT MOST 1048576: true; the input reads as it did. -/
def fnCertPairUptoRow : OpenClaim := { program := "ytkkmhlfpombgfaa", sum := "233f07f532306c5d414cfa046a10bf644bdddc725092a2d5bf6f5256048197f4", func := "loop.example/thingstead/laws.FnCertPair", spec := "fnCertPair", unfollowed := true, recurses := true, apart := false, narrowed := true }
def FnCertPairUptoSaid : Prop := fnCertPairUptoRow.holds Try.pinned (OpenSpec.upto fnCertPairSpec)

/-- 'laws.FnCert', WHERE WHAT IT READS IS OF BULK AT MOST 1048576: true; the input reads as it did. -/
def fnCertUptoRow : OpenClaim := { program := "ytkkmhlfpombgfaa", sum := "233f07f532306c5d414cfa046a10bf644bdddc725092a2d5bf6f5256048197f4", func := "loop.example/thingstead/laws.FnCert", spec := "fnCert", unfollowed := true, recurses := true, apart := false, narrowed := true }
def FnCertUptoSaid : Prop := fnCertUptoRow.holds Try.pinned (OpenSpec.upto fnCertSpec)

/-- 'laws.FnExactCertApply', WHERE WHAT IT READS IS OF BULK AT MOST 1048576: true; the input reads as it did. -/
def fnExactCertApplyUptoRow : OpenClaim := { program := "ytkkmhlfpombgfaa", sum := "233f07f532306c5d414cfa046a10bf644bdddc725092a2d5bf6f5256048197f4", func := "loop.example/thingstead/laws.FnExactCertApply", spec := "fnExactCertApply", apart := false, narrowed := true }
def FnExactCertApplyUptoSaid : Prop := fnExactCertApplyUptoRow.holds Try.pinned (OpenSpec.upto fnExactCertApplySpec)

/-- 'laws.FnExactCertFold', WHERE WHAT IT READS IS OF BULK AT MOST 1048576: true; the input reads as it did. -/
def fnExactCertFoldUptoRow : OpenClaim := { program := "ytkkmhlfpombgfaa", sum := "233f07f532306c5d414cfa046a10bf644bdddc725092a2d5bf6f5256048197f4", func := "loop.example/thingstead/laws.FnExactCertFold", spec := "fnExactCertFold", apart := false, narrowed := true }
def FnExactCertFoldUptoSaid : Prop := fnExactCertFoldUptoRow.holds Try.pinned (OpenSpec.upto fnExactCertFoldSpec)

end Rows
end Go.Proofs.Ytkkmhlfpombgfaa
