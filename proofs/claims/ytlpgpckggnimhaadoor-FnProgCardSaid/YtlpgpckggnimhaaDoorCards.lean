/-
  DERIVED. GIVEN WITH THE SEED: THE CARDS: each row of YtlpgpckggnimhaaDoorRows.lean that lists a variable, with what it lists TIED to the program's text (the seventh form; the later family's looks); each row that meets fmt, with fmt's text TOLD by the authors' own Lean function (tested against real Go, not proved from fmt's source: count such statements apart). THE CARD IS WHAT COUNTS. Prove the row's statement (the work); the ties are given (YtlpgpckggnimhaaDoorTie.lean); close each card by the builder's one call (the guide's Derived/Test/ToyasCard.lean, 'card_holds'). Laid BY PROGRAM, IN A SANDBOX (cutbox-door.mjs). By AI agents, Wed Nov 11 2026. No macro, syntax, notation, axiom, sorry.
-/
import Derived.Test.YtlpgpckggnimhaaDoorRows
import GoSem.ClaimSeven
namespace Go.Proofs.YtlpgpckggnimhaaDoor
namespace Rows

/-- THE TIED CARD OF 'laws.FnExactProgRead'. -/
def fnExactProgReadCard : Claim7 := { stood := { row := fnExactProgReadRow, standIns := [], harness := (true, "66da82c8cf7cfc6377796aebfd2f0ad94072b42c4700368d289ab4118988a076"), looks := false }, kinds := [], alts := [], laidByText := true, laidKinds := [.data, .data, .data, .data, .pinned], laidTests := true, laidLooks := .later }
def FnExactProgReadCardSaid : Prop := Claim7.holds Tryd.pinned (.plain (OpenSpec.ofChange fnExactProgReadSpec)) fnExactProgReadCard

/-- THE TIED CARD OF 'laws.FnBox'. -/
def fnBoxCard : Claim7 := { stood := { row := fnBoxRow, standIns := [], harness := (true, "66da82c8cf7cfc6377796aebfd2f0ad94072b42c4700368d289ab4118988a076"), looks := false }, kinds := [], alts := [], laidByText := true, laidKinds := [.data, .data, .data, .data, .pinned], laidTests := true, laidLooks := .later }
def FnBoxCardSaid : Prop := Claim7.holds Tryd.pinned (.plain (OpenSpec.ofChange fnBoxSpec)) fnBoxCard

/-- THE TIED CARD OF 'laws.FnProg'. -/
def fnProgCard : Claim7 := { stood := { row := fnProgRow, standIns := [], harness := (true, "66da82c8cf7cfc6377796aebfd2f0ad94072b42c4700368d289ab4118988a076"), looks := false }, kinds := [], alts := [], laidByText := true, laidKinds := [.data, .data, .data, .data, .pinned], laidTests := true, laidLooks := .later }
def FnProgCardSaid : Prop := Claim7.holds Tryd.pinned (.plain (OpenSpec.ofChange fnProgSpec)) fnProgCard

/-- THE TIED CARD OF 'laws.FnExactBoxText'. -/
def fnExactBoxTextCard : Claim7 := { stood := { row := fnExactBoxTextRow, standIns := [], harness := (true, "66da82c8cf7cfc6377796aebfd2f0ad94072b42c4700368d289ab4118988a076"), looks := false }, kinds := [], alts := [], laidByText := true, laidKinds := [.data, .data, .data], laidTests := true, laidLooks := .later }
def FnExactBoxTextCardSaid : Prop := Claim7.holds Tryd.pinned (.plain (OpenSpec.ofChange fnExactBoxTextSpec)) fnExactBoxTextCard

/-- THE TIED CARD OF 'laws.FnBoxSame'. -/
def fnBoxSameCard : Claim7 := { stood := { row := fnBoxSameRow, standIns := [], harness := (true, "66da82c8cf7cfc6377796aebfd2f0ad94072b42c4700368d289ab4118988a076"), looks := false }, kinds := [], alts := [], laidByText := true, laidKinds := [.data, .data, .data], laidTests := true, laidLooks := .later }
def FnBoxSameCardSaid : Prop := Claim7.holds Tryd.pinned (.plain (OpenSpec.ofChange fnBoxSameSpec)) fnBoxSameCard

/-- THE TIED CARD OF 'laws.FnExactProgText'. -/
def fnExactProgTextCard : Claim7 := { stood := { row := fnExactProgTextRow, standIns := [], harness := (true, "66da82c8cf7cfc6377796aebfd2f0ad94072b42c4700368d289ab4118988a076"), looks := false }, kinds := [], alts := [], laidByText := true, laidKinds := [.data, .data, .data], laidTests := true, laidLooks := .later }
def FnExactProgTextCardSaid : Prop := Claim7.holds Tryd.pinned (.plain (OpenSpec.ofChange fnExactProgTextSpec)) fnExactProgTextCard

/-- THE TIED CARD OF 'laws.FnProgSame'. -/
def fnProgSameCard : Claim7 := { stood := { row := fnProgSameRow, standIns := [], harness := (true, "66da82c8cf7cfc6377796aebfd2f0ad94072b42c4700368d289ab4118988a076"), looks := false }, kinds := [], alts := [], laidByText := true, laidKinds := [.data, .data, .data], laidTests := true, laidLooks := .later }
def FnProgSameCardSaid : Prop := Claim7.holds Tryd.pinned (.plain (OpenSpec.ofChange fnProgSameSpec)) fnProgSameCard

/-- THE TIED CARD OF 'laws.FnExactBoxRead'. -/
def fnExactBoxReadCard : Claim7 := { stood := { row := fnExactBoxReadRow, standIns := [], harness := (true, "66da82c8cf7cfc6377796aebfd2f0ad94072b42c4700368d289ab4118988a076"), looks := false }, kinds := [], alts := [], laidByText := true, laidKinds := [.data, .data, .data, .data, .pinned], laidTests := true, laidLooks := .later }
def FnExactBoxReadCardSaid : Prop := Claim7.holds Tryd.pinned (.plain (OpenSpec.ofChange fnExactBoxReadSpec)) fnExactBoxReadCard

/-- THE SECOND FORM's CARD OF 'laws.FnExactProgRead'. -/
def fnExactProgReadUptoCard : Claim7 := { stood := { row := fnExactProgReadUptoRow, standIns := [], harness := (true, "66da82c8cf7cfc6377796aebfd2f0ad94072b42c4700368d289ab4118988a076"), looks := false }, kinds := [], alts := [], laidByText := true, laidKinds := [.data, .data, .data, .data, .pinned], laidTests := true, laidLooks := .later }
def FnExactProgReadUptoCardSaid : Prop := Claim7.holds Tryd.pinned (.plain (OpenSpec.upto fnExactProgReadSpec)) fnExactProgReadUptoCard

/-- THE SECOND FORM's CARD OF 'laws.FnBox'. -/
def fnBoxUptoCard : Claim7 := { stood := { row := fnBoxUptoRow, standIns := [], harness := (true, "66da82c8cf7cfc6377796aebfd2f0ad94072b42c4700368d289ab4118988a076"), looks := false }, kinds := [], alts := [], laidByText := true, laidKinds := [.data, .data, .data, .data, .pinned], laidTests := true, laidLooks := .later }
def FnBoxUptoCardSaid : Prop := Claim7.holds Tryd.pinned (.plain (OpenSpec.upto fnBoxSpec)) fnBoxUptoCard

/-- THE SECOND FORM's CARD OF 'laws.FnProg'. -/
def fnProgUptoCard : Claim7 := { stood := { row := fnProgUptoRow, standIns := [], harness := (true, "66da82c8cf7cfc6377796aebfd2f0ad94072b42c4700368d289ab4118988a076"), looks := false }, kinds := [], alts := [], laidByText := true, laidKinds := [.data, .data, .data, .data, .pinned], laidTests := true, laidLooks := .later }
def FnProgUptoCardSaid : Prop := Claim7.holds Tryd.pinned (.plain (OpenSpec.upto fnProgSpec)) fnProgUptoCard

/-- THE SECOND FORM's CARD OF 'laws.FnExactBoxText'. -/
def fnExactBoxTextUptoCard : Claim7 := { stood := { row := fnExactBoxTextUptoRow, standIns := [], harness := (true, "66da82c8cf7cfc6377796aebfd2f0ad94072b42c4700368d289ab4118988a076"), looks := false }, kinds := [], alts := [], laidByText := true, laidKinds := [.data, .data, .data], laidTests := true, laidLooks := .later }
def FnExactBoxTextUptoCardSaid : Prop := Claim7.holds Tryd.pinned (.plain (OpenSpec.upto fnExactBoxTextSpec)) fnExactBoxTextUptoCard

/-- THE SECOND FORM's CARD OF 'laws.FnBoxSame'. -/
def fnBoxSameUptoCard : Claim7 := { stood := { row := fnBoxSameUptoRow, standIns := [], harness := (true, "66da82c8cf7cfc6377796aebfd2f0ad94072b42c4700368d289ab4118988a076"), looks := false }, kinds := [], alts := [], laidByText := true, laidKinds := [.data, .data, .data], laidTests := true, laidLooks := .later }
def FnBoxSameUptoCardSaid : Prop := Claim7.holds Tryd.pinned (.plain (OpenSpec.upto fnBoxSameSpec)) fnBoxSameUptoCard

/-- THE SECOND FORM's CARD OF 'laws.FnExactProgText'. -/
def fnExactProgTextUptoCard : Claim7 := { stood := { row := fnExactProgTextUptoRow, standIns := [], harness := (true, "66da82c8cf7cfc6377796aebfd2f0ad94072b42c4700368d289ab4118988a076"), looks := false }, kinds := [], alts := [], laidByText := true, laidKinds := [.data, .data, .data], laidTests := true, laidLooks := .later }
def FnExactProgTextUptoCardSaid : Prop := Claim7.holds Tryd.pinned (.plain (OpenSpec.upto fnExactProgTextSpec)) fnExactProgTextUptoCard

/-- THE SECOND FORM's CARD OF 'laws.FnProgSame'. -/
def fnProgSameUptoCard : Claim7 := { stood := { row := fnProgSameUptoRow, standIns := [], harness := (true, "66da82c8cf7cfc6377796aebfd2f0ad94072b42c4700368d289ab4118988a076"), looks := false }, kinds := [], alts := [], laidByText := true, laidKinds := [.data, .data, .data], laidTests := true, laidLooks := .later }
def FnProgSameUptoCardSaid : Prop := Claim7.holds Tryd.pinned (.plain (OpenSpec.upto fnProgSameSpec)) fnProgSameUptoCard

/-- THE SECOND FORM's CARD OF 'laws.FnExactBoxRead'. -/
def fnExactBoxReadUptoCard : Claim7 := { stood := { row := fnExactBoxReadUptoRow, standIns := [], harness := (true, "66da82c8cf7cfc6377796aebfd2f0ad94072b42c4700368d289ab4118988a076"), looks := false }, kinds := [], alts := [], laidByText := true, laidKinds := [.data, .data, .data, .data, .pinned], laidTests := true, laidLooks := .later }
def FnExactBoxReadUptoCardSaid : Prop := Claim7.holds Tryd.pinned (.plain (OpenSpec.upto fnExactBoxReadSpec)) fnExactBoxReadUptoCard
end Rows
end Go.Proofs.YtlpgpckggnimhaaDoor
