/-
  DERIVED. GIVEN WITH THE SEED: THE CARDS: each row of YtncghlamcbhpmaaDoorRows.lean that lists a variable, with what it lists TIED to the program's text (the seventh form; the later family's looks); each row that meets fmt, with fmt's text TOLD by the authors' own Lean function (tested against real Go, not proved from fmt's source: count such statements apart). THE CARD IS WHAT COUNTS. Prove the row's statement (the work); the ties are given (YtncghlamcbhpmaaDoorTie.lean); close each card by the builder's one call (the guide's Derived/Test/ToyasCard.lean, 'card_holds'). Laid BY PROGRAM, IN A SANDBOX (cutbox-door.mjs). By AI agents, Wed Nov 11 2026. No macro, syntax, notation, axiom, sorry.
-/
import Derived.Test.YtncghlamcbhpmaaDoorRows
import GoSem.ClaimSeven
namespace Go.Proofs.YtncghlamcbhpmaaDoor
namespace Rows

/-- THE TIED CARD OF 'laws.FnExactGetRecord'. -/
def fnExactGetRecordCard : Claim7 := { stood := { row := fnExactGetRecordRow, standIns := [], harness := (true, "5110ed88dabb4dd1f6aa5e8b7377b98a2019516abe8c3ea8d9da48197dedd6a7"), looks := true }, kinds := [], alts := [], laidByText := true, laidKinds := [.sentinel, .sentinel], laidTests := true, laidLooks := .later }
def FnExactGetRecordCardSaid : Prop := Claim7.holds Tryd.pinned (.plain (OpenSpec.ofChange fnExactGetRecordSpec)) fnExactGetRecordCard

/-- THE TIED CARD OF 'laws.FnExactAnswerText'. -/
def fnExactAnswerTextCard : Claim7 := { stood := { row := fnExactAnswerTextRow, standIns := [], harness := (true, "5110ed88dabb4dd1f6aa5e8b7377b98a2019516abe8c3ea8d9da48197dedd6a7"), looks := true }, kinds := [], alts := [], laidByText := true, laidKinds := [.data, .data, .data], laidTests := true, laidLooks := .later }
def FnExactAnswerTextCardSaid : Prop := Claim7.holds Tryd.pinned (.plain (OpenSpec.ofChange fnExactAnswerTextSpec)) fnExactAnswerTextCard

/-- THE TIED CARD OF 'laws.FnRecords'. -/
def fnRecordsCard : Claim7 := { stood := { row := fnRecordsRow, standIns := [], harness := (true, "5110ed88dabb4dd1f6aa5e8b7377b98a2019516abe8c3ea8d9da48197dedd6a7"), looks := true }, kinds := [], alts := [], laidByText := true, laidKinds := [.sentinel, .sentinel], laidTests := true, laidLooks := .later }
def FnRecordsCardSaid : Prop := Claim7.holds Tryd.pinned (.plain (OpenSpec.ofChange fnRecordsSpec)) fnRecordsCard

/-- THE TIED CARD OF 'laws.FnExactScanRecords'. -/
def fnExactScanRecordsCard : Claim7 := { stood := { row := fnExactScanRecordsRow, standIns := [], harness := (true, "5110ed88dabb4dd1f6aa5e8b7377b98a2019516abe8c3ea8d9da48197dedd6a7"), looks := true }, kinds := [], alts := [], laidByText := true, laidKinds := [.sentinel, .sentinel], laidTests := true, laidLooks := .later }
def FnExactScanRecordsCardSaid : Prop := Claim7.holds Tryd.pinned (.plain (OpenSpec.ofChange fnExactScanRecordsSpec)) fnExactScanRecordsCard

/-- THE SECOND FORM's CARD OF 'laws.FnExactGetRecord'. -/
def fnExactGetRecordUptoCard : Claim7 := { stood := { row := fnExactGetRecordUptoRow, standIns := [], harness := (true, "5110ed88dabb4dd1f6aa5e8b7377b98a2019516abe8c3ea8d9da48197dedd6a7"), looks := true }, kinds := [], alts := [], laidByText := true, laidKinds := [.sentinel, .sentinel], laidTests := true, laidLooks := .later }
def FnExactGetRecordUptoCardSaid : Prop := Claim7.holds Tryd.pinned (.plain (OpenSpec.upto fnExactGetRecordSpec)) fnExactGetRecordUptoCard

/-- THE SECOND FORM's CARD OF 'laws.FnExactAnswerText'. -/
def fnExactAnswerTextUptoCard : Claim7 := { stood := { row := fnExactAnswerTextUptoRow, standIns := [], harness := (true, "5110ed88dabb4dd1f6aa5e8b7377b98a2019516abe8c3ea8d9da48197dedd6a7"), looks := true }, kinds := [], alts := [], laidByText := true, laidKinds := [.data, .data, .data], laidTests := true, laidLooks := .later }
def FnExactAnswerTextUptoCardSaid : Prop := Claim7.holds Tryd.pinned (.plain (OpenSpec.upto fnExactAnswerTextSpec)) fnExactAnswerTextUptoCard

/-- THE SECOND FORM's CARD OF 'laws.FnRecords'. -/
def fnRecordsUptoCard : Claim7 := { stood := { row := fnRecordsUptoRow, standIns := [], harness := (true, "5110ed88dabb4dd1f6aa5e8b7377b98a2019516abe8c3ea8d9da48197dedd6a7"), looks := true }, kinds := [], alts := [], laidByText := true, laidKinds := [.sentinel, .sentinel], laidTests := true, laidLooks := .later }
def FnRecordsUptoCardSaid : Prop := Claim7.holds Tryd.pinned (.plain (OpenSpec.upto fnRecordsSpec)) fnRecordsUptoCard

/-- THE SECOND FORM's CARD OF 'laws.FnExactScanRecords'. -/
def fnExactScanRecordsUptoCard : Claim7 := { stood := { row := fnExactScanRecordsUptoRow, standIns := [], harness := (true, "5110ed88dabb4dd1f6aa5e8b7377b98a2019516abe8c3ea8d9da48197dedd6a7"), looks := true }, kinds := [], alts := [], laidByText := true, laidKinds := [.sentinel, .sentinel], laidTests := true, laidLooks := .later }
def FnExactScanRecordsUptoCardSaid : Prop := Claim7.holds Tryd.pinned (.plain (OpenSpec.upto fnExactScanRecordsSpec)) fnExactScanRecordsUptoCard
end Rows
end Go.Proofs.YtncghlamcbhpmaaDoor
