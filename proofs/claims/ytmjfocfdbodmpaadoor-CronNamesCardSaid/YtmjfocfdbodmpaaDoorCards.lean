/-
  DERIVED. GIVEN WITH THE SEED: THE CARDS: each row of YtmjfocfdbodmpaaDoorRows.lean that lists a variable, with what it lists TIED to the program's text (the seventh form; the later family's looks); each row that meets fmt, with fmt's text TOLD by the authors' own Lean function (tested against real Go, not proved from fmt's source: count such statements apart). THE CARD IS WHAT COUNTS. Prove the row's statement (the work); the ties are given (YtmjfocfdbodmpaaDoorTie.lean); close each card by the builder's one call (the guide's Derived/Test/ToyasCard.lean, 'card_holds'). Laid BY PROGRAM, IN A SANDBOX (cutbox-door.mjs). By AI agents, Wed Nov 11 2026. No macro, syntax, notation, axiom, sorry.
-/
import Derived.Test.YtmjfocfdbodmpaaDoorRows
import GoSem.ClaimSeven
namespace Go.Proofs.YtmjfocfdbodmpaaDoor
namespace Rows

/-- THE TIED CARD OF 'tompionlaw04.CronParses'. -/
def cronParsesCard : Claim7 := { stood := { row := cronParsesRow, standIns := [], harness := (true, "271ac8451e91fc3ec7f2345670d4611029d96f84b3ac66586d9c696869522f3f"), looks := false }, kinds := [], alts := [], laidByText := true, laidKinds := [.data, .data, .data, .data, .pinned], laidTests := true, laidLooks := .later }
def CronParsesCardSaid : Prop := Claim7.holds Tryd.pinned (.plain (OpenSpec.ofChange cronParsesSpec)) cronParsesCard

/-- THE TIED CARD OF 'tompionlaw04.CronTexts'. -/
def cronTextsCard : Claim7 := { stood := { row := cronTextsRow, standIns := [], harness := (true, "271ac8451e91fc3ec7f2345670d4611029d96f84b3ac66586d9c696869522f3f"), looks := false }, kinds := [], alts := [], laidByText := true, laidKinds := [.data, .data, .data, .data, .pinned], laidTests := true, laidLooks := .later }
def CronTextsCardSaid : Prop := Claim7.holds Tryd.pinned (.plain (OpenSpec.ofChange cronTextsSpec)) cronTextsCard

/-- THE TIED CARD OF 'tompionlaw04.CronBack'. -/
def cronBackCard : Claim7 := { stood := { row := cronBackRow, standIns := [], harness := (true, "271ac8451e91fc3ec7f2345670d4611029d96f84b3ac66586d9c696869522f3f"), looks := false }, kinds := [], alts := [], laidByText := true, laidKinds := [.data, .data, .data, .data, .pinned], laidTests := true, laidLooks := .later }
def CronBackCardSaid : Prop := Claim7.holds Tryd.pinned (.plain (OpenSpec.ofChange cronBackSpec)) cronBackCard

/-- THE TIED CARD OF 'tompionlaw04.CronBlanks'. -/
def cronBlanksCard : Claim7 := { stood := { row := cronBlanksRow, standIns := [], harness := (true, "271ac8451e91fc3ec7f2345670d4611029d96f84b3ac66586d9c696869522f3f"), looks := false }, kinds := [], alts := [], laidByText := true, laidKinds := [.data, .data, .data, .data, .pinned], laidTests := true, laidLooks := .later }
def CronBlanksCardSaid : Prop := Claim7.holds Tryd.pinned (.plain (OpenSpec.ofChange cronBlanksSpec)) cronBlanksCard

/-- THE TIED CARD OF 'tompionlaw04.CronParts'. -/
def cronPartsCard : Claim7 := { stood := { row := cronPartsRow, standIns := [], harness := (true, "271ac8451e91fc3ec7f2345670d4611029d96f84b3ac66586d9c696869522f3f"), looks := false }, kinds := [], alts := [], laidByText := true, laidKinds := [.data, .data, .data, .data, .pinned], laidTests := true, laidLooks := .later }
def CronPartsCardSaid : Prop := Claim7.holds Tryd.pinned (.plain (OpenSpec.ofChange cronPartsSpec)) cronPartsCard

/-- THE TIED CARD OF 'tompionlaw04.CronNames'. -/
def cronNamesCard : Claim7 := { stood := { row := cronNamesRow, standIns := [], harness := (true, "271ac8451e91fc3ec7f2345670d4611029d96f84b3ac66586d9c696869522f3f"), looks := false }, kinds := [], alts := [], laidByText := true, laidKinds := [.data, .data, .data, .data, .pinned], laidTests := true, laidLooks := .later }
def CronNamesCardSaid : Prop := Claim7.holds Tryd.pinned (.plain (OpenSpec.ofChange cronNamesSpec)) cronNamesCard

/-- THE TIED CARD OF 'tompionlaw04.CronTimes'. -/
def cronTimesCard : Claim7 := { stood := { row := cronTimesRow, standIns := [], harness := (true, "271ac8451e91fc3ec7f2345670d4611029d96f84b3ac66586d9c696869522f3f"), looks := false }, kinds := [], alts := [], laidByText := true, laidKinds := [.data, .data, .data, .data, .pinned], laidTests := true, laidLooks := .later }
def CronTimesCardSaid : Prop := Claim7.holds Tryd.pinned (.plain (OpenSpec.ofChange cronTimesSpec)) cronTimesCard

/-- THE SECOND FORM's CARD OF 'tompionlaw04.CronParses'. -/
def cronParsesUptoCard : Claim7 := { stood := { row := cronParsesUptoRow, standIns := [], harness := (true, "271ac8451e91fc3ec7f2345670d4611029d96f84b3ac66586d9c696869522f3f"), looks := false }, kinds := [], alts := [], laidByText := true, laidKinds := [.data, .data, .data, .data, .pinned], laidTests := true, laidLooks := .later }
def CronParsesUptoCardSaid : Prop := Claim7.holds Tryd.pinned (.plain (OpenSpec.upto cronParsesSpec)) cronParsesUptoCard

/-- THE SECOND FORM's CARD OF 'tompionlaw04.CronTexts'. -/
def cronTextsUptoCard : Claim7 := { stood := { row := cronTextsUptoRow, standIns := [], harness := (true, "271ac8451e91fc3ec7f2345670d4611029d96f84b3ac66586d9c696869522f3f"), looks := false }, kinds := [], alts := [], laidByText := true, laidKinds := [.data, .data, .data, .data, .pinned], laidTests := true, laidLooks := .later }
def CronTextsUptoCardSaid : Prop := Claim7.holds Tryd.pinned (.plain (OpenSpec.upto cronTextsSpec)) cronTextsUptoCard

/-- THE SECOND FORM's CARD OF 'tompionlaw04.CronBack'. -/
def cronBackUptoCard : Claim7 := { stood := { row := cronBackUptoRow, standIns := [], harness := (true, "271ac8451e91fc3ec7f2345670d4611029d96f84b3ac66586d9c696869522f3f"), looks := false }, kinds := [], alts := [], laidByText := true, laidKinds := [.data, .data, .data, .data, .pinned], laidTests := true, laidLooks := .later }
def CronBackUptoCardSaid : Prop := Claim7.holds Tryd.pinned (.plain (OpenSpec.upto cronBackSpec)) cronBackUptoCard

/-- THE SECOND FORM's CARD OF 'tompionlaw04.CronBlanks'. -/
def cronBlanksUptoCard : Claim7 := { stood := { row := cronBlanksUptoRow, standIns := [], harness := (true, "271ac8451e91fc3ec7f2345670d4611029d96f84b3ac66586d9c696869522f3f"), looks := false }, kinds := [], alts := [], laidByText := true, laidKinds := [.data, .data, .data, .data, .pinned], laidTests := true, laidLooks := .later }
def CronBlanksUptoCardSaid : Prop := Claim7.holds Tryd.pinned (.plain (OpenSpec.upto cronBlanksSpec)) cronBlanksUptoCard

/-- THE SECOND FORM's CARD OF 'tompionlaw04.CronParts'. -/
def cronPartsUptoCard : Claim7 := { stood := { row := cronPartsUptoRow, standIns := [], harness := (true, "271ac8451e91fc3ec7f2345670d4611029d96f84b3ac66586d9c696869522f3f"), looks := false }, kinds := [], alts := [], laidByText := true, laidKinds := [.data, .data, .data, .data, .pinned], laidTests := true, laidLooks := .later }
def CronPartsUptoCardSaid : Prop := Claim7.holds Tryd.pinned (.plain (OpenSpec.upto cronPartsSpec)) cronPartsUptoCard

/-- THE SECOND FORM's CARD OF 'tompionlaw04.CronNames'. -/
def cronNamesUptoCard : Claim7 := { stood := { row := cronNamesUptoRow, standIns := [], harness := (true, "271ac8451e91fc3ec7f2345670d4611029d96f84b3ac66586d9c696869522f3f"), looks := false }, kinds := [], alts := [], laidByText := true, laidKinds := [.data, .data, .data, .data, .pinned], laidTests := true, laidLooks := .later }
def CronNamesUptoCardSaid : Prop := Claim7.holds Tryd.pinned (.plain (OpenSpec.upto cronNamesSpec)) cronNamesUptoCard

/-- THE SECOND FORM's CARD OF 'tompionlaw04.CronTimes'. -/
def cronTimesUptoCard : Claim7 := { stood := { row := cronTimesUptoRow, standIns := [], harness := (true, "271ac8451e91fc3ec7f2345670d4611029d96f84b3ac66586d9c696869522f3f"), looks := false }, kinds := [], alts := [], laidByText := true, laidKinds := [.data, .data, .data, .data, .pinned], laidTests := true, laidLooks := .later }
def CronTimesUptoCardSaid : Prop := Claim7.holds Tryd.pinned (.plain (OpenSpec.upto cronTimesSpec)) cronTimesUptoCard
end Rows
end Go.Proofs.YtmjfocfdbodmpaaDoor
