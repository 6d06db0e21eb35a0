/-
  DERIVED. GIVEN WITH THE SEED: THE CARDS: each row of YtndicjikjcifaaaDoorRows.lean that lists a variable, with what it lists TIED to the program's text (the seventh form; the later family's looks); each row that meets fmt, with fmt's text TOLD by the authors' own Lean function (tested against real Go, not proved from fmt's source: count such statements apart). THE CARD IS WHAT COUNTS. Prove the row's statement (the work); the ties are given (YtndicjikjcifaaaDoorTie.lean); close each card by the builder's one call (the guide's Derived/Test/ToyasCard.lean, 'card_holds'). Laid BY PROGRAM, IN A SANDBOX (cutbox-door.mjs). By AI agents, Wed Nov 11 2026. No macro, syntax, notation, axiom, sorry.
-/
import Derived.Test.YtndicjikjcifaaaDoorRows
import GoSem.ClaimSeven
namespace Go.Proofs.YtndicjikjcifaaaDoor
namespace Rows

/-- THE TIED CARD OF 'tusklaw05.BatchSeals'. -/
def batchSealsCard : Claim7 := { stood := { row := batchSealsRow, standIns := [], harness := (true, "08116289350d719eca9c86298f23f9638deb5fef10ccd1051e5c4ae7f7011ead"), looks := true }, kinds := [], alts := [], laidByText := true, laidKinds := [.data, .pinned], laidTests := true, laidLooks := .later }
def BatchSealsCardSaid : Prop := Claim7.holds Tryd.pinned (.plain (OpenSpec.ofChange batchSealsSpec)) batchSealsCard

/-- THE TIED CARD OF 'tusklaw04.TxReads'. -/
def txReadsCard : Claim7 := { stood := { row := txReadsRow, standIns := [], harness := (true, "08116289350d719eca9c86298f23f9638deb5fef10ccd1051e5c4ae7f7011ead"), looks := true }, kinds := [], alts := [], laidByText := true, laidKinds := [.data, .pinned], laidTests := true, laidLooks := .later }
def TxReadsCardSaid : Prop := Claim7.holds Tryd.pinned (.plain (OpenSpec.ofChange txReadsSpec)) txReadsCard

/-- THE TIED CARD OF 'tusklaw05.BatchReads'. -/
def batchReadsCard : Claim7 := { stood := { row := batchReadsRow, standIns := [], harness := (true, "08116289350d719eca9c86298f23f9638deb5fef10ccd1051e5c4ae7f7011ead"), looks := true }, kinds := [], alts := [], laidByText := true, laidKinds := [.data, .pinned], laidTests := true, laidLooks := .later }
def BatchReadsCardSaid : Prop := Claim7.holds Tryd.pinned (.plain (OpenSpec.ofChange batchReadsSpec)) batchReadsCard

/-- THE TIED CARD OF 'tusklaw05.BatchChecks'. -/
def batchChecksCard : Claim7 := { stood := { row := batchChecksRow, standIns := [], harness := (true, "08116289350d719eca9c86298f23f9638deb5fef10ccd1051e5c4ae7f7011ead"), looks := true }, kinds := [], alts := [], laidByText := true, laidKinds := [.data, .widerDeep, .data, .pinned], laidTests := true, laidLooks := .later }
def BatchChecksCardSaid : Prop := Claim7.holds Tryd.pinned (.plain (OpenSpec.ofChange batchChecksSpec)) batchChecksCard

/-- THE TIED CARD OF 'tusklaw05.BatchOrder'. -/
def batchOrderCard : Claim7 := { stood := { row := batchOrderRow, standIns := [], harness := (true, "08116289350d719eca9c86298f23f9638deb5fef10ccd1051e5c4ae7f7011ead"), looks := true }, kinds := [], alts := [], laidByText := true, laidKinds := [.data, .pinned], laidTests := true, laidLooks := .later }
def BatchOrderCardSaid : Prop := Claim7.holds Tryd.pinned (.plain (OpenSpec.ofChange batchOrderSpec)) batchOrderCard

/-- THE TIED CARD OF 'tusklaw05.BatchFull'. -/
def batchFullCard : Claim7 := { stood := { row := batchFullRow, standIns := [], harness := (true, "08116289350d719eca9c86298f23f9638deb5fef10ccd1051e5c4ae7f7011ead"), looks := true }, kinds := [], alts := [], laidByText := true, laidKinds := [.data, .pinned], laidTests := true, laidLooks := .later }
def BatchFullCardSaid : Prop := Claim7.holds Tryd.pinned (.plain (OpenSpec.ofChange batchFullSpec)) batchFullCard

/-- THE TIED CARD OF 'tusklaw05.BatchWaits'. -/
def batchWaitsCard : Claim7 := { stood := { row := batchWaitsRow, standIns := [], harness := (true, "08116289350d719eca9c86298f23f9638deb5fef10ccd1051e5c4ae7f7011ead"), looks := true }, kinds := [], alts := [], laidByText := true, laidKinds := [.data, .pinned], laidTests := true, laidLooks := .later }
def BatchWaitsCardSaid : Prop := Claim7.holds Tryd.pinned (.plain (OpenSpec.ofChange batchWaitsSpec)) batchWaitsCard

/-- THE TIED CARD OF 'tusklaw05.BatchBack'. -/
def batchBackCard : Claim7 := { stood := { row := batchBackRow, standIns := [], harness := (true, "08116289350d719eca9c86298f23f9638deb5fef10ccd1051e5c4ae7f7011ead"), looks := true }, kinds := [], alts := [], laidByText := true, laidKinds := [.data, .widerDeep, .data, .pinned], laidTests := true, laidLooks := .later }
def BatchBackCardSaid : Prop := Claim7.holds Tryd.pinned (.plain (OpenSpec.ofChange batchBackSpec)) batchBackCard

/-- THE TIED CARD OF 'tusklaw04.TxChecks'. -/
def txChecksCard : Claim7 := { stood := { row := txChecksRow, standIns := [], harness := (true, "08116289350d719eca9c86298f23f9638deb5fef10ccd1051e5c4ae7f7011ead"), looks := true }, kinds := [], alts := [], laidByText := true, laidKinds := [.data, .pinned], laidTests := true, laidLooks := .later }
def TxChecksCardSaid : Prop := Claim7.holds Tryd.pinned (.plain (OpenSpec.ofChange txChecksSpec)) txChecksCard

/-- THE TIED CARD OF 'tusklaw04.TxDeclares'. -/
def txDeclaresCard : Claim7 := { stood := { row := txDeclaresRow, standIns := [], harness := (true, "08116289350d719eca9c86298f23f9638deb5fef10ccd1051e5c4ae7f7011ead"), looks := true }, kinds := [], alts := [], laidByText := true, laidKinds := [.data, .pinned], laidTests := true, laidLooks := .later }
def TxDeclaresCardSaid : Prop := Claim7.holds Tryd.pinned (.plain (OpenSpec.ofChange txDeclaresSpec)) txDeclaresCard

/-- THE TIED CARD OF 'tusklaw04.TxNames'. -/
def txNamesCard : Claim7 := { stood := { row := txNamesRow, standIns := [], harness := (true, "08116289350d719eca9c86298f23f9638deb5fef10ccd1051e5c4ae7f7011ead"), looks := true }, kinds := [], alts := [], laidByText := true, laidKinds := [.data, .pinned], laidTests := true, laidLooks := .later }
def TxNamesCardSaid : Prop := Claim7.holds Tryd.pinned (.plain (OpenSpec.ofChange txNamesSpec)) txNamesCard

/-- THE TIED CARD OF 'tusklaw04.TxKinds'. -/
def txKindsCard : Claim7 := { stood := { row := txKindsRow, standIns := [], harness := (true, "08116289350d719eca9c86298f23f9638deb5fef10ccd1051e5c4ae7f7011ead"), looks := true }, kinds := [], alts := [], laidByText := true, laidKinds := [.data, .pinned], laidTests := true, laidLooks := .later }
def TxKindsCardSaid : Prop := Claim7.holds Tryd.pinned (.plain (OpenSpec.ofChange txKindsSpec)) txKindsCard

/-- THE TIED CARD OF 'tusklaw04.TxBack'. -/
def txBackCard : Claim7 := { stood := { row := txBackRow, standIns := [], harness := (true, "08116289350d719eca9c86298f23f9638deb5fef10ccd1051e5c4ae7f7011ead"), looks := true }, kinds := [], alts := [], laidByText := true, laidKinds := [.data, .pinned], laidTests := true, laidLooks := .later }
def TxBackCardSaid : Prop := Claim7.holds Tryd.pinned (.plain (OpenSpec.ofChange txBackSpec)) txBackCard

/-- THE SECOND FORM's CARD OF 'tusklaw05.BatchSeals'. -/
def batchSealsUptoCard : Claim7 := { stood := { row := batchSealsUptoRow, standIns := [], harness := (true, "08116289350d719eca9c86298f23f9638deb5fef10ccd1051e5c4ae7f7011ead"), looks := true }, kinds := [], alts := [], laidByText := true, laidKinds := [.data, .pinned], laidTests := true, laidLooks := .later }
def BatchSealsUptoCardSaid : Prop := Claim7.holds Tryd.pinned (.plain (OpenSpec.upto batchSealsSpec)) batchSealsUptoCard

/-- THE SECOND FORM's CARD OF 'tusklaw04.TxReads'. -/
def txReadsUptoCard : Claim7 := { stood := { row := txReadsUptoRow, standIns := [], harness := (true, "08116289350d719eca9c86298f23f9638deb5fef10ccd1051e5c4ae7f7011ead"), looks := true }, kinds := [], alts := [], laidByText := true, laidKinds := [.data, .pinned], laidTests := true, laidLooks := .later }
def TxReadsUptoCardSaid : Prop := Claim7.holds Tryd.pinned (.plain (OpenSpec.upto txReadsSpec)) txReadsUptoCard

/-- THE SECOND FORM's CARD OF 'tusklaw05.BatchReads'. -/
def batchReadsUptoCard : Claim7 := { stood := { row := batchReadsUptoRow, standIns := [], harness := (true, "08116289350d719eca9c86298f23f9638deb5fef10ccd1051e5c4ae7f7011ead"), looks := true }, kinds := [], alts := [], laidByText := true, laidKinds := [.data, .pinned], laidTests := true, laidLooks := .later }
def BatchReadsUptoCardSaid : Prop := Claim7.holds Tryd.pinned (.plain (OpenSpec.upto batchReadsSpec)) batchReadsUptoCard

/-- THE SECOND FORM's CARD OF 'tusklaw05.BatchChecks'. -/
def batchChecksUptoCard : Claim7 := { stood := { row := batchChecksUptoRow, standIns := [], harness := (true, "08116289350d719eca9c86298f23f9638deb5fef10ccd1051e5c4ae7f7011ead"), looks := true }, kinds := [], alts := [], laidByText := true, laidKinds := [.data, .widerDeep, .data, .pinned], laidTests := true, laidLooks := .later }
def BatchChecksUptoCardSaid : Prop := Claim7.holds Tryd.pinned (.plain (OpenSpec.upto batchChecksSpec)) batchChecksUptoCard

/-- THE SECOND FORM's CARD OF 'tusklaw05.BatchOrder'. -/
def batchOrderUptoCard : Claim7 := { stood := { row := batchOrderUptoRow, standIns := [], harness := (true, "08116289350d719eca9c86298f23f9638deb5fef10ccd1051e5c4ae7f7011ead"), looks := true }, kinds := [], alts := [], laidByText := true, laidKinds := [.data, .pinned], laidTests := true, laidLooks := .later }
def BatchOrderUptoCardSaid : Prop := Claim7.holds Tryd.pinned (.plain (OpenSpec.upto batchOrderSpec)) batchOrderUptoCard

/-- THE SECOND FORM's CARD OF 'tusklaw05.BatchFull'. -/
def batchFullUptoCard : Claim7 := { stood := { row := batchFullUptoRow, standIns := [], harness := (true, "08116289350d719eca9c86298f23f9638deb5fef10ccd1051e5c4ae7f7011ead"), looks := true }, kinds := [], alts := [], laidByText := true, laidKinds := [.data, .pinned], laidTests := true, laidLooks := .later }
def BatchFullUptoCardSaid : Prop := Claim7.holds Tryd.pinned (.plain (OpenSpec.upto batchFullSpec)) batchFullUptoCard

/-- THE SECOND FORM's CARD OF 'tusklaw05.BatchWaits'. -/
def batchWaitsUptoCard : Claim7 := { stood := { row := batchWaitsUptoRow, standIns := [], harness := (true, "08116289350d719eca9c86298f23f9638deb5fef10ccd1051e5c4ae7f7011ead"), looks := true }, kinds := [], alts := [], laidByText := true, laidKinds := [.data, .pinned], laidTests := true, laidLooks := .later }
def BatchWaitsUptoCardSaid : Prop := Claim7.holds Tryd.pinned (.plain (OpenSpec.upto batchWaitsSpec)) batchWaitsUptoCard

/-- THE SECOND FORM's CARD OF 'tusklaw05.BatchBack'. -/
def batchBackUptoCard : Claim7 := { stood := { row := batchBackUptoRow, standIns := [], harness := (true, "08116289350d719eca9c86298f23f9638deb5fef10ccd1051e5c4ae7f7011ead"), looks := true }, kinds := [], alts := [], laidByText := true, laidKinds := [.data, .widerDeep, .data, .pinned], laidTests := true, laidLooks := .later }
def BatchBackUptoCardSaid : Prop := Claim7.holds Tryd.pinned (.plain (OpenSpec.upto batchBackSpec)) batchBackUptoCard

/-- THE SECOND FORM's CARD OF 'tusklaw04.TxChecks'. -/
def txChecksUptoCard : Claim7 := { stood := { row := txChecksUptoRow, standIns := [], harness := (true, "08116289350d719eca9c86298f23f9638deb5fef10ccd1051e5c4ae7f7011ead"), looks := true }, kinds := [], alts := [], laidByText := true, laidKinds := [.data, .pinned], laidTests := true, laidLooks := .later }
def TxChecksUptoCardSaid : Prop := Claim7.holds Tryd.pinned (.plain (OpenSpec.upto txChecksSpec)) txChecksUptoCard

/-- THE SECOND FORM's CARD OF 'tusklaw04.TxDeclares'. -/
def txDeclaresUptoCard : Claim7 := { stood := { row := txDeclaresUptoRow, standIns := [], harness := (true, "08116289350d719eca9c86298f23f9638deb5fef10ccd1051e5c4ae7f7011ead"), looks := true }, kinds := [], alts := [], laidByText := true, laidKinds := [.data, .pinned], laidTests := true, laidLooks := .later }
def TxDeclaresUptoCardSaid : Prop := Claim7.holds Tryd.pinned (.plain (OpenSpec.upto txDeclaresSpec)) txDeclaresUptoCard

/-- THE SECOND FORM's CARD OF 'tusklaw04.TxNames'. -/
def txNamesUptoCard : Claim7 := { stood := { row := txNamesUptoRow, standIns := [], harness := (true, "08116289350d719eca9c86298f23f9638deb5fef10ccd1051e5c4ae7f7011ead"), looks := true }, kinds := [], alts := [], laidByText := true, laidKinds := [.data, .pinned], laidTests := true, laidLooks := .later }
def TxNamesUptoCardSaid : Prop := Claim7.holds Tryd.pinned (.plain (OpenSpec.upto txNamesSpec)) txNamesUptoCard

/-- THE SECOND FORM's CARD OF 'tusklaw04.TxKinds'. -/
def txKindsUptoCard : Claim7 := { stood := { row := txKindsUptoRow, standIns := [], harness := (true, "08116289350d719eca9c86298f23f9638deb5fef10ccd1051e5c4ae7f7011ead"), looks := true }, kinds := [], alts := [], laidByText := true, laidKinds := [.data, .pinned], laidTests := true, laidLooks := .later }
def TxKindsUptoCardSaid : Prop := Claim7.holds Tryd.pinned (.plain (OpenSpec.upto txKindsSpec)) txKindsUptoCard

/-- THE SECOND FORM's CARD OF 'tusklaw04.TxBack'. -/
def txBackUptoCard : Claim7 := { stood := { row := txBackUptoRow, standIns := [], harness := (true, "08116289350d719eca9c86298f23f9638deb5fef10ccd1051e5c4ae7f7011ead"), looks := true }, kinds := [], alts := [], laidByText := true, laidKinds := [.data, .pinned], laidTests := true, laidLooks := .later }
def TxBackUptoCardSaid : Prop := Claim7.holds Tryd.pinned (.plain (OpenSpec.upto txBackSpec)) txBackUptoCard
end Rows
end Go.Proofs.YtndicjikjcifaaaDoor
