/-
  DERIVED. GIVEN WITH THE SEED: THE CARDS: each row of YtiohgpcbdefokaaDoorRows.lean that lists a variable, with what it lists TIED to the program's text (the seventh form; the later family's looks); each row that meets fmt, with fmt's text TOLD by the authors' own Lean function (tested against real Go, not proved from fmt's source: count such statements apart). THE CARD IS WHAT COUNTS. Prove the row's statement (the work); the ties are given (YtiohgpcbdefokaaDoorTie.lean); close each card by the builder's one call (the guide's Derived/Test/ToyasCard.lean, 'card_holds'). Laid BY PROGRAM, IN A SANDBOX (cutbox-door.mjs). By AI agents, Wed Nov 11 2026. No macro, syntax, notation, axiom, sorry.
-/
import Derived.Test.YtiohgpcbdefokaaDoorRows
import GoSem.ClaimSeven
namespace Go.Proofs.YtiohgpcbdefokaaDoor
namespace Rows

/-- THE TIED CARD OF 'sumpterlaw28.TokenPuts'. -/
def tokenPutsCard : Claim7 := { stood := { row := tokenPutsRow, standIns := [], harness := (true, "014ca7cbb5351fe585bab385cc92f407b133d625e0ed3f9c61389276572d541a"), looks := false }, kinds := [], alts := [], laidByText := true, laidKinds := [.data, .data, .pinned], laidTests := true, laidLooks := .later }
def TokenPutsCardSaid : Prop := Claim7.holds Tryd.pinned (.plain (OpenSpec.ofChange tokenPutsSpec)) tokenPutsCard

/-- THE TIED CARD OF 'sumpterlaw28.TokenGets'. -/
def tokenGetsCard : Claim7 := { stood := { row := tokenGetsRow, standIns := [], harness := (true, "014ca7cbb5351fe585bab385cc92f407b133d625e0ed3f9c61389276572d541a"), looks := false }, kinds := [], alts := [], laidByText := true, laidKinds := [.data, .data, .pinned], laidTests := true, laidLooks := .later }
def TokenGetsCardSaid : Prop := Claim7.holds Tryd.pinned (.plain (OpenSpec.ofChange tokenGetsSpec)) tokenGetsCard

/-- THE TIED CARD OF 'sumpterlaw28.TokenBack'. -/
def tokenBackCard : Claim7 := { stood := { row := tokenBackRow, standIns := [], harness := (true, "014ca7cbb5351fe585bab385cc92f407b133d625e0ed3f9c61389276572d541a"), looks := false }, kinds := [], alts := [], laidByText := true, laidKinds := [.data, .data, .pinned], laidTests := true, laidLooks := .later }
def TokenBackCardSaid : Prop := Claim7.holds Tryd.pinned (.plain (OpenSpec.ofChange tokenBackSpec)) tokenBackCard

/-- THE TIED CARD OF 'sumpterlaw28.TokenItems'. -/
def tokenItemsCard : Claim7 := { stood := { row := tokenItemsRow, standIns := [], harness := (true, "014ca7cbb5351fe585bab385cc92f407b133d625e0ed3f9c61389276572d541a"), looks := false }, kinds := [], alts := [], laidByText := true, laidKinds := [.data, .data, .pinned], laidTests := true, laidLooks := .later }
def TokenItemsCardSaid : Prop := Claim7.holds Tryd.pinned (.plain (OpenSpec.ofChange tokenItemsSpec)) tokenItemsCard

/-- THE TIED CARD OF 'sumpterlaw15.RecordPuts'. -/
def recordPutsCard : Claim7 := { stood := { row := recordPutsRow, standIns := [], harness := (true, "014ca7cbb5351fe585bab385cc92f407b133d625e0ed3f9c61389276572d541a"), looks := false }, kinds := [], alts := [], laidByText := true, laidKinds := [.data, .data, .pinned], laidTests := true, laidLooks := .later }
def RecordPutsCardSaid : Prop := Claim7.holds Tryd.pinned (.plain (OpenSpec.ofChange recordPutsSpec)) recordPutsCard

/-- THE TIED CARD OF 'sumpterlaw15.RecordPlays'. -/
def recordPlaysCard : Claim7 := { stood := { row := recordPlaysRow, standIns := [], harness := (true, "014ca7cbb5351fe585bab385cc92f407b133d625e0ed3f9c61389276572d541a"), looks := false }, kinds := [], alts := [], laidByText := true, laidKinds := [.data, .data, .pinned], laidTests := true, laidLooks := .later }
def RecordPlaysCardSaid : Prop := Claim7.holds Tryd.pinned (.plain (OpenSpec.ofChange recordPlaysSpec)) recordPlaysCard

/-- THE TIED CARD OF 'sumpterlaw15.RecordBack'. -/
def recordBackCard : Claim7 := { stood := { row := recordBackRow, standIns := [], harness := (true, "014ca7cbb5351fe585bab385cc92f407b133d625e0ed3f9c61389276572d541a"), looks := false }, kinds := [], alts := [], laidByText := true, laidKinds := [.data, .data, .pinned], laidTests := true, laidLooks := .later }
def RecordBackCardSaid : Prop := Claim7.holds Tryd.pinned (.plain (OpenSpec.ofChange recordBackSpec)) recordBackCard

/-- THE TIED CARD OF 'sumpterlaw15.RecordRises'. -/
def recordRisesCard : Claim7 := { stood := { row := recordRisesRow, standIns := [], harness := (true, "014ca7cbb5351fe585bab385cc92f407b133d625e0ed3f9c61389276572d541a"), looks := false }, kinds := [], alts := [], laidByText := true, laidKinds := [.data, .data, .pinned], laidTests := true, laidLooks := .later }
def RecordRisesCardSaid : Prop := Claim7.holds Tryd.pinned (.plain (OpenSpec.ofChange recordRisesSpec)) recordRisesCard

/-- THE TIED CARD OF 'sumpterlaw15.RecordImaged'. -/
def recordImagedCard : Claim7 := { stood := { row := recordImagedRow, standIns := [], harness := (true, "014ca7cbb5351fe585bab385cc92f407b133d625e0ed3f9c61389276572d541a"), looks := false }, kinds := [], alts := [], laidByText := true, laidKinds := [.data, .data, .pinned], laidTests := true, laidLooks := .later }
def RecordImagedCardSaid : Prop := Claim7.holds Tryd.pinned (.plain (OpenSpec.ofChange recordImagedSpec)) recordImagedCard

/-- THE TIED CARD OF 'sumpterlaw10.ManifestBack'. -/
def manifestBackCard : Claim7 := { stood := { row := manifestBackRow, standIns := [], harness := (true, "014ca7cbb5351fe585bab385cc92f407b133d625e0ed3f9c61389276572d541a"), looks := false }, kinds := [], alts := [], laidByText := true, laidKinds := [.data, .data, .pinned], laidTests := true, laidLooks := .later }
def ManifestBackCardSaid : Prop := Claim7.holds Tryd.pinned (.plain (OpenSpec.ofChange manifestBackSpec)) manifestBackCard

/-- THE TIED CARD OF 'sumpterlaw10.ManifestTells'. -/
def manifestTellsCard : Claim7 := { stood := { row := manifestTellsRow, standIns := [], harness := (true, "014ca7cbb5351fe585bab385cc92f407b133d625e0ed3f9c61389276572d541a"), looks := false }, kinds := [], alts := [], laidByText := true, laidKinds := [.data, .data, .pinned], laidTests := true, laidLooks := .later }
def ManifestTellsCardSaid : Prop := Claim7.holds Tryd.pinned (.plain (OpenSpec.ofChange manifestTellsSpec)) manifestTellsCard

/-- THE SECOND FORM's CARD OF 'sumpterlaw28.TokenPuts'. -/
def tokenPutsUptoCard : Claim7 := { stood := { row := tokenPutsUptoRow, standIns := [], harness := (true, "014ca7cbb5351fe585bab385cc92f407b133d625e0ed3f9c61389276572d541a"), looks := false }, kinds := [], alts := [], laidByText := true, laidKinds := [.data, .data, .pinned], laidTests := true, laidLooks := .later }
def TokenPutsUptoCardSaid : Prop := Claim7.holds Tryd.pinned (.plain (OpenSpec.upto tokenPutsSpec)) tokenPutsUptoCard

/-- THE SECOND FORM's CARD OF 'sumpterlaw28.TokenGets'. -/
def tokenGetsUptoCard : Claim7 := { stood := { row := tokenGetsUptoRow, standIns := [], harness := (true, "014ca7cbb5351fe585bab385cc92f407b133d625e0ed3f9c61389276572d541a"), looks := false }, kinds := [], alts := [], laidByText := true, laidKinds := [.data, .data, .pinned], laidTests := true, laidLooks := .later }
def TokenGetsUptoCardSaid : Prop := Claim7.holds Tryd.pinned (.plain (OpenSpec.upto tokenGetsSpec)) tokenGetsUptoCard

/-- THE SECOND FORM's CARD OF 'sumpterlaw28.TokenBack'. -/
def tokenBackUptoCard : Claim7 := { stood := { row := tokenBackUptoRow, standIns := [], harness := (true, "014ca7cbb5351fe585bab385cc92f407b133d625e0ed3f9c61389276572d541a"), looks := false }, kinds := [], alts := [], laidByText := true, laidKinds := [.data, .data, .pinned], laidTests := true, laidLooks := .later }
def TokenBackUptoCardSaid : Prop := Claim7.holds Tryd.pinned (.plain (OpenSpec.upto tokenBackSpec)) tokenBackUptoCard

/-- THE SECOND FORM's CARD OF 'sumpterlaw28.TokenItems'. -/
def tokenItemsUptoCard : Claim7 := { stood := { row := tokenItemsUptoRow, standIns := [], harness := (true, "014ca7cbb5351fe585bab385cc92f407b133d625e0ed3f9c61389276572d541a"), looks := false }, kinds := [], alts := [], laidByText := true, laidKinds := [.data, .data, .pinned], laidTests := true, laidLooks := .later }
def TokenItemsUptoCardSaid : Prop := Claim7.holds Tryd.pinned (.plain (OpenSpec.upto tokenItemsSpec)) tokenItemsUptoCard

/-- THE SECOND FORM's CARD OF 'sumpterlaw15.RecordPuts'. -/
def recordPutsUptoCard : Claim7 := { stood := { row := recordPutsUptoRow, standIns := [], harness := (true, "014ca7cbb5351fe585bab385cc92f407b133d625e0ed3f9c61389276572d541a"), looks := false }, kinds := [], alts := [], laidByText := true, laidKinds := [.data, .data, .pinned], laidTests := true, laidLooks := .later }
def RecordPutsUptoCardSaid : Prop := Claim7.holds Tryd.pinned (.plain (OpenSpec.upto recordPutsSpec)) recordPutsUptoCard

/-- THE SECOND FORM's CARD OF 'sumpterlaw15.RecordPlays'. -/
def recordPlaysUptoCard : Claim7 := { stood := { row := recordPlaysUptoRow, standIns := [], harness := (true, "014ca7cbb5351fe585bab385cc92f407b133d625e0ed3f9c61389276572d541a"), looks := false }, kinds := [], alts := [], laidByText := true, laidKinds := [.data, .data, .pinned], laidTests := true, laidLooks := .later }
def RecordPlaysUptoCardSaid : Prop := Claim7.holds Tryd.pinned (.plain (OpenSpec.upto recordPlaysSpec)) recordPlaysUptoCard

/-- THE SECOND FORM's CARD OF 'sumpterlaw15.RecordBack'. -/
def recordBackUptoCard : Claim7 := { stood := { row := recordBackUptoRow, standIns := [], harness := (true, "014ca7cbb5351fe585bab385cc92f407b133d625e0ed3f9c61389276572d541a"), looks := false }, kinds := [], alts := [], laidByText := true, laidKinds := [.data, .data, .pinned], laidTests := true, laidLooks := .later }
def RecordBackUptoCardSaid : Prop := Claim7.holds Tryd.pinned (.plain (OpenSpec.upto recordBackSpec)) recordBackUptoCard

/-- THE SECOND FORM's CARD OF 'sumpterlaw15.RecordRises'. -/
def recordRisesUptoCard : Claim7 := { stood := { row := recordRisesUptoRow, standIns := [], harness := (true, "014ca7cbb5351fe585bab385cc92f407b133d625e0ed3f9c61389276572d541a"), looks := false }, kinds := [], alts := [], laidByText := true, laidKinds := [.data, .data, .pinned], laidTests := true, laidLooks := .later }
def RecordRisesUptoCardSaid : Prop := Claim7.holds Tryd.pinned (.plain (OpenSpec.upto recordRisesSpec)) recordRisesUptoCard

/-- THE SECOND FORM's CARD OF 'sumpterlaw15.RecordImaged'. -/
def recordImagedUptoCard : Claim7 := { stood := { row := recordImagedUptoRow, standIns := [], harness := (true, "014ca7cbb5351fe585bab385cc92f407b133d625e0ed3f9c61389276572d541a"), looks := false }, kinds := [], alts := [], laidByText := true, laidKinds := [.data, .data, .pinned], laidTests := true, laidLooks := .later }
def RecordImagedUptoCardSaid : Prop := Claim7.holds Tryd.pinned (.plain (OpenSpec.upto recordImagedSpec)) recordImagedUptoCard

/-- THE SECOND FORM's CARD OF 'sumpterlaw10.ManifestBack'. -/
def manifestBackUptoCard : Claim7 := { stood := { row := manifestBackUptoRow, standIns := [], harness := (true, "014ca7cbb5351fe585bab385cc92f407b133d625e0ed3f9c61389276572d541a"), looks := false }, kinds := [], alts := [], laidByText := true, laidKinds := [.data, .data, .pinned], laidTests := true, laidLooks := .later }
def ManifestBackUptoCardSaid : Prop := Claim7.holds Tryd.pinned (.plain (OpenSpec.upto manifestBackSpec)) manifestBackUptoCard

/-- THE SECOND FORM's CARD OF 'sumpterlaw10.ManifestTells'. -/
def manifestTellsUptoCard : Claim7 := { stood := { row := manifestTellsUptoRow, standIns := [], harness := (true, "014ca7cbb5351fe585bab385cc92f407b133d625e0ed3f9c61389276572d541a"), looks := false }, kinds := [], alts := [], laidByText := true, laidKinds := [.data, .data, .pinned], laidTests := true, laidLooks := .later }
def ManifestTellsUptoCardSaid : Prop := Claim7.holds Tryd.pinned (.plain (OpenSpec.upto manifestTellsSpec)) manifestTellsUptoCard
end Rows
end Go.Proofs.YtiohgpcbdefokaaDoor
