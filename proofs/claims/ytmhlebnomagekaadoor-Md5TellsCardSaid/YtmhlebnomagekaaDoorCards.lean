/-
  DERIVED. GIVEN WITH THE SEED: THE CARDS: each row of YtmhlebnomagekaaDoorRows.lean that lists a variable, with what it lists TIED to the program's text (the seventh form; the later family's looks); each row that meets fmt, with fmt's text TOLD by the authors' own Lean function (tested against real Go, not proved from fmt's source: count such statements apart). THE CARD IS WHAT COUNTS. Prove the row's statement (the work); the ties are given (YtmhlebnomagekaaDoorTie.lean); close each card by the builder's one call (the guide's Derived/Test/ToyasCard.lean, 'card_holds'). Laid BY PROGRAM, IN A SANDBOX (cutbox-door.mjs). By AI agents, Wed Nov 11 2026. No macro, syntax, notation, axiom, sorry.
-/
import Derived.Test.YtmhlebnomagekaaDoorRows
import GoSem.ClaimSeven
namespace Go.Proofs.YtmhlebnomagekaaDoor
namespace Rows

/-- THE TIED CARD OF 'halyardlaw05.Md5Tells'. -/
def md5TellsCard : Claim7 := { stood := { row := md5TellsRow, standIns := [], harness := (true, "8f1806edac7be1cd2aa0dd4a55a7af7c493a214a800a58c5bf52243f7d8ac4bf"), looks := false }, kinds := [], alts := [], laidByText := true, laidKinds := [.data, .data, .data], laidTests := true, laidLooks := .later }
def Md5TellsCardSaid : Prop := Claim7.holds Tryd.pinned (.plain (OpenSpec.ofChange md5TellsSpec)) md5TellsCard

/-- THE TIED CARD OF 'halyardlaw05.Md5Joins'. -/
def md5JoinsCard : Claim7 := { stood := { row := md5JoinsRow, standIns := [], harness := (true, "8f1806edac7be1cd2aa0dd4a55a7af7c493a214a800a58c5bf52243f7d8ac4bf"), looks := false }, kinds := [], alts := [], laidByText := true, laidKinds := [.data, .data, .data], laidTests := true, laidLooks := .later }
def Md5JoinsCardSaid : Prop := Claim7.holds Tryd.pinned (.plain (OpenSpec.ofChange md5JoinsSpec)) md5JoinsCard

/-- THE TIED CARD OF 'halyardlaw05.Md5Parts'. -/
def md5PartsCard : Claim7 := { stood := { row := md5PartsRow, standIns := [], harness := (true, "8f1806edac7be1cd2aa0dd4a55a7af7c493a214a800a58c5bf52243f7d8ac4bf"), looks := false }, kinds := [], alts := [], laidByText := true, laidKinds := [.data, .data, .data], laidTests := true, laidLooks := .later }
def Md5PartsCardSaid : Prop := Claim7.holds Tryd.pinned (.plain (OpenSpec.ofChange md5PartsSpec)) md5PartsCard

/-- THE TIED CARD OF 'halyardlaw40.CountSums'. -/
def countSumsCard : Claim7 := { stood := { row := countSumsRow, standIns := [], harness := (true, "8f1806edac7be1cd2aa0dd4a55a7af7c493a214a800a58c5bf52243f7d8ac4bf"), looks := false }, kinds := [], alts := [], laidByText := true, laidKinds := [.data, .data, .data], laidTests := true, laidLooks := .later }
def CountSumsCardSaid : Prop := Claim7.holds Tryd.pinned (.plain (OpenSpec.ofChange countSumsSpec)) countSumsCard

/-- THE TIED CARD OF 'halyardlaw19.ChapChecks'. -/
def chapChecksCard : Claim7 := { stood := { row := chapChecksRow, standIns := [], harness := (true, "8f1806edac7be1cd2aa0dd4a55a7af7c493a214a800a58c5bf52243f7d8ac4bf"), looks := false }, kinds := [], alts := [], laidByText := true, laidKinds := [.data, .data, .data], laidTests := true, laidLooks := .later }
def ChapChecksCardSaid : Prop := Claim7.holds Tryd.pinned (.plain (OpenSpec.ofChange chapChecksSpec)) chapChecksCard

/-- THE TIED CARD OF 'halyardlaw19.ChapTells'. -/
def chapTellsCard : Claim7 := { stood := { row := chapTellsRow, standIns := [], harness := (true, "8f1806edac7be1cd2aa0dd4a55a7af7c493a214a800a58c5bf52243f7d8ac4bf"), looks := false }, kinds := [], alts := [], laidByText := true, laidKinds := [.data, .data, .data], laidTests := true, laidLooks := .later }
def ChapTellsCardSaid : Prop := Claim7.holds Tryd.pinned (.plain (OpenSpec.ofChange chapTellsSpec)) chapTellsCard

/-- THE TIED CARD OF 'halyardlaw19.ChapBack'. -/
def chapBackCard : Claim7 := { stood := { row := chapBackRow, standIns := [], harness := (true, "8f1806edac7be1cd2aa0dd4a55a7af7c493a214a800a58c5bf52243f7d8ac4bf"), looks := false }, kinds := [], alts := [], laidByText := true, laidKinds := [.data, .data, .data], laidTests := true, laidLooks := .later }
def ChapBackCardSaid : Prop := Claim7.holds Tryd.pinned (.plain (OpenSpec.ofChange chapBackSpec)) chapBackCard

/-- THE SECOND FORM's CARD OF 'halyardlaw05.Md5Tells'. -/
def md5TellsUptoCard : Claim7 := { stood := { row := md5TellsUptoRow, standIns := [], harness := (true, "8f1806edac7be1cd2aa0dd4a55a7af7c493a214a800a58c5bf52243f7d8ac4bf"), looks := false }, kinds := [], alts := [], laidByText := true, laidKinds := [.data, .data, .data], laidTests := true, laidLooks := .later }
def Md5TellsUptoCardSaid : Prop := Claim7.holds Tryd.pinned (.plain (OpenSpec.upto md5TellsSpec)) md5TellsUptoCard

/-- THE SECOND FORM's CARD OF 'halyardlaw05.Md5Joins'. -/
def md5JoinsUptoCard : Claim7 := { stood := { row := md5JoinsUptoRow, standIns := [], harness := (true, "8f1806edac7be1cd2aa0dd4a55a7af7c493a214a800a58c5bf52243f7d8ac4bf"), looks := false }, kinds := [], alts := [], laidByText := true, laidKinds := [.data, .data, .data], laidTests := true, laidLooks := .later }
def Md5JoinsUptoCardSaid : Prop := Claim7.holds Tryd.pinned (.plain (OpenSpec.upto md5JoinsSpec)) md5JoinsUptoCard

/-- THE SECOND FORM's CARD OF 'halyardlaw05.Md5Parts'. -/
def md5PartsUptoCard : Claim7 := { stood := { row := md5PartsUptoRow, standIns := [], harness := (true, "8f1806edac7be1cd2aa0dd4a55a7af7c493a214a800a58c5bf52243f7d8ac4bf"), looks := false }, kinds := [], alts := [], laidByText := true, laidKinds := [.data, .data, .data], laidTests := true, laidLooks := .later }
def Md5PartsUptoCardSaid : Prop := Claim7.holds Tryd.pinned (.plain (OpenSpec.upto md5PartsSpec)) md5PartsUptoCard

/-- THE SECOND FORM's CARD OF 'halyardlaw40.CountSums'. -/
def countSumsUptoCard : Claim7 := { stood := { row := countSumsUptoRow, standIns := [], harness := (true, "8f1806edac7be1cd2aa0dd4a55a7af7c493a214a800a58c5bf52243f7d8ac4bf"), looks := false }, kinds := [], alts := [], laidByText := true, laidKinds := [.data, .data, .data], laidTests := true, laidLooks := .later }
def CountSumsUptoCardSaid : Prop := Claim7.holds Tryd.pinned (.plain (OpenSpec.upto countSumsSpec)) countSumsUptoCard

/-- THE SECOND FORM's CARD OF 'halyardlaw19.ChapChecks'. -/
def chapChecksUptoCard : Claim7 := { stood := { row := chapChecksUptoRow, standIns := [], harness := (true, "8f1806edac7be1cd2aa0dd4a55a7af7c493a214a800a58c5bf52243f7d8ac4bf"), looks := false }, kinds := [], alts := [], laidByText := true, laidKinds := [.data, .data, .data], laidTests := true, laidLooks := .later }
def ChapChecksUptoCardSaid : Prop := Claim7.holds Tryd.pinned (.plain (OpenSpec.upto chapChecksSpec)) chapChecksUptoCard

/-- THE SECOND FORM's CARD OF 'halyardlaw19.ChapTells'. -/
def chapTellsUptoCard : Claim7 := { stood := { row := chapTellsUptoRow, standIns := [], harness := (true, "8f1806edac7be1cd2aa0dd4a55a7af7c493a214a800a58c5bf52243f7d8ac4bf"), looks := false }, kinds := [], alts := [], laidByText := true, laidKinds := [.data, .data, .data], laidTests := true, laidLooks := .later }
def ChapTellsUptoCardSaid : Prop := Claim7.holds Tryd.pinned (.plain (OpenSpec.upto chapTellsSpec)) chapTellsUptoCard

/-- THE SECOND FORM's CARD OF 'halyardlaw19.ChapBack'. -/
def chapBackUptoCard : Claim7 := { stood := { row := chapBackUptoRow, standIns := [], harness := (true, "8f1806edac7be1cd2aa0dd4a55a7af7c493a214a800a58c5bf52243f7d8ac4bf"), looks := false }, kinds := [], alts := [], laidByText := true, laidKinds := [.data, .data, .data], laidTests := true, laidLooks := .later }
def ChapBackUptoCardSaid : Prop := Claim7.holds Tryd.pinned (.plain (OpenSpec.upto chapBackSpec)) chapBackUptoCard
end Rows
end Go.Proofs.YtmhlebnomagekaaDoor
