/-
  DERIVED. GIVEN WITH THE SEED: THE CARDS: each row of YtcnpkmdooekmgaaGreatDoorRows.lean that lists a variable, with what it lists TIED to the program's text (the seventh form; the later family's looks); each row that meets fmt, with fmt's text TOLD by the authors' own Lean function (tested against real Go, not proved from fmt's source: count such statements apart). THE CARD IS WHAT COUNTS. Prove the row's statement (the work); the ties are given (YtcnpkmdooekmgaaGreatDoorTie.lean); close each card by the builder's one call (the guide's Derived/Test/ToyasCard.lean, 'card_holds'). Laid BY PROGRAM, IN A SANDBOX (cutbox-door.mjs). By AI agents, Wed Nov 11 2026. No macro, syntax, notation, axiom, sorry.
-/
import Derived.Test.YtcnpkmdooekmgaaGreatDoorRows
import GoSem.ClaimSeven
namespace Go.Proofs.YtcnpkmdooekmgaaGreatDoor
namespace Rows

/-- THE TIED CARD OF 'casematelaw15.MtreeLives'. -/
def mtreeLivesCard : Claim7 := { stood := { row := mtreeLivesRow, standIns := [], harness := (true, "0e62c62f2f9fe9ffe75fdba23877a1b2bb7b9881a8e1771a1c61ff352b175b35"), looks := false }, kinds := [], alts := [], laidByText := true, laidKinds := [.data], laidTests := true, laidLooks := .later }
def MtreeLivesCardSaid : Prop := Claim7.holds Tryz.pinned (.plain (OpenSpec.ofChange mtreeLivesSpec)) mtreeLivesCard

/-- THE TIED CARD OF 'casematelaw15.MtreeClones'. -/
def mtreeClonesCard : Claim7 := { stood := { row := mtreeClonesRow, standIns := [], harness := (true, "0e62c62f2f9fe9ffe75fdba23877a1b2bb7b9881a8e1771a1c61ff352b175b35"), looks := false }, kinds := [], alts := [], laidByText := true, laidKinds := [.data], laidTests := true, laidLooks := .later }
def MtreeClonesCardSaid : Prop := Claim7.holds Tryz.pinned (.plain (OpenSpec.ofChange mtreeClonesSpec)) mtreeClonesCard

/-- THE TIED CARD OF 'casematelaw15.MtreeGone'. -/
def mtreeGoneCard : Claim7 := { stood := { row := mtreeGoneRow, standIns := [], harness := (true, "0e62c62f2f9fe9ffe75fdba23877a1b2bb7b9881a8e1771a1c61ff352b175b35"), looks := false }, kinds := [], alts := [], laidByText := true, laidKinds := [.data], laidTests := true, laidLooks := .later }
def MtreeGoneCardSaid : Prop := Claim7.holds Tryz.pinned (.plain (OpenSpec.ofChange mtreeGoneSpec)) mtreeGoneCard

/-- THE TIED CARD OF 'casematelaw15.MtreeOpens'. -/
def mtreeOpensCard : Claim7 := { stood := { row := mtreeOpensRow, standIns := [], harness := (true, "0e62c62f2f9fe9ffe75fdba23877a1b2bb7b9881a8e1771a1c61ff352b175b35"), looks := false }, kinds := [], alts := [], laidByText := true, laidKinds := [.data], laidTests := true, laidLooks := .later }
def MtreeOpensCardSaid : Prop := Claim7.holds Tryz.pinned (.plain (OpenSpec.ofChange mtreeOpensSpec)) mtreeOpensCard

/-- THE TIED CARD OF 'casematelaw15.MtreeNobody'. -/
def mtreeNobodyCard : Claim7 := { stood := { row := mtreeNobodyRow, standIns := [], harness := (true, "0e62c62f2f9fe9ffe75fdba23877a1b2bb7b9881a8e1771a1c61ff352b175b35"), looks := false }, kinds := [], alts := [], laidByText := true, laidKinds := [.data], laidTests := true, laidLooks := .later }
def MtreeNobodyCardSaid : Prop := Claim7.holds Tryz.pinned (.plain (OpenSpec.ofChange mtreeNobodySpec)) mtreeNobodyCard

/-- THE TIED CARD OF 'casematelaw16.WalkOrder'. -/
def walkOrderCard : Claim7 := { stood := { row := walkOrderRow, standIns := [], harness := (true, "0e62c62f2f9fe9ffe75fdba23877a1b2bb7b9881a8e1771a1c61ff352b175b35"), looks := false }, kinds := [], alts := [], laidByText := true, laidKinds := [.data], laidTests := true, laidLooks := .later }
def WalkOrderCardSaid : Prop := Claim7.holds Tryz.pinned (.plain (OpenSpec.ofChange walkOrderSpec)) walkOrderCard

/-- THE TIED CARD OF 'casematelaw16.WalkWhole'. -/
def walkWholeCard : Claim7 := { stood := { row := walkWholeRow, standIns := [], harness := (true, "0e62c62f2f9fe9ffe75fdba23877a1b2bb7b9881a8e1771a1c61ff352b175b35"), looks := false }, kinds := [], alts := [], laidByText := true, laidKinds := [.data], laidTests := true, laidLooks := .later }
def WalkWholeCardSaid : Prop := Claim7.holds Tryz.pinned (.plain (OpenSpec.ofChange walkWholeSpec)) walkWholeCard

/-- THE TIED CARD OF 'casematelaw26.ForestLives'. -/
def forestLivesCard : Claim7 := { stood := { row := forestLivesRow, standIns := [], harness := (true, "0e62c62f2f9fe9ffe75fdba23877a1b2bb7b9881a8e1771a1c61ff352b175b35"), looks := false }, kinds := [], alts := [], laidByText := true, laidKinds := [.data], laidTests := true, laidLooks := .later }
def ForestLivesCardSaid : Prop := Claim7.holds Tryz.pinned (.plain (OpenSpec.ofChange forestLivesSpec)) forestLivesCard

/-- THE TIED CARD OF 'casematelaw26.ForestClones'. -/
def forestClonesCard : Claim7 := { stood := { row := forestClonesRow, standIns := [], harness := (true, "0e62c62f2f9fe9ffe75fdba23877a1b2bb7b9881a8e1771a1c61ff352b175b35"), looks := false }, kinds := [], alts := [], laidByText := true, laidKinds := [.data], laidTests := true, laidLooks := .later }
def ForestClonesCardSaid : Prop := Claim7.holds Tryz.pinned (.plain (OpenSpec.ofChange forestClonesSpec)) forestClonesCard

/-- THE TIED CARD OF 'casematelaw26.ForestOpens'. -/
def forestOpensCard : Claim7 := { stood := { row := forestOpensRow, standIns := [], harness := (true, "0e62c62f2f9fe9ffe75fdba23877a1b2bb7b9881a8e1771a1c61ff352b175b35"), looks := false }, kinds := [], alts := [], laidByText := true, laidKinds := [.data], laidTests := true, laidLooks := .later }
def ForestOpensCardSaid : Prop := Claim7.holds Tryz.pinned (.plain (OpenSpec.ofChange forestOpensSpec)) forestOpensCard

/-- THE TIED CARD OF 'casematelaw26.ForestNobody'. -/
def forestNobodyCard : Claim7 := { stood := { row := forestNobodyRow, standIns := [], harness := (true, "0e62c62f2f9fe9ffe75fdba23877a1b2bb7b9881a8e1771a1c61ff352b175b35"), looks := false }, kinds := [], alts := [], laidByText := true, laidKinds := [.data], laidTests := true, laidLooks := .later }
def ForestNobodyCardSaid : Prop := Claim7.holds Tryz.pinned (.plain (OpenSpec.ofChange forestNobodySpec)) forestNobodyCard

/-- THE TIED CARD OF 'casematelaw16.WalkLives'. -/
def walkLivesCard : Claim7 := { stood := { row := walkLivesRow, standIns := [], harness := (true, "0e62c62f2f9fe9ffe75fdba23877a1b2bb7b9881a8e1771a1c61ff352b175b35"), looks := false }, kinds := [], alts := [], laidByText := true, laidKinds := [.data], laidTests := true, laidLooks := .later }
def WalkLivesCardSaid : Prop := Claim7.holds Tryz.pinned (.plain (OpenSpec.ofChange walkLivesSpec)) walkLivesCard

/-- THE TIED CARD OF 'casematelaw16.WalkNobody'. -/
def walkNobodyCard : Claim7 := { stood := { row := walkNobodyRow, standIns := [], harness := (true, "0e62c62f2f9fe9ffe75fdba23877a1b2bb7b9881a8e1771a1c61ff352b175b35"), looks := false }, kinds := [], alts := [], laidByText := true, laidKinds := [.data], laidTests := true, laidLooks := .later }
def WalkNobodyCardSaid : Prop := Claim7.holds Tryz.pinned (.plain (OpenSpec.ofChange walkNobodySpec)) walkNobodyCard

/-- THE SECOND FORM's CARD OF 'casematelaw15.MtreeLives'. -/
def mtreeLivesUptoCard : Claim7 := { stood := { row := mtreeLivesUptoRow, standIns := [], harness := (true, "0e62c62f2f9fe9ffe75fdba23877a1b2bb7b9881a8e1771a1c61ff352b175b35"), looks := false }, kinds := [], alts := [], laidByText := true, laidKinds := [.data], laidTests := true, laidLooks := .later }
def MtreeLivesUptoCardSaid : Prop := Claim7.holds Tryz.pinned (.plain (OpenSpec.upto mtreeLivesSpec)) mtreeLivesUptoCard

/-- THE SECOND FORM's CARD OF 'casematelaw15.MtreeClones'. -/
def mtreeClonesUptoCard : Claim7 := { stood := { row := mtreeClonesUptoRow, standIns := [], harness := (true, "0e62c62f2f9fe9ffe75fdba23877a1b2bb7b9881a8e1771a1c61ff352b175b35"), looks := false }, kinds := [], alts := [], laidByText := true, laidKinds := [.data], laidTests := true, laidLooks := .later }
def MtreeClonesUptoCardSaid : Prop := Claim7.holds Tryz.pinned (.plain (OpenSpec.upto mtreeClonesSpec)) mtreeClonesUptoCard

/-- THE SECOND FORM's CARD OF 'casematelaw15.MtreeGone'. -/
def mtreeGoneUptoCard : Claim7 := { stood := { row := mtreeGoneUptoRow, standIns := [], harness := (true, "0e62c62f2f9fe9ffe75fdba23877a1b2bb7b9881a8e1771a1c61ff352b175b35"), looks := false }, kinds := [], alts := [], laidByText := true, laidKinds := [.data], laidTests := true, laidLooks := .later }
def MtreeGoneUptoCardSaid : Prop := Claim7.holds Tryz.pinned (.plain (OpenSpec.upto mtreeGoneSpec)) mtreeGoneUptoCard

/-- THE SECOND FORM's CARD OF 'casematelaw15.MtreeOpens'. -/
def mtreeOpensUptoCard : Claim7 := { stood := { row := mtreeOpensUptoRow, standIns := [], harness := (true, "0e62c62f2f9fe9ffe75fdba23877a1b2bb7b9881a8e1771a1c61ff352b175b35"), looks := false }, kinds := [], alts := [], laidByText := true, laidKinds := [.data], laidTests := true, laidLooks := .later }
def MtreeOpensUptoCardSaid : Prop := Claim7.holds Tryz.pinned (.plain (OpenSpec.upto mtreeOpensSpec)) mtreeOpensUptoCard

/-- THE SECOND FORM's CARD OF 'casematelaw15.MtreeNobody'. -/
def mtreeNobodyUptoCard : Claim7 := { stood := { row := mtreeNobodyUptoRow, standIns := [], harness := (true, "0e62c62f2f9fe9ffe75fdba23877a1b2bb7b9881a8e1771a1c61ff352b175b35"), looks := false }, kinds := [], alts := [], laidByText := true, laidKinds := [.data], laidTests := true, laidLooks := .later }
def MtreeNobodyUptoCardSaid : Prop := Claim7.holds Tryz.pinned (.plain (OpenSpec.upto mtreeNobodySpec)) mtreeNobodyUptoCard

/-- THE SECOND FORM's CARD OF 'casematelaw16.WalkOrder'. -/
def walkOrderUptoCard : Claim7 := { stood := { row := walkOrderUptoRow, standIns := [], harness := (true, "0e62c62f2f9fe9ffe75fdba23877a1b2bb7b9881a8e1771a1c61ff352b175b35"), looks := false }, kinds := [], alts := [], laidByText := true, laidKinds := [.data], laidTests := true, laidLooks := .later }
def WalkOrderUptoCardSaid : Prop := Claim7.holds Tryz.pinned (.plain (OpenSpec.upto walkOrderSpec)) walkOrderUptoCard

/-- THE SECOND FORM's CARD OF 'casematelaw16.WalkWhole'. -/
def walkWholeUptoCard : Claim7 := { stood := { row := walkWholeUptoRow, standIns := [], harness := (true, "0e62c62f2f9fe9ffe75fdba23877a1b2bb7b9881a8e1771a1c61ff352b175b35"), looks := false }, kinds := [], alts := [], laidByText := true, laidKinds := [.data], laidTests := true, laidLooks := .later }
def WalkWholeUptoCardSaid : Prop := Claim7.holds Tryz.pinned (.plain (OpenSpec.upto walkWholeSpec)) walkWholeUptoCard

/-- THE SECOND FORM's CARD OF 'casematelaw26.ForestLives'. -/
def forestLivesUptoCard : Claim7 := { stood := { row := forestLivesUptoRow, standIns := [], harness := (true, "0e62c62f2f9fe9ffe75fdba23877a1b2bb7b9881a8e1771a1c61ff352b175b35"), looks := false }, kinds := [], alts := [], laidByText := true, laidKinds := [.data], laidTests := true, laidLooks := .later }
def ForestLivesUptoCardSaid : Prop := Claim7.holds Tryz.pinned (.plain (OpenSpec.upto forestLivesSpec)) forestLivesUptoCard

/-- THE SECOND FORM's CARD OF 'casematelaw26.ForestClones'. -/
def forestClonesUptoCard : Claim7 := { stood := { row := forestClonesUptoRow, standIns := [], harness := (true, "0e62c62f2f9fe9ffe75fdba23877a1b2bb7b9881a8e1771a1c61ff352b175b35"), looks := false }, kinds := [], alts := [], laidByText := true, laidKinds := [.data], laidTests := true, laidLooks := .later }
def ForestClonesUptoCardSaid : Prop := Claim7.holds Tryz.pinned (.plain (OpenSpec.upto forestClonesSpec)) forestClonesUptoCard

/-- THE SECOND FORM's CARD OF 'casematelaw26.ForestOpens'. -/
def forestOpensUptoCard : Claim7 := { stood := { row := forestOpensUptoRow, standIns := [], harness := (true, "0e62c62f2f9fe9ffe75fdba23877a1b2bb7b9881a8e1771a1c61ff352b175b35"), looks := false }, kinds := [], alts := [], laidByText := true, laidKinds := [.data], laidTests := true, laidLooks := .later }
def ForestOpensUptoCardSaid : Prop := Claim7.holds Tryz.pinned (.plain (OpenSpec.upto forestOpensSpec)) forestOpensUptoCard

/-- THE SECOND FORM's CARD OF 'casematelaw26.ForestNobody'. -/
def forestNobodyUptoCard : Claim7 := { stood := { row := forestNobodyUptoRow, standIns := [], harness := (true, "0e62c62f2f9fe9ffe75fdba23877a1b2bb7b9881a8e1771a1c61ff352b175b35"), looks := false }, kinds := [], alts := [], laidByText := true, laidKinds := [.data], laidTests := true, laidLooks := .later }
def ForestNobodyUptoCardSaid : Prop := Claim7.holds Tryz.pinned (.plain (OpenSpec.upto forestNobodySpec)) forestNobodyUptoCard

/-- THE SECOND FORM's CARD OF 'casematelaw16.WalkLives'. -/
def walkLivesUptoCard : Claim7 := { stood := { row := walkLivesUptoRow, standIns := [], harness := (true, "0e62c62f2f9fe9ffe75fdba23877a1b2bb7b9881a8e1771a1c61ff352b175b35"), looks := false }, kinds := [], alts := [], laidByText := true, laidKinds := [.data], laidTests := true, laidLooks := .later }
def WalkLivesUptoCardSaid : Prop := Claim7.holds Tryz.pinned (.plain (OpenSpec.upto walkLivesSpec)) walkLivesUptoCard

/-- THE SECOND FORM's CARD OF 'casematelaw16.WalkNobody'. -/
def walkNobodyUptoCard : Claim7 := { stood := { row := walkNobodyUptoRow, standIns := [], harness := (true, "0e62c62f2f9fe9ffe75fdba23877a1b2bb7b9881a8e1771a1c61ff352b175b35"), looks := false }, kinds := [], alts := [], laidByText := true, laidKinds := [.data], laidTests := true, laidLooks := .later }
def WalkNobodyUptoCardSaid : Prop := Claim7.holds Tryz.pinned (.plain (OpenSpec.upto walkNobodySpec)) walkNobodyUptoCard
end Rows
end Go.Proofs.YtcnpkmdooekmgaaGreatDoor
