/-
  DERIVED. GIVEN WITH THE SEED: THE CARDS: each row of YtlmddncoeikfjaaDoorRows.lean that lists a variable, with what it lists TIED to the program's text (the seventh form; the later family's looks); each row that meets fmt, with fmt's text TOLD by the authors' own Lean function (tested against real Go, not proved from fmt's source: count such statements apart). THE CARD IS WHAT COUNTS. Prove the row's statement (the work); the ties are given (YtlmddncoeikfjaaDoorTie.lean); close each card by the builder's one call (the guide's Derived/Test/ToyasCard.lean, 'card_holds'). Laid BY PROGRAM, IN A SANDBOX (cutbox-door.mjs). By AI agents, Wed Nov 11 2026. No macro, syntax, notation, axiom, sorry.
-/
import Derived.Test.YtlmddncoeikfjaaDoorRows
import GoSem.ClaimSeven
namespace Go.Proofs.YtlmddncoeikfjaaDoor
namespace Rows

/-- THE TIED CARD OF 'augurlaw09.HeadsRefuses'. -/
def headsRefusesCard : Claim7 := { stood := { row := headsRefusesRow, standIns := [], harness := (true, "a08f3d87d430648e5a1413e168991bbea985aaea3e6873e0c08731d6a4b7569e"), looks := false }, kinds := [], alts := [], laidByText := true, laidKinds := [.data], laidTests := true, laidLooks := .later }
def HeadsRefusesCardSaid : Prop := Claim7.holds Tryd.pinned (.plain (OpenSpec.ofChange headsRefusesSpec)) headsRefusesCard

/-- THE TIED CARD OF 'augurlaw15.MedusaCalls'. -/
def medusaCallsCard : Claim7 := { stood := { row := medusaCallsRow, standIns := [], harness := (true, "a08f3d87d430648e5a1413e168991bbea985aaea3e6873e0c08731d6a4b7569e"), looks := false }, kinds := [], alts := [], laidByText := true, laidKinds := [.data], laidTests := true, laidLooks := .later }
def MedusaCallsCardSaid : Prop := Claim7.holds Tryd.pinned (.plain (OpenSpec.ofChange medusaCallsSpec)) medusaCallsCard

/-- THE TIED CARD OF 'augurlaw15.MedusaShape'. -/
def medusaShapeCard : Claim7 := { stood := { row := medusaShapeRow, standIns := [], harness := (true, "a08f3d87d430648e5a1413e168991bbea985aaea3e6873e0c08731d6a4b7569e"), looks := false }, kinds := [], alts := [], laidByText := true, laidKinds := [.data], laidTests := true, laidLooks := .later }
def MedusaShapeCardSaid : Prop := Claim7.holds Tryd.pinned (.plain (OpenSpec.ofChange medusaShapeSpec)) medusaShapeCard

/-- THE TIED CARD OF 'augurlaw15.MedusaBegins'. -/
def medusaBeginsCard : Claim7 := { stood := { row := medusaBeginsRow, standIns := [], harness := (true, "a08f3d87d430648e5a1413e168991bbea985aaea3e6873e0c08731d6a4b7569e"), looks := false }, kinds := [], alts := [], laidByText := true, laidKinds := [.data], laidTests := true, laidLooks := .later }
def MedusaBeginsCardSaid : Prop := Claim7.holds Tryd.pinned (.plain (OpenSpec.ofChange medusaBeginsSpec)) medusaBeginsCard

/-- THE TIED CARD OF 'augurlaw15.MedusaLine'. -/
def medusaLineCard : Claim7 := { stood := { row := medusaLineRow, standIns := [], harness := (true, "a08f3d87d430648e5a1413e168991bbea985aaea3e6873e0c08731d6a4b7569e"), looks := false }, kinds := [], alts := [], laidByText := true, laidKinds := [.data], laidTests := true, laidLooks := .later }
def MedusaLineCardSaid : Prop := Claim7.holds Tryd.pinned (.plain (OpenSpec.ofChange medusaLineSpec)) medusaLineCard

/-- THE TIED CARD OF 'augurlaw15.MedusaClean'. -/
def medusaCleanCard : Claim7 := { stood := { row := medusaCleanRow, standIns := [], harness := (true, "a08f3d87d430648e5a1413e168991bbea985aaea3e6873e0c08731d6a4b7569e"), looks := false }, kinds := [], alts := [], laidByText := true, laidKinds := [.data], laidTests := true, laidLooks := .later }
def MedusaCleanCardSaid : Prop := Claim7.holds Tryd.pinned (.plain (OpenSpec.ofChange medusaCleanSpec)) medusaCleanCard

/-- THE SECOND FORM's CARD OF 'augurlaw09.HeadsRefuses'. -/
def headsRefusesUptoCard : Claim7 := { stood := { row := headsRefusesUptoRow, standIns := [], harness := (true, "a08f3d87d430648e5a1413e168991bbea985aaea3e6873e0c08731d6a4b7569e"), looks := false }, kinds := [], alts := [], laidByText := true, laidKinds := [.data], laidTests := true, laidLooks := .later }
def HeadsRefusesUptoCardSaid : Prop := Claim7.holds Tryd.pinned (.plain (OpenSpec.upto headsRefusesSpec)) headsRefusesUptoCard

/-- THE SECOND FORM's CARD OF 'augurlaw15.MedusaCalls'. -/
def medusaCallsUptoCard : Claim7 := { stood := { row := medusaCallsUptoRow, standIns := [], harness := (true, "a08f3d87d430648e5a1413e168991bbea985aaea3e6873e0c08731d6a4b7569e"), looks := false }, kinds := [], alts := [], laidByText := true, laidKinds := [.data], laidTests := true, laidLooks := .later }
def MedusaCallsUptoCardSaid : Prop := Claim7.holds Tryd.pinned (.plain (OpenSpec.upto medusaCallsSpec)) medusaCallsUptoCard

/-- THE SECOND FORM's CARD OF 'augurlaw15.MedusaShape'. -/
def medusaShapeUptoCard : Claim7 := { stood := { row := medusaShapeUptoRow, standIns := [], harness := (true, "a08f3d87d430648e5a1413e168991bbea985aaea3e6873e0c08731d6a4b7569e"), looks := false }, kinds := [], alts := [], laidByText := true, laidKinds := [.data], laidTests := true, laidLooks := .later }
def MedusaShapeUptoCardSaid : Prop := Claim7.holds Tryd.pinned (.plain (OpenSpec.upto medusaShapeSpec)) medusaShapeUptoCard

/-- THE SECOND FORM's CARD OF 'augurlaw15.MedusaBegins'. -/
def medusaBeginsUptoCard : Claim7 := { stood := { row := medusaBeginsUptoRow, standIns := [], harness := (true, "a08f3d87d430648e5a1413e168991bbea985aaea3e6873e0c08731d6a4b7569e"), looks := false }, kinds := [], alts := [], laidByText := true, laidKinds := [.data], laidTests := true, laidLooks := .later }
def MedusaBeginsUptoCardSaid : Prop := Claim7.holds Tryd.pinned (.plain (OpenSpec.upto medusaBeginsSpec)) medusaBeginsUptoCard

/-- THE SECOND FORM's CARD OF 'augurlaw15.MedusaLine'. -/
def medusaLineUptoCard : Claim7 := { stood := { row := medusaLineUptoRow, standIns := [], harness := (true, "a08f3d87d430648e5a1413e168991bbea985aaea3e6873e0c08731d6a4b7569e"), looks := false }, kinds := [], alts := [], laidByText := true, laidKinds := [.data], laidTests := true, laidLooks := .later }
def MedusaLineUptoCardSaid : Prop := Claim7.holds Tryd.pinned (.plain (OpenSpec.upto medusaLineSpec)) medusaLineUptoCard

/-- THE SECOND FORM's CARD OF 'augurlaw15.MedusaClean'. -/
def medusaCleanUptoCard : Claim7 := { stood := { row := medusaCleanUptoRow, standIns := [], harness := (true, "a08f3d87d430648e5a1413e168991bbea985aaea3e6873e0c08731d6a4b7569e"), looks := false }, kinds := [], alts := [], laidByText := true, laidKinds := [.data], laidTests := true, laidLooks := .later }
def MedusaCleanUptoCardSaid : Prop := Claim7.holds Tryd.pinned (.plain (OpenSpec.upto medusaCleanSpec)) medusaCleanUptoCard
end Rows
end Go.Proofs.YtlmddncoeikfjaaDoor
