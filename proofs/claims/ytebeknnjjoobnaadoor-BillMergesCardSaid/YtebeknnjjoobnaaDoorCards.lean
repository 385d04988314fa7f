/-
  DERIVED. GIVEN WITH THE SEED: THE CARDS: each row of YtebeknnjjoobnaaDoorRows.lean that lists a variable, with what it lists TIED to the program's text (the seventh form; the later family's looks); each row that meets fmt, with fmt's text TOLD by the authors' own Lean function (tested against real Go, not proved from fmt's source: count such statements apart). THE CARD IS WHAT COUNTS. Prove the row's statement (the work); the ties are given (YtebeknnjjoobnaaDoorTie.lean); close each card by the builder's one call (the guide's Derived/Test/ToyasCard.lean, 'card_holds'). Laid BY PROGRAM, IN A SANDBOX (cutbox-door.mjs). By AI agents, Wed Nov 11 2026. No macro, syntax, notation, axiom, sorry.
-/
import Derived.Test.YtebeknnjjoobnaaDoorRows
import GoSem.ClaimSeven
namespace Go.Proofs.YtebeknnjjoobnaaDoor
namespace Rows

/-- THE TIED CARD OF 'floodgatelaw26.BillRows'. -/
def billRowsCard : Claim7 := { stood := { row := billRowsRow, standIns := [], harness := (true, "89584a6fed4ab997ef5b0e3d2c69f21969168ef004b5d23ae3b96466ff7ba3ee"), looks := false }, kinds := [], alts := [], laidByText := true, laidKinds := [.data, .data, .data], laidTests := true, laidLooks := .later }
def BillRowsCardSaid : Prop := Claim7.holds Tryd.pinned (.plain (OpenSpec.ofChange billRowsSpec)) billRowsCard

/-- THE TIED CARD OF 'floodgatelaw26.BillMerges'. -/
def billMergesCard : Claim7 := { stood := { row := billMergesRow, standIns := [], harness := (true, "89584a6fed4ab997ef5b0e3d2c69f21969168ef004b5d23ae3b96466ff7ba3ee"), looks := false }, kinds := [], alts := [], laidByText := true, laidKinds := [.data, .data, .data], laidTests := true, laidLooks := .later }
def BillMergesCardSaid : Prop := Claim7.holds Tryd.pinned (.plain (OpenSpec.ofChange billMergesSpec)) billMergesCard

/-- THE TIED CARD OF 'floodgatelaw26.BillParts'. -/
def billPartsCard : Claim7 := { stood := { row := billPartsRow, standIns := [], harness := (true, "89584a6fed4ab997ef5b0e3d2c69f21969168ef004b5d23ae3b96466ff7ba3ee"), looks := false }, kinds := [], alts := [], laidByText := true, laidKinds := [.data, .data, .data], laidTests := true, laidLooks := .later }
def BillPartsCardSaid : Prop := Claim7.holds Tryd.pinned (.plain (OpenSpec.ofChange billPartsSpec)) billPartsCard

/-- THE TIED CARD OF 'floodgatelaw26.BillNames'. -/
def billNamesCard : Claim7 := { stood := { row := billNamesRow, standIns := [], harness := (true, "89584a6fed4ab997ef5b0e3d2c69f21969168ef004b5d23ae3b96466ff7ba3ee"), looks := false }, kinds := [], alts := [], laidByText := true, laidKinds := [.data, .data, .data], laidTests := true, laidLooks := .later }
def BillNamesCardSaid : Prop := Claim7.holds Tryd.pinned (.plain (OpenSpec.ofChange billNamesSpec)) billNamesCard

/-- THE TIED CARD OF 'floodgatelaw26.BillTotals'. -/
def billTotalsCard : Claim7 := { stood := { row := billTotalsRow, standIns := [], harness := (true, "89584a6fed4ab997ef5b0e3d2c69f21969168ef004b5d23ae3b96466ff7ba3ee"), looks := false }, kinds := [], alts := [], laidByText := true, laidKinds := [.data, .data, .data], laidTests := true, laidLooks := .later }
def BillTotalsCardSaid : Prop := Claim7.holds Tryd.pinned (.plain (OpenSpec.ofChange billTotalsSpec)) billTotalsCard

/-- THE SECOND FORM's CARD OF 'floodgatelaw26.BillRows'. -/
def billRowsUptoCard : Claim7 := { stood := { row := billRowsUptoRow, standIns := [], harness := (true, "89584a6fed4ab997ef5b0e3d2c69f21969168ef004b5d23ae3b96466ff7ba3ee"), looks := false }, kinds := [], alts := [], laidByText := true, laidKinds := [.data, .data, .data], laidTests := true, laidLooks := .later }
def BillRowsUptoCardSaid : Prop := Claim7.holds Tryd.pinned (.plain (OpenSpec.upto billRowsSpec)) billRowsUptoCard

/-- THE SECOND FORM's CARD OF 'floodgatelaw26.BillMerges'. -/
def billMergesUptoCard : Claim7 := { stood := { row := billMergesUptoRow, standIns := [], harness := (true, "89584a6fed4ab997ef5b0e3d2c69f21969168ef004b5d23ae3b96466ff7ba3ee"), looks := false }, kinds := [], alts := [], laidByText := true, laidKinds := [.data, .data, .data], laidTests := true, laidLooks := .later }
def BillMergesUptoCardSaid : Prop := Claim7.holds Tryd.pinned (.plain (OpenSpec.upto billMergesSpec)) billMergesUptoCard

/-- THE SECOND FORM's CARD OF 'floodgatelaw26.BillParts'. -/
def billPartsUptoCard : Claim7 := { stood := { row := billPartsUptoRow, standIns := [], harness := (true, "89584a6fed4ab997ef5b0e3d2c69f21969168ef004b5d23ae3b96466ff7ba3ee"), looks := false }, kinds := [], alts := [], laidByText := true, laidKinds := [.data, .data, .data], laidTests := true, laidLooks := .later }
def BillPartsUptoCardSaid : Prop := Claim7.holds Tryd.pinned (.plain (OpenSpec.upto billPartsSpec)) billPartsUptoCard

/-- THE SECOND FORM's CARD OF 'floodgatelaw26.BillNames'. -/
def billNamesUptoCard : Claim7 := { stood := { row := billNamesUptoRow, standIns := [], harness := (true, "89584a6fed4ab997ef5b0e3d2c69f21969168ef004b5d23ae3b96466ff7ba3ee"), looks := false }, kinds := [], alts := [], laidByText := true, laidKinds := [.data, .data, .data], laidTests := true, laidLooks := .later }
def BillNamesUptoCardSaid : Prop := Claim7.holds Tryd.pinned (.plain (OpenSpec.upto billNamesSpec)) billNamesUptoCard

/-- THE SECOND FORM's CARD OF 'floodgatelaw26.BillTotals'. -/
def billTotalsUptoCard : Claim7 := { stood := { row := billTotalsUptoRow, standIns := [], harness := (true, "89584a6fed4ab997ef5b0e3d2c69f21969168ef004b5d23ae3b96466ff7ba3ee"), looks := false }, kinds := [], alts := [], laidByText := true, laidKinds := [.data, .data, .data], laidTests := true, laidLooks := .later }
def BillTotalsUptoCardSaid : Prop := Claim7.holds Tryd.pinned (.plain (OpenSpec.upto billTotalsSpec)) billTotalsUptoCard
end Rows
end Go.Proofs.YtebeknnjjoobnaaDoor
