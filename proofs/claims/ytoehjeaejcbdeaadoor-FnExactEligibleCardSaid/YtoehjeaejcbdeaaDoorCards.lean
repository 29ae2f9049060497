/-
  DERIVED. GIVEN WITH THE SEED: THE CARDS: each row of YtoehjeaejcbdeaaDoorRows.lean that lists a variable, with what it lists TIED to the program's text (the seventh form; the later family's looks); each row that meets fmt, with fmt's text TOLD by the authors' own Lean function (tested against real Go, not proved from fmt's source: count such statements apart). THE CARD IS WHAT COUNTS. Prove the row's statement (the work); the ties are given (YtoehjeaejcbdeaaDoorTie.lean); close each card by the builder's one call (the guide's Derived/Test/ToyasCard.lean, 'card_holds'). Laid BY PROGRAM, IN A SANDBOX (cutbox-door.mjs). By AI agents, Wed Nov 11 2026. No macro, syntax, notation, axiom, sorry.
-/
import Derived.Test.YtoehjeaejcbdeaaDoorRows
import GoSem.ClaimSeven
namespace Go.Proofs.YtoehjeaejcbdeaaDoor
namespace Rows

/-- THE TIED CARD OF 'laws.FnExactEligible'. -/
def fnExactEligibleCard : Claim7 := { stood := { row := fnExactEligibleRow, standIns := [], harness := (true, "abf268f89714553fe6debbdf1721fc6f4216d6604cfcda26a657bf7e232f37be"), looks := true }, kinds := [], alts := [], laidByText := true, laidKinds := [.data], laidTests := true, laidLooks := .later }
def FnExactEligibleCardSaid : Prop := Claim7.holds Tryd.pinned (.plain (OpenSpec.ofChange fnExactEligibleSpec)) fnExactEligibleCard

/-- THE TIED CARD OF 'laws.FnExactValidIndex'. -/
def fnExactValidIndexCard : Claim7 := { stood := { row := fnExactValidIndexRow, standIns := [], harness := (true, "abf268f89714553fe6debbdf1721fc6f4216d6604cfcda26a657bf7e232f37be"), looks := true }, kinds := [], alts := [], laidByText := true, laidKinds := [.data], laidTests := true, laidLooks := .later }
def FnExactValidIndexCardSaid : Prop := Claim7.holds Tryd.pinned (.plain (OpenSpec.ofChange fnExactValidIndexSpec)) fnExactValidIndexCard

/-- THE TIED CARD OF 'laws.FnExactCountQuads'. -/
def fnExactCountQuadsCard : Claim7 := { stood := { row := fnExactCountQuadsRow, standIns := [], harness := (true, "abf268f89714553fe6debbdf1721fc6f4216d6604cfcda26a657bf7e232f37be"), looks := true }, kinds := [], alts := [], laidByText := true, laidKinds := [.data], laidTests := true, laidLooks := .later }
def FnExactCountQuadsCardSaid : Prop := Claim7.holds Tryd.pinned (.plain (OpenSpec.ofChange fnExactCountQuadsSpec)) fnExactCountQuadsCard

/-- THE TIED CARD OF 'laws.FnExactScanQuads'. -/
def fnExactScanQuadsCard : Claim7 := { stood := { row := fnExactScanQuadsRow, standIns := [], harness := (true, "abf268f89714553fe6debbdf1721fc6f4216d6604cfcda26a657bf7e232f37be"), looks := true }, kinds := [], alts := [], laidByText := true, laidKinds := [.data], laidTests := true, laidLooks := .later }
def FnExactScanQuadsCardSaid : Prop := Claim7.holds Tryd.pinned (.plain (OpenSpec.ofChange fnExactScanQuadsSpec)) fnExactScanQuadsCard

/-- THE SECOND FORM's CARD OF 'laws.FnExactEligible'. -/
def fnExactEligibleUptoCard : Claim7 := { stood := { row := fnExactEligibleUptoRow, standIns := [], harness := (true, "abf268f89714553fe6debbdf1721fc6f4216d6604cfcda26a657bf7e232f37be"), looks := true }, kinds := [], alts := [], laidByText := true, laidKinds := [.data], laidTests := true, laidLooks := .later }
def FnExactEligibleUptoCardSaid : Prop := Claim7.holds Tryd.pinned (.plain (OpenSpec.upto fnExactEligibleSpec)) fnExactEligibleUptoCard

/-- THE SECOND FORM's CARD OF 'laws.FnExactValidIndex'. -/
def fnExactValidIndexUptoCard : Claim7 := { stood := { row := fnExactValidIndexUptoRow, standIns := [], harness := (true, "abf268f89714553fe6debbdf1721fc6f4216d6604cfcda26a657bf7e232f37be"), looks := true }, kinds := [], alts := [], laidByText := true, laidKinds := [.data], laidTests := true, laidLooks := .later }
def FnExactValidIndexUptoCardSaid : Prop := Claim7.holds Tryd.pinned (.plain (OpenSpec.upto fnExactValidIndexSpec)) fnExactValidIndexUptoCard

/-- THE SECOND FORM's CARD OF 'laws.FnExactCountQuads'. -/
def fnExactCountQuadsUptoCard : Claim7 := { stood := { row := fnExactCountQuadsUptoRow, standIns := [], harness := (true, "abf268f89714553fe6debbdf1721fc6f4216d6604cfcda26a657bf7e232f37be"), looks := true }, kinds := [], alts := [], laidByText := true, laidKinds := [.data], laidTests := true, laidLooks := .later }
def FnExactCountQuadsUptoCardSaid : Prop := Claim7.holds Tryd.pinned (.plain (OpenSpec.upto fnExactCountQuadsSpec)) fnExactCountQuadsUptoCard

/-- THE SECOND FORM's CARD OF 'laws.FnExactScanQuads'. -/
def fnExactScanQuadsUptoCard : Claim7 := { stood := { row := fnExactScanQuadsUptoRow, standIns := [], harness := (true, "abf268f89714553fe6debbdf1721fc6f4216d6604cfcda26a657bf7e232f37be"), looks := true }, kinds := [], alts := [], laidByText := true, laidKinds := [.data], laidTests := true, laidLooks := .later }
def FnExactScanQuadsUptoCardSaid : Prop := Claim7.holds Tryd.pinned (.plain (OpenSpec.upto fnExactScanQuadsSpec)) fnExactScanQuadsUptoCard
end Rows
end Go.Proofs.YtoehjeaejcbdeaaDoor
