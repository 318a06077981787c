/-
  DERIVED. GIVEN WITH THE SEED: THE CARDS: each row of YtnhejdelcopphaaDoorRows.lean that lists a variable, with what it lists TIED to the program's text (the seventh form; the later family's looks); each row that meets fmt, with fmt's text TOLD by the authors' own Lean function (tested against real Go, not proved from fmt's source: count such statements apart). THE CARD IS WHAT COUNTS. Prove the row's statement (the work); the ties are given (YtnhejdelcopphaaDoorTie.lean); close each card by the builder's one call (the guide's Derived/Test/ToyasCard.lean, 'card_holds'). Laid BY PROGRAM, IN A SANDBOX (cutbox-door.mjs). By AI agents, Wed Nov 11 2026. No macro, syntax, notation, axiom, sorry.
-/
import Derived.Test.YtnhejdelcopphaaDoorRows
import GoSem.ClaimSeven
namespace Go.Proofs.YtnhejdelcopphaaDoor
namespace Rows

/-- THE TIED CARD OF 'laws.FnExactFieldBare'. -/
def fnExactFieldBareCard : Claim7 := { stood := { row := fnExactFieldBareRow, standIns := [], harness := (true, "37275e1c1573dbefdcd61b167bb05afc4764db89c147d1b055141bb1f6fcdc73"), looks := false }, kinds := [], alts := [], laidByText := true, laidKinds := [.data, .pinned], laidTests := true, laidLooks := .later }
def FnExactFieldBareCardSaid : Prop := Claim7.holds Tryd.pinned (.plain (OpenSpec.ofChange fnExactFieldBareSpec)) fnExactFieldBareCard

/-- THE TIED CARD OF 'laws.FnExactCut'. -/
def fnExactCutCard : Claim7 := { stood := { row := fnExactCutRow, standIns := [], harness := (true, "37275e1c1573dbefdcd61b167bb05afc4764db89c147d1b055141bb1f6fcdc73"), looks := false }, kinds := [], alts := [], laidByText := true, laidKinds := [.data, .pinned], laidTests := true, laidLooks := .later }
def FnExactCutCardSaid : Prop := Claim7.holds Tryd.pinned (.plain (OpenSpec.ofChange fnExactCutSpec)) fnExactCutCard

/-- THE TIED CARD OF 'laws.FnExactLines'. -/
def fnExactLinesCard : Claim7 := { stood := { row := fnExactLinesRow, standIns := [], harness := (true, "37275e1c1573dbefdcd61b167bb05afc4764db89c147d1b055141bb1f6fcdc73"), looks := false }, kinds := [], alts := [], laidByText := true, laidKinds := [.data, .pinned], laidTests := true, laidLooks := .later }
def FnExactLinesCardSaid : Prop := Claim7.holds Tryd.pinned (.plain (OpenSpec.ofChange fnExactLinesSpec)) fnExactLinesCard

/-- THE SECOND FORM's CARD OF 'laws.FnExactFieldBare'. -/
def fnExactFieldBareUptoCard : Claim7 := { stood := { row := fnExactFieldBareUptoRow, standIns := [], harness := (true, "37275e1c1573dbefdcd61b167bb05afc4764db89c147d1b055141bb1f6fcdc73"), looks := false }, kinds := [], alts := [], laidByText := true, laidKinds := [.data, .pinned], laidTests := true, laidLooks := .later }
def FnExactFieldBareUptoCardSaid : Prop := Claim7.holds Tryd.pinned (.plain (OpenSpec.upto fnExactFieldBareSpec)) fnExactFieldBareUptoCard

/-- THE SECOND FORM's CARD OF 'laws.FnExactCut'. -/
def fnExactCutUptoCard : Claim7 := { stood := { row := fnExactCutUptoRow, standIns := [], harness := (true, "37275e1c1573dbefdcd61b167bb05afc4764db89c147d1b055141bb1f6fcdc73"), looks := false }, kinds := [], alts := [], laidByText := true, laidKinds := [.data, .pinned], laidTests := true, laidLooks := .later }
def FnExactCutUptoCardSaid : Prop := Claim7.holds Tryd.pinned (.plain (OpenSpec.upto fnExactCutSpec)) fnExactCutUptoCard

/-- THE SECOND FORM's CARD OF 'laws.FnExactLines'. -/
def fnExactLinesUptoCard : Claim7 := { stood := { row := fnExactLinesUptoRow, standIns := [], harness := (true, "37275e1c1573dbefdcd61b167bb05afc4764db89c147d1b055141bb1f6fcdc73"), looks := false }, kinds := [], alts := [], laidByText := true, laidKinds := [.data, .pinned], laidTests := true, laidLooks := .later }
def FnExactLinesUptoCardSaid : Prop := Claim7.holds Tryd.pinned (.plain (OpenSpec.upto fnExactLinesSpec)) fnExactLinesUptoCard
end Rows
end Go.Proofs.YtnhejdelcopphaaDoor
