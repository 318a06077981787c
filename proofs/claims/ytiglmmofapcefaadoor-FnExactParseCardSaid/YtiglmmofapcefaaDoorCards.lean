/-
  DERIVED. GIVEN WITH THE SEED: THE CARDS: each row of YtiglmmofapcefaaDoorRows.lean that lists a variable, with what it lists TIED to the program's text (the seventh form; the later family's looks); each row that meets fmt, with fmt's text TOLD by the authors' own Lean function (tested against real Go, not proved from fmt's source: count such statements apart). THE CARD IS WHAT COUNTS. Prove the row's statement (the work); the ties are given (YtiglmmofapcefaaDoorTie.lean); close each card by the builder's one call (the guide's Derived/Test/ToyasCard.lean, 'card_holds'). Laid BY PROGRAM, IN A SANDBOX (cutbox-door.mjs). By AI agents, Wed Nov 11 2026. No macro, syntax, notation, axiom, sorry.
-/
import Derived.Test.YtiglmmofapcefaaDoorRows
import GoSem.ClaimSeven
namespace Go.Proofs.YtiglmmofapcefaaDoor
namespace Rows

/-- THE TIED CARD OF 'laws.FnExactNumText'. -/
def fnExactNumTextCard : Claim7 := { stood := { row := fnExactNumTextRow, standIns := [], harness := (true, "e319ee1b9ad5d5822beadd882dd403e21ec2a96a5af03b9775b81c9845301121"), looks := true }, kinds := [], alts := [], laidByText := true, laidKinds := [.data, .data, .data], laidTests := true, laidLooks := .later }
def FnExactNumTextCardSaid : Prop := Claim7.holds Tryd.pinned (.plain (OpenSpec.ofChange fnExactNumTextSpec)) fnExactNumTextCard

/-- THE TIED CARD OF 'laws.FnExactWide'. -/
def fnExactWideCard : Claim7 := { stood := { row := fnExactWideRow, standIns := [], harness := (true, "e319ee1b9ad5d5822beadd882dd403e21ec2a96a5af03b9775b81c9845301121"), looks := true }, kinds := [], alts := [], laidByText := true, laidKinds := [.data, .data, .data], laidTests := true, laidLooks := .later }
def FnExactWideCardSaid : Prop := Claim7.holds Tryd.pinned (.plain (OpenSpec.ofChange fnExactWideSpec)) fnExactWideCard

/-- THE TIED CARD OF 'laws.FnExactNarrow'. -/
def fnExactNarrowCard : Claim7 := { stood := { row := fnExactNarrowRow, standIns := [], harness := (true, "e319ee1b9ad5d5822beadd882dd403e21ec2a96a5af03b9775b81c9845301121"), looks := true }, kinds := [], alts := [], laidByText := true, laidKinds := [.data, .data, .data, .sentinel, .sentinel], laidTests := true, laidLooks := .later }
def FnExactNarrowCardSaid : Prop := Claim7.holds Tryd.pinned (.plain (OpenSpec.ofChange fnExactNarrowSpec)) fnExactNarrowCard

/-- THE TIED CARD OF 'laws.FnExactTextNum'. -/
def fnExactTextNumCard : Claim7 := { stood := { row := fnExactTextNumRow, standIns := [], harness := (true, "e319ee1b9ad5d5822beadd882dd403e21ec2a96a5af03b9775b81c9845301121"), looks := true }, kinds := [], alts := [], laidByText := true, laidKinds := [.data, .data, .data, .sentinel, .sentinel], laidTests := true, laidLooks := .later }
def FnExactTextNumCardSaid : Prop := Claim7.holds Tryd.pinned (.plain (OpenSpec.ofChange fnExactTextNumSpec)) fnExactTextNumCard

/-- THE TIED CARD OF 'laws.FnExactPutLen'. -/
def fnExactPutLenCard : Claim7 := { stood := { row := fnExactPutLenRow, standIns := [], harness := (true, "e319ee1b9ad5d5822beadd882dd403e21ec2a96a5af03b9775b81c9845301121"), looks := true }, kinds := [], alts := [], laidByText := true, laidKinds := [.data, .data, .data], laidTests := true, laidLooks := .later }
def FnExactPutLenCardSaid : Prop := Claim7.holds Tryd.pinned (.plain (OpenSpec.ofChange fnExactPutLenSpec)) fnExactPutLenCard

/-- THE TIED CARD OF 'laws.FnExactGetLen'. -/
def fnExactGetLenCard : Claim7 := { stood := { row := fnExactGetLenRow, standIns := [], harness := (true, "e319ee1b9ad5d5822beadd882dd403e21ec2a96a5af03b9775b81c9845301121"), looks := true }, kinds := [], alts := [], laidByText := true, laidKinds := [.data, .data, .data, .sentinel, .sentinel], laidTests := true, laidLooks := .later }
def FnExactGetLenCardSaid : Prop := Claim7.holds Tryd.pinned (.plain (OpenSpec.ofChange fnExactGetLenSpec)) fnExactGetLenCard

/-- THE TIED CARD OF 'laws.FnExactPutField'. -/
def fnExactPutFieldCard : Claim7 := { stood := { row := fnExactPutFieldRow, standIns := [], harness := (true, "e319ee1b9ad5d5822beadd882dd403e21ec2a96a5af03b9775b81c9845301121"), looks := true }, kinds := [], alts := [], laidByText := true, laidKinds := [.data, .data, .data], laidTests := true, laidLooks := .later }
def FnExactPutFieldCardSaid : Prop := Claim7.holds Tryd.pinned (.plain (OpenSpec.ofChange fnExactPutFieldSpec)) fnExactPutFieldCard

/-- THE TIED CARD OF 'laws.FnExactGetField'. -/
def fnExactGetFieldCard : Claim7 := { stood := { row := fnExactGetFieldRow, standIns := [], harness := (true, "e319ee1b9ad5d5822beadd882dd403e21ec2a96a5af03b9775b81c9845301121"), looks := true }, kinds := [], alts := [], laidByText := true, laidKinds := [.data, .data, .data, .sentinel, .sentinel], laidTests := true, laidLooks := .later }
def FnExactGetFieldCardSaid : Prop := Claim7.holds Tryd.pinned (.plain (OpenSpec.ofChange fnExactGetFieldSpec)) fnExactGetFieldCard

/-- THE TIED CARD OF 'laws.FnExactEncode'. -/
def fnExactEncodeCard : Claim7 := { stood := { row := fnExactEncodeRow, standIns := [], harness := (true, "e319ee1b9ad5d5822beadd882dd403e21ec2a96a5af03b9775b81c9845301121"), looks := true }, kinds := [], alts := [], laidByText := true, laidKinds := [.data, .data, .data], laidTests := true, laidLooks := .later }
def FnExactEncodeCardSaid : Prop := Claim7.holds Tryd.pinned (.plain (OpenSpec.ofChange fnExactEncodeSpec)) fnExactEncodeCard

/-- THE TIED CARD OF 'laws.FnExactParse'. -/
def fnExactParseCard : Claim7 := { stood := { row := fnExactParseRow, standIns := [], harness := (true, "e319ee1b9ad5d5822beadd882dd403e21ec2a96a5af03b9775b81c9845301121"), looks := true }, kinds := [], alts := [], laidByText := true, laidKinds := [.data, .data, .data, .sentinel, .sentinel], laidTests := true, laidLooks := .later }
def FnExactParseCardSaid : Prop := Claim7.holds Tryd.pinned (.plain (OpenSpec.ofChange fnExactParseSpec)) fnExactParseCard

/-- THE TIED CARD OF 'laws.FnParse'. -/
def fnParseCard : Claim7 := { stood := { row := fnParseRow, standIns := [], harness := (true, "e319ee1b9ad5d5822beadd882dd403e21ec2a96a5af03b9775b81c9845301121"), looks := true }, kinds := [], alts := [], laidByText := true, laidKinds := [.data, .data, .data, .sentinel, .sentinel], laidTests := true, laidLooks := .later }
def FnParseCardSaid : Prop := Claim7.holds Tryd.pinned (.plain (OpenSpec.ofChange fnParseSpec)) fnParseCard

/-- THE TIED CARD OF 'laws.FnBytes'. -/
def fnBytesCard : Claim7 := { stood := { row := fnBytesRow, standIns := [], harness := (true, "e319ee1b9ad5d5822beadd882dd403e21ec2a96a5af03b9775b81c9845301121"), looks := true }, kinds := [], alts := [], laidByText := true, laidKinds := [.data, .data, .data, .sentinel, .sentinel], laidTests := true, laidLooks := .later }
def FnBytesCardSaid : Prop := Claim7.holds Tryd.pinned (.plain (OpenSpec.ofChange fnBytesSpec)) fnBytesCard

/-- THE TIED CARD OF 'laws.FnDigits'. -/
def fnDigitsCard : Claim7 := { stood := { row := fnDigitsRow, standIns := [], harness := (true, "e319ee1b9ad5d5822beadd882dd403e21ec2a96a5af03b9775b81c9845301121"), looks := true }, kinds := [], alts := [], laidByText := true, laidKinds := [.data, .data, .data, .sentinel, .sentinel], laidTests := true, laidLooks := .later }
def FnDigitsCardSaid : Prop := Claim7.holds Tryd.pinned (.plain (OpenSpec.ofChange fnDigitsSpec)) fnDigitsCard

/-- THE TIED CARD OF 'laws.FnField'. -/
def fnFieldCard : Claim7 := { stood := { row := fnFieldRow, standIns := [], harness := (true, "e319ee1b9ad5d5822beadd882dd403e21ec2a96a5af03b9775b81c9845301121"), looks := true }, kinds := [], alts := [], laidByText := true, laidKinds := [.data, .data, .data, .sentinel, .sentinel], laidTests := true, laidLooks := .later }
def FnFieldCardSaid : Prop := Claim7.holds Tryd.pinned (.plain (OpenSpec.ofChange fnFieldSpec)) fnFieldCard

/-- THE SECOND FORM's CARD OF 'laws.FnExactNumText'. -/
def fnExactNumTextUptoCard : Claim7 := { stood := { row := fnExactNumTextUptoRow, standIns := [], harness := (true, "e319ee1b9ad5d5822beadd882dd403e21ec2a96a5af03b9775b81c9845301121"), looks := true }, kinds := [], alts := [], laidByText := true, laidKinds := [.data, .data, .data], laidTests := true, laidLooks := .later }
def FnExactNumTextUptoCardSaid : Prop := Claim7.holds Tryd.pinned (.plain (OpenSpec.upto fnExactNumTextSpec)) fnExactNumTextUptoCard

/-- THE SECOND FORM's CARD OF 'laws.FnExactWide'. -/
def fnExactWideUptoCard : Claim7 := { stood := { row := fnExactWideUptoRow, standIns := [], harness := (true, "e319ee1b9ad5d5822beadd882dd403e21ec2a96a5af03b9775b81c9845301121"), looks := true }, kinds := [], alts := [], laidByText := true, laidKinds := [.data, .data, .data], laidTests := true, laidLooks := .later }
def FnExactWideUptoCardSaid : Prop := Claim7.holds Tryd.pinned (.plain (OpenSpec.upto fnExactWideSpec)) fnExactWideUptoCard

/-- THE SECOND FORM's CARD OF 'laws.FnExactNarrow'. -/
def fnExactNarrowUptoCard : Claim7 := { stood := { row := fnExactNarrowUptoRow, standIns := [], harness := (true, "e319ee1b9ad5d5822beadd882dd403e21ec2a96a5af03b9775b81c9845301121"), looks := true }, kinds := [], alts := [], laidByText := true, laidKinds := [.data, .data, .data, .sentinel, .sentinel], laidTests := true, laidLooks := .later }
def FnExactNarrowUptoCardSaid : Prop := Claim7.holds Tryd.pinned (.plain (OpenSpec.upto fnExactNarrowSpec)) fnExactNarrowUptoCard

/-- THE SECOND FORM's CARD OF 'laws.FnExactTextNum'. -/
def fnExactTextNumUptoCard : Claim7 := { stood := { row := fnExactTextNumUptoRow, standIns := [], harness := (true, "e319ee1b9ad5d5822beadd882dd403e21ec2a96a5af03b9775b81c9845301121"), looks := true }, kinds := [], alts := [], laidByText := true, laidKinds := [.data, .data, .data, .sentinel, .sentinel], laidTests := true, laidLooks := .later }
def FnExactTextNumUptoCardSaid : Prop := Claim7.holds Tryd.pinned (.plain (OpenSpec.upto fnExactTextNumSpec)) fnExactTextNumUptoCard

/-- THE SECOND FORM's CARD OF 'laws.FnExactPutLen'. -/
def fnExactPutLenUptoCard : Claim7 := { stood := { row := fnExactPutLenUptoRow, standIns := [], harness := (true, "e319ee1b9ad5d5822beadd882dd403e21ec2a96a5af03b9775b81c9845301121"), looks := true }, kinds := [], alts := [], laidByText := true, laidKinds := [.data, .data, .data], laidTests := true, laidLooks := .later }
def FnExactPutLenUptoCardSaid : Prop := Claim7.holds Tryd.pinned (.plain (OpenSpec.upto fnExactPutLenSpec)) fnExactPutLenUptoCard

/-- THE SECOND FORM's CARD OF 'laws.FnExactGetLen'. -/
def fnExactGetLenUptoCard : Claim7 := { stood := { row := fnExactGetLenUptoRow, standIns := [], harness := (true, "e319ee1b9ad5d5822beadd882dd403e21ec2a96a5af03b9775b81c9845301121"), looks := true }, kinds := [], alts := [], laidByText := true, laidKinds := [.data, .data, .data, .sentinel, .sentinel], laidTests := true, laidLooks := .later }
def FnExactGetLenUptoCardSaid : Prop := Claim7.holds Tryd.pinned (.plain (OpenSpec.upto fnExactGetLenSpec)) fnExactGetLenUptoCard

/-- THE SECOND FORM's CARD OF 'laws.FnExactPutField'. -/
def fnExactPutFieldUptoCard : Claim7 := { stood := { row := fnExactPutFieldUptoRow, standIns := [], harness := (true, "e319ee1b9ad5d5822beadd882dd403e21ec2a96a5af03b9775b81c9845301121"), looks := true }, kinds := [], alts := [], laidByText := true, laidKinds := [.data, .data, .data], laidTests := true, laidLooks := .later }
def FnExactPutFieldUptoCardSaid : Prop := Claim7.holds Tryd.pinned (.plain (OpenSpec.upto fnExactPutFieldSpec)) fnExactPutFieldUptoCard

/-- THE SECOND FORM's CARD OF 'laws.FnExactGetField'. -/
def fnExactGetFieldUptoCard : Claim7 := { stood := { row := fnExactGetFieldUptoRow, standIns := [], harness := (true, "e319ee1b9ad5d5822beadd882dd403e21ec2a96a5af03b9775b81c9845301121"), looks := true }, kinds := [], alts := [], laidByText := true, laidKinds := [.data, .data, .data, .sentinel, .sentinel], laidTests := true, laidLooks := .later }
def FnExactGetFieldUptoCardSaid : Prop := Claim7.holds Tryd.pinned (.plain (OpenSpec.upto fnExactGetFieldSpec)) fnExactGetFieldUptoCard

/-- THE SECOND FORM's CARD OF 'laws.FnExactEncode'. -/
def fnExactEncodeUptoCard : Claim7 := { stood := { row := fnExactEncodeUptoRow, standIns := [], harness := (true, "e319ee1b9ad5d5822beadd882dd403e21ec2a96a5af03b9775b81c9845301121"), looks := true }, kinds := [], alts := [], laidByText := true, laidKinds := [.data, .data, .data], laidTests := true, laidLooks := .later }
def FnExactEncodeUptoCardSaid : Prop := Claim7.holds Tryd.pinned (.plain (OpenSpec.upto fnExactEncodeSpec)) fnExactEncodeUptoCard

/-- THE SECOND FORM's CARD OF 'laws.FnExactParse'. -/
def fnExactParseUptoCard : Claim7 := { stood := { row := fnExactParseUptoRow, standIns := [], harness := (true, "e319ee1b9ad5d5822beadd882dd403e21ec2a96a5af03b9775b81c9845301121"), looks := true }, kinds := [], alts := [], laidByText := true, laidKinds := [.data, .data, .data, .sentinel, .sentinel], laidTests := true, laidLooks := .later }
def FnExactParseUptoCardSaid : Prop := Claim7.holds Tryd.pinned (.plain (OpenSpec.upto fnExactParseSpec)) fnExactParseUptoCard

/-- THE SECOND FORM's CARD OF 'laws.FnParse'. -/
def fnParseUptoCard : Claim7 := { stood := { row := fnParseUptoRow, standIns := [], harness := (true, "e319ee1b9ad5d5822beadd882dd403e21ec2a96a5af03b9775b81c9845301121"), looks := true }, kinds := [], alts := [], laidByText := true, laidKinds := [.data, .data, .data, .sentinel, .sentinel], laidTests := true, laidLooks := .later }
def FnParseUptoCardSaid : Prop := Claim7.holds Tryd.pinned (.plain (OpenSpec.upto fnParseSpec)) fnParseUptoCard

/-- THE SECOND FORM's CARD OF 'laws.FnBytes'. -/
def fnBytesUptoCard : Claim7 := { stood := { row := fnBytesUptoRow, standIns := [], harness := (true, "e319ee1b9ad5d5822beadd882dd403e21ec2a96a5af03b9775b81c9845301121"), looks := true }, kinds := [], alts := [], laidByText := true, laidKinds := [.data, .data, .data, .sentinel, .sentinel], laidTests := true, laidLooks := .later }
def FnBytesUptoCardSaid : Prop := Claim7.holds Tryd.pinned (.plain (OpenSpec.upto fnBytesSpec)) fnBytesUptoCard

/-- THE SECOND FORM's CARD OF 'laws.FnDigits'. -/
def fnDigitsUptoCard : Claim7 := { stood := { row := fnDigitsUptoRow, standIns := [], harness := (true, "e319ee1b9ad5d5822beadd882dd403e21ec2a96a5af03b9775b81c9845301121"), looks := true }, kinds := [], alts := [], laidByText := true, laidKinds := [.data, .data, .data, .sentinel, .sentinel], laidTests := true, laidLooks := .later }
def FnDigitsUptoCardSaid : Prop := Claim7.holds Tryd.pinned (.plain (OpenSpec.upto fnDigitsSpec)) fnDigitsUptoCard

/-- THE SECOND FORM's CARD OF 'laws.FnField'. -/
def fnFieldUptoCard : Claim7 := { stood := { row := fnFieldUptoRow, standIns := [], harness := (true, "e319ee1b9ad5d5822beadd882dd403e21ec2a96a5af03b9775b81c9845301121"), looks := true }, kinds := [], alts := [], laidByText := true, laidKinds := [.data, .data, .data, .sentinel, .sentinel], laidTests := true, laidLooks := .later }
def FnFieldUptoCardSaid : Prop := Claim7.holds Tryd.pinned (.plain (OpenSpec.upto fnFieldSpec)) fnFieldUptoCard
end Rows
end Go.Proofs.YtiglmmofapcefaaDoor
