/-
  No cell of these rows narrows 'for every input' (looked for: loops, veiled, ifaces, maps, wideKeys, modest, calm, conditions, laid).
  DERIVED. THE GIVEN ROWS OF THIS SEAT. 12 by the template 'for every input the law returns true; each argument reads behind the call as it read before'; 0 by the template 'total and deterministic' (their statements: YtglkdifcagfknaaTotals.lean).
  GIVEN WITH THE SEED: the statements are not yours to turn. If you find one false, say at which input.
  Laid BY PROGRAM, IN A SANDBOX (cutbox-rows.mjs): the forced cells as the released guide's own fill.sh prints them over the translation f09a97b5d1220b34… (all of the seat's roots in one cut). By AI agents, Wed Nov 11 2026. No macro, syntax, notation, axiom, sorry.
-/
import Derived.Test.YtglkdifcagfknaaChecked
import GoSem.Claim
import GoSem.ClaimJoined
import GoSem.ClaimMapViews
import Derived.JoinedTies
import Derived.KernelRfl
namespace Go.Proofs.Ytglkdifcagfknaa
/- THE CELL 'sum', in the pinned program and in every row, IS THE sha256 OF THE DUMP (.gsa) THAT YtglkdifcagfknaaProg.lean LOADS. Nothing in Lean hashes anything: it is a label: what it is worth is what the hold of that sum in a sandbox is worth. -/
noncomputable def Try.pinned : Pinned := { name := "ytglkdifcagfknaa", sum := "f09a97b5d1220b343cb12db9e556b264b8a787e267a8cd9199289fce4f08b12d", checked := Try.checked }
namespace Rows
def none {H : Type} : Left H := { results := [], args := [] }

/-- 'laws.FnExactFieldKind': WHATEVER THE INPUT: true; the input reads as it did. -/
def fnExactFieldKindSpec : ChangeSpec := { name := "fnExactFieldKind", fn := fun _ => fun
  | [d] => { results := [.lit (.bool true)], args := [d] }
  | _ => none }
def fnExactFieldKindRow : OpenClaim := { program := "ytglkdifcagfknaa", sum := "f09a97b5d1220b343cb12db9e556b264b8a787e267a8cd9199289fce4f08b12d", func := "loop.example/g00735/laws.FnExactFieldKind", spec := "fnExactFieldKind", apart := false }
def FnExactFieldKindSaid : Prop := fnExactFieldKindRow.holds Try.pinned (OpenSpec.ofChange fnExactFieldKindSpec)

/-- ITS FALSE NEIGHBOUR: 'it returns false'. Refute it at one input. -/
def fnExactFieldKindWrong : ChangeSpec := { name := "fnExactFieldKind", fn := fun _ => fun
  | [d] => { results := [.lit (.bool false)], args := [d] }
  | _ => none }
def FnExactFieldKindWrongFalsely : Prop := fnExactFieldKindRow.holds Try.pinned (OpenSpec.ofChange fnExactFieldKindWrong)

/-- 'laws.FnExactAddSat': WHATEVER THE INPUT: true; the input reads as it did. -/
def fnExactAddSatSpec : ChangeSpec := { name := "fnExactAddSat", fn := fun _ => fun
  | [d1, d2] => { results := [.lit (.bool true)], args := [d1, d2] }
  | _ => none }
def fnExactAddSatRow : OpenClaim := { program := "ytglkdifcagfknaa", sum := "f09a97b5d1220b343cb12db9e556b264b8a787e267a8cd9199289fce4f08b12d", func := "loop.example/g00735/laws.FnExactAddSat", spec := "fnExactAddSat", apart := false }
def FnExactAddSatSaid : Prop := fnExactAddSatRow.holds Try.pinned (OpenSpec.ofChange fnExactAddSatSpec)

/-- ITS FALSE NEIGHBOUR: 'it returns false'. Refute it at one input. -/
def fnExactAddSatWrong : ChangeSpec := { name := "fnExactAddSat", fn := fun _ => fun
  | [d1, d2] => { results := [.lit (.bool false)], args := [d1, d2] }
  | _ => none }
def FnExactAddSatWrongFalsely : Prop := fnExactAddSatRow.holds Try.pinned (OpenSpec.ofChange fnExactAddSatWrong)

/-- 'laws.FnExactHexText': WHATEVER THE INPUT: true; the input reads as it did. -/
def fnExactHexTextSpec : ChangeSpec := { name := "fnExactHexText", fn := fun _ => fun
  | [d] => { results := [.lit (.bool true)], args := [d] }
  | _ => none }
def fnExactHexTextRow : OpenClaim := { program := "ytglkdifcagfknaa", sum := "f09a97b5d1220b343cb12db9e556b264b8a787e267a8cd9199289fce4f08b12d", func := "loop.example/g00735/laws.FnExactHexText", spec := "fnExactHexText", apart := false }
def FnExactHexTextSaid : Prop := fnExactHexTextRow.holds Try.pinned (OpenSpec.ofChange fnExactHexTextSpec)

/-- ITS FALSE NEIGHBOUR: 'it returns false'. Refute it at one input. -/
def fnExactHexTextWrong : ChangeSpec := { name := "fnExactHexText", fn := fun _ => fun
  | [d] => { results := [.lit (.bool false)], args := [d] }
  | _ => none }
def FnExactHexTextWrongFalsely : Prop := fnExactHexTextRow.holds Try.pinned (OpenSpec.ofChange fnExactHexTextWrong)

/-- 'laws.FnExactFieldSize': WHATEVER THE INPUT: true; the input reads as it did. -/
def fnExactFieldSizeSpec : ChangeSpec := { name := "fnExactFieldSize", fn := fun _ => fun
  | [d] => { results := [.lit (.bool true)], args := [d] }
  | _ => none }
def fnExactFieldSizeRow : OpenClaim := { program := "ytglkdifcagfknaa", sum := "f09a97b5d1220b343cb12db9e556b264b8a787e267a8cd9199289fce4f08b12d", func := "loop.example/g00735/laws.FnExactFieldSize", spec := "fnExactFieldSize", apart := false }
def FnExactFieldSizeSaid : Prop := fnExactFieldSizeRow.holds Try.pinned (OpenSpec.ofChange fnExactFieldSizeSpec)

/-- ITS FALSE NEIGHBOUR: 'it returns false'. Refute it at one input. -/
def fnExactFieldSizeWrong : ChangeSpec := { name := "fnExactFieldSize", fn := fun _ => fun
  | [d] => { results := [.lit (.bool false)], args := [d] }
  | _ => none }
def FnExactFieldSizeWrongFalsely : Prop := fnExactFieldSizeRow.holds Try.pinned (OpenSpec.ofChange fnExactFieldSizeWrong)

/-- 'laws.FnExactLuhn': WHATEVER THE INPUT: true; the input reads as it did. -/
def fnExactLuhnSpec : ChangeSpec := { name := "fnExactLuhn", fn := fun _ => fun
  | [d] => { results := [.lit (.bool true)], args := [d] }
  | _ => none }
def fnExactLuhnRow : OpenClaim := { program := "ytglkdifcagfknaa", sum := "f09a97b5d1220b343cb12db9e556b264b8a787e267a8cd9199289fce4f08b12d", func := "loop.example/g00735/laws.FnExactLuhn", spec := "fnExactLuhn", apart := false }
def FnExactLuhnSaid : Prop := fnExactLuhnRow.holds Try.pinned (OpenSpec.ofChange fnExactLuhnSpec)

/-- ITS FALSE NEIGHBOUR: 'it returns false'. Refute it at one input. -/
def fnExactLuhnWrong : ChangeSpec := { name := "fnExactLuhn", fn := fun _ => fun
  | [d] => { results := [.lit (.bool false)], args := [d] }
  | _ => none }
def FnExactLuhnWrongFalsely : Prop := fnExactLuhnRow.holds Try.pinned (OpenSpec.ofChange fnExactLuhnWrong)

/-- 'laws.FnExactLuhnOk': WHATEVER THE INPUT: true; the input reads as it did. -/
def fnExactLuhnOkSpec : ChangeSpec := { name := "fnExactLuhnOk", fn := fun _ => fun
  | [d] => { results := [.lit (.bool true)], args := [d] }
  | _ => none }
def fnExactLuhnOkRow : OpenClaim := { program := "ytglkdifcagfknaa", sum := "f09a97b5d1220b343cb12db9e556b264b8a787e267a8cd9199289fce4f08b12d", func := "loop.example/g00735/laws.FnExactLuhnOk", spec := "fnExactLuhnOk", apart := false }
def FnExactLuhnOkSaid : Prop := fnExactLuhnOkRow.holds Try.pinned (OpenSpec.ofChange fnExactLuhnOkSpec)

/-- ITS FALSE NEIGHBOUR: 'it returns false'. Refute it at one input. -/
def fnExactLuhnOkWrong : ChangeSpec := { name := "fnExactLuhnOk", fn := fun _ => fun
  | [d] => { results := [.lit (.bool false)], args := [d] }
  | _ => none }
def FnExactLuhnOkWrongFalsely : Prop := fnExactLuhnOkRow.holds Try.pinned (OpenSpec.ofChange fnExactLuhnOkWrong)

/-- 'laws.FnExactFieldNos': WHATEVER THE INPUT: true; the input reads as it did. -/
def fnExactFieldNosSpec : ChangeSpec := { name := "fnExactFieldNos", fn := fun _ => fun
  | [] => { results := [.lit (.bool true)], args := [] }
  | _ => none }
def fnExactFieldNosRow : OpenClaim := { program := "ytglkdifcagfknaa", sum := "f09a97b5d1220b343cb12db9e556b264b8a787e267a8cd9199289fce4f08b12d", func := "loop.example/g00735/laws.FnExactFieldNos", spec := "fnExactFieldNos", apart := false }
def FnExactFieldNosSaid : Prop := fnExactFieldNosRow.holds Try.pinned (OpenSpec.ofChange fnExactFieldNosSpec)

/-- ITS FALSE NEIGHBOUR: 'it returns false'. Refute it at one input. -/
def fnExactFieldNosWrong : ChangeSpec := { name := "fnExactFieldNos", fn := fun _ => fun
  | [] => { results := [.lit (.bool false)], args := [] }
  | _ => none }
def FnExactFieldNosWrongFalsely : Prop := fnExactFieldNosRow.holds Try.pinned (OpenSpec.ofChange fnExactFieldNosWrong)

/-- 'laws.FnExactPutBcd': WHATEVER THE INPUT: true; the input reads as it did. -/
def fnExactPutBcdSpec : ChangeSpec := { name := "fnExactPutBcd", fn := fun _ => fun
  | [d] => { results := [.lit (.bool true)], args := [d] }
  | _ => none }
def fnExactPutBcdRow : OpenClaim := { program := "ytglkdifcagfknaa", sum := "f09a97b5d1220b343cb12db9e556b264b8a787e267a8cd9199289fce4f08b12d", func := "loop.example/g00735/laws.FnExactPutBcd", spec := "fnExactPutBcd", apart := false }
def FnExactPutBcdSaid : Prop := fnExactPutBcdRow.holds Try.pinned (OpenSpec.ofChange fnExactPutBcdSpec)

/-- ITS FALSE NEIGHBOUR: 'it returns false'. Refute it at one input. -/
def fnExactPutBcdWrong : ChangeSpec := { name := "fnExactPutBcd", fn := fun _ => fun
  | [d] => { results := [.lit (.bool false)], args := [d] }
  | _ => none }
def FnExactPutBcdWrongFalsely : Prop := fnExactPutBcdRow.holds Try.pinned (OpenSpec.ofChange fnExactPutBcdWrong)

/-- 'laws.FnExactTextHex': WHATEVER THE INPUT: true; the input reads as it did. -/
def fnExactTextHexSpec : ChangeSpec := { name := "fnExactTextHex", fn := fun _ => fun
  | [d] => { results := [.lit (.bool true)], args := [d] }
  | _ => none }
def fnExactTextHexRow : OpenClaim := { program := "ytglkdifcagfknaa", sum := "f09a97b5d1220b343cb12db9e556b264b8a787e267a8cd9199289fce4f08b12d", func := "loop.example/g00735/laws.FnExactTextHex", spec := "fnExactTextHex", inPlace := ["internal/bytealg.IndexByteString"], apart := false }
def FnExactTextHexSaid : Prop := fnExactTextHexRow.holds Try.pinned (OpenSpec.ofChange fnExactTextHexSpec)

/-- ITS FALSE NEIGHBOUR: 'it returns false'. Refute it at one input. -/
def fnExactTextHexWrong : ChangeSpec := { name := "fnExactTextHex", fn := fun _ => fun
  | [d] => { results := [.lit (.bool false)], args := [d] }
  | _ => none }
def FnExactTextHexWrongFalsely : Prop := fnExactTextHexRow.holds Try.pinned (OpenSpec.ofChange fnExactTextHexWrong)

/-- 'laws.FnLuhn': WHATEVER THE INPUT: true; the input reads as it did. -/
def fnLuhnSpec : ChangeSpec := { name := "fnLuhn", fn := fun _ => fun
  | [d] => { results := [.lit (.bool true)], args := [d] }
  | _ => none }
def fnLuhnRow : OpenClaim := { program := "ytglkdifcagfknaa", sum := "f09a97b5d1220b343cb12db9e556b264b8a787e267a8cd9199289fce4f08b12d", func := "loop.example/g00735/laws.FnLuhn", spec := "fnLuhn", apart := false }
def FnLuhnSaid : Prop := fnLuhnRow.holds Try.pinned (OpenSpec.ofChange fnLuhnSpec)

/-- ITS FALSE NEIGHBOUR: 'it returns false'. Refute it at one input. -/
def fnLuhnWrong : ChangeSpec := { name := "fnLuhn", fn := fun _ => fun
  | [d] => { results := [.lit (.bool false)], args := [d] }
  | _ => none }
def FnLuhnWrongFalsely : Prop := fnLuhnRow.holds Try.pinned (OpenSpec.ofChange fnLuhnWrong)

/-- 'laws.FnExactPutBits': WHATEVER THE INPUT: true; the input reads as it did. -/
def fnExactPutBitsSpec : ChangeSpec := { name := "fnExactPutBits", fn := fun _ => fun
  | [d] => { results := [.lit (.bool true)], args := [d] }
  | _ => none }
def fnExactPutBitsRow : OpenClaim := { program := "ytglkdifcagfknaa", sum := "f09a97b5d1220b343cb12db9e556b264b8a787e267a8cd9199289fce4f08b12d", func := "loop.example/g00735/laws.FnExactPutBits", spec := "fnExactPutBits", apart := false }
def FnExactPutBitsSaid : Prop := fnExactPutBitsRow.holds Try.pinned (OpenSpec.ofChange fnExactPutBitsSpec)

/-- ITS FALSE NEIGHBOUR: 'it returns false'. Refute it at one input. -/
def fnExactPutBitsWrong : ChangeSpec := { name := "fnExactPutBits", fn := fun _ => fun
  | [d] => { results := [.lit (.bool false)], args := [d] }
  | _ => none }
def FnExactPutBitsWrongFalsely : Prop := fnExactPutBitsRow.holds Try.pinned (OpenSpec.ofChange fnExactPutBitsWrong)

/-- 'laws.FnExactRingNew': WHATEVER THE INPUT: true; the input reads as it did. -/
def fnExactRingNewSpec : ChangeSpec := { name := "fnExactRingNew", fn := fun _ => fun
  | [d1, d2] => { results := [.lit (.bool true)], args := [d1, d2] }
  | _ => none }
def fnExactRingNewRow : OpenClaim := { program := "ytglkdifcagfknaa", sum := "f09a97b5d1220b343cb12db9e556b264b8a787e267a8cd9199289fce4f08b12d", func := "loop.example/g00735/laws.FnExactRingNew", spec := "fnExactRingNew", apart := false }
def FnExactRingNewSaid : Prop := fnExactRingNewRow.holds Try.pinned (OpenSpec.ofChange fnExactRingNewSpec)

/-- ITS FALSE NEIGHBOUR: 'it returns false'. Refute it at one input. -/
def fnExactRingNewWrong : ChangeSpec := { name := "fnExactRingNew", fn := fun _ => fun
  | [d1, d2] => { results := [.lit (.bool false)], args := [d1, d2] }
  | _ => none }
def FnExactRingNewWrongFalsely : Prop := fnExactRingNewRow.holds Try.pinned (OpenSpec.ofChange fnExactRingNewWrong)

/- THE SECOND FORM. 'bulk': how many values and letters a reading holds, each counted each time it is reached (what is shared counts as often as it is met; a slice's spare places count too). A statement '..UptoSaid' is the law's where the arguments, and the package variables that the reading takes, are together of bulk at most 1048576: NARROWER than '..Said'. Prove '..Said' where nothing that the law and all that it calls make is longer than what came in: it says more and counts as full. Else prove '..UptoSaid'. A law counts once. -/
mutual
def uptoBulk {H : Type} : DataW H → Nat
  | .lit (.string bytes) => bytes.length + 1
  | .lit _ => 1
  | .nil => 1
  | .ptr d => uptoBulk d + 1
  | .slice elems spare => uptoBulkAll elems + uptoBulkAll spare + 1
  | .agg parts => uptoBulkAll parts + 1
  | .iface _ d => uptoBulk d + 1
  | .map entries => uptoBulkEntries entries + 1
  | .held _ => 1
def uptoBulkAll {H : Type} : List (DataW H) → Nat
  | [] => 0
  | d :: r => uptoBulk d + uptoBulkAll r
def uptoBulkEntries {H : Type} : List (Lit × DataW H) → Nat
  | [] => 0
  | x :: r => uptoBulkEntry x + uptoBulkEntries r
def uptoBulkEntry {H : Type} : Lit × DataW H → Nat
  | (.string bytes, d) => bytes.length + uptoBulk d + 1
  | (_, d) => uptoBulk d + 1
 end
def uptoSmall : (H : Type) → List (DataW H) → Bool := fun _ ds => decide (uptoBulkAll ds ≤ 1048576)
def OpenSpec.upto (s : _root_.Go.ChangeSpec) : _root_.Go.OpenSpec := { _root_.Go.OpenSpec.ofChange s with cond := some uptoSmall }

/-- 'laws.FnExactFieldKind', WHERE WHAT IT READS IS OF BULK AT MOST 1048576: true; the input reads as it did. -/
def fnExactFieldKindUptoRow : OpenClaim := { program := "ytglkdifcagfknaa", sum := "f09a97b5d1220b343cb12db9e556b264b8a787e267a8cd9199289fce4f08b12d", func := "loop.example/g00735/laws.FnExactFieldKind", spec := "fnExactFieldKind", apart := false, narrowed := true }
def FnExactFieldKindUptoSaid : Prop := fnExactFieldKindUptoRow.holds Try.pinned (OpenSpec.upto fnExactFieldKindSpec)

/-- 'laws.FnExactAddSat', WHERE WHAT IT READS IS OF BULK AT MOST 1048576: true; the input reads as it did. -/
def fnExactAddSatUptoRow : OpenClaim := { program := "ytglkdifcagfknaa", sum := "f09a97b5d1220b343cb12db9e556b264b8a787e267a8cd9199289fce4f08b12d", func := "loop.example/g00735/laws.FnExactAddSat", spec := "fnExactAddSat", apart := false, narrowed := true }
def FnExactAddSatUptoSaid : Prop := fnExactAddSatUptoRow.holds Try.pinned (OpenSpec.upto fnExactAddSatSpec)

/-- 'laws.FnExactHexText', WHERE WHAT IT READS IS OF BULK AT MOST 1048576: true; the input reads as it did. -/
def fnExactHexTextUptoRow : OpenClaim := { program := "ytglkdifcagfknaa", sum := "f09a97b5d1220b343cb12db9e556b264b8a787e267a8cd9199289fce4f08b12d", func := "loop.example/g00735/laws.FnExactHexText", spec := "fnExactHexText", apart := false, narrowed := true }
def FnExactHexTextUptoSaid : Prop := fnExactHexTextUptoRow.holds Try.pinned (OpenSpec.upto fnExactHexTextSpec)

/-- 'laws.FnExactFieldSize', WHERE WHAT IT READS IS OF BULK AT MOST 1048576: true; the input reads as it did. -/
def fnExactFieldSizeUptoRow : OpenClaim := { program := "ytglkdifcagfknaa", sum := "f09a97b5d1220b343cb12db9e556b264b8a787e267a8cd9199289fce4f08b12d", func := "loop.example/g00735/laws.FnExactFieldSize", spec := "fnExactFieldSize", apart := false, narrowed := true }
def FnExactFieldSizeUptoSaid : Prop := fnExactFieldSizeUptoRow.holds Try.pinned (OpenSpec.upto fnExactFieldSizeSpec)

/-- 'laws.FnExactLuhn', WHERE WHAT IT READS IS OF BULK AT MOST 1048576: true; the input reads as it did. -/
def fnExactLuhnUptoRow : OpenClaim := { program := "ytglkdifcagfknaa", sum := "f09a97b5d1220b343cb12db9e556b264b8a787e267a8cd9199289fce4f08b12d", func := "loop.example/g00735/laws.FnExactLuhn", spec := "fnExactLuhn", apart := false, narrowed := true }
def FnExactLuhnUptoSaid : Prop := fnExactLuhnUptoRow.holds Try.pinned (OpenSpec.upto fnExactLuhnSpec)

/-- 'laws.FnExactLuhnOk', WHERE WHAT IT READS IS OF BULK AT MOST 1048576: true; the input reads as it did. -/
def fnExactLuhnOkUptoRow : OpenClaim := { program := "ytglkdifcagfknaa", sum := "f09a97b5d1220b343cb12db9e556b264b8a787e267a8cd9199289fce4f08b12d", func := "loop.example/g00735/laws.FnExactLuhnOk", spec := "fnExactLuhnOk", apart := false, narrowed := true }
def FnExactLuhnOkUptoSaid : Prop := fnExactLuhnOkUptoRow.holds Try.pinned (OpenSpec.upto fnExactLuhnOkSpec)

/-- 'laws.FnExactFieldNos', WHERE WHAT IT READS IS OF BULK AT MOST 1048576: true; the input reads as it did. -/
def fnExactFieldNosUptoRow : OpenClaim := { program := "ytglkdifcagfknaa", sum := "f09a97b5d1220b343cb12db9e556b264b8a787e267a8cd9199289fce4f08b12d", func := "loop.example/g00735/laws.FnExactFieldNos", spec := "fnExactFieldNos", apart := false, narrowed := true }
def FnExactFieldNosUptoSaid : Prop := fnExactFieldNosUptoRow.holds Try.pinned (OpenSpec.upto fnExactFieldNosSpec)

/-- 'laws.FnExactPutBcd', WHERE WHAT IT READS IS OF BULK AT MOST 1048576: true; the input reads as it did. -/
def fnExactPutBcdUptoRow : OpenClaim := { program := "ytglkdifcagfknaa", sum := "f09a97b5d1220b343cb12db9e556b264b8a787e267a8cd9199289fce4f08b12d", func := "loop.example/g00735/laws.FnExactPutBcd", spec := "fnExactPutBcd", apart := false, narrowed := true }
def FnExactPutBcdUptoSaid : Prop := fnExactPutBcdUptoRow.holds Try.pinned (OpenSpec.upto fnExactPutBcdSpec)

/-- 'laws.FnExactTextHex', WHERE WHAT IT READS IS OF BULK AT MOST 1048576: true; the input reads as it did. -/
def fnExactTextHexUptoRow : OpenClaim := { program := "ytglkdifcagfknaa", sum := "f09a97b5d1220b343cb12db9e556b264b8a787e267a8cd9199289fce4f08b12d", func := "loop.example/g00735/laws.FnExactTextHex", spec := "fnExactTextHex", inPlace := ["internal/bytealg.IndexByteString"], apart := false, narrowed := true }
def FnExactTextHexUptoSaid : Prop := fnExactTextHexUptoRow.holds Try.pinned (OpenSpec.upto fnExactTextHexSpec)

/-- 'laws.FnLuhn', WHERE WHAT IT READS IS OF BULK AT MOST 1048576: true; the input reads as it did. -/
def fnLuhnUptoRow : OpenClaim := { program := "ytglkdifcagfknaa", sum := "f09a97b5d1220b343cb12db9e556b264b8a787e267a8cd9199289fce4f08b12d", func := "loop.example/g00735/laws.FnLuhn", spec := "fnLuhn", apart := false, narrowed := true }
def FnLuhnUptoSaid : Prop := fnLuhnUptoRow.holds Try.pinned (OpenSpec.upto fnLuhnSpec)

/-- 'laws.FnExactPutBits', WHERE WHAT IT READS IS OF BULK AT MOST 1048576: true; the input reads as it did. -/
def fnExactPutBitsUptoRow : OpenClaim := { program := "ytglkdifcagfknaa", sum := "f09a97b5d1220b343cb12db9e556b264b8a787e267a8cd9199289fce4f08b12d", func := "loop.example/g00735/laws.FnExactPutBits", spec := "fnExactPutBits", apart := false, narrowed := true }
def FnExactPutBitsUptoSaid : Prop := fnExactPutBitsUptoRow.holds Try.pinned (OpenSpec.upto fnExactPutBitsSpec)

/-- 'laws.FnExactRingNew', WHERE WHAT IT READS IS OF BULK AT MOST 1048576: true; the input reads as it did. -/
def fnExactRingNewUptoRow : OpenClaim := { program := "ytglkdifcagfknaa", sum := "f09a97b5d1220b343cb12db9e556b264b8a787e267a8cd9199289fce4f08b12d", func := "loop.example/g00735/laws.FnExactRingNew", spec := "fnExactRingNew", apart := false, narrowed := true }
def FnExactRingNewUptoSaid : Prop := fnExactRingNewUptoRow.holds Try.pinned (OpenSpec.upto fnExactRingNewSpec)

end Rows
end Go.Proofs.Ytglkdifcagfknaa
