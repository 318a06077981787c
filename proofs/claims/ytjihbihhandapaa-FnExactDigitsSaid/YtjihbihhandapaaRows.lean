/-
  No cell of these rows narrows 'for every input' (looked for: loops, veiled, ifaces, maps, wideKeys, modest, calm, conditions, laid).
  DERIVED. THE GIVEN ROWS OF THIS SEAT. 11 by the template 'for every input the law returns true; each argument reads behind the call as it read before'; 0 by the template 'total and deterministic' (their statements: YtjihbihhandapaaTotals.lean).
  GIVEN WITH THE SEED: the statements are not yours to turn. If you find one false, say at which input.
  Laid BY PROGRAM, IN A SANDBOX (cutbox-rows.mjs): the forced cells as the released guide's own fill.sh prints them over the translation 78f97b4f062ebd1a… (all of the seat's roots in one cut). By AI agents, Wed Nov 11 2026. No macro, syntax, notation, axiom, sorry.
-/
import Derived.Test.YtjihbihhandapaaChecked
import GoSem.Claim
import GoSem.ClaimJoined
import GoSem.ClaimMapViews
import Derived.JoinedTies
import Derived.KernelRfl
namespace Go.Proofs.Ytjihbihhandapaa
/- THE CELL 'sum', in the pinned program and in every row, IS THE sha256 OF THE DUMP (.gsa) THAT YtjihbihhandapaaProg.lean LOADS. Nothing in Lean hashes anything: it is a label: what it is worth is what the hold of that sum in a sandbox is worth. -/
noncomputable def Try.pinned : Pinned := { name := "ytjihbihhandapaa", sum := "78f97b4f062ebd1adee06d80b65287b2c451d7aaddb85cc9a458b49c241656f1", checked := Try.checked }
namespace Rows
def none {H : Type} : Left H := { results := [], args := [] }

/-- 'laws.FnExactConstants': WHATEVER THE INPUT: true; the input reads as it did. -/
def fnExactConstantsSpec : ChangeSpec := { name := "fnExactConstants", fn := fun _ => fun
  | [] => { results := [.lit (.bool true)], args := [] }
  | _ => none }
def fnExactConstantsRow : OpenClaim := { program := "ytjihbihhandapaa", sum := "78f97b4f062ebd1adee06d80b65287b2c451d7aaddb85cc9a458b49c241656f1", func := "loop.example/g00735/laws.FnExactConstants", spec := "fnExactConstants", apart := false }
def FnExactConstantsSaid : Prop := fnExactConstantsRow.holds Try.pinned (OpenSpec.ofChange fnExactConstantsSpec)

/-- ITS FALSE NEIGHBOUR: 'it returns false'. Refute it at one input. -/
def fnExactConstantsWrong : ChangeSpec := { name := "fnExactConstants", fn := fun _ => fun
  | [] => { results := [.lit (.bool false)], args := [] }
  | _ => none }
def FnExactConstantsWrongFalsely : Prop := fnExactConstantsRow.holds Try.pinned (OpenSpec.ofChange fnExactConstantsWrong)

/-- 'laws.FnExactMtiKnown': WHATEVER THE INPUT: true; the input reads as it did. -/
def fnExactMtiKnownSpec : ChangeSpec := { name := "fnExactMtiKnown", fn := fun _ => fun
  | [d] => { results := [.lit (.bool true)], args := [d] }
  | _ => none }
def fnExactMtiKnownRow : OpenClaim := { program := "ytjihbihhandapaa", sum := "78f97b4f062ebd1adee06d80b65287b2c451d7aaddb85cc9a458b49c241656f1", func := "loop.example/g00735/laws.FnExactMtiKnown", spec := "fnExactMtiKnown", apart := false }
def FnExactMtiKnownSaid : Prop := fnExactMtiKnownRow.holds Try.pinned (OpenSpec.ofChange fnExactMtiKnownSpec)

/-- ITS FALSE NEIGHBOUR: 'it returns false'. Refute it at one input. -/
def fnExactMtiKnownWrong : ChangeSpec := { name := "fnExactMtiKnown", fn := fun _ => fun
  | [d] => { results := [.lit (.bool false)], args := [d] }
  | _ => none }
def FnExactMtiKnownWrongFalsely : Prop := fnExactMtiKnownRow.holds Try.pinned (OpenSpec.ofChange fnExactMtiKnownWrong)

/-- 'laws.FnExactFnv': WHATEVER THE INPUT: true; the input reads as it did. -/
def fnExactFnvSpec : ChangeSpec := { name := "fnExactFnv", fn := fun _ => fun
  | [d] => { results := [.lit (.bool true)], args := [d] }
  | _ => none }
def fnExactFnvRow : OpenClaim := { program := "ytjihbihhandapaa", sum := "78f97b4f062ebd1adee06d80b65287b2c451d7aaddb85cc9a458b49c241656f1", func := "loop.example/g00735/laws.FnExactFnv", spec := "fnExactFnv", apart := false }
def FnExactFnvSaid : Prop := fnExactFnvRow.holds Try.pinned (OpenSpec.ofChange fnExactFnvSpec)

/-- ITS FALSE NEIGHBOUR: 'it returns false'. Refute it at one input. -/
def fnExactFnvWrong : ChangeSpec := { name := "fnExactFnv", fn := fun _ => fun
  | [d] => { results := [.lit (.bool false)], args := [d] }
  | _ => none }
def FnExactFnvWrongFalsely : Prop := fnExactFnvRow.holds Try.pinned (OpenSpec.ofChange fnExactFnvWrong)

/-- 'laws.FnExactAddMoney': WHATEVER THE INPUT: true; the input reads as it did. -/
def fnExactAddMoneySpec : ChangeSpec := { name := "fnExactAddMoney", fn := fun _ => fun
  | [d1, d2] => { results := [.lit (.bool true)], args := [d1, d2] }
  | _ => none }
def fnExactAddMoneyRow : OpenClaim := { program := "ytjihbihhandapaa", sum := "78f97b4f062ebd1adee06d80b65287b2c451d7aaddb85cc9a458b49c241656f1", func := "loop.example/g00735/laws.FnExactAddMoney", spec := "fnExactAddMoney", apart := false }
def FnExactAddMoneySaid : Prop := fnExactAddMoneyRow.holds Try.pinned (OpenSpec.ofChange fnExactAddMoneySpec)

/-- ITS FALSE NEIGHBOUR: 'it returns false'. Refute it at one input. -/
def fnExactAddMoneyWrong : ChangeSpec := { name := "fnExactAddMoney", fn := fun _ => fun
  | [d1, d2] => { results := [.lit (.bool false)], args := [d1, d2] }
  | _ => none }
def FnExactAddMoneyWrongFalsely : Prop := fnExactAddMoneyRow.holds Try.pinned (OpenSpec.ofChange fnExactAddMoneyWrong)

/-- 'laws.FnExactSubMoney': WHATEVER THE INPUT: true; the input reads as it did. -/
def fnExactSubMoneySpec : ChangeSpec := { name := "fnExactSubMoney", fn := fun _ => fun
  | [d1, d2] => { results := [.lit (.bool true)], args := [d1, d2] }
  | _ => none }
def fnExactSubMoneyRow : OpenClaim := { program := "ytjihbihhandapaa", sum := "78f97b4f062ebd1adee06d80b65287b2c451d7aaddb85cc9a458b49c241656f1", func := "loop.example/g00735/laws.FnExactSubMoney", spec := "fnExactSubMoney", apart := false }
def FnExactSubMoneySaid : Prop := fnExactSubMoneyRow.holds Try.pinned (OpenSpec.ofChange fnExactSubMoneySpec)

/-- ITS FALSE NEIGHBOUR: 'it returns false'. Refute it at one input. -/
def fnExactSubMoneyWrong : ChangeSpec := { name := "fnExactSubMoney", fn := fun _ => fun
  | [d1, d2] => { results := [.lit (.bool false)], args := [d1, d2] }
  | _ => none }
def FnExactSubMoneyWrongFalsely : Prop := fnExactSubMoneyRow.holds Try.pinned (OpenSpec.ofChange fnExactSubMoneyWrong)

/-- 'laws.FnExactDigits': WHATEVER THE INPUT: true; the input reads as it did. -/
def fnExactDigitsSpec : ChangeSpec := { name := "fnExactDigits", fn := fun _ => fun
  | [d] => { results := [.lit (.bool true)], args := [d] }
  | _ => none }
def fnExactDigitsRow : OpenClaim := { program := "ytjihbihhandapaa", sum := "78f97b4f062ebd1adee06d80b65287b2c451d7aaddb85cc9a458b49c241656f1", func := "loop.example/g00735/laws.FnExactDigits", spec := "fnExactDigits", apart := false }
def FnExactDigitsSaid : Prop := fnExactDigitsRow.holds Try.pinned (OpenSpec.ofChange fnExactDigitsSpec)

/-- ITS FALSE NEIGHBOUR: 'it returns false'. Refute it at one input. -/
def fnExactDigitsWrong : ChangeSpec := { name := "fnExactDigits", fn := fun _ => fun
  | [d] => { results := [.lit (.bool false)], args := [d] }
  | _ => none }
def FnExactDigitsWrongFalsely : Prop := fnExactDigitsRow.holds Try.pinned (OpenSpec.ofChange fnExactDigitsWrong)

/-- 'laws.FnExactPrintable': WHATEVER THE INPUT: true; the input reads as it did. -/
def fnExactPrintableSpec : ChangeSpec := { name := "fnExactPrintable", fn := fun _ => fun
  | [d] => { results := [.lit (.bool true)], args := [d] }
  | _ => none }
def fnExactPrintableRow : OpenClaim := { program := "ytjihbihhandapaa", sum := "78f97b4f062ebd1adee06d80b65287b2c451d7aaddb85cc9a458b49c241656f1", func := "loop.example/g00735/laws.FnExactPrintable", spec := "fnExactPrintable", apart := false }
def FnExactPrintableSaid : Prop := fnExactPrintableRow.holds Try.pinned (OpenSpec.ofChange fnExactPrintableSpec)

/-- ITS FALSE NEIGHBOUR: 'it returns false'. Refute it at one input. -/
def fnExactPrintableWrong : ChangeSpec := { name := "fnExactPrintable", fn := fun _ => fun
  | [d] => { results := [.lit (.bool false)], args := [d] }
  | _ => none }
def FnExactPrintableWrongFalsely : Prop := fnExactPrintableRow.holds Try.pinned (OpenSpec.ofChange fnExactPrintableWrong)

/-- 'laws.FnExactLive': WHATEVER THE INPUT: true; the input reads as it did. -/
def fnExactLiveSpec : ChangeSpec := { name := "fnExactLive", fn := fun _ => fun
  | [d1, d2] => { results := [.lit (.bool true)], args := [d1, d2] }
  | _ => none }
def fnExactLiveRow : OpenClaim := { program := "ytjihbihhandapaa", sum := "78f97b4f062ebd1adee06d80b65287b2c451d7aaddb85cc9a458b49c241656f1", func := "loop.example/g00735/laws.FnExactLive", spec := "fnExactLive", apart := false }
def FnExactLiveSaid : Prop := fnExactLiveRow.holds Try.pinned (OpenSpec.ofChange fnExactLiveSpec)

/-- ITS FALSE NEIGHBOUR: 'it returns false'. Refute it at one input. -/
def fnExactLiveWrong : ChangeSpec := { name := "fnExactLive", fn := fun _ => fun
  | [d1, d2] => { results := [.lit (.bool false)], args := [d1, d2] }
  | _ => none }
def FnExactLiveWrongFalsely : Prop := fnExactLiveRow.holds Try.pinned (OpenSpec.ofChange fnExactLiveWrong)

/-- 'laws.FnExactRsText': WHATEVER THE INPUT: true; the input reads as it did. -/
def fnExactRsTextSpec : ChangeSpec := { name := "fnExactRsText", fn := fun _ => fun
  | [d] => { results := [.lit (.bool true)], args := [d] }
  | _ => none }
def fnExactRsTextRow : OpenClaim := { program := "ytjihbihhandapaa", sum := "78f97b4f062ebd1adee06d80b65287b2c451d7aaddb85cc9a458b49c241656f1", func := "loop.example/g00735/laws.FnExactRsText", spec := "fnExactRsText", apart := false }
def FnExactRsTextSaid : Prop := fnExactRsTextRow.holds Try.pinned (OpenSpec.ofChange fnExactRsTextSpec)

/-- ITS FALSE NEIGHBOUR: 'it returns false'. Refute it at one input. -/
def fnExactRsTextWrong : ChangeSpec := { name := "fnExactRsText", fn := fun _ => fun
  | [d] => { results := [.lit (.bool false)], args := [d] }
  | _ => none }
def FnExactRsTextWrongFalsely : Prop := fnExactRsTextRow.holds Try.pinned (OpenSpec.ofChange fnExactRsTextWrong)

/-- 'laws.FnExactTextRs': WHATEVER THE INPUT: true; the input reads as it did. -/
def fnExactTextRsSpec : ChangeSpec := { name := "fnExactTextRs", fn := fun _ => fun
  | [d] => { results := [.lit (.bool true)], args := [d] }
  | _ => none }
def fnExactTextRsRow : OpenClaim := { program := "ytjihbihhandapaa", sum := "78f97b4f062ebd1adee06d80b65287b2c451d7aaddb85cc9a458b49c241656f1", func := "loop.example/g00735/laws.FnExactTextRs", spec := "fnExactTextRs", apart := false }
def FnExactTextRsSaid : Prop := fnExactTextRsRow.holds Try.pinned (OpenSpec.ofChange fnExactTextRsSpec)

/-- ITS FALSE NEIGHBOUR: 'it returns false'. Refute it at one input. -/
def fnExactTextRsWrong : ChangeSpec := { name := "fnExactTextRs", fn := fun _ => fun
  | [d] => { results := [.lit (.bool false)], args := [d] }
  | _ => none }
def FnExactTextRsWrongFalsely : Prop := fnExactTextRsRow.holds Try.pinned (OpenSpec.ofChange fnExactTextRsWrong)

/-- 'laws.FnExactReplyMti': WHATEVER THE INPUT: true; the input reads as it did. -/
def fnExactReplyMtiSpec : ChangeSpec := { name := "fnExactReplyMti", fn := fun _ => fun
  | [d] => { results := [.lit (.bool true)], args := [d] }
  | _ => none }
def fnExactReplyMtiRow : OpenClaim := { program := "ytjihbihhandapaa", sum := "78f97b4f062ebd1adee06d80b65287b2c451d7aaddb85cc9a458b49c241656f1", func := "loop.example/g00735/laws.FnExactReplyMti", spec := "fnExactReplyMti", apart := false }
def FnExactReplyMtiSaid : Prop := fnExactReplyMtiRow.holds Try.pinned (OpenSpec.ofChange fnExactReplyMtiSpec)

/-- ITS FALSE NEIGHBOUR: 'it returns false'. Refute it at one input. -/
def fnExactReplyMtiWrong : ChangeSpec := { name := "fnExactReplyMti", fn := fun _ => fun
  | [d] => { results := [.lit (.bool false)], args := [d] }
  | _ => none }
def FnExactReplyMtiWrongFalsely : Prop := fnExactReplyMtiRow.holds Try.pinned (OpenSpec.ofChange fnExactReplyMtiWrong)

/- THE SECOND FORM. 'bulk': how many values and letters a reading holds, each counted each time it is reached (what is shared counts as often as it is met; a slice's spare places count too). A statement '..UptoSaid' is the law's where the arguments, and the package variables that the reading takes, are together of bulk at most 1048576: NARROWER than '..Said'. Prove '..Said' where nothing that the law and all that it calls make is longer than what came in: it says more and counts as full. Else prove '..UptoSaid'. A law counts once. -/
mutual
def uptoBulk {H : Type} : DataW H → Nat
  | .lit (.string bytes) => bytes.length + 1
  | .lit _ => 1
  | .nil => 1
  | .ptr d => uptoBulk d + 1
  | .slice elems spare => uptoBulkAll elems + uptoBulkAll spare + 1
  | .agg parts => uptoBulkAll parts + 1
  | .iface _ d => uptoBulk d + 1
  | .map entries => uptoBulkEntries entries + 1
  | .held _ => 1
def uptoBulkAll {H : Type} : List (DataW H) → Nat
  | [] => 0
  | d :: r => uptoBulk d + uptoBulkAll r
def uptoBulkEntries {H : Type} : List (Lit × DataW H) → Nat
  | [] => 0
  | x :: r => uptoBulkEntry x + uptoBulkEntries r
def uptoBulkEntry {H : Type} : Lit × DataW H → Nat
  | (.string bytes, d) => bytes.length + uptoBulk d + 1
  | (_, d) => uptoBulk d + 1
 end
def uptoSmall : (H : Type) → List (DataW H) → Bool := fun _ ds => decide (uptoBulkAll ds ≤ 1048576)
def OpenSpec.upto (s : _root_.Go.ChangeSpec) : _root_.Go.OpenSpec := { _root_.Go.OpenSpec.ofChange s with cond := some uptoSmall }

/-- 'laws.FnExactConstants', WHERE WHAT IT READS IS OF BULK AT MOST 1048576: true; the input reads as it did. -/
def fnExactConstantsUptoRow : OpenClaim := { program := "ytjihbihhandapaa", sum := "78f97b4f062ebd1adee06d80b65287b2c451d7aaddb85cc9a458b49c241656f1", func := "loop.example/g00735/laws.FnExactConstants", spec := "fnExactConstants", apart := false, narrowed := true }
def FnExactConstantsUptoSaid : Prop := fnExactConstantsUptoRow.holds Try.pinned (OpenSpec.upto fnExactConstantsSpec)

/-- 'laws.FnExactMtiKnown', WHERE WHAT IT READS IS OF BULK AT MOST 1048576: true; the input reads as it did. -/
def fnExactMtiKnownUptoRow : OpenClaim := { program := "ytjihbihhandapaa", sum := "78f97b4f062ebd1adee06d80b65287b2c451d7aaddb85cc9a458b49c241656f1", func := "loop.example/g00735/laws.FnExactMtiKnown", spec := "fnExactMtiKnown", apart := false, narrowed := true }
def FnExactMtiKnownUptoSaid : Prop := fnExactMtiKnownUptoRow.holds Try.pinned (OpenSpec.upto fnExactMtiKnownSpec)

/-- 'laws.FnExactFnv', WHERE WHAT IT READS IS OF BULK AT MOST 1048576: true; the input reads as it did. -/
def fnExactFnvUptoRow : OpenClaim := { program := "ytjihbihhandapaa", sum := "78f97b4f062ebd1adee06d80b65287b2c451d7aaddb85cc9a458b49c241656f1", func := "loop.example/g00735/laws.FnExactFnv", spec := "fnExactFnv", apart := false, narrowed := true }
def FnExactFnvUptoSaid : Prop := fnExactFnvUptoRow.holds Try.pinned (OpenSpec.upto fnExactFnvSpec)

/-- 'laws.FnExactAddMoney', WHERE WHAT IT READS IS OF BULK AT MOST 1048576: true; the input reads as it did. -/
def fnExactAddMoneyUptoRow : OpenClaim := { program := "ytjihbihhandapaa", sum := "78f97b4f062ebd1adee06d80b65287b2c451d7aaddb85cc9a458b49c241656f1", func := "loop.example/g00735/laws.FnExactAddMoney", spec := "fnExactAddMoney", apart := false, narrowed := true }
def FnExactAddMoneyUptoSaid : Prop := fnExactAddMoneyUptoRow.holds Try.pinned (OpenSpec.upto fnExactAddMoneySpec)

/-- 'laws.FnExactSubMoney', WHERE WHAT IT READS IS OF BULK AT MOST 1048576: true; the input reads as it did. -/
def fnExactSubMoneyUptoRow : OpenClaim := { program := "ytjihbihhandapaa", sum := "78f97b4f062ebd1adee06d80b65287b2c451d7aaddb85cc9a458b49c241656f1", func := "loop.example/g00735/laws.FnExactSubMoney", spec := "fnExactSubMoney", apart := false, narrowed := true }
def FnExactSubMoneyUptoSaid : Prop := fnExactSubMoneyUptoRow.holds Try.pinned (OpenSpec.upto fnExactSubMoneySpec)

/-- 'laws.FnExactDigits', WHERE WHAT IT READS IS OF BULK AT MOST 1048576: true; the input reads as it did. -/
def fnExactDigitsUptoRow : OpenClaim := { program := "ytjihbihhandapaa", sum := "78f97b4f062ebd1adee06d80b65287b2c451d7aaddb85cc9a458b49c241656f1", func := "loop.example/g00735/laws.FnExactDigits", spec := "fnExactDigits", apart := false, narrowed := true }
def FnExactDigitsUptoSaid : Prop := fnExactDigitsUptoRow.holds Try.pinned (OpenSpec.upto fnExactDigitsSpec)

/-- 'laws.FnExactPrintable', WHERE WHAT IT READS IS OF BULK AT MOST 1048576: true; the input reads as it did. -/
def fnExactPrintableUptoRow : OpenClaim := { program := "ytjihbihhandapaa", sum := "78f97b4f062ebd1adee06d80b65287b2c451d7aaddb85cc9a458b49c241656f1", func := "loop.example/g00735/laws.FnExactPrintable", spec := "fnExactPrintable", apart := false, narrowed := true }
def FnExactPrintableUptoSaid : Prop := fnExactPrintableUptoRow.holds Try.pinned (OpenSpec.upto fnExactPrintableSpec)

/-- 'laws.FnExactLive', WHERE WHAT IT READS IS OF BULK AT MOST 1048576: true; the input reads as it did. -/
def fnExactLiveUptoRow : OpenClaim := { program := "ytjihbihhandapaa", sum := "78f97b4f062ebd1adee06d80b65287b2c451d7aaddb85cc9a458b49c241656f1", func := "loop.example/g00735/laws.FnExactLive", spec := "fnExactLive", apart := false, narrowed := true }
def FnExactLiveUptoSaid : Prop := fnExactLiveUptoRow.holds Try.pinned (OpenSpec.upto fnExactLiveSpec)

/-- 'laws.FnExactRsText', WHERE WHAT IT READS IS OF BULK AT MOST 1048576: true; the input reads as it did. -/
def fnExactRsTextUptoRow : OpenClaim := { program := "ytjihbihhandapaa", sum := "78f97b4f062ebd1adee06d80b65287b2c451d7aaddb85cc9a458b49c241656f1", func := "loop.example/g00735/laws.FnExactRsText", spec := "fnExactRsText", apart := false, narrowed := true }
def FnExactRsTextUptoSaid : Prop := fnExactRsTextUptoRow.holds Try.pinned (OpenSpec.upto fnExactRsTextSpec)

/-- 'laws.FnExactTextRs', WHERE WHAT IT READS IS OF BULK AT MOST 1048576: true; the input reads as it did. -/
def fnExactTextRsUptoRow : OpenClaim := { program := "ytjihbihhandapaa", sum := "78f97b4f062ebd1adee06d80b65287b2c451d7aaddb85cc9a458b49c241656f1", func := "loop.example/g00735/laws.FnExactTextRs", spec := "fnExactTextRs", apart := false, narrowed := true }
def FnExactTextRsUptoSaid : Prop := fnExactTextRsUptoRow.holds Try.pinned (OpenSpec.upto fnExactTextRsSpec)

/-- 'laws.FnExactReplyMti', WHERE WHAT IT READS IS OF BULK AT MOST 1048576: true; the input reads as it did. -/
def fnExactReplyMtiUptoRow : OpenClaim := { program := "ytjihbihhandapaa", sum := "78f97b4f062ebd1adee06d80b65287b2c451d7aaddb85cc9a458b49c241656f1", func := "loop.example/g00735/laws.FnExactReplyMti", spec := "fnExactReplyMti", apart := false, narrowed := true }
def FnExactReplyMtiUptoSaid : Prop := fnExactReplyMtiUptoRow.holds Try.pinned (OpenSpec.upto fnExactReplyMtiSpec)

end Rows
end Go.Proofs.Ytjihbihhandapaa
