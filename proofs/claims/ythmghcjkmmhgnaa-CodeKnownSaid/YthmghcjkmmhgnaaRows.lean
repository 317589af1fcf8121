/-
  No cell of these rows narrows 'for every input' (looked for: loops, veiled, ifaces, maps, wideKeys, modest, calm, conditions, laid).
  DERIVED. THE GIVEN ROWS OF THIS SEAT. 13 by the template 'for every input the law returns true; each argument reads behind the call as it read before'; 0 by the template 'total and deterministic' (their statements: YthmghcjkmmhgnaaTotals.lean).
  GIVEN WITH THE SEED: the statements are not yours to turn. If you find one false, say at which input.
  Laid BY PROGRAM, IN A SANDBOX (cutbox-rows.mjs): the forced cells as the released guide's own fill.sh prints them over the translation 14ff810a51216e6f… (all of the seat's roots in one cut). By AI agents, Wed Nov 11 2026. No macro, syntax, notation, axiom, sorry.
-/
import Derived.Test.YthmghcjkmmhgnaaChecked
import GoSem.Claim
import GoSem.ClaimJoined
import GoSem.ClaimMapViews
import Derived.JoinedTies
import Derived.KernelRfl
namespace Go.Proofs.Ythmghcjkmmhgnaa
/- THE CELL 'sum', in the pinned program and in every row, IS THE sha256 OF THE DUMP (.gsa) THAT YthmghcjkmmhgnaaProg.lean LOADS. Nothing in Lean hashes anything: it is a label: what it is worth is what the hold of that sum in a sandbox is worth. -/
noncomputable def Try.pinned : Pinned := { name := "ythmghcjkmmhgnaa", sum := "14ff810a51216e6f77b03035c9f52b3d0f25f325ff8368853c86c7057535f512", checked := Try.checked }
namespace Rows
def none {H : Type} : Left H := { results := [], args := [] }

/-- 'portagelaw07.CodeSafe': WHATEVER THE INPUT: true; the input reads as it did. -/
def codeSafeSpec : ChangeSpec := { name := "codeSafe", fn := fun _ => fun
  | [d1, d2] => { results := [.lit (.bool true)], args := [d1, d2] }
  | _ => none }
def codeSafeRow : OpenClaim := { program := "ythmghcjkmmhgnaa", sum := "14ff810a51216e6f77b03035c9f52b3d0f25f325ff8368853c86c7057535f512", func := "portage/portagelaw07.CodeSafe", spec := "codeSafe", apart := false }
def CodeSafeSaid : Prop := codeSafeRow.holds Try.pinned (OpenSpec.ofChange codeSafeSpec)

/-- ITS FALSE NEIGHBOUR: 'it returns false'. Refute it at one input. -/
def codeSafeWrong : ChangeSpec := { name := "codeSafe", fn := fun _ => fun
  | [d1, d2] => { results := [.lit (.bool false)], args := [d1, d2] }
  | _ => none }
def CodeSafeWrongFalsely : Prop := codeSafeRow.holds Try.pinned (OpenSpec.ofChange codeSafeWrong)

/-- 'portagelaw07.CodeKinds': WHATEVER THE INPUT: true; the input reads as it did. -/
def codeKindsSpec : ChangeSpec := { name := "codeKinds", fn := fun _ => fun
  | [d] => { results := [.lit (.bool true)], args := [d] }
  | _ => none }
def codeKindsRow : OpenClaim := { program := "ythmghcjkmmhgnaa", sum := "14ff810a51216e6f77b03035c9f52b3d0f25f325ff8368853c86c7057535f512", func := "portage/portagelaw07.CodeKinds", spec := "codeKinds", apart := false }
def CodeKindsSaid : Prop := codeKindsRow.holds Try.pinned (OpenSpec.ofChange codeKindsSpec)

/-- ITS FALSE NEIGHBOUR: 'it returns false'. Refute it at one input. -/
def codeKindsWrong : ChangeSpec := { name := "codeKinds", fn := fun _ => fun
  | [d] => { results := [.lit (.bool false)], args := [d] }
  | _ => none }
def CodeKindsWrongFalsely : Prop := codeKindsRow.holds Try.pinned (OpenSpec.ofChange codeKindsWrong)

/-- 'portagelaw07.CodeNames': WHATEVER THE INPUT: true; the input reads as it did. -/
def codeNamesSpec : ChangeSpec := { name := "codeNames", fn := fun _ => fun
  | [d1, d2] => { results := [.lit (.bool true)], args := [d1, d2] }
  | _ => none }
def codeNamesRow : OpenClaim := { program := "ythmghcjkmmhgnaa", sum := "14ff810a51216e6f77b03035c9f52b3d0f25f325ff8368853c86c7057535f512", func := "portage/portagelaw07.CodeNames", spec := "codeNames", apart := false }
def CodeNamesSaid : Prop := codeNamesRow.holds Try.pinned (OpenSpec.ofChange codeNamesSpec)

/-- ITS FALSE NEIGHBOUR: 'it returns false'. Refute it at one input. -/
def codeNamesWrong : ChangeSpec := { name := "codeNames", fn := fun _ => fun
  | [d1, d2] => { results := [.lit (.bool false)], args := [d1, d2] }
  | _ => none }
def CodeNamesWrongFalsely : Prop := codeNamesRow.holds Try.pinned (OpenSpec.ofChange codeNamesWrong)

/-- 'portagelaw07.CodeNamed': WHATEVER THE INPUT: true; the input reads as it did. -/
def codeNamedSpec : ChangeSpec := { name := "codeNamed", fn := fun _ => fun
  | [] => { results := [.lit (.bool true)], args := [] }
  | _ => none }
def codeNamedRow : OpenClaim := { program := "ythmghcjkmmhgnaa", sum := "14ff810a51216e6f77b03035c9f52b3d0f25f325ff8368853c86c7057535f512", func := "portage/portagelaw07.CodeNamed", spec := "codeNamed", apart := false }
def CodeNamedSaid : Prop := codeNamedRow.holds Try.pinned (OpenSpec.ofChange codeNamedSpec)

/-- ITS FALSE NEIGHBOUR: 'it returns false'. Refute it at one input. -/
def codeNamedWrong : ChangeSpec := { name := "codeNamed", fn := fun _ => fun
  | [] => { results := [.lit (.bool false)], args := [] }
  | _ => none }
def CodeNamedWrongFalsely : Prop := codeNamedRow.holds Try.pinned (OpenSpec.ofChange codeNamedWrong)

/-- 'portagelaw07.CodeEffect': WHATEVER THE INPUT: true; the input reads as it did. -/
def codeEffectSpec : ChangeSpec := { name := "codeEffect", fn := fun _ => fun
  | [d] => { results := [.lit (.bool true)], args := [d] }
  | _ => none }
def codeEffectRow : OpenClaim := { program := "ythmghcjkmmhgnaa", sum := "14ff810a51216e6f77b03035c9f52b3d0f25f325ff8368853c86c7057535f512", func := "portage/portagelaw07.CodeEffect", spec := "codeEffect", unfollowed := true, recurses := true, apart := false }
def CodeEffectSaid : Prop := codeEffectRow.holds Try.pinned (OpenSpec.ofChange codeEffectSpec)

/-- ITS FALSE NEIGHBOUR: 'it returns false'. Refute it at one input. -/
def codeEffectWrong : ChangeSpec := { name := "codeEffect", fn := fun _ => fun
  | [d] => { results := [.lit (.bool false)], args := [d] }
  | _ => none }
def CodeEffectWrongFalsely : Prop := codeEffectRow.holds Try.pinned (OpenSpec.ofChange codeEffectWrong)

/-- 'portagelaw07.CodeFlow': WHATEVER THE INPUT: true; the input reads as it did. -/
def codeFlowSpec : ChangeSpec := { name := "codeFlow", fn := fun _ => fun
  | [d] => { results := [.lit (.bool true)], args := [d] }
  | _ => none }
def codeFlowRow : OpenClaim := { program := "ythmghcjkmmhgnaa", sum := "14ff810a51216e6f77b03035c9f52b3d0f25f325ff8368853c86c7057535f512", func := "portage/portagelaw07.CodeFlow", spec := "codeFlow", unfollowed := true, recurses := true, apart := false }
def CodeFlowSaid : Prop := codeFlowRow.holds Try.pinned (OpenSpec.ofChange codeFlowSpec)

/-- ITS FALSE NEIGHBOUR: 'it returns false'. Refute it at one input. -/
def codeFlowWrong : ChangeSpec := { name := "codeFlow", fn := fun _ => fun
  | [d] => { results := [.lit (.bool false)], args := [d] }
  | _ => none }
def CodeFlowWrongFalsely : Prop := codeFlowRow.holds Try.pinned (OpenSpec.ofChange codeFlowWrong)

/-- 'portagelaw07.CodeDecode': WHATEVER THE INPUT: true; the input reads as it did. -/
def codeDecodeSpec : ChangeSpec := { name := "codeDecode", fn := fun _ => fun
  | [d] => { results := [.lit (.bool true)], args := [d] }
  | _ => none }
def codeDecodeRow : OpenClaim := { program := "ythmghcjkmmhgnaa", sum := "14ff810a51216e6f77b03035c9f52b3d0f25f325ff8368853c86c7057535f512", func := "portage/portagelaw07.CodeDecode", spec := "codeDecode", unfollowed := true, recurses := true, apart := false }
def CodeDecodeSaid : Prop := codeDecodeRow.holds Try.pinned (OpenSpec.ofChange codeDecodeSpec)

/-- ITS FALSE NEIGHBOUR: 'it returns false'. Refute it at one input. -/
def codeDecodeWrong : ChangeSpec := { name := "codeDecode", fn := fun _ => fun
  | [d] => { results := [.lit (.bool false)], args := [d] }
  | _ => none }
def CodeDecodeWrongFalsely : Prop := codeDecodeRow.holds Try.pinned (OpenSpec.ofChange codeDecodeWrong)

/-- 'portagelaw07.CodeEncode': WHATEVER THE INPUT: true; the input reads as it did. -/
def codeEncodeSpec : ChangeSpec := { name := "codeEncode", fn := fun _ => fun
  | [d] => { results := [.lit (.bool true)], args := [d] }
  | _ => none }
def codeEncodeRow : OpenClaim := { program := "ythmghcjkmmhgnaa", sum := "14ff810a51216e6f77b03035c9f52b3d0f25f325ff8368853c86c7057535f512", func := "portage/portagelaw07.CodeEncode", spec := "codeEncode", unfollowed := true, recurses := true, apart := false }
def CodeEncodeSaid : Prop := codeEncodeRow.holds Try.pinned (OpenSpec.ofChange codeEncodeSpec)

/-- ITS FALSE NEIGHBOUR: 'it returns false'. Refute it at one input. -/
def codeEncodeWrong : ChangeSpec := { name := "codeEncode", fn := fun _ => fun
  | [d] => { results := [.lit (.bool false)], args := [d] }
  | _ => none }
def CodeEncodeWrongFalsely : Prop := codeEncodeRow.holds Try.pinned (OpenSpec.ofChange codeEncodeWrong)

/-- 'portagelaw07.CodeJoins': WHATEVER THE INPUT: true; the input reads as it did. -/
def codeJoinsSpec : ChangeSpec := { name := "codeJoins", fn := fun _ => fun
  | [d1, d2] => { results := [.lit (.bool true)], args := [d1, d2] }
  | _ => none }
def codeJoinsRow : OpenClaim := { program := "ythmghcjkmmhgnaa", sum := "14ff810a51216e6f77b03035c9f52b3d0f25f325ff8368853c86c7057535f512", func := "portage/portagelaw07.CodeJoins", spec := "codeJoins", unfollowed := true, recurses := true, apart := false }
def CodeJoinsSaid : Prop := codeJoinsRow.holds Try.pinned (OpenSpec.ofChange codeJoinsSpec)

/-- ITS FALSE NEIGHBOUR: 'it returns false'. Refute it at one input. -/
def codeJoinsWrong : ChangeSpec := { name := "codeJoins", fn := fun _ => fun
  | [d1, d2] => { results := [.lit (.bool false)], args := [d1, d2] }
  | _ => none }
def CodeJoinsWrongFalsely : Prop := codeJoinsRow.holds Try.pinned (OpenSpec.ofChange codeJoinsWrong)

/-- 'portagelaw07.CodeBack': WHATEVER THE INPUT: true; the input reads as it did. -/
def codeBackSpec : ChangeSpec := { name := "codeBack", fn := fun _ => fun
  | [d] => { results := [.lit (.bool true)], args := [d] }
  | _ => none }
def codeBackRow : OpenClaim := { program := "ythmghcjkmmhgnaa", sum := "14ff810a51216e6f77b03035c9f52b3d0f25f325ff8368853c86c7057535f512", func := "portage/portagelaw07.CodeBack", spec := "codeBack", unfollowed := true, recurses := true, apart := false }
def CodeBackSaid : Prop := codeBackRow.holds Try.pinned (OpenSpec.ofChange codeBackSpec)

/-- ITS FALSE NEIGHBOUR: 'it returns false'. Refute it at one input. -/
def codeBackWrong : ChangeSpec := { name := "codeBack", fn := fun _ => fun
  | [d] => { results := [.lit (.bool false)], args := [d] }
  | _ => none }
def CodeBackWrongFalsely : Prop := codeBackRow.holds Try.pinned (OpenSpec.ofChange codeBackWrong)

/-- 'portagelaw07.CodeOneForm': WHATEVER THE INPUT: true; the input reads as it did. -/
def codeOneFormSpec : ChangeSpec := { name := "codeOneForm", fn := fun _ => fun
  | [d] => { results := [.lit (.bool true)], args := [d] }
  | _ => none }
def codeOneFormRow : OpenClaim := { program := "ythmghcjkmmhgnaa", sum := "14ff810a51216e6f77b03035c9f52b3d0f25f325ff8368853c86c7057535f512", func := "portage/portagelaw07.CodeOneForm", spec := "codeOneForm", unfollowed := true, recurses := true, apart := false }
def CodeOneFormSaid : Prop := codeOneFormRow.holds Try.pinned (OpenSpec.ofChange codeOneFormSpec)

/-- ITS FALSE NEIGHBOUR: 'it returns false'. Refute it at one input. -/
def codeOneFormWrong : ChangeSpec := { name := "codeOneForm", fn := fun _ => fun
  | [d] => { results := [.lit (.bool false)], args := [d] }
  | _ => none }
def CodeOneFormWrongFalsely : Prop := codeOneFormRow.holds Try.pinned (OpenSpec.ofChange codeOneFormWrong)

/-- 'portagelaw07.CodeCut': WHATEVER THE INPUT: true; the input reads as it did. -/
def codeCutSpec : ChangeSpec := { name := "codeCut", fn := fun _ => fun
  | [d1, d2] => { results := [.lit (.bool true)], args := [d1, d2] }
  | _ => none }
def codeCutRow : OpenClaim := { program := "ythmghcjkmmhgnaa", sum := "14ff810a51216e6f77b03035c9f52b3d0f25f325ff8368853c86c7057535f512", func := "portage/portagelaw07.CodeCut", spec := "codeCut", unfollowed := true, recurses := true, apart := false }
def CodeCutSaid : Prop := codeCutRow.holds Try.pinned (OpenSpec.ofChange codeCutSpec)

/-- ITS FALSE NEIGHBOUR: 'it returns false'. Refute it at one input. -/
def codeCutWrong : ChangeSpec := { name := "codeCut", fn := fun _ => fun
  | [d1, d2] => { results := [.lit (.bool false)], args := [d1, d2] }
  | _ => none }
def CodeCutWrongFalsely : Prop := codeCutRow.holds Try.pinned (OpenSpec.ofChange codeCutWrong)

/-- 'portagelaw07.CodeKnown': WHATEVER THE INPUT: true; the input reads as it did. -/
def codeKnownSpec : ChangeSpec := { name := "codeKnown", fn := fun _ => fun
  | [] => { results := [.lit (.bool true)], args := [] }
  | _ => none }
def codeKnownRow : OpenClaim := { program := "ythmghcjkmmhgnaa", sum := "14ff810a51216e6f77b03035c9f52b3d0f25f325ff8368853c86c7057535f512", func := "portage/portagelaw07.CodeKnown", spec := "codeKnown", unfollowed := true, recurses := true, apart := false }
def CodeKnownSaid : Prop := codeKnownRow.holds Try.pinned (OpenSpec.ofChange codeKnownSpec)

/-- ITS FALSE NEIGHBOUR: 'it returns false'. Refute it at one input. -/
def codeKnownWrong : ChangeSpec := { name := "codeKnown", fn := fun _ => fun
  | [] => { results := [.lit (.bool false)], args := [] }
  | _ => none }
def CodeKnownWrongFalsely : Prop := codeKnownRow.holds Try.pinned (OpenSpec.ofChange codeKnownWrong)

/- THE SECOND FORM. 'bulk': how many values and letters a reading holds, each counted each time it is reached (what is shared counts as often as it is met; a slice's spare places count too). A statement '..UptoSaid' is the law's where the arguments, and the package variables that the reading takes, are together of bulk at most 1048576: NARROWER than '..Said'. Prove '..Said' where nothing that the law and all that it calls make is longer than what came in: it says more and counts as full. Else prove '..UptoSaid'. A law counts once. -/
mutual
def uptoBulk {H : Type} : DataW H → Nat
  | .lit (.string bytes) => bytes.length + 1
  | .lit _ => 1
  | .nil => 1
  | .ptr d => uptoBulk d + 1
  | .slice elems spare => uptoBulkAll elems + uptoBulkAll spare + 1
  | .agg parts => uptoBulkAll parts + 1
  | .iface _ d => uptoBulk d + 1
  | .map entries => uptoBulkEntries entries + 1
  | .held _ => 1
def uptoBulkAll {H : Type} : List (DataW H) → Nat
  | [] => 0
  | d :: r => uptoBulk d + uptoBulkAll r
def uptoBulkEntries {H : Type} : List (Lit × DataW H) → Nat
  | [] => 0
  | x :: r => uptoBulkEntry x + uptoBulkEntries r
def uptoBulkEntry {H : Type} : Lit × DataW H → Nat
  | (.string bytes, d) => bytes.length + uptoBulk d + 1
  | (_, d) => uptoBulk d + 1
 end
def uptoSmall : (H : Type) → List (DataW H) → Bool := fun _ ds => decide (uptoBulkAll ds ≤ 1048576)
def OpenSpec.upto (s : _root_.Go.ChangeSpec) : _root_.Go.OpenSpec := { _root_.Go.OpenSpec.ofChange s with cond := some uptoSmall }

/-- 'portagelaw07.CodeSafe', WHERE WHAT IT READS IS OF BULK AT MOST 1048576: true; the input reads as it did. -/
def codeSafeUptoRow : OpenClaim := { program := "ythmghcjkmmhgnaa", sum := "14ff810a51216e6f77b03035c9f52b3d0f25f325ff8368853c86c7057535f512", func := "portage/portagelaw07.CodeSafe", spec := "codeSafe", apart := false, narrowed := true }
def CodeSafeUptoSaid : Prop := codeSafeUptoRow.holds Try.pinned (OpenSpec.upto codeSafeSpec)

/-- 'portagelaw07.CodeKinds', WHERE WHAT IT READS IS OF BULK AT MOST 1048576: true; the input reads as it did. -/
def codeKindsUptoRow : OpenClaim := { program := "ythmghcjkmmhgnaa", sum := "14ff810a51216e6f77b03035c9f52b3d0f25f325ff8368853c86c7057535f512", func := "portage/portagelaw07.CodeKinds", spec := "codeKinds", apart := false, narrowed := true }
def CodeKindsUptoSaid : Prop := codeKindsUptoRow.holds Try.pinned (OpenSpec.upto codeKindsSpec)

/-- 'portagelaw07.CodeNames', WHERE WHAT IT READS IS OF BULK AT MOST 1048576: true; the input reads as it did. -/
def codeNamesUptoRow : OpenClaim := { program := "ythmghcjkmmhgnaa", sum := "14ff810a51216e6f77b03035c9f52b3d0f25f325ff8368853c86c7057535f512", func := "portage/portagelaw07.CodeNames", spec := "codeNames", apart := false, narrowed := true }
def CodeNamesUptoSaid : Prop := codeNamesUptoRow.holds Try.pinned (OpenSpec.upto codeNamesSpec)

/-- 'portagelaw07.CodeNamed', WHERE WHAT IT READS IS OF BULK AT MOST 1048576: true; the input reads as it did. -/
def codeNamedUptoRow : OpenClaim := { program := "ythmghcjkmmhgnaa", sum := "14ff810a51216e6f77b03035c9f52b3d0f25f325ff8368853c86c7057535f512", func := "portage/portagelaw07.CodeNamed", spec := "codeNamed", apart := false, narrowed := true }
def CodeNamedUptoSaid : Prop := codeNamedUptoRow.holds Try.pinned (OpenSpec.upto codeNamedSpec)

/-- 'portagelaw07.CodeEffect', WHERE WHAT IT READS IS OF BULK AT MOST 1048576: true; the input reads as it did. -/
def codeEffectUptoRow : OpenClaim := { program := "ythmghcjkmmhgnaa", sum := "14ff810a51216e6f77b03035c9f52b3d0f25f325ff8368853c86c7057535f512", func := "portage/portagelaw07.CodeEffect", spec := "codeEffect", unfollowed := true, recurses := true, apart := false, narrowed := true }
def CodeEffectUptoSaid : Prop := codeEffectUptoRow.holds Try.pinned (OpenSpec.upto codeEffectSpec)

/-- 'portagelaw07.CodeFlow', WHERE WHAT IT READS IS OF BULK AT MOST 1048576: true; the input reads as it did. -/
def codeFlowUptoRow : OpenClaim := { program := "ythmghcjkmmhgnaa", sum := "14ff810a51216e6f77b03035c9f52b3d0f25f325ff8368853c86c7057535f512", func := "portage/portagelaw07.CodeFlow", spec := "codeFlow", unfollowed := true, recurses := true, apart := false, narrowed := true }
def CodeFlowUptoSaid : Prop := codeFlowUptoRow.holds Try.pinned (OpenSpec.upto codeFlowSpec)

/-- 'portagelaw07.CodeDecode', WHERE WHAT IT READS IS OF BULK AT MOST 1048576: true; the input reads as it did. -/
def codeDecodeUptoRow : OpenClaim := { program := "ythmghcjkmmhgnaa", sum := "14ff810a51216e6f77b03035c9f52b3d0f25f325ff8368853c86c7057535f512", func := "portage/portagelaw07.CodeDecode", spec := "codeDecode", unfollowed := true, recurses := true, apart := false, narrowed := true }
def CodeDecodeUptoSaid : Prop := codeDecodeUptoRow.holds Try.pinned (OpenSpec.upto codeDecodeSpec)

/-- 'portagelaw07.CodeEncode', WHERE WHAT IT READS IS OF BULK AT MOST 1048576: true; the input reads as it did. -/
def codeEncodeUptoRow : OpenClaim := { program := "ythmghcjkmmhgnaa", sum := "14ff810a51216e6f77b03035c9f52b3d0f25f325ff8368853c86c7057535f512", func := "portage/portagelaw07.CodeEncode", spec := "codeEncode", unfollowed := true, recurses := true, apart := false, narrowed := true }
def CodeEncodeUptoSaid : Prop := codeEncodeUptoRow.holds Try.pinned (OpenSpec.upto codeEncodeSpec)

/-- 'portagelaw07.CodeJoins', WHERE WHAT IT READS IS OF BULK AT MOST 1048576: true; the input reads as it did. -/
def codeJoinsUptoRow : OpenClaim := { program := "ythmghcjkmmhgnaa", sum := "14ff810a51216e6f77b03035c9f52b3d0f25f325ff8368853c86c7057535f512", func := "portage/portagelaw07.CodeJoins", spec := "codeJoins", unfollowed := true, recurses := true, apart := false, narrowed := true }
def CodeJoinsUptoSaid : Prop := codeJoinsUptoRow.holds Try.pinned (OpenSpec.upto codeJoinsSpec)

/-- 'portagelaw07.CodeBack', WHERE WHAT IT READS IS OF BULK AT MOST 1048576: true; the input reads as it did. -/
def codeBackUptoRow : OpenClaim := { program := "ythmghcjkmmhgnaa", sum := "14ff810a51216e6f77b03035c9f52b3d0f25f325ff8368853c86c7057535f512", func := "portage/portagelaw07.CodeBack", spec := "codeBack", unfollowed := true, recurses := true, apart := false, narrowed := true }
def CodeBackUptoSaid : Prop := codeBackUptoRow.holds Try.pinned (OpenSpec.upto codeBackSpec)

/-- 'portagelaw07.CodeOneForm', WHERE WHAT IT READS IS OF BULK AT MOST 1048576: true; the input reads as it did. -/
def codeOneFormUptoRow : OpenClaim := { program := "ythmghcjkmmhgnaa", sum := "14ff810a51216e6f77b03035c9f52b3d0f25f325ff8368853c86c7057535f512", func := "portage/portagelaw07.CodeOneForm", spec := "codeOneForm", unfollowed := true, recurses := true, apart := false, narrowed := true }
def CodeOneFormUptoSaid : Prop := codeOneFormUptoRow.holds Try.pinned (OpenSpec.upto codeOneFormSpec)

/-- 'portagelaw07.CodeCut', WHERE WHAT IT READS IS OF BULK AT MOST 1048576: true; the input reads as it did. -/
def codeCutUptoRow : OpenClaim := { program := "ythmghcjkmmhgnaa", sum := "14ff810a51216e6f77b03035c9f52b3d0f25f325ff8368853c86c7057535f512", func := "portage/portagelaw07.CodeCut", spec := "codeCut", unfollowed := true, recurses := true, apart := false, narrowed := true }
def CodeCutUptoSaid : Prop := codeCutUptoRow.holds Try.pinned (OpenSpec.upto codeCutSpec)

/-- 'portagelaw07.CodeKnown', WHERE WHAT IT READS IS OF BULK AT MOST 1048576: true; the input reads as it did. -/
def codeKnownUptoRow : OpenClaim := { program := "ythmghcjkmmhgnaa", sum := "14ff810a51216e6f77b03035c9f52b3d0f25f325ff8368853c86c7057535f512", func := "portage/portagelaw07.CodeKnown", spec := "codeKnown", unfollowed := true, recurses := true, apart := false, narrowed := true }
def CodeKnownUptoSaid : Prop := codeKnownUptoRow.holds Try.pinned (OpenSpec.upto codeKnownSpec)

end Rows
end Go.Proofs.Ythmghcjkmmhgnaa
