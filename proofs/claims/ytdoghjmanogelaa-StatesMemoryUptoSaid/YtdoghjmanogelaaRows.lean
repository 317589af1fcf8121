/-
  No cell of these rows narrows 'for every input' (looked for: loops, veiled, ifaces, maps, wideKeys, modest, calm, conditions, laid).
  DERIVED. THE GIVEN ROWS OF THIS SEAT. 6 by the template 'for every input the law returns true; each argument reads behind the call as it read before'; 0 by the template 'total and deterministic' (their statements: YtdoghjmanogelaaTotals.lean).
  GIVEN WITH THE SEED: the statements are not yours to turn. If you find one false, say at which input.
  Laid BY PROGRAM, IN A SANDBOX (cutbox-rows.mjs): the forced cells as the released guide's own fill.sh prints them over the translation 46d5a34c45a76b0a… (all of the seat's roots in one cut). By AI agents, Wed Nov 11 2026. No macro, syntax, notation, axiom, sorry.
-/
import Derived.Test.YtdoghjmanogelaaChecked
import GoSem.Claim
import GoSem.ClaimJoined
import GoSem.ClaimMapViews
import Derived.JoinedTies
import Derived.KernelRfl
namespace Go.Proofs.Ytdoghjmanogelaa
/- THE CELL 'sum', in the pinned program and in every row, IS THE sha256 OF THE DUMP (.gsa) THAT YtdoghjmanogelaaProg.lean LOADS. Nothing in Lean hashes anything: it is a label: what it is worth is what the hold of that sum in a sandbox is worth. -/
noncomputable def Try.pinned : Pinned := { name := "ytdoghjmanogelaa", sum := "46d5a34c45a76b0a703c8933b954270eb3cb30d81c52998af81abf010ee59041", checked := Try.checked }
namespace Rows
def none {H : Type} : Left H := { results := [], args := [] }

/-- 'portagelaw08.ProgramFinds': WHATEVER THE INPUT: true; the input reads as it did. -/
def programFindsSpec : ChangeSpec := { name := "programFinds", fn := fun _ => fun
  | [d1, d2] => { results := [.lit (.bool true)], args := [d1, d2] }
  | _ => none }
def programFindsRow : OpenClaim := { program := "ytdoghjmanogelaa", sum := "46d5a34c45a76b0a703c8933b954270eb3cb30d81c52998af81abf010ee59041", func := "portage/portagelaw08.ProgramFinds", spec := "programFinds", apart := false }
def ProgramFindsSaid : Prop := programFindsRow.holds Try.pinned (OpenSpec.ofChange programFindsSpec)

/-- ITS FALSE NEIGHBOUR: 'it returns false'. Refute it at one input. -/
def programFindsWrong : ChangeSpec := { name := "programFinds", fn := fun _ => fun
  | [d1, d2] => { results := [.lit (.bool false)], args := [d1, d2] }
  | _ => none }
def ProgramFindsWrongFalsely : Prop := programFindsRow.holds Try.pinned (OpenSpec.ofChange programFindsWrong)

/-- 'portagelaw15.StatesSafe': WHATEVER THE INPUT: true; the input reads as it did. -/
def statesSafeSpec : ChangeSpec := { name := "statesSafe", fn := fun _ => fun
  | [d1, d2, d3] => { results := [.lit (.bool true)], args := [d1, d2, d3] }
  | _ => none }
def statesSafeRow : OpenClaim := { program := "ytdoghjmanogelaa", sum := "46d5a34c45a76b0a703c8933b954270eb3cb30d81c52998af81abf010ee59041", func := "portage/portagelaw15.StatesSafe", spec := "statesSafe", apart := false }
def StatesSafeSaid : Prop := statesSafeRow.holds Try.pinned (OpenSpec.ofChange statesSafeSpec)

/-- ITS FALSE NEIGHBOUR: 'it returns false'. Refute it at one input. -/
def statesSafeWrong : ChangeSpec := { name := "statesSafe", fn := fun _ => fun
  | [d1, d2, d3] => { results := [.lit (.bool false)], args := [d1, d2, d3] }
  | _ => none }
def StatesSafeWrongFalsely : Prop := statesSafeRow.holds Try.pinned (OpenSpec.ofChange statesSafeWrong)

/-- 'portagelaw15.StatesCanon': WHATEVER THE INPUT: true; the input reads as it did. -/
def statesCanonSpec : ChangeSpec := { name := "statesCanon", fn := fun _ => fun
  | [d1, d2] => { results := [.lit (.bool true)], args := [d1, d2] }
  | _ => none }
def statesCanonRow : OpenClaim := { program := "ytdoghjmanogelaa", sum := "46d5a34c45a76b0a703c8933b954270eb3cb30d81c52998af81abf010ee59041", func := "portage/portagelaw15.StatesCanon", spec := "statesCanon", unfollowed := true, recurses := true, apart := false }
def StatesCanonSaid : Prop := statesCanonRow.holds Try.pinned (OpenSpec.ofChange statesCanonSpec)

/-- ITS FALSE NEIGHBOUR: 'it returns false'. Refute it at one input. -/
def statesCanonWrong : ChangeSpec := { name := "statesCanon", fn := fun _ => fun
  | [d1, d2] => { results := [.lit (.bool false)], args := [d1, d2] }
  | _ => none }
def StatesCanonWrongFalsely : Prop := statesCanonRow.holds Try.pinned (OpenSpec.ofChange statesCanonWrong)

/-- 'portagelaw15.StatesMemory': WHATEVER THE INPUT: true; the input reads as it did. -/
def statesMemorySpec : ChangeSpec := { name := "statesMemory", fn := fun _ => fun
  | [d1, d2] => { results := [.lit (.bool true)], args := [d1, d2] }
  | _ => none }
def statesMemoryRow : OpenClaim := { program := "ytdoghjmanogelaa", sum := "46d5a34c45a76b0a703c8933b954270eb3cb30d81c52998af81abf010ee59041", func := "portage/portagelaw15.StatesMemory", spec := "statesMemory", unfollowed := true, recurses := true, apart := false }
def StatesMemorySaid : Prop := statesMemoryRow.holds Try.pinned (OpenSpec.ofChange statesMemorySpec)

/-- ITS FALSE NEIGHBOUR: 'it returns false'. Refute it at one input. -/
def statesMemoryWrong : ChangeSpec := { name := "statesMemory", fn := fun _ => fun
  | [d1, d2] => { results := [.lit (.bool false)], args := [d1, d2] }
  | _ => none }
def StatesMemoryWrongFalsely : Prop := statesMemoryRow.holds Try.pinned (OpenSpec.ofChange statesMemoryWrong)

/-- 'portagelaw15.StatesSame': WHATEVER THE INPUT: true; the input reads as it did. -/
def statesSameSpec : ChangeSpec := { name := "statesSame", fn := fun _ => fun
  | [d1, d2] => { results := [.lit (.bool true)], args := [d1, d2] }
  | _ => none }
def statesSameRow : OpenClaim := { program := "ytdoghjmanogelaa", sum := "46d5a34c45a76b0a703c8933b954270eb3cb30d81c52998af81abf010ee59041", func := "portage/portagelaw15.StatesSame", spec := "statesSame", unfollowed := true, recurses := true, apart := false }
def StatesSameSaid : Prop := statesSameRow.holds Try.pinned (OpenSpec.ofChange statesSameSpec)

/-- ITS FALSE NEIGHBOUR: 'it returns false'. Refute it at one input. -/
def statesSameWrong : ChangeSpec := { name := "statesSame", fn := fun _ => fun
  | [d1, d2] => { results := [.lit (.bool false)], args := [d1, d2] }
  | _ => none }
def StatesSameWrongFalsely : Prop := statesSameRow.holds Try.pinned (OpenSpec.ofChange statesSameWrong)

/-- 'portagelaw28.ImageHeads': WHATEVER THE INPUT: true; the input reads as it did. -/
def imageHeadsSpec : ChangeSpec := { name := "imageHeads", fn := fun _ => fun
  | [d1, d2] => { results := [.lit (.bool true)], args := [d1, d2] }
  | _ => none }
def imageHeadsRow : OpenClaim := { program := "ytdoghjmanogelaa", sum := "46d5a34c45a76b0a703c8933b954270eb3cb30d81c52998af81abf010ee59041", func := "portage/portagelaw28.ImageHeads", spec := "imageHeads", unfollowed := true, recurses := true, apart := false }
def ImageHeadsSaid : Prop := imageHeadsRow.holds Try.pinned (OpenSpec.ofChange imageHeadsSpec)

/-- ITS FALSE NEIGHBOUR: 'it returns false'. Refute it at one input. -/
def imageHeadsWrong : ChangeSpec := { name := "imageHeads", fn := fun _ => fun
  | [d1, d2] => { results := [.lit (.bool false)], args := [d1, d2] }
  | _ => none }
def ImageHeadsWrongFalsely : Prop := imageHeadsRow.holds Try.pinned (OpenSpec.ofChange imageHeadsWrong)

/- THE SECOND FORM. 'bulk': how many values and letters a reading holds, each counted each time it is reached (what is shared counts as often as it is met; a slice's spare places count too). A statement '..UptoSaid' is the law's where the arguments, and the package variables that the reading takes, are together of bulk at most 1048576: NARROWER than '..Said'. Prove '..Said' where nothing that the law and all that it calls make is longer than what came in: it says more and counts as full. Else prove '..UptoSaid'. A law counts once. -/
mutual
def uptoBulk {H : Type} : DataW H → Nat
  | .lit (.string bytes) => bytes.length + 1
  | .lit _ => 1
  | .nil => 1
  | .ptr d => uptoBulk d + 1
  | .slice elems spare => uptoBulkAll elems + uptoBulkAll spare + 1
  | .agg parts => uptoBulkAll parts + 1
  | .iface _ d => uptoBulk d + 1
  | .map entries => uptoBulkEntries entries + 1
  | .held _ => 1
def uptoBulkAll {H : Type} : List (DataW H) → Nat
  | [] => 0
  | d :: r => uptoBulk d + uptoBulkAll r
def uptoBulkEntries {H : Type} : List (Lit × DataW H) → Nat
  | [] => 0
  | x :: r => uptoBulkEntry x + uptoBulkEntries r
def uptoBulkEntry {H : Type} : Lit × DataW H → Nat
  | (.string bytes, d) => bytes.length + uptoBulk d + 1
  | (_, d) => uptoBulk d + 1
 end
def uptoSmall : (H : Type) → List (DataW H) → Bool := fun _ ds => decide (uptoBulkAll ds ≤ 1048576)
def OpenSpec.upto (s : _root_.Go.ChangeSpec) : _root_.Go.OpenSpec := { _root_.Go.OpenSpec.ofChange s with cond := some uptoSmall }

/-- 'portagelaw08.ProgramFinds', WHERE WHAT IT READS IS OF BULK AT MOST 1048576: true; the input reads as it did. -/
def programFindsUptoRow : OpenClaim := { program := "ytdoghjmanogelaa", sum := "46d5a34c45a76b0a703c8933b954270eb3cb30d81c52998af81abf010ee59041", func := "portage/portagelaw08.ProgramFinds", spec := "programFinds", apart := false, narrowed := true }
def ProgramFindsUptoSaid : Prop := programFindsUptoRow.holds Try.pinned (OpenSpec.upto programFindsSpec)

/-- 'portagelaw15.StatesSafe', WHERE WHAT IT READS IS OF BULK AT MOST 1048576: true; the input reads as it did. -/
def statesSafeUptoRow : OpenClaim := { program := "ytdoghjmanogelaa", sum := "46d5a34c45a76b0a703c8933b954270eb3cb30d81c52998af81abf010ee59041", func := "portage/portagelaw15.StatesSafe", spec := "statesSafe", apart := false, narrowed := true }
def StatesSafeUptoSaid : Prop := statesSafeUptoRow.holds Try.pinned (OpenSpec.upto statesSafeSpec)

/-- 'portagelaw15.StatesCanon', WHERE WHAT IT READS IS OF BULK AT MOST 1048576: true; the input reads as it did. -/
def statesCanonUptoRow : OpenClaim := { program := "ytdoghjmanogelaa", sum := "46d5a34c45a76b0a703c8933b954270eb3cb30d81c52998af81abf010ee59041", func := "portage/portagelaw15.StatesCanon", spec := "statesCanon", unfollowed := true, recurses := true, apart := false, narrowed := true }
def StatesCanonUptoSaid : Prop := statesCanonUptoRow.holds Try.pinned (OpenSpec.upto statesCanonSpec)

/-- 'portagelaw15.StatesMemory', WHERE WHAT IT READS IS OF BULK AT MOST 1048576: true; the input reads as it did. -/
def statesMemoryUptoRow : OpenClaim := { program := "ytdoghjmanogelaa", sum := "46d5a34c45a76b0a703c8933b954270eb3cb30d81c52998af81abf010ee59041", func := "portage/portagelaw15.StatesMemory", spec := "statesMemory", unfollowed := true, recurses := true, apart := false, narrowed := true }
def StatesMemoryUptoSaid : Prop := statesMemoryUptoRow.holds Try.pinned (OpenSpec.upto statesMemorySpec)

/-- 'portagelaw15.StatesSame', WHERE WHAT IT READS IS OF BULK AT MOST 1048576: true; the input reads as it did. -/
def statesSameUptoRow : OpenClaim := { program := "ytdoghjmanogelaa", sum := "46d5a34c45a76b0a703c8933b954270eb3cb30d81c52998af81abf010ee59041", func := "portage/portagelaw15.StatesSame", spec := "statesSame", unfollowed := true, recurses := true, apart := false, narrowed := true }
def StatesSameUptoSaid : Prop := statesSameUptoRow.holds Try.pinned (OpenSpec.upto statesSameSpec)

/-- 'portagelaw28.ImageHeads', WHERE WHAT IT READS IS OF BULK AT MOST 1048576: true; the input reads as it did. -/
def imageHeadsUptoRow : OpenClaim := { program := "ytdoghjmanogelaa", sum := "46d5a34c45a76b0a703c8933b954270eb3cb30d81c52998af81abf010ee59041", func := "portage/portagelaw28.ImageHeads", spec := "imageHeads", unfollowed := true, recurses := true, apart := false, narrowed := true }
def ImageHeadsUptoSaid : Prop := imageHeadsUptoRow.holds Try.pinned (OpenSpec.upto imageHeadsSpec)

end Rows
end Go.Proofs.Ytdoghjmanogelaa
