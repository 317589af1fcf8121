/-
  No cell of these rows narrows 'for every input' (looked for: loops, veiled, ifaces, maps, wideKeys, modest, calm, conditions, laid).
  DERIVED. THE GIVEN ROWS OF THIS SEAT. 8 by the template 'for every input the law returns true; each argument reads behind the call as it read before'; 0 by the template 'total and deterministic' (their statements: YtbheebcjbolboaaTotals.lean).
  GIVEN WITH THE SEED: the statements are not yours to turn. If you find one false, say at which input.
  Laid BY PROGRAM, IN A SANDBOX (cutbox-rows.mjs): the forced cells as the released guide's own fill.sh prints them over the translation bc5fe406e00b45ec… (all of the seat's roots in one cut). By AI agents, Wed Nov 11 2026. No macro, syntax, notation, axiom, sorry.
-/
import Derived.Test.YtbheebcjbolboaaChecked
import GoSem.Claim
import GoSem.ClaimJoined
import GoSem.ClaimMapViews
import Derived.JoinedTies
import Derived.KernelRfl
namespace Go.Proofs.Ytbheebcjbolboaa
/- THE CELL 'sum', in the pinned program and in every row, IS THE sha256 OF THE DUMP (.gsa) THAT YtbheebcjbolboaaProg.lean LOADS. Nothing in Lean hashes anything: it is a label: what it is worth is what the hold of that sum in a sandbox is worth. -/
noncomputable def Try.pinned : Pinned := { name := "ytbheebcjbolboaa", sum := "bc5fe406e00b45ecb7a9dfeea34e15256197d2f806979efd292c9b7ece6cfe3a", checked := Try.checked }
namespace Rows
def none {H : Type} : Left H := { results := [], args := [] }

/-- 'portagelaw01.WireLen': WHATEVER THE INPUT: true; the input reads as it did. -/
def wireLenSpec : ChangeSpec := { name := "wireLen", fn := fun _ => fun
  | [d] => { results := [.lit (.bool true)], args := [d] }
  | _ => none }
def wireLenRow : OpenClaim := { program := "ytbheebcjbolboaa", sum := "bc5fe406e00b45ecb7a9dfeea34e15256197d2f806979efd292c9b7ece6cfe3a", func := "portage/portagelaw01.WireLen", spec := "wireLen", apart := false }
def WireLenSaid : Prop := wireLenRow.holds Try.pinned (OpenSpec.ofChange wireLenSpec)

/-- ITS FALSE NEIGHBOUR: 'it returns false'. Refute it at one input. -/
def wireLenWrong : ChangeSpec := { name := "wireLen", fn := fun _ => fun
  | [d] => { results := [.lit (.bool false)], args := [d] }
  | _ => none }
def WireLenWrongFalsely : Prop := wireLenRow.holds Try.pinned (OpenSpec.ofChange wireLenWrong)

/-- 'portagelaw01.WireOrder': WHATEVER THE INPUT: true; the input reads as it did. -/
def wireOrderSpec : ChangeSpec := { name := "wireOrder", fn := fun _ => fun
  | [d1, d2] => { results := [.lit (.bool true)], args := [d1, d2] }
  | _ => none }
def wireOrderRow : OpenClaim := { program := "ytbheebcjbolboaa", sum := "bc5fe406e00b45ecb7a9dfeea34e15256197d2f806979efd292c9b7ece6cfe3a", func := "portage/portagelaw01.WireOrder", spec := "wireOrder", apart := false }
def WireOrderSaid : Prop := wireOrderRow.holds Try.pinned (OpenSpec.ofChange wireOrderSpec)

/-- ITS FALSE NEIGHBOUR: 'it returns false'. Refute it at one input. -/
def wireOrderWrong : ChangeSpec := { name := "wireOrder", fn := fun _ => fun
  | [d1, d2] => { results := [.lit (.bool false)], args := [d1, d2] }
  | _ => none }
def WireOrderWrongFalsely : Prop := wireOrderRow.holds Try.pinned (OpenSpec.ofChange wireOrderWrong)

/-- 'portagelaw01.WireForms': WHATEVER THE INPUT: true; the input reads as it did. -/
def wireFormsSpec : ChangeSpec := { name := "wireForms", fn := fun _ => fun
  | [d] => { results := [.lit (.bool true)], args := [d] }
  | _ => none }
def wireFormsRow : OpenClaim := { program := "ytbheebcjbolboaa", sum := "bc5fe406e00b45ecb7a9dfeea34e15256197d2f806979efd292c9b7ece6cfe3a", func := "portage/portagelaw01.WireForms", spec := "wireForms", apart := false }
def WireFormsSaid : Prop := wireFormsRow.holds Try.pinned (OpenSpec.ofChange wireFormsSpec)

/-- ITS FALSE NEIGHBOUR: 'it returns false'. Refute it at one input. -/
def wireFormsWrong : ChangeSpec := { name := "wireForms", fn := fun _ => fun
  | [d] => { results := [.lit (.bool false)], args := [d] }
  | _ => none }
def WireFormsWrongFalsely : Prop := wireFormsRow.holds Try.pinned (OpenSpec.ofChange wireFormsWrong)

/-- 'portagelaw01.WireReads': WHATEVER THE INPUT: true; the input reads as it did. -/
def wireReadsSpec : ChangeSpec := { name := "wireReads", fn := fun _ => fun
  | [d1, d2, d3] => { results := [.lit (.bool true)], args := [d1, d2, d3] }
  | _ => none }
def wireReadsRow : OpenClaim := { program := "ytbheebcjbolboaa", sum := "bc5fe406e00b45ecb7a9dfeea34e15256197d2f806979efd292c9b7ece6cfe3a", func := "portage/portagelaw01.WireReads", spec := "wireReads", unfollowed := true, recurses := true, apart := false }
def WireReadsSaid : Prop := wireReadsRow.holds Try.pinned (OpenSpec.ofChange wireReadsSpec)

/-- ITS FALSE NEIGHBOUR: 'it returns false'. Refute it at one input. -/
def wireReadsWrong : ChangeSpec := { name := "wireReads", fn := fun _ => fun
  | [d1, d2, d3] => { results := [.lit (.bool false)], args := [d1, d2, d3] }
  | _ => none }
def WireReadsWrongFalsely : Prop := wireReadsRow.holds Try.pinned (OpenSpec.ofChange wireReadsWrong)

/-- 'portagelaw01.WireSticky': WHATEVER THE INPUT: true; the input reads as it did. -/
def wireStickySpec : ChangeSpec := { name := "wireSticky", fn := fun _ => fun
  | [d1, d2] => { results := [.lit (.bool true)], args := [d1, d2] }
  | _ => none }
def wireStickyRow : OpenClaim := { program := "ytbheebcjbolboaa", sum := "bc5fe406e00b45ecb7a9dfeea34e15256197d2f806979efd292c9b7ece6cfe3a", func := "portage/portagelaw01.WireSticky", spec := "wireSticky", unfollowed := true, recurses := true, apart := false }
def WireStickySaid : Prop := wireStickyRow.holds Try.pinned (OpenSpec.ofChange wireStickySpec)

/-- ITS FALSE NEIGHBOUR: 'it returns false'. Refute it at one input. -/
def wireStickyWrong : ChangeSpec := { name := "wireSticky", fn := fun _ => fun
  | [d1, d2] => { results := [.lit (.bool false)], args := [d1, d2] }
  | _ => none }
def WireStickyWrongFalsely : Prop := wireStickyRow.holds Try.pinned (OpenSpec.ofChange wireStickyWrong)

/-- 'portagelaw01.WireKnown': WHATEVER THE INPUT: true; the input reads as it did. -/
def wireKnownSpec : ChangeSpec := { name := "wireKnown", fn := fun _ => fun
  | [] => { results := [.lit (.bool true)], args := [] }
  | _ => none }
def wireKnownRow : OpenClaim := { program := "ytbheebcjbolboaa", sum := "bc5fe406e00b45ecb7a9dfeea34e15256197d2f806979efd292c9b7ece6cfe3a", func := "portage/portagelaw01.WireKnown", spec := "wireKnown", unfollowed := true, recurses := true, apart := false }
def WireKnownSaid : Prop := wireKnownRow.holds Try.pinned (OpenSpec.ofChange wireKnownSpec)

/-- ITS FALSE NEIGHBOUR: 'it returns false'. Refute it at one input. -/
def wireKnownWrong : ChangeSpec := { name := "wireKnown", fn := fun _ => fun
  | [] => { results := [.lit (.bool false)], args := [] }
  | _ => none }
def WireKnownWrongFalsely : Prop := wireKnownRow.holds Try.pinned (OpenSpec.ofChange wireKnownWrong)

/-- 'portagelaw01.WireOneWay': WHATEVER THE INPUT: true; the input reads as it did. -/
def wireOneWaySpec : ChangeSpec := { name := "wireOneWay", fn := fun _ => fun
  | [d1, d2] => { results := [.lit (.bool true)], args := [d1, d2] }
  | _ => none }
def wireOneWayRow : OpenClaim := { program := "ytbheebcjbolboaa", sum := "bc5fe406e00b45ecb7a9dfeea34e15256197d2f806979efd292c9b7ece6cfe3a", func := "portage/portagelaw01.WireOneWay", spec := "wireOneWay", unfollowed := true, recurses := true, apart := false }
def WireOneWaySaid : Prop := wireOneWayRow.holds Try.pinned (OpenSpec.ofChange wireOneWaySpec)

/-- ITS FALSE NEIGHBOUR: 'it returns false'. Refute it at one input. -/
def wireOneWayWrong : ChangeSpec := { name := "wireOneWay", fn := fun _ => fun
  | [d1, d2] => { results := [.lit (.bool false)], args := [d1, d2] }
  | _ => none }
def WireOneWayWrongFalsely : Prop := wireOneWayRow.holds Try.pinned (OpenSpec.ofChange wireOneWayWrong)

/-- 'portagelaw01.WireBegins': WHATEVER THE INPUT: true; the input reads as it did. -/
def wireBeginsSpec : ChangeSpec := { name := "wireBegins", fn := fun _ => fun
  | [d1, d2] => { results := [.lit (.bool true)], args := [d1, d2] }
  | _ => none }
def wireBeginsRow : OpenClaim := { program := "ytbheebcjbolboaa", sum := "bc5fe406e00b45ecb7a9dfeea34e15256197d2f806979efd292c9b7ece6cfe3a", func := "portage/portagelaw01.WireBegins", spec := "wireBegins", unfollowed := true, recurses := true, apart := false }
def WireBeginsSaid : Prop := wireBeginsRow.holds Try.pinned (OpenSpec.ofChange wireBeginsSpec)

/-- ITS FALSE NEIGHBOUR: 'it returns false'. Refute it at one input. -/
def wireBeginsWrong : ChangeSpec := { name := "wireBegins", fn := fun _ => fun
  | [d1, d2] => { results := [.lit (.bool false)], args := [d1, d2] }
  | _ => none }
def WireBeginsWrongFalsely : Prop := wireBeginsRow.holds Try.pinned (OpenSpec.ofChange wireBeginsWrong)

/- THE SECOND FORM. 'bulk': how many values and letters a reading holds, each counted each time it is reached (what is shared counts as often as it is met; a slice's spare places count too). A statement '..UptoSaid' is the law's where the arguments, and the package variables that the reading takes, are together of bulk at most 1048576: NARROWER than '..Said'. Prove '..Said' where nothing that the law and all that it calls make is longer than what came in: it says more and counts as full. Else prove '..UptoSaid'. A law counts once. -/
mutual
def uptoBulk {H : Type} : DataW H → Nat
  | .lit (.string bytes) => bytes.length + 1
  | .lit _ => 1
  | .nil => 1
  | .ptr d => uptoBulk d + 1
  | .slice elems spare => uptoBulkAll elems + uptoBulkAll spare + 1
  | .agg parts => uptoBulkAll parts + 1
  | .iface _ d => uptoBulk d + 1
  | .map entries => uptoBulkEntries entries + 1
  | .held _ => 1
def uptoBulkAll {H : Type} : List (DataW H) → Nat
  | [] => 0
  | d :: r => uptoBulk d + uptoBulkAll r
def uptoBulkEntries {H : Type} : List (Lit × DataW H) → Nat
  | [] => 0
  | x :: r => uptoBulkEntry x + uptoBulkEntries r
def uptoBulkEntry {H : Type} : Lit × DataW H → Nat
  | (.string bytes, d) => bytes.length + uptoBulk d + 1
  | (_, d) => uptoBulk d + 1
 end
def uptoSmall : (H : Type) → List (DataW H) → Bool := fun _ ds => decide (uptoBulkAll ds ≤ 1048576)
def OpenSpec.upto (s : _root_.Go.ChangeSpec) : _root_.Go.OpenSpec := { _root_.Go.OpenSpec.ofChange s with cond := some uptoSmall }

/-- 'portagelaw01.WireLen', WHERE WHAT IT READS IS OF BULK AT MOST 1048576: true; the input reads as it did. -/
def wireLenUptoRow : OpenClaim := { program := "ytbheebcjbolboaa", sum := "bc5fe406e00b45ecb7a9dfeea34e15256197d2f806979efd292c9b7ece6cfe3a", func := "portage/portagelaw01.WireLen", spec := "wireLen", apart := false, narrowed := true }
def WireLenUptoSaid : Prop := wireLenUptoRow.holds Try.pinned (OpenSpec.upto wireLenSpec)

/-- 'portagelaw01.WireOrder', WHERE WHAT IT READS IS OF BULK AT MOST 1048576: true; the input reads as it did. -/
def wireOrderUptoRow : OpenClaim := { program := "ytbheebcjbolboaa", sum := "bc5fe406e00b45ecb7a9dfeea34e15256197d2f806979efd292c9b7ece6cfe3a", func := "portage/portagelaw01.WireOrder", spec := "wireOrder", apart := false, narrowed := true }
def WireOrderUptoSaid : Prop := wireOrderUptoRow.holds Try.pinned (OpenSpec.upto wireOrderSpec)

/-- 'portagelaw01.WireForms', WHERE WHAT IT READS IS OF BULK AT MOST 1048576: true; the input reads as it did. -/
def wireFormsUptoRow : OpenClaim := { program := "ytbheebcjbolboaa", sum := "bc5fe406e00b45ecb7a9dfeea34e15256197d2f806979efd292c9b7ece6cfe3a", func := "portage/portagelaw01.WireForms", spec := "wireForms", apart := false, narrowed := true }
def WireFormsUptoSaid : Prop := wireFormsUptoRow.holds Try.pinned (OpenSpec.upto wireFormsSpec)

/-- 'portagelaw01.WireReads', WHERE WHAT IT READS IS OF BULK AT MOST 1048576: true; the input reads as it did. -/
def wireReadsUptoRow : OpenClaim := { program := "ytbheebcjbolboaa", sum := "bc5fe406e00b45ecb7a9dfeea34e15256197d2f806979efd292c9b7ece6cfe3a", func := "portage/portagelaw01.WireReads", spec := "wireReads", unfollowed := true, recurses := true, apart := false, narrowed := true }
def WireReadsUptoSaid : Prop := wireReadsUptoRow.holds Try.pinned (OpenSpec.upto wireReadsSpec)

/-- 'portagelaw01.WireSticky', WHERE WHAT IT READS IS OF BULK AT MOST 1048576: true; the input reads as it did. -/
def wireStickyUptoRow : OpenClaim := { program := "ytbheebcjbolboaa", sum := "bc5fe406e00b45ecb7a9dfeea34e15256197d2f806979efd292c9b7ece6cfe3a", func := "portage/portagelaw01.WireSticky", spec := "wireSticky", unfollowed := true, recurses := true, apart := false, narrowed := true }
def WireStickyUptoSaid : Prop := wireStickyUptoRow.holds Try.pinned (OpenSpec.upto wireStickySpec)

/-- 'portagelaw01.WireKnown', WHERE WHAT IT READS IS OF BULK AT MOST 1048576: true; the input reads as it did. -/
def wireKnownUptoRow : OpenClaim := { program := "ytbheebcjbolboaa", sum := "bc5fe406e00b45ecb7a9dfeea34e15256197d2f806979efd292c9b7ece6cfe3a", func := "portage/portagelaw01.WireKnown", spec := "wireKnown", unfollowed := true, recurses := true, apart := false, narrowed := true }
def WireKnownUptoSaid : Prop := wireKnownUptoRow.holds Try.pinned (OpenSpec.upto wireKnownSpec)

/-- 'portagelaw01.WireOneWay', WHERE WHAT IT READS IS OF BULK AT MOST 1048576: true; the input reads as it did. -/
def wireOneWayUptoRow : OpenClaim := { program := "ytbheebcjbolboaa", sum := "bc5fe406e00b45ecb7a9dfeea34e15256197d2f806979efd292c9b7ece6cfe3a", func := "portage/portagelaw01.WireOneWay", spec := "wireOneWay", unfollowed := true, recurses := true, apart := false, narrowed := true }
def WireOneWayUptoSaid : Prop := wireOneWayUptoRow.holds Try.pinned (OpenSpec.upto wireOneWaySpec)

/-- 'portagelaw01.WireBegins', WHERE WHAT IT READS IS OF BULK AT MOST 1048576: true; the input reads as it did. -/
def wireBeginsUptoRow : OpenClaim := { program := "ytbheebcjbolboaa", sum := "bc5fe406e00b45ecb7a9dfeea34e15256197d2f806979efd292c9b7ece6cfe3a", func := "portage/portagelaw01.WireBegins", spec := "wireBegins", unfollowed := true, recurses := true, apart := false, narrowed := true }
def WireBeginsUptoSaid : Prop := wireBeginsUptoRow.holds Try.pinned (OpenSpec.upto wireBeginsSpec)

end Rows
end Go.Proofs.Ytbheebcjbolboaa
