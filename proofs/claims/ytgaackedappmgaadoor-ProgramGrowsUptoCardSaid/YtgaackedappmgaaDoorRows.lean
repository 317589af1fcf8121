/-
  NARROWER THAN 'FOR EVERY INPUT', by the rows' own cells (each row's printed sentence says how): ProgramChecks: laid · ProgramConstants: laid · ProgramFunctions: laid · ProgramParts: laid · ProgramGrows: laid.
  DERIVED. THE GIVEN ROWS OF THIS SEAT. 5 by the template 'for every input the law returns true; each argument reads behind the call as it read before'; 0 by the template 'total and deterministic' (their statements: YtgaackedappmgaaDoorTotals.lean).
  GIVEN WITH THE SEED: the statements are not yours to turn. If you find one false, say at which input.
  Laid BY PROGRAM, IN A SANDBOX (cutbox-rows.mjs): the forced cells as the released guide's own fill.sh prints them over the translation 442ff3bbf4b5c62d… (all of the seat's roots in one cut). By AI agents, Wed Nov 11 2026. No macro, syntax, notation, axiom, sorry.
-/
import Derived.Test.YtgaackedappmgaaDoorChecked
import GoSem.Claim
import GoSem.ClaimJoined
import GoSem.ClaimMapViews
import Derived.JoinedTies
import Derived.KernelRfl
namespace Go.Proofs.YtgaackedappmgaaDoor
/- THE CELL 'sum', in the pinned program and in every row, IS THE sha256 OF THE DUMP (.gsa) THAT YtgaackedappmgaaDoorProg.lean LOADS. Nothing in Lean hashes anything: it is a label: what it is worth is what the hold of that sum in a sandbox is worth. -/
noncomputable def Tryd.pinned : Pinned := { name := "ytgaackedappmgaadoor", sum := "442ff3bbf4b5c62d6c8ba250a9afd93707b2db2c6fb3fe3e79d522902a3d8d1f", checked := Tryd.checked }
namespace Rows
def none {H : Type} : Left H := { results := [], args := [] }

/- WHAT THE LISTED PACKAGE-LEVEL VARIABLES READ AS WHEN THE CALL BEGINS. Each datum BY PROGRAM (the guide's laid-datum.mjs) off the statement by which the dump's own 'gosem.cut.vars' lays the variable. In a bare row this is a premise. The card (YtgaackedappmgaaDoorCards.lean) ties it to the program's text. -/
def laid_errors_errorType {H : Type} : DataW H := .iface "internal/reflectlite.rtype" (.agg [.ptr (.lit (.string [101, 114, 114, 111, 114]))])

/-- 'portagelaw08.ProgramChecks': WHATEVER THE INPUT: true; the input reads as it did. -/
def programChecksSpec : ChangeSpec := { name := "programChecks", fn := fun _ => fun
  | [d1, d2] => { results := [.lit (.bool true)], args := [d1, d2] }
  | _ => none }
def programChecksRow : OpenClaim := { program := "ytgaackedappmgaadoor", sum := "442ff3bbf4b5c62d6c8ba250a9afd93707b2db2c6fb3fe3e79d522902a3d8d1f", func := "portage/portagelaw08.ProgramChecks", spec := "programChecks", inPlace := ["math.Float64frombits", "math.Float64bits", "internal/reflectlite.ValueOf", "(internal/reflectlite.Value).Type", "(internal/reflectlite.Value).IsNil", "internal/reflectlite.TypeOf", "(internal/reflectlite.Value).Elem", "(internal/reflectlite.Value).Set"], unfollowed := true, recurses := true, named := ["errors.errorType"], plainKeys := false, apart := false, laid := [("errors.errorType", laid_errors_errorType)] }
def ProgramChecksSaid : Prop := programChecksRow.holds Tryd.pinned (OpenSpec.ofChange programChecksSpec)

/-- ITS FALSE NEIGHBOUR: 'it returns false'. Refute it at one input. -/
def programChecksWrong : ChangeSpec := { name := "programChecks", fn := fun _ => fun
  | [d1, d2] => { results := [.lit (.bool false)], args := [d1, d2] }
  | _ => none }
def ProgramChecksWrongFalsely : Prop := programChecksRow.holds Tryd.pinned (OpenSpec.ofChange programChecksWrong)

/-- 'portagelaw08.ProgramConstants': WHATEVER THE INPUT: true; the input reads as it did. -/
def programConstantsSpec : ChangeSpec := { name := "programConstants", fn := fun _ => fun
  | [d1, d2, d3] => { results := [.lit (.bool true)], args := [d1, d2, d3] }
  | _ => none }
def programConstantsRow : OpenClaim := { program := "ytgaackedappmgaadoor", sum := "442ff3bbf4b5c62d6c8ba250a9afd93707b2db2c6fb3fe3e79d522902a3d8d1f", func := "portage/portagelaw08.ProgramConstants", spec := "programConstants", inPlace := ["math.Float64frombits", "math.Float64bits", "internal/reflectlite.ValueOf", "(internal/reflectlite.Value).Type", "(internal/reflectlite.Value).IsNil", "internal/reflectlite.TypeOf", "(internal/reflectlite.Value).Elem", "(internal/reflectlite.Value).Set"], unfollowed := true, recurses := true, named := ["errors.errorType"], plainKeys := false, apart := false, laid := [("errors.errorType", laid_errors_errorType)] }
def ProgramConstantsSaid : Prop := programConstantsRow.holds Tryd.pinned (OpenSpec.ofChange programConstantsSpec)

/-- ITS FALSE NEIGHBOUR: 'it returns false'. Refute it at one input. -/
def programConstantsWrong : ChangeSpec := { name := "programConstants", fn := fun _ => fun
  | [d1, d2, d3] => { results := [.lit (.bool false)], args := [d1, d2, d3] }
  | _ => none }
def ProgramConstantsWrongFalsely : Prop := programConstantsRow.holds Tryd.pinned (OpenSpec.ofChange programConstantsWrong)

/-- 'portagelaw08.ProgramFunctions': WHATEVER THE INPUT: true; the input reads as it did. -/
def programFunctionsSpec : ChangeSpec := { name := "programFunctions", fn := fun _ => fun
  | [d1, d2, d3] => { results := [.lit (.bool true)], args := [d1, d2, d3] }
  | _ => none }
def programFunctionsRow : OpenClaim := { program := "ytgaackedappmgaadoor", sum := "442ff3bbf4b5c62d6c8ba250a9afd93707b2db2c6fb3fe3e79d522902a3d8d1f", func := "portage/portagelaw08.ProgramFunctions", spec := "programFunctions", inPlace := ["math.Float64frombits", "math.Float64bits", "internal/reflectlite.ValueOf", "(internal/reflectlite.Value).Type", "(internal/reflectlite.Value).IsNil", "internal/reflectlite.TypeOf", "(internal/reflectlite.Value).Elem", "(internal/reflectlite.Value).Set"], unfollowed := true, recurses := true, named := ["errors.errorType"], plainKeys := false, apart := false, laid := [("errors.errorType", laid_errors_errorType)] }
def ProgramFunctionsSaid : Prop := programFunctionsRow.holds Tryd.pinned (OpenSpec.ofChange programFunctionsSpec)

/-- ITS FALSE NEIGHBOUR: 'it returns false'. Refute it at one input. -/
def programFunctionsWrong : ChangeSpec := { name := "programFunctions", fn := fun _ => fun
  | [d1, d2, d3] => { results := [.lit (.bool false)], args := [d1, d2, d3] }
  | _ => none }
def ProgramFunctionsWrongFalsely : Prop := programFunctionsRow.holds Tryd.pinned (OpenSpec.ofChange programFunctionsWrong)

/-- 'portagelaw08.ProgramParts': WHATEVER THE INPUT: true; the input reads as it did. -/
def programPartsSpec : ChangeSpec := { name := "programParts", fn := fun _ => fun
  | [d1, d2, d3] => { results := [.lit (.bool true)], args := [d1, d2, d3] }
  | _ => none }
def programPartsRow : OpenClaim := { program := "ytgaackedappmgaadoor", sum := "442ff3bbf4b5c62d6c8ba250a9afd93707b2db2c6fb3fe3e79d522902a3d8d1f", func := "portage/portagelaw08.ProgramParts", spec := "programParts", inPlace := ["math.Float64frombits", "math.Float64bits", "internal/reflectlite.ValueOf", "(internal/reflectlite.Value).Type", "(internal/reflectlite.Value).IsNil", "internal/reflectlite.TypeOf", "(internal/reflectlite.Value).Elem", "(internal/reflectlite.Value).Set"], unfollowed := true, recurses := true, named := ["errors.errorType"], plainKeys := false, apart := false, laid := [("errors.errorType", laid_errors_errorType)] }
def ProgramPartsSaid : Prop := programPartsRow.holds Tryd.pinned (OpenSpec.ofChange programPartsSpec)

/-- ITS FALSE NEIGHBOUR: 'it returns false'. Refute it at one input. -/
def programPartsWrong : ChangeSpec := { name := "programParts", fn := fun _ => fun
  | [d1, d2, d3] => { results := [.lit (.bool false)], args := [d1, d2, d3] }
  | _ => none }
def ProgramPartsWrongFalsely : Prop := programPartsRow.holds Tryd.pinned (OpenSpec.ofChange programPartsWrong)

/-- 'portagelaw08.ProgramGrows': WHATEVER THE INPUT: true; the input reads as it did. -/
def programGrowsSpec : ChangeSpec := { name := "programGrows", fn := fun _ => fun
  | [d1, d2] => { results := [.lit (.bool true)], args := [d1, d2] }
  | _ => none }
def programGrowsRow : OpenClaim := { program := "ytgaackedappmgaadoor", sum := "442ff3bbf4b5c62d6c8ba250a9afd93707b2db2c6fb3fe3e79d522902a3d8d1f", func := "portage/portagelaw08.ProgramGrows", spec := "programGrows", inPlace := ["math.Float64frombits", "math.Float64bits", "internal/reflectlite.ValueOf", "(internal/reflectlite.Value).Type", "(internal/reflectlite.Value).IsNil", "internal/reflectlite.TypeOf", "(internal/reflectlite.Value).Elem", "(internal/reflectlite.Value).Set"], unfollowed := true, recurses := true, named := ["errors.errorType"], plainKeys := false, apart := false, laid := [("errors.errorType", laid_errors_errorType)] }
def ProgramGrowsSaid : Prop := programGrowsRow.holds Tryd.pinned (OpenSpec.ofChange programGrowsSpec)

/-- ITS FALSE NEIGHBOUR: 'it returns false'. Refute it at one input. -/
def programGrowsWrong : ChangeSpec := { name := "programGrows", fn := fun _ => fun
  | [d1, d2] => { results := [.lit (.bool false)], args := [d1, d2] }
  | _ => none }
def ProgramGrowsWrongFalsely : Prop := programGrowsRow.holds Tryd.pinned (OpenSpec.ofChange programGrowsWrong)

/- THE SECOND FORM. 'bulk': how many values and letters a reading holds, each counted each time it is reached (what is shared counts as often as it is met; a slice's spare places count too). A statement '..UptoSaid' is the law's where the arguments, and the package variables that the reading takes, are together of bulk at most 1048576: NARROWER than '..Said'. Prove '..Said' where nothing that the law and all that it calls make is longer than what came in: it says more and counts as full. Else prove '..UptoSaid'. A law counts once. -/
mutual
def uptoBulk {H : Type} : DataW H → Nat
  | .lit (.string bytes) => bytes.length + 1
  | .lit _ => 1
  | .nil => 1
  | .ptr d => uptoBulk d + 1
  | .slice elems spare => uptoBulkAll elems + uptoBulkAll spare + 1
  | .agg parts => uptoBulkAll parts + 1
  | .iface _ d => uptoBulk d + 1
  | .map entries => uptoBulkEntries entries + 1
  | .held _ => 1
def uptoBulkAll {H : Type} : List (DataW H) → Nat
  | [] => 0
  | d :: r => uptoBulk d + uptoBulkAll r
def uptoBulkEntries {H : Type} : List (Lit × DataW H) → Nat
  | [] => 0
  | x :: r => uptoBulkEntry x + uptoBulkEntries r
def uptoBulkEntry {H : Type} : Lit × DataW H → Nat
  | (.string bytes, d) => bytes.length + uptoBulk d + 1
  | (_, d) => uptoBulk d + 1
 end
def uptoSmall : (H : Type) → List (DataW H) → Bool := fun _ ds => decide (uptoBulkAll ds ≤ 1048576)
def OpenSpec.upto (s : _root_.Go.ChangeSpec) : _root_.Go.OpenSpec := { _root_.Go.OpenSpec.ofChange s with cond := some uptoSmall }

/-- 'portagelaw08.ProgramChecks', WHERE WHAT IT READS IS OF BULK AT MOST 1048576: true; the input reads as it did. -/
def programChecksUptoRow : OpenClaim := { program := "ytgaackedappmgaadoor", sum := "442ff3bbf4b5c62d6c8ba250a9afd93707b2db2c6fb3fe3e79d522902a3d8d1f", func := "portage/portagelaw08.ProgramChecks", spec := "programChecks", inPlace := ["math.Float64frombits", "math.Float64bits", "internal/reflectlite.ValueOf", "(internal/reflectlite.Value).Type", "(internal/reflectlite.Value).IsNil", "internal/reflectlite.TypeOf", "(internal/reflectlite.Value).Elem", "(internal/reflectlite.Value).Set"], unfollowed := true, recurses := true, named := ["errors.errorType"], plainKeys := false, apart := false, laid := [("errors.errorType", laid_errors_errorType)], narrowed := true }
def ProgramChecksUptoSaid : Prop := programChecksUptoRow.holds Tryd.pinned (OpenSpec.upto programChecksSpec)

/-- 'portagelaw08.ProgramConstants', WHERE WHAT IT READS IS OF BULK AT MOST 1048576: true; the input reads as it did. -/
def programConstantsUptoRow : OpenClaim := { program := "ytgaackedappmgaadoor", sum := "442ff3bbf4b5c62d6c8ba250a9afd93707b2db2c6fb3fe3e79d522902a3d8d1f", func := "portage/portagelaw08.ProgramConstants", spec := "programConstants", inPlace := ["math.Float64frombits", "math.Float64bits", "internal/reflectlite.ValueOf", "(internal/reflectlite.Value).Type", "(internal/reflectlite.Value).IsNil", "internal/reflectlite.TypeOf", "(internal/reflectlite.Value).Elem", "(internal/reflectlite.Value).Set"], unfollowed := true, recurses := true, named := ["errors.errorType"], plainKeys := false, apart := false, laid := [("errors.errorType", laid_errors_errorType)], narrowed := true }
def ProgramConstantsUptoSaid : Prop := programConstantsUptoRow.holds Tryd.pinned (OpenSpec.upto programConstantsSpec)

/-- 'portagelaw08.ProgramFunctions', WHERE WHAT IT READS IS OF BULK AT MOST 1048576: true; the input reads as it did. -/
def programFunctionsUptoRow : OpenClaim := { program := "ytgaackedappmgaadoor", sum := "442ff3bbf4b5c62d6c8ba250a9afd93707b2db2c6fb3fe3e79d522902a3d8d1f", func := "portage/portagelaw08.ProgramFunctions", spec := "programFunctions", inPlace := ["math.Float64frombits", "math.Float64bits", "internal/reflectlite.ValueOf", "(internal/reflectlite.Value).Type", "(internal/reflectlite.Value).IsNil", "internal/reflectlite.TypeOf", "(internal/reflectlite.Value).Elem", "(internal/reflectlite.Value).Set"], unfollowed := true, recurses := true, named := ["errors.errorType"], plainKeys := false, apart := false, laid := [("errors.errorType", laid_errors_errorType)], narrowed := true }
def ProgramFunctionsUptoSaid : Prop := programFunctionsUptoRow.holds Tryd.pinned (OpenSpec.upto programFunctionsSpec)

/-- 'portagelaw08.ProgramParts', WHERE WHAT IT READS IS OF BULK AT MOST 1048576: true; the input reads as it did. -/
def programPartsUptoRow : OpenClaim := { program := "ytgaackedappmgaadoor", sum := "442ff3bbf4b5c62d6c8ba250a9afd93707b2db2c6fb3fe3e79d522902a3d8d1f", func := "portage/portagelaw08.ProgramParts", spec := "programParts", inPlace := ["math.Float64frombits", "math.Float64bits", "internal/reflectlite.ValueOf", "(internal/reflectlite.Value).Type", "(internal/reflectlite.Value).IsNil", "internal/reflectlite.TypeOf", "(internal/reflectlite.Value).Elem", "(internal/reflectlite.Value).Set"], unfollowed := true, recurses := true, named := ["errors.errorType"], plainKeys := false, apart := false, laid := [("errors.errorType", laid_errors_errorType)], narrowed := true }
def ProgramPartsUptoSaid : Prop := programPartsUptoRow.holds Tryd.pinned (OpenSpec.upto programPartsSpec)

/-- 'portagelaw08.ProgramGrows', WHERE WHAT IT READS IS OF BULK AT MOST 1048576: true; the input reads as it did. -/
def programGrowsUptoRow : OpenClaim := { program := "ytgaackedappmgaadoor", sum := "442ff3bbf4b5c62d6c8ba250a9afd93707b2db2c6fb3fe3e79d522902a3d8d1f", func := "portage/portagelaw08.ProgramGrows", spec := "programGrows", inPlace := ["math.Float64frombits", "math.Float64bits", "internal/reflectlite.ValueOf", "(internal/reflectlite.Value).Type", "(internal/reflectlite.Value).IsNil", "internal/reflectlite.TypeOf", "(internal/reflectlite.Value).Elem", "(internal/reflectlite.Value).Set"], unfollowed := true, recurses := true, named := ["errors.errorType"], plainKeys := false, apart := false, laid := [("errors.errorType", laid_errors_errorType)], narrowed := true }
def ProgramGrowsUptoSaid : Prop := programGrowsUptoRow.holds Tryd.pinned (OpenSpec.upto programGrowsSpec)

end Rows
end Go.Proofs.YtgaackedappmgaaDoor
