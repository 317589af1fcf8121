import Derived.Test.YtgaackedappmgaaDoorKa
import Derived.Maps.AppendAt
import Derived.Test.YtgaackedappmgaaDoorOb
import Derived.IntWalk
import Derived.BigQuiet
import Derived.Laws.Tables
namespace Go.Proofs.YtgaackedappmgaaDoor.K
open Go.RowKit Go.Proofs.YtgaackedappmgaaDoorW.PrintWords Go.Proofs.YtgaackedappmgaaDoorW.PrintLast Go.Proofs.YtgaackedappmgaaDoorW.PrintMore
set_option linter.unusedVariables false
set_option linter.unusedSimpArgs false
set_option maxRecDepth 100000
section
variable {P : Program} (w : World)
end
section
variable {P : Program} {ops : Array Oper} {rest : List Oper} {o : Oper} {a : Act} {Q : Exit → Act → World → Prop} {α : Type}
end
end Go.Proofs.YtgaackedappmgaaDoor.K

namespace Go.Proofs.YtgaackedappmgaaDoor.K
open Go.RowKit Go.Proofs.YtgaackedappmgaaDoorW.PrintWords Go.Proofs.YtgaackedappmgaaDoorW.PrintLast Go.Proofs.YtgaackedappmgaaDoorW.PrintMore
set_option linter.unusedVariables false
set_option linter.unusedSimpArgs false
set_option maxRecDepth 100000

end Go.Proofs.YtgaackedappmgaaDoor.K

namespace Go.Proofs.YtgaackedappmgaaDoor.K
open Go.RowKit Go.Proofs.YtgaackedappmgaaDoorW.PrintWords Go.Proofs.YtgaackedappmgaaDoorW.PrintLast Go.Proofs.YtgaackedappmgaaDoorW.PrintMore
set_option linter.unusedVariables false
set_option linter.unusedSimpArgs false
set_option maxRecDepth 100000

end Go.Proofs.YtgaackedappmgaaDoor.K

namespace Go.Proofs.YtgaackedappmgaaDoor.K
open Go.RowKit Go.Proofs.YtgaackedappmgaaDoorW.PrintWords Go.Proofs.YtgaackedappmgaaDoorW.PrintLast Go.Proofs.YtgaackedappmgaaDoorW.PrintMore
set_option linter.unusedVariables false
set_option linter.unusedSimpArgs false
set_option maxRecDepth 100000
structure ORow where
  name : ByteArray
  kind : Int
  takes : Int
  puts : Int
  many : Bool
def opTab : List ORow := [⟨⟨#[110, 111, 112]⟩, 0, 0, 0, false⟩,
  ⟨⟨#[110, 105, 108]⟩, 0, 0, 1, false⟩,
  ⟨⟨#[116, 114, 117, 101]⟩, 0, 0, 1, false⟩,
  ⟨⟨#[102, 97, 108, 115, 101]⟩, 0, 0, 1, false⟩,
  ⟨⟨#[105, 110, 116]⟩, 1, 0, 1, false⟩,
  ⟨⟨#[99, 111, 110, 115, 116]⟩, 4, 0, 1, false⟩,
  ⟨⟨#[102, 117, 110, 99]⟩, 5, 0, 1, false⟩,
  ⟨⟨#[112, 111, 112]⟩, 0, 1, 0, false⟩,
  ⟨⟨#[100, 117, 112]⟩, 0, 1, 2, false⟩,
  ⟨⟨#[115, 119, 97, 112]⟩, 0, 2, 2, false⟩,
  ⟨⟨#[108, 111, 97, 100]⟩, 3, 0, 1, false⟩,
  ⟨⟨#[115, 116, 111, 114, 101]⟩, 3, 1, 0, false⟩,
  ⟨⟨#[97, 100, 100]⟩, 0, 2, 1, false⟩,
  ⟨⟨#[115, 117, 98]⟩, 0, 2, 1, false⟩,
  ⟨⟨#[109, 117, 108]⟩, 0, 2, 1, false⟩,
  ⟨⟨#[100, 105, 118]⟩, 0, 2, 1, false⟩,
  ⟨⟨#[114, 101, 109]⟩, 0, 2, 1, false⟩,
  ⟨⟨#[110, 101, 103]⟩, 0, 1, 1, false⟩,
  ⟨⟨#[97, 110, 100]⟩, 0, 2, 1, false⟩,
  ⟨⟨#[111, 114]⟩, 0, 2, 1, false⟩,
  ⟨⟨#[120, 111, 114]⟩, 0, 2, 1, false⟩,
  ⟨⟨#[110, 111, 116]⟩, 0, 1, 1, false⟩,
  ⟨⟨#[115, 104, 108]⟩, 0, 2, 1, false⟩,
  ⟨⟨#[115, 104, 114]⟩, 0, 2, 1, false⟩,
  ⟨⟨#[101, 120, 116]⟩, 7, 1, 1, false⟩,
  ⟨⟨#[101, 113]⟩, 0, 2, 1, false⟩,
  ⟨⟨#[110, 101]⟩, 0, 2, 1, false⟩,
  ⟨⟨#[108, 116]⟩, 0, 2, 1, false⟩,
  ⟨⟨#[108, 101]⟩, 0, 2, 1, false⟩,
  ⟨⟨#[116, 101, 115, 116]⟩, 0, 1, 1, false⟩,
  ⟨⟨#[102, 108, 105, 112]⟩, 0, 1, 1, false⟩,
  ⟨⟨#[116, 111, 105, 110, 116]⟩, 0, 1, 1, false⟩,
  ⟨⟨#[116, 111, 114, 101, 97, 108]⟩, 0, 1, 1, false⟩,
  ⟨⟨#[115, 105, 110, 103, 108, 101]⟩, 0, 1, 1, false⟩,
  ⟨⟨#[116, 111, 116, 101, 120, 116]⟩, 0, 1, 1, false⟩,
  ⟨⟨#[107, 105, 110, 100]⟩, 0, 1, 1, false⟩,
  ⟨⟨#[102, 108, 111, 111, 114]⟩, 0, 1, 1, false⟩,
  ⟨⟨#[115, 113, 114, 116]⟩, 0, 1, 1, false⟩,
  ⟨⟨#[99, 97, 116]⟩, 0, 2, 1, false⟩,
  ⟨⟨#[99, 117, 116]⟩, 0, 3, 1, false⟩,
  ⟨⟨#[106, 117, 109, 112]⟩, 2, 0, 0, false⟩,
  ⟨⟨#[106, 122]⟩, 2, 1, 0, false⟩,
  ⟨⟨#[106, 110, 122]⟩, 2, 1, 0, false⟩,
  ⟨⟨#[99, 97, 108, 108]⟩, 6, 1, 1, true⟩,
  ⟨⟨#[114, 101, 116]⟩, 0, 1, 0, false⟩,
  ⟨⟨#[116, 104, 114, 111, 119]⟩, 0, 1, 0, false⟩,
  ⟨⟨#[98, 105, 110, 100]⟩, 6, 1, 1, true⟩,
  ⟨⟨#[97, 114, 114, 97, 121]⟩, 6, 0, 1, true⟩,
  ⟨⟨#[114, 101, 99, 111, 114, 100]⟩, 0, 0, 1, false⟩,
  ⟨⟨#[103, 101, 116]⟩, 0, 2, 1, false⟩,
  ⟨⟨#[115, 101, 116]⟩, 0, 3, 0, false⟩,
  ⟨⟨#[112, 117, 115, 104]⟩, 0, 2, 0, false⟩,
  ⟨⟨#[108, 101, 110]⟩, 0, 1, 1, false⟩,
  ⟨⟨#[103, 101, 116, 102]⟩, 4, 1, 1, false⟩,
  ⟨⟨#[115, 101, 116, 102]⟩, 4, 2, 0, false⟩,
  ⟨⟨#[104, 97, 115, 102]⟩, 4, 1, 1, false⟩,
  ⟨⟨#[100, 101, 108, 102]⟩, 4, 1, 0, false⟩,
  ⟨⟨#[107, 101, 121, 115]⟩, 0, 1, 1, false⟩,
  ⟨⟨#[112, 114, 105, 110, 116]⟩, 0, 1, 0, false⟩,
  ⟨⟨#[114, 101, 97, 100]⟩, 0, 0, 1, false⟩,
  ⟨⟨#[115, 112, 97, 119, 110]⟩, 6, 1, 0, true⟩,
  ⟨⟨#[121, 105, 101, 108, 100]⟩, 0, 0, 0, false⟩,
  ⟨⟨#[99, 104, 97, 110]⟩, 8, 0, 1, false⟩,
  ⟨⟨#[115, 101, 110, 100]⟩, 0, 2, 0, false⟩,
  ⟨⟨#[114, 101, 99, 118]⟩, 0, 1, 1, false⟩,
  ⟨⟨#[115, 104, 117, 116]⟩, 0, 1, 0, false⟩,
  ⟨⟨#[98, 105, 99]⟩, 0, 2, 1, false⟩]
def noRow : ORow := ⟨⟨#[]⟩, 0, 0, 0, false⟩
def ORow.cells (r : ORow) : Array Value := #[.string r.name, .int .u8 r.kind, .int .u8 r.takes, .int .u8 r.puts, .bool r.many]
def rowP (op : Int) : ORow := if 0 ≤ op ∧ op < 67 then opTab.getD op.toNat noRow else noRow
def earlyCells : Array Value := #[.string ⟨#[110, 111, 112]⟩, .int .u8 0, .int .u8 0, .int .u8 0, .bool false,
  .string ⟨#[110, 105, 108]⟩, .int .u8 0, .int .u8 0, .int .u8 1, .bool false,
  .string ⟨#[116, 114, 117, 101]⟩, .int .u8 0, .int .u8 0, .int .u8 1, .bool false,
  .string ⟨#[102, 97, 108, 115, 101]⟩, .int .u8 0, .int .u8 0, .int .u8 1, .bool false,
  .string ⟨#[105, 110, 116]⟩, .int .u8 1, .int .u8 0, .int .u8 1, .bool false,
  .string ⟨#[99, 111, 110, 115, 116]⟩, .int .u8 4, .int .u8 0, .int .u8 1, .bool false,
  .string ⟨#[102, 117, 110, 99]⟩, .int .u8 5, .int .u8 0, .int .u8 1, .bool false,
  .string ⟨#[112, 111, 112]⟩, .int .u8 0, .int .u8 1, .int .u8 0, .bool false,
  .string ⟨#[100, 117, 112]⟩, .int .u8 0, .int .u8 1, .int .u8 2, .bool false,
  .string ⟨#[115, 119, 97, 112]⟩, .int .u8 0, .int .u8 2, .int .u8 2, .bool false,
  .string ⟨#[108, 111, 97, 100]⟩, .int .u8 3, .int .u8 0, .int .u8 1, .bool false,
  .string ⟨#[115, 116, 111, 114, 101]⟩, .int .u8 3, .int .u8 1, .int .u8 0, .bool false,
  .string ⟨#[97, 100, 100]⟩, .int .u8 0, .int .u8 2, .int .u8 1, .bool false,
  .string ⟨#[115, 117, 98]⟩, .int .u8 0, .int .u8 2, .int .u8 1, .bool false,
  .string ⟨#[109, 117, 108]⟩, .int .u8 0, .int .u8 2, .int .u8 1, .bool false,
  .string ⟨#[100, 105, 118]⟩, .int .u8 0, .int .u8 2, .int .u8 1, .bool false,
  .string ⟨#[114, 101, 109]⟩, .int .u8 0, .int .u8 2, .int .u8 1, .bool false,
  .string ⟨#[110, 101, 103]⟩, .int .u8 0, .int .u8 1, .int .u8 1, .bool false,
  .string ⟨#[97, 110, 100]⟩, .int .u8 0, .int .u8 2, .int .u8 1, .bool false,
  .string ⟨#[111, 114]⟩, .int .u8 0, .int .u8 2, .int .u8 1, .bool false,
  .string ⟨#[120, 111, 114]⟩, .int .u8 0, .int .u8 2, .int .u8 1, .bool false,
  .string ⟨#[110, 111, 116]⟩, .int .u8 0, .int .u8 1, .int .u8 1, .bool false,
  .string ⟨#[115, 104, 108]⟩, .int .u8 0, .int .u8 2, .int .u8 1, .bool false,
  .string ⟨#[115, 104, 114]⟩, .int .u8 0, .int .u8 2, .int .u8 1, .bool false,
  .string ⟨#[101, 120, 116]⟩, .int .u8 7, .int .u8 1, .int .u8 1, .bool false,
  .string ⟨#[101, 113]⟩, .int .u8 0, .int .u8 2, .int .u8 1, .bool false,
  .string ⟨#[110, 101]⟩, .int .u8 0, .int .u8 2, .int .u8 1, .bool false,
  .string ⟨#[108, 116]⟩, .int .u8 0, .int .u8 2, .int .u8 1, .bool false,
  .string ⟨#[108, 101]⟩, .int .u8 0, .int .u8 2, .int .u8 1, .bool false,
  .string ⟨#[116, 101, 115, 116]⟩, .int .u8 0, .int .u8 1, .int .u8 1, .bool false,
  .string ⟨#[102, 108, 105, 112]⟩, .int .u8 0, .int .u8 1, .int .u8 1, .bool false,
  .string ⟨#[116, 111, 105, 110, 116]⟩, .int .u8 0, .int .u8 1, .int .u8 1, .bool false,
  .string ⟨#[116, 111, 114, 101, 97, 108]⟩, .int .u8 0, .int .u8 1, .int .u8 1, .bool false,
  .string ⟨#[115, 105, 110, 103, 108, 101]⟩, .int .u8 0, .int .u8 1, .int .u8 1, .bool false,
  .string ⟨#[116, 111, 116, 101, 120, 116]⟩, .int .u8 0, .int .u8 1, .int .u8 1, .bool false,
  .string ⟨#[107, 105, 110, 100]⟩, .int .u8 0, .int .u8 1, .int .u8 1, .bool false,
  .string ⟨#[102, 108, 111, 111, 114]⟩, .int .u8 0, .int .u8 1, .int .u8 1, .bool false,
  .string ⟨#[115, 113, 114, 116]⟩, .int .u8 0, .int .u8 1, .int .u8 1, .bool false]
def laterCells : Array Value := #[.string ⟨#[99, 97, 116]⟩, .int .u8 0, .int .u8 2, .int .u8 1, .bool false,
  .string ⟨#[99, 117, 116]⟩, .int .u8 0, .int .u8 3, .int .u8 1, .bool false,
  .string ⟨#[106, 117, 109, 112]⟩, .int .u8 2, .int .u8 0, .int .u8 0, .bool false,
  .string ⟨#[106, 122]⟩, .int .u8 2, .int .u8 1, .int .u8 0, .bool false,
  .string ⟨#[106, 110, 122]⟩, .int .u8 2, .int .u8 1, .int .u8 0, .bool false,
  .string ⟨#[99, 97, 108, 108]⟩, .int .u8 6, .int .u8 1, .int .u8 1, .bool true,
  .string ⟨#[114, 101, 116]⟩, .int .u8 0, .int .u8 1, .int .u8 0, .bool false,
  .string ⟨#[116, 104, 114, 111, 119]⟩, .int .u8 0, .int .u8 1, .int .u8 0, .bool false,
  .string ⟨#[98, 105, 110, 100]⟩, .int .u8 6, .int .u8 1, .int .u8 1, .bool true,
  .string ⟨#[97, 114, 114, 97, 121]⟩, .int .u8 6, .int .u8 0, .int .u8 1, .bool true,
  .string ⟨#[114, 101, 99, 111, 114, 100]⟩, .int .u8 0, .int .u8 0, .int .u8 1, .bool false,
  .string ⟨#[103, 101, 116]⟩, .int .u8 0, .int .u8 2, .int .u8 1, .bool false,
  .string ⟨#[115, 101, 116]⟩, .int .u8 0, .int .u8 3, .int .u8 0, .bool false,
  .string ⟨#[112, 117, 115, 104]⟩, .int .u8 0, .int .u8 2, .int .u8 0, .bool false,
  .string ⟨#[108, 101, 110]⟩, .int .u8 0, .int .u8 1, .int .u8 1, .bool false,
  .string ⟨#[103, 101, 116, 102]⟩, .int .u8 4, .int .u8 1, .int .u8 1, .bool false,
  .string ⟨#[115, 101, 116, 102]⟩, .int .u8 4, .int .u8 2, .int .u8 0, .bool false,
  .string ⟨#[104, 97, 115, 102]⟩, .int .u8 4, .int .u8 1, .int .u8 1, .bool false,
  .string ⟨#[100, 101, 108, 102]⟩, .int .u8 4, .int .u8 1, .int .u8 0, .bool false,
  .string ⟨#[107, 101, 121, 115]⟩, .int .u8 0, .int .u8 1, .int .u8 1, .bool false,
  .string ⟨#[112, 114, 105, 110, 116]⟩, .int .u8 0, .int .u8 1, .int .u8 0, .bool false,
  .string ⟨#[114, 101, 97, 100]⟩, .int .u8 0, .int .u8 0, .int .u8 1, .bool false,
  .string ⟨#[115, 112, 97, 119, 110]⟩, .int .u8 6, .int .u8 1, .int .u8 0, .bool true,
  .string ⟨#[121, 105, 101, 108, 100]⟩, .int .u8 0, .int .u8 0, .int .u8 0, .bool false,
  .string ⟨#[99, 104, 97, 110]⟩, .int .u8 8, .int .u8 0, .int .u8 1, .bool false,
  .string ⟨#[115, 101, 110, 100]⟩, .int .u8 0, .int .u8 2, .int .u8 0, .bool false,
  .string ⟨#[114, 101, 99, 118]⟩, .int .u8 0, .int .u8 1, .int .u8 1, .bool false,
  .string ⟨#[115, 104, 117, 116]⟩, .int .u8 0, .int .u8 1, .int .u8 0, .bool false,
  .string ⟨#[98, 105, 99]⟩, .int .u8 0, .int .u8 2, .int .u8 1, .bool false]
theorem earlyCells_at (k : Nat) (hk : k < 38) : earlyCells[k * 5]? = some (.string (opTab.getD (0 + k) noRow).name) ∧ earlyCells[k * 5 + 1]? = some (.int .u8 (opTab.getD (0 + k) noRow).kind) ∧ earlyCells[k * 5 + 2]? = some (.int .u8 (opTab.getD (0 + k) noRow).takes) ∧ earlyCells[k * 5 + 3]? = some (.int .u8 (opTab.getD (0 + k) noRow).puts) ∧ earlyCells[k * 5 + 4]? = some (.bool (opTab.getD (0 + k) noRow).many) := by
  match k, hk with
  | 0, _ => exact ⟨rfl, rfl, rfl, rfl, rfl⟩
  | 1, _ => exact ⟨rfl, rfl, rfl, rfl, rfl⟩
  | 2, _ => exact ⟨rfl, rfl, rfl, rfl, rfl⟩
  | 3, _ => exact ⟨rfl, rfl, rfl, rfl, rfl⟩
  | 4, _ => exact ⟨rfl, rfl, rfl, rfl, rfl⟩
  | 5, _ => exact ⟨rfl, rfl, rfl, rfl, rfl⟩
  | 6, _ => exact ⟨rfl, rfl, rfl, rfl, rfl⟩
  | 7, _ => exact ⟨rfl, rfl, rfl, rfl, rfl⟩
  | 8, _ => exact ⟨rfl, rfl, rfl, rfl, rfl⟩
  | 9, _ => exact ⟨rfl, rfl, rfl, rfl, rfl⟩
  | 10, _ => exact ⟨rfl, rfl, rfl, rfl, rfl⟩
  | 11, _ => exact ⟨rfl, rfl, rfl, rfl, rfl⟩
  | 12, _ => exact ⟨rfl, rfl, rfl, rfl, rfl⟩
  | 13, _ => exact ⟨rfl, rfl, rfl, rfl, rfl⟩
  | 14, _ => exact ⟨rfl, rfl, rfl, rfl, rfl⟩
  | 15, _ => exact ⟨rfl, rfl, rfl, rfl, rfl⟩
  | 16, _ => exact ⟨rfl, rfl, rfl, rfl, rfl⟩
  | 17, _ => exact ⟨rfl, rfl, rfl, rfl, rfl⟩
  | 18, _ => exact ⟨rfl, rfl, rfl, rfl, rfl⟩
  | 19, _ => exact ⟨rfl, rfl, rfl, rfl, rfl⟩
  | 20, _ => exact ⟨rfl, rfl, rfl, rfl, rfl⟩
  | 21, _ => exact ⟨rfl, rfl, rfl, rfl, rfl⟩
  | 22, _ => exact ⟨rfl, rfl, rfl, rfl, rfl⟩
  | 23, _ => exact ⟨rfl, rfl, rfl, rfl, rfl⟩
  | 24, _ => exact ⟨rfl, rfl, rfl, rfl, rfl⟩
  | 25, _ => exact ⟨rfl, rfl, rfl, rfl, rfl⟩
  | 26, _ => exact ⟨rfl, rfl, rfl, rfl, rfl⟩
  | 27, _ => exact ⟨rfl, rfl, rfl, rfl, rfl⟩
  | 28, _ => exact ⟨rfl, rfl, rfl, rfl, rfl⟩
  | 29, _ => exact ⟨rfl, rfl, rfl, rfl, rfl⟩
  | 30, _ => exact ⟨rfl, rfl, rfl, rfl, rfl⟩
  | 31, _ => exact ⟨rfl, rfl, rfl, rfl, rfl⟩
  | 32, _ => exact ⟨rfl, rfl, rfl, rfl, rfl⟩
  | 33, _ => exact ⟨rfl, rfl, rfl, rfl, rfl⟩
  | 34, _ => exact ⟨rfl, rfl, rfl, rfl, rfl⟩
  | 35, _ => exact ⟨rfl, rfl, rfl, rfl, rfl⟩
  | 36, _ => exact ⟨rfl, rfl, rfl, rfl, rfl⟩
  | 37, _ => exact ⟨rfl, rfl, rfl, rfl, rfl⟩
  | k + 38, h => omega
theorem laterCells_at (k : Nat) (hk : k < 29) : laterCells[k * 5]? = some (.string (opTab.getD (38 + k) noRow).name) ∧ laterCells[k * 5 + 1]? = some (.int .u8 (opTab.getD (38 + k) noRow).kind) ∧ laterCells[k * 5 + 2]? = some (.int .u8 (opTab.getD (38 + k) noRow).takes) ∧ laterCells[k * 5 + 3]? = some (.int .u8 (opTab.getD (38 + k) noRow).puts) ∧ laterCells[k * 5 + 4]? = some (.bool (opTab.getD (38 + k) noRow).many) := by
  match k, hk with
  | 0, _ => exact ⟨rfl, rfl, rfl, rfl, rfl⟩
  | 1, _ => exact ⟨rfl, rfl, rfl, rfl, rfl⟩
  | 2, _ => exact ⟨rfl, rfl, rfl, rfl, rfl⟩
  | 3, _ => exact ⟨rfl, rfl, rfl, rfl, rfl⟩
  | 4, _ => exact ⟨rfl, rfl, rfl, rfl, rfl⟩
  | 5, _ => exact ⟨rfl, rfl, rfl, rfl, rfl⟩
  | 6, _ => exact ⟨rfl, rfl, rfl, rfl, rfl⟩
  | 7, _ => exact ⟨rfl, rfl, rfl, rfl, rfl⟩
  | 8, _ => exact ⟨rfl, rfl, rfl, rfl, rfl⟩
  | 9, _ => exact ⟨rfl, rfl, rfl, rfl, rfl⟩
  | 10, _ => exact ⟨rfl, rfl, rfl, rfl, rfl⟩
  | 11, _ => exact ⟨rfl, rfl, rfl, rfl, rfl⟩
  | 12, _ => exact ⟨rfl, rfl, rfl, rfl, rfl⟩
  | 13, _ => exact ⟨rfl, rfl, rfl, rfl, rfl⟩
  | 14, _ => exact ⟨rfl, rfl, rfl, rfl, rfl⟩
  | 15, _ => exact ⟨rfl, rfl, rfl, rfl, rfl⟩
  | 16, _ => exact ⟨rfl, rfl, rfl, rfl, rfl⟩
  | 17, _ => exact ⟨rfl, rfl, rfl, rfl, rfl⟩
  | 18, _ => exact ⟨rfl, rfl, rfl, rfl, rfl⟩
  | 19, _ => exact ⟨rfl, rfl, rfl, rfl, rfl⟩
  | 20, _ => exact ⟨rfl, rfl, rfl, rfl, rfl⟩
  | 21, _ => exact ⟨rfl, rfl, rfl, rfl, rfl⟩
  | 22, _ => exact ⟨rfl, rfl, rfl, rfl, rfl⟩
  | 23, _ => exact ⟨rfl, rfl, rfl, rfl, rfl⟩
  | 24, _ => exact ⟨rfl, rfl, rfl, rfl, rfl⟩
  | 25, _ => exact ⟨rfl, rfl, rfl, rfl, rfl⟩
  | 26, _ => exact ⟨rfl, rfl, rfl, rfl, rfl⟩
  | 27, _ => exact ⟨rfl, rfl, rfl, rfl, rfl⟩
  | 28, _ => exact ⟨rfl, rfl, rfl, rfl, rfl⟩
  | k + 29, h => omega
theorem results_cell1 {fn : Func} {c : Tmp} {t : TypeId} (h : fn.results = #[.cell c t]) (tmps : Array Value) (P : Program) (w : World) (g : Nat) (hp : tmps.getD c undef = .pointer (some ⟨g, 0, none⟩)) (v : Value) (hl : (loadVar t ⟨g, 0, none⟩).run P w = .ok v w) :
    (results fn tmps).run P w = .ok v w := by
  simp only [results, h]
  rw [Array.getD_eq_getD_getElem?] at hp
  simp [hp, asAddr, hl, Result.andThen]
theorem heap_alloc_old3 (w : World) (o : Obj) {k : Nat} {b : Obj} (h : w.heap[k]? = some b) : (w.alloc o).heap[k]? = some b := (heap_alloc_old w o (blk_lt h)).trans h
theorem Chg.setRow {S : Nat → Prop} {a b : World} (h : Chg S a b) {g : Nat} (hg : g < a.heap.size → S g) (cs : Array Value) : Chg S a (b.setRow g cs) :=
  h.trans (T := fun k => k = g) ⟨rfl, rfl, rfl, by simp, fun k hk hn => setRow_other b g k cs hn⟩ (fun i hi e => by subst e; exact hg hi)
theorem infoRow (r : ORow) : (Tryd.prog.info? 134).map (·.size) = some r.cells.size := (by kernel_rfl : (Tryd.prog.info? 134).map (·.size) = some 5)
theorem row_one (r : ORow) : r.cells.all (·.oneCell') = true := by cases r; simp [ORow.cells, Value.oneCell']
theorem alloc2_new (w : World) (a b : Obj) : ((w.alloc a).alloc b).heap[w.heap.size + 1]? = some b := by simpa using heap_alloc_new (w.alloc a) b
theorem arr_made {w w1 : World} {A : Array Value} {B cs : Array Value} {s t : TypeId} (h : ((w.alloc (.cells A s)).alloc (.cells B t)).setRow (w.heap.size + 1) cs = w1) :
    w1.heap[w.heap.size]? = some (.cells A s (0, 0)) ∧ w1.heap[w.heap.size + 1]? = some (.cells cs t (0, 0)) ∧ Chg (fun _ => False) w w1 := by
  subst h
  have h1 : ((w.alloc (.cells A s)).alloc (.cells B t)).heap[w.heap.size + 1]? = some (.cells B t (0, 0)) := by simpa using heap_alloc_new (w.alloc (.cells A s)) (.cells B t)
  refine ⟨?_, setRow_heap _ _ _ _ _ _ h1, (((Chg.refl _ w).alloc _).alloc _).setRow (fun h => by omega) _⟩
  rw [setRow_other _ _ _ _ (by omega)]
  exact heap_alloc_old3 _ _ (heap_alloc_new w _)
theorem row_cell {w : World} {g j : Nat} {cs : Array Value} {t : TypeId} {v : Value} (h : w.heap[g]? = some (.cells cs t (0, 0))) (hj : cs[j]? = some v) : w.cell? ⟨g, j, none⟩ = some v := by simp [World.cell?, h, hj]
theorem row_put {w w1 : World} {A : Array Value} {s : TypeId} (h0 : w1.heap[w.heap.size]? = some (.cells A s (0, 0))) (hc : Chg (fun _ => False) w w1) (cs : Array Value) :
    (w1.setRow w.heap.size cs).heap[w.heap.size]? = some (.cells cs s (0, 0)) ∧ Chg (fun _ => False) w (w1.setRow w.heap.size cs) :=
  ⟨setRow_heap _ _ _ _ _ _ h0, hc.setRow (fun h => by omega) _⟩
set_option maxHeartbeats 4000000
theorem code_early (w : World) (k : Nat) (hk : k < 38) : Calls Tryd.prog 67 #[.int .i64 (k)] w fun e w' => e = .returned (.agg (opTab.getD (0 + k) noRow).cells) ∧ Chg (fun _ => False) w w' := by
  have hk0 : (0 : Int) ≤ k := by omega
  have hk1 : (k : Int) < 38 := by omega
  have hat := Aside0.mk (earlyCells_at k hk)
  generalize opTab.getD (0 + k) noRow = r at hat ⊢
  go_enter Tryd.func67, Tryd.ntmps67
  go_wp2_with (first | (refine wpList_store_row rfl 150 (.tmp 3) (.tmp 42) rfl (w.heap.size + 1) earlyCells rfl (by kernel_rfl) 150 _ (alloc2_new w _ _) (by kernel_rfl) (by kernel_rfl) (by kernel_rfl) ?_; go_must (generalize hw1 : World.setRow _ _ _ = w1); go_must (obtain ⟨hb0, hb1, hc1⟩ := arr_made hw1); go_must (obtain ⟨y0, y1, y2, y3, y4⟩ := hat.out); go_must (have x0 := row_cell hb1 y0); go_must (have x1 := row_cell hb1 y1); go_must (have x2 := row_cell hb1 y2); go_must (have x3 := row_cell hb1 y3); go_must (have x4 := row_cell hb1 y4); go_must (replace hb0 := Aside0.mk hb0); go_must (replace hc1 := Aside0.mk hc1); go_must (clear hb1 hw1 y0 y1 y2 y3 y4)) | (refine wpList_store_row rfl 134 (.tmp 2) (.tmp 45) rfl w.heap.size r.cells rfl rfl 134 _ hb0.out (infoRow r) rfl (row_one r) ?_; go_must (have h5 := Aside0.mk (row_put hb0.out hc1.out r.cells)); go_must (generalize hw5 : World.setRow _ _ _ = w5 at h5); go_must (clear hw5)))
  (try simp only [Exit.inBlock, Exit.then])
  refine bodyPost_ret (results_cell1 rfl _ _ _ _ rfl _ (run_loadVar_row _ _ _ _ _ _ _ h5.out.1 Tryd.underlying134 rfl (by kernel_rfl))) rfl ?_
  exact ⟨rfl, h5.out.2⟩
set_option maxHeartbeats 4000000
theorem code_later (w : World) (k : Nat) (hk : k < 29) : Calls Tryd.prog 68 #[.int .i64 (((38 : Int) + k))] w fun e w' => e = .returned (.agg (opTab.getD (38 + k) noRow).cells) ∧ Chg (fun _ => False) w w' := by
  have hk0 : (0 : Int) ≤ k := by omega
  have hk1 : (k : Int) < 29 := by omega
  have hs : (38 : Int) + (k : Int) - 38 = k := by omega
  have hat := Aside0.mk (laterCells_at k hk)
  generalize opTab.getD (38 + k) noRow = r at hat ⊢
  go_enter Tryd.func68, Tryd.ntmps68
  go_wp2_with (first | (refine wpList_store_row rfl 151 (.tmp 3) (.tmp 33) rfl (w.heap.size + 1) laterCells rfl (by kernel_rfl) 151 _ (alloc2_new w _ _) (by kernel_rfl) (by kernel_rfl) (by kernel_rfl) ?_; go_must (generalize hw1 : World.setRow _ _ _ = w1); go_must (obtain ⟨hb0, hb1, hc1⟩ := arr_made hw1); go_must (obtain ⟨y0, y1, y2, y3, y4⟩ := hat.out); go_must (have x0 := row_cell hb1 y0); go_must (have x1 := row_cell hb1 y1); go_must (have x2 := row_cell hb1 y2); go_must (have x3 := row_cell hb1 y3); go_must (have x4 := row_cell hb1 y4); go_must (replace hb0 := Aside0.mk hb0); go_must (replace hc1 := Aside0.mk hc1); go_must (clear hb1 hw1 y0 y1 y2 y3 y4)) | (refine wpList_store_row rfl 134 (.tmp 2) (.tmp 37) rfl w.heap.size r.cells rfl rfl 134 _ hb0.out (infoRow r) rfl (row_one r) ?_; go_must (have h5 := Aside0.mk (row_put hb0.out hc1.out r.cells)); go_must (generalize hw5 : World.setRow _ _ _ = w5 at h5); go_must (clear hw5)))
  (try simp only [Exit.inBlock, Exit.then])
  refine bodyPost_ret (results_cell1 rfl _ _ _ _ rfl _ (run_loadVar_row _ _ _ _ _ _ _ h5.out.1 Tryd.underlying134 rfl (by kernel_rfl))) rfl ?_
  exact ⟨rfl, h5.out.2⟩
end Go.Proofs.YtgaackedappmgaaDoor.K
