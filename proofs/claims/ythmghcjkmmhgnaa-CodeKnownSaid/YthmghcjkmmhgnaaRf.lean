import Derived.Test.YthmghcjkmmhgnaaRe
namespace Go.Proofs.Ythmghcjkmmhgnaa.K
open Go.RowKit Go.Proofs.YthmghcjkmmhgnaaW.PrintWords Go.Proofs.YthmghcjkmmhgnaaW.PrintLast Go.Proofs.YthmghcjkmmhgnaaW.PrintMore
set_option linter.unusedVariables false
set_option linter.unusedSimpArgs false
set_option maxRecDepth 100000

theorem Rd.drew {w : World} {F : Nat → Prop} {g i : Nat} {bs : List Int} {err : Int} (h : Rd w F g bs i err) : Rd w.drew F g bs i err := h.chg ((Chg.refl (fun _ => False) w).drew) (fun _ _ _ h => h)
/-- How a call ends that reads bytes into new memory. -/
def ResR (w : World) (F : Nat → Prop) (g : Nat) (bs : List Int) (r : Except Int (List Int × Nat)) (e : Ending) (w' : World) : Prop :=
  Chg (fun k => k = g) w w' ∧ match r with
    | .ok (l, j) => ∃ v, e = .returned v ∧ Kd.R (Kd.int .u8) 5 w' 0 (New (fun _ => False) w w') v l ∧ Rd w' F g bs j 0
    | .error c => e = .panicked [flt c] ∧ ∃ j, Rd w' F g bs j 0
def ResN (w : World) (F : Nat → Prop) (g : Nat) (bs : List Int) (r : List Int × Nat × Int) (e : Ending) (w' : World) : Prop :=
  ∃ v, e = .returned v ∧ Kd.R (Kd.int .u8) 5 w' 0 (New (fun _ => False) w w') v r.1 ∧ Rd w' F g bs r.2.1 r.2.2 ∧ Chg (fun k => k = g) w w'
end Go.Proofs.Ythmghcjkmmhgnaa.K
