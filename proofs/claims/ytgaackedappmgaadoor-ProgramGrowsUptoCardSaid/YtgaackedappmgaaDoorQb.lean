import Derived.Test.YtgaackedappmgaaDoorQa
import Derived.IntWalk
import Derived.BigQuiet
namespace Go.Proofs.YtgaackedappmgaaDoor.K
open Go.RowKit Go.Proofs.YtgaackedappmgaaDoorW.PrintWords Go.Proofs.YtgaackedappmgaaDoorW.PrintLast Go.Proofs.YtgaackedappmgaaDoorW.PrintMore
set_option linter.unusedVariables false
set_option linter.unusedSimpArgs false
set_option maxRecDepth 100000
theorem cellQ {w : World} {p : Addr} {v : Value} (h : w.cell? p = some v) (o : Obj) : (w.alloc o).cell? p = some v := by
  have hb := World.block_lt_of_cell? w p h
  have hk := ((Chg.refl (fun _ => False) w).alloc o).block p.block hb (fun h => h)
  simpa [World.cell?, hk] using h
theorem infoQI : (Tryd.prog.info? 50).map (fun i => (i.zero, i.size, i.bytes)) = some (some (.agg #[.int .i64 0, .int .i64 0]), 2, 16) := by kernel_rfl
theorem kQI_at {w : World} {A : Option Addr} {n : Nat} {l : List QI} (h : Kd.C kQI w A n l) (i : Nat) (h1 : i < n) : ∃ ad op1 a1, A = some ad ∧ l[i]? = some ⟨op1, a1⟩ ∧ w.cell? (ad.add (i * 2)) = some (.int .i64 op1) ∧ w.cell? ⟨(ad.add (i * 2)).block, (ad.add (i * 2)).off + 1, none⟩ = some (.int .i64 a1) := by
  obtain ⟨e1, e2, e3⟩ := h
  obtain ⟨ad, ea, hc⟩ := e3 (by omega)
  have hi : i < l.length := by omega
  obtain ⟨cs, _, hk, hcell⟩ := hc i _ (List.getElem?_eq_getElem hi)
  rw [kQI_K] at hk
  subst hk
  have g1 := hcell 1 _ rfl
  have e5 : kQI.sz = 2 := rfl
  rw [e5] at g1
  rw [← add_add] at g1
  exact ⟨ad, l[i].op, l[i].a, ea, List.getElem?_eq_getElem hi, hcell 0 _ rfl, g1⟩
def kQIMarks (k : Nat) : List QI := (List.range k).map (fun i : Nat => (⟨(-7), Int.ofNat i⟩ : QI))
theorem infoQH : (Tryd.prog.info? 54).map (fun i => (i.zero, i.size, i.bytes)) = some (some (.agg #[.int .i64 0, .int .i64 0, .int .i64 0, .int .i64 0]), 4, 32) := by kernel_rfl
theorem kQH_at {w : World} {A : Option Addr} {n : Nat} {l : List QH} (h : Kd.C kQH w A n l) (i : Nat) (h1 : i < n) : ∃ ad frm1 upto1 tgt1 hgt1, A = some ad ∧ l[i]? = some ⟨frm1, upto1, tgt1, hgt1⟩ ∧ w.cell? (ad.add (i * 4)) = some (.int .i64 frm1) ∧ w.cell? ⟨(ad.add (i * 4)).block, (ad.add (i * 4)).off + 1, none⟩ = some (.int .i64 upto1) ∧ w.cell? ⟨(ad.add (i * 4)).block, (ad.add (i * 4)).off + 2, none⟩ = some (.int .i64 tgt1) ∧ w.cell? ⟨(ad.add (i * 4)).block, (ad.add (i * 4)).off + 3, none⟩ = some (.int .i64 hgt1) := by
  obtain ⟨e1, e2, e3⟩ := h
  obtain ⟨ad, ea, hc⟩ := e3 (by omega)
  have hi : i < l.length := by omega
  obtain ⟨cs, _, hk, hcell⟩ := hc i _ (List.getElem?_eq_getElem hi)
  rw [kQH_K] at hk
  subst hk
  have g1 := hcell 1 _ rfl
  have g2 := hcell 2 _ rfl
  have g3 := hcell 3 _ rfl
  have e5 : kQH.sz = 4 := rfl
  rw [e5] at g1 g2 g3
  rw [← add_add] at g1 g2 g3
  exact ⟨ad, l[i].frm, l[i].upto, l[i].tgt, l[i].hgt, ea, List.getElem?_eq_getElem hi, hcell 0 _ rfl, g1, g2, g3⟩
def kQHMarks (k : Nat) : List QH := (List.range k).map (fun i : Nat => (⟨(-7), Int.ofNat i, 0, 0⟩ : QH))
end Go.Proofs.YtgaackedappmgaaDoor.K
