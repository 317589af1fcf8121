import Derived.Test.YtgaackedappmgaaDoorKa
import Derived.Test.YtgaackedappmgaaDoorOa
import Derived.IntWalk
namespace Go.Proofs.YtgaackedappmgaaDoor.K
open Go.RowKit Go.Proofs.YtgaackedappmgaaDoorW.PrintWords Go.Proofs.YtgaackedappmgaaDoorW.PrintLast Go.Proofs.YtgaackedappmgaaDoorW.PrintMore
set_option linter.unusedVariables false
set_option linter.unusedSimpArgs false
set_option maxRecDepth 100000
structure QI where
  op : Int
  a : Int
structure QH where
  frm : Int
  upto : Int
  tgt : Int
  hgt : Int
structure QC where
  kind : Int
  n : Int
  text : ByteArray
abbrev SV := Option Addr × Nat × Nat
def svl (p : SV) : Value := .slice p.1 p.2.1 p.2.2
structure QR where
  name : ByteArray
  pars : Int
  locs : Int
  code : SV
  hnd : SV
structure QF where
  name : ByteArray
  pars : Int
  locs : Int
  code : List QI
  hnd : List QH
structure QP where
  consts : List QC
  funcs : List QF
def kSV : Kd SV := Kd.scalar svl (fun _ => rfl)
def kQI : Kd QI := Kd.iso (Kd.pair (Kd.int .i64) (Kd.int .i64)) (fun p => (p.op, p.a))
def kQH : Kd QH := Kd.iso (Kd.pair (Kd.int .i64) (Kd.pair (Kd.int .i64) (Kd.pair (Kd.int .i64) (Kd.int .i64)))) (fun p => (p.frm, p.upto, p.tgt, p.hgt))
def kQC : Kd QC := Kd.iso (Kd.pair (Kd.int .i64) (Kd.pair (Kd.int .i64) Kd.string)) (fun p => (p.kind, p.n, p.text))
def kQR : Kd QR := Kd.iso (Kd.pair Kd.string (Kd.pair (Kd.int .i64) (Kd.pair (Kd.int .i64) (Kd.pair kSV kSV)))) (fun p => (p.name, p.pars, p.locs, p.code, p.hnd))
def kQF : Kd QF := Kd.iso (Kd.pair Kd.string (Kd.pair (Kd.int .i64) (Kd.pair (Kd.int .i64) (Kd.pair (Kd.slice 50 kQI) (Kd.slice 54 kQH))))) (fun p => (p.name, p.pars, p.locs, p.code, p.hnd))
def kQP : Kd QP := Kd.iso (Kd.pair (Kd.slice 39 kQC) (Kd.slice 47 kQF)) (fun p => (p.consts, p.funcs))
theorem kQI_K (w : World) (p : QI) (cs : List Value) : kQI.K w p cs ↔ cs = [.int .i64 p.op, .int .i64 p.a] := by
  constructor
  · rintro ⟨_, _, rfl, rfl, rfl⟩; rfl
  · rintro rfl; exact ⟨[_], _, rfl, rfl, rfl⟩
theorem kQI_M (w : World) (base : Nat) (ok : Nat → Prop) (p : QI) : kQI.M w base ok p [.int .i64 p.op, .int .i64 p.a] := ⟨[_], _, rfl, rfl, rfl⟩
theorem kQH_K (w : World) (p : QH) (cs : List Value) : kQH.K w p cs ↔ cs = [.int .i64 p.frm, .int .i64 p.upto, .int .i64 p.tgt, .int .i64 p.hgt] := by
  constructor
  · rintro ⟨_, _, rfl, rfl, _, _, rfl, rfl, _, _, rfl, rfl, rfl⟩; rfl
  · rintro rfl; exact ⟨[_], _, rfl, rfl, [_], _, rfl, rfl, [_], _, rfl, rfl, rfl⟩
theorem kQH_M (w : World) (base : Nat) (ok : Nat → Prop) (p : QH) : kQH.M w base ok p [.int .i64 p.frm, .int .i64 p.upto, .int .i64 p.tgt, .int .i64 p.hgt] := ⟨[_], _, rfl, rfl, [_], _, rfl, rfl, [_], _, rfl, rfl, rfl⟩
theorem kQC_K (w : World) (p : QC) (cs : List Value) : kQC.K w p cs ↔ cs = [.int .i64 p.kind, .int .i64 p.n, .string p.text] := by
  constructor
  · rintro ⟨_, _, rfl, rfl, _, _, rfl, rfl, rfl⟩; rfl
  · rintro rfl; exact ⟨[_], _, rfl, rfl, [_], _, rfl, rfl, rfl⟩
theorem kQC_M (w : World) (base : Nat) (ok : Nat → Prop) (p : QC) : kQC.M w base ok p [.int .i64 p.kind, .int .i64 p.n, .string p.text] := ⟨[_], _, rfl, rfl, [_], _, rfl, rfl, rfl⟩
abbrev qrCells (p : QR) : List Value := [.string p.name, .int .i64 p.pars, .int .i64 p.locs, .slice p.code.1 p.code.2.1 p.code.2.2, .slice p.hnd.1 p.hnd.2.1 p.hnd.2.2]
theorem kQR_K (w : World) (p : QR) (cs : List Value) : kQR.K w p cs ↔ cs = qrCells p := by
  constructor
  · rintro ⟨_, _, rfl, rfl, _, _, rfl, rfl, _, _, rfl, rfl, _, _, rfl, rfl, rfl⟩; rfl
  · rintro rfl; exact ⟨[_], _, rfl, rfl, [_], _, rfl, rfl, [_], _, rfl, rfl, [_], _, rfl, rfl, rfl⟩
theorem kQR_M (w : World) (base : Nat) (ok : Nat → Prop) (p : QR) : kQR.M w base ok p (qrCells p) := ⟨[_], _, rfl, rfl, [_], _, rfl, rfl, [_], _, rfl, rfl, [_], _, rfl, rfl, rfl⟩
theorem kQF_K {w : World} {p : QF} {cs : List Value} (h : kQF.K w p cs) : ∃ r : QR, cs = qrCells r ∧ r.name = p.name ∧ r.pars = p.pars ∧ r.locs = p.locs ∧ Kd.C kQI w r.code.1 r.code.2.1 p.code ∧ Kd.C kQH w r.hnd.1 r.hnd.2.1 p.hnd ∧ p.code.length ≤ r.code.2.2 ∧ p.hnd.length ≤ r.hnd.2.2 := by
  obtain ⟨_, _, rfl, rfl, _, _, rfl, rfl, _, _, rfl, rfl, _, _, rfl, ⟨A, c, rfl, h1, h2⟩, ⟨B, d, rfl, h3, h4⟩⟩ := h
  exact ⟨⟨p.name, p.pars, p.locs, (A, _, c), (B, _, d)⟩, rfl, rfl, rfl, rfl, h2, h4, h1, h3⟩
theorem kQP_K {w : World} {p : QP} {cs : List Value} (h : kQP.K w p cs) : ∃ A c B d, cs = [.slice A p.consts.length c, .slice B p.funcs.length d] ∧ p.consts.length ≤ c ∧ p.funcs.length ≤ d ∧ Kd.C kQC w A p.consts.length p.consts ∧ Kd.C kQF w B p.funcs.length p.funcs := by
  obtain ⟨_, _, rfl, ⟨A, c, rfl, h1, h2⟩, ⟨B, d, rfl, h3, h4⟩⟩ := h
  exact ⟨A, c, B, d, rfl, h1, h3, h2, h4⟩
def RawOf (w : World) (r : QR) (f : QF) : Prop := r.name = f.name ∧ r.pars = f.pars ∧ r.locs = f.locs ∧ Kd.C kQI w r.code.1 r.code.2.1 f.code ∧ Kd.C kQH w r.hnd.1 r.hnd.2.1 f.hnd
structure PV (w : World) (cA fA : Option Addr) (p : QP) (rs : List QR) : Prop where
  cs : Kd.C kQC w cA p.consts.length p.consts
  fs : Kd.C kQR w fA p.funcs.length rs
  raw : ∀ (k : Nat) (r : QR) (f : QF), rs[k]? = some r → p.funcs[k]? = some f → RawOf w r f
theorem RawOf.below {w w' : World} {r : QR} {f : QF} (h : RawOf w r f) (hb : Below w.heap.size w w') : RawOf w' r f := ⟨h.1, h.2.1, h.2.2.1, Kd.C_below h.2.2.2.1 hb, Kd.C_below h.2.2.2.2 hb⟩
theorem PV.below {w w' : World} {cA fA : Option Addr} {p : QP} {rs : List QR} (h : PV w cA fA p rs) (hb : Below w.heap.size w w') : PV w' cA fA p rs := ⟨Kd.C_below h.cs hb, Kd.C_below h.fs hb, fun k r f h1 h2 => (h.raw k r f h1 h2).below hb⟩
theorem PV.of {w : World} {cA fA : Option Addr} {p : QP} (h1 : Kd.C kQC w cA p.consts.length p.consts) (h2 : Kd.C kQF w fA p.funcs.length p.funcs) : ∃ rs, PV w cA fA p rs := by
  obtain ⟨e1, e2, e3⟩ := h2
  have hch : ∀ i, i < p.funcs.length → ∃ r : QR, ∀ f, p.funcs[i]? = some f → RawOf w r f ∧ ∀ ad, fA = some ad → ∀ j u, (qrCells r)[j]? = some u → w.cell? (ad.add (i * 5 + j)) = some u := by
    intro i hi
    obtain ⟨ad, ea, hc⟩ := e3 (by omega)
    obtain ⟨cs, hl, hk, hcell⟩ := hc i _ (List.getElem?_eq_getElem hi)
    obtain ⟨r, rfl, r1, r2, r3, r4, r5, _, _⟩ := kQF_K hk
    refine ⟨r, fun f hf => ?_⟩
    rw [List.getElem?_eq_getElem hi] at hf
    injection hf with hf
    subst hf
    refine ⟨⟨r1, r2, r3, r4, r5⟩, fun ad' ea' j u hu => ?_⟩
    rw [ea] at ea'
    injection ea' with ea'
    subst ea'
    exact hcell j u hu
  obtain ⟨rs, hrl, hrs⟩ := list_choose p.funcs.length hch
  refine ⟨rs, h1, ⟨hrl, e2, fun h0 => ?_⟩, fun k r f hr hf => (hrs k r hr f hf).1⟩
  obtain ⟨ad, ea, _⟩ := e3 h0
  refine ⟨ad, ea, fun j r hr => ?_⟩
  have hj : j < p.funcs.length := by have := (List.getElem?_eq_some_iff.1 hr).1; omega
  exact ⟨qrCells r, rfl, (kQR_K w r _).2 rfl, fun i u hu => (hrs j r hr _ (List.getElem?_eq_getElem hj)).2 ad ea i u hu⟩
theorem raw_at {w : World} {A : Option Addr} {n : Nat} {rs : List QR} (h : Kd.C kQR w A n rs) (i : Nat) (h1 : i < n) : ∃ ad r, A = some ad ∧ rs[i]? = some r ∧ w.cell? (ad.add (i * 5)) = some (.string r.name) ∧
    w.cell? ⟨(ad.add (i * 5)).block, (ad.add (i * 5)).off + 1, none⟩ = some (.int .i64 r.pars) ∧ w.cell? ⟨(ad.add (i * 5)).block, (ad.add (i * 5)).off + 2, none⟩ = some (.int .i64 r.locs) ∧
    w.cell? ⟨(ad.add (i * 5)).block, (ad.add (i * 5)).off + 3, none⟩ = some (.slice r.code.1 r.code.2.1 r.code.2.2) ∧ w.cell? ⟨(ad.add (i * 5)).block, (ad.add (i * 5)).off + 4, none⟩ = some (.slice r.hnd.1 r.hnd.2.1 r.hnd.2.2) := by
  obtain ⟨e1, e2, e3⟩ := h
  obtain ⟨ad, ea, hc⟩ := e3 (by omega)
  have hi : i < rs.length := by omega
  obtain ⟨cs, _, hk, hcell⟩ := hc i _ (List.getElem?_eq_getElem hi)
  rw [kQR_K] at hk
  subst hk
  have g1 := hcell 1 _ rfl
  have g2 := hcell 2 _ rfl
  have g3 := hcell 3 _ rfl
  have g4 := hcell 4 _ rfl
  have e5 : kQR.sz = 5 := rfl
  rw [e5] at g1 g2 g3 g4
  rw [← add_add] at g1 g2 g3 g4
  exact ⟨ad, rs[i], ea, List.getElem?_eq_getElem hi, hcell 0 _ rfl, g1, g2, g3, g4⟩
end Go.Proofs.YtgaackedappmgaaDoor.K
