import Derived.Test.YtgaackedappmgaaDoorQc
import Derived.Test.YtgaackedappmgaaDoorQx
import Derived.IntWalk
import Derived.BigQuiet
import Derived.Laws.Rows
import Derived.Laws.Tables
namespace Go.Proofs.YtgaackedappmgaaDoor.K
open Go.RowKit Go.Proofs.YtgaackedappmgaaDoorW.PrintWords Go.Proofs.YtgaackedappmgaaDoorW.PrintLast Go.Proofs.YtgaackedappmgaaDoorW.PrintMore
set_option linter.unusedVariables false
set_option linter.unusedSimpArgs false
set_option maxRecDepth 100000
theorem infoQC : (Tryd.prog.info? 39).map (fun i => (i.zero, i.size, i.bytes)) = some (some (.agg #[.int .i64 0, .int .i64 0, .string ⟨#[]⟩]), 3, 32) := by kernel_rfl
theorem infoQR : (Tryd.prog.info? 47).map (fun i => (i.zero, i.size, i.bytes)) = some (some (.agg #[.string ⟨#[]⟩, .int .i64 0, .int .i64 0, .slice none 0 0, .slice none 0 0]), 5, 80) := by kernel_rfl
theorem kQC_at {w : World} {A : Option Addr} {n : Nat} {l : List QC} (h : Kd.C kQC w A n l) (i : Nat) (h1 : i < n) : ∃ ad kd1 n1 t1, A = some ad ∧ l[i]? = some ⟨kd1, n1, t1⟩ ∧ w.cell? (ad.add (i * 3)) = some (.int .i64 kd1) ∧
    w.cell? ⟨(ad.add (i * 3)).block, (ad.add (i * 3)).off + 1, none⟩ = some (.int .i64 n1) ∧ w.cell? ⟨(ad.add (i * 3)).block, (ad.add (i * 3)).off + 2, none⟩ = some (.string t1) := by
  obtain ⟨e1, e2, e3⟩ := h
  obtain ⟨ad, ea, hc⟩ := e3 (by omega)
  have hi : i < l.length := by omega
  obtain ⟨cs, _, hk, hcell⟩ := hc i _ (List.getElem?_eq_getElem hi)
  rw [kQC_K] at hk
  subst hk
  have g1 := hcell 1 _ rfl
  have g2 := hcell 2 _ rfl
  have e5 : kQC.sz = 3 := rfl
  rw [e5] at g1 g2
  rw [← add_add] at g1 g2
  exact ⟨ad, l[i].kind, l[i].n, l[i].text, ea, List.getElem?_eq_getElem hi, hcell 0 _ rfl, g1, g2⟩
def kQCMarks (k : Nat) : List QC := (List.range k).map (fun i : Nat => (⟨-7, Int.ofNat i, ⟨#[]⟩⟩ : QC))
structure LQ (W0 wr : World) (b3 : Nat) (vC vF : SV) (cs : List QC) (fs : List QR) : Prop where
  q : wr.heap[b3]? = some (.cells #[svl vC, svl vF] 25 (0, 0))
  rc : Kd.R kQC 39 wr 0 (fun k => some k = (svl vC).ownBlock) (svl vC) cs
  rf : Kd.R kQR 47 wr 0 (fun k => some k = (svl vF).ownBlock) (svl vF) fs
  oc : ∀ b, (svl vC).ownBlock = some b → W0.heap.size ≤ b
  of : ∀ b, (svl vF).ownBlock = some b → W0.heap.size ≤ b
  ch : Chg (fun b => b = b3) W0 wr
  lt : b3 < W0.heap.size
theorem LQ.ne {W0 wr : World} {b3 : Nat} {vC vF : SV} {cs : List QC} {fs : List QR} (h : LQ W0 wr b3 vC vF cs fs) (b : Nat) (hb : (svl vC).ownBlock = some b) (hf : (svl vF).ownBlock = some b) : False := by
  obtain ⟨c1, e1⟩ := Kd.R_typed h.rc b hb
  obtain ⟨c2, e2⟩ := Kd.R_typed h.rf b hf
  rw [e1] at e2
  injection e2 with e2
  injection e2 with _ e2
  exact absurd e2 (by decide)
theorem LQ.addC {W0 wr w1 : World} {b3 : Nat} {vC vF v' : SV} {cs cs' : List QC} {fs : List QR} (h : LQ W0 wr b3 vC vF cs fs) (hc : Chg (fun b => (svl vC).ownBlock = some b) wr w1) (hr : Kd.R kQC 39 w1 0 (New (fun b => (svl vC).ownBlock = some b) wr w1) (svl v') cs') :
    LQ W0 (w1.setCell ⟨b3, 0, none⟩ (svl v')) b3 v' vF cs' fs := by
  have hs : Chg (fun b => b = b3) w1 (w1.setCell ⟨b3, 0, none⟩ (svl v')) := (Chg.refl (fun b => b = b3) w1).setCell (p := ⟨b3, 0, none⟩) (fun _ => rfl) _
  have hlt := h.lt
  have z1 := h.ch.size
  have hb : w1.heap[b3]? = _ := hc.blk h.q (fun e => by have := h.oc b3 e; omega)
  have hnew : ∀ k, (svl v').ownBlock = some k → W0.heap.size ≤ k := fun k hk => by
    rcases hr.1 k hk with e | e
    · exact h.oc k e
    · omega
  refine ⟨?_, R_chg (Kd.R_tight rfl hr) hs (fun k _ hk e => ?_), R_chg (R_chg h.rf hc (fun k _ hk e => h.ne k e hk.symm)) hs (fun k _ hk e => ?_), hnew, h.of, (h.ch.trans hc (fun k hk e => ?_)).trans hs (fun k _ e => e), hlt⟩
  · have := blk_set hb 0 (svl v'); simpa using this
  · have := hnew k hk.symm; omega
  · have := h.of k hk.symm; omega
  · have := h.oc k e; omega
theorem LQ.addF {W0 wr w1 : World} {b3 : Nat} {vC vF v' : SV} {cs : List QC} {fs fs' : List QR} (h : LQ W0 wr b3 vC vF cs fs) (hc : Chg (fun b => (svl vF).ownBlock = some b) wr w1) (hr : Kd.R kQR 47 w1 0 (New (fun b => (svl vF).ownBlock = some b) wr w1) (svl v') fs') :
    LQ W0 (w1.setCell ⟨b3, 1, none⟩ (svl v')) b3 vC v' cs fs' := by
  have hs : Chg (fun b => b = b3) w1 (w1.setCell ⟨b3, 1, none⟩ (svl v')) := (Chg.refl (fun b => b = b3) w1).setCell (p := ⟨b3, 1, none⟩) (fun _ => rfl) _
  have hlt := h.lt
  have z1 := h.ch.size
  have hb : w1.heap[b3]? = _ := hc.blk h.q (fun e => by have := h.of b3 e; omega)
  have hnew : ∀ k, (svl v').ownBlock = some k → W0.heap.size ≤ k := fun k hk => by
    rcases hr.1 k hk with e | e
    · exact h.of k e
    · omega
  refine ⟨?_, R_chg (R_chg h.rc hc (fun k _ hk e => h.ne k hk.symm e)) hs (fun k _ hk e => ?_), R_chg (Kd.R_tight rfl hr) hs (fun k _ hk e => ?_), h.oc, hnew, (h.ch.trans hc (fun k hk e => ?_)).trans hs (fun k _ e => e), hlt⟩
  · have := blk_set hb 1 (svl v'); simpa using this
  · have := h.oc k hk.symm; omega
  · have := hnew k hk.symm; omega
  · have := h.of k e; omega
theorem LQ.chg {W0 wr w1 : World} {b3 : Nat} {vC vF : SV} {cs : List QC} {fs : List QR} (h : LQ W0 wr b3 vC vF cs fs) (hc : Chg (fun _ => False) wr w1) : LQ W0 w1 b3 vC vF cs fs :=
  ⟨hc.blk h.q (fun e => e), R_chg h.rc hc (fun _ _ _ e => e), R_chg h.rf hc (fun _ _ _ e => e), h.oc, h.of, h.ch.trans hc (fun _ _ e => e.elim), h.lt⟩
structure MarkOf (W0 wr : World) (m : QR) (f : QF) (k : Nat) : Prop where
  name : m.name = ⟨#[]⟩
  pars : m.pars = -7
  locs : m.locs = k
  code : Kd.R kQI 50 wr 0 (fun b => some b = (svl m.code).ownBlock) (svl m.code) (f.code ++ kQIMarks 64)
  hnd : Kd.R kQH 54 wr 0 (fun b => some b = (svl m.hnd).ownBlock) (svl m.hnd) (f.hnd ++ kQHMarks 64)
  oc : ∀ b, (svl m.code).ownBlock = some b → W0.heap.size ≤ b
  oh : ∀ b, (svl m.hnd).ownBlock = some b → W0.heap.size ≤ b
theorem MarkOf.chg {W0 wr w' : World} {m : QR} {f : QF} {k : Nat} {S : Nat → Prop} (h : MarkOf W0 wr m f k) (hc : Chg S wr w') (h1 : ∀ b, (svl m.code).ownBlock = some b → ¬ S b) (h2 : ∀ b, (svl m.hnd).ownBlock = some b → ¬ S b) : MarkOf W0 w' m f k :=
  ⟨h.name, h.pars, h.locs, R_chg h.code hc (fun b _ hb => h1 b hb.symm), R_chg h.hnd hc (fun b _ hb => h2 b hb.symm), h.oc, h.oh⟩
theorem MarkOf.addF {W0 wr w1 : World} {b3 : Nat} {vC vF v' : SV} {cs : List QC} {fs : List QR} {m : QR} {f : QF} {k : Nat} (g : MarkOf W0 wr m f k) (h : LQ W0 wr b3 vC vF cs fs) (hc : Chg (fun b => (svl vF).ownBlock = some b) wr w1) : MarkOf W0 (w1.setCell ⟨b3, 1, none⟩ (svl v')) m f k := by
  have t1 : ∀ b, (svl m.code).ownBlock = some b → ¬ (svl vF).ownBlock = some b := fun b hb hf => by
    obtain ⟨c1, e1⟩ := Kd.R_typed g.code b hb
    obtain ⟨c2, e2⟩ := Kd.R_typed h.rf b hf
    rw [e1] at e2
    injection e2 with e2
    injection e2 with _ e2
    exact absurd e2 (by decide)
  have t2 : ∀ b, (svl m.hnd).ownBlock = some b → ¬ (svl vF).ownBlock = some b := fun b hb hf => by
    obtain ⟨c1, e1⟩ := Kd.R_typed g.hnd b hb
    obtain ⟨c2, e2⟩ := Kd.R_typed h.rf b hf
    rw [e1] at e2
    injection e2 with e2
    injection e2 with _ e2
    exact absurd e2 (by decide)
  have hlt := h.lt
  exact (g.chg hc t1 t2).chg ((Chg.refl (fun b => b = b3) w1).setCell (p := ⟨b3, 1, none⟩) (fun _ => rfl) _) (fun b hb e => by have := g.oc b hb; omega) (fun b hb e => by have := g.oh b hb; omega)
def tailsQ (n k : Nat) : List QR := (List.range k).map (fun i : Nat => (⟨⟨#[]⟩, -7, (n : Int) + (i : Int), (none, 0, 0), (none, 0, 0)⟩ : QR))
theorem tailsQ_length (n k : Nat) : (tailsQ n k).length = k := by simp [tailsQ]
def fixQ (r m : QR) (f : QF) : QR := ⟨r.name, r.pars, r.locs, (m.code.1, f.code.length, m.code.2.2), (m.hnd.1, f.hnd.length, m.hnd.2.2)⟩
structure FixTo (p : QP) (rs ms : List QR) (k : Nat) (fs : List QR) : Prop where
  len : fs.length = 2 * p.funcs.length + 64
  done : ∀ j, j < k → ∀ r m f, rs[j]? = some r → ms[j]? = some m → p.funcs[j]? = some f → fs[j]? = some (fixQ r m f)
  todo : ∀ j, k ≤ j → j < p.funcs.length → fs[j]? = rs[j]?
  rest : ∀ j, fs[p.funcs.length + j]? = (ms ++ tailsQ p.funcs.length 64)[j]?
theorem FixTo.zero {p : QP} {rs ms : List QR} (h1 : rs.length = p.funcs.length) (h2 : ms.length = p.funcs.length) : FixTo p rs ms 0 (rs ++ ms ++ tailsQ p.funcs.length 64) :=
  ⟨by rw [List.length_append, List.length_append, tailsQ_length]; omega, fun j h => by omega, fun j _ hj => by rw [List.append_assoc, List.getElem?_append_left (by omega)], fun j => by rw [List.append_assoc, List.getElem?_append_right (by omega)]; congr 1; omega⟩
theorem FixTo.step {p : QP} {rs ms fs : List QR} {k : Nat} {r m : QR} {f : QF} (h : FixTo p rs ms k fs) (hr : rs[k]? = some r) (hm : ms[k]? = some m) (hf : p.funcs[k]? = some f) : FixTo p rs ms (k + 1) (fs.set k (fixQ r m f)) := by
  have hk : k < p.funcs.length := (List.getElem?_eq_some_iff.1 hf).1
  refine ⟨by rw [List.length_set]; exact h.len, fun j hj r' m' f' e1 e2 e3 => ?_, fun j h1 h2 => ?_, fun j => ?_⟩
  · by_cases hjk : j = k
    · subst hjk
      rw [hr] at e1; rw [hm] at e2; rw [hf] at e3
      injection e1 with e1; injection e2 with e2; injection e3 with e3
      subst e1 e2 e3
      rw [List.getElem?_set, if_pos rfl, if_pos (by rw [h.len]; omega)]
    · rw [List.getElem?_set_ne (Ne.symm hjk)]
      exact h.done j (by omega) r' m' f' e1 e2 e3
  · rw [List.getElem?_set_ne (by omega)]
    exact h.todo j (by omega) h2
  · rw [List.getElem?_set_ne (by omega)]
    exact h.rest j
theorem set_mid {α : Type} {l : List α} {a j : Nat} {u : α} (h : a + 5 ≤ l.length) (hj : j < 5) : l.set (a + j) u = l.take a ++ ((l.drop a).take 5).set j u ++ l.drop (a + 5) := by
  conv => lhs; rw [← List.take_append_drop a l, List.set_append_right _ _ (by rw [List.length_take]; omega), List.length_take, ← List.take_append_drop 5 (l.drop a)]
  rw [show a + j - min a l.length = j by omega, List.set_append_left _ _ (by rw [List.length_take, List.length_drop]; omega), List.drop_drop, List.append_assoc]
theorem R_putQ {W : World} {g n c i j : Nat} {xs : List QR} {r r' : QR} {u : Value} (h : Kd.R kQR 47 W 0 (fun k => some k = (svl (some ⟨g, 0, none⟩, n, c)).ownBlock) (svl (some ⟨g, 0, none⟩, n, c)) xs) (hi : i < n) (hx : xs[i]? = some r) (hr : qrCells r' = (qrCells r).set j u) (hj : j < 5) :
    Kd.R kQR 47 (W.setCell ⟨g, i * 5 + j, none⟩ u) 0 (fun k => some k = (svl (some ⟨g, 0, none⟩, n, c)).ownBlock) (svl (some ⟨g, 0, none⟩, n, c)) (xs.set i r') := by
  obtain ⟨h0, inner, ho, hrp⟩ := h
  rcases ho.2 with ⟨h1, _⟩ | ⟨g', cap', cur, hv, _, hg, hnc, hcm, hcs, ht⟩
  · cases h1
  · unfold svl at hv
    injection hv with e1 e2 e3
    injection e1 with e1
    injection e1 with e1 _ _
    simp only at e2 e3
    subst e1 e3
    have hl : inner.length = n * 5 := by rw [ho.1, e2]; rfl
    have hb := blk_set hg (i * 5 + j) u
    have hseg : (inner.drop (i * 5)).take 5 = qrCells r := by
      have h5 := (kQR_K _ _ _).1 (kQR.K_of_M (hrp.2 i r hx))
      exact h5
    refine ⟨h0, inner.set (i * 5 + j) u, ⟨?_, ?_⟩, ?_⟩
    · rw [List.length_set, List.length_set]; exact ho.1
    · right
      refine ⟨g, c, _, by rw [List.length_set, ← e2]; rfl, Nat.zero_le _, hb, by rw [List.length_set, ← e2]; rw [e2]; exact hnc, hcm, by rw [Array.size_setIfInBounds]; exact hcs, ?_⟩
      rw [List.length_set]
      show List.take _ _ = _
      rw [Array.toList_setIfInBounds, List.take_set, ht]
    · rw [set_mid (by omega) hj, hseg, ← hr]
      exact Kd.reps_set hrp (i := i) (by omega) (x := r') (seg := qrCells r') (kQR_M _ _ _ _) rfl
theorem LQ.putF {W0 wr : World} {b3 gF N d i j : Nat} {vC : SV} {cs : List QC} {fs : List QR} {r r' : QR} {u : Value} (h : LQ W0 wr b3 vC (some ⟨gF, 0, none⟩, N, d) cs fs) (hi : i < N) (hx : fs[i]? = some r) (hr : qrCells r' = (qrCells r).set j u) (hj : j < 5) :
    LQ W0 (wr.setCell ⟨gF, i * 5 + j, none⟩ u) b3 vC (some ⟨gF, 0, none⟩, N, d) cs (fs.set i r') := by
  have hs : Chg (fun b => b = gF) wr (wr.setCell ⟨gF, i * 5 + j, none⟩ u) := (Chg.refl (fun b => b = gF) wr).setCell (p := ⟨gF, i * 5 + j, none⟩) (fun _ => rfl) _
  have hg := h.of gF rfl
  have hlt := h.lt
  exact ⟨hs.blk h.q (fun e => by omega), R_chg h.rc hs (fun k _ hk e => h.ne k hk.symm (by rw [e]; rfl)), R_putQ h.rf hi hx hr hj, h.oc, h.of, h.ch.trans hs (fun k hk e => by omega), hlt⟩
theorem MarkOf.putF {W0 wr : World} {b3 gF N d : Nat} {vC : SV} {cs : List QC} {fs : List QR} {m : QR} {f : QF} {k q : Nat} {u : Value} (g : MarkOf W0 wr m f k) (h : LQ W0 wr b3 vC (some ⟨gF, 0, none⟩, N, d) cs fs) : MarkOf W0 (wr.setCell ⟨gF, q, none⟩ u) m f k := by
  refine g.chg ((Chg.refl (fun b => b = gF) wr).setCell (p := ⟨gF, q, none⟩) (fun _ => rfl) _) (fun b hb e => ?_) (fun b hb e => ?_)
  · subst e
    obtain ⟨c1, e1⟩ := Kd.R_typed g.code b hb
    obtain ⟨c2, e2⟩ := Kd.R_typed h.rf b rfl
    rw [e1] at e2
    injection e2 with e2
    injection e2 with _ e2
    exact absurd e2 (by decide)
  · subst e
    obtain ⟨c1, e1⟩ := Kd.R_typed g.hnd b hb
    obtain ⟨c2, e2⟩ := Kd.R_typed h.rf b rfl
    rw [e1] at e2
    injection e2 with e2
    injection e2 with _ e2
    exact absurd e2 (by decide)
structure LPV (w : World) (gC gF : Nat) (p : QP) (fs : List QR) : Prop where
  cs : Kd.C kQC w (some ⟨gC, 0, none⟩) (p.consts.length + 64) (p.consts ++ kQCMarks 64)
  rows : Kd.C kQR w (some ⟨gF, 0, none⟩) (2 * p.funcs.length + 64) fs
  hd : ∀ (k : Nat) (f : QF), p.funcs[k]? = some f → ∃ r m : QR, fs[k]? = some r ∧ fs[p.funcs.length + k]? = some m ∧ r.name = f.name ∧ r.pars = f.pars ∧ r.locs = f.locs ∧ r.code = (m.code.1, f.code.length, m.code.2.2) ∧ r.hnd = (m.hnd.1, f.hnd.length, m.hnd.2.2) ∧
    m.name = ⟨#[]⟩ ∧ m.pars = -7 ∧ m.locs = k ∧ Kd.C kQI w m.code.1 m.code.2.1 (f.code ++ kQIMarks 64) ∧ Kd.C kQH w m.hnd.1 m.hnd.2.1 (f.hnd ++ kQHMarks 64)
  tl : ∀ i, i < 64 → fs[2 * p.funcs.length + i]? = some ⟨⟨#[]⟩, -7, (p.funcs.length : Int) + (i : Int), (none, 0, 0), (none, 0, 0)⟩
theorem LPV.below {w w' : World} {gC gF : Nat} {p : QP} {fs : List QR} (h : LPV w gC gF p fs) (hb : Below w.heap.size w w') : LPV w' gC gF p fs :=
  ⟨Kd.C_below h.cs hb, Kd.C_below h.rows hb, fun k f hf => by
    obtain ⟨r, m, a1, a2, a3, a4, a5, a6, a7, a8, a9, a10, a11, a12⟩ := h.hd k f hf
    exact ⟨r, m, a1, a2, a3, a4, a5, a6, a7, a8, a9, a10, Kd.C_below a11 hb, Kd.C_below a12 hb⟩, h.tl⟩
set_option maxHeartbeats 4000000
end Go.Proofs.YtgaackedappmgaaDoor.K
