import Derived.Test.YtgaackedappmgaaDoorQc
import Derived.Test.YtgaackedappmgaaDoorQx
import Derived.IntWalk
import Derived.BigQuiet
import Derived.Laws.Rows
import Derived.Laws.Tables
namespace Go.Proofs.YtgaackedappmgaaDoor.K
open Go.RowKit Go.Proofs.YtgaackedappmgaaDoorW.PrintWords Go.Proofs.YtgaackedappmgaaDoorW.PrintLast Go.Proofs.YtgaackedappmgaaDoorW.PrintMore
set_option linter.unusedVariables false
set_option linter.unusedSimpArgs false
set_option maxRecDepth 100000
theorem infoQC : (Tryd.prog.info? 39).map (fun i => (i.zero, i.size, i.bytes)) = some (some (.agg #[.int .i64 0, .int .i64 0, .string ⟨#[]⟩]), 3, 32) := by kernel_rfl
theorem infoQR : (Tryd.prog.info? 47).map (fun i => (i.zero, i.size, i.bytes)) = some (some (.agg #[.string ⟨#[]⟩, .int .i64 0, .int .i64 0, .slice none 0 0, .slice none 0 0]), 5, 80) := by kernel_rfl
theorem kQC_at {w : World} {A : Option Addr} {n : Nat} {l : List QC} (h : Kd.C kQC w A n l) (i : Nat) (h1 : i < n) : ∃ ad kd1 n1 t1, A = some ad ∧ l[i]? = some ⟨kd1, n1, t1⟩ ∧ w.cell? (ad.add (i * 3)) = some (.int .i64 kd1) ∧
    w.cell? ⟨(ad.add (i * 3)).block, (ad.add (i * 3)).off + 1, none⟩ = some (.int .i64 n1) ∧ w.cell? ⟨(ad.add (i * 3)).block, (ad.add (i * 3)).off + 2, none⟩ = some (.string t1) := by
  obtain ⟨e1, e2, e3⟩ := h
  obtain ⟨ad, ea, hc⟩ := e3 (by omega)
  have hi : i < l.length := by omega
  obtain ⟨cs, _, hk, hcell⟩ := hc i _ (List.getElem?_eq_getElem hi)
  rw [kQC_K] at hk
  subst hk
  have g1 := hcell 1 _ rfl
  have g2 := hcell 2 _ rfl
  have e5 : kQC.sz = 3 := rfl
  rw [e5] at g1 g2
  rw [← add_add] at g1 g2
  exact ⟨ad, l[i].kind, l[i].n, l[i].text, ea, List.getElem?_eq_getElem hi, hcell 0 _ rfl, g1, g2⟩
def kQCMarks (k : Nat) : List QC := (List.range k).map (fun i : Nat => (⟨-7, Int.ofNat i, ⟨#[]⟩⟩ : QC))
theorem kQCMarks_succ (k : Nat) : kQCMarks (k + 1) = kQCMarks k ++ [⟨-7, (k : Int), ⟨#[]⟩⟩] := by simp [kQCMarks, List.range_succ]
theorem kQCMarks_length (k : Nat) : (kQCMarks k).length = k := by simp [kQCMarks]
structure LQ (W0 wr : World) (b3 : Nat) (vC vF : SV) (cs : List QC) (fs : List QR) : Prop where
  q : wr.heap[b3]? = some (.cells #[svl vC, svl vF] 25 (0, 0))
  rc : Kd.R kQC 39 wr 0 (fun k => some k = (svl vC).ownBlock) (svl vC) cs
  rf : Kd.R kQR 47 wr 0 (fun k => some k = (svl vF).ownBlock) (svl vF) fs
  oc : ∀ b, (svl vC).ownBlock = some b → W0.heap.size ≤ b
  of : ∀ b, (svl vF).ownBlock = some b → W0.heap.size ≤ b
  ch : Chg (fun b => b = b3) W0 wr
  lt : b3 < W0.heap.size
theorem LQ.ne {W0 wr : World} {b3 : Nat} {vC vF : SV} {cs : List QC} {fs : List QR} (h : LQ W0 wr b3 vC vF cs fs) (b : Nat) (hb : (svl vC).ownBlock = some b) (hf : (svl vF).ownBlock = some b) : False := by
  obtain ⟨c1, e1⟩ := Kd.R_typed h.rc b hb
  obtain ⟨c2, e2⟩ := Kd.R_typed h.rf b hf
  rw [e1] at e2
  injection e2 with e2
  injection e2 with _ e2
  exact absurd e2 (by decide)
theorem LQ.addC {W0 wr w1 : World} {b3 : Nat} {vC vF v' : SV} {cs cs' : List QC} {fs : List QR} (h : LQ W0 wr b3 vC vF cs fs) (hc : Chg (fun b => (svl vC).ownBlock = some b) wr w1) (hr : Kd.R kQC 39 w1 0 (New (fun b => (svl vC).ownBlock = some b) wr w1) (svl v') cs') :
    LQ W0 (w1.setCell ⟨b3, 0, none⟩ (svl v')) b3 v' vF cs' fs := by
  have hs : Chg (fun b => b = b3) w1 (w1.setCell ⟨b3, 0, none⟩ (svl v')) := (Chg.refl (fun b => b = b3) w1).setCell (p := ⟨b3, 0, none⟩) (fun _ => rfl) _
  have hlt := h.lt
  have z1 := h.ch.size
  have hb : w1.heap[b3]? = _ := hc.blk h.q (fun e => by have := h.oc b3 e; omega)
  have hnew : ∀ k, (svl v').ownBlock = some k → W0.heap.size ≤ k := fun k hk => by
    rcases hr.1 k hk with e | e
    · exact h.oc k e
    · omega
  refine ⟨?_, R_chg (Kd.R_tight rfl hr) hs (fun k _ hk e => ?_), R_chg (R_chg h.rf hc (fun k _ hk e => h.ne k e hk.symm)) hs (fun k _ hk e => ?_), hnew, h.of, (h.ch.trans hc (fun k hk e => ?_)).trans hs (fun k _ e => e), hlt⟩
  · have := blk_set hb 0 (svl v'); simpa using this
  · have := hnew k hk.symm; omega
  · have := h.of k hk.symm; omega
  · have := h.oc k e; omega
theorem LQ.addF {W0 wr w1 : World} {b3 : Nat} {vC vF v' : SV} {cs : List QC} {fs fs' : List QR} (h : LQ W0 wr b3 vC vF cs fs) (hc : Chg (fun b => (svl vF).ownBlock = some b) wr w1) (hr : Kd.R kQR 47 w1 0 (New (fun b => (svl vF).ownBlock = some b) wr w1) (svl v') fs') :
    LQ W0 (w1.setCell ⟨b3, 1, none⟩ (svl v')) b3 vC v' cs fs' := by
  have hs : Chg (fun b => b = b3) w1 (w1.setCell ⟨b3, 1, none⟩ (svl v')) := (Chg.refl (fun b => b = b3) w1).setCell (p := ⟨b3, 1, none⟩) (fun _ => rfl) _
  have hlt := h.lt
  have z1 := h.ch.size
  have hb : w1.heap[b3]? = _ := hc.blk h.q (fun e => by have := h.of b3 e; omega)
  have hnew : ∀ k, (svl v').ownBlock = some k → W0.heap.size ≤ k := fun k hk => by
    rcases hr.1 k hk with e | e
    · exact h.of k e
    · omega
  refine ⟨?_, R_chg (R_chg h.rc hc (fun k _ hk e => h.ne k hk.symm e)) hs (fun k _ hk e => ?_), R_chg (Kd.R_tight rfl hr) hs (fun k _ hk e => ?_), h.oc, hnew, (h.ch.trans hc (fun k hk e => ?_)).trans hs (fun k _ e => e), hlt⟩
  · have := blk_set hb 1 (svl v'); simpa using this
  · have := h.oc k hk.symm; omega
  · have := hnew k hk.symm; omega
  · have := h.of k e; omega
theorem LQ.chg {W0 wr w1 : World} {b3 : Nat} {vC vF : SV} {cs : List QC} {fs : List QR} (h : LQ W0 wr b3 vC vF cs fs) (hc : Chg (fun _ => False) wr w1) : LQ W0 w1 b3 vC vF cs fs :=
  ⟨hc.blk h.q (fun e => e), R_chg h.rc hc (fun _ _ _ e => e), R_chg h.rf hc (fun _ _ _ e => e), h.oc, h.of, h.ch.trans hc (fun _ _ e => e.elim), h.lt⟩
structure MarkOf (W0 wr : World) (m : QR) (f : QF) (k : Nat) : Prop where
  name : m.name = ⟨#[]⟩
  pars : m.pars = -7
  locs : m.locs = k
  code : Kd.R kQI 50 wr 0 (fun b => some b = (svl m.code).ownBlock) (svl m.code) (f.code ++ kQIMarks 64)
  hnd : Kd.R kQH 54 wr 0 (fun b => some b = (svl m.hnd).ownBlock) (svl m.hnd) (f.hnd ++ kQHMarks 64)
  oc : ∀ b, (svl m.code).ownBlock = some b → W0.heap.size ≤ b
  oh : ∀ b, (svl m.hnd).ownBlock = some b → W0.heap.size ≤ b
theorem MarkOf.chg {W0 wr w' : World} {m : QR} {f : QF} {k : Nat} {S : Nat → Prop} (h : MarkOf W0 wr m f k) (hc : Chg S wr w') (h1 : ∀ b, (svl m.code).ownBlock = some b → ¬ S b) (h2 : ∀ b, (svl m.hnd).ownBlock = some b → ¬ S b) : MarkOf W0 w' m f k :=
  ⟨h.name, h.pars, h.locs, R_chg h.code hc (fun b _ hb => h1 b hb.symm), R_chg h.hnd hc (fun b _ hb => h2 b hb.symm), h.oc, h.oh⟩
theorem MarkOf.addF {W0 wr w1 : World} {b3 : Nat} {vC vF v' : SV} {cs : List QC} {fs : List QR} {m : QR} {f : QF} {k : Nat} (g : MarkOf W0 wr m f k) (h : LQ W0 wr b3 vC vF cs fs) (hc : Chg (fun b => (svl vF).ownBlock = some b) wr w1) : MarkOf W0 (w1.setCell ⟨b3, 1, none⟩ (svl v')) m f k := by
  have t1 : ∀ b, (svl m.code).ownBlock = some b → ¬ (svl vF).ownBlock = some b := fun b hb hf => by
    obtain ⟨c1, e1⟩ := Kd.R_typed g.code b hb
    obtain ⟨c2, e2⟩ := Kd.R_typed h.rf b hf
    rw [e1] at e2
    injection e2 with e2
    injection e2 with _ e2
    exact absurd e2 (by decide)
  have t2 : ∀ b, (svl m.hnd).ownBlock = some b → ¬ (svl vF).ownBlock = some b := fun b hb hf => by
    obtain ⟨c1, e1⟩ := Kd.R_typed g.hnd b hb
    obtain ⟨c2, e2⟩ := Kd.R_typed h.rf b hf
    rw [e1] at e2
    injection e2 with e2
    injection e2 with _ e2
    exact absurd e2 (by decide)
  have hlt := h.lt
  exact (g.chg hc t1 t2).chg ((Chg.refl (fun b => b = b3) w1).setCell (p := ⟨b3, 1, none⟩) (fun _ => rfl) _) (fun b hb e => by have := g.oc b hb; omega) (fun b hb e => by have := g.oh b hb; omega)
def tailsQ (n k : Nat) : List QR := (List.range k).map (fun i : Nat => (⟨⟨#[]⟩, -7, (n : Int) + (i : Int), (none, 0, 0), (none, 0, 0)⟩ : QR))
theorem tailsQ_succ (n k : Nat) : tailsQ n (k + 1) = tailsQ n k ++ [⟨⟨#[]⟩, -7, (n : Int) + (k : Int), (none, 0, 0), (none, 0, 0)⟩] := by simp [tailsQ, List.range_succ]
theorem tailsQ_length (n k : Nat) : (tailsQ n k).length = k := by simp [tailsQ]
def fixQ (r m : QR) (f : QF) : QR := ⟨r.name, r.pars, r.locs, (m.code.1, f.code.length, m.code.2.2), (m.hnd.1, f.hnd.length, m.hnd.2.2)⟩
structure FixTo (p : QP) (rs ms : List QR) (k : Nat) (fs : List QR) : Prop where
  len : fs.length = 2 * p.funcs.length + 64
  done : ∀ j, j < k → ∀ r m f, rs[j]? = some r → ms[j]? = some m → p.funcs[j]? = some f → fs[j]? = some (fixQ r m f)
  todo : ∀ j, k ≤ j → j < p.funcs.length → fs[j]? = rs[j]?
  rest : ∀ j, fs[p.funcs.length + j]? = (ms ++ tailsQ p.funcs.length 64)[j]?
theorem FixTo.zero {p : QP} {rs ms : List QR} (h1 : rs.length = p.funcs.length) (h2 : ms.length = p.funcs.length) : FixTo p rs ms 0 (rs ++ ms ++ tailsQ p.funcs.length 64) :=
  ⟨by rw [List.length_append, List.length_append, tailsQ_length]; omega, fun j h => by omega, fun j _ hj => by rw [List.append_assoc, List.getElem?_append_left (by omega)], fun j => by rw [List.append_assoc, List.getElem?_append_right (by omega)]; congr 1; omega⟩
theorem FixTo.step {p : QP} {rs ms fs : List QR} {k : Nat} {r m : QR} {f : QF} (h : FixTo p rs ms k fs) (hr : rs[k]? = some r) (hm : ms[k]? = some m) (hf : p.funcs[k]? = some f) : FixTo p rs ms (k + 1) (fs.set k (fixQ r m f)) := by
  have hk : k < p.funcs.length := (List.getElem?_eq_some_iff.1 hf).1
  refine ⟨by rw [List.length_set]; exact h.len, fun j hj r' m' f' e1 e2 e3 => ?_, fun j h1 h2 => ?_, fun j => ?_⟩
  · by_cases hjk : j = k
    · subst hjk
      rw [hr] at e1; rw [hm] at e2; rw [hf] at e3
      injection e1 with e1; injection e2 with e2; injection e3 with e3
      subst e1 e2 e3
      rw [List.getElem?_set, if_pos rfl, if_pos (by rw [h.len]; omega)]
    · rw [List.getElem?_set_ne (Ne.symm hjk)]
      exact h.done j (by omega) r' m' f' e1 e2 e3
  · rw [List.getElem?_set_ne (by omega)]
    exact h.todo j (by omega) h2
  · rw [List.getElem?_set_ne (by omega)]
    exact h.rest j
theorem set_mid {α : Type} {l : List α} {a j : Nat} {u : α} (h : a + 5 ≤ l.length) (hj : j < 5) : l.set (a + j) u = l.take a ++ ((l.drop a).take 5).set j u ++ l.drop (a + 5) := by
  conv => lhs; rw [← List.take_append_drop a l, List.set_append_right _ _ (by rw [List.length_take]; omega), List.length_take, ← List.take_append_drop 5 (l.drop a)]
  rw [show a + j - min a l.length = j by omega, List.set_append_left _ _ (by rw [List.length_take, List.length_drop]; omega), List.drop_drop, List.append_assoc]
theorem R_putQ {W : World} {g n c i j : Nat} {xs : List QR} {r r' : QR} {u : Value} (h : Kd.R kQR 47 W 0 (fun k => some k = (svl (some ⟨g, 0, none⟩, n, c)).ownBlock) (svl (some ⟨g, 0, none⟩, n, c)) xs) (hi : i < n) (hx : xs[i]? = some r) (hr : qrCells r' = (qrCells r).set j u) (hj : j < 5) :
    Kd.R kQR 47 (W.setCell ⟨g, i * 5 + j, none⟩ u) 0 (fun k => some k = (svl (some ⟨g, 0, none⟩, n, c)).ownBlock) (svl (some ⟨g, 0, none⟩, n, c)) (xs.set i r') := by
  obtain ⟨h0, inner, ho, hrp⟩ := h
  rcases ho.2 with ⟨h1, _⟩ | ⟨g', cap', cur, hv, _, hg, hnc, hcm, hcs, ht⟩
  · cases h1
  · unfold svl at hv
    injection hv with e1 e2 e3
    injection e1 with e1
    injection e1 with e1 _ _
    simp only at e2 e3
    subst e1 e3
    have hl : inner.length = n * 5 := by rw [ho.1, e2]; rfl
    have hb := blk_set hg (i * 5 + j) u
    have hseg : (inner.drop (i * 5)).take 5 = qrCells r := by
      have h5 := (kQR_K _ _ _).1 (kQR.K_of_M (hrp.2 i r hx))
      exact h5
    refine ⟨h0, inner.set (i * 5 + j) u, ⟨?_, ?_⟩, ?_⟩
    · rw [List.length_set, List.length_set]; exact ho.1
    · right
      refine ⟨g, c, _, by rw [List.length_set, ← e2]; rfl, Nat.zero_le _, hb, by rw [List.length_set, ← e2]; rw [e2]; exact hnc, hcm, by rw [Array.size_setIfInBounds]; exact hcs, ?_⟩
      rw [List.length_set]
      show List.take _ _ = _
      rw [Array.toList_setIfInBounds, List.take_set, ht]
    · rw [set_mid (by omega) hj, hseg, ← hr]
      exact Kd.reps_set hrp (i := i) (by omega) (x := r') (seg := qrCells r') (kQR_M _ _ _ _) rfl
theorem LQ.putF {W0 wr : World} {b3 gF N d i j : Nat} {vC : SV} {cs : List QC} {fs : List QR} {r r' : QR} {u : Value} (h : LQ W0 wr b3 vC (some ⟨gF, 0, none⟩, N, d) cs fs) (hi : i < N) (hx : fs[i]? = some r) (hr : qrCells r' = (qrCells r).set j u) (hj : j < 5) :
    LQ W0 (wr.setCell ⟨gF, i * 5 + j, none⟩ u) b3 vC (some ⟨gF, 0, none⟩, N, d) cs (fs.set i r') := by
  have hs : Chg (fun b => b = gF) wr (wr.setCell ⟨gF, i * 5 + j, none⟩ u) := (Chg.refl (fun b => b = gF) wr).setCell (p := ⟨gF, i * 5 + j, none⟩) (fun _ => rfl) _
  have hg := h.of gF rfl
  have hlt := h.lt
  exact ⟨hs.blk h.q (fun e => by omega), R_chg h.rc hs (fun k _ hk e => h.ne k hk.symm (by rw [e]; rfl)), R_putQ h.rf hi hx hr hj, h.oc, h.of, h.ch.trans hs (fun k hk e => by omega), hlt⟩
theorem MarkOf.putF {W0 wr : World} {b3 gF N d : Nat} {vC : SV} {cs : List QC} {fs : List QR} {m : QR} {f : QF} {k q : Nat} {u : Value} (g : MarkOf W0 wr m f k) (h : LQ W0 wr b3 vC (some ⟨gF, 0, none⟩, N, d) cs fs) : MarkOf W0 (wr.setCell ⟨gF, q, none⟩ u) m f k := by
  refine g.chg ((Chg.refl (fun b => b = gF) wr).setCell (p := ⟨gF, q, none⟩) (fun _ => rfl) _) (fun b hb e => ?_) (fun b hb e => ?_)
  · subst e
    obtain ⟨c1, e1⟩ := Kd.R_typed g.code b hb
    obtain ⟨c2, e2⟩ := Kd.R_typed h.rf b rfl
    rw [e1] at e2
    injection e2 with e2
    injection e2 with _ e2
    exact absurd e2 (by decide)
  · subst e
    obtain ⟨c1, e1⟩ := Kd.R_typed g.hnd b hb
    obtain ⟨c2, e2⟩ := Kd.R_typed h.rf b rfl
    rw [e1] at e2
    injection e2 with e2
    injection e2 with _ e2
    exact absurd e2 (by decide)
theorem raw_own {w : World} {e g N d : Nat} {ok : Nat → Prop} {rs : List QR} {r : QR} (h : Kd.R kQR e w 0 ok (svl (some ⟨g, 0, none⟩, N, d)) rs) (i : Nat) (hi : i < N) (hr : rs[i]? = some r) : w.cell? ⟨g, i * 5, none⟩ = some (.string r.name) ∧
    w.cell? ⟨g, i * 5 + 1, none⟩ = some (.int .i64 r.pars) ∧ w.cell? ⟨g, i * 5 + 2, none⟩ = some (.int .i64 r.locs) ∧ w.cell? ⟨g, i * 5 + 3, none⟩ = some (.slice r.code.1 r.code.2.1 r.code.2.2) ∧ w.cell? ⟨g, i * 5 + 4, none⟩ = some (.slice r.hnd.1 r.hnd.2.1 r.hnd.2.2) := by
  obtain ⟨h1, _, h3⟩ := Kd.R_reads' h
  rw [← h1] at h3
  obtain ⟨ad, q, e1, e2, g0, g1, g2, g3, g4⟩ := raw_at h3 i hi
  injection e1 with e1
  subst e1
  rw [hr] at e2
  injection e2 with e2
  subst e2
  rw [add_plain] at g0 g1 g2 g3 g4
  exact ⟨g0, g1, g2, g3, g4⟩
structure LPV (w : World) (gC gF : Nat) (p : QP) (fs : List QR) : Prop where
  cs : Kd.C kQC w (some ⟨gC, 0, none⟩) (p.consts.length + 64) (p.consts ++ kQCMarks 64)
  rows : Kd.C kQR w (some ⟨gF, 0, none⟩) (2 * p.funcs.length + 64) fs
  hd : ∀ (k : Nat) (f : QF), p.funcs[k]? = some f → ∃ r m : QR, fs[k]? = some r ∧ fs[p.funcs.length + k]? = some m ∧ r.name = f.name ∧ r.pars = f.pars ∧ r.locs = f.locs ∧ r.code = (m.code.1, f.code.length, m.code.2.2) ∧ r.hnd = (m.hnd.1, f.hnd.length, m.hnd.2.2) ∧
    m.name = ⟨#[]⟩ ∧ m.pars = -7 ∧ m.locs = k ∧ Kd.C kQI w m.code.1 m.code.2.1 (f.code ++ kQIMarks 64) ∧ Kd.C kQH w m.hnd.1 m.hnd.2.1 (f.hnd ++ kQHMarks 64)
  tl : ∀ i, i < 64 → fs[2 * p.funcs.length + i]? = some ⟨⟨#[]⟩, -7, (p.funcs.length : Int) + (i : Int), (none, 0, 0), (none, 0, 0)⟩
theorem LPV.below {w w' : World} {gC gF : Nat} {p : QP} {fs : List QR} (h : LPV w gC gF p fs) (hb : Below w.heap.size w w') : LPV w' gC gF p fs :=
  ⟨Kd.C_below h.cs hb, Kd.C_below h.rows hb, fun k f hf => by
    obtain ⟨r, m, a1, a2, a3, a4, a5, a6, a7, a8, a9, a10, a11, a12⟩ := h.hd k f hf
    exact ⟨r, m, a1, a2, a3, a4, a5, a6, a7, a8, a9, a10, Kd.C_below a11 hb, Kd.C_below a12 hb⟩, h.tl⟩
theorem lent_view {W0 wr wf : World} {b3 gC gF N M c d : Nat} {cs : List QC} {fs rs ms : List QR} {p : QP} {S : Nat → Prop} (hL : LQ W0 wr b3 (some ⟨gC, 0, none⟩, N, c) (some ⟨gF, 0, none⟩, M, d) cs fs) (hcs : p.consts ++ kQCMarks 64 = cs) (hF : FixTo p rs ms p.funcs.length fs)
    (hM : ∀ (j : Nat) (q : QR) (f : QF), ms[j]? = some q → p.funcs[j]? = some f → MarkOf W0 wr q f j) (hrl : rs.length = p.funcs.length) (hml : ms.length = p.funcs.length) (hr : ∀ (k : Nat) (r : QR) (f : QF), rs[k]? = some r → p.funcs[k]? = some f → r.name = f.name ∧ r.pars = f.pars ∧ r.locs = f.locs)
    (hc : Chg S wr wf) (hS : ∀ b, S b → b < W0.heap.size) : LPV wf gC gF p fs := by
  have hgC := hL.oc gC rfl
  have hgF := hL.of gF rfl
  have c1 := R_toC (R_chg hL.rc hc (fun k _ hk e => by have := hS k e; have := hL.oc k hk.symm; omega))
  have c2 := R_toC (R_chg hL.rf hc (fun k _ hk e => by have := hS k e; have := hL.of k hk.symm; omega))
  have l1 := c1.1
  have l2 := c2.1
  rw [← l1, ← hcs, List.length_append, kQCMarks_length] at c1
  rw [← l2, hF.len] at c2
  refine ⟨c1, c2, fun k f hf => ?_, fun i hi => ?_⟩
  · have hk : k < p.funcs.length := (List.getElem?_eq_some_iff.1 hf).1
    obtain ⟨r, hrk⟩ : ∃ r, rs[k]? = some r := ⟨_, List.getElem?_eq_getElem (by omega)⟩
    obtain ⟨m, hmk⟩ : ∃ m, ms[k]? = some m := ⟨_, List.getElem?_eq_getElem (by omega)⟩
    have g := (hM k m f hmk hf).chg hc (fun b hb e => by have := hS b e; have := (hM k m f hmk hf).oc b hb; omega) (fun b hb e => by have := hS b e; have := (hM k m f hmk hf).oh b hb; omega)
    obtain ⟨r1, r2, r3⟩ := hr k r f hrk hf
    exact ⟨fixQ r m f, m, hF.done k hk r m f hrk hmk hf, by rw [hF.rest k, List.getElem?_append_left (by omega)]; exact hmk, r1, r2, r3, rfl, rfl, g.name, g.pars, g.locs, R_toC g.code, R_toC g.hnd⟩
  · have := hF.rest (p.funcs.length + i)
    rw [show 2 * p.funcs.length + i = p.funcs.length + (p.funcs.length + i) by omega, this, List.getElem?_append_right (by omega), show p.funcs.length + i - ms.length = i by omega, tailsQ, List.getElem?_map, List.getElem?_range hi]
    rfl
structure LOwn (w : World) (lo gC gF c d : Nat) (p : QP) (fs : List QR) : Prop where
  rc : Kd.R kQC 39 w 0 (fun k => some k = (svl (some ⟨gC, 0, none⟩, p.consts.length + 64, c)).ownBlock) (svl (some ⟨gC, 0, none⟩, p.consts.length + 64, c)) (p.consts ++ kQCMarks 64)
  rf : Kd.R kQR 47 w 0 (fun k => some k = (svl (some ⟨gF, 0, none⟩, 2 * p.funcs.length + 64, d)).ownBlock) (svl (some ⟨gF, 0, none⟩, 2 * p.funcs.length + 64, d)) fs
  oc : lo ≤ gC
  of : lo ≤ gF
  sh : ∀ (k : Nat) (f : QF) (r : QR), p.funcs[k]? = some f → fs[k]? = some r → ∃ m : QR, r.code = (m.code.1, f.code.length, m.code.2.2) ∧ r.hnd = (m.hnd.1, f.hnd.length, m.hnd.2.2) ∧ Kd.R kQI 50 w 0 (fun b => some b = (svl m.code).ownBlock) (svl m.code) (f.code ++ kQIMarks 64) ∧
    Kd.R kQH 54 w 0 (fun b => some b = (svl m.hnd).ownBlock) (svl m.hnd) (f.hnd ++ kQHMarks 64) ∧ (∀ b, (svl m.code).ownBlock = some b → lo ≤ b) ∧ (∀ b, (svl m.hnd).ownBlock = some b → lo ≤ b)
theorem lent_own {W0 wr wf : World} {b3 gC gF N M c d lo : Nat} {cs : List QC} {fs rs ms : List QR} {p : QP} {S : Nat → Prop} (hL : LQ W0 wr b3 (some ⟨gC, 0, none⟩, N, c) (some ⟨gF, 0, none⟩, M, d) cs fs) (hcs : p.consts ++ kQCMarks 64 = cs) (hF : FixTo p rs ms p.funcs.length fs)
    (hM : ∀ (j : Nat) (q : QR) (f : QF), ms[j]? = some q → p.funcs[j]? = some f → MarkOf W0 wr q f j) (hrl : rs.length = p.funcs.length) (hml : ms.length = p.funcs.length)
    (hc : Chg S wr wf) (hS : ∀ b, S b → b < W0.heap.size) (hlo : lo ≤ W0.heap.size) : LOwn wf lo gC gF c d p fs := by
  have hgC := hL.oc gC rfl
  have hgF := hL.of gF rfl
  have c1 := R_chg hL.rc hc (fun k _ hk e => by have := hS k e; have := hL.oc k hk.symm; omega)
  have c2 := R_chg hL.rf hc (fun k _ hk e => by have := hS k e; have := hL.of k hk.symm; omega)
  have l1 : cs.length = N := (R_toC c1).1
  have l2 : fs.length = M := (R_toC c2).1
  rw [← l1, ← hcs, List.length_append, kQCMarks_length] at c1
  rw [← l2, hF.len] at c2
  refine ⟨c1, c2, by omega, by omega, fun k f r0 hf hr0 => ?_⟩
  have hk : k < p.funcs.length := (List.getElem?_eq_some_iff.1 hf).1
  obtain ⟨r, hrk⟩ : ∃ r, rs[k]? = some r := ⟨_, List.getElem?_eq_getElem (by omega)⟩
  obtain ⟨m, hmk⟩ : ∃ m, ms[k]? = some m := ⟨_, List.getElem?_eq_getElem (by omega)⟩
  have g := (hM k m f hmk hf).chg hc (fun b hb e => by have := hS b e; have := (hM k m f hmk hf).oc b hb; omega) (fun b hb e => by have := hS b e; have := (hM k m f hmk hf).oh b hb; omega)
  rw [hF.done k hk r m f hrk hmk hf] at hr0
  injection hr0 with hr0
  subst hr0
  exact ⟨m, rfl, rfl, g.code, g.hnd, fun b hb => by have := g.oc b hb; omega, fun b hb => by have := g.oh b hb; omega⟩
set_option maxHeartbeats 4000000
theorem kit_LentProgram (w : World) (cA fA : Option Addr) (cc fc : Nat) (p : QP) (rs : List QR) (hP : PV w cA fA p rs) (hn : p.consts.length ≤ 1048576) (hm : p.funcs.length ≤ 1048576) (hcode : ∀ f ∈ p.funcs, f.code.length ≤ 1048576 ∧ f.hnd.length ≤ 1048576) :
    Calls Tryd.prog 8 #[.agg #[.slice cA p.consts.length cc, .slice fA p.funcs.length fc]] w fun e w' => ∃ gC gF c d fs, e = .returned (.agg #[.slice (some ⟨gC, 0, none⟩) p.consts.length c, .slice (some ⟨gF, 0, none⟩) p.funcs.length d]) ∧ p.consts.length + 64 ≤ c ∧ 2 * p.funcs.length + 64 ≤ d ∧ LPV w' gC gF p fs ∧ Chg (fun _ => False) w w' ∧ LOwn w' w.heap.size gC gF c d p fs := by
  have hPA := Aside0.mk hP
  have hco := Aside0.mk hcode
  have hrl := hP.fs.1
  clear hP hcode
  go_enter Tryd.func8, Tryd.ntmps8
  go_wp2
  generalize hW : World.alloc (World.alloc (World.alloc w _) _) _ = W0
  have hc0 : Aside0 (Chg (fun _ => False) w W0) := ⟨by rw [← hW]; exact (((Chg.refl _ w).alloc _).alloc _).alloc _⟩
  have hb1 : Aside0 (W0.heap[w.heap.size]? = some (.cells #[.slice cA p.consts.length cc, .slice fA p.funcs.length fc] 25 (0, 0))) := ⟨by rw [← hW]; exact (((Chg.refl (fun _ => False) (w.alloc _)).alloc _).alloc _).blk (heap_alloc_new w _) (fun e => e)⟩
  have hb2 : Aside0 (W0.heap[w.heap.size + 1]? = some (.cells #[.slice none 0 0, .slice none 0 0] 25 (0, 0))) := ⟨by rw [← hW]; exact ((Chg.refl (fun _ => False) ((w.alloc _).alloc _)).alloc _).blk (heap_alloc2_new w _ _) (fun e => e)⟩
  have hb3 : W0.heap[w.heap.size + 1 + 1]? = some (.cells #[.slice none 0 0, .slice none 0 0] 25 (0, 0)) := by
    rw [← hW]
    exact heap_alloc3 w _ _ _
  obtain ⟨b3, hb3E⟩ : ∃ b3, b3 = w.heap.size + 1 + 1 := ⟨_, rfl⟩
  rw [← hb3E] at hb3 ⊢
  obtain ⟨b2, hb2E⟩ : ∃ b2, b2 = w.heap.size + 1 := ⟨_, rfl⟩
  rw [← hb2E] at hb2 ⊢
  have hbo : Aside0 (w.heap.size < b2 ∧ b2 < b3) := ⟨by omega⟩
  clear hb3E hb2E
  have hL0 : Aside0 (LQ W0 W0 b3 (none, 0, 0) (none, 0, 0) [] []) := ⟨⟨hb3, Kd.R_nil _ _ _ _ _, Kd.R_nil _ _ _ _ _, fun b h => by simp [svl, Value.ownBlock] at h, fun b h => by simp [svl, Value.ownBlock] at h, Chg.refl _ _, blk_lt hb3⟩⟩
  clear hW hb3
  go_loopw [5] (fun ix wr => ∃ (k n c : Nat) (A : Option Addr), ix = .int .i64 k ∧ k ≤ p.consts.length ∧ Aside0 (LQ W0 wr b3 (A, n, c) (none, 0, 0) (p.consts.take k) [])) (fun ix _ => p.consts.length - (intOf ix).toNat)
  case atStart => exact ⟨0, 0, 0, none, rfl, by omega, hL0⟩
  case round =>
    obtain ⟨k, n, c, A, rfl, hk, hL⟩ := hrel
    have hbp := hL.out.ch.blk hb1.out (by have := hbo.out; omega)
    obtain ⟨p0, p1⟩ : wr.cell? ⟨w.heap.size, 0, none⟩ = some (.slice cA p.consts.length cc) ∧ wr.cell? ⟨w.heap.size, 1, none⟩ = some (.slice fA p.funcs.length fc) := ⟨blk_cell hbp 0, blk_cell hbp 1⟩
    obtain ⟨y0, y1⟩ : wr.cell? ⟨b3, 0, none⟩ = some (.slice A n c) ∧ wr.cell? ⟨b3, 1, none⟩ = some (.slice none 0 0) := ⟨blk_cell hL.out.q 0, blk_cell hL.out.q 1⟩
    clear hbp
    by_cases hlt : k < p.consts.length
    · have hk0 : (0 : Int) ≤ k := by omega
      have hk1 : (k : Int) < p.consts.length := by omega
      have hCw : Aside0 (Chg (fun _ => False) w wr) := ⟨hc0.out.trans hL.out.ch (fun b hb e => by have := hbo.out; omega)⟩
      obtain ⟨ad, kd1, n1, t1, e1, e2, x0w, x1w, x2w⟩ := kQC_at hPA.out.cs k hlt
      subst e1
      have x0 := cell_keepQ hCw.out (fun h => h) x0w
      have x1 := cell_keepQ hCw.out (fun h => h) x1w
      have x2 := cell_keepQ hCw.out (fun h => h) x2w
      have ht : Aside0 (p.consts.take (k + 1) = p.consts.take k ++ [⟨kd1, n1, t1⟩]) := ⟨by rw [List.take_succ_eq_append_getElem hlt]; rw [List.getElem?_eq_getElem hlt] at e2; injection e2 with e2; rw [e2]⟩
      clear e2
      have hl : Aside0 (((p.consts.take k).length + 1) * 32 ≤ 140737488355328) := ⟨by rw [List.length_take]; omega⟩
      have hRd := own_new hL.out.rc
      have hCd : Aside0 (Chg (fun b => (svl (A, n, c)).ownBlock = some b) wr wr.drew) := ⟨(Chg.refl _ _).drew⟩
      have hno0 : Aside0 (¬ (svl (A, n, c)).ownBlock = some b3) := ⟨fun e => by have := hL.out.oc _ e; have := hL.out.lt; have := hbo.out; omega⟩
      have hno1 : Aside0 (¬ (svl (A, n, c)).ownBlock = some w.heap.size) := ⟨fun e => by have := hL.out.oc _ e; have := hL.out.lt; have := hbo.out; omega⟩
      have hno2 : Aside0 (¬ (svl (A, n, c)).ownBlock = some (ad.add (k * 3)).block) := ⟨fun e => by have h1 := World.block_lt_of_cell? w _ x0w; have h2 := hL.out.oc _ e; have h3 := hc0.out.size; omega⟩
      clear x0w x1w x2w
      go_wp2
      refine start_ (n := 11) (S := fun w' => w'.cell? ⟨b3, 0, none⟩ = some (.slice A n c) ∧ w'.cell? ⟨w.heap.size, 0, none⟩ = some (.slice (some ad) p.consts.length cc) ∧ w'.cell? (ad.add (k * 3)) = some (.int .i64 kd1) ∧ w'.cell? ⟨(ad.add (k * 3)).block, (ad.add (k * 3)).off + 1, none⟩ = some (.int .i64 n1) ∧ w'.cell? ⟨(ad.add (k * 3)).block, (ad.add (k * 3)).off + 2, none⟩ = some (.string t1)) (ds := [10]) #[false, false, false, false, false, false, false, false, false, false, false] (by kernel_rfl) rfl rfl ⟨y0, p0, x0, x1, x2⟩ (fun hHeld => ?_)
      refine pure_ (i := 0) (N := some 21) (v := ?_) (a' := ?_) #[true, false, false, false, false, false, false, false, false, false, false] rfl rfl (by kernel_rfl) (fun _ _ _ h => h) (Or.inl ⟨by rfl, ?_⟩) ?_ ?_
      rotate_left
      · intro w'
        go_simp
        with_reducible rfl
      rotate_left
      · simp only [Act.put, List.setIfInBounds_toArray, List.set_cons_zero, List.set_cons_succ, i64_w, i32_w]
        rfl
      refine pure_ (i := 2) (N := some 23) (v := ?_) (a' := ?_) #[true, false, true, false, false, false, false, false, false, false, false] rfl rfl (by kernel_rfl) (fun _ _ _ h => h) (Or.inl ⟨by rfl, ?_⟩) ?_ ?_
      rotate_left
      · intro w'
        go_simp
        with_reducible rfl
      rotate_left
      · simp only [Act.put, List.setIfInBounds_toArray, List.set_cons_zero, List.set_cons_succ, i64_w, i32_w]
        rfl
      refine pure_ (i := 4) (N := some 25) (v := ?_) (a' := ?_) #[true, false, true, false, true, false, false, false, false, false, false] rfl rfl (by kernel_rfl) (fun _ _ _ h => h) (Or.inl ⟨by rfl, ?_⟩) ?_ ?_
      rotate_left
      · intro w'
        go_simp
        with_reducible rfl
      rotate_left
      · simp only [Act.put, List.setIfInBounds_toArray, List.set_cons_zero, List.set_cons_succ, i64_w, i32_w]
        rfl
      refine take_ (i := 1) (N := some 22) (v := ?_) (a' := ?_) #[true, true, true, false, true, false, false, false, false, false, false] rfl rfl (by kernel_rfl) (fun _ _ _ h => h) (Or.inl ⟨by rfl, ?_⟩) hHeld ?_ ?_
      rotate_left
      · rintro w' ⟨s0, s1, s2, s3, s4⟩
        go_simp
        with_reducible rfl
      rotate_left
      · simp only [Act.put, List.setIfInBounds_toArray, List.set_cons_zero, List.set_cons_succ, i64_w, i32_w]
        rfl
      refine take_ (i := 3) (N := some 24) (v := ?_) (a' := ?_) #[true, true, true, true, true, false, false, false, false, false, false] rfl rfl (by kernel_rfl) (fun _ _ _ h => h) (Or.inl ⟨by rfl, ?_⟩) hHeld ?_ ?_
      rotate_left
      · rintro w' ⟨s0, s1, s2, s3, s4⟩
        go_simp
        with_reducible rfl
      rotate_left
      · simp only [Act.put, List.setIfInBounds_toArray, List.set_cons_zero, List.set_cons_succ, i64_w, i32_w]
        rfl
      refine pure_ (i := 5) (N := some 26) (v := ?_) (a' := ?_) #[true, true, true, true, true, true, false, false, false, false, false] rfl rfl (by kernel_rfl) (fun _ _ _ h => h) (Or.inl ⟨by rfl, ?_⟩) ?_ ?_
      rotate_left
      · intro w'
        go_simp
        with_reducible rfl
      rotate_left
      · simp only [Act.put, List.setIfInBounds_toArray, List.set_cons_zero, List.set_cons_succ, i64_w, i32_w]
        rfl
      refine take_ (i := 6) (N := some 27) (v := ?_) (a' := ?_) #[true, true, true, true, true, true, true, false, false, false, false] rfl rfl (by kernel_rfl) (fun _ _ _ h => h) (Or.inl ⟨by rfl, ?_⟩) hHeld ?_ ?_
      rotate_left
      · rintro w' ⟨s0, s1, s2, s3, s4⟩
        go_simp
        with_reducible rfl
      rotate_left
      · simp only [Act.put, List.setIfInBounds_toArray, List.set_cons_zero, List.set_cons_succ, i64_w, i32_w]
        rfl
      refine one_ (i := 7) (N := some 28) #[true, true, true, true, true, true, true, true, false, false, false] rfl rfl (by kernel_rfl) (by decide) (fun K hK => ?_)
      refine value_ (w1 := ?_) (v := ?_) (by rfl) rfl ?_ ?_
      rotate_left 2
      · go_simp
        constructor
        · rfl
        · rfl
      refine hK.out _ _ ⟨(cellQ hHeld.1 _), (cellQ hHeld.2.1 _), (cellQ hHeld.2.2.1 _), (cellQ hHeld.2.2.2.1 _), (cellQ hHeld.2.2.2.2 _)⟩ (fun hHeld => ?_)
      clear hK K
      refine norm_ (a' := ?_) ?_ ?_
      rotate_left
      · show Act.put _ (some 28) _ = _
        simp only [Act.put, List.setIfInBounds_toArray, List.set_cons_zero, List.set_cons_succ, i64_w, i32_w]
        rfl
      refine one_ (i := 8) (N := some 29) #[true, true, true, true, true, true, true, true, true, false, false] rfl rfl (by kernel_rfl) (by decide) (fun K hK => ?_)
      refine app1T kQC (by rfl) (.tmp 22) (.tmp 28) (by rfl) Tryd.underlying22 infoQC rfl (by decide) (by decide) ⟨kd1, n1, t1⟩ (by rfl) (by rfl) (kQC_M _ _ _ _) hRd hCd hl ?_
      intro v1 w1 hr2 hc2
      obtain ⟨A2, n2, c2, rfl⟩ := R_sl hr2.out
      have fz := blk_frozen (hc2.out.blk hL.out.q hno0.out) 0
      refine hK.out _ _ ⟨(cell_keepQ hc2.out hno0.out y0), (cell_keepQ hc2.out hno1.out p0), (cell_keepQ hc2.out hno2.out x0), (cell_keepQ hc2.out hno2.out x1), (cell_keepQ hc2.out hno2.out x2)⟩ (fun hHeld => ?_)
      clear hK K
      refine norm_ (a' := ?_) ?_ ?_
      rotate_left
      · show Act.put _ (some 29) _ = _
        simp only [Act.put, List.setIfInBounds_toArray, List.set_cons_zero, List.set_cons_succ, i64_w, i32_w]
        rfl
      refine pure_ (i := 9) (N := some 30) (v := ?_) (a' := ?_) #[true, true, true, true, true, true, true, true, true, true, false] rfl rfl (by kernel_rfl) (fun _ _ _ h => h) (Or.inl ⟨by rfl, ?_⟩) ?_ ?_
      rotate_left
      · intro w'
        go_simp
        with_reducible rfl
      rotate_left
      · simp only [Act.put, List.setIfInBounds_toArray, List.set_cons_zero, List.set_cons_succ, i64_w, i32_w]
        rfl
      refine last_ (i := 10) (N := none) #[true, true, true, true, true, true, true, true, true, true, true] rfl rfl (by kernel_rfl) (by decide) (fun K hK => ?_)
      refine skip_ (w1 := ?_) (by rfl) rfl ?_ ?_
      rotate_left
      · go_simp
        rfl
      refine hK.out _ _ ?_
      clear hK K
      refine done_ (by kernel_rfl) ?_
      go_wp2
      go_roundw
      case measure => first | (simp [intOf]; done) | (simp [intOf]; omega)
      case rel => exact ⟨k + 1, n2, c2, A2, by go_num, by omega, ⟨by rw [ht.out]; exact hL.out.addC (v' := (A2, n2, c2)) hc2.out hr2.out⟩⟩
    · obtain rfl : k = p.consts.length := by omega
      have hLb := hL.out
      rw [List.take_length] at hLb
      replace hLb := Aside0.mk hLb
      clear hL
      go_wp2
      clear y0 y1 p0 p1
      go_loopw [6] (fun ix wr => ∃ (k n c : Nat) (A : Option Addr), ix = .int .i64 k ∧ k ≤ 64 ∧ Aside0 (LQ W0 wr b3 (A, n, c) (none, 0, 0) (p.consts ++ kQCMarks k) [])) (fun ix _ => 64 - (intOf ix).toNat)
      case atStart => exact ⟨0, n, c, A, rfl, by omega, ⟨by simpa [kQCMarks] using hLb.out⟩⟩
      case round =>
        obtain ⟨k, n, c, A, rfl, hk, hL⟩ := hrel
        obtain ⟨y0, y1⟩ : wr.cell? ⟨b3, 0, none⟩ = some (.slice A n c) ∧ wr.cell? ⟨b3, 1, none⟩ = some (.slice none 0 0) := ⟨blk_cell hL.out.q 0, blk_cell hL.out.q 1⟩
        by_cases hlt : k < 64
        · have hl : Aside0 (((p.consts ++ kQCMarks k).length + 1) * 32 ≤ 140737488355328) := ⟨by rw [List.length_append, kQCMarks_length]; omega⟩
          have hRd := own_new0 hL.out.rc
          have hCd : Aside0 (Chg (fun b => (svl (A, n, c)).ownBlock = some b) wr wr) := ⟨Chg.refl _ _⟩
          have hno0 : Aside0 (¬ (svl (A, n, c)).ownBlock = some b3) := ⟨fun e => by have := hL.out.oc _ e; have := hL.out.lt; omega⟩
          go_wp2_with (at_builtin; go_must (refine app1 kQC rfl (.tmp 36) (.tmp 39) rfl Tryd.underlying22 infoQC rfl (by decide) (by decide) ⟨-7, k, ⟨#[]⟩⟩ rfl rfl (kQC_M _ _ _ _) hRd hCd hl ?_); go_must (intro v1 w1 hr2 hc2); go_must (obtain ⟨A2, n2, c2, rfl⟩ := R_sl hr2.out); go_must (have hbq := hc2.out.blk hL.out.q hno0.out); go_must (have y0' : w1.cell? ⟨b3, 0, none⟩ = some (.slice A n c) := blk_cell hbq 0); go_must (have fz := blk_frozen hbq 0); go_must (clear hbq))
          go_roundw
          case measure => first | (simp [intOf]; done) | (simp [intOf]; omega)
          case rel => exact ⟨k + 1, n2, c2, A2, by go_num, by omega, ⟨by rw [kQCMarks_succ, ← List.append_assoc]; exact hL.out.addC (v' := (A2, n2, c2)) hc2.out hr2.out⟩⟩
        · have hk64 : k = 64 := by omega
          have hL2 : Aside0 (LQ W0 wr b3 (A, n, c) (none, 0, 0) (p.consts ++ kQCMarks 64) []) := ⟨by rw [← hk64]; exact hL.out⟩
          have hk65 : ¬ (k : Int) < 64 := by omega
          clear hL hLb hk64
          generalize hcs : p.consts ++ kQCMarks 64 = cs at hL2
          replace hcs := Aside0.mk hcs
          go_wp2
          go_loopw [7] (fun ix wr => ∃ (k m d : Nat) (B : Option Addr), ix = .int .i64 k ∧ k ≤ p.funcs.length ∧ Aside0 (LQ W0 wr b3 (A, n, c) (B, m, d) cs (rs.take k))) (fun ix _ => p.funcs.length - (intOf ix).toNat)
          case atStart => exact ⟨0, 0, 0, none, rfl, by omega, hL2⟩
          case round =>
            obtain ⟨k, m, d, B, rfl, hk, hL⟩ := hrel
            have hbp := hL.out.ch.blk hb1.out (by have := hbo.out; omega)
            obtain ⟨p0, p1⟩ : wr.cell? ⟨w.heap.size, 0, none⟩ = some (.slice cA p.consts.length cc) ∧ wr.cell? ⟨w.heap.size, 1, none⟩ = some (.slice fA p.funcs.length fc) := ⟨blk_cell hbp 0, blk_cell hbp 1⟩
            obtain ⟨y0, y1⟩ : wr.cell? ⟨b3, 0, none⟩ = some (.slice A n c) ∧ wr.cell? ⟨b3, 1, none⟩ = some (.slice B m d) := ⟨blk_cell hL.out.q 0, blk_cell hL.out.q 1⟩
            have fz1 := blk_frozen hL.out.q 1
            have fz0 := blk_frozen hL.out.q 0
            clear hbp
            by_cases hlt : k < p.funcs.length
            · have hk0 : (0 : Int) ≤ k := by omega
              have hk1 : (k : Int) < p.funcs.length := by omega
              have hCw : Aside0 (Chg (fun _ => False) w wr) := ⟨hc0.out.trans hL.out.ch (fun b hb e => by have := hbo.out; omega)⟩
              obtain ⟨ad, r, e1, e2, x0w, x1w, x2w, x3w, x4w⟩ := raw_at hPA.out.fs k hlt
              subst e1
              have x0 := cell_keepQ hCw.out (fun h => h) x0w
              have x1 := cell_keepQ hCw.out (fun h => h) x1w
              have x2 := cell_keepQ hCw.out (fun h => h) x2w
              have x3 := cell_keepQ hCw.out (fun h => h) x3w
              have x4 := cell_keepQ hCw.out (fun h => h) x4w
              have ht : Aside0 (rs.take (k + 1) = rs.take k ++ [r]) := ⟨by rw [List.take_succ_eq_append_getElem (by omega)]; rw [List.getElem?_eq_getElem (by omega)] at e2; injection e2 with e2; rw [e2]⟩
              clear e2
              have hl : Aside0 (((rs.take k).length + 1) * 80 ≤ 140737488355328) := ⟨by rw [List.length_take]; omega⟩
              have hRd := own_new hL.out.rf
              have hCd : Aside0 (Chg (fun b => (svl (B, m, d)).ownBlock = some b) wr wr.drew) := ⟨(Chg.refl _ _).drew⟩
              have hno0 : Aside0 (¬ (svl (B, m, d)).ownBlock = some b3) := ⟨fun e => by have := hL.out.of _ e; have := hL.out.lt; omega⟩
              have hno1 : Aside0 (¬ (svl (B, m, d)).ownBlock = some w.heap.size) := ⟨fun e => by have := hL.out.of _ e; have := hL.out.lt; have := hbo.out; omega⟩
              have hno2 : Aside0 (¬ (svl (B, m, d)).ownBlock = some (ad.add (k * 5)).block) := ⟨fun e => by have h1 := World.block_lt_of_cell? w _ x0w; have h2 := hL.out.of _ e; have h3 := hc0.out.size; omega⟩
              clear x0w x1w x2w x3w x4w
              go_wp2
              refine start_ (n := 11) (S := fun w' => w'.cell? ⟨b3, 1, none⟩ = some (.slice B m d) ∧ w'.cell? ⟨w.heap.size, 1, none⟩ = some (.slice (some ad) p.funcs.length fc) ∧ w'.cell? (ad.add (k * 5)) = some (.string r.name) ∧ w'.cell? ⟨(ad.add (k * 5)).block, (ad.add (k * 5)).off + 1, none⟩ = some (.int .i64 r.pars) ∧ w'.cell? ⟨(ad.add (k * 5)).block, (ad.add (k * 5)).off + 2, none⟩ = some (.int .i64 r.locs) ∧ w'.cell? ⟨(ad.add (k * 5)).block, (ad.add (k * 5)).off + 3, none⟩ = some (.slice r.code.1 r.code.2.1 r.code.2.2) ∧ w'.cell? ⟨(ad.add (k * 5)).block, (ad.add (k * 5)).off + 4, none⟩ = some (.slice r.hnd.1 r.hnd.2.1 r.hnd.2.2)) (ds := [10]) #[false, false, false, false, false, false, false, false, false, false, false] (by kernel_rfl) rfl rfl ⟨y1, p1, x0, x1, x2, x3, x4⟩ (fun hHeld => ?_)
              refine pure_ (i := 0) (N := some 47) (v := ?_) (a' := ?_) #[true, false, false, false, false, false, false, false, false, false, false] rfl rfl (by kernel_rfl) (fun _ _ _ h => h) (Or.inl ⟨by rfl, ?_⟩) ?_ ?_
              rotate_left
              · intro w'
                go_simp
                with_reducible rfl
              rotate_left
              · simp only [Act.put, List.setIfInBounds_toArray, List.set_cons_zero, List.set_cons_succ, i64_w, i32_w]
                rfl
              refine pure_ (i := 2) (N := some 49) (v := ?_) (a' := ?_) #[true, false, true, false, false, false, false, false, false, false, false] rfl rfl (by kernel_rfl) (fun _ _ _ h => h) (Or.inl ⟨by rfl, ?_⟩) ?_ ?_
              rotate_left
              · intro w'
                go_simp
                with_reducible rfl
              rotate_left
              · simp only [Act.put, List.setIfInBounds_toArray, List.set_cons_zero, List.set_cons_succ, i64_w, i32_w]
                rfl
              refine pure_ (i := 4) (N := some 51) (v := ?_) (a' := ?_) #[true, false, true, false, true, false, false, false, false, false, false] rfl rfl (by kernel_rfl) (fun _ _ _ h => h) (Or.inl ⟨by rfl, ?_⟩) ?_ ?_
              rotate_left
              · intro w'
                go_simp
                with_reducible rfl
              rotate_left
              · simp only [Act.put, List.setIfInBounds_toArray, List.set_cons_zero, List.set_cons_succ, i64_w, i32_w]
                rfl
              refine take_ (i := 1) (N := some 48) (v := ?_) (a' := ?_) #[true, true, true, false, true, false, false, false, false, false, false] rfl rfl (by kernel_rfl) (fun _ _ _ h => h) (Or.inl ⟨by rfl, ?_⟩) hHeld ?_ ?_
              rotate_left
              · rintro w' ⟨s0, s1, s2, s3, s4, s5, s6⟩
                go_simp
                with_reducible rfl
              rotate_left
              · simp only [Act.put, List.setIfInBounds_toArray, List.set_cons_zero, List.set_cons_succ, i64_w, i32_w]
                rfl
              refine take_ (i := 3) (N := some 50) (v := ?_) (a' := ?_) #[true, true, true, true, true, false, false, false, false, false, false] rfl rfl (by kernel_rfl) (fun _ _ _ h => h) (Or.inl ⟨by rfl, ?_⟩) hHeld ?_ ?_
              rotate_left
              · rintro w' ⟨s0, s1, s2, s3, s4, s5, s6⟩
                go_simp
                with_reducible rfl
              rotate_left
              · simp only [Act.put, List.setIfInBounds_toArray, List.set_cons_zero, List.set_cons_succ, i64_w, i32_w]
                rfl
              refine pure_ (i := 5) (N := some 52) (v := ?_) (a' := ?_) #[true, true, true, true, true, true, false, false, false, false, false] rfl rfl (by kernel_rfl) (fun _ _ _ h => h) (Or.inl ⟨by rfl, ?_⟩) ?_ ?_
              rotate_left
              · intro w'
                go_simp
                with_reducible rfl
              rotate_left
              · simp only [Act.put, List.setIfInBounds_toArray, List.set_cons_zero, List.set_cons_succ, i64_w, i32_w]
                rfl
              refine take_ (i := 6) (N := some 53) (v := ?_) (a' := ?_) #[true, true, true, true, true, true, true, false, false, false, false] rfl rfl (by kernel_rfl) (fun _ _ _ h => h) (Or.inl ⟨by rfl, ?_⟩) hHeld ?_ ?_
              rotate_left
              · rintro w' ⟨s0, s1, s2, s3, s4, s5, s6⟩
                go_simp
                with_reducible rfl
              rotate_left
              · simp only [Act.put, List.setIfInBounds_toArray, List.set_cons_zero, List.set_cons_succ, i64_w, i32_w]
                rfl
              refine one_ (i := 7) (N := some 54) #[true, true, true, true, true, true, true, true, false, false, false] rfl rfl (by kernel_rfl) (by decide) (fun K hK => ?_)
              refine value_ (w1 := ?_) (v := ?_) (by rfl) rfl ?_ ?_
              rotate_left 2
              · go_simp
                constructor
                · rfl
                · rfl
              refine hK.out _ _ ⟨(cellQ hHeld.1 _), (cellQ hHeld.2.1 _), (cellQ hHeld.2.2.1 _), (cellQ hHeld.2.2.2.1 _), (cellQ hHeld.2.2.2.2.1 _), (cellQ hHeld.2.2.2.2.2.1 _), (cellQ hHeld.2.2.2.2.2.2 _)⟩ (fun hHeld => ?_)
              clear hK K
              refine norm_ (a' := ?_) ?_ ?_
              rotate_left
              · show Act.put _ (some 54) _ = _
                simp only [Act.put, List.setIfInBounds_toArray, List.set_cons_zero, List.set_cons_succ, i64_w, i32_w]
                rfl
              refine one_ (i := 8) (N := some 55) #[true, true, true, true, true, true, true, true, true, false, false] rfl rfl (by kernel_rfl) (by decide) (fun K hK => ?_)
              refine app1T kQR (by rfl) (.tmp 48) (.tmp 54) (by rfl) Tryd.underlying23 infoQR rfl (by decide) (by decide) r (by rfl) (by rfl) (kQR_M _ _ _ _) hRd hCd hl ?_
              intro v1 w1 hr2 hc2
              obtain ⟨A2, n2, c2, rfl⟩ := R_sl hr2.out
              have fz := blk_frozen (hc2.out.blk hL.out.q hno0.out) 1
              refine hK.out _ _ ⟨(cell_keepQ hc2.out hno0.out y1), (cell_keepQ hc2.out hno1.out p1), (cell_keepQ hc2.out hno2.out x0), (cell_keepQ hc2.out hno2.out x1), (cell_keepQ hc2.out hno2.out x2), (cell_keepQ hc2.out hno2.out x3), (cell_keepQ hc2.out hno2.out x4)⟩ (fun hHeld => ?_)
              clear hK K
              refine norm_ (a' := ?_) ?_ ?_
              rotate_left
              · show Act.put _ (some 55) _ = _
                simp only [Act.put, List.setIfInBounds_toArray, List.set_cons_zero, List.set_cons_succ, i64_w, i32_w]
                rfl
              refine pure_ (i := 9) (N := some 56) (v := ?_) (a' := ?_) #[true, true, true, true, true, true, true, true, true, true, false] rfl rfl (by kernel_rfl) (fun _ _ _ h => h) (Or.inl ⟨by rfl, ?_⟩) ?_ ?_
              rotate_left
              · intro w'
                go_simp
                with_reducible rfl
              rotate_left
              · simp only [Act.put, List.setIfInBounds_toArray, List.set_cons_zero, List.set_cons_succ, i64_w, i32_w]
                rfl
              refine last_ (i := 10) (N := none) #[true, true, true, true, true, true, true, true, true, true, true] rfl rfl (by kernel_rfl) (by decide) (fun K hK => ?_)
              refine skip_ (w1 := ?_) (by rfl) rfl ?_ ?_
              rotate_left
              · go_simp
                rfl
              refine hK.out _ _ ?_
              clear hK K
              refine done_ (by kernel_rfl) ?_
              go_wp2
              go_roundw
              case measure => first | (simp [intOf]; done) | (simp [intOf]; omega)
              case rel => exact ⟨k + 1, n2, c2, A2, by go_num, by omega, ⟨by rw [ht.out]; exact hL.out.addF (v' := (A2, n2, c2)) hc2.out hr2.out⟩⟩
            · obtain rfl : k = p.funcs.length := by omega
              have hL3 := hL.out
              rw [List.take_of_length_le (by omega)] at hL3
              replace hL3 := Aside0.mk hL3
              clear hL
              go_wp2
              clear y0 y1 p0 p1 fz0 fz1
              go_loopw [8] (fun ix wr => ∃ (k m d : Nat) (B : Option Addr) (ms : List QR), ix = .int .i64 k ∧ k ≤ p.funcs.length ∧ ms.length = k ∧ Aside0 (LQ W0 wr b3 (A, n, c) (B, m, d) cs (rs ++ ms)) ∧ Aside0 (∀ (j : Nat) (q : QR) (f : QF), ms[j]? = some q → p.funcs[j]? = some f → MarkOf W0 wr q f j)) (fun ix _ => p.funcs.length - (intOf ix).toNat)
              case atStart => exact ⟨0, m, d, B, [], rfl, by omega, rfl, ⟨by simpa using hL3.out⟩, ⟨fun j q f h => by simp at h⟩⟩
              case round =>
                obtain ⟨k, m, d, B, ms, rfl, hk, hms, hL, hMk⟩ := hrel
                have hbp := hL.out.ch.blk hb1.out (by have := hbo.out; omega)
                obtain ⟨p0, p1⟩ : wr.cell? ⟨w.heap.size, 0, none⟩ = some (.slice cA p.consts.length cc) ∧ wr.cell? ⟨w.heap.size, 1, none⟩ = some (.slice fA p.funcs.length fc) := ⟨blk_cell hbp 0, blk_cell hbp 1⟩
                obtain ⟨y0, y1⟩ : wr.cell? ⟨b3, 0, none⟩ = some (.slice A n c) ∧ wr.cell? ⟨b3, 1, none⟩ = some (.slice B m d) := ⟨blk_cell hL.out.q 0, blk_cell hL.out.q 1⟩
                have fz1 := blk_frozen hL.out.q 1
                have fz0 := blk_frozen hL.out.q 0
                clear hbp
                by_cases hlt : k < p.funcs.length
                · have hk0 : (0 : Int) ≤ k := by omega
                  have hk1 : (k : Int) < p.funcs.length := by omega
                  have hCw : Aside0 (Chg (fun _ => False) w wr) := ⟨hc0.out.trans hL.out.ch (fun b hb e => by have := hbo.out; omega)⟩
                  obtain ⟨ad, r, e1, e2, x0w, x1w, x2w, x3w, x4w⟩ := raw_at hPA.out.fs k hlt
                  subst e1
                  have x3 := cell_keepQ hCw.out (fun h => h) x3w
                  have x4 := cell_keepQ hCw.out (fun h => h) x4w
                  obtain ⟨f, hf⟩ : ∃ f, p.funcs[k]? = some f := ⟨_, List.getElem?_eq_getElem hlt⟩
                  obtain ⟨_, _, _, hcd, hhd⟩ := hPA.out.raw k r f e2 hf
                  replace hcd := Aside0.mk hcd
                  replace hhd := Aside0.mk hhd
                  have hlen := Aside0.mk (hco.out f (List.mem_of_getElem? hf))
                  have hfA := Aside0.mk hf
                  clear e2 hf
                  have hl : Aside0 (((rs ++ ms).length + 1) * 80 ≤ 140737488355328) := ⟨by rw [List.length_append]; omega⟩
                  have hno0 : Aside0 (¬ (svl (B, m, d)).ownBlock = some b3) := ⟨fun e => by have := hL.out.of _ e; have := hL.out.lt; omega⟩
                  have hno1 : Aside0 (¬ (svl (B, m, d)).ownBlock = some w.heap.size) := ⟨fun e => by have := hL.out.of _ e; have := hL.out.lt; have := hbo.out; omega⟩
                  have hno2 : Aside0 (¬ (svl (B, m, d)).ownBlock = some (ad.add (k * 5)).block) := ⟨fun e => by have h1 := World.block_lt_of_cell? w _ x0w; have h2 := hL.out.of _ e; have h3 := hc0.out.size; omega⟩
                  clear x0w x1w x2w x3w x4w y0 p0 fz0 fz1
                  go_wp2
                  refine start_ (n := 22) (S := fun w' => w'.cell? ⟨b3, 1, none⟩ = some (.slice B m d) ∧ w'.cell? ⟨w.heap.size, 1, none⟩ = some (.slice (some ad) p.funcs.length fc) ∧ w'.cell? ⟨(ad.add (k * 5)).block, (ad.add (k * 5)).off + 3, none⟩ = some (.slice r.code.1 r.code.2.1 r.code.2.2) ∧ w'.cell? ⟨(ad.add (k * 5)).block, (ad.add (k * 5)).off + 4, none⟩ = some (.slice r.hnd.1 r.hnd.2.1 r.hnd.2.2)) (ds := [21]) #[false, false, false, false, false, false, false, false, false, false, false, false, false, false, false, false, false, false, false, false, false, false] (by kernel_rfl) rfl rfl ⟨y1, p1, x3, x4⟩ (fun hHeld => ?_)
                  refine pure_ (i := 0) (N := some 62) (v := ?_) (a' := ?_) #[true, false, false, false, false, false, false, false, false, false, false, false, false, false, false, false, false, false, false, false, false, false] rfl rfl (by kernel_rfl) (fun _ _ _ h => h) (Or.inl ⟨by rfl, ?_⟩) ?_ ?_
                  rotate_left
                  · intro w'
                    go_simp
                    with_reducible rfl
                  rotate_left
                  · simp only [Act.put, List.setIfInBounds_toArray, List.set_cons_zero, List.set_cons_succ, i64_w, i32_w]
                    rfl
                  refine pure_ (i := 2) (N := some 64) (v := ?_) (a' := ?_) #[true, false, true, false, false, false, false, false, false, false, false, false, false, false, false, false, false, false, false, false, false, false] rfl rfl (by kernel_rfl) (fun _ _ _ h => h) (Or.inl ⟨by rfl, ?_⟩) ?_ ?_
                  rotate_left
                  · intro w'
                    go_simp
                    with_reducible rfl
                  rotate_left
                  · simp only [Act.put, List.setIfInBounds_toArray, List.set_cons_zero, List.set_cons_succ, i64_w, i32_w]
                    rfl
                  refine pure_ (i := 3) (N := some 65) (v := ?_) (a' := ?_) #[true, false, true, true, false, false, false, false, false, false, false, false, false, false, false, false, false, false, false, false, false, false] rfl rfl (by kernel_rfl) (fun _ _ _ h => h) (Or.inl ⟨by rfl, ?_⟩) ?_ ?_
                  rotate_left
                  · intro w'
                    go_simp
                    with_reducible rfl
                  rotate_left
                  · simp only [Act.put, List.setIfInBounds_toArray, List.set_cons_zero, List.set_cons_succ, i64_w, i32_w]
                    rfl
                  refine pure_ (i := 5) (N := some 67) (v := ?_) (a' := ?_) #[true, false, true, true, false, true, false, false, false, false, false, false, false, false, false, false, false, false, false, false, false, false] rfl rfl (by kernel_rfl) (fun _ _ _ h => h) (Or.inl ⟨by rfl, ?_⟩) ?_ ?_
                  rotate_left
                  · intro w'
                    go_simp
                    with_reducible rfl
                  rotate_left
                  · simp only [Act.put, List.setIfInBounds_toArray, List.set_cons_zero, List.set_cons_succ, i64_w, i32_w]
                    rfl
                  refine pure_ (i := 10) (N := some 72) (v := ?_) (a' := ?_) #[true, false, true, true, false, true, false, false, false, false, true, false, false, false, false, false, false, false, false, false, false, false] rfl rfl (by kernel_rfl) (fun _ _ _ h => h) (Or.inl ⟨by rfl, ?_⟩) ?_ ?_
                  rotate_left
                  · intro w'
                    go_simp
                    with_reducible rfl
                  rotate_left
                  · simp only [Act.put, List.setIfInBounds_toArray, List.set_cons_zero, List.set_cons_succ, i64_w, i32_w]
                    rfl
                  refine pure_ (i := 12) (N := some 74) (v := ?_) (a' := ?_) #[true, false, true, true, false, true, false, false, false, false, true, false, true, false, false, false, false, false, false, false, false, false] rfl rfl (by kernel_rfl) (fun _ _ _ h => h) (Or.inl ⟨by rfl, ?_⟩) ?_ ?_
                  rotate_left
                  · intro w'
                    go_simp
                    with_reducible rfl
                  rotate_left
                  · simp only [Act.put, List.setIfInBounds_toArray, List.set_cons_zero, List.set_cons_succ, i64_w, i32_w]
                    rfl
                  refine take_ (i := 1) (N := some 63) (v := ?_) (a' := ?_) #[true, true, true, true, false, true, false, false, false, false, true, false, true, false, false, false, false, false, false, false, false, false] rfl rfl (by kernel_rfl) (fun _ _ _ h => h) (Or.inl ⟨by rfl, ?_⟩) hHeld ?_ ?_
                  rotate_left
                  · rintro w' ⟨s0, s1, s2, s3⟩
                    go_simp
                    with_reducible rfl
                  rotate_left
                  · simp only [Act.put, List.setIfInBounds_toArray, List.set_cons_zero, List.set_cons_succ, i64_w, i32_w]
                    rfl
                  refine take_ (i := 4) (N := some 66) (v := ?_) (a' := ?_) #[true, true, true, true, true, true, false, false, false, false, true, false, true, false, false, false, false, false, false, false, false, false] rfl rfl (by kernel_rfl) (fun _ _ _ h => h) (Or.inl ⟨by rfl, ?_⟩) hHeld ?_ ?_
                  rotate_left
                  · rintro w' ⟨s0, s1, s2, s3⟩
                    go_simp
                    with_reducible rfl
                  rotate_left
                  · simp only [Act.put, List.setIfInBounds_toArray, List.set_cons_zero, List.set_cons_succ, i64_w, i32_w]
                    rfl
                  refine pure_ (i := 6) (N := some 68) (v := ?_) (a' := ?_) #[true, true, true, true, true, true, true, false, false, false, true, false, true, false, false, false, false, false, false, false, false, false] rfl rfl (by kernel_rfl) (fun _ _ _ h => h) (Or.inl ⟨by rfl, ?_⟩) ?_ ?_
                  rotate_left
                  · intro w'
                    go_simp
                    with_reducible rfl
                  rotate_left
                  · simp only [Act.put, List.setIfInBounds_toArray, List.set_cons_zero, List.set_cons_succ, i64_w, i32_w]
                    rfl
                  refine pure_ (i := 7) (N := some 69) (v := ?_) (a' := ?_) #[true, true, true, true, true, true, true, true, false, false, true, false, true, false, false, false, false, false, false, false, false, false] rfl rfl (by kernel_rfl) (fun _ _ _ h => h) (Or.inl ⟨by rfl, ?_⟩) ?_ ?_
                  rotate_left
                  · intro w'
                    go_simp
                    with_reducible rfl
                  rotate_left
                  · simp only [Act.put, List.setIfInBounds_toArray, List.set_cons_zero, List.set_cons_succ, i64_w, i32_w]
                    rfl
                  refine take_ (i := 8) (N := some 70) (v := ?_) (a' := ?_) #[true, true, true, true, true, true, true, true, true, false, true, false, true, false, false, false, false, false, false, false, false, false] rfl rfl (by kernel_rfl) (fun _ _ _ h => h) (Or.inl ⟨by rfl, ?_⟩) hHeld ?_ ?_
                  rotate_left
                  · rintro w' ⟨s0, s1, s2, s3⟩
                    go_simp
                    with_reducible rfl
                  rotate_left
                  · simp only [Act.put, List.setIfInBounds_toArray, List.set_cons_zero, List.set_cons_succ, i64_w, i32_w]
                    rfl
                  refine take_ (i := 11) (N := some 73) (v := ?_) (a' := ?_) #[true, true, true, true, true, true, true, true, true, false, true, true, true, false, false, false, false, false, false, false, false, false] rfl rfl (by kernel_rfl) (fun _ _ _ h => h) (Or.inl ⟨by rfl, ?_⟩) hHeld ?_ ?_
                  rotate_left
                  · rintro w' ⟨s0, s1, s2, s3⟩
                    go_simp
                    with_reducible rfl
                  rotate_left
                  · simp only [Act.put, List.setIfInBounds_toArray, List.set_cons_zero, List.set_cons_succ, i64_w, i32_w]
                    rfl
                  refine pure_ (i := 13) (N := some 75) (v := ?_) (a' := ?_) #[true, true, true, true, true, true, true, true, true, false, true, true, true, true, false, false, false, false, false, false, false, false] rfl rfl (by kernel_rfl) (fun _ _ _ h => h) (Or.inl ⟨by rfl, ?_⟩) ?_ ?_
                  rotate_left
                  · intro w'
                    go_simp
                    with_reducible rfl
                  rotate_left
                  · simp only [Act.put, List.setIfInBounds_toArray, List.set_cons_zero, List.set_cons_succ, i64_w, i32_w]
                    rfl
                  refine pure_ (i := 14) (N := some 76) (v := ?_) (a' := ?_) #[true, true, true, true, true, true, true, true, true, false, true, true, true, true, true, false, false, false, false, false, false, false] rfl rfl (by kernel_rfl) (fun _ _ _ h => h) (Or.inl ⟨by rfl, ?_⟩) ?_ ?_
                  rotate_left
                  · intro w'
                    go_simp
                    with_reducible rfl
                  rotate_left
                  · simp only [Act.put, List.setIfInBounds_toArray, List.set_cons_zero, List.set_cons_succ, i64_w, i32_w]
                    rfl
                  refine take_ (i := 15) (N := some 77) (v := ?_) (a' := ?_) #[true, true, true, true, true, true, true, true, true, false, true, true, true, true, true, true, false, false, false, false, false, false] rfl rfl (by kernel_rfl) (fun _ _ _ h => h) (Or.inl ⟨by rfl, ?_⟩) hHeld ?_ ?_
                  rotate_left
                  · rintro w' ⟨s0, s1, s2, s3⟩
                    go_simp
                    with_reducible rfl
                  rotate_left
                  · simp only [Act.put, List.setIfInBounds_toArray, List.set_cons_zero, List.set_cons_succ, i64_w, i32_w]
                    rfl
                  refine one_ (i := 9) (N := some 71) #[true, true, true, true, true, true, true, true, true, true, true, true, true, true, true, true, false, false, false, false, false, false] rfl rfl (by kernel_rfl) (by decide) (fun K hK => ?_)
                  refine goes_ Tryd.func22 (by kernel_rfl) rfl #[.slice r.code.1 r.code.2.1 r.code.2.2] (by rfl) rfl rfl (by simp only [List.map_toArray, List.map_cons, List.map_nil]; rfl) ?_
                  with_reducible refine ((kit_fullInstrs wr.drew r.code.1 r.code.2.1 r.code.2.2 f.code (Kd.C_below hcd.out ((hCw.out.drew).below (fun _ _ h => h))) hlen.out.1)).mono ?_
                  rintro e w5 ⟨v5, rfl, hr5, hc5⟩
                  refine ⟨_, rfl, ?_⟩
                  obtain ⟨A5, n5, c5, rfl⟩ := R_sl hr5
                  refine hK.out _ _ ⟨(cell_keepQ hc5 (fun h => h) hHeld.1), (cell_keepQ hc5 (fun h => h) hHeld.2.1), (cell_keepQ hc5 (fun h => h) hHeld.2.2.1), (cell_keepQ hc5 (fun h => h) hHeld.2.2.2)⟩ (fun hHeld => ?_)
                  clear hK K
                  refine norm_ (a' := ?_) ?_ ?_
                  rotate_left
                  · show Act.put _ (some 71) _ = _
                    simp only [Act.put, List.setIfInBounds_toArray, List.set_cons_zero, List.set_cons_succ, i64_w, i32_w]
                    rfl
                  refine one_ (i := 16) (N := some 78) #[true, true, true, true, true, true, true, true, true, true, true, true, true, true, true, true, true, false, false, false, false, false] rfl rfl (by kernel_rfl) (by decide) (fun K hK => ?_)
                  refine goes_ Tryd.func23 (by kernel_rfl) rfl #[.slice r.hnd.1 r.hnd.2.1 r.hnd.2.2] (by rfl) rfl rfl (by simp only [List.map_toArray, List.map_cons, List.map_nil]; rfl) ?_
                  with_reducible refine ((kit_fullHandlers w5 r.hnd.1 r.hnd.2.1 r.hnd.2.2 f.hnd (Kd.C_below hhd.out (((hCw.out.drew).trans hc5 (fun _ _ h => h)).below (fun _ _ h => h))) hlen.out.2)).mono ?_
                  rintro e w6 ⟨v6, rfl, hr6, hc6⟩
                  refine ⟨_, rfl, ?_⟩
                  obtain ⟨A6, n6, c6, rfl⟩ := R_sl hr6
                  have hL6 : Aside0 (LQ W0 w6 b3 (A, n, c) (B, m, d) cs (rs ++ ms)) := ⟨hL.out.chg ((((Chg.refl (fun _ => False) wr).drew).trans hc5 (fun _ _ h => h)).trans hc6 (fun _ _ h => h))⟩
                  have hR6 := own_new0 hL6.out.rf
                  have hC6 : Aside0 (Chg (fun b => (svl (B, m, d)).ownBlock = some b) w6 w6) := ⟨Chg.refl _ _⟩
                  have z0 := cell_keepQ hc6 (fun h => h) hHeld.1
                  have z1 := cell_keepQ hc6 (fun h => h) hHeld.2.1
                  have z2 := cell_keepQ hc6 (fun h => h) hHeld.2.2.1
                  have z3 := cell_keepQ hc6 (fun h => h) hHeld.2.2.2
                  refine hK.out _ _ ⟨z0, z1, z2, z3⟩ (fun hHeld => ?_)
                  clear hK K
                  refine norm_ (a' := ?_) ?_ ?_
                  rotate_left
                  · show Act.put _ (some 78) _ = _
                    simp only [Act.put, List.setIfInBounds_toArray, List.set_cons_zero, List.set_cons_succ, i64_w, i32_w]
                    rfl
                  refine pure_ (i := 17) (N := some 79) (v := ?_) (a' := ?_) #[true, true, true, true, true, true, true, true, true, true, true, true, true, true, true, true, true, true, false, false, false, false] rfl rfl (by kernel_rfl) (fun _ _ _ h => h) (Or.inl ⟨by rfl, ?_⟩) ?_ ?_
                  rotate_left
                  · intro w'
                    go_simp
                    with_reducible rfl
                  rotate_left
                  · simp only [Act.put, List.setIfInBounds_toArray, List.set_cons_zero, List.set_cons_succ, i64_w, i32_w]
                    rfl
                  refine one_ (i := 18) (N := some 80) #[true, true, true, true, true, true, true, true, true, true, true, true, true, true, true, true, true, true, true, false, false, false] rfl rfl (by kernel_rfl) (by decide) (fun K hK => ?_)
                  refine value_ (w1 := ?_) (v := ?_) (by rfl) rfl ?_ ?_
                  rotate_left 2
                  · go_simp
                    constructor
                    · rfl
                    · rfl
                  refine hK.out _ _ ⟨(cellQ z0 _), (cellQ z1 _), (cellQ z2 _), (cellQ z3 _)⟩ (fun hHeld => ?_)
                  clear hK K
                  refine norm_ (a' := ?_) ?_ ?_
                  rotate_left
                  · show Act.put _ (some 80) _ = _
                    simp only [Act.put, List.setIfInBounds_toArray, List.set_cons_zero, List.set_cons_succ, i64_w, i32_w]
                    rfl
                  refine one_ (i := 19) (N := some 81) #[true, true, true, true, true, true, true, true, true, true, true, true, true, true, true, true, true, true, true, true, false, false] rfl rfl (by kernel_rfl) (by decide) (fun K hK => ?_)
                  refine app1T kQR (by rfl) (.tmp 63) (.tmp 80) (by rfl) Tryd.underlying23 infoQR rfl (by decide) (by decide) ⟨⟨#[]⟩, -7, (k : Int), (A5, n5, c5), (A6, n6, c6)⟩ (by rfl) (by rfl) (kQR_M _ _ _ _) hR6 hC6 hl ?_
                  intro v1 w1 hr2 hc2
                  obtain ⟨A2, n2, c2, rfl⟩ := R_sl hr2.out
                  have fz := blk_frozen (hc2.out.blk hL6.out.q hno0.out) 1
                  refine hK.out _ _ ⟨(cell_keepQ hc2.out hno0.out z0), (cell_keepQ hc2.out hno1.out z1), (cell_keepQ hc2.out hno2.out z2), (cell_keepQ hc2.out hno2.out z3)⟩ (fun hHeld => ?_)
                  clear hK K
                  refine norm_ (a' := ?_) ?_ ?_
                  rotate_left
                  · show Act.put _ (some 81) _ = _
                    simp only [Act.put, List.setIfInBounds_toArray, List.set_cons_zero, List.set_cons_succ, i64_w, i32_w]
                    rfl
                  refine pure_ (i := 20) (N := some 82) (v := ?_) (a' := ?_) #[true, true, true, true, true, true, true, true, true, true, true, true, true, true, true, true, true, true, true, true, true, false] rfl rfl (by kernel_rfl) (fun _ _ _ h => h) (Or.inl ⟨by rfl, ?_⟩) ?_ ?_
                  rotate_left
                  · intro w'
                    go_simp
                    with_reducible rfl
                  rotate_left
                  · simp only [Act.put, List.setIfInBounds_toArray, List.set_cons_zero, List.set_cons_succ, i64_w, i32_w]
                    rfl
                  refine last_ (i := 21) (N := none) #[true, true, true, true, true, true, true, true, true, true, true, true, true, true, true, true, true, true, true, true, true, true] rfl rfl (by kernel_rfl) (by decide) (fun K hK => ?_)
                  refine skip_ (w1 := ?_) (by rfl) rfl ?_ ?_
                  rotate_left
                  · go_simp
                    rfl
                  refine hK.out _ _ ?_
                  clear hK K
                  refine done_ (by kernel_rfl) ?_
                  go_wp2
                  go_roundw
                  case measure => first | (simp [intOf]; done) | (simp [intOf]; omega)
                  case rel =>
                    have hgo : Chg (fun _ => False) wr w6 := (((Chg.refl (fun _ => False) wr).drew).trans hc5 (fun _ _ h => h)).trans hc6 (fun _ _ h => h)
                    have hnm : MarkOf W0 w6 ⟨⟨#[]⟩, -7, (k : Int), (A5, n5, c5), (A6, n6, c6)⟩ f k := ⟨rfl, rfl, rfl, R_chg (Kd.R_tight rfl hr5) hc6 (fun _ _ _ h => h), Kd.R_tight rfl hr6, fun b hb => by
                      rcases hr5.1 b hb with h | h
                      · exact h.elim
                      · have h1 := h.1; have h2 := hL.out.ch.size; simp at h1; omega, fun b hb => by
                      rcases hr6.1 b hb with h | h
                      · exact h.elim
                      · have h1 := h.1; have h2 := hL.out.ch.size; have h3 := hc5.size; simp at h3; omega⟩
                    refine ⟨k + 1, n2, c2, A2, ms ++ [⟨⟨#[]⟩, -7, (k : Int), (A5, n5, c5), (A6, n6, c6)⟩], by go_num, by omega, by rw [List.length_append, hms]; rfl, ⟨by rw [← List.append_assoc]; exact hL6.out.addF (v' := (A2, n2, c2)) hc2.out hr2.out⟩, ⟨fun j q g hq hg => ?_⟩⟩
                    have hold : ∀ {q : QR} {g : QF} {j : Nat}, MarkOf W0 w6 q g j → MarkOf W0 (w1.setCell ⟨b3, 1, none⟩ (svl (A2, n2, c2))) q g j := fun h => h.addF hL6.out hc2.out
                    rcases Nat.lt_or_ge j ms.length with hj | hj
                    · rw [List.getElem?_append_left hj] at hq
                      exact hold ((hMk.out j q g hq hg).chg hgo (fun _ _ h => h) (fun _ _ h => h))
                    · rw [List.getElem?_append_right hj] at hq
                      have hj0 : j - ms.length = 0 := by
                        have := (List.getElem?_eq_some_iff.1 hq).1
                        simp at this
                        omega
                      rw [hj0] at hq
                      simp at hq
                      have hjk : j = k := by omega
                      subst hjk
                      rw [hfA.out] at hg
                      injection hg with hg
                      subst hq hg
                      exact hold hnm
                · obtain rfl : k = p.funcs.length := by omega
                  go_wp2
                  clear y0 y1 p0 p1 fz0 fz1
                  go_loopw [9] (fun ix wr => ∃ (k m d : Nat) (B : Option Addr), ix = .int .i64 k ∧ k ≤ 64 ∧ Aside0 (LQ W0 wr b3 (A, n, c) (B, m, d) cs (rs ++ ms ++ tailsQ p.funcs.length k)) ∧ Aside0 (∀ (j : Nat) (q : QR) (f : QF), ms[j]? = some q → p.funcs[j]? = some f → MarkOf W0 wr q f j)) (fun ix _ => 64 - (intOf ix).toNat)
                  case atStart => exact ⟨0, m, d, B, rfl, by omega, ⟨by simpa [tailsQ] using hL.out⟩, hMk⟩
                  case round =>
                    clear hL hMk
                    obtain ⟨k, m, d, B, rfl, hk, hL, hMk⟩ := hrel
                    have hbp := hL.out.ch.blk hb1.out (by have := hbo.out; omega)
                    obtain ⟨p0, p1⟩ : wr.cell? ⟨w.heap.size, 0, none⟩ = some (.slice cA p.consts.length cc) ∧ wr.cell? ⟨w.heap.size, 1, none⟩ = some (.slice fA p.funcs.length fc) := ⟨blk_cell hbp 0, blk_cell hbp 1⟩
                    obtain ⟨y0, y1⟩ : wr.cell? ⟨b3, 0, none⟩ = some (.slice A n c) ∧ wr.cell? ⟨b3, 1, none⟩ = some (.slice B m d) := ⟨blk_cell hL.out.q 0, blk_cell hL.out.q 1⟩
                    have fz1 := blk_frozen hL.out.q 1
                    have fz0 := blk_frozen hL.out.q 0
                    clear hbp
                    by_cases hlt : k < 64
                    · have hk0 : (0 : Int) ≤ k := by omega
                      have hk1 : (k : Int) < 64 := by omega
                      have hl : Aside0 (((rs ++ ms ++ tailsQ p.funcs.length k).length + 1) * 80 ≤ 140737488355328) := ⟨by rw [List.length_append, List.length_append, tailsQ_length]; omega⟩
                      have hRd := own_new0 hL.out.rf
                      have hCd : Aside0 (Chg (fun b => (svl (B, m, d)).ownBlock = some b) wr wr) := ⟨Chg.refl _ _⟩
                      have hno0 : Aside0 (¬ (svl (B, m, d)).ownBlock = some b3) := ⟨fun e => by have := hL.out.of _ e; have := hL.out.lt; omega⟩
                      clear p0 p1 fz0 fz1
                      go_wp2_with (at_builtin; go_must (refine app1 kQR rfl (.tmp 88) (.tmp 93) rfl Tryd.underlying23 infoQR rfl (by decide) (by decide) ⟨⟨#[]⟩, -7, (p.funcs.length : Int) + (k : Int), (none, 0, 0), (none, 0, 0)⟩ rfl rfl (kQR_M _ _ _ _) hRd hCd hl ?_); go_must (intro v1 w1 hr2 hc2); go_must (obtain ⟨A2, n2, c2, rfl⟩ := R_sl hr2.out); go_must (have hbq := hc2.out.blk hL.out.q hno0.out); go_must (have y1' : w1.cell? ⟨b3, 1, none⟩ = some (.slice B m d) := blk_cell hbq 1); go_must (have fz := blk_frozen hbq 1); go_must (clear hbq))
                      go_roundw
                      case measure => first | (simp [intOf]; done) | (simp [intOf]; omega)
                      case rel => exact ⟨k + 1, n2, c2, A2, by go_num, by omega, ⟨by rw [tailsQ_succ, ← List.append_assoc]; exact hL.out.addF (v' := (A2, n2, c2)) hc2.out hr2.out⟩, ⟨fun j q g hq hg => (hMk.out j q g hq hg).addF hL.out hc2.out (v' := (A2, n2, c2))⟩⟩
                    · have hk64 : k = 64 := by omega
                      have hk65 : ¬ (k : Int) < 64 := by omega
                      have hL5 : Aside0 (LQ W0 wr b3 (A, n, c) (B, m, d) cs (rs ++ ms ++ tailsQ p.funcs.length 64)) := ⟨by rw [← hk64]; exact hL.out⟩
                      have hMk5 := hMk
                      clear hL hMk hk64
                      have hN : m = 2 * p.funcs.length + 64 := by
                        have h1 : m = _ := (Kd.R_reads' hL5.out.rf).1
                        rw [h1, List.length_append, List.length_append, tailsQ_length]
                        omega
                      obtain ⟨gF, cF, hBf, _⟩ := Kd.R_form hL5.out.rf (by rw [List.length_append, tailsQ_length]; omega)
                      unfold svl at hBf
                      injection hBf with hBf hB2 hB3
                      simp only at hBf
                      clear hB2 hB3
                      subst hBf hN
                      have hF0 : Aside0 (FixTo p rs ms 0 (rs ++ ms ++ tailsQ p.funcs.length 64)) := ⟨FixTo.zero hrl hms⟩
                      go_wp2
                      clear y0 y1 p0 p1 fz0 fz1
                      go_loopw [10] (fun ix wr => ∃ (k : Nat) (fs : List QR), ix = .int .i64 k ∧ k ≤ p.funcs.length ∧ Aside0 (LQ W0 wr b3 (A, n, c) (some ⟨gF, 0, none⟩, 2 * p.funcs.length + 64, d) cs fs) ∧ Aside0 (FixTo p rs ms k fs) ∧ Aside0 (∀ (j : Nat) (q : QR) (f : QF), ms[j]? = some q → p.funcs[j]? = some f → MarkOf W0 wr q f j)) (fun ix _ => p.funcs.length - (intOf ix).toNat)
                      case atStart => exact ⟨0, _, rfl, by omega, hL5, hF0, hMk5⟩
                      case round =>
                        obtain ⟨k, fs, rfl, hk, hL, hF, hMk⟩ := hrel
                        have hbp := hL.out.ch.blk hb1.out (by have := hbo.out; omega)
                        obtain ⟨p0, p1⟩ : wr.cell? ⟨w.heap.size, 0, none⟩ = some (.slice cA p.consts.length cc) ∧ wr.cell? ⟨w.heap.size, 1, none⟩ = some (.slice fA p.funcs.length fc) := ⟨blk_cell hbp 0, blk_cell hbp 1⟩
                        obtain ⟨y0, y1⟩ : wr.cell? ⟨b3, 0, none⟩ = some (.slice A n c) ∧ wr.cell? ⟨b3, 1, none⟩ = some (.slice (some ⟨gF, 0, none⟩) (2 * p.funcs.length + 64) d) := ⟨blk_cell hL.out.q 0, blk_cell hL.out.q 1⟩
                        clear hbp
                        by_cases hlt : k < p.funcs.length
                        · have hk0 : (0 : Int) ≤ k := by omega
                          have hk1 : (k : Int) < p.funcs.length := by omega
                          have hCw : Aside0 (Chg (fun _ => False) w wr) := ⟨hc0.out.trans hL.out.ch (fun b hb e => by have := hbo.out; omega)⟩
                          obtain ⟨ad, r, e1, e2, x0w, x1w, x2w, x3w, x4w⟩ := raw_at hPA.out.fs k hlt
                          subst e1
                          have x3 := cell_keepQ hCw.out (fun h => h) x3w
                          have x4 := cell_keepQ hCw.out (fun h => h) x4w
                          obtain ⟨f, hf⟩ : ∃ f, p.funcs[k]? = some f := ⟨_, List.getElem?_eq_getElem hlt⟩
                          obtain ⟨mk, hmk⟩ : ∃ mk, ms[k]? = some mk := ⟨_, List.getElem?_eq_getElem (by omega)⟩
                          obtain ⟨_, _, _, hcd, hhd⟩ := hPA.out.raw k r f e2 hf
                          have hM := hMk.out k mk f hmk hf
                          obtain ⟨hl1, hl2, _⟩ := Kd.R_reads' hM.code
                          obtain ⟨hl3, hl4, _⟩ := Kd.R_reads' hM.hnd
                          rw [← hcd.1] at x3
                          rw [← hhd.1] at x4
                          have hfk : fs[k]? = some r := by rw [hF.out.todo k (Nat.le_refl _) hlt]; exact e2
                          have hfm : fs[p.funcs.length + k]? = some mk := by rw [hF.out.rest k, List.getElem?_append_left (by omega)]; exact hmk
                          obtain ⟨_, _, _, z3, z4⟩ := raw_own hL.out.rf (p.funcs.length + k) (by omega) hfm
                          obtain ⟨_, _, _, v3, v4⟩ := raw_own hL.out.rf k (by omega) hfk
                          obtain ⟨cu, hcu⟩ := Kd.R_typed hL.out.rf gF rfl
                          have fz3 := blk_frozen hcu (k * 5 + 3)
                          have hb0 : (0 : Int) ≤ f.code.length := by omega
                          have hb9 : (f.code.length : Int) ≤ mk.code.2.2 := by have h1 : mk.code.2.1 = _ := hl1; have h2 : mk.code.2.1 ≤ mk.code.2.2 := hl2; rw [List.length_append, kQIMarks_length] at h1; omega
                          obtain ⟨j, hj⟩ : ∃ j, j = p.funcs.length + k := ⟨_, rfl⟩
                          rw [← hj] at z3 z4
                          have hs : (p.funcs.length : Int) + (k : Int) = (j : Int) := by omega
                          have hsw : IntKind.i64.wrap (j : Int) = (j : Int) := by simp [IntKind.wrap, IntKind.bits, IntKind.signed]; omega
                          have hj0 : (0 : Int) ≤ j := by omega
                          have hj1 : (j : Int) < 2 * (p.funcs.length : Int) + 64 := by omega
                          have hk9 : (k : Int) < 2 * (p.funcs.length : Int) + 64 := by omega
                          have hjA := Aside0.mk hj
                          have hfkA := Aside0.mk hfk
                          have hfmA := Aside0.mk hfm
                          have hmkA := Aside0.mk hmk
                          have hfA := Aside0.mk hf
                          have e2A := Aside0.mk e2
                          have hcl := Aside0.mk hcd.1
                          have hhl := Aside0.mk hhd.1
                          replace hM := Aside0.mk hM
                          have hw1 := Aside0.mk hl1
                          have hw2 := Aside0.mk hl2
                          have hw3 := Aside0.mk hl3
                          have hw4 := Aside0.mk hl4
                          have hcuA := Aside0.mk hcu
                          have x4A := Aside0.mk x4w
                          clear hj hfk hfm hmk hf e2 hcd hhd hl1 hl2 hl3 hl4 hcu x0w x1w x2w x3w x4w y0 p0
                          go_wp2
                          refine start_ (n := 22) (S := fun w' => w'.cell? ⟨b3, 1, none⟩ = some (.slice (some ⟨gF, 0, none⟩) (2 * p.funcs.length + 64) d) ∧ w'.cell? ⟨w.heap.size, 1, none⟩ = some (.slice (some ad) p.funcs.length fc) ∧ w'.cell? ⟨(ad.add (k * 5)).block, (ad.add (k * 5)).off + 3, none⟩ = some (.slice r.code.1 f.code.length r.code.2.2) ∧ w'.cell? ⟨gF, j * 5 + 3, none⟩ = some (.slice mk.code.1 mk.code.2.1 mk.code.2.2)) (ds := [21]) #[false, false, false, false, false, false, false, false, false, false, false, false, false, false, false, false, false, false, false, false, false, false] (by kernel_rfl) rfl rfl ⟨y1, p1, x3, z3⟩ (fun hHeld => ?_)
                          refine pure_ (i := 0) (N := some 101) (v := ?_) (a' := ?_) #[true, false, false, false, false, false, false, false, false, false, false, false, false, false, false, false, false, false, false, false, false, false] rfl rfl (by kernel_rfl) (fun _ _ _ h => h) (Or.inl ⟨by rfl, ?_⟩) ?_ ?_
                          rotate_left
                          · intro w'
                            go_simp
                            with_reducible rfl
                          rotate_left
                          · simp only [Act.put, List.setIfInBounds_toArray, List.set_cons_zero, List.set_cons_succ, i64_w, i32_w]
                            rfl
                          refine pure_ (i := 2) (N := some 103) (v := ?_) (a' := ?_) #[true, false, true, false, false, false, false, false, false, false, false, false, false, false, false, false, false, false, false, false, false, false] rfl rfl (by kernel_rfl) (fun _ _ _ h => h) (Or.inl ⟨by rfl, ?_⟩) ?_ ?_
                          rotate_left
                          · intro w'
                            go_simp
                            with_reducible rfl
                          rotate_left
                          · simp only [Act.put, List.setIfInBounds_toArray, List.set_cons_zero, List.set_cons_succ, i64_w, i32_w]
                            rfl
                          refine pure_ (i := 3) (N := some 104) (v := ?_) (a' := ?_) #[true, false, true, true, false, false, false, false, false, false, false, false, false, false, false, false, false, false, false, false, false, false] rfl rfl (by kernel_rfl) (fun _ _ _ h => h) (Or.inl ⟨by rfl, ?_⟩) ?_ ?_
                          rotate_left
                          · intro w'
                            go_simp
                            with_reducible rfl
                          rotate_left
                          · simp only [Act.put, List.setIfInBounds_toArray, List.set_cons_zero, List.set_cons_succ, i64_w, i32_w]
                            rfl
                          refine pure_ (i := 5) (N := some 106) (v := ?_) (a' := ?_) #[true, false, true, true, false, true, false, false, false, false, false, false, false, false, false, false, false, false, false, false, false, false] rfl rfl (by kernel_rfl) (fun _ _ _ h => h) (Or.inl ⟨by rfl, ?_⟩) ?_ ?_
                          rotate_left
                          · intro w'
                            go_simp
                            with_reducible rfl
                          rotate_left
                          · simp only [Act.put, List.setIfInBounds_toArray, List.set_cons_zero, List.set_cons_succ, i64_w, i32_w]
                            rfl
                          refine pure_ (i := 6) (N := some 107) (v := ?_) (a' := ?_) #[true, false, true, true, false, true, true, false, false, false, false, false, false, false, false, false, false, false, false, false, false, false] rfl rfl (by kernel_rfl) (fun _ _ _ h => h) (Or.inl ⟨by rfl, ?_⟩) ?_ ?_
                          rotate_left
                          · intro w'
                            go_simp
                            with_reducible rfl
                          rotate_left
                          · simp only [Act.put, List.setIfInBounds_toArray, List.set_cons_zero, List.set_cons_succ, i64_w, i32_w]
                            rfl
                          refine pure_ (i := 7) (N := some 108) (v := ?_) (a' := ?_) #[true, false, true, true, false, true, true, true, false, false, false, false, false, false, false, false, false, false, false, false, false, false] rfl rfl (by kernel_rfl) (fun _ _ _ h => h) (Or.inl ⟨by rfl, ?_⟩) ?_ ?_
                          rotate_left
                          · intro w'
                            go_simp
                            with_reducible rfl
                          rotate_left
                          · simp only [Act.put, List.setIfInBounds_toArray, List.set_cons_zero, List.set_cons_succ, i64_w, i32_w]
                            rfl
                          refine pure_ (i := 11) (N := some 112) (v := ?_) (a' := ?_) #[true, false, true, true, false, true, true, true, false, false, false, true, false, false, false, false, false, false, false, false, false, false] rfl rfl (by kernel_rfl) (fun _ _ _ h => h) (Or.inl ⟨by rfl, ?_⟩) ?_ ?_
                          rotate_left
                          · intro w'
                            go_simp
                            with_reducible rfl
                          rotate_left
                          · simp only [Act.put, List.setIfInBounds_toArray, List.set_cons_zero, List.set_cons_succ, i64_w, i32_w]
                            rfl
                          refine pure_ (i := 13) (N := some 114) (v := ?_) (a' := ?_) #[true, false, true, true, false, true, true, true, false, false, false, true, false, true, false, false, false, false, false, false, false, false] rfl rfl (by kernel_rfl) (fun _ _ _ h => h) (Or.inl ⟨by rfl, ?_⟩) ?_ ?_
                          rotate_left
                          · intro w'
                            go_simp
                            with_reducible rfl
                          rotate_left
                          · simp only [Act.put, List.setIfInBounds_toArray, List.set_cons_zero, List.set_cons_succ, i64_w, i32_w]
                            rfl
                          refine take_ (i := 1) (N := some 102) (v := ?_) (a' := ?_) #[true, true, true, true, false, true, true, true, false, false, false, true, false, true, false, false, false, false, false, false, false, false] rfl rfl (by kernel_rfl) (fun _ _ _ h => h) (Or.inl ⟨by rfl, ?_⟩) hHeld ?_ ?_
                          rotate_left
                          · rintro w' ⟨s0, s1, s2, s3⟩
                            go_simp
                            with_reducible rfl
                          rotate_left
                          · simp only [Act.put, List.setIfInBounds_toArray, List.set_cons_zero, List.set_cons_succ, i64_w, i32_w]
                            rfl
                          refine take_ (i := 4) (N := some 105) (v := ?_) (a' := ?_) #[true, true, true, true, true, true, true, true, false, false, false, true, false, true, false, false, false, false, false, false, false, false] rfl rfl (by kernel_rfl) (fun _ _ _ h => h) (Or.inl ⟨by rfl, ?_⟩) hHeld ?_ ?_
                          rotate_left
                          · rintro w' ⟨s0, s1, s2, s3⟩
                            go_simp
                            with_reducible rfl
                          rotate_left
                          · simp only [Act.put, List.setIfInBounds_toArray, List.set_cons_zero, List.set_cons_succ, i64_w, i32_w]
                            rfl
                          refine pure_ (i := 8) (N := some 109) (v := ?_) (a' := ?_) #[true, true, true, true, true, true, true, true, true, false, false, true, false, true, false, false, false, false, false, false, false, false] rfl rfl (by kernel_rfl) (fun _ _ _ h => h) (Or.inl ⟨by rfl, ?_⟩) ?_ ?_
                          rotate_left
                          · intro w'
                            go_simp
                            with_reducible rfl
                          rotate_left
                          · simp only [Act.put, List.setIfInBounds_toArray, List.set_cons_zero, List.set_cons_succ, i64_w, i32_w]
                            rfl
                          refine pure_ (i := 9) (N := some 110) (v := ?_) (a' := ?_) #[true, true, true, true, true, true, true, true, true, true, false, true, false, true, false, false, false, false, false, false, false, false] rfl rfl (by kernel_rfl) (fun _ _ _ h => h) (Or.inl ⟨by rfl, ?_⟩) ?_ ?_
                          rotate_left
                          · intro w'
                            go_simp
                            with_reducible rfl
                          rotate_left
                          · simp only [Act.put, List.setIfInBounds_toArray, List.set_cons_zero, List.set_cons_succ, i64_w, i32_w]
                            rfl
                          refine take_ (i := 10) (N := some 111) (v := ?_) (a' := ?_) #[true, true, true, true, true, true, true, true, true, true, true, true, false, true, false, false, false, false, false, false, false, false] rfl rfl (by kernel_rfl) (fun _ _ _ h => h) (Or.inl ⟨by rfl, ?_⟩) hHeld ?_ ?_
                          rotate_left
                          · rintro w' ⟨s0, s1, s2, s3⟩
                            go_simp
                            with_reducible rfl
                          rotate_left
                          · simp only [Act.put, List.setIfInBounds_toArray, List.set_cons_zero, List.set_cons_succ, i64_w, i32_w]
                            rfl
                          refine take_ (i := 12) (N := some 113) (v := ?_) (a' := ?_) #[true, true, true, true, true, true, true, true, true, true, true, true, true, true, false, false, false, false, false, false, false, false] rfl rfl (by kernel_rfl) (fun _ _ _ h => h) (Or.inl ⟨by rfl, ?_⟩) hHeld ?_ ?_
                          rotate_left
                          · rintro w' ⟨s0, s1, s2, s3⟩
                            go_simp
                            with_reducible rfl
                          rotate_left
                          · simp only [Act.put, List.setIfInBounds_toArray, List.set_cons_zero, List.set_cons_succ, i64_w, i32_w]
                            rfl
                          refine pure_ (i := 14) (N := some 115) (v := ?_) (a' := ?_) #[true, true, true, true, true, true, true, true, true, true, true, true, true, true, true, false, false, false, false, false, false, false] rfl rfl (by kernel_rfl) (fun _ _ _ h => h) (Or.inl ⟨by rfl, ?_⟩) ?_ ?_
                          rotate_left
                          · intro w'
                            go_simp
                            with_reducible rfl
                          rotate_left
                          · simp only [Act.put, List.setIfInBounds_toArray, List.set_cons_zero, List.set_cons_succ, i64_w, i32_w]
                            rfl
                          refine pure_ (i := 15) (N := some 116) (v := ?_) (a' := ?_) #[true, true, true, true, true, true, true, true, true, true, true, true, true, true, true, true, false, false, false, false, false, false] rfl rfl (by kernel_rfl) (fun _ _ _ h => h) (Or.inl ⟨by rfl, ?_⟩) ?_ ?_
                          rotate_left
                          · intro w'
                            go_simp
                            with_reducible rfl
                          rotate_left
                          · simp only [Act.put, List.setIfInBounds_toArray, List.set_cons_zero, List.set_cons_succ, i64_w, i32_w]
                            rfl
                          refine take_ (i := 16) (N := some 117) (v := ?_) (a' := ?_) #[true, true, true, true, true, true, true, true, true, true, true, true, true, true, true, true, true, false, false, false, false, false] rfl rfl (by kernel_rfl) (fun _ _ _ h => h) (Or.inl ⟨by rfl, ?_⟩) hHeld ?_ ?_
                          rotate_left
                          · rintro w' ⟨s0, s1, s2, s3⟩
                            go_simp
                            with_reducible rfl
                          rotate_left
                          · simp only [Act.put, List.setIfInBounds_toArray, List.set_cons_zero, List.set_cons_succ, i64_w, i32_w]
                            rfl
                          refine pure_ (i := 17) (N := some 118) (v := ?_) (a' := ?_) #[true, true, true, true, true, true, true, true, true, true, true, true, true, true, true, true, true, true, false, false, false, false] rfl rfl (by kernel_rfl) (fun _ _ _ h => h) (Or.inl ⟨by rfl, ?_⟩) ?_ ?_
                          rotate_left
                          · intro w'
                            go_simp
                            with_reducible rfl
                          rotate_left
                          · simp only [Act.put, List.setIfInBounds_toArray, List.set_cons_zero, List.set_cons_succ, i64_w, i32_w]
                            rfl
                          refine pure_ (i := 18) (N := some 119) (v := ?_) (a' := ?_) #[true, true, true, true, true, true, true, true, true, true, true, true, true, true, true, true, true, true, true, false, false, false] rfl rfl (by kernel_rfl) (fun _ _ _ h => h) (Or.inl ⟨by rfl, ?_⟩) ?_ ?_
                          rotate_left
                          · intro w'
                            go_simp
                            with_reducible rfl
                          rotate_left
                          · simp only [Act.put, List.setIfInBounds_toArray, List.set_cons_zero, List.set_cons_succ, i64_w, i32_w]
                            rfl
                          refine pure_ (i := 19) (N := some 120) (v := ?_) (a' := ?_) #[true, true, true, true, true, true, true, true, true, true, true, true, true, true, true, true, true, true, true, true, false, false] rfl rfl (by kernel_rfl) (fun _ _ _ h => h) (Or.inl ⟨by rfl, ?_⟩) ?_ ?_
                          rotate_left
                          · intro w'
                            go_simp
                            with_reducible rfl
                          rotate_left
                          · simp only [Act.put, List.setIfInBounds_toArray, List.set_cons_zero, List.set_cons_succ, i64_w, i32_w]
                            rfl
                          refine pure_ (i := 20) (N := some 121) (v := ?_) (a' := ?_) #[true, true, true, true, true, true, true, true, true, true, true, true, true, true, true, true, true, true, true, true, true, false] rfl rfl (by kernel_rfl) (fun _ _ _ h => h) (Or.inl ⟨by rfl, ?_⟩) ?_ ?_
                          rotate_left
                          · intro w'
                            go_simp
                            with_reducible rfl
                          rotate_left
                          · simp only [Act.put, List.setIfInBounds_toArray, List.set_cons_zero, List.set_cons_succ, i64_w, i32_w]
                            rfl
                          refine last_ (i := 21) (N := none) #[true, true, true, true, true, true, true, true, true, true, true, true, true, true, true, true, true, true, true, true, true, true] rfl rfl (by kernel_rfl) (by decide) (fun K hK => ?_)
                          refine skip_ (w1 := ?_) (by rfl) rfl ?_ ?_
                          rotate_left
                          · go_simp
                            rfl
                          refine hK.out _ _ ?_
                          clear hK K
                          refine done_ (by kernel_rfl) ?_
                          generalize hW1 : World.setCell _ _ _ = W1
                          have hLd := hL.out
                          have hL1 : Aside0 (LQ W0 W1 b3 (A, n, c) (some ⟨gF, 0, none⟩, 2 * p.funcs.length + 64, d) cs (fs.set k ⟨r.name, r.pars, r.locs, (mk.code.1, f.code.length, mk.code.2.2), r.hnd⟩)) := ⟨by rw [← hW1]; exact hLd.putF (j := 3) (by omega) hfkA.out rfl (by decide)⟩
                          have hMk1 : Aside0 (∀ (j : Nat) (q : QR) (g : QF), ms[j]? = some q → p.funcs[j]? = some g → MarkOf W0 W1 q g j) := ⟨fun j q g h1 h2 => by rw [← hW1]; exact (hMk.out j q g h1 h2).putF hLd⟩
                          clear hW1 hLd y1 p1 x3 x4 z3 z4 v3 v4 fz3 hb0 hb9
                          have hbp := hL1.out.ch.blk hb1.out (by have := hbo.out; omega)
                          have p1 : W1.cell? ⟨w.heap.size, 1, none⟩ = some (.slice (some ad) p.funcs.length fc) := blk_cell hbp 1
                          have y1 : W1.cell? ⟨b3, 1, none⟩ = some (.slice (some ⟨gF, 0, none⟩) (2 * p.funcs.length + 64) d) := blk_cell hL1.out.q 1
                          have hCw1 : Aside0 (Chg (fun _ => False) w W1) := ⟨hc0.out.trans hL1.out.ch (fun b hb e => by have := hbo.out; omega)⟩
                          have x4 := cell_keepQ hCw1.out (fun h => h) x4A.out
                          rw [← hhl.out] at x4
                          have hfm1 : (fs.set k ⟨r.name, r.pars, r.locs, (mk.code.1, f.code.length, mk.code.2.2), r.hnd⟩)[p.funcs.length + k]? = some mk := by rw [List.getElem?_set_ne (by omega)]; exact hfmA.out
                          obtain ⟨_, _, _, _, z4⟩ := raw_own hL1.out.rf (p.funcs.length + k) (by omega) hfm1
                          have hfk1 : (fs.set k ⟨r.name, r.pars, r.locs, (mk.code.1, f.code.length, mk.code.2.2), r.hnd⟩)[k]? = some ⟨r.name, r.pars, r.locs, (mk.code.1, f.code.length, mk.code.2.2), r.hnd⟩ := by rw [List.getElem?_set, if_pos rfl, if_pos (by rw [hF.out.len]; omega)]
                          obtain ⟨_, _, _, _, v4⟩ := raw_own hL1.out.rf k (by omega) hfk1
                          obtain ⟨cu1, hcu1⟩ := Kd.R_typed hL1.out.rf gF rfl
                          have fz4 := blk_frozen hcu1 (k * 5 + 4)
                          have hb0 : (0 : Int) ≤ f.hnd.length := by omega
                          have hb9 : (f.hnd.length : Int) ≤ mk.hnd.2.2 := by have h1 : mk.hnd.2.1 = _ := hw3.out; have h2 : mk.hnd.2.1 ≤ mk.hnd.2.2 := hw4.out; rw [List.length_append, kQHMarks_length] at h1; omega
                          rw [← hjA.out] at z4
                          replace hfk1 := Aside0.mk hfk1
                          clear hbp hfm1 hcu1
                          go_wp2
                          refine start_ (n := 22) (S := fun w' => w'.cell? ⟨b3, 1, none⟩ = some (.slice (some ⟨gF, 0, none⟩) (2 * p.funcs.length + 64) d) ∧ w'.cell? ⟨w.heap.size, 1, none⟩ = some (.slice (some ad) p.funcs.length fc) ∧ w'.cell? ⟨(ad.add (k * 5)).block, (ad.add (k * 5)).off + 4, none⟩ = some (.slice r.hnd.1 f.hnd.length r.hnd.2.2) ∧ w'.cell? ⟨gF, j * 5 + 4, none⟩ = some (.slice mk.hnd.1 mk.hnd.2.1 mk.hnd.2.2)) (ds := [21]) #[false, false, false, false, false, false, false, false, false, false, false, false, false, false, false, false, false, false, false, false, false, false] (by kernel_rfl) rfl rfl ⟨y1, p1, x4, z4⟩ (fun hHeld => ?_)
                          refine pure_ (i := 0) (N := some 122) (v := ?_) (a' := ?_) #[true, false, false, false, false, false, false, false, false, false, false, false, false, false, false, false, false, false, false, false, false, false] rfl rfl (by kernel_rfl) (fun _ _ _ h => h) (Or.inl ⟨by rfl, ?_⟩) ?_ ?_
                          rotate_left
                          · intro w'
                            go_simp
                            with_reducible rfl
                          rotate_left
                          · simp only [Act.put, List.setIfInBounds_toArray, List.set_cons_zero, List.set_cons_succ, i64_w, i32_w]
                            rfl
                          refine pure_ (i := 2) (N := some 124) (v := ?_) (a' := ?_) #[true, false, true, false, false, false, false, false, false, false, false, false, false, false, false, false, false, false, false, false, false, false] rfl rfl (by kernel_rfl) (fun _ _ _ h => h) (Or.inl ⟨by rfl, ?_⟩) ?_ ?_
                          rotate_left
                          · intro w'
                            go_simp
                            with_reducible rfl
                          rotate_left
                          · simp only [Act.put, List.setIfInBounds_toArray, List.set_cons_zero, List.set_cons_succ, i64_w, i32_w]
                            rfl
                          refine pure_ (i := 3) (N := some 125) (v := ?_) (a' := ?_) #[true, false, true, true, false, false, false, false, false, false, false, false, false, false, false, false, false, false, false, false, false, false] rfl rfl (by kernel_rfl) (fun _ _ _ h => h) (Or.inl ⟨by rfl, ?_⟩) ?_ ?_
                          rotate_left
                          · intro w'
                            go_simp
                            with_reducible rfl
                          rotate_left
                          · simp only [Act.put, List.setIfInBounds_toArray, List.set_cons_zero, List.set_cons_succ, i64_w, i32_w]
                            rfl
                          refine pure_ (i := 5) (N := some 127) (v := ?_) (a' := ?_) #[true, false, true, true, false, true, false, false, false, false, false, false, false, false, false, false, false, false, false, false, false, false] rfl rfl (by kernel_rfl) (fun _ _ _ h => h) (Or.inl ⟨by rfl, ?_⟩) ?_ ?_
                          rotate_left
                          · intro w'
                            go_simp
                            with_reducible rfl
                          rotate_left
                          · simp only [Act.put, List.setIfInBounds_toArray, List.set_cons_zero, List.set_cons_succ, i64_w, i32_w]
                            rfl
                          refine pure_ (i := 6) (N := some 128) (v := ?_) (a' := ?_) #[true, false, true, true, false, true, true, false, false, false, false, false, false, false, false, false, false, false, false, false, false, false] rfl rfl (by kernel_rfl) (fun _ _ _ h => h) (Or.inl ⟨by rfl, ?_⟩) ?_ ?_
                          rotate_left
                          · intro w'
                            go_simp
                            with_reducible rfl
                          rotate_left
                          · simp only [Act.put, List.setIfInBounds_toArray, List.set_cons_zero, List.set_cons_succ, i64_w, i32_w]
                            rfl
                          refine pure_ (i := 7) (N := some 129) (v := ?_) (a' := ?_) #[true, false, true, true, false, true, true, true, false, false, false, false, false, false, false, false, false, false, false, false, false, false] rfl rfl (by kernel_rfl) (fun _ _ _ h => h) (Or.inl ⟨by rfl, ?_⟩) ?_ ?_
                          rotate_left
                          · intro w'
                            go_simp
                            with_reducible rfl
                          rotate_left
                          · simp only [Act.put, List.setIfInBounds_toArray, List.set_cons_zero, List.set_cons_succ, i64_w, i32_w]
                            rfl
                          refine pure_ (i := 11) (N := some 133) (v := ?_) (a' := ?_) #[true, false, true, true, false, true, true, true, false, false, false, true, false, false, false, false, false, false, false, false, false, false] rfl rfl (by kernel_rfl) (fun _ _ _ h => h) (Or.inl ⟨by rfl, ?_⟩) ?_ ?_
                          rotate_left
                          · intro w'
                            go_simp
                            with_reducible rfl
                          rotate_left
                          · simp only [Act.put, List.setIfInBounds_toArray, List.set_cons_zero, List.set_cons_succ, i64_w, i32_w]
                            rfl
                          refine pure_ (i := 13) (N := some 135) (v := ?_) (a' := ?_) #[true, false, true, true, false, true, true, true, false, false, false, true, false, true, false, false, false, false, false, false, false, false] rfl rfl (by kernel_rfl) (fun _ _ _ h => h) (Or.inl ⟨by rfl, ?_⟩) ?_ ?_
                          rotate_left
                          · intro w'
                            go_simp
                            with_reducible rfl
                          rotate_left
                          · simp only [Act.put, List.setIfInBounds_toArray, List.set_cons_zero, List.set_cons_succ, i64_w, i32_w]
                            rfl
                          refine take_ (i := 1) (N := some 123) (v := ?_) (a' := ?_) #[true, true, true, true, false, true, true, true, false, false, false, true, false, true, false, false, false, false, false, false, false, false] rfl rfl (by kernel_rfl) (fun _ _ _ h => h) (Or.inl ⟨by rfl, ?_⟩) hHeld ?_ ?_
                          rotate_left
                          · rintro w' ⟨s0, s1, s2, s3⟩
                            go_simp
                            with_reducible rfl
                          rotate_left
                          · simp only [Act.put, List.setIfInBounds_toArray, List.set_cons_zero, List.set_cons_succ, i64_w, i32_w]
                            rfl
                          refine take_ (i := 4) (N := some 126) (v := ?_) (a' := ?_) #[true, true, true, true, true, true, true, true, false, false, false, true, false, true, false, false, false, false, false, false, false, false] rfl rfl (by kernel_rfl) (fun _ _ _ h => h) (Or.inl ⟨by rfl, ?_⟩) hHeld ?_ ?_
                          rotate_left
                          · rintro w' ⟨s0, s1, s2, s3⟩
                            go_simp
                            with_reducible rfl
                          rotate_left
                          · simp only [Act.put, List.setIfInBounds_toArray, List.set_cons_zero, List.set_cons_succ, i64_w, i32_w]
                            rfl
                          refine pure_ (i := 8) (N := some 130) (v := ?_) (a' := ?_) #[true, true, true, true, true, true, true, true, true, false, false, true, false, true, false, false, false, false, false, false, false, false] rfl rfl (by kernel_rfl) (fun _ _ _ h => h) (Or.inl ⟨by rfl, ?_⟩) ?_ ?_
                          rotate_left
                          · intro w'
                            go_simp
                            with_reducible rfl
                          rotate_left
                          · simp only [Act.put, List.setIfInBounds_toArray, List.set_cons_zero, List.set_cons_succ, i64_w, i32_w]
                            rfl
                          refine pure_ (i := 9) (N := some 131) (v := ?_) (a' := ?_) #[true, true, true, true, true, true, true, true, true, true, false, true, false, true, false, false, false, false, false, false, false, false] rfl rfl (by kernel_rfl) (fun _ _ _ h => h) (Or.inl ⟨by rfl, ?_⟩) ?_ ?_
                          rotate_left
                          · intro w'
                            go_simp
                            with_reducible rfl
                          rotate_left
                          · simp only [Act.put, List.setIfInBounds_toArray, List.set_cons_zero, List.set_cons_succ, i64_w, i32_w]
                            rfl
                          refine take_ (i := 10) (N := some 132) (v := ?_) (a' := ?_) #[true, true, true, true, true, true, true, true, true, true, true, true, false, true, false, false, false, false, false, false, false, false] rfl rfl (by kernel_rfl) (fun _ _ _ h => h) (Or.inl ⟨by rfl, ?_⟩) hHeld ?_ ?_
                          rotate_left
                          · rintro w' ⟨s0, s1, s2, s3⟩
                            go_simp
                            with_reducible rfl
                          rotate_left
                          · simp only [Act.put, List.setIfInBounds_toArray, List.set_cons_zero, List.set_cons_succ, i64_w, i32_w]
                            rfl
                          refine take_ (i := 12) (N := some 134) (v := ?_) (a' := ?_) #[true, true, true, true, true, true, true, true, true, true, true, true, true, true, false, false, false, false, false, false, false, false] rfl rfl (by kernel_rfl) (fun _ _ _ h => h) (Or.inl ⟨by rfl, ?_⟩) hHeld ?_ ?_
                          rotate_left
                          · rintro w' ⟨s0, s1, s2, s3⟩
                            go_simp
                            with_reducible rfl
                          rotate_left
                          · simp only [Act.put, List.setIfInBounds_toArray, List.set_cons_zero, List.set_cons_succ, i64_w, i32_w]
                            rfl
                          refine pure_ (i := 14) (N := some 136) (v := ?_) (a' := ?_) #[true, true, true, true, true, true, true, true, true, true, true, true, true, true, true, false, false, false, false, false, false, false] rfl rfl (by kernel_rfl) (fun _ _ _ h => h) (Or.inl ⟨by rfl, ?_⟩) ?_ ?_
                          rotate_left
                          · intro w'
                            go_simp
                            with_reducible rfl
                          rotate_left
                          · simp only [Act.put, List.setIfInBounds_toArray, List.set_cons_zero, List.set_cons_succ, i64_w, i32_w]
                            rfl
                          refine pure_ (i := 15) (N := some 137) (v := ?_) (a' := ?_) #[true, true, true, true, true, true, true, true, true, true, true, true, true, true, true, true, false, false, false, false, false, false] rfl rfl (by kernel_rfl) (fun _ _ _ h => h) (Or.inl ⟨by rfl, ?_⟩) ?_ ?_
                          rotate_left
                          · intro w'
                            go_simp
                            with_reducible rfl
                          rotate_left
                          · simp only [Act.put, List.setIfInBounds_toArray, List.set_cons_zero, List.set_cons_succ, i64_w, i32_w]
                            rfl
                          refine take_ (i := 16) (N := some 138) (v := ?_) (a' := ?_) #[true, true, true, true, true, true, true, true, true, true, true, true, true, true, true, true, true, false, false, false, false, false] rfl rfl (by kernel_rfl) (fun _ _ _ h => h) (Or.inl ⟨by rfl, ?_⟩) hHeld ?_ ?_
                          rotate_left
                          · rintro w' ⟨s0, s1, s2, s3⟩
                            go_simp
                            with_reducible rfl
                          rotate_left
                          · simp only [Act.put, List.setIfInBounds_toArray, List.set_cons_zero, List.set_cons_succ, i64_w, i32_w]
                            rfl
                          refine pure_ (i := 17) (N := some 139) (v := ?_) (a' := ?_) #[true, true, true, true, true, true, true, true, true, true, true, true, true, true, true, true, true, true, false, false, false, false] rfl rfl (by kernel_rfl) (fun _ _ _ h => h) (Or.inl ⟨by rfl, ?_⟩) ?_ ?_
                          rotate_left
                          · intro w'
                            go_simp
                            with_reducible rfl
                          rotate_left
                          · simp only [Act.put, List.setIfInBounds_toArray, List.set_cons_zero, List.set_cons_succ, i64_w, i32_w]
                            rfl
                          refine pure_ (i := 18) (N := some 140) (v := ?_) (a' := ?_) #[true, true, true, true, true, true, true, true, true, true, true, true, true, true, true, true, true, true, true, false, false, false] rfl rfl (by kernel_rfl) (fun _ _ _ h => h) (Or.inl ⟨by rfl, ?_⟩) ?_ ?_
                          rotate_left
                          · intro w'
                            go_simp
                            with_reducible rfl
                          rotate_left
                          · simp only [Act.put, List.setIfInBounds_toArray, List.set_cons_zero, List.set_cons_succ, i64_w, i32_w]
                            rfl
                          refine pure_ (i := 19) (N := some 141) (v := ?_) (a' := ?_) #[true, true, true, true, true, true, true, true, true, true, true, true, true, true, true, true, true, true, true, true, false, false] rfl rfl (by kernel_rfl) (fun _ _ _ h => h) (Or.inl ⟨by rfl, ?_⟩) ?_ ?_
                          rotate_left
                          · intro w'
                            go_simp
                            with_reducible rfl
                          rotate_left
                          · simp only [Act.put, List.setIfInBounds_toArray, List.set_cons_zero, List.set_cons_succ, i64_w, i32_w]
                            rfl
                          refine pure_ (i := 20) (N := some 142) (v := ?_) (a' := ?_) #[true, true, true, true, true, true, true, true, true, true, true, true, true, true, true, true, true, true, true, true, true, false] rfl rfl (by kernel_rfl) (fun _ _ _ h => h) (Or.inl ⟨by rfl, ?_⟩) ?_ ?_
                          rotate_left
                          · intro w'
                            go_simp
                            with_reducible rfl
                          rotate_left
                          · simp only [Act.put, List.setIfInBounds_toArray, List.set_cons_zero, List.set_cons_succ, i64_w, i32_w]
                            rfl
                          refine last_ (i := 21) (N := none) #[true, true, true, true, true, true, true, true, true, true, true, true, true, true, true, true, true, true, true, true, true, true] rfl rfl (by kernel_rfl) (by decide) (fun K hK => ?_)
                          refine skip_ (w1 := ?_) (by rfl) rfl ?_ ?_
                          rotate_left
                          · go_simp
                            rfl
                          refine hK.out _ _ ?_
                          clear hK K
                          refine done_ (by kernel_rfl) ?_
                          go_wp2
                          go_roundw
                          case measure => first | (simp [intOf]; done) | (simp [intOf]; omega)
                          case rel =>
                            have hLd := hL1.out
                            have hput := hLd.putF (j := 4) (r' := fixQ r mk f) (u := .slice mk.hnd.1 f.hnd.length mk.hnd.2.2) (by omega) hfk1.out rfl (by decide)
                            rw [List.set_set] at hput
                            exact ⟨k + 1, _, by go_num, by omega, ⟨hput.chg (((Chg.refl (fun _ => False) _).drew).drew)⟩, ⟨hF.out.step e2A.out hmkA.out hfA.out⟩, ⟨fun j q g h1 h2 => ((hMk1.out j q g h1 h2).putF hLd).chg (((Chg.refl (fun _ => False) _).drew).drew) (fun _ _ h => h) (fun _ _ h => h)⟩⟩
                        · obtain rfl : k = p.funcs.length := by omega
                          obtain ⟨gC, _, hAf, _⟩ := Kd.R_form hL.out.rc (by rw [← hcs.out, List.length_append, kQCMarks_length]; omega)
                          unfold svl at hAf
                          injection hAf with hA1 hA2 hA3
                          simp only at hA1 hA2
                          rw [← hcs.out, List.length_append, kQCMarks_length] at hA2
                          clear hA3
                          subst hA1 hA2
                          have hcc : p.consts.length + 64 ≤ c := (Kd.R_reads' hL.out.rc).2.1
                          have hdd : 2 * p.funcs.length + 64 ≤ d := (Kd.R_reads' hL.out.rf).2.1
                          have hcc1 : (p.consts.length : Int) ≤ c := by omega
                          have hdd1 : (p.funcs.length : Int) ≤ d := by omega
                          have hb2r := hL.out.ch.blk hb2.out (by have := hbo.out; omega)
                          have fz0 := blk_frozen hL.out.q 0
                          have fz1 := blk_frozen hL.out.q 1
                          have gz0 := blk_frozen hb2r 0
                          have gz1 := blk_frozen hb2r 1
                          obtain ⟨t0, t1⟩ : wr.cell? ⟨b2, 0, none⟩ = some (.slice none 0 0) ∧ wr.cell? ⟨b2, 1, none⟩ = some (.slice none 0 0) := ⟨blk_cell hb2r 0, blk_cell hb2r 1⟩
                          have hsT : Chg (fun b => b = b3) wr ((wr.setCell ⟨b3, 0, none⟩ (.slice (some ⟨gC, 0, none⟩) p.consts.length c)).setCell ⟨b3, 1, none⟩ (.slice (some ⟨gF, 0, none⟩) p.funcs.length d)) := ((Chg.refl (fun b => b = b3) wr).setCell (p := ⟨b3, 0, none⟩) (fun _ => rfl) _).setCell (p := ⟨b3, 1, none⟩) (fun _ => rfl) _
                          have hb2T := hsT.blk hb2r (by have := hbo.out; omega)
                          have gz2 := blk_frozen hb2T 0
                          have gz3 := blk_frozen hb2T 1
                          obtain ⟨t2, t3⟩ : ((wr.setCell ⟨b3, 0, none⟩ (.slice (some ⟨gC, 0, none⟩) p.consts.length c)).setCell ⟨b3, 1, none⟩ (.slice (some ⟨gF, 0, none⟩) p.funcs.length d)).cell? ⟨b2, 0, none⟩ = some (.slice none 0 0) ∧ ((wr.setCell ⟨b3, 0, none⟩ (.slice (some ⟨gC, 0, none⟩) p.consts.length c)).setCell ⟨b3, 1, none⟩ (.slice (some ⟨gF, 0, none⟩) p.funcs.length d)).cell? ⟨b2, 1, none⟩ = some (.slice none 0 0) := ⟨blk_cell hb2T 0, blk_cell hb2T 1⟩
                          have hbf := blk_set (blk_set hb2T 0 (.slice (some ⟨gC, 0, none⟩) p.consts.length c)) 1 (.slice (some ⟨gF, 0, none⟩) p.funcs.length d)
                          replace hb2r := Aside0.mk hb2r
                          replace hb2T := Aside0.mk hb2T
                          replace hsT := Aside0.mk hsT
                          replace hbf := Aside0.mk hbf
                          have hF9 := hF
                          go_wp2
                          (try simp only [Exit.inBlock, Exit.then])
                          refine bodyPost_ret (results_cell_row rfl _ _ _ _ _ _ _ rfl hbf.out Tryd.underlying25 rfl (by kernel_rfl)) rfl ?_
                          have hfin : Chg (fun b => b = b3 ∨ b = b2) wr (((((wr.setCell ⟨b3, 0, none⟩ (.slice (some ⟨gC, 0, none⟩) p.consts.length c)).setCell ⟨b3, 1, none⟩ (.slice (some ⟨gF, 0, none⟩) p.funcs.length d))).setCell ⟨b2, 0, none⟩ (.slice (some ⟨gC, 0, none⟩) p.consts.length c)).setCell ⟨b2, 1, none⟩ (.slice (some ⟨gF, 0, none⟩) p.funcs.length d)) := (hsT.out.mono (fun _ _ h => Or.inl h)).trans (((Chg.refl (fun b => b = b2) _).setCell (p := ⟨b2, 0, none⟩) (fun _ => rfl) (.slice (some ⟨gC, 0, none⟩) p.consts.length c)).setCell (p := ⟨b2, 1, none⟩) (fun _ => rfl) (.slice (some ⟨gF, 0, none⟩) p.funcs.length d)) (fun _ _ h => Or.inr h)
                          have hlow : ∀ b, b = b3 ∨ b = b2 → b < W0.heap.size := fun b hb => by have := hL.out.lt; have := hbo.out; rcases hb with h | h <;> omega
                          refine ⟨gC, gF, c, d, fs, rfl, hcc, hdd, ?_, ?_, ?_⟩
                          · exact lent_view hL.out hcs.out hF.out hMk.out hrl hms (fun k r f h1 h2 => by obtain ⟨a1, a2, a3, _, _⟩ := hPA.out.raw k r f h1 h2; exact ⟨a1, a2, a3⟩) hfin hlow
                          · exact ((hc0.out.trans hL.out.ch (fun b hb e => by have := hbo.out; omega)).trans hsT.out (fun b hb e => by have := hbo.out; omega)).trans (((Chg.refl (fun b => b = b2) _).setCell (p := ⟨b2, 0, none⟩) (fun _ => rfl) _).setCell (p := ⟨b2, 1, none⟩) (fun _ => rfl) _) (fun b hb e => by have := hbo.out; omega)
                          · exact lent_own hL.out hcs.out hF.out hMk.out hrl hms hfin hlow hc0.out.size
end Go.Proofs.YtgaackedappmgaaDoor.K
