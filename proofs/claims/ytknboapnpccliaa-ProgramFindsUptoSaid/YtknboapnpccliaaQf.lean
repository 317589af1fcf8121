import Derived.Test.YtknboapnpccliaaQe
import Derived.IntWalk
import Derived.BigQuiet
import Derived.Deep.RegionHeld3
namespace Go.Proofs.Ytknboapnpccliaa.K
open Go.RowKit Go.Proofs.YtknboapnpccliaaW.PrintWords Go.Proofs.YtknboapnpccliaaW.PrintLast Go.Proofs.YtknboapnpccliaaW.PrintMore
set_option linter.unusedVariables false
set_option linter.unusedSimpArgs false
set_option maxRecDepth 100000

/-- A block of a kind, of so many cells at the least. -/
def Sh (w : World) (b : Nat) (t : TypeId) (n : Nat) : Prop := ∃ cs, w.heap[b]? = some (.cells cs t (0, 0)) ∧ n ≤ cs.size
theorem Sh.set {w : World} {b n : Nat} {t : TypeId} (h : Sh w b t n) (g i : Nat) (u : Value) : Sh (w.setCell ⟨g, i, none⟩ u) b t n := by
  obtain ⟨cs, e, hn⟩ := h
  by_cases hg : b = g
  · subst hg
    exact ⟨_, blk_set e i u, by rw [Array.size_setIfInBounds]; exact hn⟩
  · exact ⟨cs, ((Chg.refl (fun k => k = g) w).setCell (p := ⟨g, i, none⟩) (fun _ => rfl) u).blk e hg, hn⟩
theorem Sh.chg {w w' : World} {b n : Nat} {t : TypeId} {S : Nat → Prop} (h : Sh w b t n) (hc : Chg S w w') (hb : ¬ S b) : Sh w' b t n := by
  obtain ⟨cs, e, hn⟩ := h
  exact ⟨cs, hc.blk e hb, hn⟩
theorem Sh.cell {w : World} {b n : Nat} {t : TypeId} (h : Sh w b t n) (i : Nat) (hi : i < n) : (∃ v, w.cell? ⟨b, i, none⟩ = some v) ∧ w.frozen? ⟨b, i, none⟩ = false := by
  obtain ⟨cs, e, hn⟩ := h
  exact ⟨⟨cs[i], (blk_cell e i).trans (Array.getElem?_eq_getElem (by omega))⟩, blk_frozen e i⟩
theorem Sh.lt {w : World} {b n : Nat} {t : TypeId} (h : Sh w b t n) : b < w.heap.size := by
  obtain ⟨cs, e, hn⟩ := h
  exact blk_lt e
theorem Sh_of {α : Type} {kd : Kd α} {e : TypeId} {w : World} {ok : Nat → Prop} {v : SV} {xs : List α} (h : kd.R e w 0 ok (svl v) xs) (hp : 0 < xs.length) : ∃ b, v.1 = some ⟨b, 0, none⟩ ∧ (svl v).ownBlock = some b ∧ Sh w b e (xs.length * kd.sz) := by
  obtain ⟨h0, inner, ho, hrp⟩ := h
  rcases ho.2 with ⟨h1, h2⟩ | ⟨g', cap', cur, hv, _, hg, hnc, hcm, hcs, ht⟩
  · omega
  · unfold svl at hv ⊢
    injection hv with e1 e2 e3
    exact ⟨g', e1, by rw [e1]; rfl, cur, hg, by rw [hcs]; exact Nat.mul_le_mul_right _ hnc⟩
/-- While turned writes: the rows, and the shapes of the rest. -/
structure TW (W0 wr : World) (lo B gC gF d nc n : Nat) (fs : List QR) : Prop where
  ch : Chg (fun b => lo ≤ b ∧ b < B) W0 wr
  rf : Kd.R kQR 33 wr 0 (fun k => some k = (svl (some ⟨gF, 0, none⟩, 2 * n + 64, d)).ownBlock) (svl (some ⟨gF, 0, none⟩, 2 * n + 64, d)) fs
  sc : Sh wr gC 86 (nc * 3)
  sh : ∀ (k : Nat) (r : QR), k < n → fs[k]? = some r → ∃ b1 b2, r.code.1 = some ⟨b1, 0, none⟩ ∧ r.hnd.1 = some ⟨b2, 0, none⟩ ∧ (lo ≤ b1 ∧ b1 < B) ∧ (lo ≤ b2 ∧ b2 < B) ∧ Sh wr b1 92 (r.code.2.1 * 2) ∧ Sh wr b2 94 (r.hnd.2.1 * 4) ∧ r.code.2.1 ≤ 1048576 ∧ r.hnd.2.1 ≤ 1048576
  bc : lo ≤ gC ∧ gC < B
  bf : lo ≤ gF ∧ gF < B
theorem TW.set {W0 wr : World} {lo B gC gF d nc n b m : Nat} {t : TypeId} {fs : List QR} (h : TW W0 wr lo B gC gF d nc n fs) (hb : lo ≤ b ∧ b < B) (hs : Sh wr b t m) (ht : t ≠ 33) (i : Nat) (u : Value) : TW W0 (wr.setCell ⟨b, i, none⟩ u) lo B gC gF d nc n fs := by
  have hc : Chg (fun k => k = b) wr (wr.setCell ⟨b, i, none⟩ u) := (Chg.refl (fun k => k = b) wr).setCell (p := ⟨b, i, none⟩) (fun _ => rfl) _
  refine ⟨h.ch.trans hc (fun k _ e => e ▸ hb), R_chg h.rf hc (fun k _ hk e => ?_), h.sc.set _ _ _, fun k r hk hr => ?_, h.bc, h.bf⟩
  · obtain ⟨c1, e1⟩ := Kd.R_typed h.rf k hk.symm
    obtain ⟨c2, e2, _⟩ := hs
    rw [e] at e1
    rw [e1] at e2
    injection e2 with e2
    injection e2 with _ e2
    exact ht e2.symm
  · obtain ⟨b1, b2, a1, a2, a3, a4, a5, a6, a7⟩ := h.sh k r hk hr
    exact ⟨b1, b2, a1, a2, a3, a4, a5.set _ _ _, a6.set _ _ _, a7⟩
theorem TW.put {W0 wr : World} {lo B gC gF d nc n i j : Nat} {fs : List QR} {r r' : QR} {u : Value} (h : TW W0 wr lo B gC gF d nc n fs) (hi : i < 2 * n + 64) (hx : fs[i]? = some r) (hr : qrCells r' = (qrCells r).set j u) (hj : j < 5) (h1 : r'.code = r.code) (h2 : r'.hnd = r.hnd) : TW W0 (wr.setCell ⟨gF, i * 5 + j, none⟩ u) lo B gC gF d nc n (fs.set i r') := by
  have hc : Chg (fun k => k = gF) wr (wr.setCell ⟨gF, i * 5 + j, none⟩ u) := (Chg.refl (fun k => k = gF) wr).setCell (p := ⟨gF, i * 5 + j, none⟩) (fun _ => rfl) _
  refine ⟨h.ch.trans hc (fun k _ e => e ▸ h.bf), R_putQ h.rf hi hx hr hj, h.sc.set _ _ _, fun k q hk hq => ?_, h.bc, h.bf⟩
  have hold : ∀ q, fs[k]? = some q → ∃ b1 b2, q.code.1 = some ⟨b1, 0, none⟩ ∧ q.hnd.1 = some ⟨b2, 0, none⟩ ∧ (lo ≤ b1 ∧ b1 < B) ∧ (lo ≤ b2 ∧ b2 < B) ∧ Sh (wr.setCell ⟨gF, i * 5 + j, none⟩ u) b1 92 (q.code.2.1 * 2) ∧ Sh (wr.setCell ⟨gF, i * 5 + j, none⟩ u) b2 94 (q.hnd.2.1 * 4) ∧ q.code.2.1 ≤ 1048576 ∧ q.hnd.2.1 ≤ 1048576 := fun q hq => by
    obtain ⟨b1, b2, a1, a2, a3, a4, a5, a6, a7⟩ := h.sh k q hk hq
    exact ⟨b1, b2, a1, a2, a3, a4, a5.set _ _ _, a6.set _ _ _, a7⟩
  by_cases hik : i = k
  · subst hik
    rw [List.getElem?_set, if_pos rfl, if_pos (List.getElem?_eq_some_iff.1 hx).1] at hq
    injection hq with hq
    subst hq
    rw [h1, h2]
    exact hold r hx
  · rw [List.getElem?_set_ne hik] at hq
    exact hold q hq
theorem TW.of {w W : World} {lo gC gF c d : Nat} {p : QP} {fs : List QR} (h : LOwn w lo gC gF c d p fs) (hcode : ∀ f ∈ p.funcs, f.code.length ≤ 1048576 ∧ f.hnd.length ≤ 1048576) (hc : Chg (fun _ => False) w W) : TW W W lo w.heap.size gC gF d p.consts.length p.funcs.length fs := by
  obtain ⟨b0, e0, o0, s0⟩ := Sh_of h.rc (by rw [List.length_append, kQCMarks_length]; omega)
  injection e0 with e0
  injection e0 with e0 _ _
  subst e0
  obtain ⟨cs, hcs, hn⟩ := s0
  have hF := Kd.R_typed h.rf gF rfl
  obtain ⟨cF, hF⟩ := hF
  refine ⟨Chg.refl _ _, R_chg h.rf hc (fun _ _ _ h => h), Sh.chg ⟨cs, hcs, ?_⟩ hc (fun h => h), fun k r hk hr => ?_, ⟨h.oc, blk_lt hcs⟩, ⟨h.of, blk_lt hF⟩⟩
  · rw [List.length_append] at hn
    have : kQC.sz = 3 := rfl
    rw [this] at hn
    omega
  · obtain ⟨f, hf⟩ : ∃ f, p.funcs[k]? = some f := ⟨_, List.getElem?_eq_getElem hk⟩
    obtain ⟨m, a1, a2, a3, a4, a5, a6⟩ := h.sh k f r hf hr
    obtain ⟨b1, e1, o1, s1⟩ := Sh_of a3 (by rw [List.length_append, kQIMarks_length]; omega)
    obtain ⟨b2, e2, o2, s2⟩ := Sh_of a4 (by rw [List.length_append, kQHMarks_length]; omega)
    have hl := hcode f (List.mem_of_getElem? hf)
    refine ⟨b1, b2, by rw [a1]; exact e1, by rw [a2]; exact e2, ⟨a5 b1 o1, s1.lt⟩, ⟨a6 b2 o2, s2.lt⟩, Sh.chg ?_ hc (fun h => h), Sh.chg ?_ hc (fun h => h), by rw [a1]; exact hl.1, by rw [a2]; exact hl.2⟩
    · obtain ⟨cs, x, y⟩ := s1
      refine ⟨cs, x, ?_⟩
      rw [a1]
      have : kQI.sz = 2 := rfl
      rw [List.length_append, this] at y
      simp only
      omega
    · obtain ⟨cs, x, y⟩ := s2
      refine ⟨cs, x, ?_⟩
      rw [a2]
      have : kQH.sz = 4 := rfl
      rw [List.length_append, this] at y
      simp only
      omega
set_option maxHeartbeats 4000000
theorem law_turned (w0 w : World) (lo gC gF c d : Nat) (p : QP) (fs : List QR) (h : LOwn w0 lo gC gF c d p fs) (hw : Chg (fun _ => False) w0 w) (hcc : p.consts.length + 64 ≤ c) (hdd : 2 * p.funcs.length + 64 ≤ d) (hn : p.consts.length ≤ 1048576) (hm : p.funcs.length ≤ 1048576) (hcode : ∀ f ∈ p.funcs, f.code.length ≤ 1048576 ∧ f.hnd.length ≤ 1048576) :
    Calls Try.prog 13 #[.agg #[.slice (some ⟨gC, 0, none⟩) p.consts.length c, .slice (some ⟨gF, 0, none⟩) p.funcs.length d]] w fun e w' => e = .returned (.tuple #[]) ∧ Chg (fun b => lo ≤ b ∧ b < w0.heap.size) w w' ∧ ∃ fs' : List QR, Kd.C kQR w' (some ⟨gF, 0, none⟩) (2 * p.funcs.length + 64) fs' ∧ ∀ k, k < p.funcs.length → ∃ r, fs'[k]? = some r ∧ r.name = ⟨#[111, 118, 101, 114]⟩ := by
  have hT0 := Aside0.mk (TW.of h hcode (hw.alloc (.cells #[.slice (some ⟨gC, 0, none⟩) p.consts.length c, .slice (some ⟨gF, 0, none⟩) p.funcs.length d] 25 (0, 0))))
  have hb0 := Aside0.mk (heap_alloc_new w (.cells #[.slice (some ⟨gC, 0, none⟩) p.consts.length c, .slice (some ⟨gF, 0, none⟩) p.funcs.length d] 25 (0, 0)))
  have hcc1 : (p.consts.length : Int) + 64 ≤ c := by omega
  have hdd1 : 2 * (p.funcs.length : Int) + 64 ≤ d := by omega
  have hBb := Aside0.mk hw.size
  clear h hcode hw
  go_enter Try.func13, Try.ntmps13
  go_wp2
  generalize hW : World.alloc w _ = W0 at hT0 hb0 ⊢
  replace hW := Aside0.mk hW
  obtain ⟨B, hB⟩ : ∃ B, B = w.heap.size := ⟨_, rfl⟩
  rw [← hB] at hb0 hBb ⊢
  replace hB := Aside0.mk hB
  go_loopw [2] (fun ix wr => ∃ k : Nat, ix = .int .i64 k ∧ k ≤ p.consts.length ∧ Aside0 (TW W0 wr lo w0.heap.size gC gF d p.consts.length p.funcs.length fs)) (fun ix _ => p.consts.length - (intOf ix).toNat)
  case atStart => exact ⟨0, rfl, by omega, hT0⟩
  case round =>
    obtain ⟨k, rfl, hk, hT⟩ := hrel
    obtain ⟨p0, p1⟩ : wr.cell? ⟨B, 0, none⟩ = some (.slice (some ⟨gC, 0, none⟩) p.consts.length c) ∧ wr.cell? ⟨B, 1, none⟩ = some (.slice (some ⟨gF, 0, none⟩) p.funcs.length d) := by
      have hbp := hT.out.ch.blk hb0.out (fun h => Nat.lt_irrefl _ (Nat.lt_of_lt_of_le h.2 hBb.out))
      exact ⟨blk_cell hbp 0, blk_cell hbp 1⟩
    by_cases hlt : k < p.consts.length
    · have hk0 : (0 : Int) ≤ k := by omega
      have hk1 : (k : Int) < p.consts.length := by omega
      obtain ⟨⟨v0, y0⟩, z0⟩ := hT.out.sc.cell (k * 3) (by omega)
      obtain ⟨⟨v1, y1⟩, z1⟩ := hT.out.sc.cell (k * 3 + 1) (by omega)
      obtain ⟨⟨v2, y2⟩, z2⟩ := hT.out.sc.cell (k * 3 + 2) (by omega)
      go_wp2
      go_roundw
      case measure => first | (simp [intOf]; done) | (simp [intOf]; omega)
      case rel => exact ⟨k + 1, by go_num, by omega, ⟨(((hT.out.set hT.out.bc hT.out.sc (by decide) _ _).set hT.out.bc (hT.out.sc.set _ _ _) (by decide) _ _).set hT.out.bc ((hT.out.sc.set _ _ _).set _ _ _) (by decide) _ _)⟩⟩
    · have hk1 : ¬ (k : Int) < p.consts.length := by omega
      go_wp2
      go_loopw [3, 4, 5] (fun ix _ _ wr => ∃ (k : Nat) (fs2 : List QR), ix = .int .i64 k ∧ k ≤ p.funcs.length ∧ Aside0 (TW W0 wr lo w0.heap.size gC gF d p.consts.length p.funcs.length fs2) ∧ Aside0 (∀ i, i < k → ∃ r, fs2[i]? = some r ∧ r.name = ⟨#[111, 118, 101, 114]⟩)) (fun ix _ _ _ => p.funcs.length - (intOf ix).toNat)
      case atStart => exact ⟨0, fs, rfl, by omega, hT, ⟨fun i hi => absurd hi (Nat.not_lt_zero _)⟩⟩
      case round =>
        clear p0 p1 hT hk hk1
        obtain ⟨k, fs2, rfl, hk, hT, hD⟩ := hrel
        obtain ⟨p0, p1⟩ : wr.cell? ⟨B, 0, none⟩ = some (.slice (some ⟨gC, 0, none⟩) p.consts.length c) ∧ wr.cell? ⟨B, 1, none⟩ = some (.slice (some ⟨gF, 0, none⟩) p.funcs.length d) := by
          have hbp := hT.out.ch.blk hb0.out (fun h => Nat.lt_irrefl _ (Nat.lt_of_lt_of_le h.2 hBb.out))
          exact ⟨blk_cell hbp 0, blk_cell hbp 1⟩
        by_cases hlt : k < p.funcs.length
        · have hk0 : (0 : Int) ≤ k := by omega
          have hk1 : (k : Int) < p.funcs.length := by omega
          have hfl : Aside0 (fs2.length = 2 * p.funcs.length + 64) := ⟨(R_toC hT.out.rf).1⟩
          obtain ⟨r, hr⟩ : ∃ r, fs2[k]? = some r := ⟨_, List.getElem?_eq_getElem (by have := hfl.out; omega)⟩
          replace hr := Aside0.mk hr
          obtain ⟨_, _, _, x3, x4⟩ := raw_own hT.out.rf k (by omega) hr.out
          go_wp2
          go_loopw [4] (fun ix wr => ∃ j : Nat, ix = .int .i64 j ∧ j ≤ r.code.2.1 ∧ Aside0 (TW W0 wr lo w0.heap.size gC gF d p.consts.length p.funcs.length fs2)) (fun ix _ => r.code.2.1 - (intOf ix).toNat)
          case atStart => exact ⟨0, rfl, by omega, hT⟩
          case round =>
            clear p0 p1 x3 x4 hT
            obtain ⟨j, rfl, hj, hT⟩ := hrel
            obtain ⟨p0, p1⟩ : wr.cell? ⟨B, 0, none⟩ = some (.slice (some ⟨gC, 0, none⟩) p.consts.length c) ∧ wr.cell? ⟨B, 1, none⟩ = some (.slice (some ⟨gF, 0, none⟩) p.funcs.length d) := by
              have hbp := hT.out.ch.blk hb0.out (fun h => Nat.lt_irrefl _ (Nat.lt_of_lt_of_le h.2 hBb.out))
              exact ⟨blk_cell hbp 0, blk_cell hbp 1⟩
            obtain ⟨_, _, _, x3, x4⟩ := raw_own hT.out.rf k (by omega) hr.out
            obtain ⟨b1, b2, e1, e2, hb1, hb2, s1, s2, n1, n2⟩ := hT.out.sh k r hlt hr.out
            rw [e1] at x3
            rw [e2] at x4
            by_cases hjl : j < r.code.2.1
            · have hj0 : (0 : Int) ≤ j := by omega
              have hj1 : (j : Int) < r.code.2.1 := by omega
              obtain ⟨⟨v0, y0⟩, z0⟩ := s1.cell (j * 2) (by omega)
              obtain ⟨⟨v1, y1⟩, z1⟩ := s1.cell (j * 2 + 1) (by omega)
              replace s1 := Aside0.mk s1
              replace s2 := Aside0.mk s2
              replace e1 := Aside0.mk e1
              replace e2 := Aside0.mk e2
              go_wp2
              go_roundw
              case measure => first | (simp [intOf]; done) | (simp [intOf]; omega)
              case rel =>
                exact ⟨j + 1, by go_num, by omega, ⟨((hT.out.set hb1 s1.out (by decide) _ _).set hb1 (s1.out.set _ _ _) (by decide) _ _)⟩⟩
            · obtain ⟨jl, hjE⟩ : ∃ jl, jl = r.code.2.1 := ⟨_, rfl⟩
              have hje : j = r.code.2.1 := by omega
              have hj1 : ¬ (j : Int) < r.code.2.1 := by omega
              replace hje := Aside0.mk hje
              replace hjE := Aside0.mk hjE
              replace s1 := Aside0.mk s1
              replace s2 := Aside0.mk s2
              replace e1 := Aside0.mk e1
              replace e2 := Aside0.mk e2
              go_wp2
              go_loopw [5] (fun ix wr => ∃ j : Nat, ix = .int .i64 j ∧ j ≤ r.hnd.2.1 ∧ Aside0 (TW W0 wr lo w0.heap.size gC gF d p.consts.length p.funcs.length fs2)) (fun ix _ => r.hnd.2.1 - (intOf ix).toNat)
              case atStart => exact ⟨0, rfl, by omega, hT⟩
              case round =>
                clear p0 p1 x3 x4 hT
                obtain ⟨j, rfl, hj, hT⟩ := hrel
                obtain ⟨p0, p1⟩ : wr.cell? ⟨B, 0, none⟩ = some (.slice (some ⟨gC, 0, none⟩) p.consts.length c) ∧ wr.cell? ⟨B, 1, none⟩ = some (.slice (some ⟨gF, 0, none⟩) p.funcs.length d) := by
                  have hbp := hT.out.ch.blk hb0.out (fun h => Nat.lt_irrefl _ (Nat.lt_of_lt_of_le h.2 hBb.out))
                  exact ⟨blk_cell hbp 0, blk_cell hbp 1⟩
                obtain ⟨_, _, _, x3, x4⟩ := raw_own hT.out.rf k (by omega) hr.out
                obtain ⟨b1, b2, e1, e2, hb1, hb2, s1, s2, n1, n2⟩ := hT.out.sh k r hlt hr.out
                rw [e1] at x3
                rw [e2] at x4
                by_cases hjl : j < r.hnd.2.1
                · have hj0 : (0 : Int) ≤ j := by omega
                  have hj1 : (j : Int) < r.hnd.2.1 := by omega
                  obtain ⟨⟨v0, y0⟩, z0⟩ := s2.cell (j * 4) (by omega)
                  obtain ⟨⟨v1, y1⟩, z1⟩ := s2.cell (j * 4 + 1) (by omega)
                  obtain ⟨⟨v2, y2⟩, z2⟩ := s2.cell (j * 4 + 2) (by omega)
                  obtain ⟨⟨v3, y3⟩, z3⟩ := s2.cell (j * 4 + 3) (by omega)
                  replace s1 := Aside0.mk s1
                  replace s2 := Aside0.mk s2
                  replace e1 := Aside0.mk e1
                  replace e2 := Aside0.mk e2
                  go_wp2
                  go_roundw
                  case measure => first | (simp [intOf]; done) | (simp [intOf]; omega)
                  case rel =>
                    exact ⟨j + 1, by go_num, by omega, ⟨((((hT.out.set hb2 s2.out (by decide) _ _).set hb2 (s2.out.set _ _ _) (by decide) _ _).set hb2 ((s2.out.set _ _ _).set _ _ _) (by decide) _ _).set hb2 (((s2.out.set _ _ _).set _ _ _).set _ _ _) (by decide) _ _)⟩⟩
                · obtain ⟨jl, hjE⟩ : ∃ jl, jl = r.hnd.2.1 := ⟨_, rfl⟩
                  have hje : j = r.hnd.2.1 := by omega
                  have hj1 : ¬ (j : Int) < r.hnd.2.1 := by omega
                  replace hje := Aside0.mk hje
                  replace hjE := Aside0.mk hjE
                  replace s1 := Aside0.mk s1
                  replace s2 := Aside0.mk s2
                  replace e1 := Aside0.mk e1
                  replace e2 := Aside0.mk e2
                  obtain ⟨x0, x1, _, _, _⟩ := raw_own hT.out.rf k (by omega) hr.out
                  obtain ⟨cF, hcF⟩ := Kd.R_typed hT.out.rf gF rfl
                  have f0 := blk_frozen hcF (k * 5)
                  have hT1 := hT.out.put (u := .string ⟨#[111, 118, 101, 114]⟩) (r' := ⟨⟨#[111, 118, 101, 114]⟩, r.pars, r.locs, r.code, r.hnd⟩) (j := 0) (i := k) (by omega) hr.out rfl (by decide) rfl rfl
                  rw [Nat.add_zero] at hT1
                  obtain ⟨x10, x11, _, _, _⟩ := raw_own hT1.rf k (by omega) (by rw [List.getElem?_set, if_pos rfl, if_pos (by have := hfl.out; omega)])
                  obtain ⟨cF1, hcF1⟩ := Kd.R_typed hT1.rf gF rfl
                  have f1 := blk_frozen hcF1 (k * 5 + 1)
                  have hT2 := hT1.put (u := .int .i64 (-1)) (r := ⟨⟨#[111, 118, 101, 114]⟩, r.pars, r.locs, r.code, r.hnd⟩) (r' := ⟨⟨#[111, 118, 101, 114]⟩, -1, r.locs, r.code, r.hnd⟩) (j := 1) (i := k) (by omega) (by rw [List.getElem?_set, if_pos rfl, if_pos (by have := hfl.out; omega)]) rfl (by decide) rfl rfl
                  rw [List.set_set] at hT2
                  have q1 := blk_cell (hT1.ch.blk hb0.out (fun h => Nat.lt_irrefl _ (Nat.lt_of_lt_of_le h.2 hBb.out))) 1
                  replace hT1 := Aside0.mk hT1
                  replace hT2 := Aside0.mk hT2
                  replace hcF := Aside0.mk hcF
                  replace hcF1 := Aside0.mk hcF1
                  go_wp2
                  go_roundw
                  case measure => first | (simp [intOf]; done) | (simp [intOf]; omega)
                  case rel =>
                    refine ⟨k + 1, _, by go_num, by omega, hT2, ⟨fun i hi => ?_⟩⟩
                    by_cases hik : i = k
                    · subst hik
                      exact ⟨_, by rw [List.getElem?_set, if_pos rfl, if_pos (by have := hfl.out; omega)], rfl⟩
                    · rw [List.getElem?_set_ne (fun e => hik e.symm)]
                      exact hD.out i (by omega)
        · have hk1 : ¬ (k : Int) < p.funcs.length := by omega
          have hke : Aside0 (k = p.funcs.length) := ⟨by omega⟩
          go_wp2
          go_end0
          refine ⟨rfl, ?_, fs2, R_toC hT.out.rf, fun i hi => hD.out i (by have := hke.out; omega)⟩
          have h0 : Chg (fun b => lo ≤ b ∧ b < w0.heap.size) w W0 := by rw [← hW.out]; exact (Chg.refl _ w).alloc _
          exact h0.trans hT.out.ch (fun _ _ h => h)

end Go.Proofs.Ytknboapnpccliaa.K
