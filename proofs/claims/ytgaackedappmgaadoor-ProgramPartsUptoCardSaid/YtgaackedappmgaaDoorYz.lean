import Derived.Test.YtgaackedappmgaaDoorYy
import Derived.IntWalk
import Derived.BigQuiet
namespace Go.Proofs.YtgaackedappmgaaDoor.K
open Go.RowKit Go.Proofs.YtgaackedappmgaaDoorW.PrintWords Go.Proofs.YtgaackedappmgaaDoorW.PrintLast Go.Proofs.YtgaackedappmgaaDoorW.PrintMore
set_option linter.unusedVariables false
set_option linter.unusedSimpArgs false
set_option maxRecDepth 100000
theorem POwn.addH {w w1 : World} {lo gF n c k : Nat} {vC v' : SV} {p : QP} {rs : List QR} {r : QR} {f : QF} {hs' : List QH} (h : POwn w lo vC (some ⟨gF, 0, none⟩, n, c) p rs) (ha : RApart rs) (hx : rs[k]? = some r) (hf : p.funcs[k]? = some f) (hl : lo ≤ w.heap.size) (hc : Chg (fun b => (svl r.hnd).ownBlock = some b) w w1) (hr : Kd.R kQH 54 w1 0 (New (fun b => (svl r.hnd).ownBlock = some b) w w1) (svl v') hs') : POwn (w1.setCell ⟨gF, k * 5 + 4, none⟩ (svl v')) lo vC (some ⟨gF, 0, none⟩, n, c) ⟨p.consts, p.funcs.set k ⟨f.name, f.pars, f.locs, f.code, hs'⟩⟩ (rs.set k ⟨r.name, r.pars, r.locs, r.code, v'⟩) ∧ RApart (rs.set k ⟨r.name, r.pars, r.locs, r.code, v'⟩) := by
  obtain ⟨a1, a2, a3, a4, a5⟩ := h.fn.2 k r f hx hf
  obtain ⟨c1, c2, c3, c4⟩ := h.hitH ha hx hf (fun b e => e) hc
  have h5 : Oq kQH 54 w1 lo v' hs' := Oq.app rfl a5 hr hl
  have hs : Chg (fun b => b = gF) w1 (w1.setCell ⟨gF, k * 5 + 4, none⟩ (svl v')) := (Chg.refl (fun b => b = gF) w1).setCell (p := ⟨gF, k * 5 + 4, none⟩) (fun _ => rfl) _
  obtain ⟨cs, hcs⟩ := Kd.R_typed c2.1 gF rfl
  have hh : ∀ {ts : List TypeId}, 47 ∉ ts → HitsQ w1 lo (fun b => b = gF) ts := fun ht b cs' t hb _ hq hm => by
    subst hb
    rw [hcs] at hq
    injection hq with hq
    injection hq with _ hq
    rw [hq] at ht
    exact ht hm
  have hkl := (List.getElem?_eq_some_iff.1 hf).1
  have hkr := (List.getElem?_eq_some_iff.1 hx).1
  refine ⟨⟨c1.hit hs (hh (ts := [39]) (by decide)) (by decide), Oq.put kQR_K kQR_M rfl c2 hx rfl (by decide), by simp only [List.length_set]; exact h.fn.1, fun i a g hi hg => ?_⟩, ha.set hx (fun i a hik hi => ⟨(ha.any hik hi hx).1, fun b e1 e2 => ?_⟩)⟩
  · simp only at hg
    by_cases e : k = i
    · subst e
      rw [List.getElem?_set, if_pos rfl, if_pos hkr] at hi
      rw [List.getElem?_set, if_pos rfl, if_pos hkl] at hg
      injection hi with hi
      injection hg with hg
      subst hi hg
      exact ⟨a1, a2, a3, c3.hit hs (hh (ts := [50]) (by decide)) (by decide), h5.hit hs (hh (ts := [54]) (by decide)) (by decide)⟩
    · rw [List.getElem?_set_ne e] at hi hg
      obtain ⟨b1, b2, b3, _, _⟩ := h.fn.2 i a g hi hg
      obtain ⟨b4, b5⟩ := c4 i a g (fun x => e x.symm) hi hg
      exact ⟨b1, b2, b3, b4.hit hs (hh (ts := [50]) (by decide)) (by decide), b5.hit hs (hh (ts := [54]) (by decide)) (by decide)⟩
  · obtain ⟨g, hg⟩ : ∃ g, p.funcs[i]? = some g := ⟨_, List.getElem?_eq_getElem (by have := (List.getElem?_eq_some_iff.1 hi).1; rw [← h.fn.1]; exact this)⟩
    obtain ⟨_, _, _, _, b5⟩ := h.fn.2 i a g hi hg
    rcases hr.1 b e2 with h1 | h1
    · exact (ha.any hik hi hx).2 b e1 h1
    · have := b5.lt b e1; have := h1.1; omega
theorem POwn.hitR {w w' : World} {lo gH n c k : Nat} {vC vF : SV} {p : QP} {rs : List QR} {r : QR} {f f' : QF} (h : POwn w lo vC vF p rs) (ha : RApart rs) (hx : rs[k]? = some r) (hf : p.funcs[k]? = some f) (he : r.hnd = (some ⟨gH, 0, none⟩, n, c)) (hs : Chg (fun b => b = gH) w w') (hf' : f'.name = f.name ∧ f'.pars = f.pars ∧ f'.locs = f.locs ∧ f'.code = f.code) (ho : Oq kQH 54 w lo (some ⟨gH, 0, none⟩, n, c) f.hnd → Oq kQH 54 w' lo (some ⟨gH, 0, none⟩, n, c) f'.hnd) : POwn w' lo vC vF ⟨p.consts, p.funcs.set k f'⟩ rs := by
  obtain ⟨a1, a2, a3, a4, a5⟩ := h.fn.2 k r f hx hf
  obtain ⟨c1, c2, c3, c4⟩ := h.hitH ha hx hf (S := fun b => b = gH) (fun b e => by rw [he, e]; rfl) hs
  have hkl := (List.getElem?_eq_some_iff.1 hf).1
  refine ⟨c1, c2, by simp only [List.length_set]; exact h.fn.1, fun i a g hi hg => ?_⟩
  simp only at hg
  by_cases e : k = i
  · subst e
    rw [hx] at hi
    rw [List.getElem?_set, if_pos rfl, if_pos hkl] at hg
    injection hi with hi
    injection hg with hg
    subst hi hg
    rw [he] at a5
    exact ⟨by rw [hf'.1]; exact a1, by rw [hf'.2.1]; exact a2, by rw [hf'.2.2.1]; exact a3, by rw [hf'.2.2.2]; exact c3, by rw [he]; exact ho a5⟩
  · rw [List.getElem?_set_ne e] at hg
    obtain ⟨b1, b2, b3, _, _⟩ := h.fn.2 i a g hi hg
    obtain ⟨b4, b5⟩ := c4 i a g (fun x => e x.symm) hi hg
    exact ⟨b1, b2, b3, b4, b5⟩
theorem oq_putH {w : World} {lo gH n c m : Nat} {xs : List QH} {y : QH} (h : Oq kQH 54 w lo (some ⟨gH, 0, none⟩, n, c) xs) (hm : xs[m]? = some y) (x : QH) : Oq kQH 54 ((((w.setCell ⟨gH, m * 4, none⟩ (.int .i64 x.frm)).setCell ⟨gH, m * 4 + 1, none⟩ (.int .i64 x.upto)).setCell ⟨gH, m * 4 + 2, none⟩ (.int .i64 x.tgt)).setCell ⟨gH, m * 4 + 3, none⟩ (.int .i64 x.hgt)) lo (some ⟨gH, 0, none⟩, n, c) (xs.set m x) := by
  have hk := (List.getElem?_eq_some_iff.1 hm).1
  have h1 := Oq.put (cells := ciQH) (m := 4) (j := 0) (r' := ⟨x.frm, y.upto, y.tgt, y.hgt⟩) (u := .int .i64 x.frm) kQH_K kQH_M rfl h hm rfl (by decide)
  have h2 := Oq.put (cells := ciQH) (i := m) (m := 4) (j := 1) (r := ⟨x.frm, y.upto, y.tgt, y.hgt⟩) (r' := ⟨x.frm, x.upto, y.tgt, y.hgt⟩) (u := .int .i64 x.upto) kQH_K kQH_M rfl h1 (by rw [List.getElem?_set, if_pos rfl, if_pos hk]) rfl (by decide)
  have h3 := Oq.put (cells := ciQH) (i := m) (m := 4) (j := 2) (r := ⟨x.frm, x.upto, y.tgt, y.hgt⟩) (r' := ⟨x.frm, x.upto, x.tgt, y.hgt⟩) (u := .int .i64 x.tgt) kQH_K kQH_M rfl h2 (by rw [List.set_set, List.getElem?_set, if_pos rfl, if_pos hk]) rfl (by decide)
  have h4 := Oq.put (cells := ciQH) (i := m) (m := 4) (j := 3) (r := ⟨x.frm, x.upto, x.tgt, y.hgt⟩) (r' := x) (u := .int .i64 x.hgt) kQH_K kQH_M rfl h3 (by rw [List.set_set, List.set_set, List.getElem?_set, if_pos rfl, if_pos hk]) rfl (by decide)
  simp only [List.set_set] at h4
  exact h4
theorem oq_putI {w : World} {lo gI n c m : Nat} {xs : List QI} {y : QI} (h : Oq kQI 50 w lo (some ⟨gI, 0, none⟩, n, c) xs) (hm : xs[m]? = some y) (x : QI) : Oq kQI 50 ((w.setCell ⟨gI, m * 2, none⟩ (.int .i64 x.op)).setCell ⟨gI, m * 2 + 1, none⟩ (.int .i64 x.a)) lo (some ⟨gI, 0, none⟩, n, c) (xs.set m x) := by
  have hk := (List.getElem?_eq_some_iff.1 hm).1
  have h1 := Oq.put (cells := ciQI) (m := 2) (j := 0) (r' := ⟨x.op, y.a⟩) (u := .int .i64 x.op) kQI_K kQI_M rfl h hm rfl (by decide)
  have h2 := Oq.put (cells := ciQI) (i := m) (m := 2) (j := 1) (r := ⟨x.op, y.a⟩) (r' := x) (u := .int .i64 x.a) kQI_K kQI_M rfl h1 (by rw [List.getElem?_set, if_pos rfl, if_pos hk]) rfl (by decide)
  simp only [List.set_set] at h2
  exact h2
theorem POwn.hitB {w w' : World} {lo g : Nat} {vC vF : SV} {p : QP} {rs : List QR} {cs : Array Value} (h : POwn w lo vC vF p rs) (hb : w.heap[g]? = some (.cells cs 54 (0, 0))) (hs : Chg (fun b => b = g) w w') (hn : ∀ (i : Nat) (a : QR), rs[i]? = some a → (svl a.hnd).ownBlock ≠ some g) : POwn w' lo vC vF p rs := by
  have hh : ∀ {ts : List TypeId}, 54 ∉ ts → HitsQ w lo (fun b => b = g) ts := fun ht b cs' t hb' _ hq hm => by
    subst hb'
    rw [hb] at hq
    injection hq with hq
    injection hq with _ hq
    rw [← hq] at hm
    exact ht hm
  refine ⟨h.cs.hit hs (hh (ts := [39]) (by decide)) (by decide), h.fs.hit hs (hh (ts := [47]) (by decide)) (by decide), h.fn.1, fun i a f hi hf => ?_⟩
  obtain ⟨b1, b2, b3, b4, b5⟩ := h.fn.2 i a f hi hf
  exact ⟨b1, b2, b3, b4.hit hs (hh (ts := [50]) (by decide)) (by decide), b5.chg hs (fun b e1 e2 => hn i a hi (by rw [e1, e2]))⟩
theorem kQH_own {w : World} {g n : Nat} {l : List QH} (h : Kd.C kQH w (some ⟨g, 0, none⟩) n l) (i : Nat) (h1 : i < n) : ∃ a b c d, l[i]? = some ⟨a, b, c, d⟩ ∧ w.cell? ⟨g, i * 4, none⟩ = some (.int .i64 a) ∧ w.cell? ⟨g, i * 4 + 1, none⟩ = some (.int .i64 b) ∧ w.cell? ⟨g, i * 4 + 2, none⟩ = some (.int .i64 c) ∧ w.cell? ⟨g, i * 4 + 3, none⟩ = some (.int .i64 d) := by
  obtain ⟨ad, a, b, c, d, e1, e2, x0, x1, x2, x3⟩ := kQH_at h i h1
  injection e1 with e1
  subst e1
  rw [add_plain] at x0 x1 x2 x3
  exact ⟨a, b, c, d, e2, x0, x1, x2, x3⟩
theorem kQI_own {w : World} {g n : Nat} {l : List QI} (h : Kd.C kQI w (some ⟨g, 0, none⟩) n l) (i : Nat) (h1 : i < n) : ∃ a b, l[i]? = some ⟨a, b⟩ ∧ w.cell? ⟨g, i * 2, none⟩ = some (.int .i64 a) ∧ w.cell? ⟨g, i * 2 + 1, none⟩ = some (.int .i64 b) := by
  obtain ⟨ad, a, b, e1, e2, x0, x1⟩ := kQI_at h i h1
  injection e1 with e1
  subst e1
  rw [add_plain] at x0 x1
  exact ⟨a, b, e2, x0, x1⟩
theorem set_lastH {l : List QH} {a x : QH} : (l ++ [a]).set l.length x = l ++ [x] := by rw [List.set_append_right (h := Nat.le_refl _)]; simp
theorem hnd_more {p : QP} {k : Nat} {f : QF} (h : Fits p) (hf : p.funcs[k]? = some f) (hm : f.hnd.length < 32) (x : QH) : (handlerQ x f.code.length = true → Fits ⟨p.consts, p.funcs.set k ⟨f.name, f.pars, f.locs, f.code, f.hnd ++ [x]⟩⟩) ∧ (handlerQ x f.code.length = false → checkP chkP ⟨p.consts, p.funcs.set k ⟨f.name, f.pars, f.locs, f.code, f.hnd ++ [x]⟩⟩ = (((k : Int), (f.hnd.length : Int)), 8)) := by
  have hkl := (List.getElem?_eq_some_iff.1 hf).1
  have hok := fn_ok (h.fs k f hf)
  refine ⟨fun hx => fits_set h hf rfl ?_, fun hx => check_func h hf ?_ (by decide)⟩
  · exact congrArg Prod.snd (fn_is (f' := ⟨f.name, f.pars, f.locs, f.code, f.hnd ++ [x]⟩) hok hkl rfl rfl rfl rfl (rest_hnd_ok hok.rest rfl (by simp only [List.length_set]) rfl rfl (by simp only [List.length_append, List.length_singleton]; omega) (fun j y hy => by
      (try simp only at hy)
      rcases Nat.lt_or_ge j f.hnd.length with h1 | h1
      · rw [List.getElem?_append_left h1] at hy
        exact (rest_ok hok.rest).2.2 j y hy
      · rw [List.getElem?_append_right h1] at hy
        have : j - f.hnd.length = 0 := by have := (List.getElem?_eq_some_iff.1 hy).1; simp at this; omega
        rw [this] at hy
        simp at hy
        rw [← hy]; exact hx)))
  · exact fn_is (f' := ⟨f.name, f.pars, f.locs, f.code, f.hnd ++ [x]⟩) hok hkl rfl rfl rfl rfl (rest_hnd_bad hok.rest rfl (by simp only [List.length_set]) rfl rfl rfl hm hx)
set_option maxHeartbeats 16000000
theorem law_handlerFound (w : World) (vA : Option Addr) (gF vK uK lo : Nat) (p : QP) (rs : List QR) (k : Nat) (how : Int) (hO : POwn w lo (vA, p.consts.length, vK) (some ⟨gF, 0, none⟩, p.funcs.length, uK) p rs) (hAp : RApart rs) (hw : PWf p) (hft : Fits p) (hk : k < p.funcs.length) (hh : -9223372036854775808 ≤ how ∧ how ≤ 9223372036854775807) (hl0 : 0 < lo) (hll : lo ≤ w.heap.size) (hE : w.cell? ⟨0, 0, none⟩ = some (.iface 114 (.agg #[.pointer (some ⟨2, 68, none⟩)]))) :
    Calls Tryd.prog 18 #[.agg #[.slice vA p.consts.length vK, .slice (some ⟨gF, 0, none⟩) p.funcs.length uK], .int .i64 (k : Int), .int .i64 how] w fun e w' => e = .returned (.bool true) ∧ Chg (fun b => lo ≤ b) w w' := by
  have hOA := Aside0.mk hO
  have hApA := Aside0.mk hAp
  have hwA := Aside0.mk hw
  have hEA := Aside0.mk hE
  have hfit := Aside0.mk hft
  have hh' := Aside0.mk hh
  have hloA : Aside0 (0 < lo ∧ lo ≤ w.heap.size) := ⟨hl0, hll⟩
  obtain ⟨f, hfx⟩ : ∃ f, p.funcs[k]? = some f := ⟨_, List.getElem?_eq_getElem hk⟩
  obtain ⟨r, hrx⟩ : ∃ r, rs[k]? = some r := ⟨_, List.getElem?_eq_getElem (by have := hO.fn.1; omega)⟩
  obtain ⟨a1, a2, a3, a4, a5⟩ := hO.fn.2 k r f hrx hfx
  obtain ⟨nm, pa, lc, ⟨iA, iN, iC⟩, ⟨jA, jN, jC⟩⟩ := r
  have a6 := a4.toC.1
  have a7 := a5.toC.1
  simp only at a1 a2 a3 a6 a7
  subst a1 a2 a3 a6 a7
  have hok := Aside0.mk (fn_ok (hft.fs k f hfx))
  have hsz := Aside0.mk (hw.sm.fs f (List.mem_of_getElem? hfx))
  have hfA := Aside0.mk hfx
  have hrA := Aside0.mk hrx
  have hjg : Aside0 (∀ b, (svl (jA, f.hnd.length, jC)).ownBlock = some b → lo ≤ b ∧ b < w.heap.size ∧ b ≠ gF) := ⟨fun b hb => ⟨a5.2 b hb, a5.lt b hb, fun e => by subst e; exact Oq.ne a5 hO.fs (by decide) b hb rfl⟩⟩
  have ha5 := Aside0.mk a5
  have hgF : Aside0 (lo ≤ gF ∧ gF < w.heap.size) := ⟨hO.fs.2 gF rfl, hO.fs.lt gF rfl⟩
  clear hO hAp hw hft hh hl0 hll hE hfx hrx a4 a5
  go_enter Tryd.func18, Tryd.ntmps18
  go_upto_region 1 with (fail)
  (try simp only [Act.put, List.setIfInBounds_toArray, List.set_cons_zero, List.set_cons_succ])
  generalize hW : World.alloc w _ = W0
  have B1 : Aside0 (W0.heap[w.heap.size]? = some (.cells #[.slice vA p.consts.length vK, .slice (some ⟨gF, 0, none⟩) p.funcs.length uK] 25)) := ⟨by rw [← hW]; exact heap_alloc_new w _⟩
  have hz0 : Aside0 (Chg (fun _ => False) w W0) := ⟨by rw [← hW]; exact cg⟩
  clear hW
  have hown := Aside0.mk (hOA.out.new hz0.out)
  have hb20 : Aside0 (w.heap.size < W0.heap.size) := ⟨blk_lt B1.out⟩
  obtain ⟨x0, x1, x2, x3, x4⟩ := raw_ownC hown.out.fs.toC k hk hrA.out
  clear x0 x1 x2
  have hk0 : (0 : Int) ≤ k := by omega
  have hk1 : (k : Int) < p.funcs.length := by omega
  have q0 : W0.cell? ⟨w.heap.size, 0, none⟩ = some (.slice vA p.consts.length vK) := blk_cell B1.out 0
  have q1 : W0.cell? ⟨w.heap.size, 1, none⟩ = some (.slice (some ⟨gF, 0, none⟩) p.funcs.length uK) := blk_cell B1.out 1
  by_cases h32 : 32 ≤ f.hnd.length
  · have h33 : (32 : Int) ≤ f.hnd.length := by omega
    go_wp2
    go_ret
    exact ⟨rfl, (Chg.refl (fun b => lo ≤ b) w).trans hz0.out (fun _ _ h => h.elim)⟩
  have h33 : ¬ (32 : Int) ≤ f.hnd.length := by omega
  have h32A : Aside0 (f.hnd.length < 32) := ⟨by omega⟩
  clear h32
  go_upto_region 6 with (fail)
  (try simp only [Act.put, List.setIfInBounds_toArray, List.set_cons_zero, List.set_cons_succ])
  generalize hW : World.alloc W0 _ = W1
  have B2 : Aside0 (W1.heap[W0.heap.size]? = some (.cells #[.int .i64 0, .int .i64 (f.code.length : Int), .int .i64 0, .int .i64 0] 54)) := ⟨by rw [← hW]; exact heap_alloc_new W0 _⟩
  have hz1 : Aside0 (Chg (fun _ => False) W0 W1) := ⟨by rw [← hW]; exact cg⟩
  clear hW
  have hz01 : Aside0 (Chg (fun _ => False) w W1) := ⟨hz0.out.trans hz1.out (fun _ _ h => h)⟩
  replace hown := Aside0.mk (hown.out.new hz1.out)
  replace B1 := Aside0.mk (hz1.out.blk B1.out (fun h => h))
  clear q0 q1 x3 x4 h33
  have q1 : W1.cell? ⟨w.heap.size, 1, none⟩ = some (.slice (some ⟨gF, 0, none⟩) p.funcs.length uK) := blk_cell B1.out 1
  obtain ⟨_, _, _, x3, x4⟩ := raw_ownC hown.out.fs.toC k hk hrA.out
  clear x3
  obtain ⟨cu, hcu⟩ := Kd.R_typed hown.out.fs.1 gF rfl
  replace hcu := Aside0.mk hcu
  have hb2 : Aside0 (w.heap.size < W0.heap.size ∧ W0.heap.size < W1.heap.size) := ⟨hb20.out, blk_lt B2.out⟩
  have g0 : W1.cell? ⟨W0.heap.size, 0, none⟩ = some (.int .i64 0) := blk_cell B2.out 0
  have g1 : W1.cell? ⟨W0.heap.size, 1, none⟩ = some (.int .i64 (f.code.length : Int)) := blk_cell B2.out 1
  have g2 : W1.cell? ⟨W0.heap.size, 2, none⟩ = some (.int .i64 0) := blk_cell B2.out 2
  have g3 : W1.cell? ⟨W0.heap.size, 3, none⟩ = some (.int .i64 0) := blk_cell B2.out 3
  have ha51 : Aside0 (Oq kQH 54 W1 lo (jA, f.hnd.length, jC) f.hnd) := ⟨ha5.out.chg hz01.out (fun _ _ h => h)⟩
  have hl : Aside0 ((f.hnd.length + 1) * 32 ≤ 140737488355328) := ⟨by have := h32A.out; omega⟩
  have hRd := own_new ha51.out.1
  have hCd : Aside0 (Chg (fun b => (svl (jA, f.hnd.length, jC)).ownBlock = some b) W1 W1.drew) := ⟨(Chg.refl _ _).drew⟩
  have hno : Aside0 (¬ (svl (jA, f.hnd.length, jC)).ownBlock = some gF) := ⟨fun e => (hjg.out _ e).2.2 rfl⟩
  have hno1 : Aside0 (¬ (svl (jA, f.hnd.length, jC)).ownBlock = some w.heap.size) := ⟨fun e => by have := (hjg.out _ e).2.1; omega⟩
  have hno2 : Aside0 (¬ (svl (jA, f.hnd.length, jC)).ownBlock = some W0.heap.size) := ⟨fun e => by have := (hjg.out _ e).2.1; have := hb2.out; omega⟩
  refine start_ (n := 15) (S := fun w' => w'.cell? ⟨w.heap.size, 1, none⟩ = some (.slice (some ⟨gF, 0, none⟩) p.funcs.length uK) ∧ w'.cell? ⟨gF, k * 5 + 4, none⟩ = some (.slice jA f.hnd.length jC) ∧ w'.cell? ⟨W0.heap.size, 0, none⟩ = some (.int .i64 0) ∧ w'.cell? ⟨W0.heap.size, 1, none⟩ = some (.int .i64 (f.code.length : Int)) ∧ w'.cell? ⟨W0.heap.size, 2, none⟩ = some (.int .i64 0) ∧ w'.cell? ⟨W0.heap.size, 3, none⟩ = some (.int .i64 0)) (ds := [14]) #[false, false, false, false, false, false, false, false, false, false, false, false, false, false, false] (by kernel_rfl) rfl rfl ⟨q1, x4, g0, g1, g2, g3⟩ (fun hHeld => ?_)
  refine pure_ (i := 0) (N := some 28) (v := ?_) (a' := ?_) #[true, false, false, false, false, false, false, false, false, false, false, false, false, false, false] rfl rfl (by kernel_rfl) (fun _ _ _ h => h) (Or.inl ⟨by rfl, ?_⟩) ?_ ?_
  rotate_left
  · intro w'
    go_simp
    with_reducible rfl
  rotate_left
  · simp only [Act.put, List.setIfInBounds_toArray, List.set_cons_zero, List.set_cons_succ, i64_w, i32_w]
    rfl
  refine pure_ (i := 2) (N := some 30) (v := ?_) (a' := ?_) #[true, false, true, false, false, false, false, false, false, false, false, false, false, false, false] rfl rfl (by kernel_rfl) (fun _ _ _ h => h) (Or.inl ⟨by rfl, ?_⟩) ?_ ?_
  rotate_left
  · intro w'
    go_simp
    with_reducible rfl
  rotate_left
  · simp only [Act.put, List.setIfInBounds_toArray, List.set_cons_zero, List.set_cons_succ, i64_w, i32_w]
    rfl
  refine pure_ (i := 3) (N := some 31) (v := ?_) (a' := ?_) #[true, false, true, true, false, false, false, false, false, false, false, false, false, false, false] rfl rfl (by kernel_rfl) (fun _ _ _ h => h) (Or.inl ⟨by rfl, ?_⟩) ?_ ?_
  rotate_left
  · intro w'
    go_simp
    with_reducible rfl
  rotate_left
  · simp only [Act.put, List.setIfInBounds_toArray, List.set_cons_zero, List.set_cons_succ, i64_w, i32_w]
    rfl
  refine pure_ (i := 5) (N := some 33) (v := ?_) (a' := ?_) #[true, false, true, true, false, true, false, false, false, false, false, false, false, false, false] rfl rfl (by kernel_rfl) (fun _ _ _ h => h) (Or.inl ⟨by rfl, ?_⟩) ?_ ?_
  rotate_left
  · intro w'
    go_simp
    with_reducible rfl
  rotate_left
  · simp only [Act.put, List.setIfInBounds_toArray, List.set_cons_zero, List.set_cons_succ, i64_w, i32_w]
    rfl
  refine take_ (i := 1) (N := some 29) (v := ?_) (a' := ?_) #[true, true, true, true, false, true, false, false, false, false, false, false, false, false, false] rfl rfl (by kernel_rfl) (fun _ _ _ h => h) (Or.inl ⟨by rfl, ?_⟩) hHeld ?_ ?_
  rotate_left
  · rintro w' ⟨s0, s1, s2, s3, s4, s5⟩
    go_simp
    with_reducible rfl
  rotate_left
  · simp only [Act.put, List.setIfInBounds_toArray, List.set_cons_zero, List.set_cons_succ, i64_w, i32_w]
    rfl
  refine take_ (i := 4) (N := some 32) (v := ?_) (a' := ?_) #[true, true, true, true, true, true, false, false, false, false, false, false, false, false, false] rfl rfl (by kernel_rfl) (fun _ _ _ h => h) (Or.inl ⟨by rfl, ?_⟩) hHeld ?_ ?_
  rotate_left
  · rintro w' ⟨s0, s1, s2, s3, s4, s5⟩
    go_simp
    with_reducible rfl
  rotate_left
  · simp only [Act.put, List.setIfInBounds_toArray, List.set_cons_zero, List.set_cons_succ, i64_w, i32_w]
    rfl
  refine pure_ (i := 6) (N := some 34) (v := ?_) (a' := ?_) #[true, true, true, true, true, true, true, false, false, false, false, false, false, false, false] rfl rfl (by kernel_rfl) (fun _ _ _ h => h) (Or.inl ⟨by rfl, ?_⟩) ?_ ?_
  rotate_left
  · intro w'
    go_simp
    with_reducible rfl
  rotate_left
  · simp only [Act.put, List.setIfInBounds_toArray, List.set_cons_zero, List.set_cons_succ, i64_w, i32_w]
    rfl
  refine pure_ (i := 7) (N := some 35) (v := ?_) (a' := ?_) #[true, true, true, true, true, true, true, true, false, false, false, false, false, false, false] rfl rfl (by kernel_rfl) (fun _ _ _ h => h) (Or.inl ⟨by rfl, ?_⟩) ?_ ?_
  rotate_left
  · intro w'
    go_simp
    with_reducible rfl
  rotate_left
  · simp only [Act.put, List.setIfInBounds_toArray, List.set_cons_zero, List.set_cons_succ, i64_w, i32_w]
    rfl
  refine take_ (i := 8) (N := some 36) (v := ?_) (a' := ?_) #[true, true, true, true, true, true, true, true, true, false, false, false, false, false, false] rfl rfl (by kernel_rfl) (fun _ _ _ h => h) (Or.inl ⟨by rfl, ?_⟩) hHeld ?_ ?_
  rotate_left
  · rintro w' ⟨s0, s1, s2, s3, s4, s5⟩
    go_simp
    with_reducible rfl
  rotate_left
  · simp only [Act.put, List.setIfInBounds_toArray, List.set_cons_zero, List.set_cons_succ, i64_w, i32_w]
    rfl
  refine take_ (i := 9) (N := some 37) (v := ?_) (a' := ?_) #[true, true, true, true, true, true, true, true, true, true, false, false, false, false, false] rfl rfl (by kernel_rfl) (fun _ _ _ h => h) (Or.inl ⟨by rfl, ?_⟩) hHeld ?_ ?_
  rotate_left
  · rintro w' ⟨s0, s1, s2, s3, s4, s5⟩
    go_simp
    with_reducible rfl
  rotate_left
  · simp only [Act.put, List.setIfInBounds_toArray, List.set_cons_zero, List.set_cons_succ, i64_w, i32_w]
    rfl
  refine one_ (i := 10) (N := some 38) #[true, true, true, true, true, true, true, true, true, true, true, false, false, false, false] rfl rfl (by kernel_rfl) (by decide) (fun K hK => ?_)
  refine value_ (w1 := ?_) (v := ?_) (by rfl) rfl ?_ ?_
  rotate_left 2
  · go_simp
    constructor
    · rfl
    · rfl
  refine hK.out _ _ ⟨(cellQ hHeld.1 _), (cellQ hHeld.2.1 _), (cellQ hHeld.2.2.1 _), (cellQ hHeld.2.2.2.1 _), (cellQ hHeld.2.2.2.2.1 _), (cellQ hHeld.2.2.2.2.2 _)⟩ (fun hHeld => ?_)
  clear hK K
  refine norm_ (a' := ?_) ?_ ?_
  rotate_left
  · show Act.put _ (some 38) _ = _
    simp only [Act.put, List.setIfInBounds_toArray, List.set_cons_zero, List.set_cons_succ, i64_w, i32_w]
    rfl
  refine one_ (i := 11) (N := some 39) #[true, true, true, true, true, true, true, true, true, true, true, true, false, false, false] rfl rfl (by kernel_rfl) (by decide) (fun K hK => ?_)
  refine app1T kQH (by rfl) (.tmp 36) (.tmp 38) (by rfl) Tryd.underlying45 infoQH rfl (by decide) (by decide) ⟨0, (f.code.length : Int), 0, 0⟩ (by rfl) (by rfl) (kQH_M _ _ _ _) hRd hCd hl ?_
  intro v1 we hr2 hc2
  obtain ⟨A2, n2, c2, rfl⟩ := R_sl hr2.out
  have fz := blk_frozen (hc2.out.blk hcu.out hno.out) (k * 5 + 4)
  have y4' : we.cell? ⟨gF, k * 5 + 4, none⟩ = some (.slice jA f.hnd.length jC) := cell_chgY hc2.out hno.out x4
  refine hK.out _ _ ⟨(cell_chgY hc2.out hno1.out q1), (cell_chgY hc2.out hno.out x4), (cell_chgY hc2.out hno2.out g0), (cell_chgY hc2.out hno2.out g1), (cell_chgY hc2.out hno2.out g2), (cell_chgY hc2.out hno2.out g3)⟩ (fun hHeld => ?_)
  clear hK K
  refine norm_ (a' := ?_) ?_ ?_
  rotate_left
  · show Act.put _ (some 39) _ = _
    simp only [Act.put, List.setIfInBounds_toArray, List.set_cons_zero, List.set_cons_succ, i64_w, i32_w]
    rfl
  refine pure_ (i := 12) (N := some 40) (v := ?_) (a' := ?_) #[true, true, true, true, true, true, true, true, true, true, true, true, true, false, false] rfl rfl (by kernel_rfl) (fun _ _ _ h => h) (Or.inl ⟨by rfl, ?_⟩) ?_ ?_
  rotate_left
  · intro w'
    go_simp
    with_reducible rfl
  rotate_left
  · simp only [Act.put, List.setIfInBounds_toArray, List.set_cons_zero, List.set_cons_succ, i64_w, i32_w]
    rfl
  refine pure_ (i := 13) (N := some 41) (v := ?_) (a' := ?_) #[true, true, true, true, true, true, true, true, true, true, true, true, true, true, false] rfl rfl (by kernel_rfl) (fun _ _ _ h => h) (Or.inl ⟨by rfl, ?_⟩) ?_ ?_
  rotate_left
  · intro w'
    go_simp
    with_reducible rfl
  rotate_left
  · simp only [Act.put, List.setIfInBounds_toArray, List.set_cons_zero, List.set_cons_succ, i64_w, i32_w]
    rfl
  refine last_ (i := 14) (N := none) #[true, true, true, true, true, true, true, true, true, true, true, true, true, true, true] rfl rfl (by kernel_rfl) (by decide) (fun K hK => ?_)
  refine skip_ (w1 := ?_) (by rfl) rfl ?_ ?_
  rotate_left
  · go_simp
    rfl
  refine hK.out _ _ ?_
  clear hK K
  refine done_ (by kernel_rfl) ?_
  clear hHeld
  generalize hW : World.setCell we _ _ = We
  have hadd : Aside0 (POwn We lo (vA, p.consts.length, vK) (some ⟨gF, 0, none⟩, p.funcs.length, uK) ⟨p.consts, p.funcs.set k ⟨f.name, f.pars, f.locs, f.code, f.hnd ++ [⟨0, (f.code.length : Int), 0, 0⟩]⟩⟩ (rs.set k ⟨f.name, f.pars, f.locs, (iA, f.code.length, iC), (A2, n2, c2)⟩) ∧ RApart (rs.set k ⟨f.name, f.pars, f.locs, (iA, f.code.length, iC), (A2, n2, c2)⟩)) := ⟨by rw [← hW]; exact hown.out.addH (v' := (A2, n2, c2)) hApA.out hrA.out hfA.out (by have := hloA.out.2; have := hz01.out.size; omega) hc2.out hr2.out⟩
  have hs : Aside0 (Chg (fun b => b = gF) we We) := ⟨by rw [← hW]; exact (Chg.refl (fun b => b = gF) we).setCell (p := ⟨gF, k * 5 + 4, none⟩) (fun _ => rfl) _⟩
  have hx0 : handlerQ ⟨0, (f.code.length : Int), 0, 0⟩ f.code.length = true := by
    have := hok.out.c0
    unfold handlerQ
    simp
    omega
  have hfit1 : Aside0 (Fits ⟨p.consts, p.funcs.set k ⟨f.name, f.pars, f.locs, f.code, f.hnd ++ [⟨0, (f.code.length : Int), 0, 0⟩]⟩⟩) := ⟨(hnd_more hfit.out hfA.out h32A.out _).1 hx0⟩
  have hwf1 : Aside0 (PWf ⟨p.consts, p.funcs.set k ⟨f.name, f.pars, f.locs, f.code, f.hnd ++ [⟨0, (f.code.length : Int), 0, 0⟩]⟩⟩) := ⟨wf_setF hwA.out ⟨hsz.out.1, hsz.out.2.1, by have := h32A.out; simp only [List.length_append, List.length_singleton]; omega⟩⟩
  have hnb : Aside0 (∀ (i : Nat) (a : QR), (rs.set k ⟨f.name, f.pars, f.locs, (iA, f.code.length, iC), (A2, n2, c2)⟩)[i]? = some a → (svl a.hnd).ownBlock ≠ some W0.heap.size) := ⟨fun i a hi e => by
    by_cases ek : k = i
    · subst ek
      rw [List.getElem?_set, if_pos rfl, if_pos (List.getElem?_eq_some_iff.1 hrA.out).1] at hi
      injection hi with hi
      subst hi
      rcases hr2.out.1 _ e with h1 | h1
      · have := (hjg.out _ h1).2.1; have := hb2.out; omega
      · have := h1.1; have := hb2.out; omega
    · rw [List.getElem?_set_ne ek] at hi
      obtain ⟨g, hg⟩ : ∃ g, p.funcs[i]? = some g := ⟨_, List.getElem?_eq_getElem (by have := (List.getElem?_eq_some_iff.1 hi).1; rw [← hOA.out.fn.1]; exact this)⟩
      have := (hOA.out.fn.2 i a g hi hg).2.2.2.2.lt _ e
      have := hb2.out
      omega⟩
  have hze : Aside0 (Chg (fun b => lo ≤ b) w We) := ⟨(((Chg.refl (fun b => lo ≤ b) w).trans hz01.out (fun _ _ h => h.elim)).trans hc2.out (fun b hb e => (hjg.out b e).1)).trans hs.out (fun b hb e => by subst e; exact hgF.out.1)⟩
  replace B1 := Aside0.mk (hs.out.blk (hc2.out.blk B1.out hno1.out) (by have := hgF.out.2; omega))
  replace B2 := Aside0.mk (hs.out.blk (hc2.out.blk B2.out hno2.out) (by have := hgF.out.2; have := hb2.out; omega))
  clear hW fz y4' q1 x4 g0 g1 g2 g3 hRd hCd hno hno1 hno2 hc2 hs hcu ha51
  obtain ⟨p1, hp1⟩ : ∃ p1 : QP, p1 = ⟨p.consts, p.funcs.set k ⟨f.name, f.pars, f.locs, f.code, f.hnd ++ [⟨0, (f.code.length : Int), 0, 0⟩]⟩⟩ := ⟨_, rfl⟩
  obtain ⟨rs1, hrs1⟩ : ∃ rs1 : List QR, rs1 = rs.set k ⟨f.name, f.pars, f.locs, (iA, f.code.length, iC), (A2, n2, c2)⟩ := ⟨_, rfl⟩
  rw [← hp1, ← hrs1] at hadd
  rw [← hp1] at hfit1 hwf1
  rw [← hrs1] at hnb
  obtain ⟨hv9, hu9, hpv⟩ := hadd.out.1.view
  simp only at hv9 hu9 hpv
  have hpvA := Aside0.mk hpv
  have q0 : We.cell? ⟨w.heap.size, 0, none⟩ = some (.slice vA p.consts.length vK) := blk_cell B1.out 0
  have q1 : We.cell? ⟨w.heap.size, 1, none⟩ = some (.slice (some ⟨gF, 0, none⟩) p.funcs.length uK) := blk_cell B1.out 1
  rw [hv9] at q0
  rw [hu9] at q1
  have hp1A := Aside0.mk hp1
  have hrs1A := Aside0.mk hrs1
  have hv9A := Aside0.mk hv9
  have hu9A := Aside0.mk hu9
  have hcode : Aside0 (∀ f ∈ p1.funcs, f.code.length ≤ 1048576 ∧ f.hnd.length ≤ 1048576) := ⟨fun f hf => (hwf1.out.sm.fs f hf).2⟩
  have hn1 := hwf1.out.sm.c
  have hm1 := hwf1.out.sm.f
  have hchk := Aside0.mk (fits_check hfit1.out)
  have hE1 : Aside0 (We.cell? ⟨0, 0, none⟩ = some (.iface 114 (.agg #[.pointer (some ⟨2, 68, none⟩)]))) := ⟨cell_chgY hze.out (by have := hloA.out.1; show ¬ lo ≤ 0; omega) hEA.out⟩
  clear hp1 hrs1 hpv hv9 hu9 hx0 hz0 hz1 hz01 hown hk0 hk1
  go_upto_region 9 with (first | (go_at_call 14; go_must (refine (ref_CopyProgram We vA (some ⟨gF, 0, none⟩) vK uK p1 rs1 hpvA.out hn1 hm1 hcode.out).mono ?_); go_must (rintro e wb ⟨⟨vB, vN, vL⟩, ⟨uB, uN, uL⟩, rs2, rfl, hown2, hwb⟩); go_must (obtain ⟨hv8, hu8, hpv2⟩ := hown2.view); go_must (simp only at hv8 hu8 hpv2); go_must (subst hv8); go_must (subst hu8); go_must (simp only [svl]); go_must (replace hown2 := Aside0.mk hown2); go_must (replace hpv2 := Aside0.mk hpv2); go_must (replace hwb := Aside0.mk hwb)) | (go_at_call 16; go_must (refine (law_found _ vB uB vL uL p1 rs2 0 0 0 hpv2.out hwf1.out (cell_chg0 hE1.out cg) hchk.out).mono ?_); go_must (rintro e wc ⟨rfl, hwc⟩); go_must (replace hwc := Aside0.mk hwc)))
  (try simp only [Act.put, List.setIfInBounds_toArray, List.set_cons_zero, List.set_cons_succ])
  have hzc : Aside0 (Chg (fun _ => False) We wc) := ⟨cg⟩
  replace hze := Aside0.mk (hze.out.trans hzc.out (fun _ _ h => h.elim))
  replace B1 := Aside0.mk (hzc.out.blk B1.out (fun h => h))
  replace B2 := Aside0.mk (hzc.out.blk B2.out (fun h => h))
  replace hadd := Aside0.mk (And.intro (hadd.out.1.new hzc.out) hadd.out.2)
  replace hE1 := Aside0.mk (cell_chg0 hE1.out hzc.out)
  clear q0 q1 hwb hwc hzc hown2 hpv2 hpvA hcode hchk hn1 hm1 hEA
  obtain ⟨m0, m1⟩ := pickQ_lt (k := how) (n := 6) (by omega)
  obtain ⟨m, hm9⟩ := Int.eq_ofNat_of_zero_le m0
  have hpick : Aside0 (∀ W, Calls Tryd.prog 17 #[.int .i64 how, .int .i64 6] W fun e w' => e = .returned (.int .i64 (m : Int)) ∧ w' = W) := ⟨fun W => by rw [← hm9]; exact kit_PickQ W how 6 hh'.out.1 hh'.out.2 (by omega)⟩
  have hm6 : m < 6 := by omega
  clear m0 m1 hm9
  obtain ⟨gH, e1⟩ := Oq.some (hadd.out.1.fn.2 k ⟨f.name, f.pars, f.locs, (iA, f.code.length, iC), (A2, n2, c2)⟩ ⟨f.name, f.pars, f.locs, f.code, f.hnd ++ [⟨0, (f.code.length : Int), 0, 0⟩]⟩ (by rw [hrs1A.out, List.getElem?_set, if_pos rfl, if_pos (List.getElem?_eq_some_iff.1 hrA.out).1]) (by rw [hp1A.out]; simp only; rw [List.getElem?_set, if_pos rfl, if_pos hk])).2.2.2.2 (by simp only [List.length_append, List.length_singleton]; omega)
  (try simp only at e1)
  subst e1
  have hrx1 : Aside0 (rs1[k]? = some ⟨f.name, f.pars, f.locs, (iA, f.code.length, iC), (some ⟨gH, 0, none⟩, n2, c2)⟩) := ⟨by rw [hrs1A.out, List.getElem?_set, if_pos rfl, if_pos (List.getElem?_eq_some_iff.1 hrA.out).1]⟩
  have hfx1 : Aside0 (p1.funcs[k]? = some ⟨f.name, f.pars, f.locs, f.code, f.hnd ++ [⟨0, (f.code.length : Int), 0, 0⟩]⟩) := ⟨by rw [hp1A.out]; simp only; rw [List.getElem?_set, if_pos rfl, if_pos hk]⟩
  obtain ⟨_, _, _, _, hoh⟩ := hadd.out.1.fn.2 k _ _ hrx1.out hfx1.out
  have hn2 : Aside0 (n2 = f.hnd.length + 1) := ⟨by have := hoh.toC.1; simp only [List.length_append, List.length_singleton] at this; exact this.symm⟩
  have hgH : Aside0 (lo ≤ gH ∧ gH ≠ W0.heap.size ∧ gH ≠ gF ∧ gH ≠ w.heap.size) := ⟨hoh.2 gH rfl, hnb.out k _ hrx1.out |> fun h e => h (by rw [← e]; rfl), fun e => by subst e; exact Oq.ne hoh hadd.out.1.fs (by decide) gH rfl rfl, fun e => Oq.ne_blk hoh B1.out (by decide) rfl e⟩
  have hcase : m = 0 ∨ m = 1 ∨ m = 2 ∨ m = 3 ∨ m = 4 ∨ m = 5 := by omega
  clear hm6 hoh
  rcases hcase with hm0 | hm0 | hm0 | hm0 | hm0 | hm0
  · obtain ⟨x, hx⟩ : ∃ x : QH, x = ⟨-1, (f.code.length : Int), 0, 0⟩ := ⟨_, rfl⟩
    have hbad : Aside0 (handlerQ x f.code.length = false) := ⟨by have := hok.out.c0; rw [hx]; unfold handlerQ; simp <;> omega⟩
    subst hm0
    have t0 := blk_cell B2.out 0
    have t1 := blk_cell B2.out 1
    have t2 := blk_cell B2.out 2
    have t3 := blk_cell B2.out 3
    have u0 := blk_frozen B2.out 0
    have u1 := blk_frozen B2.out 1
    have u2 := blk_frozen B2.out 2
    have u3 := blk_frozen B2.out 3
    go_upto_region 22 with (go_at_call 17; go_must (refine (hpick.out _).mono ?_); go_must (rintro e wn ⟨rfl, hwn⟩); go_must (subst wn))
    (try simp only [Act.put, List.setIfInBounds_toArray, List.set_cons_zero, List.set_cons_succ])
    generalize hW : World.setCell wc _ _ = Wh
    have hs : Aside0 (Chg (fun b => b = W0.heap.size) wc Wh) := ⟨by rw [← hW]; exact (Chg.refl (fun b => b = W0.heap.size) wc).setCell (p := ⟨W0.heap.size, 0, none⟩) (fun _ => rfl) _⟩
    have B2h : Aside0 (Wh.heap[W0.heap.size]? = some (.cells #[.int .i64 x.frm, .int .i64 x.upto, .int .i64 x.tgt, .int .i64 x.hgt] 54 (0, 0))) := ⟨by rw [← hW, hx]; exact blk_set B2.out 0 _⟩
    have hown3 : Aside0 (POwn Wh lo (vA, p.consts.length, vK) (some ⟨gF, 0, none⟩, p.funcs.length, uK) p1 rs1) := ⟨hadd.out.1.hitB B2.out hs.out hnb.out⟩
    replace B1 := Aside0.mk (hs.out.blk B1.out (by have := hb2.out; omega))
    clear hW t0 t1 t2 t3 u0 u1 u2 u3 hx hpick
    have q1 : Wh.cell? ⟨w.heap.size, 1, none⟩ = some (.slice (some ⟨gF, 0, none⟩) p.funcs.length uK) := blk_cell B1.out 1
    obtain ⟨_, _, _, x3, x4⟩ := raw_ownC hown3.out.fs.toC k hk hrx1.out
    clear x3
    (try simp only at x4)
    have g0 : Wh.cell? ⟨W0.heap.size, 0, none⟩ = some (.int .i64 x.frm) := blk_cell B2h.out 0
    have g1 : Wh.cell? ⟨W0.heap.size, 1, none⟩ = some (.int .i64 x.upto) := blk_cell B2h.out 1
    have g2 : Wh.cell? ⟨W0.heap.size, 2, none⟩ = some (.int .i64 x.tgt) := blk_cell B2h.out 2
    have g3 : Wh.cell? ⟨W0.heap.size, 3, none⟩ = some (.int .i64 x.hgt) := blk_cell B2h.out 3
    obtain ⟨_, _, _, _, hoh⟩ := hown3.out.fn.2 k _ _ hrx1.out hfx1.out
    obtain ⟨ya, yb, yc, yd, _, y0, y1, y2, y3⟩ := kQH_own hoh.toC f.hnd.length (by have := hn2.out; show f.hnd.length < n2; omega)
    obtain ⟨cu3, hcu3⟩ := Kd.R_typed hoh.1 gH rfl
    have z0 := blk_frozen hcu3 (f.hnd.length * 4)
    have z1 := blk_frozen hcu3 (f.hnd.length * 4 + 1)
    have z2 := blk_frozen hcu3 (f.hnd.length * 4 + 2)
    have z3 := blk_frozen hcu3 (f.hnd.length * 4 + 3)
    clear hcu3 hoh
    have hk0 : (0 : Int) ≤ k := by omega
    have hk1 : (k : Int) < p.funcs.length := by omega
    have hj0 : (0 : Int) ≤ f.hnd.length := by omega
    have hj1 : (f.hnd.length : Int) < n2 := by have := hn2.out; omega
    refine start_ (n := 10) (S := fun w' => w'.cell? ⟨w.heap.size, 1, none⟩ = some (.slice (some ⟨gF, 0, none⟩) p.funcs.length uK) ∧ w'.cell? ⟨gF, k * 5 + 4, none⟩ = some (.slice (some ⟨gH, 0, none⟩) n2 c2) ∧ w'.cell? ⟨W0.heap.size, 0, none⟩ = some (.int .i64 x.frm) ∧ w'.cell? ⟨W0.heap.size, 1, none⟩ = some (.int .i64 x.upto) ∧ w'.cell? ⟨W0.heap.size, 2, none⟩ = some (.int .i64 x.tgt) ∧ w'.cell? ⟨W0.heap.size, 3, none⟩ = some (.int .i64 x.hgt)) (ds := [9]) #[false, false, false, false, false, false, false, false, false, false] (by kernel_rfl) rfl rfl ⟨q1, x4, g0, g1, g2, g3⟩ (fun hHeld => ?_)
    refine pure_ (i := 0) (N := some 70) (v := ?_) (a' := ?_) #[true, false, false, false, false, false, false, false, false, false] rfl rfl (by kernel_rfl) (fun _ _ _ h => h) (Or.inl ⟨by rfl, ?_⟩) ?_ ?_
    rotate_left
    · intro w'
      go_simp
      with_reducible rfl
    rotate_left
    · simp only [Act.put, List.setIfInBounds_toArray, List.set_cons_zero, List.set_cons_succ, i64_w, i32_w]
      rfl
    refine pure_ (i := 2) (N := some 72) (v := ?_) (a' := ?_) #[true, false, true, false, false, false, false, false, false, false] rfl rfl (by kernel_rfl) (fun _ _ _ h => h) (Or.inl ⟨by rfl, ?_⟩) ?_ ?_
    rotate_left
    · intro w'
      go_simp
      with_reducible rfl
    rotate_left
    · simp only [Act.put, List.setIfInBounds_toArray, List.set_cons_zero, List.set_cons_succ, i64_w, i32_w]
      rfl
    refine pure_ (i := 6) (N := some 76) (v := ?_) (a' := ?_) #[true, false, true, false, false, false, true, false, false, false] rfl rfl (by kernel_rfl) (fun _ _ _ h => h) (Or.inl ⟨by rfl, ?_⟩) ?_ ?_
    rotate_left
    · intro w'
      go_simp
      with_reducible rfl
    rotate_left
    · simp only [Act.put, List.setIfInBounds_toArray, List.set_cons_zero, List.set_cons_succ, i64_w, i32_w]
      rfl
    refine take_ (i := 1) (N := some 71) (v := ?_) (a' := ?_) #[true, true, true, false, false, false, true, false, false, false] rfl rfl (by kernel_rfl) (fun _ _ _ h => h) (Or.inl ⟨by rfl, ?_⟩) hHeld ?_ ?_
    rotate_left
    · rintro w' ⟨s0, s1, s2, s3, s4, s5⟩
      go_simp
      with_reducible rfl
    rotate_left
    · simp only [Act.put, List.setIfInBounds_toArray, List.set_cons_zero, List.set_cons_succ, i64_w, i32_w]
      rfl
    refine pure_ (i := 3) (N := some 73) (v := ?_) (a' := ?_) #[true, true, true, true, false, false, true, false, false, false] rfl rfl (by kernel_rfl) (fun _ _ _ h => h) (Or.inl ⟨by rfl, ?_⟩) ?_ ?_
    rotate_left
    · intro w'
      go_simp
      with_reducible rfl
    rotate_left
    · simp only [Act.put, List.setIfInBounds_toArray, List.set_cons_zero, List.set_cons_succ, i64_w, i32_w]
      rfl
    refine pure_ (i := 4) (N := some 74) (v := ?_) (a' := ?_) #[true, true, true, true, true, false, true, false, false, false] rfl rfl (by kernel_rfl) (fun _ _ _ h => h) (Or.inl ⟨by rfl, ?_⟩) ?_ ?_
    rotate_left
    · intro w'
      go_simp
      with_reducible rfl
    rotate_left
    · simp only [Act.put, List.setIfInBounds_toArray, List.set_cons_zero, List.set_cons_succ, i64_w, i32_w]
      rfl
    refine take_ (i := 5) (N := some 75) (v := ?_) (a' := ?_) #[true, true, true, true, true, true, true, false, false, false] rfl rfl (by kernel_rfl) (fun _ _ _ h => h) (Or.inl ⟨by rfl, ?_⟩) hHeld ?_ ?_
    rotate_left
    · rintro w' ⟨s0, s1, s2, s3, s4, s5⟩
      go_simp
      with_reducible rfl
    rotate_left
    · simp only [Act.put, List.setIfInBounds_toArray, List.set_cons_zero, List.set_cons_succ, i64_w, i32_w]
      rfl
    refine take_ (i := 7) (N := some 77) (v := ?_) (a' := ?_) #[true, true, true, true, true, true, true, true, false, false] rfl rfl (by kernel_rfl) (fun _ _ _ h => h) (Or.inl ⟨by rfl, ?_⟩) hHeld ?_ ?_
    rotate_left
    · rintro w' ⟨s0, s1, s2, s3, s4, s5⟩
      go_simp
      with_reducible rfl
    rotate_left
    · simp only [Act.put, List.setIfInBounds_toArray, List.set_cons_zero, List.set_cons_succ, i64_w, i32_w]
      rfl
    refine pure_ (i := 8) (N := some 78) (v := ?_) (a' := ?_) #[true, true, true, true, true, true, true, true, true, false] rfl rfl (by kernel_rfl) (fun _ _ _ h => h) (Or.inl ⟨by rfl, ?_⟩) ?_ ?_
    rotate_left
    · intro w'
      go_simp
      with_reducible rfl
    rotate_left
    · simp only [Act.put, List.setIfInBounds_toArray, List.set_cons_zero, List.set_cons_succ, i64_w, i32_w]
      rfl
    refine last_ (i := 9) (N := none) #[true, true, true, true, true, true, true, true, true, true] rfl rfl (by kernel_rfl) (by decide) (fun K hK => ?_)
    refine skip_ (w1 := ?_) (by rfl) rfl ?_ ?_
    rotate_left
    · go_simp
      rfl
    refine hK.out _ _ ?_
    clear hK K
    refine done_ (by kernel_rfl) ?_
    (try simp only [Act.put, List.setIfInBounds_toArray, List.set_cons_zero, List.set_cons_succ])
    clear hHeld
    generalize hW : World.drew (World.setCell (World.setCell (World.setCell (World.setCell _ _ _) _ _) _ _) _ _) = Wz
    have hs4 : Aside0 (Chg (fun b => b = gH) Wh Wz) := ⟨by rw [← hW]; exact Chg.drew (((((Chg.refl (fun b => b = gH) Wh).setCell (p := ⟨gH, f.hnd.length * 4, none⟩) (fun _ => rfl) (.int .i64 x.frm)).setCell (p := ⟨gH, f.hnd.length * 4 + 1, none⟩) (fun _ => rfl) (.int .i64 x.upto)).setCell (p := ⟨gH, f.hnd.length * 4 + 2, none⟩) (fun _ => rfl) (.int .i64 x.tgt)).setCell (p := ⟨gH, f.hnd.length * 4 + 3, none⟩) (fun _ => rfl) (.int .i64 x.hgt))⟩
    have hownz : Aside0 (POwn Wz lo (vA, p.consts.length, vK) (some ⟨gF, 0, none⟩, p.funcs.length, uK) ⟨p1.consts, p1.funcs.set k ⟨f.name, f.pars, f.locs, f.code, (f.hnd ++ [(⟨0, (f.code.length : Int), 0, 0⟩ : QH)]).set f.hnd.length x⟩⟩ rs1) := ⟨by rw [← hW]; exact POwn.new (hown3.out.hitR (f' := ⟨f.name, f.pars, f.locs, f.code, (f.hnd ++ [(⟨0, (f.code.length : Int), 0, 0⟩ : QH)]).set f.hnd.length x⟩) hadd.out.2 hrx1.out hfx1.out rfl (((((Chg.refl (fun b => b = gH) Wh).setCell (p := ⟨gH, f.hnd.length * 4, none⟩) (fun _ => rfl) (.int .i64 x.frm)).setCell (p := ⟨gH, f.hnd.length * 4 + 1, none⟩) (fun _ => rfl) (.int .i64 x.upto)).setCell (p := ⟨gH, f.hnd.length * 4 + 2, none⟩) (fun _ => rfl) (.int .i64 x.tgt)).setCell (p := ⟨gH, f.hnd.length * 4 + 3, none⟩) (fun _ => rfl) (.int .i64 x.hgt)) ⟨rfl, rfl, rfl, rfl⟩ (fun ho => oq_putH (y := ⟨0, (f.code.length : Int), 0, 0⟩) ho (by rw [List.getElem?_append_right (Nat.le_refl _)]; simp) x)) ((Chg.refl _ _).drew)⟩
    obtain ⟨p3, hp3e⟩ : ∃ p3 : QP, p3 = ⟨p.consts, p.funcs.set k ⟨f.name, f.pars, f.locs, f.code, f.hnd ++ [x]⟩⟩ := ⟨_, rfl⟩
    have hpe : QP.mk p1.consts (p1.funcs.set k (QF.mk f.name f.pars f.locs f.code ((f.hnd ++ [(⟨0, (f.code.length : Int), 0, 0⟩ : QH)]).set f.hnd.length x))) = p3 := by rw [hp3e, hp1A.out, set_lastH]; simp only [List.set_set]
    rw [hpe] at hownz
    have hp3 : Aside0 (checkP chkP p3 = (((k : Int), (f.hnd.length : Int)), 8)) := ⟨by rw [hp3e]; exact (hnd_more hfit.out hfA.out h32A.out x).2 hbad.out⟩
    have hwf3 : Aside0 (PWf p3) := ⟨by rw [hp3e]; exact wf_setF hwA.out ⟨hsz.out.1, hsz.out.2.1, by have := h32A.out; simp only [List.length_append, List.length_singleton]; omega⟩⟩
    obtain ⟨hv9, hu9, hpv⟩ := hownz.out.view
    simp only at hv9 hu9 hpv
    have hpvZ := Aside0.mk hpv
    replace B1 := Aside0.mk (hs4.out.blk B1.out (fun e => hgH.out.2.2.2 e.symm))
    clear q1 x4 g0 g1 g2 g3 y0 y1 y2 y3 z0 z1 z2 z3 hpv hpe hp3e hW
    have q0 : Wz.cell? ⟨w.heap.size, 0, none⟩ = some (.slice vA p.consts.length vK) := blk_cell B1.out 0
    have q1 : Wz.cell? ⟨w.heap.size, 1, none⟩ = some (.slice (some ⟨gF, 0, none⟩) p.funcs.length uK) := blk_cell B1.out 1
    rw [hv9] at q0
    rw [hu9] at q1
    have hzz : Aside0 (Chg (fun b => lo ≤ b) w Wz) := ⟨(hze.out.trans hs.out (fun b hb e => by have := hb2.out; have := hloA.out.2; omega)).trans hs4.out (fun b hb e => by subst e; exact hgH.out.1)⟩
    have hEz : Aside0 (Wz.cell? ⟨0, 0, none⟩ = some (.iface 114 (.agg #[.pointer (some ⟨2, 68, none⟩)]))) := ⟨cell_chgY hs4.out (by have := hgH.out.1; have := hloA.out.1; show ¬ 0 = gH; omega) (cell_chgY hs.out (by have := hb2.out; show ¬ 0 = W0.heap.size; omega) hE1.out)⟩
    clear hv9 hu9 hs hs4 hownz hown3 hze hE1
    go_wp2_with (go_at_call 16; go_must (refine (law_found Wz vA (some ⟨gF, 0, none⟩) vK uK p3 rs1 (k : Int) (f.hnd.length : Int) 8 hpvZ.out hwf3.out hEz.out hp3.out).mono ?_); go_must (rintro e wk ⟨rfl, hwk⟩); go_must (replace hwk := Aside0.mk hwk))
    go_ret
    exact ⟨rfl, hzz.out.trans hwk.out (fun _ _ h => h.elim)⟩
  · obtain ⟨x, hx⟩ : ∃ x : QH, x = ⟨(f.code.length : Int), (f.code.length : Int), 0, 0⟩ := ⟨_, rfl⟩
    have hbad : Aside0 (handlerQ x f.code.length = false) := ⟨by have := hok.out.c0; rw [hx]; unfold handlerQ; simp <;> omega⟩
    subst hm0
    have t0 := blk_cell B2.out 0
    have t1 := blk_cell B2.out 1
    have t2 := blk_cell B2.out 2
    have t3 := blk_cell B2.out 3
    have u0 := blk_frozen B2.out 0
    have u1 := blk_frozen B2.out 1
    have u2 := blk_frozen B2.out 2
    have u3 := blk_frozen B2.out 3
    go_upto_region 22 with (go_at_call 17; go_must (refine (hpick.out _).mono ?_); go_must (rintro e wn ⟨rfl, hwn⟩); go_must (subst wn))
    (try simp only [Act.put, List.setIfInBounds_toArray, List.set_cons_zero, List.set_cons_succ])
    generalize hW : World.setCell wc _ _ = Wh
    have hs : Aside0 (Chg (fun b => b = W0.heap.size) wc Wh) := ⟨by rw [← hW]; exact (Chg.refl (fun b => b = W0.heap.size) wc).setCell (p := ⟨W0.heap.size, 0, none⟩) (fun _ => rfl) _⟩
    have B2h : Aside0 (Wh.heap[W0.heap.size]? = some (.cells #[.int .i64 x.frm, .int .i64 x.upto, .int .i64 x.tgt, .int .i64 x.hgt] 54 (0, 0))) := ⟨by rw [← hW, hx]; exact blk_set B2.out 0 _⟩
    have hown3 : Aside0 (POwn Wh lo (vA, p.consts.length, vK) (some ⟨gF, 0, none⟩, p.funcs.length, uK) p1 rs1) := ⟨hadd.out.1.hitB B2.out hs.out hnb.out⟩
    replace B1 := Aside0.mk (hs.out.blk B1.out (by have := hb2.out; omega))
    clear hW t0 t1 t2 t3 u0 u1 u2 u3 hx hpick
    have q1 : Wh.cell? ⟨w.heap.size, 1, none⟩ = some (.slice (some ⟨gF, 0, none⟩) p.funcs.length uK) := blk_cell B1.out 1
    obtain ⟨_, _, _, x3, x4⟩ := raw_ownC hown3.out.fs.toC k hk hrx1.out
    clear x3
    (try simp only at x4)
    have g0 : Wh.cell? ⟨W0.heap.size, 0, none⟩ = some (.int .i64 x.frm) := blk_cell B2h.out 0
    have g1 : Wh.cell? ⟨W0.heap.size, 1, none⟩ = some (.int .i64 x.upto) := blk_cell B2h.out 1
    have g2 : Wh.cell? ⟨W0.heap.size, 2, none⟩ = some (.int .i64 x.tgt) := blk_cell B2h.out 2
    have g3 : Wh.cell? ⟨W0.heap.size, 3, none⟩ = some (.int .i64 x.hgt) := blk_cell B2h.out 3
    obtain ⟨_, _, _, _, hoh⟩ := hown3.out.fn.2 k _ _ hrx1.out hfx1.out
    obtain ⟨ya, yb, yc, yd, _, y0, y1, y2, y3⟩ := kQH_own hoh.toC f.hnd.length (by have := hn2.out; show f.hnd.length < n2; omega)
    obtain ⟨cu3, hcu3⟩ := Kd.R_typed hoh.1 gH rfl
    have z0 := blk_frozen hcu3 (f.hnd.length * 4)
    have z1 := blk_frozen hcu3 (f.hnd.length * 4 + 1)
    have z2 := blk_frozen hcu3 (f.hnd.length * 4 + 2)
    have z3 := blk_frozen hcu3 (f.hnd.length * 4 + 3)
    clear hcu3 hoh
    have hk0 : (0 : Int) ≤ k := by omega
    have hk1 : (k : Int) < p.funcs.length := by omega
    have hj0 : (0 : Int) ≤ f.hnd.length := by omega
    have hj1 : (f.hnd.length : Int) < n2 := by have := hn2.out; omega
    refine start_ (n := 10) (S := fun w' => w'.cell? ⟨w.heap.size, 1, none⟩ = some (.slice (some ⟨gF, 0, none⟩) p.funcs.length uK) ∧ w'.cell? ⟨gF, k * 5 + 4, none⟩ = some (.slice (some ⟨gH, 0, none⟩) n2 c2) ∧ w'.cell? ⟨W0.heap.size, 0, none⟩ = some (.int .i64 x.frm) ∧ w'.cell? ⟨W0.heap.size, 1, none⟩ = some (.int .i64 x.upto) ∧ w'.cell? ⟨W0.heap.size, 2, none⟩ = some (.int .i64 x.tgt) ∧ w'.cell? ⟨W0.heap.size, 3, none⟩ = some (.int .i64 x.hgt)) (ds := [9]) #[false, false, false, false, false, false, false, false, false, false] (by kernel_rfl) rfl rfl ⟨q1, x4, g0, g1, g2, g3⟩ (fun hHeld => ?_)
    refine pure_ (i := 0) (N := some 70) (v := ?_) (a' := ?_) #[true, false, false, false, false, false, false, false, false, false] rfl rfl (by kernel_rfl) (fun _ _ _ h => h) (Or.inl ⟨by rfl, ?_⟩) ?_ ?_
    rotate_left
    · intro w'
      go_simp
      with_reducible rfl
    rotate_left
    · simp only [Act.put, List.setIfInBounds_toArray, List.set_cons_zero, List.set_cons_succ, i64_w, i32_w]
      rfl
    refine pure_ (i := 2) (N := some 72) (v := ?_) (a' := ?_) #[true, false, true, false, false, false, false, false, false, false] rfl rfl (by kernel_rfl) (fun _ _ _ h => h) (Or.inl ⟨by rfl, ?_⟩) ?_ ?_
    rotate_left
    · intro w'
      go_simp
      with_reducible rfl
    rotate_left
    · simp only [Act.put, List.setIfInBounds_toArray, List.set_cons_zero, List.set_cons_succ, i64_w, i32_w]
      rfl
    refine pure_ (i := 6) (N := some 76) (v := ?_) (a' := ?_) #[true, false, true, false, false, false, true, false, false, false] rfl rfl (by kernel_rfl) (fun _ _ _ h => h) (Or.inl ⟨by rfl, ?_⟩) ?_ ?_
    rotate_left
    · intro w'
      go_simp
      with_reducible rfl
    rotate_left
    · simp only [Act.put, List.setIfInBounds_toArray, List.set_cons_zero, List.set_cons_succ, i64_w, i32_w]
      rfl
    refine take_ (i := 1) (N := some 71) (v := ?_) (a' := ?_) #[true, true, true, false, false, false, true, false, false, false] rfl rfl (by kernel_rfl) (fun _ _ _ h => h) (Or.inl ⟨by rfl, ?_⟩) hHeld ?_ ?_
    rotate_left
    · rintro w' ⟨s0, s1, s2, s3, s4, s5⟩
      go_simp
      with_reducible rfl
    rotate_left
    · simp only [Act.put, List.setIfInBounds_toArray, List.set_cons_zero, List.set_cons_succ, i64_w, i32_w]
      rfl
    refine pure_ (i := 3) (N := some 73) (v := ?_) (a' := ?_) #[true, true, true, true, false, false, true, false, false, false] rfl rfl (by kernel_rfl) (fun _ _ _ h => h) (Or.inl ⟨by rfl, ?_⟩) ?_ ?_
    rotate_left
    · intro w'
      go_simp
      with_reducible rfl
    rotate_left
    · simp only [Act.put, List.setIfInBounds_toArray, List.set_cons_zero, List.set_cons_succ, i64_w, i32_w]
      rfl
    refine pure_ (i := 4) (N := some 74) (v := ?_) (a' := ?_) #[true, true, true, true, true, false, true, false, false, false] rfl rfl (by kernel_rfl) (fun _ _ _ h => h) (Or.inl ⟨by rfl, ?_⟩) ?_ ?_
    rotate_left
    · intro w'
      go_simp
      with_reducible rfl
    rotate_left
    · simp only [Act.put, List.setIfInBounds_toArray, List.set_cons_zero, List.set_cons_succ, i64_w, i32_w]
      rfl
    refine take_ (i := 5) (N := some 75) (v := ?_) (a' := ?_) #[true, true, true, true, true, true, true, false, false, false] rfl rfl (by kernel_rfl) (fun _ _ _ h => h) (Or.inl ⟨by rfl, ?_⟩) hHeld ?_ ?_
    rotate_left
    · rintro w' ⟨s0, s1, s2, s3, s4, s5⟩
      go_simp
      with_reducible rfl
    rotate_left
    · simp only [Act.put, List.setIfInBounds_toArray, List.set_cons_zero, List.set_cons_succ, i64_w, i32_w]
      rfl
    refine take_ (i := 7) (N := some 77) (v := ?_) (a' := ?_) #[true, true, true, true, true, true, true, true, false, false] rfl rfl (by kernel_rfl) (fun _ _ _ h => h) (Or.inl ⟨by rfl, ?_⟩) hHeld ?_ ?_
    rotate_left
    · rintro w' ⟨s0, s1, s2, s3, s4, s5⟩
      go_simp
      with_reducible rfl
    rotate_left
    · simp only [Act.put, List.setIfInBounds_toArray, List.set_cons_zero, List.set_cons_succ, i64_w, i32_w]
      rfl
    refine pure_ (i := 8) (N := some 78) (v := ?_) (a' := ?_) #[true, true, true, true, true, true, true, true, true, false] rfl rfl (by kernel_rfl) (fun _ _ _ h => h) (Or.inl ⟨by rfl, ?_⟩) ?_ ?_
    rotate_left
    · intro w'
      go_simp
      with_reducible rfl
    rotate_left
    · simp only [Act.put, List.setIfInBounds_toArray, List.set_cons_zero, List.set_cons_succ, i64_w, i32_w]
      rfl
    refine last_ (i := 9) (N := none) #[true, true, true, true, true, true, true, true, true, true] rfl rfl (by kernel_rfl) (by decide) (fun K hK => ?_)
    refine skip_ (w1 := ?_) (by rfl) rfl ?_ ?_
    rotate_left
    · go_simp
      rfl
    refine hK.out _ _ ?_
    clear hK K
    refine done_ (by kernel_rfl) ?_
    (try simp only [Act.put, List.setIfInBounds_toArray, List.set_cons_zero, List.set_cons_succ])
    clear hHeld
    generalize hW : World.drew (World.setCell (World.setCell (World.setCell (World.setCell _ _ _) _ _) _ _) _ _) = Wz
    have hs4 : Aside0 (Chg (fun b => b = gH) Wh Wz) := ⟨by rw [← hW]; exact Chg.drew (((((Chg.refl (fun b => b = gH) Wh).setCell (p := ⟨gH, f.hnd.length * 4, none⟩) (fun _ => rfl) (.int .i64 x.frm)).setCell (p := ⟨gH, f.hnd.length * 4 + 1, none⟩) (fun _ => rfl) (.int .i64 x.upto)).setCell (p := ⟨gH, f.hnd.length * 4 + 2, none⟩) (fun _ => rfl) (.int .i64 x.tgt)).setCell (p := ⟨gH, f.hnd.length * 4 + 3, none⟩) (fun _ => rfl) (.int .i64 x.hgt))⟩
    have hownz : Aside0 (POwn Wz lo (vA, p.consts.length, vK) (some ⟨gF, 0, none⟩, p.funcs.length, uK) ⟨p1.consts, p1.funcs.set k ⟨f.name, f.pars, f.locs, f.code, (f.hnd ++ [(⟨0, (f.code.length : Int), 0, 0⟩ : QH)]).set f.hnd.length x⟩⟩ rs1) := ⟨by rw [← hW]; exact POwn.new (hown3.out.hitR (f' := ⟨f.name, f.pars, f.locs, f.code, (f.hnd ++ [(⟨0, (f.code.length : Int), 0, 0⟩ : QH)]).set f.hnd.length x⟩) hadd.out.2 hrx1.out hfx1.out rfl (((((Chg.refl (fun b => b = gH) Wh).setCell (p := ⟨gH, f.hnd.length * 4, none⟩) (fun _ => rfl) (.int .i64 x.frm)).setCell (p := ⟨gH, f.hnd.length * 4 + 1, none⟩) (fun _ => rfl) (.int .i64 x.upto)).setCell (p := ⟨gH, f.hnd.length * 4 + 2, none⟩) (fun _ => rfl) (.int .i64 x.tgt)).setCell (p := ⟨gH, f.hnd.length * 4 + 3, none⟩) (fun _ => rfl) (.int .i64 x.hgt)) ⟨rfl, rfl, rfl, rfl⟩ (fun ho => oq_putH (y := ⟨0, (f.code.length : Int), 0, 0⟩) ho (by rw [List.getElem?_append_right (Nat.le_refl _)]; simp) x)) ((Chg.refl _ _).drew)⟩
    obtain ⟨p3, hp3e⟩ : ∃ p3 : QP, p3 = ⟨p.consts, p.funcs.set k ⟨f.name, f.pars, f.locs, f.code, f.hnd ++ [x]⟩⟩ := ⟨_, rfl⟩
    have hpe : QP.mk p1.consts (p1.funcs.set k (QF.mk f.name f.pars f.locs f.code ((f.hnd ++ [(⟨0, (f.code.length : Int), 0, 0⟩ : QH)]).set f.hnd.length x))) = p3 := by rw [hp3e, hp1A.out, set_lastH]; simp only [List.set_set]
    rw [hpe] at hownz
    have hp3 : Aside0 (checkP chkP p3 = (((k : Int), (f.hnd.length : Int)), 8)) := ⟨by rw [hp3e]; exact (hnd_more hfit.out hfA.out h32A.out x).2 hbad.out⟩
    have hwf3 : Aside0 (PWf p3) := ⟨by rw [hp3e]; exact wf_setF hwA.out ⟨hsz.out.1, hsz.out.2.1, by have := h32A.out; simp only [List.length_append, List.length_singleton]; omega⟩⟩
    obtain ⟨hv9, hu9, hpv⟩ := hownz.out.view
    simp only at hv9 hu9 hpv
    have hpvZ := Aside0.mk hpv
    replace B1 := Aside0.mk (hs4.out.blk B1.out (fun e => hgH.out.2.2.2 e.symm))
    clear q1 x4 g0 g1 g2 g3 y0 y1 y2 y3 z0 z1 z2 z3 hpv hpe hp3e hW
    have q0 : Wz.cell? ⟨w.heap.size, 0, none⟩ = some (.slice vA p.consts.length vK) := blk_cell B1.out 0
    have q1 : Wz.cell? ⟨w.heap.size, 1, none⟩ = some (.slice (some ⟨gF, 0, none⟩) p.funcs.length uK) := blk_cell B1.out 1
    rw [hv9] at q0
    rw [hu9] at q1
    have hzz : Aside0 (Chg (fun b => lo ≤ b) w Wz) := ⟨(hze.out.trans hs.out (fun b hb e => by have := hb2.out; have := hloA.out.2; omega)).trans hs4.out (fun b hb e => by subst e; exact hgH.out.1)⟩
    have hEz : Aside0 (Wz.cell? ⟨0, 0, none⟩ = some (.iface 114 (.agg #[.pointer (some ⟨2, 68, none⟩)]))) := ⟨cell_chgY hs4.out (by have := hgH.out.1; have := hloA.out.1; show ¬ 0 = gH; omega) (cell_chgY hs.out (by have := hb2.out; show ¬ 0 = W0.heap.size; omega) hE1.out)⟩
    clear hv9 hu9 hs hs4 hownz hown3 hze hE1
    go_wp2_with (go_at_call 16; go_must (refine (law_found Wz vA (some ⟨gF, 0, none⟩) vK uK p3 rs1 (k : Int) (f.hnd.length : Int) 8 hpvZ.out hwf3.out hEz.out hp3.out).mono ?_); go_must (rintro e wk ⟨rfl, hwk⟩); go_must (replace hwk := Aside0.mk hwk))
    go_ret
    exact ⟨rfl, hzz.out.trans hwk.out (fun _ _ h => h.elim)⟩
  · obtain ⟨x, hx⟩ : ∃ x : QH, x = ⟨0, (f.code.length : Int) + 1, 0, 0⟩ := ⟨_, rfl⟩
    have hbad : Aside0 (handlerQ x f.code.length = false) := ⟨by have := hok.out.c0; rw [hx]; unfold handlerQ; simp <;> omega⟩
    subst hm0
    have t0 := blk_cell B2.out 0
    have t1 := blk_cell B2.out 1
    have t2 := blk_cell B2.out 2
    have t3 := blk_cell B2.out 3
    have u0 := blk_frozen B2.out 0
    have u1 := blk_frozen B2.out 1
    have u2 := blk_frozen B2.out 2
    have u3 := blk_frozen B2.out 3
    have hw64 : wrap64 ((f.code.length : Int) + 1) = (f.code.length : Int) + 1 := by have := hok.out.c1; unfold wrap64; omega
    go_upto_region 22 with (go_at_call 17; go_must (refine (hpick.out _).mono ?_); go_must (rintro e wn ⟨rfl, hwn⟩); go_must (subst wn))
    (try simp only [Act.put, List.setIfInBounds_toArray, List.set_cons_zero, List.set_cons_succ])
    generalize hW : World.setCell wc _ _ = Wh
    have hs : Aside0 (Chg (fun b => b = W0.heap.size) wc Wh) := ⟨by rw [← hW]; exact (Chg.refl (fun b => b = W0.heap.size) wc).setCell (p := ⟨W0.heap.size, 1, none⟩) (fun _ => rfl) _⟩
    have B2h : Aside0 (Wh.heap[W0.heap.size]? = some (.cells #[.int .i64 x.frm, .int .i64 x.upto, .int .i64 x.tgt, .int .i64 x.hgt] 54 (0, 0))) := ⟨by rw [← hW, hx]; exact blk_set B2.out 1 _⟩
    have hown3 : Aside0 (POwn Wh lo (vA, p.consts.length, vK) (some ⟨gF, 0, none⟩, p.funcs.length, uK) p1 rs1) := ⟨hadd.out.1.hitB B2.out hs.out hnb.out⟩
    replace B1 := Aside0.mk (hs.out.blk B1.out (by have := hb2.out; omega))
    clear hW t0 t1 t2 t3 u0 u1 u2 u3 hx hpick
    have q1 : Wh.cell? ⟨w.heap.size, 1, none⟩ = some (.slice (some ⟨gF, 0, none⟩) p.funcs.length uK) := blk_cell B1.out 1
    obtain ⟨_, _, _, x3, x4⟩ := raw_ownC hown3.out.fs.toC k hk hrx1.out
    clear x3
    (try simp only at x4)
    have g0 : Wh.cell? ⟨W0.heap.size, 0, none⟩ = some (.int .i64 x.frm) := blk_cell B2h.out 0
    have g1 : Wh.cell? ⟨W0.heap.size, 1, none⟩ = some (.int .i64 x.upto) := blk_cell B2h.out 1
    have g2 : Wh.cell? ⟨W0.heap.size, 2, none⟩ = some (.int .i64 x.tgt) := blk_cell B2h.out 2
    have g3 : Wh.cell? ⟨W0.heap.size, 3, none⟩ = some (.int .i64 x.hgt) := blk_cell B2h.out 3
    obtain ⟨_, _, _, _, hoh⟩ := hown3.out.fn.2 k _ _ hrx1.out hfx1.out
    obtain ⟨ya, yb, yc, yd, _, y0, y1, y2, y3⟩ := kQH_own hoh.toC f.hnd.length (by have := hn2.out; show f.hnd.length < n2; omega)
    obtain ⟨cu3, hcu3⟩ := Kd.R_typed hoh.1 gH rfl
    have z0 := blk_frozen hcu3 (f.hnd.length * 4)
    have z1 := blk_frozen hcu3 (f.hnd.length * 4 + 1)
    have z2 := blk_frozen hcu3 (f.hnd.length * 4 + 2)
    have z3 := blk_frozen hcu3 (f.hnd.length * 4 + 3)
    clear hcu3 hoh
    have hk0 : (0 : Int) ≤ k := by omega
    have hk1 : (k : Int) < p.funcs.length := by omega
    have hj0 : (0 : Int) ≤ f.hnd.length := by omega
    have hj1 : (f.hnd.length : Int) < n2 := by have := hn2.out; omega
    refine start_ (n := 10) (S := fun w' => w'.cell? ⟨w.heap.size, 1, none⟩ = some (.slice (some ⟨gF, 0, none⟩) p.funcs.length uK) ∧ w'.cell? ⟨gF, k * 5 + 4, none⟩ = some (.slice (some ⟨gH, 0, none⟩) n2 c2) ∧ w'.cell? ⟨W0.heap.size, 0, none⟩ = some (.int .i64 x.frm) ∧ w'.cell? ⟨W0.heap.size, 1, none⟩ = some (.int .i64 x.upto) ∧ w'.cell? ⟨W0.heap.size, 2, none⟩ = some (.int .i64 x.tgt) ∧ w'.cell? ⟨W0.heap.size, 3, none⟩ = some (.int .i64 x.hgt)) (ds := [9]) #[false, false, false, false, false, false, false, false, false, false] (by kernel_rfl) rfl rfl ⟨q1, x4, g0, g1, g2, g3⟩ (fun hHeld => ?_)
    refine pure_ (i := 0) (N := some 70) (v := ?_) (a' := ?_) #[true, false, false, false, false, false, false, false, false, false] rfl rfl (by kernel_rfl) (fun _ _ _ h => h) (Or.inl ⟨by rfl, ?_⟩) ?_ ?_
    rotate_left
    · intro w'
      go_simp
      with_reducible rfl
    rotate_left
    · simp only [Act.put, List.setIfInBounds_toArray, List.set_cons_zero, List.set_cons_succ, i64_w, i32_w]
      rfl
    refine pure_ (i := 2) (N := some 72) (v := ?_) (a' := ?_) #[true, false, true, false, false, false, false, false, false, false] rfl rfl (by kernel_rfl) (fun _ _ _ h => h) (Or.inl ⟨by rfl, ?_⟩) ?_ ?_
    rotate_left
    · intro w'
      go_simp
      with_reducible rfl
    rotate_left
    · simp only [Act.put, List.setIfInBounds_toArray, List.set_cons_zero, List.set_cons_succ, i64_w, i32_w]
      rfl
    refine pure_ (i := 6) (N := some 76) (v := ?_) (a' := ?_) #[true, false, true, false, false, false, true, false, false, false] rfl rfl (by kernel_rfl) (fun _ _ _ h => h) (Or.inl ⟨by rfl, ?_⟩) ?_ ?_
    rotate_left
    · intro w'
      go_simp
      with_reducible rfl
    rotate_left
    · simp only [Act.put, List.setIfInBounds_toArray, List.set_cons_zero, List.set_cons_succ, i64_w, i32_w]
      rfl
    refine take_ (i := 1) (N := some 71) (v := ?_) (a' := ?_) #[true, true, true, false, false, false, true, false, false, false] rfl rfl (by kernel_rfl) (fun _ _ _ h => h) (Or.inl ⟨by rfl, ?_⟩) hHeld ?_ ?_
    rotate_left
    · rintro w' ⟨s0, s1, s2, s3, s4, s5⟩
      go_simp
      with_reducible rfl
    rotate_left
    · simp only [Act.put, List.setIfInBounds_toArray, List.set_cons_zero, List.set_cons_succ, i64_w, i32_w]
      rfl
    refine pure_ (i := 3) (N := some 73) (v := ?_) (a' := ?_) #[true, true, true, true, false, false, true, false, false, false] rfl rfl (by kernel_rfl) (fun _ _ _ h => h) (Or.inl ⟨by rfl, ?_⟩) ?_ ?_
    rotate_left
    · intro w'
      go_simp
      with_reducible rfl
    rotate_left
    · simp only [Act.put, List.setIfInBounds_toArray, List.set_cons_zero, List.set_cons_succ, i64_w, i32_w]
      rfl
    refine pure_ (i := 4) (N := some 74) (v := ?_) (a' := ?_) #[true, true, true, true, true, false, true, false, false, false] rfl rfl (by kernel_rfl) (fun _ _ _ h => h) (Or.inl ⟨by rfl, ?_⟩) ?_ ?_
    rotate_left
    · intro w'
      go_simp
      with_reducible rfl
    rotate_left
    · simp only [Act.put, List.setIfInBounds_toArray, List.set_cons_zero, List.set_cons_succ, i64_w, i32_w]
      rfl
    refine take_ (i := 5) (N := some 75) (v := ?_) (a' := ?_) #[true, true, true, true, true, true, true, false, false, false] rfl rfl (by kernel_rfl) (fun _ _ _ h => h) (Or.inl ⟨by rfl, ?_⟩) hHeld ?_ ?_
    rotate_left
    · rintro w' ⟨s0, s1, s2, s3, s4, s5⟩
      go_simp
      with_reducible rfl
    rotate_left
    · simp only [Act.put, List.setIfInBounds_toArray, List.set_cons_zero, List.set_cons_succ, i64_w, i32_w]
      rfl
    refine take_ (i := 7) (N := some 77) (v := ?_) (a' := ?_) #[true, true, true, true, true, true, true, true, false, false] rfl rfl (by kernel_rfl) (fun _ _ _ h => h) (Or.inl ⟨by rfl, ?_⟩) hHeld ?_ ?_
    rotate_left
    · rintro w' ⟨s0, s1, s2, s3, s4, s5⟩
      go_simp
      with_reducible rfl
    rotate_left
    · simp only [Act.put, List.setIfInBounds_toArray, List.set_cons_zero, List.set_cons_succ, i64_w, i32_w]
      rfl
    refine pure_ (i := 8) (N := some 78) (v := ?_) (a' := ?_) #[true, true, true, true, true, true, true, true, true, false] rfl rfl (by kernel_rfl) (fun _ _ _ h => h) (Or.inl ⟨by rfl, ?_⟩) ?_ ?_
    rotate_left
    · intro w'
      go_simp
      with_reducible rfl
    rotate_left
    · simp only [Act.put, List.setIfInBounds_toArray, List.set_cons_zero, List.set_cons_succ, i64_w, i32_w]
      rfl
    refine last_ (i := 9) (N := none) #[true, true, true, true, true, true, true, true, true, true] rfl rfl (by kernel_rfl) (by decide) (fun K hK => ?_)
    refine skip_ (w1 := ?_) (by rfl) rfl ?_ ?_
    rotate_left
    · go_simp
      rfl
    refine hK.out _ _ ?_
    clear hK K
    refine done_ (by kernel_rfl) ?_
    (try simp only [Act.put, List.setIfInBounds_toArray, List.set_cons_zero, List.set_cons_succ])
    clear hHeld
    generalize hW : World.drew (World.setCell (World.setCell (World.setCell (World.setCell _ _ _) _ _) _ _) _ _) = Wz
    have hs4 : Aside0 (Chg (fun b => b = gH) Wh Wz) := ⟨by rw [← hW]; exact Chg.drew (((((Chg.refl (fun b => b = gH) Wh).setCell (p := ⟨gH, f.hnd.length * 4, none⟩) (fun _ => rfl) (.int .i64 x.frm)).setCell (p := ⟨gH, f.hnd.length * 4 + 1, none⟩) (fun _ => rfl) (.int .i64 x.upto)).setCell (p := ⟨gH, f.hnd.length * 4 + 2, none⟩) (fun _ => rfl) (.int .i64 x.tgt)).setCell (p := ⟨gH, f.hnd.length * 4 + 3, none⟩) (fun _ => rfl) (.int .i64 x.hgt))⟩
    have hownz : Aside0 (POwn Wz lo (vA, p.consts.length, vK) (some ⟨gF, 0, none⟩, p.funcs.length, uK) ⟨p1.consts, p1.funcs.set k ⟨f.name, f.pars, f.locs, f.code, (f.hnd ++ [(⟨0, (f.code.length : Int), 0, 0⟩ : QH)]).set f.hnd.length x⟩⟩ rs1) := ⟨by rw [← hW]; exact POwn.new (hown3.out.hitR (f' := ⟨f.name, f.pars, f.locs, f.code, (f.hnd ++ [(⟨0, (f.code.length : Int), 0, 0⟩ : QH)]).set f.hnd.length x⟩) hadd.out.2 hrx1.out hfx1.out rfl (((((Chg.refl (fun b => b = gH) Wh).setCell (p := ⟨gH, f.hnd.length * 4, none⟩) (fun _ => rfl) (.int .i64 x.frm)).setCell (p := ⟨gH, f.hnd.length * 4 + 1, none⟩) (fun _ => rfl) (.int .i64 x.upto)).setCell (p := ⟨gH, f.hnd.length * 4 + 2, none⟩) (fun _ => rfl) (.int .i64 x.tgt)).setCell (p := ⟨gH, f.hnd.length * 4 + 3, none⟩) (fun _ => rfl) (.int .i64 x.hgt)) ⟨rfl, rfl, rfl, rfl⟩ (fun ho => oq_putH (y := ⟨0, (f.code.length : Int), 0, 0⟩) ho (by rw [List.getElem?_append_right (Nat.le_refl _)]; simp) x)) ((Chg.refl _ _).drew)⟩
    obtain ⟨p3, hp3e⟩ : ∃ p3 : QP, p3 = ⟨p.consts, p.funcs.set k ⟨f.name, f.pars, f.locs, f.code, f.hnd ++ [x]⟩⟩ := ⟨_, rfl⟩
    have hpe : QP.mk p1.consts (p1.funcs.set k (QF.mk f.name f.pars f.locs f.code ((f.hnd ++ [(⟨0, (f.code.length : Int), 0, 0⟩ : QH)]).set f.hnd.length x))) = p3 := by rw [hp3e, hp1A.out, set_lastH]; simp only [List.set_set]
    rw [hpe] at hownz
    have hp3 : Aside0 (checkP chkP p3 = (((k : Int), (f.hnd.length : Int)), 8)) := ⟨by rw [hp3e]; exact (hnd_more hfit.out hfA.out h32A.out x).2 hbad.out⟩
    have hwf3 : Aside0 (PWf p3) := ⟨by rw [hp3e]; exact wf_setF hwA.out ⟨hsz.out.1, hsz.out.2.1, by have := h32A.out; simp only [List.length_append, List.length_singleton]; omega⟩⟩
    obtain ⟨hv9, hu9, hpv⟩ := hownz.out.view
    simp only at hv9 hu9 hpv
    have hpvZ := Aside0.mk hpv
    replace B1 := Aside0.mk (hs4.out.blk B1.out (fun e => hgH.out.2.2.2 e.symm))
    clear q1 x4 g0 g1 g2 g3 y0 y1 y2 y3 z0 z1 z2 z3 hpv hpe hp3e hW
    have q0 : Wz.cell? ⟨w.heap.size, 0, none⟩ = some (.slice vA p.consts.length vK) := blk_cell B1.out 0
    have q1 : Wz.cell? ⟨w.heap.size, 1, none⟩ = some (.slice (some ⟨gF, 0, none⟩) p.funcs.length uK) := blk_cell B1.out 1
    rw [hv9] at q0
    rw [hu9] at q1
    have hzz : Aside0 (Chg (fun b => lo ≤ b) w Wz) := ⟨(hze.out.trans hs.out (fun b hb e => by have := hb2.out; have := hloA.out.2; omega)).trans hs4.out (fun b hb e => by subst e; exact hgH.out.1)⟩
    have hEz : Aside0 (Wz.cell? ⟨0, 0, none⟩ = some (.iface 114 (.agg #[.pointer (some ⟨2, 68, none⟩)]))) := ⟨cell_chgY hs4.out (by have := hgH.out.1; have := hloA.out.1; show ¬ 0 = gH; omega) (cell_chgY hs.out (by have := hb2.out; show ¬ 0 = W0.heap.size; omega) hE1.out)⟩
    clear hv9 hu9 hs hs4 hownz hown3 hze hE1
    go_wp2_with (go_at_call 16; go_must (refine (law_found Wz vA (some ⟨gF, 0, none⟩) vK uK p3 rs1 (k : Int) (f.hnd.length : Int) 8 hpvZ.out hwf3.out hEz.out hp3.out).mono ?_); go_must (rintro e wk ⟨rfl, hwk⟩); go_must (replace hwk := Aside0.mk hwk))
    go_ret
    exact ⟨rfl, hzz.out.trans hwk.out (fun _ _ h => h.elim)⟩
  · obtain ⟨x, hx⟩ : ∃ x : QH, x = ⟨0, (f.code.length : Int), (f.code.length : Int), 0⟩ := ⟨_, rfl⟩
    have hbad : Aside0 (handlerQ x f.code.length = false) := ⟨by have := hok.out.c0; rw [hx]; unfold handlerQ; simp <;> omega⟩
    subst hm0
    have t0 := blk_cell B2.out 0
    have t1 := blk_cell B2.out 1
    have t2 := blk_cell B2.out 2
    have t3 := blk_cell B2.out 3
    have u0 := blk_frozen B2.out 0
    have u1 := blk_frozen B2.out 1
    have u2 := blk_frozen B2.out 2
    have u3 := blk_frozen B2.out 3
    go_upto_region 22 with (go_at_call 17; go_must (refine (hpick.out _).mono ?_); go_must (rintro e wn ⟨rfl, hwn⟩); go_must (subst wn))
    (try simp only [Act.put, List.setIfInBounds_toArray, List.set_cons_zero, List.set_cons_succ])
    generalize hW : World.setCell wc _ _ = Wh
    have hs : Aside0 (Chg (fun b => b = W0.heap.size) wc Wh) := ⟨by rw [← hW]; exact (Chg.refl (fun b => b = W0.heap.size) wc).setCell (p := ⟨W0.heap.size, 2, none⟩) (fun _ => rfl) _⟩
    have B2h : Aside0 (Wh.heap[W0.heap.size]? = some (.cells #[.int .i64 x.frm, .int .i64 x.upto, .int .i64 x.tgt, .int .i64 x.hgt] 54 (0, 0))) := ⟨by rw [← hW, hx]; exact blk_set B2.out 2 _⟩
    have hown3 : Aside0 (POwn Wh lo (vA, p.consts.length, vK) (some ⟨gF, 0, none⟩, p.funcs.length, uK) p1 rs1) := ⟨hadd.out.1.hitB B2.out hs.out hnb.out⟩
    replace B1 := Aside0.mk (hs.out.blk B1.out (by have := hb2.out; omega))
    clear hW t0 t1 t2 t3 u0 u1 u2 u3 hx hpick
    have q1 : Wh.cell? ⟨w.heap.size, 1, none⟩ = some (.slice (some ⟨gF, 0, none⟩) p.funcs.length uK) := blk_cell B1.out 1
    obtain ⟨_, _, _, x3, x4⟩ := raw_ownC hown3.out.fs.toC k hk hrx1.out
    clear x3
    (try simp only at x4)
    have g0 : Wh.cell? ⟨W0.heap.size, 0, none⟩ = some (.int .i64 x.frm) := blk_cell B2h.out 0
    have g1 : Wh.cell? ⟨W0.heap.size, 1, none⟩ = some (.int .i64 x.upto) := blk_cell B2h.out 1
    have g2 : Wh.cell? ⟨W0.heap.size, 2, none⟩ = some (.int .i64 x.tgt) := blk_cell B2h.out 2
    have g3 : Wh.cell? ⟨W0.heap.size, 3, none⟩ = some (.int .i64 x.hgt) := blk_cell B2h.out 3
    obtain ⟨_, _, _, _, hoh⟩ := hown3.out.fn.2 k _ _ hrx1.out hfx1.out
    obtain ⟨ya, yb, yc, yd, _, y0, y1, y2, y3⟩ := kQH_own hoh.toC f.hnd.length (by have := hn2.out; show f.hnd.length < n2; omega)
    obtain ⟨cu3, hcu3⟩ := Kd.R_typed hoh.1 gH rfl
    have z0 := blk_frozen hcu3 (f.hnd.length * 4)
    have z1 := blk_frozen hcu3 (f.hnd.length * 4 + 1)
    have z2 := blk_frozen hcu3 (f.hnd.length * 4 + 2)
    have z3 := blk_frozen hcu3 (f.hnd.length * 4 + 3)
    clear hcu3 hoh
    have hk0 : (0 : Int) ≤ k := by omega
    have hk1 : (k : Int) < p.funcs.length := by omega
    have hj0 : (0 : Int) ≤ f.hnd.length := by omega
    have hj1 : (f.hnd.length : Int) < n2 := by have := hn2.out; omega
    refine start_ (n := 10) (S := fun w' => w'.cell? ⟨w.heap.size, 1, none⟩ = some (.slice (some ⟨gF, 0, none⟩) p.funcs.length uK) ∧ w'.cell? ⟨gF, k * 5 + 4, none⟩ = some (.slice (some ⟨gH, 0, none⟩) n2 c2) ∧ w'.cell? ⟨W0.heap.size, 0, none⟩ = some (.int .i64 x.frm) ∧ w'.cell? ⟨W0.heap.size, 1, none⟩ = some (.int .i64 x.upto) ∧ w'.cell? ⟨W0.heap.size, 2, none⟩ = some (.int .i64 x.tgt) ∧ w'.cell? ⟨W0.heap.size, 3, none⟩ = some (.int .i64 x.hgt)) (ds := [9]) #[false, false, false, false, false, false, false, false, false, false] (by kernel_rfl) rfl rfl ⟨q1, x4, g0, g1, g2, g3⟩ (fun hHeld => ?_)
    refine pure_ (i := 0) (N := some 70) (v := ?_) (a' := ?_) #[true, false, false, false, false, false, false, false, false, false] rfl rfl (by kernel_rfl) (fun _ _ _ h => h) (Or.inl ⟨by rfl, ?_⟩) ?_ ?_
    rotate_left
    · intro w'
      go_simp
      with_reducible rfl
    rotate_left
    · simp only [Act.put, List.setIfInBounds_toArray, List.set_cons_zero, List.set_cons_succ, i64_w, i32_w]
      rfl
    refine pure_ (i := 2) (N := some 72) (v := ?_) (a' := ?_) #[true, false, true, false, false, false, false, false, false, false] rfl rfl (by kernel_rfl) (fun _ _ _ h => h) (Or.inl ⟨by rfl, ?_⟩) ?_ ?_
    rotate_left
    · intro w'
      go_simp
      with_reducible rfl
    rotate_left
    · simp only [Act.put, List.setIfInBounds_toArray, List.set_cons_zero, List.set_cons_succ, i64_w, i32_w]
      rfl
    refine pure_ (i := 6) (N := some 76) (v := ?_) (a' := ?_) #[true, false, true, false, false, false, true, false, false, false] rfl rfl (by kernel_rfl) (fun _ _ _ h => h) (Or.inl ⟨by rfl, ?_⟩) ?_ ?_
    rotate_left
    · intro w'
      go_simp
      with_reducible rfl
    rotate_left
    · simp only [Act.put, List.setIfInBounds_toArray, List.set_cons_zero, List.set_cons_succ, i64_w, i32_w]
      rfl
    refine take_ (i := 1) (N := some 71) (v := ?_) (a' := ?_) #[true, true, true, false, false, false, true, false, false, false] rfl rfl (by kernel_rfl) (fun _ _ _ h => h) (Or.inl ⟨by rfl, ?_⟩) hHeld ?_ ?_
    rotate_left
    · rintro w' ⟨s0, s1, s2, s3, s4, s5⟩
      go_simp
      with_reducible rfl
    rotate_left
    · simp only [Act.put, List.setIfInBounds_toArray, List.set_cons_zero, List.set_cons_succ, i64_w, i32_w]
      rfl
    refine pure_ (i := 3) (N := some 73) (v := ?_) (a' := ?_) #[true, true, true, true, false, false, true, false, false, false] rfl rfl (by kernel_rfl) (fun _ _ _ h => h) (Or.inl ⟨by rfl, ?_⟩) ?_ ?_
    rotate_left
    · intro w'
      go_simp
      with_reducible rfl
    rotate_left
    · simp only [Act.put, List.setIfInBounds_toArray, List.set_cons_zero, List.set_cons_succ, i64_w, i32_w]
      rfl
    refine pure_ (i := 4) (N := some 74) (v := ?_) (a' := ?_) #[true, true, true, true, true, false, true, false, false, false] rfl rfl (by kernel_rfl) (fun _ _ _ h => h) (Or.inl ⟨by rfl, ?_⟩) ?_ ?_
    rotate_left
    · intro w'
      go_simp
      with_reducible rfl
    rotate_left
    · simp only [Act.put, List.setIfInBounds_toArray, List.set_cons_zero, List.set_cons_succ, i64_w, i32_w]
      rfl
    refine take_ (i := 5) (N := some 75) (v := ?_) (a' := ?_) #[true, true, true, true, true, true, true, false, false, false] rfl rfl (by kernel_rfl) (fun _ _ _ h => h) (Or.inl ⟨by rfl, ?_⟩) hHeld ?_ ?_
    rotate_left
    · rintro w' ⟨s0, s1, s2, s3, s4, s5⟩
      go_simp
      with_reducible rfl
    rotate_left
    · simp only [Act.put, List.setIfInBounds_toArray, List.set_cons_zero, List.set_cons_succ, i64_w, i32_w]
      rfl
    refine take_ (i := 7) (N := some 77) (v := ?_) (a' := ?_) #[true, true, true, true, true, true, true, true, false, false] rfl rfl (by kernel_rfl) (fun _ _ _ h => h) (Or.inl ⟨by rfl, ?_⟩) hHeld ?_ ?_
    rotate_left
    · rintro w' ⟨s0, s1, s2, s3, s4, s5⟩
      go_simp
      with_reducible rfl
    rotate_left
    · simp only [Act.put, List.setIfInBounds_toArray, List.set_cons_zero, List.set_cons_succ, i64_w, i32_w]
      rfl
    refine pure_ (i := 8) (N := some 78) (v := ?_) (a' := ?_) #[true, true, true, true, true, true, true, true, true, false] rfl rfl (by kernel_rfl) (fun _ _ _ h => h) (Or.inl ⟨by rfl, ?_⟩) ?_ ?_
    rotate_left
    · intro w'
      go_simp
      with_reducible rfl
    rotate_left
    · simp only [Act.put, List.setIfInBounds_toArray, List.set_cons_zero, List.set_cons_succ, i64_w, i32_w]
      rfl
    refine last_ (i := 9) (N := none) #[true, true, true, true, true, true, true, true, true, true] rfl rfl (by kernel_rfl) (by decide) (fun K hK => ?_)
    refine skip_ (w1 := ?_) (by rfl) rfl ?_ ?_
    rotate_left
    · go_simp
      rfl
    refine hK.out _ _ ?_
    clear hK K
    refine done_ (by kernel_rfl) ?_
    (try simp only [Act.put, List.setIfInBounds_toArray, List.set_cons_zero, List.set_cons_succ])
    clear hHeld
    generalize hW : World.drew (World.setCell (World.setCell (World.setCell (World.setCell _ _ _) _ _) _ _) _ _) = Wz
    have hs4 : Aside0 (Chg (fun b => b = gH) Wh Wz) := ⟨by rw [← hW]; exact Chg.drew (((((Chg.refl (fun b => b = gH) Wh).setCell (p := ⟨gH, f.hnd.length * 4, none⟩) (fun _ => rfl) (.int .i64 x.frm)).setCell (p := ⟨gH, f.hnd.length * 4 + 1, none⟩) (fun _ => rfl) (.int .i64 x.upto)).setCell (p := ⟨gH, f.hnd.length * 4 + 2, none⟩) (fun _ => rfl) (.int .i64 x.tgt)).setCell (p := ⟨gH, f.hnd.length * 4 + 3, none⟩) (fun _ => rfl) (.int .i64 x.hgt))⟩
    have hownz : Aside0 (POwn Wz lo (vA, p.consts.length, vK) (some ⟨gF, 0, none⟩, p.funcs.length, uK) ⟨p1.consts, p1.funcs.set k ⟨f.name, f.pars, f.locs, f.code, (f.hnd ++ [(⟨0, (f.code.length : Int), 0, 0⟩ : QH)]).set f.hnd.length x⟩⟩ rs1) := ⟨by rw [← hW]; exact POwn.new (hown3.out.hitR (f' := ⟨f.name, f.pars, f.locs, f.code, (f.hnd ++ [(⟨0, (f.code.length : Int), 0, 0⟩ : QH)]).set f.hnd.length x⟩) hadd.out.2 hrx1.out hfx1.out rfl (((((Chg.refl (fun b => b = gH) Wh).setCell (p := ⟨gH, f.hnd.length * 4, none⟩) (fun _ => rfl) (.int .i64 x.frm)).setCell (p := ⟨gH, f.hnd.length * 4 + 1, none⟩) (fun _ => rfl) (.int .i64 x.upto)).setCell (p := ⟨gH, f.hnd.length * 4 + 2, none⟩) (fun _ => rfl) (.int .i64 x.tgt)).setCell (p := ⟨gH, f.hnd.length * 4 + 3, none⟩) (fun _ => rfl) (.int .i64 x.hgt)) ⟨rfl, rfl, rfl, rfl⟩ (fun ho => oq_putH (y := ⟨0, (f.code.length : Int), 0, 0⟩) ho (by rw [List.getElem?_append_right (Nat.le_refl _)]; simp) x)) ((Chg.refl _ _).drew)⟩
    obtain ⟨p3, hp3e⟩ : ∃ p3 : QP, p3 = ⟨p.consts, p.funcs.set k ⟨f.name, f.pars, f.locs, f.code, f.hnd ++ [x]⟩⟩ := ⟨_, rfl⟩
    have hpe : QP.mk p1.consts (p1.funcs.set k (QF.mk f.name f.pars f.locs f.code ((f.hnd ++ [(⟨0, (f.code.length : Int), 0, 0⟩ : QH)]).set f.hnd.length x))) = p3 := by rw [hp3e, hp1A.out, set_lastH]; simp only [List.set_set]
    rw [hpe] at hownz
    have hp3 : Aside0 (checkP chkP p3 = (((k : Int), (f.hnd.length : Int)), 8)) := ⟨by rw [hp3e]; exact (hnd_more hfit.out hfA.out h32A.out x).2 hbad.out⟩
    have hwf3 : Aside0 (PWf p3) := ⟨by rw [hp3e]; exact wf_setF hwA.out ⟨hsz.out.1, hsz.out.2.1, by have := h32A.out; simp only [List.length_append, List.length_singleton]; omega⟩⟩
    obtain ⟨hv9, hu9, hpv⟩ := hownz.out.view
    simp only at hv9 hu9 hpv
    have hpvZ := Aside0.mk hpv
    replace B1 := Aside0.mk (hs4.out.blk B1.out (fun e => hgH.out.2.2.2 e.symm))
    clear q1 x4 g0 g1 g2 g3 y0 y1 y2 y3 z0 z1 z2 z3 hpv hpe hp3e hW
    have q0 : Wz.cell? ⟨w.heap.size, 0, none⟩ = some (.slice vA p.consts.length vK) := blk_cell B1.out 0
    have q1 : Wz.cell? ⟨w.heap.size, 1, none⟩ = some (.slice (some ⟨gF, 0, none⟩) p.funcs.length uK) := blk_cell B1.out 1
    rw [hv9] at q0
    rw [hu9] at q1
    have hzz : Aside0 (Chg (fun b => lo ≤ b) w Wz) := ⟨(hze.out.trans hs.out (fun b hb e => by have := hb2.out; have := hloA.out.2; omega)).trans hs4.out (fun b hb e => by subst e; exact hgH.out.1)⟩
    have hEz : Aside0 (Wz.cell? ⟨0, 0, none⟩ = some (.iface 114 (.agg #[.pointer (some ⟨2, 68, none⟩)]))) := ⟨cell_chgY hs4.out (by have := hgH.out.1; have := hloA.out.1; show ¬ 0 = gH; omega) (cell_chgY hs.out (by have := hb2.out; show ¬ 0 = W0.heap.size; omega) hE1.out)⟩
    clear hv9 hu9 hs hs4 hownz hown3 hze hE1
    go_wp2_with (go_at_call 16; go_must (refine (law_found Wz vA (some ⟨gF, 0, none⟩) vK uK p3 rs1 (k : Int) (f.hnd.length : Int) 8 hpvZ.out hwf3.out hEz.out hp3.out).mono ?_); go_must (rintro e wk ⟨rfl, hwk⟩); go_must (replace hwk := Aside0.mk hwk))
    go_ret
    exact ⟨rfl, hzz.out.trans hwk.out (fun _ _ h => h.elim)⟩
  · obtain ⟨x, hx⟩ : ∃ x : QH, x = ⟨0, (f.code.length : Int), 0, 64⟩ := ⟨_, rfl⟩
    have hbad : Aside0 (handlerQ x f.code.length = false) := ⟨by have := hok.out.c0; rw [hx]; unfold handlerQ; simp <;> omega⟩
    subst hm0
    have t0 := blk_cell B2.out 0
    have t1 := blk_cell B2.out 1
    have t2 := blk_cell B2.out 2
    have t3 := blk_cell B2.out 3
    have u0 := blk_frozen B2.out 0
    have u1 := blk_frozen B2.out 1
    have u2 := blk_frozen B2.out 2
    have u3 := blk_frozen B2.out 3
    go_upto_region 22 with (go_at_call 17; go_must (refine (hpick.out _).mono ?_); go_must (rintro e wn ⟨rfl, hwn⟩); go_must (subst wn))
    (try simp only [Act.put, List.setIfInBounds_toArray, List.set_cons_zero, List.set_cons_succ])
    generalize hW : World.setCell wc _ _ = Wh
    have hs : Aside0 (Chg (fun b => b = W0.heap.size) wc Wh) := ⟨by rw [← hW]; exact (Chg.refl (fun b => b = W0.heap.size) wc).setCell (p := ⟨W0.heap.size, 3, none⟩) (fun _ => rfl) _⟩
    have B2h : Aside0 (Wh.heap[W0.heap.size]? = some (.cells #[.int .i64 x.frm, .int .i64 x.upto, .int .i64 x.tgt, .int .i64 x.hgt] 54 (0, 0))) := ⟨by rw [← hW, hx]; exact blk_set B2.out 3 _⟩
    have hown3 : Aside0 (POwn Wh lo (vA, p.consts.length, vK) (some ⟨gF, 0, none⟩, p.funcs.length, uK) p1 rs1) := ⟨hadd.out.1.hitB B2.out hs.out hnb.out⟩
    replace B1 := Aside0.mk (hs.out.blk B1.out (by have := hb2.out; omega))
    clear hW t0 t1 t2 t3 u0 u1 u2 u3 hx hpick
    have q1 : Wh.cell? ⟨w.heap.size, 1, none⟩ = some (.slice (some ⟨gF, 0, none⟩) p.funcs.length uK) := blk_cell B1.out 1
    obtain ⟨_, _, _, x3, x4⟩ := raw_ownC hown3.out.fs.toC k hk hrx1.out
    clear x3
    (try simp only at x4)
    have g0 : Wh.cell? ⟨W0.heap.size, 0, none⟩ = some (.int .i64 x.frm) := blk_cell B2h.out 0
    have g1 : Wh.cell? ⟨W0.heap.size, 1, none⟩ = some (.int .i64 x.upto) := blk_cell B2h.out 1
    have g2 : Wh.cell? ⟨W0.heap.size, 2, none⟩ = some (.int .i64 x.tgt) := blk_cell B2h.out 2
    have g3 : Wh.cell? ⟨W0.heap.size, 3, none⟩ = some (.int .i64 x.hgt) := blk_cell B2h.out 3
    obtain ⟨_, _, _, _, hoh⟩ := hown3.out.fn.2 k _ _ hrx1.out hfx1.out
    obtain ⟨ya, yb, yc, yd, _, y0, y1, y2, y3⟩ := kQH_own hoh.toC f.hnd.length (by have := hn2.out; show f.hnd.length < n2; omega)
    obtain ⟨cu3, hcu3⟩ := Kd.R_typed hoh.1 gH rfl
    have z0 := blk_frozen hcu3 (f.hnd.length * 4)
    have z1 := blk_frozen hcu3 (f.hnd.length * 4 + 1)
    have z2 := blk_frozen hcu3 (f.hnd.length * 4 + 2)
    have z3 := blk_frozen hcu3 (f.hnd.length * 4 + 3)
    clear hcu3 hoh
    have hk0 : (0 : Int) ≤ k := by omega
    have hk1 : (k : Int) < p.funcs.length := by omega
    have hj0 : (0 : Int) ≤ f.hnd.length := by omega
    have hj1 : (f.hnd.length : Int) < n2 := by have := hn2.out; omega
    refine start_ (n := 10) (S := fun w' => w'.cell? ⟨w.heap.size, 1, none⟩ = some (.slice (some ⟨gF, 0, none⟩) p.funcs.length uK) ∧ w'.cell? ⟨gF, k * 5 + 4, none⟩ = some (.slice (some ⟨gH, 0, none⟩) n2 c2) ∧ w'.cell? ⟨W0.heap.size, 0, none⟩ = some (.int .i64 x.frm) ∧ w'.cell? ⟨W0.heap.size, 1, none⟩ = some (.int .i64 x.upto) ∧ w'.cell? ⟨W0.heap.size, 2, none⟩ = some (.int .i64 x.tgt) ∧ w'.cell? ⟨W0.heap.size, 3, none⟩ = some (.int .i64 x.hgt)) (ds := [9]) #[false, false, false, false, false, false, false, false, false, false] (by kernel_rfl) rfl rfl ⟨q1, x4, g0, g1, g2, g3⟩ (fun hHeld => ?_)
    refine pure_ (i := 0) (N := some 70) (v := ?_) (a' := ?_) #[true, false, false, false, false, false, false, false, false, false] rfl rfl (by kernel_rfl) (fun _ _ _ h => h) (Or.inl ⟨by rfl, ?_⟩) ?_ ?_
    rotate_left
    · intro w'
      go_simp
      with_reducible rfl
    rotate_left
    · simp only [Act.put, List.setIfInBounds_toArray, List.set_cons_zero, List.set_cons_succ, i64_w, i32_w]
      rfl
    refine pure_ (i := 2) (N := some 72) (v := ?_) (a' := ?_) #[true, false, true, false, false, false, false, false, false, false] rfl rfl (by kernel_rfl) (fun _ _ _ h => h) (Or.inl ⟨by rfl, ?_⟩) ?_ ?_
    rotate_left
    · intro w'
      go_simp
      with_reducible rfl
    rotate_left
    · simp only [Act.put, List.setIfInBounds_toArray, List.set_cons_zero, List.set_cons_succ, i64_w, i32_w]
      rfl
    refine pure_ (i := 6) (N := some 76) (v := ?_) (a' := ?_) #[true, false, true, false, false, false, true, false, false, false] rfl rfl (by kernel_rfl) (fun _ _ _ h => h) (Or.inl ⟨by rfl, ?_⟩) ?_ ?_
    rotate_left
    · intro w'
      go_simp
      with_reducible rfl
    rotate_left
    · simp only [Act.put, List.setIfInBounds_toArray, List.set_cons_zero, List.set_cons_succ, i64_w, i32_w]
      rfl
    refine take_ (i := 1) (N := some 71) (v := ?_) (a' := ?_) #[true, true, true, false, false, false, true, false, false, false] rfl rfl (by kernel_rfl) (fun _ _ _ h => h) (Or.inl ⟨by rfl, ?_⟩) hHeld ?_ ?_
    rotate_left
    · rintro w' ⟨s0, s1, s2, s3, s4, s5⟩
      go_simp
      with_reducible rfl
    rotate_left
    · simp only [Act.put, List.setIfInBounds_toArray, List.set_cons_zero, List.set_cons_succ, i64_w, i32_w]
      rfl
    refine pure_ (i := 3) (N := some 73) (v := ?_) (a' := ?_) #[true, true, true, true, false, false, true, false, false, false] rfl rfl (by kernel_rfl) (fun _ _ _ h => h) (Or.inl ⟨by rfl, ?_⟩) ?_ ?_
    rotate_left
    · intro w'
      go_simp
      with_reducible rfl
    rotate_left
    · simp only [Act.put, List.setIfInBounds_toArray, List.set_cons_zero, List.set_cons_succ, i64_w, i32_w]
      rfl
    refine pure_ (i := 4) (N := some 74) (v := ?_) (a' := ?_) #[true, true, true, true, true, false, true, false, false, false] rfl rfl (by kernel_rfl) (fun _ _ _ h => h) (Or.inl ⟨by rfl, ?_⟩) ?_ ?_
    rotate_left
    · intro w'
      go_simp
      with_reducible rfl
    rotate_left
    · simp only [Act.put, List.setIfInBounds_toArray, List.set_cons_zero, List.set_cons_succ, i64_w, i32_w]
      rfl
    refine take_ (i := 5) (N := some 75) (v := ?_) (a' := ?_) #[true, true, true, true, true, true, true, false, false, false] rfl rfl (by kernel_rfl) (fun _ _ _ h => h) (Or.inl ⟨by rfl, ?_⟩) hHeld ?_ ?_
    rotate_left
    · rintro w' ⟨s0, s1, s2, s3, s4, s5⟩
      go_simp
      with_reducible rfl
    rotate_left
    · simp only [Act.put, List.setIfInBounds_toArray, List.set_cons_zero, List.set_cons_succ, i64_w, i32_w]
      rfl
    refine take_ (i := 7) (N := some 77) (v := ?_) (a' := ?_) #[true, true, true, true, true, true, true, true, false, false] rfl rfl (by kernel_rfl) (fun _ _ _ h => h) (Or.inl ⟨by rfl, ?_⟩) hHeld ?_ ?_
    rotate_left
    · rintro w' ⟨s0, s1, s2, s3, s4, s5⟩
      go_simp
      with_reducible rfl
    rotate_left
    · simp only [Act.put, List.setIfInBounds_toArray, List.set_cons_zero, List.set_cons_succ, i64_w, i32_w]
      rfl
    refine pure_ (i := 8) (N := some 78) (v := ?_) (a' := ?_) #[true, true, true, true, true, true, true, true, true, false] rfl rfl (by kernel_rfl) (fun _ _ _ h => h) (Or.inl ⟨by rfl, ?_⟩) ?_ ?_
    rotate_left
    · intro w'
      go_simp
      with_reducible rfl
    rotate_left
    · simp only [Act.put, List.setIfInBounds_toArray, List.set_cons_zero, List.set_cons_succ, i64_w, i32_w]
      rfl
    refine last_ (i := 9) (N := none) #[true, true, true, true, true, true, true, true, true, true] rfl rfl (by kernel_rfl) (by decide) (fun K hK => ?_)
    refine skip_ (w1 := ?_) (by rfl) rfl ?_ ?_
    rotate_left
    · go_simp
      rfl
    refine hK.out _ _ ?_
    clear hK K
    refine done_ (by kernel_rfl) ?_
    (try simp only [Act.put, List.setIfInBounds_toArray, List.set_cons_zero, List.set_cons_succ])
    clear hHeld
    generalize hW : World.drew (World.setCell (World.setCell (World.setCell (World.setCell _ _ _) _ _) _ _) _ _) = Wz
    have hs4 : Aside0 (Chg (fun b => b = gH) Wh Wz) := ⟨by rw [← hW]; exact Chg.drew (((((Chg.refl (fun b => b = gH) Wh).setCell (p := ⟨gH, f.hnd.length * 4, none⟩) (fun _ => rfl) (.int .i64 x.frm)).setCell (p := ⟨gH, f.hnd.length * 4 + 1, none⟩) (fun _ => rfl) (.int .i64 x.upto)).setCell (p := ⟨gH, f.hnd.length * 4 + 2, none⟩) (fun _ => rfl) (.int .i64 x.tgt)).setCell (p := ⟨gH, f.hnd.length * 4 + 3, none⟩) (fun _ => rfl) (.int .i64 x.hgt))⟩
    have hownz : Aside0 (POwn Wz lo (vA, p.consts.length, vK) (some ⟨gF, 0, none⟩, p.funcs.length, uK) ⟨p1.consts, p1.funcs.set k ⟨f.name, f.pars, f.locs, f.code, (f.hnd ++ [(⟨0, (f.code.length : Int), 0, 0⟩ : QH)]).set f.hnd.length x⟩⟩ rs1) := ⟨by rw [← hW]; exact POwn.new (hown3.out.hitR (f' := ⟨f.name, f.pars, f.locs, f.code, (f.hnd ++ [(⟨0, (f.code.length : Int), 0, 0⟩ : QH)]).set f.hnd.length x⟩) hadd.out.2 hrx1.out hfx1.out rfl (((((Chg.refl (fun b => b = gH) Wh).setCell (p := ⟨gH, f.hnd.length * 4, none⟩) (fun _ => rfl) (.int .i64 x.frm)).setCell (p := ⟨gH, f.hnd.length * 4 + 1, none⟩) (fun _ => rfl) (.int .i64 x.upto)).setCell (p := ⟨gH, f.hnd.length * 4 + 2, none⟩) (fun _ => rfl) (.int .i64 x.tgt)).setCell (p := ⟨gH, f.hnd.length * 4 + 3, none⟩) (fun _ => rfl) (.int .i64 x.hgt)) ⟨rfl, rfl, rfl, rfl⟩ (fun ho => oq_putH (y := ⟨0, (f.code.length : Int), 0, 0⟩) ho (by rw [List.getElem?_append_right (Nat.le_refl _)]; simp) x)) ((Chg.refl _ _).drew)⟩
    obtain ⟨p3, hp3e⟩ : ∃ p3 : QP, p3 = ⟨p.consts, p.funcs.set k ⟨f.name, f.pars, f.locs, f.code, f.hnd ++ [x]⟩⟩ := ⟨_, rfl⟩
    have hpe : QP.mk p1.consts (p1.funcs.set k (QF.mk f.name f.pars f.locs f.code ((f.hnd ++ [(⟨0, (f.code.length : Int), 0, 0⟩ : QH)]).set f.hnd.length x))) = p3 := by rw [hp3e, hp1A.out, set_lastH]; simp only [List.set_set]
    rw [hpe] at hownz
    have hp3 : Aside0 (checkP chkP p3 = (((k : Int), (f.hnd.length : Int)), 8)) := ⟨by rw [hp3e]; exact (hnd_more hfit.out hfA.out h32A.out x).2 hbad.out⟩
    have hwf3 : Aside0 (PWf p3) := ⟨by rw [hp3e]; exact wf_setF hwA.out ⟨hsz.out.1, hsz.out.2.1, by have := h32A.out; simp only [List.length_append, List.length_singleton]; omega⟩⟩
    obtain ⟨hv9, hu9, hpv⟩ := hownz.out.view
    simp only at hv9 hu9 hpv
    have hpvZ := Aside0.mk hpv
    replace B1 := Aside0.mk (hs4.out.blk B1.out (fun e => hgH.out.2.2.2 e.symm))
    clear q1 x4 g0 g1 g2 g3 y0 y1 y2 y3 z0 z1 z2 z3 hpv hpe hp3e hW
    have q0 : Wz.cell? ⟨w.heap.size, 0, none⟩ = some (.slice vA p.consts.length vK) := blk_cell B1.out 0
    have q1 : Wz.cell? ⟨w.heap.size, 1, none⟩ = some (.slice (some ⟨gF, 0, none⟩) p.funcs.length uK) := blk_cell B1.out 1
    rw [hv9] at q0
    rw [hu9] at q1
    have hzz : Aside0 (Chg (fun b => lo ≤ b) w Wz) := ⟨(hze.out.trans hs.out (fun b hb e => by have := hb2.out; have := hloA.out.2; omega)).trans hs4.out (fun b hb e => by subst e; exact hgH.out.1)⟩
    have hEz : Aside0 (Wz.cell? ⟨0, 0, none⟩ = some (.iface 114 (.agg #[.pointer (some ⟨2, 68, none⟩)]))) := ⟨cell_chgY hs4.out (by have := hgH.out.1; have := hloA.out.1; show ¬ 0 = gH; omega) (cell_chgY hs.out (by have := hb2.out; show ¬ 0 = W0.heap.size; omega) hE1.out)⟩
    clear hv9 hu9 hs hs4 hownz hown3 hze hE1
    go_wp2_with (go_at_call 16; go_must (refine (law_found Wz vA (some ⟨gF, 0, none⟩) vK uK p3 rs1 (k : Int) (f.hnd.length : Int) 8 hpvZ.out hwf3.out hEz.out hp3.out).mono ?_); go_must (rintro e wk ⟨rfl, hwk⟩); go_must (replace hwk := Aside0.mk hwk))
    go_ret
    exact ⟨rfl, hzz.out.trans hwk.out (fun _ _ h => h.elim)⟩
  · obtain ⟨x, hx⟩ : ∃ x : QH, x = ⟨0, (f.code.length : Int), 0, -1⟩ := ⟨_, rfl⟩
    have hbad : Aside0 (handlerQ x f.code.length = false) := ⟨by have := hok.out.c0; rw [hx]; unfold handlerQ; simp <;> omega⟩
    subst hm0
    have t0 := blk_cell B2.out 0
    have t1 := blk_cell B2.out 1
    have t2 := blk_cell B2.out 2
    have t3 := blk_cell B2.out 3
    have u0 := blk_frozen B2.out 0
    have u1 := blk_frozen B2.out 1
    have u2 := blk_frozen B2.out 2
    have u3 := blk_frozen B2.out 3
    go_upto_region 22 with (go_at_call 17; go_must (refine (hpick.out _).mono ?_); go_must (rintro e wn ⟨rfl, hwn⟩); go_must (subst wn))
    (try simp only [Act.put, List.setIfInBounds_toArray, List.set_cons_zero, List.set_cons_succ])
    generalize hW : World.setCell wc _ _ = Wh
    have hs : Aside0 (Chg (fun b => b = W0.heap.size) wc Wh) := ⟨by rw [← hW]; exact (Chg.refl (fun b => b = W0.heap.size) wc).setCell (p := ⟨W0.heap.size, 3, none⟩) (fun _ => rfl) _⟩
    have B2h : Aside0 (Wh.heap[W0.heap.size]? = some (.cells #[.int .i64 x.frm, .int .i64 x.upto, .int .i64 x.tgt, .int .i64 x.hgt] 54 (0, 0))) := ⟨by rw [← hW, hx]; exact blk_set B2.out 3 _⟩
    have hown3 : Aside0 (POwn Wh lo (vA, p.consts.length, vK) (some ⟨gF, 0, none⟩, p.funcs.length, uK) p1 rs1) := ⟨hadd.out.1.hitB B2.out hs.out hnb.out⟩
    replace B1 := Aside0.mk (hs.out.blk B1.out (by have := hb2.out; omega))
    clear hW t0 t1 t2 t3 u0 u1 u2 u3 hx hpick
    have q1 : Wh.cell? ⟨w.heap.size, 1, none⟩ = some (.slice (some ⟨gF, 0, none⟩) p.funcs.length uK) := blk_cell B1.out 1
    obtain ⟨_, _, _, x3, x4⟩ := raw_ownC hown3.out.fs.toC k hk hrx1.out
    clear x3
    (try simp only at x4)
    have g0 : Wh.cell? ⟨W0.heap.size, 0, none⟩ = some (.int .i64 x.frm) := blk_cell B2h.out 0
    have g1 : Wh.cell? ⟨W0.heap.size, 1, none⟩ = some (.int .i64 x.upto) := blk_cell B2h.out 1
    have g2 : Wh.cell? ⟨W0.heap.size, 2, none⟩ = some (.int .i64 x.tgt) := blk_cell B2h.out 2
    have g3 : Wh.cell? ⟨W0.heap.size, 3, none⟩ = some (.int .i64 x.hgt) := blk_cell B2h.out 3
    obtain ⟨_, _, _, _, hoh⟩ := hown3.out.fn.2 k _ _ hrx1.out hfx1.out
    obtain ⟨ya, yb, yc, yd, _, y0, y1, y2, y3⟩ := kQH_own hoh.toC f.hnd.length (by have := hn2.out; show f.hnd.length < n2; omega)
    obtain ⟨cu3, hcu3⟩ := Kd.R_typed hoh.1 gH rfl
    have z0 := blk_frozen hcu3 (f.hnd.length * 4)
    have z1 := blk_frozen hcu3 (f.hnd.length * 4 + 1)
    have z2 := blk_frozen hcu3 (f.hnd.length * 4 + 2)
    have z3 := blk_frozen hcu3 (f.hnd.length * 4 + 3)
    clear hcu3 hoh
    have hk0 : (0 : Int) ≤ k := by omega
    have hk1 : (k : Int) < p.funcs.length := by omega
    have hj0 : (0 : Int) ≤ f.hnd.length := by omega
    have hj1 : (f.hnd.length : Int) < n2 := by have := hn2.out; omega
    refine start_ (n := 10) (S := fun w' => w'.cell? ⟨w.heap.size, 1, none⟩ = some (.slice (some ⟨gF, 0, none⟩) p.funcs.length uK) ∧ w'.cell? ⟨gF, k * 5 + 4, none⟩ = some (.slice (some ⟨gH, 0, none⟩) n2 c2) ∧ w'.cell? ⟨W0.heap.size, 0, none⟩ = some (.int .i64 x.frm) ∧ w'.cell? ⟨W0.heap.size, 1, none⟩ = some (.int .i64 x.upto) ∧ w'.cell? ⟨W0.heap.size, 2, none⟩ = some (.int .i64 x.tgt) ∧ w'.cell? ⟨W0.heap.size, 3, none⟩ = some (.int .i64 x.hgt)) (ds := [9]) #[false, false, false, false, false, false, false, false, false, false] (by kernel_rfl) rfl rfl ⟨q1, x4, g0, g1, g2, g3⟩ (fun hHeld => ?_)
    refine pure_ (i := 0) (N := some 70) (v := ?_) (a' := ?_) #[true, false, false, false, false, false, false, false, false, false] rfl rfl (by kernel_rfl) (fun _ _ _ h => h) (Or.inl ⟨by rfl, ?_⟩) ?_ ?_
    rotate_left
    · intro w'
      go_simp
      with_reducible rfl
    rotate_left
    · simp only [Act.put, List.setIfInBounds_toArray, List.set_cons_zero, List.set_cons_succ, i64_w, i32_w]
      rfl
    refine pure_ (i := 2) (N := some 72) (v := ?_) (a' := ?_) #[true, false, true, false, false, false, false, false, false, false] rfl rfl (by kernel_rfl) (fun _ _ _ h => h) (Or.inl ⟨by rfl, ?_⟩) ?_ ?_
    rotate_left
    · intro w'
      go_simp
      with_reducible rfl
    rotate_left
    · simp only [Act.put, List.setIfInBounds_toArray, List.set_cons_zero, List.set_cons_succ, i64_w, i32_w]
      rfl
    refine pure_ (i := 6) (N := some 76) (v := ?_) (a' := ?_) #[true, false, true, false, false, false, true, false, false, false] rfl rfl (by kernel_rfl) (fun _ _ _ h => h) (Or.inl ⟨by rfl, ?_⟩) ?_ ?_
    rotate_left
    · intro w'
      go_simp
      with_reducible rfl
    rotate_left
    · simp only [Act.put, List.setIfInBounds_toArray, List.set_cons_zero, List.set_cons_succ, i64_w, i32_w]
      rfl
    refine take_ (i := 1) (N := some 71) (v := ?_) (a' := ?_) #[true, true, true, false, false, false, true, false, false, false] rfl rfl (by kernel_rfl) (fun _ _ _ h => h) (Or.inl ⟨by rfl, ?_⟩) hHeld ?_ ?_
    rotate_left
    · rintro w' ⟨s0, s1, s2, s3, s4, s5⟩
      go_simp
      with_reducible rfl
    rotate_left
    · simp only [Act.put, List.setIfInBounds_toArray, List.set_cons_zero, List.set_cons_succ, i64_w, i32_w]
      rfl
    refine pure_ (i := 3) (N := some 73) (v := ?_) (a' := ?_) #[true, true, true, true, false, false, true, false, false, false] rfl rfl (by kernel_rfl) (fun _ _ _ h => h) (Or.inl ⟨by rfl, ?_⟩) ?_ ?_
    rotate_left
    · intro w'
      go_simp
      with_reducible rfl
    rotate_left
    · simp only [Act.put, List.setIfInBounds_toArray, List.set_cons_zero, List.set_cons_succ, i64_w, i32_w]
      rfl
    refine pure_ (i := 4) (N := some 74) (v := ?_) (a' := ?_) #[true, true, true, true, true, false, true, false, false, false] rfl rfl (by kernel_rfl) (fun _ _ _ h => h) (Or.inl ⟨by rfl, ?_⟩) ?_ ?_
    rotate_left
    · intro w'
      go_simp
      with_reducible rfl
    rotate_left
    · simp only [Act.put, List.setIfInBounds_toArray, List.set_cons_zero, List.set_cons_succ, i64_w, i32_w]
      rfl
    refine take_ (i := 5) (N := some 75) (v := ?_) (a' := ?_) #[true, true, true, true, true, true, true, false, false, false] rfl rfl (by kernel_rfl) (fun _ _ _ h => h) (Or.inl ⟨by rfl, ?_⟩) hHeld ?_ ?_
    rotate_left
    · rintro w' ⟨s0, s1, s2, s3, s4, s5⟩
      go_simp
      with_reducible rfl
    rotate_left
    · simp only [Act.put, List.setIfInBounds_toArray, List.set_cons_zero, List.set_cons_succ, i64_w, i32_w]
      rfl
    refine take_ (i := 7) (N := some 77) (v := ?_) (a' := ?_) #[true, true, true, true, true, true, true, true, false, false] rfl rfl (by kernel_rfl) (fun _ _ _ h => h) (Or.inl ⟨by rfl, ?_⟩) hHeld ?_ ?_
    rotate_left
    · rintro w' ⟨s0, s1, s2, s3, s4, s5⟩
      go_simp
      with_reducible rfl
    rotate_left
    · simp only [Act.put, List.setIfInBounds_toArray, List.set_cons_zero, List.set_cons_succ, i64_w, i32_w]
      rfl
    refine pure_ (i := 8) (N := some 78) (v := ?_) (a' := ?_) #[true, true, true, true, true, true, true, true, true, false] rfl rfl (by kernel_rfl) (fun _ _ _ h => h) (Or.inl ⟨by rfl, ?_⟩) ?_ ?_
    rotate_left
    · intro w'
      go_simp
      with_reducible rfl
    rotate_left
    · simp only [Act.put, List.setIfInBounds_toArray, List.set_cons_zero, List.set_cons_succ, i64_w, i32_w]
      rfl
    refine last_ (i := 9) (N := none) #[true, true, true, true, true, true, true, true, true, true] rfl rfl (by kernel_rfl) (by decide) (fun K hK => ?_)
    refine skip_ (w1 := ?_) (by rfl) rfl ?_ ?_
    rotate_left
    · go_simp
      rfl
    refine hK.out _ _ ?_
    clear hK K
    refine done_ (by kernel_rfl) ?_
    (try simp only [Act.put, List.setIfInBounds_toArray, List.set_cons_zero, List.set_cons_succ])
    clear hHeld
    generalize hW : World.drew (World.setCell (World.setCell (World.setCell (World.setCell _ _ _) _ _) _ _) _ _) = Wz
    have hs4 : Aside0 (Chg (fun b => b = gH) Wh Wz) := ⟨by rw [← hW]; exact Chg.drew (((((Chg.refl (fun b => b = gH) Wh).setCell (p := ⟨gH, f.hnd.length * 4, none⟩) (fun _ => rfl) (.int .i64 x.frm)).setCell (p := ⟨gH, f.hnd.length * 4 + 1, none⟩) (fun _ => rfl) (.int .i64 x.upto)).setCell (p := ⟨gH, f.hnd.length * 4 + 2, none⟩) (fun _ => rfl) (.int .i64 x.tgt)).setCell (p := ⟨gH, f.hnd.length * 4 + 3, none⟩) (fun _ => rfl) (.int .i64 x.hgt))⟩
    have hownz : Aside0 (POwn Wz lo (vA, p.consts.length, vK) (some ⟨gF, 0, none⟩, p.funcs.length, uK) ⟨p1.consts, p1.funcs.set k ⟨f.name, f.pars, f.locs, f.code, (f.hnd ++ [(⟨0, (f.code.length : Int), 0, 0⟩ : QH)]).set f.hnd.length x⟩⟩ rs1) := ⟨by rw [← hW]; exact POwn.new (hown3.out.hitR (f' := ⟨f.name, f.pars, f.locs, f.code, (f.hnd ++ [(⟨0, (f.code.length : Int), 0, 0⟩ : QH)]).set f.hnd.length x⟩) hadd.out.2 hrx1.out hfx1.out rfl (((((Chg.refl (fun b => b = gH) Wh).setCell (p := ⟨gH, f.hnd.length * 4, none⟩) (fun _ => rfl) (.int .i64 x.frm)).setCell (p := ⟨gH, f.hnd.length * 4 + 1, none⟩) (fun _ => rfl) (.int .i64 x.upto)).setCell (p := ⟨gH, f.hnd.length * 4 + 2, none⟩) (fun _ => rfl) (.int .i64 x.tgt)).setCell (p := ⟨gH, f.hnd.length * 4 + 3, none⟩) (fun _ => rfl) (.int .i64 x.hgt)) ⟨rfl, rfl, rfl, rfl⟩ (fun ho => oq_putH (y := ⟨0, (f.code.length : Int), 0, 0⟩) ho (by rw [List.getElem?_append_right (Nat.le_refl _)]; simp) x)) ((Chg.refl _ _).drew)⟩
    obtain ⟨p3, hp3e⟩ : ∃ p3 : QP, p3 = ⟨p.consts, p.funcs.set k ⟨f.name, f.pars, f.locs, f.code, f.hnd ++ [x]⟩⟩ := ⟨_, rfl⟩
    have hpe : QP.mk p1.consts (p1.funcs.set k (QF.mk f.name f.pars f.locs f.code ((f.hnd ++ [(⟨0, (f.code.length : Int), 0, 0⟩ : QH)]).set f.hnd.length x))) = p3 := by rw [hp3e, hp1A.out, set_lastH]; simp only [List.set_set]
    rw [hpe] at hownz
    have hp3 : Aside0 (checkP chkP p3 = (((k : Int), (f.hnd.length : Int)), 8)) := ⟨by rw [hp3e]; exact (hnd_more hfit.out hfA.out h32A.out x).2 hbad.out⟩
    have hwf3 : Aside0 (PWf p3) := ⟨by rw [hp3e]; exact wf_setF hwA.out ⟨hsz.out.1, hsz.out.2.1, by have := h32A.out; simp only [List.length_append, List.length_singleton]; omega⟩⟩
    obtain ⟨hv9, hu9, hpv⟩ := hownz.out.view
    simp only at hv9 hu9 hpv
    have hpvZ := Aside0.mk hpv
    replace B1 := Aside0.mk (hs4.out.blk B1.out (fun e => hgH.out.2.2.2 e.symm))
    clear q1 x4 g0 g1 g2 g3 y0 y1 y2 y3 z0 z1 z2 z3 hpv hpe hp3e hW
    have q0 : Wz.cell? ⟨w.heap.size, 0, none⟩ = some (.slice vA p.consts.length vK) := blk_cell B1.out 0
    have q1 : Wz.cell? ⟨w.heap.size, 1, none⟩ = some (.slice (some ⟨gF, 0, none⟩) p.funcs.length uK) := blk_cell B1.out 1
    rw [hv9] at q0
    rw [hu9] at q1
    have hzz : Aside0 (Chg (fun b => lo ≤ b) w Wz) := ⟨(hze.out.trans hs.out (fun b hb e => by have := hb2.out; have := hloA.out.2; omega)).trans hs4.out (fun b hb e => by subst e; exact hgH.out.1)⟩
    have hEz : Aside0 (Wz.cell? ⟨0, 0, none⟩ = some (.iface 114 (.agg #[.pointer (some ⟨2, 68, none⟩)]))) := ⟨cell_chgY hs4.out (by have := hgH.out.1; have := hloA.out.1; show ¬ 0 = gH; omega) (cell_chgY hs.out (by have := hb2.out; show ¬ 0 = W0.heap.size; omega) hE1.out)⟩
    clear hv9 hu9 hs hs4 hownz hown3 hze hE1
    go_wp2_with (go_at_call 16; go_must (refine (law_found Wz vA (some ⟨gF, 0, none⟩) vK uK p3 rs1 (k : Int) (f.hnd.length : Int) 8 hpvZ.out hwf3.out hEz.out hp3.out).mono ?_); go_must (rintro e wk ⟨rfl, hwk⟩); go_must (replace hwk := Aside0.mk hwk))
    go_ret
    exact ⟨rfl, hzz.out.trans hwk.out (fun _ _ h => h.elim)⟩
end Go.Proofs.YtgaackedappmgaaDoor.K
