import Derived.Test.YtgaackedappmgaaDoorYz
import Derived.IntWalk
import Derived.BigQuiet
namespace Go.Proofs.YtgaackedappmgaaDoor.K
open Go.RowKit Go.Proofs.YtgaackedappmgaaDoorW.PrintWords Go.Proofs.YtgaackedappmgaaDoorW.PrintLast Go.Proofs.YtgaackedappmgaaDoorW.PrintMore
set_option linter.unusedVariables false
set_option linter.unusedSimpArgs false
set_option maxRecDepth 100000
theorem code_bad {p : QP} {k pc : Nat} {f : QF} {i : QI} (h : Fits p) (hf : p.funcs[k]? = some f) (hpc : pc < f.code.length) (hb : instrP chkP p f i ≠ 0) : checkP chkP ⟨p.consts, p.funcs.set k ⟨f.name, f.pars, f.locs, f.code.set pc i, f.hnd⟩⟩ = (((k : Int), (pc : Int)), instrP chkP p f i) := by
  have hkl := (List.getElem?_eq_some_iff.1 hf).1
  have hok := fn_ok (h.fs k f hf)
  exact check_func h hf (fn_is (f' := ⟨f.name, f.pars, f.locs, f.code.set pc i, f.hnd⟩) hok hkl rfl rfl rfl (by simp only [List.length_set]) (rest_code hok.rest rfl (by simp only [List.length_set]) rfl rfl hpc hb)) hb
theorem POwn.hitIB {w w' : World} {lo g : Nat} {vC vF : SV} {p : QP} {rs : List QR} {cs : Array Value} (h : POwn w lo vC vF p rs) (hb : w.heap[g]? = some (.cells cs 50 (0, 0))) (hs : Chg (fun b => b = g) w w') (hn : ∀ (i : Nat) (a : QR), rs[i]? = some a → (svl a.code).ownBlock ≠ some g) : POwn w' lo vC vF p rs := by
  have hh : ∀ {ts : List TypeId}, 50 ∉ ts → HitsQ w lo (fun b => b = g) ts := fun ht b cs' t hb' _ hq hm => by
    subst hb'
    rw [hb] at hq
    injection hq with hq
    injection hq with _ hq
    rw [← hq] at hm
    exact ht hm
  refine ⟨h.cs.hit hs (hh (ts := [39]) (by decide)) (by decide), h.fs.hit hs (hh (ts := [47]) (by decide)) (by decide), h.fn.1, fun i a f hi hf => ?_⟩
  obtain ⟨b1, b2, b3, b4, b5⟩ := h.fn.2 i a f hi hf
  exact ⟨b1, b2, b3, b4.chg hs (fun b e1 e2 => hn i a hi (by rw [e1, e2])), b5.hit hs (hh (ts := [54]) (by decide)) (by decide)⟩
theorem tdiv7 {a : Int} (h1 : -9223372036854775808 ≤ a) (h2 : a ≤ 9223372036854775807) : -9223372036854775808 ≤ a.tdiv 7 ∧ a.tdiv 7 ≤ 9223372036854775807 := by
  rcases Int.le_total 0 a with h | h
  · rw [Int.tdiv_eq_ediv_of_nonneg h]
    omega
  · have e : a = -(-a) := by omega
    rw [e, Int.neg_tdiv, Int.tdiv_eq_ediv_of_nonneg (by omega)]
    omega
set_option maxHeartbeats 16000000
theorem law_programParts (w : World) (cA fA : Option Addr) (cc fc : Nat) (p : QP) (rs : List QR) (i how : Int) (hP : PV w cA fA p rs) (hw : PWf p) (hi : (Lit.int .i64 i).wf = true) (hh : (Lit.int .i64 how).wf = true) (hE : w.cell? ⟨0, 0, none⟩ = some (.iface 114 (.agg #[.pointer (some ⟨2, 68, none⟩)]))) :
    Calls Tryd.prog 6 #[.agg #[.slice cA p.consts.length cc, .slice fA p.funcs.length fc], .int .i64 i, .int .i64 how] w fun e w' => e = .returned (.bool true) ∧ Chg (fun _ => False) w w' := by
  have hPA := Aside0.mk hP
  have hwA := Aside0.mk hw
  have hEA := Aside0.mk hE
  have hcode : Aside0 (∀ f ∈ p.funcs, f.code.length ≤ 1048576 ∧ f.hnd.length ≤ 1048576) := ⟨fun f hf => (hw.sm.fs f hf).2⟩
  have hn := hw.sm.c
  have hm := hw.sm.f
  have hi' : Aside0 (-9223372036854775808 ≤ i ∧ i ≤ 9223372036854775807) := ⟨by simp [Lit.wf, IntKind.min, IntKind.max, IntKind.signed, IntKind.bits] at hi; exact hi⟩
  have hh' : Aside0 (-9223372036854775808 ≤ how ∧ how ≤ 9223372036854775807) := ⟨by simp [Lit.wf, IntKind.min, IntKind.max, IntKind.signed, IntKind.bits] at hh; exact hh⟩
  clear hP hw hi hh hE
  by_cases hft : ¬ (checkP chkP p).2 = 0
  · have hfb : Aside0 (((checkP chkP p).2 == 0) = false) := ⟨by simpa using hft⟩
    clear hft
    go_enter Tryd.func6, Tryd.ntmps6
    go_upto_region 1 with (fail)
    (try simp only [Act.put, List.setIfInBounds_toArray, List.set_cons_zero, List.set_cons_succ])
    generalize hW : World.alloc w _ = W0
    have B1 : Aside0 (W0.heap[w.heap.size]? = some (.cells #[.slice cA p.consts.length cc, .slice fA p.funcs.length fc] 25)) := ⟨by rw [← hW]; exact heap_alloc_new w _⟩
    have hz0 : Aside0 (Chg (fun _ => False) w W0) := ⟨by rw [← hW]; exact cg⟩
    clear hW
    have p0 : W0.cell? ⟨w.heap.size, 0, none⟩ = some (.slice cA p.consts.length cc) := blk_cell B1.out 0
    have p1 : W0.cell? ⟨w.heap.size, 1, none⟩ = some (.slice fA p.funcs.length fc) := blk_cell B1.out 1
    go_upto_region 2 with (go_at_call 15; go_must (refine (law_fits _ cA fA cc fc p rs false (hPA.out.below bl) hwA.out.sm hfb.out).mono ?_); go_must (rintro e wa ⟨rfl, hwa⟩); go_must (replace hwa := Aside0.mk hwa))
    (try simp only [Act.put, List.setIfInBounds_toArray, List.set_cons_zero, List.set_cons_succ])
    clear p0 p1
    have p0 : wa.cell? ⟨w.heap.size, 0, none⟩ = some (.slice cA p.consts.length cc) := blk_cell (hwa.out.blk B1.out (fun h => h)) 0
    have p1 : wa.cell? ⟨w.heap.size, 1, none⟩ = some (.slice fA p.funcs.length fc) := blk_cell (hwa.out.blk B1.out (fun h => h)) 1
    go_wp2_with (go_at_call 15; go_must (refine (law_fits _ cA fA cc fc p rs false (hPA.out.below bl) hwA.out.sm hfb.out).mono ?_); go_must (rintro e wb ⟨rfl, hwb⟩); go_must (replace hwb := Aside0.mk hwb))
    go_ret
    exact ⟨rfl, cg⟩
  replace hft := Classical.not_not.1 hft
  have hfb : Aside0 (((checkP chkP p).2 == 0) = true) := ⟨by simpa using hft⟩
  have hfit := Aside0.mk (fits_of hft)
  have hchk := Aside0.mk (fits_check hfit.out)
  clear hft
  go_enter Tryd.func6, Tryd.ntmps6
  go_upto_region 1 with (fail)
  (try simp only [Act.put, List.setIfInBounds_toArray, List.set_cons_zero, List.set_cons_succ])
  generalize hW : World.alloc w _ = W0
  have B1 : Aside0 (W0.heap[w.heap.size]? = some (.cells #[.slice cA p.consts.length cc, .slice fA p.funcs.length fc] 25)) := ⟨by rw [← hW]; exact heap_alloc_new w _⟩
  have hz0 : Aside0 (Chg (fun _ => False) w W0) := ⟨by rw [← hW]; exact cg⟩
  clear hW
  have p0 : W0.cell? ⟨w.heap.size, 0, none⟩ = some (.slice cA p.consts.length cc) := blk_cell B1.out 0
  have p1 : W0.cell? ⟨w.heap.size, 1, none⟩ = some (.slice fA p.funcs.length fc) := blk_cell B1.out 1
  go_upto_region 3 with (first | (go_at_call 15; go_must (refine (law_fits _ cA fA cc fc p rs true (hPA.out.below bl) hwA.out.sm hfb.out).mono ?_); go_must (rintro e wa ⟨rfl, hwa⟩); go_must (have p0a : wa.cell? ⟨w.heap.size, 0, none⟩ = some (.slice cA p.consts.length cc) := blk_cell (hwa.blk B1.out (fun h => h)) 0); go_must (have p1a : wa.cell? ⟨w.heap.size, 1, none⟩ = some (.slice fA p.funcs.length fc) := blk_cell (hwa.blk B1.out (fun h => h)) 1); go_must (replace hwa := Aside0.mk hwa)) | (go_at_call 14; go_must (refine (ref_CopyProgram _ cA fA cc fc p rs (hPA.out.below bl) hn hm hcode.out).mono ?_); go_must (rintro e wb ⟨⟨vA, vN, vK⟩, ⟨uA, uN, uK⟩, rs', rfl, hown, hwb⟩); go_must (obtain ⟨hv9, hu9, hpv⟩ := hown.view); go_must (simp only at hv9 hu9 hpv); go_must (subst hv9); go_must (subst hu9); go_must (simp only [svl]); go_must (replace hown := Aside0.mk hown); go_must (replace hpv := Aside0.mk hpv); go_must (replace hwb := Aside0.mk hwb)) | (go_at_call 16; go_must (refine (law_found _ vA uA vK uK p rs' 0 0 0 hpv.out hwA.out (cell_chg0 hEA.out cg) hchk.out).mono ?_); go_must (rintro e wc ⟨rfl, hwc⟩); go_must (replace hwc := Aside0.mk hwc)))
  (try simp only [Act.put, List.setIfInBounds_toArray, List.set_cons_zero, List.set_cons_succ])
  have hzc : Aside0 (Chg (fun _ => False) W0 wc) := ⟨cg⟩
  replace hz0 := Aside0.mk (hz0.out.trans hzc.out (fun _ _ h => h))
  replace B1 := Aside0.mk (hzc.out.blk B1.out (fun h => h))
  clear p0 p1 p0a p1a hzc hwa hwb hwc hown hpv
  have hnf := hfit.out.nf
  obtain ⟨hk1, hk2⟩ := pickQ_lt (k := i) (n := p.funcs.length) hnf
  obtain ⟨k, hk⟩ := Int.eq_ofNat_of_zero_le hk1
  have hpick : Aside0 (∀ W, Calls Tryd.prog 17 #[.int .i64 i, .int .i64 (p.funcs.length : Int)] W fun e w' => e = .returned (.int .i64 (k : Int)) ∧ w' = W) := ⟨fun W => by rw [← hk]; exact kit_PickQ W i _ hi'.out.1 hi'.out.2 (by omega)⟩
  have hkl : k < p.funcs.length := by omega
  clear hk hk1 hk2
  have p1 : wc.cell? ⟨w.heap.size, 1, none⟩ = some (.slice fA p.funcs.length fc) := blk_cell B1.out 1
  have p0 : wc.cell? ⟨w.heap.size, 0, none⟩ = some (.slice cA p.consts.length cc) := blk_cell B1.out 0
  go_upto_region 4 with (go_at_call 17; go_must (refine (hpick.out _).mono ?_); go_must (rintro e wn ⟨rfl, hwn⟩); go_must (subst wn))
  (try simp only [Act.put, List.setIfInBounds_toArray, List.set_cons_zero, List.set_cons_succ])
  clear hpick
  go_upto_region 5 with (go_at_call 14; go_must (refine (ref_CopyProgramA _ cA fA cc fc p rs (hPA.out.below bl) hn hm hcode.out).mono ?_); go_must (rintro e wd ⟨⟨vA, vN, vK⟩, ⟨uA, uN, uK⟩, rs', rfl, ⟨hown, hap⟩, hwd⟩); go_must (obtain ⟨hv9, hu9, hpv⟩ := hown.view); go_must (simp only at hv9 hu9 hpv); go_must (subst hv9); go_must (subst hu9); go_must (simp only [svl]); go_must (replace hown := Aside0.mk hown); go_must (replace hap := Aside0.mk hap); go_must (replace hpv := Aside0.mk hpv); go_must (replace hwd := Aside0.mk hwd))
  (try simp only [Act.put, List.setIfInBounds_toArray, List.set_cons_zero, List.set_cons_succ])
  generalize hW : World.alloc wd _ = Wd
  have B3 : Aside0 (Wd.heap[wd.heap.size]? = some (.cells #[.slice vA p.consts.length vK, .slice uA p.funcs.length uK] 25)) := ⟨by rw [← hW]; exact heap_alloc_new wd _⟩
  have hzq : Aside0 (Chg (fun _ => False) wd Wd) := ⟨by rw [← hW]; exact cg⟩
  clear hW
  have hlo3 : Aside0 (wd.heap.size < Wd.heap.size) := ⟨blk_lt B3.out⟩
  have hlo : Aside0 (w.heap.size < wc.heap.size ∧ wc.heap.size ≤ wd.heap.size) := ⟨blk_lt B1.out, hwd.out.size⟩
  have hzd : Aside0 (Chg (fun _ => False) wc Wd) := ⟨cg⟩
  have hzg : Aside0 (Chg (fun _ => False) w Wd) := ⟨hz0.out.trans hzd.out (fun _ _ h => h)⟩
  replace hown := Aside0.mk (hown.out.new hzq.out)
  replace B1 := Aside0.mk (hzd.out.blk B1.out (fun h => h))
  clear p0 p1 hzd hzq hpv hwd hz0
  obtain ⟨gF, e1⟩ := Oq.some hown.out.fs (by have := hown.out.fn.1; omega)
  subst e1
  obtain ⟨f, hfx⟩ : ∃ f, p.funcs[k]? = some f := ⟨_, List.getElem?_eq_getElem hkl⟩
  obtain ⟨fd, ⟨nm, pa, lc, ⟨kA, kN, kC⟩, ⟨hA, hN, hC⟩⟩, e1, e2, x0, x1, x2, x3, x4⟩ := raw_at (hPA.out.below (hzg.out.below (fun _ _ h => h))).fs k hkl
  obtain ⟨r1, r2, r3, r4, r5⟩ := (hPA.out.below (hzg.out.below (fun _ _ h => h))).raw k _ f e2 hfx
  have r6 := r4.1
  have r7 := r5.1
  simp only at r1 r2 r3 r6 r7 x0 x1 x2 x3 x4
  subst e1 r1 r2 r3 r6 r7
  have hok := Aside0.mk (fn_ok (hfit.out.fs k f hfx))
  have hsz := Aside0.mk (hwA.out.sm.fs f (List.mem_of_getElem? hfx))
  have hfA := Aside0.mk hfx
  clear e2 r4 r5 hfx
  have hk0 : (0 : Int) ≤ k := by omega
  have hk1 : (k : Int) < p.funcs.length := by omega
  have p1 : Wd.cell? ⟨w.heap.size, 1, none⟩ = some (.slice (some fd) p.funcs.length fc) := blk_cell B1.out 1
  go_upto_region 6 with (fail)
  (try simp only [Act.put, List.setIfInBounds_toArray, List.set_cons_zero, List.set_cons_succ])
  generalize hW : World.alloc Wd _ = We
  have B4 : Aside0 (We.heap[Wd.heap.size]? = some (.cells #[.string f.name, .int .i64 f.pars, .int .i64 f.locs, .slice kA f.code.length kC, .slice hA f.hnd.length hC] 47)) := ⟨by rw [← hW]; exact heap_alloc_new Wd _⟩
  have hze : Aside0 (Chg (fun _ => False) Wd We) := ⟨by rw [← hW]; exact cg⟩
  clear hW
  have hzf : Aside0 (Chg (fun _ => False) w We) := ⟨hzg.out.trans hze.out (fun _ _ h => h)⟩
  replace hown := Aside0.mk (hown.out.new hze.out)
  replace B1 := Aside0.mk (hze.out.blk B1.out (fun h => h))
  replace B3 := Aside0.mk (hze.out.blk B3.out (fun h => h))
  have hlo2 : Aside0 (Wd.heap.size < We.heap.size ∧ wd.heap.size < Wd.heap.size) := ⟨blk_lt B4.out, hlo3.out⟩
  clear p1 x0 x1 x2 x3 x4 hzg hze
  have g2 : We.cell? ⟨Wd.heap.size, 2, none⟩ = some (.int .i64 f.locs) := blk_cell B4.out 2
  have g3 : We.cell? ⟨Wd.heap.size, 3, none⟩ = some (.slice kA f.code.length kC) := blk_cell B4.out 3
  have hc0 := hok.out.c0
  obtain ⟨m0, m1⟩ := pickQ_lt (k := how) (n := f.code.length) hc0
  obtain ⟨pc, hm9⟩ := Int.eq_ofNat_of_zero_le m0
  have hpick : Aside0 (∀ W, Calls Tryd.prog 17 #[.int .i64 how, .int .i64 (f.code.length : Int)] W fun e w' => e = .returned (.int .i64 (pc : Int)) ∧ w' = W) := ⟨fun W => by rw [← hm9]; exact kit_PickQ W how _ hh'.out.1 hh'.out.2 (by have := hok.out.c1; omega)⟩
  have hpc : pc < f.code.length := by omega
  clear m0 m1 hm9 hc0
  go_upto_region 8 with (go_at_call 17; go_must (refine (hpick.out _).mono ?_); go_must (rintro e wn ⟨rfl, hwn⟩); go_must (subst wn))
  (try simp only [Act.put, List.setIfInBounds_toArray, List.set_cons_zero, List.set_cons_succ])
  clear hpick
  go_upto_region 10 with (fail)
  (try simp only [Act.put, List.setIfInBounds_toArray, List.set_cons_zero, List.set_cons_succ])
  generalize hW : World.alloc We _ = Wf
  have B5 : Aside0 (Wf.heap[We.heap.size]? = some (.cells #[.int .i64 0, .int .i64 0] 50)) := ⟨by rw [← hW]; exact heap_alloc_new We _⟩
  have hzff : Aside0 (Chg (fun _ => False) We Wf) := ⟨by rw [← hW]; exact cg⟩
  clear hW
  have hzh : Aside0 (Chg (fun _ => False) w Wf) := ⟨hzf.out.trans hzff.out (fun _ _ h => h)⟩
  have hownW := hown
  replace hown := Aside0.mk (hown.out.new hzff.out)
  replace B1 := Aside0.mk (hzff.out.blk B1.out (fun h => h))
  replace B3 := Aside0.mk (hzff.out.blk B3.out (fun h => h))
  replace B4 := Aside0.mk (hzff.out.blk B4.out (fun h => h))
  have hlo4 : Aside0 (We.heap.size < Wf.heap.size) := ⟨blk_lt B5.out⟩
  clear g2 g3 hzff hzf
  have t7 := tdiv7 hh'.out.1 hh'.out.2
  obtain ⟨m0, m1⟩ := pickQ_lt (k := how.tdiv 7) (n := 7) (by omega)
  obtain ⟨m, hm9⟩ := Int.eq_ofNat_of_zero_le m0
  have hpick : Aside0 (∀ W, Calls Tryd.prog 17 #[.int .i64 (wrap64 (how.tdiv 7)), .int .i64 7] W fun e w' => e = .returned (.int .i64 (m : Int)) ∧ w' = W) := ⟨fun W => by rw [show wrap64 (how.tdiv 7) = how.tdiv 7 by unfold wrap64; omega, ← hm9]; exact kit_PickQ W _ 7 t7.1 t7.2 (by omega)⟩
  have hm7 : m < 7 := by omega
  have hcase : m = 0 ∨ m = 1 ∨ m = 2 ∨ m = 3 ∨ m = 4 ∨ m = 5 ∨ m = 6 := by omega
  clear m0 m1 hm9 hm7 t7
  have hnb : Aside0 (∀ (i : Nat) (a : QR), rs'[i]? = some a → (svl a.code).ownBlock ≠ some We.heap.size) := ⟨fun i a hi e => by
    obtain ⟨g, hg⟩ : ∃ g, p.funcs[i]? = some g := ⟨_, List.getElem?_eq_getElem (by have := (List.getElem?_eq_some_iff.1 hi).1; rw [← hownW.out.fn.1]; exact this)⟩
    have := (hownW.out.fn.2 i a g hi hg).2.2.2.1.lt _ e
    omega⟩
  obtain ⟨r, hrx⟩ : ∃ r, rs'[k]? = some r := ⟨_, List.getElem?_eq_getElem (by have := hown.out.fn.1; omega)⟩
  obtain ⟨nm, pa, lc, ⟨iA, iN, iC⟩, ⟨jA, jN, jC⟩⟩ := r
  obtain ⟨_, _, _, a4, _⟩ := hown.out.fn.2 k _ f hrx hfA.out
  obtain ⟨gI, e1⟩ := Oq.some a4 (by omega)
  have e2 := a4.toC.1
  (try simp only at e1 e2)
  subst e1 e2
  have hrA := Aside0.mk hrx
  have hgI : Aside0 (wc.heap.size ≤ gI ∧ gI ≠ We.heap.size ∧ gI ≠ gF ∧ gI ≠ wd.heap.size) := ⟨a4.2 gI rfl, hnb.out k _ hrx |> fun h e => h (by rw [← e]; rfl), fun e => by subst e; exact Oq.ne a4 hown.out.fs (by decide) gI rfl rfl, fun e => Oq.ne_blk a4 B3.out (by decide) rfl e⟩
  clear a4 hrx
  have q0 : Wf.cell? ⟨wd.heap.size, 0, none⟩ = some (.slice vA p.consts.length vK) := blk_cell B3.out 0
  have q1 : Wf.cell? ⟨wd.heap.size, 1, none⟩ = some (.slice (some ⟨gF, 0, none⟩) p.funcs.length uK) := blk_cell B3.out 1
  have p0 : Wf.cell? ⟨w.heap.size, 0, none⟩ = some (.slice cA p.consts.length cc) := blk_cell B1.out 0
  have p1 : Wf.cell? ⟨w.heap.size, 1, none⟩ = some (.slice (some fd) p.funcs.length fc) := blk_cell B1.out 1
  have g2 : Wf.cell? ⟨Wd.heap.size, 2, none⟩ = some (.int .i64 f.locs) := blk_cell B4.out 2
  have t0 : Wf.cell? ⟨We.heap.size, 0, none⟩ = some (.int .i64 0) := blk_cell B5.out 0
  have t1 : Wf.cell? ⟨We.heap.size, 1, none⟩ = some (.int .i64 0) := blk_cell B5.out 1
  have u0 := blk_frozen B5.out 0
  have u1 := blk_frozen B5.out 1
  rcases hcase with hm0 | hm0 | hm0 | hm0 | hm0 | hm0 | hm0
  · subst hm0
    go_upto_region 23 with (go_at_call 17; go_must (refine (hpick.out _).mono ?_); go_must (rintro e wn ⟨rfl, hwn⟩); go_must (subst wn))
    (try simp only [Act.put, List.setIfInBounds_toArray, List.set_cons_zero, List.set_cons_succ])
    generalize hW : World.setCell (World.setCell Wf _ _) _ _ = Wh
    have hs : Aside0 (Chg (fun b => b = We.heap.size) Wf Wh) := ⟨by rw [← hW]; exact ((Chg.refl (fun b => b = We.heap.size) Wf).setCell (p := ⟨We.heap.size, 0, none⟩) (fun _ => rfl) _).setCell (p := ⟨We.heap.size, 1, none⟩) (fun _ => rfl) _⟩
    have hown3 : Aside0 (POwn Wh wc.heap.size (vA, p.consts.length, vK) (some ⟨gF, 0, none⟩, p.funcs.length, uK) p rs') := ⟨hown.out.hitIB B5.out hs.out hnb.out⟩
    replace B5 : Aside0 (Wh.heap[We.heap.size]? = some (.cells #[.int .i64 40, .int .i64 (f.code.length : Int)] 50 (0, 0))) := ⟨by rw [← hW]; exact blk_set (blk_set B5.out 0 _) 1 _⟩
    replace B1 := Aside0.mk (hs.out.blk B1.out (by have := hlo.out; have := hlo2.out; omega))
    replace B3 := Aside0.mk (hs.out.blk B3.out (by have := hlo.out; have := hlo2.out; omega))
    replace B4 := Aside0.mk (hs.out.blk B4.out (by have := hlo2.out; omega))
    clear q0 q1 p0 p1 g2 t0 t1 u0 u1 hW hown hpick
    obtain ⟨x, hx9⟩ : ∃ x : QI, x = ⟨40, (f.code.length : Int)⟩ := ⟨_, rfl⟩
    have hx := Aside0.mk hx9
    clear hx9
    have p0 : Wh.cell? ⟨w.heap.size, 0, none⟩ = some (.slice cA p.consts.length cc) := blk_cell B1.out 0
    have p1 : Wh.cell? ⟨w.heap.size, 1, none⟩ = some (.slice (some fd) p.funcs.length fc) := blk_cell B1.out 1
    have g2 : Wh.cell? ⟨Wd.heap.size, 2, none⟩ = some (.int .i64 f.locs) := blk_cell B4.out 2
    have g0' : Wh.cell? ⟨We.heap.size, 0, none⟩ = some (.int .i64 40) := blk_cell B5.out 0
    have g1' : Wh.cell? ⟨We.heap.size, 1, none⟩ = some (.int .i64 (f.code.length : Int)) := blk_cell B5.out 1
    by_cases h9 : (f.code.length : Int) = 2000
    · have hb : ((f.code.length : Int) == 2000) = true := by simpa using h9
      have he : Aside0 (instrP chkP p f x = 7) := ⟨by rw [hx.out, bad_jump hok.out.c1, if_pos h9]⟩
      clear h9
      go_upto_region 25 with (fail)
      (try simp only [Act.put, List.setIfInBounds_toArray, List.set_cons_zero, List.set_cons_succ])
      clear p0 p1 g2 hb g0' g1'
      have q1 : Wh.cell? ⟨wd.heap.size, 1, none⟩ = some (.slice (some ⟨gF, 0, none⟩) p.funcs.length uK) := blk_cell B3.out 1
      have g0 : Wh.cell? ⟨We.heap.size, 0, none⟩ = some (.int .i64 x.op) := by rw [hx.out]; exact blk_cell B5.out 0
      have g1 : Wh.cell? ⟨We.heap.size, 1, none⟩ = some (.int .i64 x.a) := by rw [hx.out]; exact blk_cell B5.out 1
      obtain ⟨_, _, _, x3, x4⟩ := raw_ownC hown3.out.fs.toC k hkl hrA.out
      clear x4
      (try simp only at x3)
      obtain ⟨_, _, _, hoi, _⟩ := hown3.out.fn.2 k _ f hrA.out hfA.out
      obtain ⟨ya, yb, hy9, y0, y1⟩ := kQI_own hoi.toC pc hpc
      obtain ⟨cu3, hcu3⟩ := Kd.R_typed hoi.1 gI rfl
      have z0 := blk_frozen hcu3 (pc * 2)
      have z1 := blk_frozen hcu3 (pc * 2 + 1)
      have hy := Aside0.mk hy9
      clear hcu3 hoi hy9
      have hk0 : (0 : Int) ≤ k := by omega
      have hk1 : (k : Int) < p.funcs.length := by omega
      have hj0 : (0 : Int) ≤ pc := by omega
      have hj1 : (pc : Int) < f.code.length := by omega
      refine start_ (n := 10) (S := fun w' => w'.cell? ⟨wd.heap.size, 1, none⟩ = some (.slice (some ⟨gF, 0, none⟩) p.funcs.length uK) ∧ w'.cell? ⟨gF, k * 5 + 3, none⟩ = some (.slice (some ⟨gI, 0, none⟩) f.code.length iC) ∧ w'.cell? ⟨We.heap.size, 0, none⟩ = some (.int .i64 x.op) ∧ w'.cell? ⟨We.heap.size, 1, none⟩ = some (.int .i64 x.a)) (ds := [9]) #[false, false, false, false, false, false, false, false, false, false] (by kernel_rfl) rfl rfl ⟨q1, x3, g0, g1⟩ (fun hHeld => ?_)
      refine pure_ (i := 0) (N := some 115) (v := ?_) (a' := ?_) #[true, false, false, false, false, false, false, false, false, false] rfl rfl (by kernel_rfl) (fun _ _ _ h => h) (Or.inl ⟨by rfl, ?_⟩) ?_ ?_
      rotate_left
      · intro w'
        go_simp
        with_reducible rfl
      rotate_left
      · simp only [Act.put, List.setIfInBounds_toArray, List.set_cons_zero, List.set_cons_succ, i64_w, i32_w]
        rfl
      refine pure_ (i := 2) (N := some 117) (v := ?_) (a' := ?_) #[true, false, true, false, false, false, false, false, false, false] rfl rfl (by kernel_rfl) (fun _ _ _ h => h) (Or.inl ⟨by rfl, ?_⟩) ?_ ?_
      rotate_left
      · intro w'
        go_simp
        with_reducible rfl
      rotate_left
      · simp only [Act.put, List.setIfInBounds_toArray, List.set_cons_zero, List.set_cons_succ, i64_w, i32_w]
        rfl
      refine pure_ (i := 6) (N := some 121) (v := ?_) (a' := ?_) #[true, false, true, false, false, false, true, false, false, false] rfl rfl (by kernel_rfl) (fun _ _ _ h => h) (Or.inl ⟨by rfl, ?_⟩) ?_ ?_
      rotate_left
      · intro w'
        go_simp
        with_reducible rfl
      rotate_left
      · simp only [Act.put, List.setIfInBounds_toArray, List.set_cons_zero, List.set_cons_succ, i64_w, i32_w]
        rfl
      refine take_ (i := 1) (N := some 116) (v := ?_) (a' := ?_) #[true, true, true, false, false, false, true, false, false, false] rfl rfl (by kernel_rfl) (fun _ _ _ h => h) (Or.inl ⟨by rfl, ?_⟩) hHeld ?_ ?_
      rotate_left
      · rintro w' ⟨s0, s1, s2, s3⟩
        go_simp
        with_reducible rfl
      rotate_left
      · simp only [Act.put, List.setIfInBounds_toArray, List.set_cons_zero, List.set_cons_succ, i64_w, i32_w]
        rfl
      refine pure_ (i := 3) (N := some 118) (v := ?_) (a' := ?_) #[true, true, true, true, false, false, true, false, false, false] rfl rfl (by kernel_rfl) (fun _ _ _ h => h) (Or.inl ⟨by rfl, ?_⟩) ?_ ?_
      rotate_left
      · intro w'
        go_simp
        with_reducible rfl
      rotate_left
      · simp only [Act.put, List.setIfInBounds_toArray, List.set_cons_zero, List.set_cons_succ, i64_w, i32_w]
        rfl
      refine pure_ (i := 4) (N := some 119) (v := ?_) (a' := ?_) #[true, true, true, true, true, false, true, false, false, false] rfl rfl (by kernel_rfl) (fun _ _ _ h => h) (Or.inl ⟨by rfl, ?_⟩) ?_ ?_
      rotate_left
      · intro w'
        go_simp
        with_reducible rfl
      rotate_left
      · simp only [Act.put, List.setIfInBounds_toArray, List.set_cons_zero, List.set_cons_succ, i64_w, i32_w]
        rfl
      refine take_ (i := 5) (N := some 120) (v := ?_) (a' := ?_) #[true, true, true, true, true, true, true, false, false, false] rfl rfl (by kernel_rfl) (fun _ _ _ h => h) (Or.inl ⟨by rfl, ?_⟩) hHeld ?_ ?_
      rotate_left
      · rintro w' ⟨s0, s1, s2, s3⟩
        go_simp
        with_reducible rfl
      rotate_left
      · simp only [Act.put, List.setIfInBounds_toArray, List.set_cons_zero, List.set_cons_succ, i64_w, i32_w]
        rfl
      refine take_ (i := 7) (N := some 122) (v := ?_) (a' := ?_) #[true, true, true, true, true, true, true, true, false, false] rfl rfl (by kernel_rfl) (fun _ _ _ h => h) (Or.inl ⟨by rfl, ?_⟩) hHeld ?_ ?_
      rotate_left
      · rintro w' ⟨s0, s1, s2, s3⟩
        go_simp
        with_reducible rfl
      rotate_left
      · simp only [Act.put, List.setIfInBounds_toArray, List.set_cons_zero, List.set_cons_succ, i64_w, i32_w]
        rfl
      refine pure_ (i := 8) (N := some 123) (v := ?_) (a' := ?_) #[true, true, true, true, true, true, true, true, true, false] rfl rfl (by kernel_rfl) (fun _ _ _ h => h) (Or.inl ⟨by rfl, ?_⟩) ?_ ?_
      rotate_left
      · intro w'
        go_simp
        with_reducible rfl
      rotate_left
      · simp only [Act.put, List.setIfInBounds_toArray, List.set_cons_zero, List.set_cons_succ, i64_w, i32_w]
        rfl
      refine last_ (i := 9) (N := none) #[true, true, true, true, true, true, true, true, true, true] rfl rfl (by kernel_rfl) (by decide) (fun K hK => ?_)
      refine skip_ (w1 := ?_) (by rfl) rfl ?_ ?_
      rotate_left
      · go_simp
        rfl
      refine hK.out _ _ ?_
      clear hK K
      refine done_ (by kernel_rfl) ?_
      (try simp only [Act.put, List.setIfInBounds_toArray, List.set_cons_zero, List.set_cons_succ])
      clear hHeld
      generalize hW : World.drew (World.setCell (World.setCell _ _ _) _ _) = Wz
      have hs4 : Aside0 (Chg (fun b => b = gI) Wh Wz) := ⟨by rw [← hW]; exact Chg.drew (((Chg.refl (fun b => b = gI) Wh).setCell (p := ⟨gI, pc * 2, none⟩) (fun _ => rfl) (.int .i64 x.op)).setCell (p := ⟨gI, pc * 2 + 1, none⟩) (fun _ => rfl) (.int .i64 x.a))⟩
      have hownz : Aside0 (POwn Wz wc.heap.size (vA, p.consts.length, vK) (some ⟨gF, 0, none⟩, p.funcs.length, uK) ⟨p.consts, p.funcs.set k ⟨f.name, f.pars, f.locs, f.code.set pc x, f.hnd⟩⟩ rs') := ⟨by rw [← hW]; exact POwn.new (hown3.out.hitI (f' := ⟨f.name, f.pars, f.locs, f.code.set pc x, f.hnd⟩) hap.out hrA.out hfA.out rfl (((Chg.refl (fun b => b = gI) Wh).setCell (p := ⟨gI, pc * 2, none⟩) (fun _ => rfl) (.int .i64 x.op)).setCell (p := ⟨gI, pc * 2 + 1, none⟩) (fun _ => rfl) (.int .i64 x.a)) ⟨rfl, rfl, rfl, rfl⟩ (fun ho => oq_putI ho hy.out x)) ((Chg.refl _ _).drew)⟩
      obtain ⟨p3, hp3e⟩ : ∃ p3 : QP, p3 = ⟨p.consts, p.funcs.set k ⟨f.name, f.pars, f.locs, f.code.set pc x, f.hnd⟩⟩ := ⟨_, rfl⟩
      rw [← hp3e] at hownz
      have hp3 : Aside0 (checkP chkP p3 = (((k : Int), (pc : Int)), 7)) := ⟨by rw [hp3e, ← he.out]; exact code_bad hfit.out hfA.out hpc (by rw [he.out]; decide)⟩
      have hwf3 : Aside0 (PWf p3) := ⟨by rw [hp3e]; exact wf_setF hwA.out ⟨hsz.out.1, by simp only [List.length_set]; exact hsz.out.2.1, hsz.out.2.2⟩⟩
      obtain ⟨hv9, hu9, hpv⟩ := hownz.out.view
      simp only at hv9 hu9 hpv
      have hpvZ := Aside0.mk hpv
      replace B3 := Aside0.mk (hs4.out.blk B3.out (fun e => hgI.out.2.2.2 e.symm))
      clear q1 x3 g0 g1 y0 y1 z0 z1 hpv hp3e hW
      have q0 : Wz.cell? ⟨wd.heap.size, 0, none⟩ = some (.slice vA p.consts.length vK) := blk_cell B3.out 0
      have q1 : Wz.cell? ⟨wd.heap.size, 1, none⟩ = some (.slice (some ⟨gF, 0, none⟩) p.funcs.length uK) := blk_cell B3.out 1
      rw [hv9] at q0
      rw [hu9] at q1
      have hzz : Aside0 (Chg (fun _ => False) w Wz) := ⟨(hzh.out.trans hs.out (fun b hb e => by have := hlo.out; have := hlo2.out; omega)).trans hs4.out (fun b hb e => by subst e; have := hgI.out.1; have := hlo.out; omega)⟩
      have hEz : Aside0 (Wz.cell? ⟨0, 0, none⟩ = some (.iface 114 (.agg #[.pointer (some ⟨2, 68, none⟩)]))) := ⟨cell_chg0 hEA.out hzz.out⟩
      clear hv9 hu9 hs hs4 hownz hown3 hzh
      go_wp2_with (go_at_call 16; go_must (refine (law_found Wz vA (some ⟨gF, 0, none⟩) vK uK p3 rs' (k : Int) (pc : Int) 7 hpvZ.out hwf3.out hEz.out hp3.out).mono ?_); go_must (rintro e wk ⟨rfl, hwk⟩); go_must (replace hwk := Aside0.mk hwk))
      go_ret
      exact ⟨rfl, hzz.out.trans hwk.out (fun _ _ h => h)⟩
    · have hb : ((f.code.length : Int) == 2000) = false := by simpa using h9
      have he : Aside0 (instrP chkP p f x = 8) := ⟨by rw [hx.out, bad_jump hok.out.c1, if_neg h9]⟩
      clear h9
      go_upto_region 25 with (fail)
      (try simp only [Act.put, List.setIfInBounds_toArray, List.set_cons_zero, List.set_cons_succ])
      clear p0 p1 g2 hb g0' g1'
      have q1 : Wh.cell? ⟨wd.heap.size, 1, none⟩ = some (.slice (some ⟨gF, 0, none⟩) p.funcs.length uK) := blk_cell B3.out 1
      have g0 : Wh.cell? ⟨We.heap.size, 0, none⟩ = some (.int .i64 x.op) := by rw [hx.out]; exact blk_cell B5.out 0
      have g1 : Wh.cell? ⟨We.heap.size, 1, none⟩ = some (.int .i64 x.a) := by rw [hx.out]; exact blk_cell B5.out 1
      obtain ⟨_, _, _, x3, x4⟩ := raw_ownC hown3.out.fs.toC k hkl hrA.out
      clear x4
      (try simp only at x3)
      obtain ⟨_, _, _, hoi, _⟩ := hown3.out.fn.2 k _ f hrA.out hfA.out
      obtain ⟨ya, yb, hy9, y0, y1⟩ := kQI_own hoi.toC pc hpc
      obtain ⟨cu3, hcu3⟩ := Kd.R_typed hoi.1 gI rfl
      have z0 := blk_frozen hcu3 (pc * 2)
      have z1 := blk_frozen hcu3 (pc * 2 + 1)
      have hy := Aside0.mk hy9
      clear hcu3 hoi hy9
      have hk0 : (0 : Int) ≤ k := by omega
      have hk1 : (k : Int) < p.funcs.length := by omega
      have hj0 : (0 : Int) ≤ pc := by omega
      have hj1 : (pc : Int) < f.code.length := by omega
      refine start_ (n := 10) (S := fun w' => w'.cell? ⟨wd.heap.size, 1, none⟩ = some (.slice (some ⟨gF, 0, none⟩) p.funcs.length uK) ∧ w'.cell? ⟨gF, k * 5 + 3, none⟩ = some (.slice (some ⟨gI, 0, none⟩) f.code.length iC) ∧ w'.cell? ⟨We.heap.size, 0, none⟩ = some (.int .i64 x.op) ∧ w'.cell? ⟨We.heap.size, 1, none⟩ = some (.int .i64 x.a)) (ds := [9]) #[false, false, false, false, false, false, false, false, false, false] (by kernel_rfl) rfl rfl ⟨q1, x3, g0, g1⟩ (fun hHeld => ?_)
      refine pure_ (i := 0) (N := some 115) (v := ?_) (a' := ?_) #[true, false, false, false, false, false, false, false, false, false] rfl rfl (by kernel_rfl) (fun _ _ _ h => h) (Or.inl ⟨by rfl, ?_⟩) ?_ ?_
      rotate_left
      · intro w'
        go_simp
        with_reducible rfl
      rotate_left
      · simp only [Act.put, List.setIfInBounds_toArray, List.set_cons_zero, List.set_cons_succ, i64_w, i32_w]
        rfl
      refine pure_ (i := 2) (N := some 117) (v := ?_) (a' := ?_) #[true, false, true, false, false, false, false, false, false, false] rfl rfl (by kernel_rfl) (fun _ _ _ h => h) (Or.inl ⟨by rfl, ?_⟩) ?_ ?_
      rotate_left
      · intro w'
        go_simp
        with_reducible rfl
      rotate_left
      · simp only [Act.put, List.setIfInBounds_toArray, List.set_cons_zero, List.set_cons_succ, i64_w, i32_w]
        rfl
      refine pure_ (i := 6) (N := some 121) (v := ?_) (a' := ?_) #[true, false, true, false, false, false, true, false, false, false] rfl rfl (by kernel_rfl) (fun _ _ _ h => h) (Or.inl ⟨by rfl, ?_⟩) ?_ ?_
      rotate_left
      · intro w'
        go_simp
        with_reducible rfl
      rotate_left
      · simp only [Act.put, List.setIfInBounds_toArray, List.set_cons_zero, List.set_cons_succ, i64_w, i32_w]
        rfl
      refine take_ (i := 1) (N := some 116) (v := ?_) (a' := ?_) #[true, true, true, false, false, false, true, false, false, false] rfl rfl (by kernel_rfl) (fun _ _ _ h => h) (Or.inl ⟨by rfl, ?_⟩) hHeld ?_ ?_
      rotate_left
      · rintro w' ⟨s0, s1, s2, s3⟩
        go_simp
        with_reducible rfl
      rotate_left
      · simp only [Act.put, List.setIfInBounds_toArray, List.set_cons_zero, List.set_cons_succ, i64_w, i32_w]
        rfl
      refine pure_ (i := 3) (N := some 118) (v := ?_) (a' := ?_) #[true, true, true, true, false, false, true, false, false, false] rfl rfl (by kernel_rfl) (fun _ _ _ h => h) (Or.inl ⟨by rfl, ?_⟩) ?_ ?_
      rotate_left
      · intro w'
        go_simp
        with_reducible rfl
      rotate_left
      · simp only [Act.put, List.setIfInBounds_toArray, List.set_cons_zero, List.set_cons_succ, i64_w, i32_w]
        rfl
      refine pure_ (i := 4) (N := some 119) (v := ?_) (a' := ?_) #[true, true, true, true, true, false, true, false, false, false] rfl rfl (by kernel_rfl) (fun _ _ _ h => h) (Or.inl ⟨by rfl, ?_⟩) ?_ ?_
      rotate_left
      · intro w'
        go_simp
        with_reducible rfl
      rotate_left
      · simp only [Act.put, List.setIfInBounds_toArray, List.set_cons_zero, List.set_cons_succ, i64_w, i32_w]
        rfl
      refine take_ (i := 5) (N := some 120) (v := ?_) (a' := ?_) #[true, true, true, true, true, true, true, false, false, false] rfl rfl (by kernel_rfl) (fun _ _ _ h => h) (Or.inl ⟨by rfl, ?_⟩) hHeld ?_ ?_
      rotate_left
      · rintro w' ⟨s0, s1, s2, s3⟩
        go_simp
        with_reducible rfl
      rotate_left
      · simp only [Act.put, List.setIfInBounds_toArray, List.set_cons_zero, List.set_cons_succ, i64_w, i32_w]
        rfl
      refine take_ (i := 7) (N := some 122) (v := ?_) (a' := ?_) #[true, true, true, true, true, true, true, true, false, false] rfl rfl (by kernel_rfl) (fun _ _ _ h => h) (Or.inl ⟨by rfl, ?_⟩) hHeld ?_ ?_
      rotate_left
      · rintro w' ⟨s0, s1, s2, s3⟩
        go_simp
        with_reducible rfl
      rotate_left
      · simp only [Act.put, List.setIfInBounds_toArray, List.set_cons_zero, List.set_cons_succ, i64_w, i32_w]
        rfl
      refine pure_ (i := 8) (N := some 123) (v := ?_) (a' := ?_) #[true, true, true, true, true, true, true, true, true, false] rfl rfl (by kernel_rfl) (fun _ _ _ h => h) (Or.inl ⟨by rfl, ?_⟩) ?_ ?_
      rotate_left
      · intro w'
        go_simp
        with_reducible rfl
      rotate_left
      · simp only [Act.put, List.setIfInBounds_toArray, List.set_cons_zero, List.set_cons_succ, i64_w, i32_w]
        rfl
      refine last_ (i := 9) (N := none) #[true, true, true, true, true, true, true, true, true, true] rfl rfl (by kernel_rfl) (by decide) (fun K hK => ?_)
      refine skip_ (w1 := ?_) (by rfl) rfl ?_ ?_
      rotate_left
      · go_simp
        rfl
      refine hK.out _ _ ?_
      clear hK K
      refine done_ (by kernel_rfl) ?_
      (try simp only [Act.put, List.setIfInBounds_toArray, List.set_cons_zero, List.set_cons_succ])
      clear hHeld
      generalize hW : World.drew (World.setCell (World.setCell _ _ _) _ _) = Wz
      have hs4 : Aside0 (Chg (fun b => b = gI) Wh Wz) := ⟨by rw [← hW]; exact Chg.drew (((Chg.refl (fun b => b = gI) Wh).setCell (p := ⟨gI, pc * 2, none⟩) (fun _ => rfl) (.int .i64 x.op)).setCell (p := ⟨gI, pc * 2 + 1, none⟩) (fun _ => rfl) (.int .i64 x.a))⟩
      have hownz : Aside0 (POwn Wz wc.heap.size (vA, p.consts.length, vK) (some ⟨gF, 0, none⟩, p.funcs.length, uK) ⟨p.consts, p.funcs.set k ⟨f.name, f.pars, f.locs, f.code.set pc x, f.hnd⟩⟩ rs') := ⟨by rw [← hW]; exact POwn.new (hown3.out.hitI (f' := ⟨f.name, f.pars, f.locs, f.code.set pc x, f.hnd⟩) hap.out hrA.out hfA.out rfl (((Chg.refl (fun b => b = gI) Wh).setCell (p := ⟨gI, pc * 2, none⟩) (fun _ => rfl) (.int .i64 x.op)).setCell (p := ⟨gI, pc * 2 + 1, none⟩) (fun _ => rfl) (.int .i64 x.a)) ⟨rfl, rfl, rfl, rfl⟩ (fun ho => oq_putI ho hy.out x)) ((Chg.refl _ _).drew)⟩
      obtain ⟨p3, hp3e⟩ : ∃ p3 : QP, p3 = ⟨p.consts, p.funcs.set k ⟨f.name, f.pars, f.locs, f.code.set pc x, f.hnd⟩⟩ := ⟨_, rfl⟩
      rw [← hp3e] at hownz
      have hp3 : Aside0 (checkP chkP p3 = (((k : Int), (pc : Int)), 8)) := ⟨by rw [hp3e, ← he.out]; exact code_bad hfit.out hfA.out hpc (by rw [he.out]; decide)⟩
      have hwf3 : Aside0 (PWf p3) := ⟨by rw [hp3e]; exact wf_setF hwA.out ⟨hsz.out.1, by simp only [List.length_set]; exact hsz.out.2.1, hsz.out.2.2⟩⟩
      obtain ⟨hv9, hu9, hpv⟩ := hownz.out.view
      simp only at hv9 hu9 hpv
      have hpvZ := Aside0.mk hpv
      replace B3 := Aside0.mk (hs4.out.blk B3.out (fun e => hgI.out.2.2.2 e.symm))
      clear q1 x3 g0 g1 y0 y1 z0 z1 hpv hp3e hW
      have q0 : Wz.cell? ⟨wd.heap.size, 0, none⟩ = some (.slice vA p.consts.length vK) := blk_cell B3.out 0
      have q1 : Wz.cell? ⟨wd.heap.size, 1, none⟩ = some (.slice (some ⟨gF, 0, none⟩) p.funcs.length uK) := blk_cell B3.out 1
      rw [hv9] at q0
      rw [hu9] at q1
      have hzz : Aside0 (Chg (fun _ => False) w Wz) := ⟨(hzh.out.trans hs.out (fun b hb e => by have := hlo.out; have := hlo2.out; omega)).trans hs4.out (fun b hb e => by subst e; have := hgI.out.1; have := hlo.out; omega)⟩
      have hEz : Aside0 (Wz.cell? ⟨0, 0, none⟩ = some (.iface 114 (.agg #[.pointer (some ⟨2, 68, none⟩)]))) := ⟨cell_chg0 hEA.out hzz.out⟩
      clear hv9 hu9 hs hs4 hownz hown3 hzh
      go_wp2_with (go_at_call 16; go_must (refine (law_found Wz vA (some ⟨gF, 0, none⟩) vK uK p3 rs' (k : Int) (pc : Int) 8 hpvZ.out hwf3.out hEz.out hp3.out).mono ?_); go_must (rintro e wk ⟨rfl, hwk⟩); go_must (replace hwk := Aside0.mk hwk))
      go_ret
      exact ⟨rfl, hzz.out.trans hwk.out (fun _ _ h => h)⟩
  · subst hm0
    go_upto_region 23 with (go_at_call 17; go_must (refine (hpick.out _).mono ?_); go_must (rintro e wn ⟨rfl, hwn⟩); go_must (subst wn))
    (try simp only [Act.put, List.setIfInBounds_toArray, List.set_cons_zero, List.set_cons_succ])
    generalize hW : World.setCell (World.setCell Wf _ _) _ _ = Wh
    have hs : Aside0 (Chg (fun b => b = We.heap.size) Wf Wh) := ⟨by rw [← hW]; exact ((Chg.refl (fun b => b = We.heap.size) Wf).setCell (p := ⟨We.heap.size, 0, none⟩) (fun _ => rfl) _).setCell (p := ⟨We.heap.size, 1, none⟩) (fun _ => rfl) _⟩
    have hown3 : Aside0 (POwn Wh wc.heap.size (vA, p.consts.length, vK) (some ⟨gF, 0, none⟩, p.funcs.length, uK) p rs') := ⟨hown.out.hitIB B5.out hs.out hnb.out⟩
    replace B5 : Aside0 (Wh.heap[We.heap.size]? = some (.cells #[.int .i64 10, .int .i64 f.locs] 50 (0, 0))) := ⟨by rw [← hW]; exact blk_set (blk_set B5.out 0 _) 1 _⟩
    replace B1 := Aside0.mk (hs.out.blk B1.out (by have := hlo.out; have := hlo2.out; omega))
    replace B3 := Aside0.mk (hs.out.blk B3.out (by have := hlo.out; have := hlo2.out; omega))
    replace B4 := Aside0.mk (hs.out.blk B4.out (by have := hlo2.out; omega))
    clear q0 q1 p0 p1 g2 t0 t1 u0 u1 hW hown hpick
    obtain ⟨x, hx9⟩ : ∃ x : QI, x = ⟨10, f.locs⟩ := ⟨_, rfl⟩
    have hx := Aside0.mk hx9
    clear hx9
    have p0 : Wh.cell? ⟨w.heap.size, 0, none⟩ = some (.slice cA p.consts.length cc) := blk_cell B1.out 0
    have p1 : Wh.cell? ⟨w.heap.size, 1, none⟩ = some (.slice (some fd) p.funcs.length fc) := blk_cell B1.out 1
    have g2 : Wh.cell? ⟨Wd.heap.size, 2, none⟩ = some (.int .i64 f.locs) := blk_cell B4.out 2
    have g0' : Wh.cell? ⟨We.heap.size, 0, none⟩ = some (.int .i64 10) := blk_cell B5.out 0
    have g1' : Wh.cell? ⟨We.heap.size, 1, none⟩ = some (.int .i64 f.locs) := blk_cell B5.out 1
    by_cases h9 : (f.locs : Int) = 64
    · have hb : ((f.locs : Int) == 64) = true := by simpa using h9
      have he : Aside0 (instrP chkP p f x = 7) := ⟨by rw [hx.out, bad_load (by have := hok.out.p0; have := hok.out.pl; omega) hok.out.l64, if_pos h9]⟩
      clear h9
      go_upto_region 25 with (fail)
      (try simp only [Act.put, List.setIfInBounds_toArray, List.set_cons_zero, List.set_cons_succ])
      clear p0 p1 g2 hb g0' g1'
      have q1 : Wh.cell? ⟨wd.heap.size, 1, none⟩ = some (.slice (some ⟨gF, 0, none⟩) p.funcs.length uK) := blk_cell B3.out 1
      have g0 : Wh.cell? ⟨We.heap.size, 0, none⟩ = some (.int .i64 x.op) := by rw [hx.out]; exact blk_cell B5.out 0
      have g1 : Wh.cell? ⟨We.heap.size, 1, none⟩ = some (.int .i64 x.a) := by rw [hx.out]; exact blk_cell B5.out 1
      obtain ⟨_, _, _, x3, x4⟩ := raw_ownC hown3.out.fs.toC k hkl hrA.out
      clear x4
      (try simp only at x3)
      obtain ⟨_, _, _, hoi, _⟩ := hown3.out.fn.2 k _ f hrA.out hfA.out
      obtain ⟨ya, yb, hy9, y0, y1⟩ := kQI_own hoi.toC pc hpc
      obtain ⟨cu3, hcu3⟩ := Kd.R_typed hoi.1 gI rfl
      have z0 := blk_frozen hcu3 (pc * 2)
      have z1 := blk_frozen hcu3 (pc * 2 + 1)
      have hy := Aside0.mk hy9
      clear hcu3 hoi hy9
      have hk0 : (0 : Int) ≤ k := by omega
      have hk1 : (k : Int) < p.funcs.length := by omega
      have hj0 : (0 : Int) ≤ pc := by omega
      have hj1 : (pc : Int) < f.code.length := by omega
      refine start_ (n := 10) (S := fun w' => w'.cell? ⟨wd.heap.size, 1, none⟩ = some (.slice (some ⟨gF, 0, none⟩) p.funcs.length uK) ∧ w'.cell? ⟨gF, k * 5 + 3, none⟩ = some (.slice (some ⟨gI, 0, none⟩) f.code.length iC) ∧ w'.cell? ⟨We.heap.size, 0, none⟩ = some (.int .i64 x.op) ∧ w'.cell? ⟨We.heap.size, 1, none⟩ = some (.int .i64 x.a)) (ds := [9]) #[false, false, false, false, false, false, false, false, false, false] (by kernel_rfl) rfl rfl ⟨q1, x3, g0, g1⟩ (fun hHeld => ?_)
      refine pure_ (i := 0) (N := some 115) (v := ?_) (a' := ?_) #[true, false, false, false, false, false, false, false, false, false] rfl rfl (by kernel_rfl) (fun _ _ _ h => h) (Or.inl ⟨by rfl, ?_⟩) ?_ ?_
      rotate_left
      · intro w'
        go_simp
        with_reducible rfl
      rotate_left
      · simp only [Act.put, List.setIfInBounds_toArray, List.set_cons_zero, List.set_cons_succ, i64_w, i32_w]
        rfl
      refine pure_ (i := 2) (N := some 117) (v := ?_) (a' := ?_) #[true, false, true, false, false, false, false, false, false, false] rfl rfl (by kernel_rfl) (fun _ _ _ h => h) (Or.inl ⟨by rfl, ?_⟩) ?_ ?_
      rotate_left
      · intro w'
        go_simp
        with_reducible rfl
      rotate_left
      · simp only [Act.put, List.setIfInBounds_toArray, List.set_cons_zero, List.set_cons_succ, i64_w, i32_w]
        rfl
      refine pure_ (i := 6) (N := some 121) (v := ?_) (a' := ?_) #[true, false, true, false, false, false, true, false, false, false] rfl rfl (by kernel_rfl) (fun _ _ _ h => h) (Or.inl ⟨by rfl, ?_⟩) ?_ ?_
      rotate_left
      · intro w'
        go_simp
        with_reducible rfl
      rotate_left
      · simp only [Act.put, List.setIfInBounds_toArray, List.set_cons_zero, List.set_cons_succ, i64_w, i32_w]
        rfl
      refine take_ (i := 1) (N := some 116) (v := ?_) (a' := ?_) #[true, true, true, false, false, false, true, false, false, false] rfl rfl (by kernel_rfl) (fun _ _ _ h => h) (Or.inl ⟨by rfl, ?_⟩) hHeld ?_ ?_
      rotate_left
      · rintro w' ⟨s0, s1, s2, s3⟩
        go_simp
        with_reducible rfl
      rotate_left
      · simp only [Act.put, List.setIfInBounds_toArray, List.set_cons_zero, List.set_cons_succ, i64_w, i32_w]
        rfl
      refine pure_ (i := 3) (N := some 118) (v := ?_) (a' := ?_) #[true, true, true, true, false, false, true, false, false, false] rfl rfl (by kernel_rfl) (fun _ _ _ h => h) (Or.inl ⟨by rfl, ?_⟩) ?_ ?_
      rotate_left
      · intro w'
        go_simp
        with_reducible rfl
      rotate_left
      · simp only [Act.put, List.setIfInBounds_toArray, List.set_cons_zero, List.set_cons_succ, i64_w, i32_w]
        rfl
      refine pure_ (i := 4) (N := some 119) (v := ?_) (a' := ?_) #[true, true, true, true, true, false, true, false, false, false] rfl rfl (by kernel_rfl) (fun _ _ _ h => h) (Or.inl ⟨by rfl, ?_⟩) ?_ ?_
      rotate_left
      · intro w'
        go_simp
        with_reducible rfl
      rotate_left
      · simp only [Act.put, List.setIfInBounds_toArray, List.set_cons_zero, List.set_cons_succ, i64_w, i32_w]
        rfl
      refine take_ (i := 5) (N := some 120) (v := ?_) (a' := ?_) #[true, true, true, true, true, true, true, false, false, false] rfl rfl (by kernel_rfl) (fun _ _ _ h => h) (Or.inl ⟨by rfl, ?_⟩) hHeld ?_ ?_
      rotate_left
      · rintro w' ⟨s0, s1, s2, s3⟩
        go_simp
        with_reducible rfl
      rotate_left
      · simp only [Act.put, List.setIfInBounds_toArray, List.set_cons_zero, List.set_cons_succ, i64_w, i32_w]
        rfl
      refine take_ (i := 7) (N := some 122) (v := ?_) (a' := ?_) #[true, true, true, true, true, true, true, true, false, false] rfl rfl (by kernel_rfl) (fun _ _ _ h => h) (Or.inl ⟨by rfl, ?_⟩) hHeld ?_ ?_
      rotate_left
      · rintro w' ⟨s0, s1, s2, s3⟩
        go_simp
        with_reducible rfl
      rotate_left
      · simp only [Act.put, List.setIfInBounds_toArray, List.set_cons_zero, List.set_cons_succ, i64_w, i32_w]
        rfl
      refine pure_ (i := 8) (N := some 123) (v := ?_) (a' := ?_) #[true, true, true, true, true, true, true, true, true, false] rfl rfl (by kernel_rfl) (fun _ _ _ h => h) (Or.inl ⟨by rfl, ?_⟩) ?_ ?_
      rotate_left
      · intro w'
        go_simp
        with_reducible rfl
      rotate_left
      · simp only [Act.put, List.setIfInBounds_toArray, List.set_cons_zero, List.set_cons_succ, i64_w, i32_w]
        rfl
      refine last_ (i := 9) (N := none) #[true, true, true, true, true, true, true, true, true, true] rfl rfl (by kernel_rfl) (by decide) (fun K hK => ?_)
      refine skip_ (w1 := ?_) (by rfl) rfl ?_ ?_
      rotate_left
      · go_simp
        rfl
      refine hK.out _ _ ?_
      clear hK K
      refine done_ (by kernel_rfl) ?_
      (try simp only [Act.put, List.setIfInBounds_toArray, List.set_cons_zero, List.set_cons_succ])
      clear hHeld
      generalize hW : World.drew (World.setCell (World.setCell _ _ _) _ _) = Wz
      have hs4 : Aside0 (Chg (fun b => b = gI) Wh Wz) := ⟨by rw [← hW]; exact Chg.drew (((Chg.refl (fun b => b = gI) Wh).setCell (p := ⟨gI, pc * 2, none⟩) (fun _ => rfl) (.int .i64 x.op)).setCell (p := ⟨gI, pc * 2 + 1, none⟩) (fun _ => rfl) (.int .i64 x.a))⟩
      have hownz : Aside0 (POwn Wz wc.heap.size (vA, p.consts.length, vK) (some ⟨gF, 0, none⟩, p.funcs.length, uK) ⟨p.consts, p.funcs.set k ⟨f.name, f.pars, f.locs, f.code.set pc x, f.hnd⟩⟩ rs') := ⟨by rw [← hW]; exact POwn.new (hown3.out.hitI (f' := ⟨f.name, f.pars, f.locs, f.code.set pc x, f.hnd⟩) hap.out hrA.out hfA.out rfl (((Chg.refl (fun b => b = gI) Wh).setCell (p := ⟨gI, pc * 2, none⟩) (fun _ => rfl) (.int .i64 x.op)).setCell (p := ⟨gI, pc * 2 + 1, none⟩) (fun _ => rfl) (.int .i64 x.a)) ⟨rfl, rfl, rfl, rfl⟩ (fun ho => oq_putI ho hy.out x)) ((Chg.refl _ _).drew)⟩
      obtain ⟨p3, hp3e⟩ : ∃ p3 : QP, p3 = ⟨p.consts, p.funcs.set k ⟨f.name, f.pars, f.locs, f.code.set pc x, f.hnd⟩⟩ := ⟨_, rfl⟩
      rw [← hp3e] at hownz
      have hp3 : Aside0 (checkP chkP p3 = (((k : Int), (pc : Int)), 7)) := ⟨by rw [hp3e, ← he.out]; exact code_bad hfit.out hfA.out hpc (by rw [he.out]; decide)⟩
      have hwf3 : Aside0 (PWf p3) := ⟨by rw [hp3e]; exact wf_setF hwA.out ⟨hsz.out.1, by simp only [List.length_set]; exact hsz.out.2.1, hsz.out.2.2⟩⟩
      obtain ⟨hv9, hu9, hpv⟩ := hownz.out.view
      simp only at hv9 hu9 hpv
      have hpvZ := Aside0.mk hpv
      replace B3 := Aside0.mk (hs4.out.blk B3.out (fun e => hgI.out.2.2.2 e.symm))
      clear q1 x3 g0 g1 y0 y1 z0 z1 hpv hp3e hW
      have q0 : Wz.cell? ⟨wd.heap.size, 0, none⟩ = some (.slice vA p.consts.length vK) := blk_cell B3.out 0
      have q1 : Wz.cell? ⟨wd.heap.size, 1, none⟩ = some (.slice (some ⟨gF, 0, none⟩) p.funcs.length uK) := blk_cell B3.out 1
      rw [hv9] at q0
      rw [hu9] at q1
      have hzz : Aside0 (Chg (fun _ => False) w Wz) := ⟨(hzh.out.trans hs.out (fun b hb e => by have := hlo.out; have := hlo2.out; omega)).trans hs4.out (fun b hb e => by subst e; have := hgI.out.1; have := hlo.out; omega)⟩
      have hEz : Aside0 (Wz.cell? ⟨0, 0, none⟩ = some (.iface 114 (.agg #[.pointer (some ⟨2, 68, none⟩)]))) := ⟨cell_chg0 hEA.out hzz.out⟩
      clear hv9 hu9 hs hs4 hownz hown3 hzh
      go_wp2_with (go_at_call 16; go_must (refine (law_found Wz vA (some ⟨gF, 0, none⟩) vK uK p3 rs' (k : Int) (pc : Int) 7 hpvZ.out hwf3.out hEz.out hp3.out).mono ?_); go_must (rintro e wk ⟨rfl, hwk⟩); go_must (replace hwk := Aside0.mk hwk))
      go_ret
      exact ⟨rfl, hzz.out.trans hwk.out (fun _ _ h => h)⟩
    · have hb : ((f.locs : Int) == 64) = false := by simpa using h9
      have he : Aside0 (instrP chkP p f x = 8) := ⟨by rw [hx.out, bad_load (by have := hok.out.p0; have := hok.out.pl; omega) hok.out.l64, if_neg h9]⟩
      clear h9
      go_upto_region 25 with (fail)
      (try simp only [Act.put, List.setIfInBounds_toArray, List.set_cons_zero, List.set_cons_succ])
      clear p0 p1 g2 hb g0' g1'
      have q1 : Wh.cell? ⟨wd.heap.size, 1, none⟩ = some (.slice (some ⟨gF, 0, none⟩) p.funcs.length uK) := blk_cell B3.out 1
      have g0 : Wh.cell? ⟨We.heap.size, 0, none⟩ = some (.int .i64 x.op) := by rw [hx.out]; exact blk_cell B5.out 0
      have g1 : Wh.cell? ⟨We.heap.size, 1, none⟩ = some (.int .i64 x.a) := by rw [hx.out]; exact blk_cell B5.out 1
      obtain ⟨_, _, _, x3, x4⟩ := raw_ownC hown3.out.fs.toC k hkl hrA.out
      clear x4
      (try simp only at x3)
      obtain ⟨_, _, _, hoi, _⟩ := hown3.out.fn.2 k _ f hrA.out hfA.out
      obtain ⟨ya, yb, hy9, y0, y1⟩ := kQI_own hoi.toC pc hpc
      obtain ⟨cu3, hcu3⟩ := Kd.R_typed hoi.1 gI rfl
      have z0 := blk_frozen hcu3 (pc * 2)
      have z1 := blk_frozen hcu3 (pc * 2 + 1)
      have hy := Aside0.mk hy9
      clear hcu3 hoi hy9
      have hk0 : (0 : Int) ≤ k := by omega
      have hk1 : (k : Int) < p.funcs.length := by omega
      have hj0 : (0 : Int) ≤ pc := by omega
      have hj1 : (pc : Int) < f.code.length := by omega
      refine start_ (n := 10) (S := fun w' => w'.cell? ⟨wd.heap.size, 1, none⟩ = some (.slice (some ⟨gF, 0, none⟩) p.funcs.length uK) ∧ w'.cell? ⟨gF, k * 5 + 3, none⟩ = some (.slice (some ⟨gI, 0, none⟩) f.code.length iC) ∧ w'.cell? ⟨We.heap.size, 0, none⟩ = some (.int .i64 x.op) ∧ w'.cell? ⟨We.heap.size, 1, none⟩ = some (.int .i64 x.a)) (ds := [9]) #[false, false, false, false, false, false, false, false, false, false] (by kernel_rfl) rfl rfl ⟨q1, x3, g0, g1⟩ (fun hHeld => ?_)
      refine pure_ (i := 0) (N := some 115) (v := ?_) (a' := ?_) #[true, false, false, false, false, false, false, false, false, false] rfl rfl (by kernel_rfl) (fun _ _ _ h => h) (Or.inl ⟨by rfl, ?_⟩) ?_ ?_
      rotate_left
      · intro w'
        go_simp
        with_reducible rfl
      rotate_left
      · simp only [Act.put, List.setIfInBounds_toArray, List.set_cons_zero, List.set_cons_succ, i64_w, i32_w]
        rfl
      refine pure_ (i := 2) (N := some 117) (v := ?_) (a' := ?_) #[true, false, true, false, false, false, false, false, false, false] rfl rfl (by kernel_rfl) (fun _ _ _ h => h) (Or.inl ⟨by rfl, ?_⟩) ?_ ?_
      rotate_left
      · intro w'
        go_simp
        with_reducible rfl
      rotate_left
      · simp only [Act.put, List.setIfInBounds_toArray, List.set_cons_zero, List.set_cons_succ, i64_w, i32_w]
        rfl
      refine pure_ (i := 6) (N := some 121) (v := ?_) (a' := ?_) #[true, false, true, false, false, false, true, false, false, false] rfl rfl (by kernel_rfl) (fun _ _ _ h => h) (Or.inl ⟨by rfl, ?_⟩) ?_ ?_
      rotate_left
      · intro w'
        go_simp
        with_reducible rfl
      rotate_left
      · simp only [Act.put, List.setIfInBounds_toArray, List.set_cons_zero, List.set_cons_succ, i64_w, i32_w]
        rfl
      refine take_ (i := 1) (N := some 116) (v := ?_) (a' := ?_) #[true, true, true, false, false, false, true, false, false, false] rfl rfl (by kernel_rfl) (fun _ _ _ h => h) (Or.inl ⟨by rfl, ?_⟩) hHeld ?_ ?_
      rotate_left
      · rintro w' ⟨s0, s1, s2, s3⟩
        go_simp
        with_reducible rfl
      rotate_left
      · simp only [Act.put, List.setIfInBounds_toArray, List.set_cons_zero, List.set_cons_succ, i64_w, i32_w]
        rfl
      refine pure_ (i := 3) (N := some 118) (v := ?_) (a' := ?_) #[true, true, true, true, false, false, true, false, false, false] rfl rfl (by kernel_rfl) (fun _ _ _ h => h) (Or.inl ⟨by rfl, ?_⟩) ?_ ?_
      rotate_left
      · intro w'
        go_simp
        with_reducible rfl
      rotate_left
      · simp only [Act.put, List.setIfInBounds_toArray, List.set_cons_zero, List.set_cons_succ, i64_w, i32_w]
        rfl
      refine pure_ (i := 4) (N := some 119) (v := ?_) (a' := ?_) #[true, true, true, true, true, false, true, false, false, false] rfl rfl (by kernel_rfl) (fun _ _ _ h => h) (Or.inl ⟨by rfl, ?_⟩) ?_ ?_
      rotate_left
      · intro w'
        go_simp
        with_reducible rfl
      rotate_left
      · simp only [Act.put, List.setIfInBounds_toArray, List.set_cons_zero, List.set_cons_succ, i64_w, i32_w]
        rfl
      refine take_ (i := 5) (N := some 120) (v := ?_) (a' := ?_) #[true, true, true, true, true, true, true, false, false, false] rfl rfl (by kernel_rfl) (fun _ _ _ h => h) (Or.inl ⟨by rfl, ?_⟩) hHeld ?_ ?_
      rotate_left
      · rintro w' ⟨s0, s1, s2, s3⟩
        go_simp
        with_reducible rfl
      rotate_left
      · simp only [Act.put, List.setIfInBounds_toArray, List.set_cons_zero, List.set_cons_succ, i64_w, i32_w]
        rfl
      refine take_ (i := 7) (N := some 122) (v := ?_) (a' := ?_) #[true, true, true, true, true, true, true, true, false, false] rfl rfl (by kernel_rfl) (fun _ _ _ h => h) (Or.inl ⟨by rfl, ?_⟩) hHeld ?_ ?_
      rotate_left
      · rintro w' ⟨s0, s1, s2, s3⟩
        go_simp
        with_reducible rfl
      rotate_left
      · simp only [Act.put, List.setIfInBounds_toArray, List.set_cons_zero, List.set_cons_succ, i64_w, i32_w]
        rfl
      refine pure_ (i := 8) (N := some 123) (v := ?_) (a' := ?_) #[true, true, true, true, true, true, true, true, true, false] rfl rfl (by kernel_rfl) (fun _ _ _ h => h) (Or.inl ⟨by rfl, ?_⟩) ?_ ?_
      rotate_left
      · intro w'
        go_simp
        with_reducible rfl
      rotate_left
      · simp only [Act.put, List.setIfInBounds_toArray, List.set_cons_zero, List.set_cons_succ, i64_w, i32_w]
        rfl
      refine last_ (i := 9) (N := none) #[true, true, true, true, true, true, true, true, true, true] rfl rfl (by kernel_rfl) (by decide) (fun K hK => ?_)
      refine skip_ (w1 := ?_) (by rfl) rfl ?_ ?_
      rotate_left
      · go_simp
        rfl
      refine hK.out _ _ ?_
      clear hK K
      refine done_ (by kernel_rfl) ?_
      (try simp only [Act.put, List.setIfInBounds_toArray, List.set_cons_zero, List.set_cons_succ])
      clear hHeld
      generalize hW : World.drew (World.setCell (World.setCell _ _ _) _ _) = Wz
      have hs4 : Aside0 (Chg (fun b => b = gI) Wh Wz) := ⟨by rw [← hW]; exact Chg.drew (((Chg.refl (fun b => b = gI) Wh).setCell (p := ⟨gI, pc * 2, none⟩) (fun _ => rfl) (.int .i64 x.op)).setCell (p := ⟨gI, pc * 2 + 1, none⟩) (fun _ => rfl) (.int .i64 x.a))⟩
      have hownz : Aside0 (POwn Wz wc.heap.size (vA, p.consts.length, vK) (some ⟨gF, 0, none⟩, p.funcs.length, uK) ⟨p.consts, p.funcs.set k ⟨f.name, f.pars, f.locs, f.code.set pc x, f.hnd⟩⟩ rs') := ⟨by rw [← hW]; exact POwn.new (hown3.out.hitI (f' := ⟨f.name, f.pars, f.locs, f.code.set pc x, f.hnd⟩) hap.out hrA.out hfA.out rfl (((Chg.refl (fun b => b = gI) Wh).setCell (p := ⟨gI, pc * 2, none⟩) (fun _ => rfl) (.int .i64 x.op)).setCell (p := ⟨gI, pc * 2 + 1, none⟩) (fun _ => rfl) (.int .i64 x.a)) ⟨rfl, rfl, rfl, rfl⟩ (fun ho => oq_putI ho hy.out x)) ((Chg.refl _ _).drew)⟩
      obtain ⟨p3, hp3e⟩ : ∃ p3 : QP, p3 = ⟨p.consts, p.funcs.set k ⟨f.name, f.pars, f.locs, f.code.set pc x, f.hnd⟩⟩ := ⟨_, rfl⟩
      rw [← hp3e] at hownz
      have hp3 : Aside0 (checkP chkP p3 = (((k : Int), (pc : Int)), 8)) := ⟨by rw [hp3e, ← he.out]; exact code_bad hfit.out hfA.out hpc (by rw [he.out]; decide)⟩
      have hwf3 : Aside0 (PWf p3) := ⟨by rw [hp3e]; exact wf_setF hwA.out ⟨hsz.out.1, by simp only [List.length_set]; exact hsz.out.2.1, hsz.out.2.2⟩⟩
      obtain ⟨hv9, hu9, hpv⟩ := hownz.out.view
      simp only at hv9 hu9 hpv
      have hpvZ := Aside0.mk hpv
      replace B3 := Aside0.mk (hs4.out.blk B3.out (fun e => hgI.out.2.2.2 e.symm))
      clear q1 x3 g0 g1 y0 y1 z0 z1 hpv hp3e hW
      have q0 : Wz.cell? ⟨wd.heap.size, 0, none⟩ = some (.slice vA p.consts.length vK) := blk_cell B3.out 0
      have q1 : Wz.cell? ⟨wd.heap.size, 1, none⟩ = some (.slice (some ⟨gF, 0, none⟩) p.funcs.length uK) := blk_cell B3.out 1
      rw [hv9] at q0
      rw [hu9] at q1
      have hzz : Aside0 (Chg (fun _ => False) w Wz) := ⟨(hzh.out.trans hs.out (fun b hb e => by have := hlo.out; have := hlo2.out; omega)).trans hs4.out (fun b hb e => by subst e; have := hgI.out.1; have := hlo.out; omega)⟩
      have hEz : Aside0 (Wz.cell? ⟨0, 0, none⟩ = some (.iface 114 (.agg #[.pointer (some ⟨2, 68, none⟩)]))) := ⟨cell_chg0 hEA.out hzz.out⟩
      clear hv9 hu9 hs hs4 hownz hown3 hzh
      go_wp2_with (go_at_call 16; go_must (refine (law_found Wz vA (some ⟨gF, 0, none⟩) vK uK p3 rs' (k : Int) (pc : Int) 8 hpvZ.out hwf3.out hEz.out hp3.out).mono ?_); go_must (rintro e wk ⟨rfl, hwk⟩); go_must (replace hwk := Aside0.mk hwk))
      go_ret
      exact ⟨rfl, hzz.out.trans hwk.out (fun _ _ h => h)⟩
  · subst hm0
    go_upto_region 23 with (go_at_call 17; go_must (refine (hpick.out _).mono ?_); go_must (rintro e wn ⟨rfl, hwn⟩); go_must (subst wn))
    (try simp only [Act.put, List.setIfInBounds_toArray, List.set_cons_zero, List.set_cons_succ])
    generalize hW : World.setCell (World.setCell Wf _ _) _ _ = Wh
    have hs : Aside0 (Chg (fun b => b = We.heap.size) Wf Wh) := ⟨by rw [← hW]; exact ((Chg.refl (fun b => b = We.heap.size) Wf).setCell (p := ⟨We.heap.size, 0, none⟩) (fun _ => rfl) _).setCell (p := ⟨We.heap.size, 1, none⟩) (fun _ => rfl) _⟩
    have hown3 : Aside0 (POwn Wh wc.heap.size (vA, p.consts.length, vK) (some ⟨gF, 0, none⟩, p.funcs.length, uK) p rs') := ⟨hown.out.hitIB B5.out hs.out hnb.out⟩
    replace B5 : Aside0 (Wh.heap[We.heap.size]? = some (.cells #[.int .i64 5, .int .i64 (p.consts.length : Int)] 50 (0, 0))) := ⟨by rw [← hW]; exact blk_set (blk_set B5.out 0 _) 1 _⟩
    replace B1 := Aside0.mk (hs.out.blk B1.out (by have := hlo.out; have := hlo2.out; omega))
    replace B3 := Aside0.mk (hs.out.blk B3.out (by have := hlo.out; have := hlo2.out; omega))
    replace B4 := Aside0.mk (hs.out.blk B4.out (by have := hlo2.out; omega))
    clear q0 q1 p0 p1 g2 t0 t1 u0 u1 hW hown hpick
    obtain ⟨x, hx9⟩ : ∃ x : QI, x = ⟨5, (p.consts.length : Int)⟩ := ⟨_, rfl⟩
    have hx := Aside0.mk hx9
    clear hx9
    have p0 : Wh.cell? ⟨w.heap.size, 0, none⟩ = some (.slice cA p.consts.length cc) := blk_cell B1.out 0
    have p1 : Wh.cell? ⟨w.heap.size, 1, none⟩ = some (.slice (some fd) p.funcs.length fc) := blk_cell B1.out 1
    have g2 : Wh.cell? ⟨Wd.heap.size, 2, none⟩ = some (.int .i64 f.locs) := blk_cell B4.out 2
    have g0' : Wh.cell? ⟨We.heap.size, 0, none⟩ = some (.int .i64 5) := blk_cell B5.out 0
    have g1' : Wh.cell? ⟨We.heap.size, 1, none⟩ = some (.int .i64 (p.consts.length : Int)) := blk_cell B5.out 1
    by_cases h9 : (p.consts.length : Int) = 512
    · have hb : ((p.consts.length : Int) == 512) = true := by simpa using h9
      have he : Aside0 (instrP chkP p f x = 7) := ⟨by rw [hx.out, bad_const hfit.out.nc, if_pos h9]⟩
      clear h9
      go_upto_region 25 with (fail)
      (try simp only [Act.put, List.setIfInBounds_toArray, List.set_cons_zero, List.set_cons_succ])
      clear p0 p1 g2 hb g0' g1'
      have q1 : Wh.cell? ⟨wd.heap.size, 1, none⟩ = some (.slice (some ⟨gF, 0, none⟩) p.funcs.length uK) := blk_cell B3.out 1
      have g0 : Wh.cell? ⟨We.heap.size, 0, none⟩ = some (.int .i64 x.op) := by rw [hx.out]; exact blk_cell B5.out 0
      have g1 : Wh.cell? ⟨We.heap.size, 1, none⟩ = some (.int .i64 x.a) := by rw [hx.out]; exact blk_cell B5.out 1
      obtain ⟨_, _, _, x3, x4⟩ := raw_ownC hown3.out.fs.toC k hkl hrA.out
      clear x4
      (try simp only at x3)
      obtain ⟨_, _, _, hoi, _⟩ := hown3.out.fn.2 k _ f hrA.out hfA.out
      obtain ⟨ya, yb, hy9, y0, y1⟩ := kQI_own hoi.toC pc hpc
      obtain ⟨cu3, hcu3⟩ := Kd.R_typed hoi.1 gI rfl
      have z0 := blk_frozen hcu3 (pc * 2)
      have z1 := blk_frozen hcu3 (pc * 2 + 1)
      have hy := Aside0.mk hy9
      clear hcu3 hoi hy9
      have hk0 : (0 : Int) ≤ k := by omega
      have hk1 : (k : Int) < p.funcs.length := by omega
      have hj0 : (0 : Int) ≤ pc := by omega
      have hj1 : (pc : Int) < f.code.length := by omega
      refine start_ (n := 10) (S := fun w' => w'.cell? ⟨wd.heap.size, 1, none⟩ = some (.slice (some ⟨gF, 0, none⟩) p.funcs.length uK) ∧ w'.cell? ⟨gF, k * 5 + 3, none⟩ = some (.slice (some ⟨gI, 0, none⟩) f.code.length iC) ∧ w'.cell? ⟨We.heap.size, 0, none⟩ = some (.int .i64 x.op) ∧ w'.cell? ⟨We.heap.size, 1, none⟩ = some (.int .i64 x.a)) (ds := [9]) #[false, false, false, false, false, false, false, false, false, false] (by kernel_rfl) rfl rfl ⟨q1, x3, g0, g1⟩ (fun hHeld => ?_)
      refine pure_ (i := 0) (N := some 115) (v := ?_) (a' := ?_) #[true, false, false, false, false, false, false, false, false, false] rfl rfl (by kernel_rfl) (fun _ _ _ h => h) (Or.inl ⟨by rfl, ?_⟩) ?_ ?_
      rotate_left
      · intro w'
        go_simp
        with_reducible rfl
      rotate_left
      · simp only [Act.put, List.setIfInBounds_toArray, List.set_cons_zero, List.set_cons_succ, i64_w, i32_w]
        rfl
      refine pure_ (i := 2) (N := some 117) (v := ?_) (a' := ?_) #[true, false, true, false, false, false, false, false, false, false] rfl rfl (by kernel_rfl) (fun _ _ _ h => h) (Or.inl ⟨by rfl, ?_⟩) ?_ ?_
      rotate_left
      · intro w'
        go_simp
        with_reducible rfl
      rotate_left
      · simp only [Act.put, List.setIfInBounds_toArray, List.set_cons_zero, List.set_cons_succ, i64_w, i32_w]
        rfl
      refine pure_ (i := 6) (N := some 121) (v := ?_) (a' := ?_) #[true, false, true, false, false, false, true, false, false, false] rfl rfl (by kernel_rfl) (fun _ _ _ h => h) (Or.inl ⟨by rfl, ?_⟩) ?_ ?_
      rotate_left
      · intro w'
        go_simp
        with_reducible rfl
      rotate_left
      · simp only [Act.put, List.setIfInBounds_toArray, List.set_cons_zero, List.set_cons_succ, i64_w, i32_w]
        rfl
      refine take_ (i := 1) (N := some 116) (v := ?_) (a' := ?_) #[true, true, true, false, false, false, true, false, false, false] rfl rfl (by kernel_rfl) (fun _ _ _ h => h) (Or.inl ⟨by rfl, ?_⟩) hHeld ?_ ?_
      rotate_left
      · rintro w' ⟨s0, s1, s2, s3⟩
        go_simp
        with_reducible rfl
      rotate_left
      · simp only [Act.put, List.setIfInBounds_toArray, List.set_cons_zero, List.set_cons_succ, i64_w, i32_w]
        rfl
      refine pure_ (i := 3) (N := some 118) (v := ?_) (a' := ?_) #[true, true, true, true, false, false, true, false, false, false] rfl rfl (by kernel_rfl) (fun _ _ _ h => h) (Or.inl ⟨by rfl, ?_⟩) ?_ ?_
      rotate_left
      · intro w'
        go_simp
        with_reducible rfl
      rotate_left
      · simp only [Act.put, List.setIfInBounds_toArray, List.set_cons_zero, List.set_cons_succ, i64_w, i32_w]
        rfl
      refine pure_ (i := 4) (N := some 119) (v := ?_) (a' := ?_) #[true, true, true, true, true, false, true, false, false, false] rfl rfl (by kernel_rfl) (fun _ _ _ h => h) (Or.inl ⟨by rfl, ?_⟩) ?_ ?_
      rotate_left
      · intro w'
        go_simp
        with_reducible rfl
      rotate_left
      · simp only [Act.put, List.setIfInBounds_toArray, List.set_cons_zero, List.set_cons_succ, i64_w, i32_w]
        rfl
      refine take_ (i := 5) (N := some 120) (v := ?_) (a' := ?_) #[true, true, true, true, true, true, true, false, false, false] rfl rfl (by kernel_rfl) (fun _ _ _ h => h) (Or.inl ⟨by rfl, ?_⟩) hHeld ?_ ?_
      rotate_left
      · rintro w' ⟨s0, s1, s2, s3⟩
        go_simp
        with_reducible rfl
      rotate_left
      · simp only [Act.put, List.setIfInBounds_toArray, List.set_cons_zero, List.set_cons_succ, i64_w, i32_w]
        rfl
      refine take_ (i := 7) (N := some 122) (v := ?_) (a' := ?_) #[true, true, true, true, true, true, true, true, false, false] rfl rfl (by kernel_rfl) (fun _ _ _ h => h) (Or.inl ⟨by rfl, ?_⟩) hHeld ?_ ?_
      rotate_left
      · rintro w' ⟨s0, s1, s2, s3⟩
        go_simp
        with_reducible rfl
      rotate_left
      · simp only [Act.put, List.setIfInBounds_toArray, List.set_cons_zero, List.set_cons_succ, i64_w, i32_w]
        rfl
      refine pure_ (i := 8) (N := some 123) (v := ?_) (a' := ?_) #[true, true, true, true, true, true, true, true, true, false] rfl rfl (by kernel_rfl) (fun _ _ _ h => h) (Or.inl ⟨by rfl, ?_⟩) ?_ ?_
      rotate_left
      · intro w'
        go_simp
        with_reducible rfl
      rotate_left
      · simp only [Act.put, List.setIfInBounds_toArray, List.set_cons_zero, List.set_cons_succ, i64_w, i32_w]
        rfl
      refine last_ (i := 9) (N := none) #[true, true, true, true, true, true, true, true, true, true] rfl rfl (by kernel_rfl) (by decide) (fun K hK => ?_)
      refine skip_ (w1 := ?_) (by rfl) rfl ?_ ?_
      rotate_left
      · go_simp
        rfl
      refine hK.out _ _ ?_
      clear hK K
      refine done_ (by kernel_rfl) ?_
      (try simp only [Act.put, List.setIfInBounds_toArray, List.set_cons_zero, List.set_cons_succ])
      clear hHeld
      generalize hW : World.drew (World.setCell (World.setCell _ _ _) _ _) = Wz
      have hs4 : Aside0 (Chg (fun b => b = gI) Wh Wz) := ⟨by rw [← hW]; exact Chg.drew (((Chg.refl (fun b => b = gI) Wh).setCell (p := ⟨gI, pc * 2, none⟩) (fun _ => rfl) (.int .i64 x.op)).setCell (p := ⟨gI, pc * 2 + 1, none⟩) (fun _ => rfl) (.int .i64 x.a))⟩
      have hownz : Aside0 (POwn Wz wc.heap.size (vA, p.consts.length, vK) (some ⟨gF, 0, none⟩, p.funcs.length, uK) ⟨p.consts, p.funcs.set k ⟨f.name, f.pars, f.locs, f.code.set pc x, f.hnd⟩⟩ rs') := ⟨by rw [← hW]; exact POwn.new (hown3.out.hitI (f' := ⟨f.name, f.pars, f.locs, f.code.set pc x, f.hnd⟩) hap.out hrA.out hfA.out rfl (((Chg.refl (fun b => b = gI) Wh).setCell (p := ⟨gI, pc * 2, none⟩) (fun _ => rfl) (.int .i64 x.op)).setCell (p := ⟨gI, pc * 2 + 1, none⟩) (fun _ => rfl) (.int .i64 x.a)) ⟨rfl, rfl, rfl, rfl⟩ (fun ho => oq_putI ho hy.out x)) ((Chg.refl _ _).drew)⟩
      obtain ⟨p3, hp3e⟩ : ∃ p3 : QP, p3 = ⟨p.consts, p.funcs.set k ⟨f.name, f.pars, f.locs, f.code.set pc x, f.hnd⟩⟩ := ⟨_, rfl⟩
      rw [← hp3e] at hownz
      have hp3 : Aside0 (checkP chkP p3 = (((k : Int), (pc : Int)), 7)) := ⟨by rw [hp3e, ← he.out]; exact code_bad hfit.out hfA.out hpc (by rw [he.out]; decide)⟩
      have hwf3 : Aside0 (PWf p3) := ⟨by rw [hp3e]; exact wf_setF hwA.out ⟨hsz.out.1, by simp only [List.length_set]; exact hsz.out.2.1, hsz.out.2.2⟩⟩
      obtain ⟨hv9, hu9, hpv⟩ := hownz.out.view
      simp only at hv9 hu9 hpv
      have hpvZ := Aside0.mk hpv
      replace B3 := Aside0.mk (hs4.out.blk B3.out (fun e => hgI.out.2.2.2 e.symm))
      clear q1 x3 g0 g1 y0 y1 z0 z1 hpv hp3e hW
      have q0 : Wz.cell? ⟨wd.heap.size, 0, none⟩ = some (.slice vA p.consts.length vK) := blk_cell B3.out 0
      have q1 : Wz.cell? ⟨wd.heap.size, 1, none⟩ = some (.slice (some ⟨gF, 0, none⟩) p.funcs.length uK) := blk_cell B3.out 1
      rw [hv9] at q0
      rw [hu9] at q1
      have hzz : Aside0 (Chg (fun _ => False) w Wz) := ⟨(hzh.out.trans hs.out (fun b hb e => by have := hlo.out; have := hlo2.out; omega)).trans hs4.out (fun b hb e => by subst e; have := hgI.out.1; have := hlo.out; omega)⟩
      have hEz : Aside0 (Wz.cell? ⟨0, 0, none⟩ = some (.iface 114 (.agg #[.pointer (some ⟨2, 68, none⟩)]))) := ⟨cell_chg0 hEA.out hzz.out⟩
      clear hv9 hu9 hs hs4 hownz hown3 hzh
      go_wp2_with (go_at_call 16; go_must (refine (law_found Wz vA (some ⟨gF, 0, none⟩) vK uK p3 rs' (k : Int) (pc : Int) 7 hpvZ.out hwf3.out hEz.out hp3.out).mono ?_); go_must (rintro e wk ⟨rfl, hwk⟩); go_must (replace hwk := Aside0.mk hwk))
      go_ret
      exact ⟨rfl, hzz.out.trans hwk.out (fun _ _ h => h)⟩
    · have hb : ((p.consts.length : Int) == 512) = false := by simpa using h9
      have he : Aside0 (instrP chkP p f x = 8) := ⟨by rw [hx.out, bad_const hfit.out.nc, if_neg h9]⟩
      clear h9
      go_upto_region 25 with (fail)
      (try simp only [Act.put, List.setIfInBounds_toArray, List.set_cons_zero, List.set_cons_succ])
      clear p0 p1 g2 hb g0' g1'
      have q1 : Wh.cell? ⟨wd.heap.size, 1, none⟩ = some (.slice (some ⟨gF, 0, none⟩) p.funcs.length uK) := blk_cell B3.out 1
      have g0 : Wh.cell? ⟨We.heap.size, 0, none⟩ = some (.int .i64 x.op) := by rw [hx.out]; exact blk_cell B5.out 0
      have g1 : Wh.cell? ⟨We.heap.size, 1, none⟩ = some (.int .i64 x.a) := by rw [hx.out]; exact blk_cell B5.out 1
      obtain ⟨_, _, _, x3, x4⟩ := raw_ownC hown3.out.fs.toC k hkl hrA.out
      clear x4
      (try simp only at x3)
      obtain ⟨_, _, _, hoi, _⟩ := hown3.out.fn.2 k _ f hrA.out hfA.out
      obtain ⟨ya, yb, hy9, y0, y1⟩ := kQI_own hoi.toC pc hpc
      obtain ⟨cu3, hcu3⟩ := Kd.R_typed hoi.1 gI rfl
      have z0 := blk_frozen hcu3 (pc * 2)
      have z1 := blk_frozen hcu3 (pc * 2 + 1)
      have hy := Aside0.mk hy9
      clear hcu3 hoi hy9
      have hk0 : (0 : Int) ≤ k := by omega
      have hk1 : (k : Int) < p.funcs.length := by omega
      have hj0 : (0 : Int) ≤ pc := by omega
      have hj1 : (pc : Int) < f.code.length := by omega
      refine start_ (n := 10) (S := fun w' => w'.cell? ⟨wd.heap.size, 1, none⟩ = some (.slice (some ⟨gF, 0, none⟩) p.funcs.length uK) ∧ w'.cell? ⟨gF, k * 5 + 3, none⟩ = some (.slice (some ⟨gI, 0, none⟩) f.code.length iC) ∧ w'.cell? ⟨We.heap.size, 0, none⟩ = some (.int .i64 x.op) ∧ w'.cell? ⟨We.heap.size, 1, none⟩ = some (.int .i64 x.a)) (ds := [9]) #[false, false, false, false, false, false, false, false, false, false] (by kernel_rfl) rfl rfl ⟨q1, x3, g0, g1⟩ (fun hHeld => ?_)
      refine pure_ (i := 0) (N := some 115) (v := ?_) (a' := ?_) #[true, false, false, false, false, false, false, false, false, false] rfl rfl (by kernel_rfl) (fun _ _ _ h => h) (Or.inl ⟨by rfl, ?_⟩) ?_ ?_
      rotate_left
      · intro w'
        go_simp
        with_reducible rfl
      rotate_left
      · simp only [Act.put, List.setIfInBounds_toArray, List.set_cons_zero, List.set_cons_succ, i64_w, i32_w]
        rfl
      refine pure_ (i := 2) (N := some 117) (v := ?_) (a' := ?_) #[true, false, true, false, false, false, false, false, false, false] rfl rfl (by kernel_rfl) (fun _ _ _ h => h) (Or.inl ⟨by rfl, ?_⟩) ?_ ?_
      rotate_left
      · intro w'
        go_simp
        with_reducible rfl
      rotate_left
      · simp only [Act.put, List.setIfInBounds_toArray, List.set_cons_zero, List.set_cons_succ, i64_w, i32_w]
        rfl
      refine pure_ (i := 6) (N := some 121) (v := ?_) (a' := ?_) #[true, false, true, false, false, false, true, false, false, false] rfl rfl (by kernel_rfl) (fun _ _ _ h => h) (Or.inl ⟨by rfl, ?_⟩) ?_ ?_
      rotate_left
      · intro w'
        go_simp
        with_reducible rfl
      rotate_left
      · simp only [Act.put, List.setIfInBounds_toArray, List.set_cons_zero, List.set_cons_succ, i64_w, i32_w]
        rfl
      refine take_ (i := 1) (N := some 116) (v := ?_) (a' := ?_) #[true, true, true, false, false, false, true, false, false, false] rfl rfl (by kernel_rfl) (fun _ _ _ h => h) (Or.inl ⟨by rfl, ?_⟩) hHeld ?_ ?_
      rotate_left
      · rintro w' ⟨s0, s1, s2, s3⟩
        go_simp
        with_reducible rfl
      rotate_left
      · simp only [Act.put, List.setIfInBounds_toArray, List.set_cons_zero, List.set_cons_succ, i64_w, i32_w]
        rfl
      refine pure_ (i := 3) (N := some 118) (v := ?_) (a' := ?_) #[true, true, true, true, false, false, true, false, false, false] rfl rfl (by kernel_rfl) (fun _ _ _ h => h) (Or.inl ⟨by rfl, ?_⟩) ?_ ?_
      rotate_left
      · intro w'
        go_simp
        with_reducible rfl
      rotate_left
      · simp only [Act.put, List.setIfInBounds_toArray, List.set_cons_zero, List.set_cons_succ, i64_w, i32_w]
        rfl
      refine pure_ (i := 4) (N := some 119) (v := ?_) (a' := ?_) #[true, true, true, true, true, false, true, false, false, false] rfl rfl (by kernel_rfl) (fun _ _ _ h => h) (Or.inl ⟨by rfl, ?_⟩) ?_ ?_
      rotate_left
      · intro w'
        go_simp
        with_reducible rfl
      rotate_left
      · simp only [Act.put, List.setIfInBounds_toArray, List.set_cons_zero, List.set_cons_succ, i64_w, i32_w]
        rfl
      refine take_ (i := 5) (N := some 120) (v := ?_) (a' := ?_) #[true, true, true, true, true, true, true, false, false, false] rfl rfl (by kernel_rfl) (fun _ _ _ h => h) (Or.inl ⟨by rfl, ?_⟩) hHeld ?_ ?_
      rotate_left
      · rintro w' ⟨s0, s1, s2, s3⟩
        go_simp
        with_reducible rfl
      rotate_left
      · simp only [Act.put, List.setIfInBounds_toArray, List.set_cons_zero, List.set_cons_succ, i64_w, i32_w]
        rfl
      refine take_ (i := 7) (N := some 122) (v := ?_) (a' := ?_) #[true, true, true, true, true, true, true, true, false, false] rfl rfl (by kernel_rfl) (fun _ _ _ h => h) (Or.inl ⟨by rfl, ?_⟩) hHeld ?_ ?_
      rotate_left
      · rintro w' ⟨s0, s1, s2, s3⟩
        go_simp
        with_reducible rfl
      rotate_left
      · simp only [Act.put, List.setIfInBounds_toArray, List.set_cons_zero, List.set_cons_succ, i64_w, i32_w]
        rfl
      refine pure_ (i := 8) (N := some 123) (v := ?_) (a' := ?_) #[true, true, true, true, true, true, true, true, true, false] rfl rfl (by kernel_rfl) (fun _ _ _ h => h) (Or.inl ⟨by rfl, ?_⟩) ?_ ?_
      rotate_left
      · intro w'
        go_simp
        with_reducible rfl
      rotate_left
      · simp only [Act.put, List.setIfInBounds_toArray, List.set_cons_zero, List.set_cons_succ, i64_w, i32_w]
        rfl
      refine last_ (i := 9) (N := none) #[true, true, true, true, true, true, true, true, true, true] rfl rfl (by kernel_rfl) (by decide) (fun K hK => ?_)
      refine skip_ (w1 := ?_) (by rfl) rfl ?_ ?_
      rotate_left
      · go_simp
        rfl
      refine hK.out _ _ ?_
      clear hK K
      refine done_ (by kernel_rfl) ?_
      (try simp only [Act.put, List.setIfInBounds_toArray, List.set_cons_zero, List.set_cons_succ])
      clear hHeld
      generalize hW : World.drew (World.setCell (World.setCell _ _ _) _ _) = Wz
      have hs4 : Aside0 (Chg (fun b => b = gI) Wh Wz) := ⟨by rw [← hW]; exact Chg.drew (((Chg.refl (fun b => b = gI) Wh).setCell (p := ⟨gI, pc * 2, none⟩) (fun _ => rfl) (.int .i64 x.op)).setCell (p := ⟨gI, pc * 2 + 1, none⟩) (fun _ => rfl) (.int .i64 x.a))⟩
      have hownz : Aside0 (POwn Wz wc.heap.size (vA, p.consts.length, vK) (some ⟨gF, 0, none⟩, p.funcs.length, uK) ⟨p.consts, p.funcs.set k ⟨f.name, f.pars, f.locs, f.code.set pc x, f.hnd⟩⟩ rs') := ⟨by rw [← hW]; exact POwn.new (hown3.out.hitI (f' := ⟨f.name, f.pars, f.locs, f.code.set pc x, f.hnd⟩) hap.out hrA.out hfA.out rfl (((Chg.refl (fun b => b = gI) Wh).setCell (p := ⟨gI, pc * 2, none⟩) (fun _ => rfl) (.int .i64 x.op)).setCell (p := ⟨gI, pc * 2 + 1, none⟩) (fun _ => rfl) (.int .i64 x.a)) ⟨rfl, rfl, rfl, rfl⟩ (fun ho => oq_putI ho hy.out x)) ((Chg.refl _ _).drew)⟩
      obtain ⟨p3, hp3e⟩ : ∃ p3 : QP, p3 = ⟨p.consts, p.funcs.set k ⟨f.name, f.pars, f.locs, f.code.set pc x, f.hnd⟩⟩ := ⟨_, rfl⟩
      rw [← hp3e] at hownz
      have hp3 : Aside0 (checkP chkP p3 = (((k : Int), (pc : Int)), 8)) := ⟨by rw [hp3e, ← he.out]; exact code_bad hfit.out hfA.out hpc (by rw [he.out]; decide)⟩
      have hwf3 : Aside0 (PWf p3) := ⟨by rw [hp3e]; exact wf_setF hwA.out ⟨hsz.out.1, by simp only [List.length_set]; exact hsz.out.2.1, hsz.out.2.2⟩⟩
      obtain ⟨hv9, hu9, hpv⟩ := hownz.out.view
      simp only at hv9 hu9 hpv
      have hpvZ := Aside0.mk hpv
      replace B3 := Aside0.mk (hs4.out.blk B3.out (fun e => hgI.out.2.2.2 e.symm))
      clear q1 x3 g0 g1 y0 y1 z0 z1 hpv hp3e hW
      have q0 : Wz.cell? ⟨wd.heap.size, 0, none⟩ = some (.slice vA p.consts.length vK) := blk_cell B3.out 0
      have q1 : Wz.cell? ⟨wd.heap.size, 1, none⟩ = some (.slice (some ⟨gF, 0, none⟩) p.funcs.length uK) := blk_cell B3.out 1
      rw [hv9] at q0
      rw [hu9] at q1
      have hzz : Aside0 (Chg (fun _ => False) w Wz) := ⟨(hzh.out.trans hs.out (fun b hb e => by have := hlo.out; have := hlo2.out; omega)).trans hs4.out (fun b hb e => by subst e; have := hgI.out.1; have := hlo.out; omega)⟩
      have hEz : Aside0 (Wz.cell? ⟨0, 0, none⟩ = some (.iface 114 (.agg #[.pointer (some ⟨2, 68, none⟩)]))) := ⟨cell_chg0 hEA.out hzz.out⟩
      clear hv9 hu9 hs hs4 hownz hown3 hzh
      go_wp2_with (go_at_call 16; go_must (refine (law_found Wz vA (some ⟨gF, 0, none⟩) vK uK p3 rs' (k : Int) (pc : Int) 8 hpvZ.out hwf3.out hEz.out hp3.out).mono ?_); go_must (rintro e wk ⟨rfl, hwk⟩); go_must (replace hwk := Aside0.mk hwk))
      go_ret
      exact ⟨rfl, hzz.out.trans hwk.out (fun _ _ h => h)⟩
  · subst hm0
    go_upto_region 23 with (go_at_call 17; go_must (refine (hpick.out _).mono ?_); go_must (rintro e wn ⟨rfl, hwn⟩); go_must (subst wn))
    (try simp only [Act.put, List.setIfInBounds_toArray, List.set_cons_zero, List.set_cons_succ])
    generalize hW : World.setCell (World.setCell Wf _ _) _ _ = Wh
    have hs : Aside0 (Chg (fun b => b = We.heap.size) Wf Wh) := ⟨by rw [← hW]; exact ((Chg.refl (fun b => b = We.heap.size) Wf).setCell (p := ⟨We.heap.size, 0, none⟩) (fun _ => rfl) _).setCell (p := ⟨We.heap.size, 1, none⟩) (fun _ => rfl) _⟩
    have hown3 : Aside0 (POwn Wh wc.heap.size (vA, p.consts.length, vK) (some ⟨gF, 0, none⟩, p.funcs.length, uK) p rs') := ⟨hown.out.hitIB B5.out hs.out hnb.out⟩
    replace B5 : Aside0 (Wh.heap[We.heap.size]? = some (.cells #[.int .i64 6, .int .i64 (p.funcs.length : Int)] 50 (0, 0))) := ⟨by rw [← hW]; exact blk_set (blk_set B5.out 0 _) 1 _⟩
    replace B1 := Aside0.mk (hs.out.blk B1.out (by have := hlo.out; have := hlo2.out; omega))
    replace B3 := Aside0.mk (hs.out.blk B3.out (by have := hlo.out; have := hlo2.out; omega))
    replace B4 := Aside0.mk (hs.out.blk B4.out (by have := hlo2.out; omega))
    clear q0 q1 p0 p1 g2 t0 t1 u0 u1 hW hown hpick
    obtain ⟨x, hx9⟩ : ∃ x : QI, x = ⟨6, (p.funcs.length : Int)⟩ := ⟨_, rfl⟩
    have hx := Aside0.mk hx9
    clear hx9
    have p0 : Wh.cell? ⟨w.heap.size, 0, none⟩ = some (.slice cA p.consts.length cc) := blk_cell B1.out 0
    have p1 : Wh.cell? ⟨w.heap.size, 1, none⟩ = some (.slice (some fd) p.funcs.length fc) := blk_cell B1.out 1
    have g2 : Wh.cell? ⟨Wd.heap.size, 2, none⟩ = some (.int .i64 f.locs) := blk_cell B4.out 2
    have g0' : Wh.cell? ⟨We.heap.size, 0, none⟩ = some (.int .i64 6) := blk_cell B5.out 0
    have g1' : Wh.cell? ⟨We.heap.size, 1, none⟩ = some (.int .i64 (p.funcs.length : Int)) := blk_cell B5.out 1
    by_cases h9 : (p.funcs.length : Int) = 128
    · have hb : ((p.funcs.length : Int) == 128) = true := by simpa using h9
      have he : Aside0 (instrP chkP p f x = 7) := ⟨by rw [hx.out, bad_func hfit.out.mf, if_pos h9]⟩
      clear h9
      go_upto_region 25 with (fail)
      (try simp only [Act.put, List.setIfInBounds_toArray, List.set_cons_zero, List.set_cons_succ])
      clear p0 p1 g2 hb g0' g1'
      have q1 : Wh.cell? ⟨wd.heap.size, 1, none⟩ = some (.slice (some ⟨gF, 0, none⟩) p.funcs.length uK) := blk_cell B3.out 1
      have g0 : Wh.cell? ⟨We.heap.size, 0, none⟩ = some (.int .i64 x.op) := by rw [hx.out]; exact blk_cell B5.out 0
      have g1 : Wh.cell? ⟨We.heap.size, 1, none⟩ = some (.int .i64 x.a) := by rw [hx.out]; exact blk_cell B5.out 1
      obtain ⟨_, _, _, x3, x4⟩ := raw_ownC hown3.out.fs.toC k hkl hrA.out
      clear x4
      (try simp only at x3)
      obtain ⟨_, _, _, hoi, _⟩ := hown3.out.fn.2 k _ f hrA.out hfA.out
      obtain ⟨ya, yb, hy9, y0, y1⟩ := kQI_own hoi.toC pc hpc
      obtain ⟨cu3, hcu3⟩ := Kd.R_typed hoi.1 gI rfl
      have z0 := blk_frozen hcu3 (pc * 2)
      have z1 := blk_frozen hcu3 (pc * 2 + 1)
      have hy := Aside0.mk hy9
      clear hcu3 hoi hy9
      have hk0 : (0 : Int) ≤ k := by omega
      have hk1 : (k : Int) < p.funcs.length := by omega
      have hj0 : (0 : Int) ≤ pc := by omega
      have hj1 : (pc : Int) < f.code.length := by omega
      refine start_ (n := 10) (S := fun w' => w'.cell? ⟨wd.heap.size, 1, none⟩ = some (.slice (some ⟨gF, 0, none⟩) p.funcs.length uK) ∧ w'.cell? ⟨gF, k * 5 + 3, none⟩ = some (.slice (some ⟨gI, 0, none⟩) f.code.length iC) ∧ w'.cell? ⟨We.heap.size, 0, none⟩ = some (.int .i64 x.op) ∧ w'.cell? ⟨We.heap.size, 1, none⟩ = some (.int .i64 x.a)) (ds := [9]) #[false, false, false, false, false, false, false, false, false, false] (by kernel_rfl) rfl rfl ⟨q1, x3, g0, g1⟩ (fun hHeld => ?_)
      refine pure_ (i := 0) (N := some 115) (v := ?_) (a' := ?_) #[true, false, false, false, false, false, false, false, false, false] rfl rfl (by kernel_rfl) (fun _ _ _ h => h) (Or.inl ⟨by rfl, ?_⟩) ?_ ?_
      rotate_left
      · intro w'
        go_simp
        with_reducible rfl
      rotate_left
      · simp only [Act.put, List.setIfInBounds_toArray, List.set_cons_zero, List.set_cons_succ, i64_w, i32_w]
        rfl
      refine pure_ (i := 2) (N := some 117) (v := ?_) (a' := ?_) #[true, false, true, false, false, false, false, false, false, false] rfl rfl (by kernel_rfl) (fun _ _ _ h => h) (Or.inl ⟨by rfl, ?_⟩) ?_ ?_
      rotate_left
      · intro w'
        go_simp
        with_reducible rfl
      rotate_left
      · simp only [Act.put, List.setIfInBounds_toArray, List.set_cons_zero, List.set_cons_succ, i64_w, i32_w]
        rfl
      refine pure_ (i := 6) (N := some 121) (v := ?_) (a' := ?_) #[true, false, true, false, false, false, true, false, false, false] rfl rfl (by kernel_rfl) (fun _ _ _ h => h) (Or.inl ⟨by rfl, ?_⟩) ?_ ?_
      rotate_left
      · intro w'
        go_simp
        with_reducible rfl
      rotate_left
      · simp only [Act.put, List.setIfInBounds_toArray, List.set_cons_zero, List.set_cons_succ, i64_w, i32_w]
        rfl
      refine take_ (i := 1) (N := some 116) (v := ?_) (a' := ?_) #[true, true, true, false, false, false, true, false, false, false] rfl rfl (by kernel_rfl) (fun _ _ _ h => h) (Or.inl ⟨by rfl, ?_⟩) hHeld ?_ ?_
      rotate_left
      · rintro w' ⟨s0, s1, s2, s3⟩
        go_simp
        with_reducible rfl
      rotate_left
      · simp only [Act.put, List.setIfInBounds_toArray, List.set_cons_zero, List.set_cons_succ, i64_w, i32_w]
        rfl
      refine pure_ (i := 3) (N := some 118) (v := ?_) (a' := ?_) #[true, true, true, true, false, false, true, false, false, false] rfl rfl (by kernel_rfl) (fun _ _ _ h => h) (Or.inl ⟨by rfl, ?_⟩) ?_ ?_
      rotate_left
      · intro w'
        go_simp
        with_reducible rfl
      rotate_left
      · simp only [Act.put, List.setIfInBounds_toArray, List.set_cons_zero, List.set_cons_succ, i64_w, i32_w]
        rfl
      refine pure_ (i := 4) (N := some 119) (v := ?_) (a' := ?_) #[true, true, true, true, true, false, true, false, false, false] rfl rfl (by kernel_rfl) (fun _ _ _ h => h) (Or.inl ⟨by rfl, ?_⟩) ?_ ?_
      rotate_left
      · intro w'
        go_simp
        with_reducible rfl
      rotate_left
      · simp only [Act.put, List.setIfInBounds_toArray, List.set_cons_zero, List.set_cons_succ, i64_w, i32_w]
        rfl
      refine take_ (i := 5) (N := some 120) (v := ?_) (a' := ?_) #[true, true, true, true, true, true, true, false, false, false] rfl rfl (by kernel_rfl) (fun _ _ _ h => h) (Or.inl ⟨by rfl, ?_⟩) hHeld ?_ ?_
      rotate_left
      · rintro w' ⟨s0, s1, s2, s3⟩
        go_simp
        with_reducible rfl
      rotate_left
      · simp only [Act.put, List.setIfInBounds_toArray, List.set_cons_zero, List.set_cons_succ, i64_w, i32_w]
        rfl
      refine take_ (i := 7) (N := some 122) (v := ?_) (a' := ?_) #[true, true, true, true, true, true, true, true, false, false] rfl rfl (by kernel_rfl) (fun _ _ _ h => h) (Or.inl ⟨by rfl, ?_⟩) hHeld ?_ ?_
      rotate_left
      · rintro w' ⟨s0, s1, s2, s3⟩
        go_simp
        with_reducible rfl
      rotate_left
      · simp only [Act.put, List.setIfInBounds_toArray, List.set_cons_zero, List.set_cons_succ, i64_w, i32_w]
        rfl
      refine pure_ (i := 8) (N := some 123) (v := ?_) (a' := ?_) #[true, true, true, true, true, true, true, true, true, false] rfl rfl (by kernel_rfl) (fun _ _ _ h => h) (Or.inl ⟨by rfl, ?_⟩) ?_ ?_
      rotate_left
      · intro w'
        go_simp
        with_reducible rfl
      rotate_left
      · simp only [Act.put, List.setIfInBounds_toArray, List.set_cons_zero, List.set_cons_succ, i64_w, i32_w]
        rfl
      refine last_ (i := 9) (N := none) #[true, true, true, true, true, true, true, true, true, true] rfl rfl (by kernel_rfl) (by decide) (fun K hK => ?_)
      refine skip_ (w1 := ?_) (by rfl) rfl ?_ ?_
      rotate_left
      · go_simp
        rfl
      refine hK.out _ _ ?_
      clear hK K
      refine done_ (by kernel_rfl) ?_
      (try simp only [Act.put, List.setIfInBounds_toArray, List.set_cons_zero, List.set_cons_succ])
      clear hHeld
      generalize hW : World.drew (World.setCell (World.setCell _ _ _) _ _) = Wz
      have hs4 : Aside0 (Chg (fun b => b = gI) Wh Wz) := ⟨by rw [← hW]; exact Chg.drew (((Chg.refl (fun b => b = gI) Wh).setCell (p := ⟨gI, pc * 2, none⟩) (fun _ => rfl) (.int .i64 x.op)).setCell (p := ⟨gI, pc * 2 + 1, none⟩) (fun _ => rfl) (.int .i64 x.a))⟩
      have hownz : Aside0 (POwn Wz wc.heap.size (vA, p.consts.length, vK) (some ⟨gF, 0, none⟩, p.funcs.length, uK) ⟨p.consts, p.funcs.set k ⟨f.name, f.pars, f.locs, f.code.set pc x, f.hnd⟩⟩ rs') := ⟨by rw [← hW]; exact POwn.new (hown3.out.hitI (f' := ⟨f.name, f.pars, f.locs, f.code.set pc x, f.hnd⟩) hap.out hrA.out hfA.out rfl (((Chg.refl (fun b => b = gI) Wh).setCell (p := ⟨gI, pc * 2, none⟩) (fun _ => rfl) (.int .i64 x.op)).setCell (p := ⟨gI, pc * 2 + 1, none⟩) (fun _ => rfl) (.int .i64 x.a)) ⟨rfl, rfl, rfl, rfl⟩ (fun ho => oq_putI ho hy.out x)) ((Chg.refl _ _).drew)⟩
      obtain ⟨p3, hp3e⟩ : ∃ p3 : QP, p3 = ⟨p.consts, p.funcs.set k ⟨f.name, f.pars, f.locs, f.code.set pc x, f.hnd⟩⟩ := ⟨_, rfl⟩
      rw [← hp3e] at hownz
      have hp3 : Aside0 (checkP chkP p3 = (((k : Int), (pc : Int)), 7)) := ⟨by rw [hp3e, ← he.out]; exact code_bad hfit.out hfA.out hpc (by rw [he.out]; decide)⟩
      have hwf3 : Aside0 (PWf p3) := ⟨by rw [hp3e]; exact wf_setF hwA.out ⟨hsz.out.1, by simp only [List.length_set]; exact hsz.out.2.1, hsz.out.2.2⟩⟩
      obtain ⟨hv9, hu9, hpv⟩ := hownz.out.view
      simp only at hv9 hu9 hpv
      have hpvZ := Aside0.mk hpv
      replace B3 := Aside0.mk (hs4.out.blk B3.out (fun e => hgI.out.2.2.2 e.symm))
      clear q1 x3 g0 g1 y0 y1 z0 z1 hpv hp3e hW
      have q0 : Wz.cell? ⟨wd.heap.size, 0, none⟩ = some (.slice vA p.consts.length vK) := blk_cell B3.out 0
      have q1 : Wz.cell? ⟨wd.heap.size, 1, none⟩ = some (.slice (some ⟨gF, 0, none⟩) p.funcs.length uK) := blk_cell B3.out 1
      rw [hv9] at q0
      rw [hu9] at q1
      have hzz : Aside0 (Chg (fun _ => False) w Wz) := ⟨(hzh.out.trans hs.out (fun b hb e => by have := hlo.out; have := hlo2.out; omega)).trans hs4.out (fun b hb e => by subst e; have := hgI.out.1; have := hlo.out; omega)⟩
      have hEz : Aside0 (Wz.cell? ⟨0, 0, none⟩ = some (.iface 114 (.agg #[.pointer (some ⟨2, 68, none⟩)]))) := ⟨cell_chg0 hEA.out hzz.out⟩
      clear hv9 hu9 hs hs4 hownz hown3 hzh
      go_wp2_with (go_at_call 16; go_must (refine (law_found Wz vA (some ⟨gF, 0, none⟩) vK uK p3 rs' (k : Int) (pc : Int) 7 hpvZ.out hwf3.out hEz.out hp3.out).mono ?_); go_must (rintro e wk ⟨rfl, hwk⟩); go_must (replace hwk := Aside0.mk hwk))
      go_ret
      exact ⟨rfl, hzz.out.trans hwk.out (fun _ _ h => h)⟩
    · have hb : ((p.funcs.length : Int) == 128) = false := by simpa using h9
      have he : Aside0 (instrP chkP p f x = 8) := ⟨by rw [hx.out, bad_func hfit.out.mf, if_neg h9]⟩
      clear h9
      go_upto_region 25 with (fail)
      (try simp only [Act.put, List.setIfInBounds_toArray, List.set_cons_zero, List.set_cons_succ])
      clear p0 p1 g2 hb g0' g1'
      have q1 : Wh.cell? ⟨wd.heap.size, 1, none⟩ = some (.slice (some ⟨gF, 0, none⟩) p.funcs.length uK) := blk_cell B3.out 1
      have g0 : Wh.cell? ⟨We.heap.size, 0, none⟩ = some (.int .i64 x.op) := by rw [hx.out]; exact blk_cell B5.out 0
      have g1 : Wh.cell? ⟨We.heap.size, 1, none⟩ = some (.int .i64 x.a) := by rw [hx.out]; exact blk_cell B5.out 1
      obtain ⟨_, _, _, x3, x4⟩ := raw_ownC hown3.out.fs.toC k hkl hrA.out
      clear x4
      (try simp only at x3)
      obtain ⟨_, _, _, hoi, _⟩ := hown3.out.fn.2 k _ f hrA.out hfA.out
      obtain ⟨ya, yb, hy9, y0, y1⟩ := kQI_own hoi.toC pc hpc
      obtain ⟨cu3, hcu3⟩ := Kd.R_typed hoi.1 gI rfl
      have z0 := blk_frozen hcu3 (pc * 2)
      have z1 := blk_frozen hcu3 (pc * 2 + 1)
      have hy := Aside0.mk hy9
      clear hcu3 hoi hy9
      have hk0 : (0 : Int) ≤ k := by omega
      have hk1 : (k : Int) < p.funcs.length := by omega
      have hj0 : (0 : Int) ≤ pc := by omega
      have hj1 : (pc : Int) < f.code.length := by omega
      refine start_ (n := 10) (S := fun w' => w'.cell? ⟨wd.heap.size, 1, none⟩ = some (.slice (some ⟨gF, 0, none⟩) p.funcs.length uK) ∧ w'.cell? ⟨gF, k * 5 + 3, none⟩ = some (.slice (some ⟨gI, 0, none⟩) f.code.length iC) ∧ w'.cell? ⟨We.heap.size, 0, none⟩ = some (.int .i64 x.op) ∧ w'.cell? ⟨We.heap.size, 1, none⟩ = some (.int .i64 x.a)) (ds := [9]) #[false, false, false, false, false, false, false, false, false, false] (by kernel_rfl) rfl rfl ⟨q1, x3, g0, g1⟩ (fun hHeld => ?_)
      refine pure_ (i := 0) (N := some 115) (v := ?_) (a' := ?_) #[true, false, false, false, false, false, false, false, false, false] rfl rfl (by kernel_rfl) (fun _ _ _ h => h) (Or.inl ⟨by rfl, ?_⟩) ?_ ?_
      rotate_left
      · intro w'
        go_simp
        with_reducible rfl
      rotate_left
      · simp only [Act.put, List.setIfInBounds_toArray, List.set_cons_zero, List.set_cons_succ, i64_w, i32_w]
        rfl
      refine pure_ (i := 2) (N := some 117) (v := ?_) (a' := ?_) #[true, false, true, false, false, false, false, false, false, false] rfl rfl (by kernel_rfl) (fun _ _ _ h => h) (Or.inl ⟨by rfl, ?_⟩) ?_ ?_
      rotate_left
      · intro w'
        go_simp
        with_reducible rfl
      rotate_left
      · simp only [Act.put, List.setIfInBounds_toArray, List.set_cons_zero, List.set_cons_succ, i64_w, i32_w]
        rfl
      refine pure_ (i := 6) (N := some 121) (v := ?_) (a' := ?_) #[true, false, true, false, false, false, true, false, false, false] rfl rfl (by kernel_rfl) (fun _ _ _ h => h) (Or.inl ⟨by rfl, ?_⟩) ?_ ?_
      rotate_left
      · intro w'
        go_simp
        with_reducible rfl
      rotate_left
      · simp only [Act.put, List.setIfInBounds_toArray, List.set_cons_zero, List.set_cons_succ, i64_w, i32_w]
        rfl
      refine take_ (i := 1) (N := some 116) (v := ?_) (a' := ?_) #[true, true, true, false, false, false, true, false, false, false] rfl rfl (by kernel_rfl) (fun _ _ _ h => h) (Or.inl ⟨by rfl, ?_⟩) hHeld ?_ ?_
      rotate_left
      · rintro w' ⟨s0, s1, s2, s3⟩
        go_simp
        with_reducible rfl
      rotate_left
      · simp only [Act.put, List.setIfInBounds_toArray, List.set_cons_zero, List.set_cons_succ, i64_w, i32_w]
        rfl
      refine pure_ (i := 3) (N := some 118) (v := ?_) (a' := ?_) #[true, true, true, true, false, false, true, false, false, false] rfl rfl (by kernel_rfl) (fun _ _ _ h => h) (Or.inl ⟨by rfl, ?_⟩) ?_ ?_
      rotate_left
      · intro w'
        go_simp
        with_reducible rfl
      rotate_left
      · simp only [Act.put, List.setIfInBounds_toArray, List.set_cons_zero, List.set_cons_succ, i64_w, i32_w]
        rfl
      refine pure_ (i := 4) (N := some 119) (v := ?_) (a' := ?_) #[true, true, true, true, true, false, true, false, false, false] rfl rfl (by kernel_rfl) (fun _ _ _ h => h) (Or.inl ⟨by rfl, ?_⟩) ?_ ?_
      rotate_left
      · intro w'
        go_simp
        with_reducible rfl
      rotate_left
      · simp only [Act.put, List.setIfInBounds_toArray, List.set_cons_zero, List.set_cons_succ, i64_w, i32_w]
        rfl
      refine take_ (i := 5) (N := some 120) (v := ?_) (a' := ?_) #[true, true, true, true, true, true, true, false, false, false] rfl rfl (by kernel_rfl) (fun _ _ _ h => h) (Or.inl ⟨by rfl, ?_⟩) hHeld ?_ ?_
      rotate_left
      · rintro w' ⟨s0, s1, s2, s3⟩
        go_simp
        with_reducible rfl
      rotate_left
      · simp only [Act.put, List.setIfInBounds_toArray, List.set_cons_zero, List.set_cons_succ, i64_w, i32_w]
        rfl
      refine take_ (i := 7) (N := some 122) (v := ?_) (a' := ?_) #[true, true, true, true, true, true, true, true, false, false] rfl rfl (by kernel_rfl) (fun _ _ _ h => h) (Or.inl ⟨by rfl, ?_⟩) hHeld ?_ ?_
      rotate_left
      · rintro w' ⟨s0, s1, s2, s3⟩
        go_simp
        with_reducible rfl
      rotate_left
      · simp only [Act.put, List.setIfInBounds_toArray, List.set_cons_zero, List.set_cons_succ, i64_w, i32_w]
        rfl
      refine pure_ (i := 8) (N := some 123) (v := ?_) (a' := ?_) #[true, true, true, true, true, true, true, true, true, false] rfl rfl (by kernel_rfl) (fun _ _ _ h => h) (Or.inl ⟨by rfl, ?_⟩) ?_ ?_
      rotate_left
      · intro w'
        go_simp
        with_reducible rfl
      rotate_left
      · simp only [Act.put, List.setIfInBounds_toArray, List.set_cons_zero, List.set_cons_succ, i64_w, i32_w]
        rfl
      refine last_ (i := 9) (N := none) #[true, true, true, true, true, true, true, true, true, true] rfl rfl (by kernel_rfl) (by decide) (fun K hK => ?_)
      refine skip_ (w1 := ?_) (by rfl) rfl ?_ ?_
      rotate_left
      · go_simp
        rfl
      refine hK.out _ _ ?_
      clear hK K
      refine done_ (by kernel_rfl) ?_
      (try simp only [Act.put, List.setIfInBounds_toArray, List.set_cons_zero, List.set_cons_succ])
      clear hHeld
      generalize hW : World.drew (World.setCell (World.setCell _ _ _) _ _) = Wz
      have hs4 : Aside0 (Chg (fun b => b = gI) Wh Wz) := ⟨by rw [← hW]; exact Chg.drew (((Chg.refl (fun b => b = gI) Wh).setCell (p := ⟨gI, pc * 2, none⟩) (fun _ => rfl) (.int .i64 x.op)).setCell (p := ⟨gI, pc * 2 + 1, none⟩) (fun _ => rfl) (.int .i64 x.a))⟩
      have hownz : Aside0 (POwn Wz wc.heap.size (vA, p.consts.length, vK) (some ⟨gF, 0, none⟩, p.funcs.length, uK) ⟨p.consts, p.funcs.set k ⟨f.name, f.pars, f.locs, f.code.set pc x, f.hnd⟩⟩ rs') := ⟨by rw [← hW]; exact POwn.new (hown3.out.hitI (f' := ⟨f.name, f.pars, f.locs, f.code.set pc x, f.hnd⟩) hap.out hrA.out hfA.out rfl (((Chg.refl (fun b => b = gI) Wh).setCell (p := ⟨gI, pc * 2, none⟩) (fun _ => rfl) (.int .i64 x.op)).setCell (p := ⟨gI, pc * 2 + 1, none⟩) (fun _ => rfl) (.int .i64 x.a)) ⟨rfl, rfl, rfl, rfl⟩ (fun ho => oq_putI ho hy.out x)) ((Chg.refl _ _).drew)⟩
      obtain ⟨p3, hp3e⟩ : ∃ p3 : QP, p3 = ⟨p.consts, p.funcs.set k ⟨f.name, f.pars, f.locs, f.code.set pc x, f.hnd⟩⟩ := ⟨_, rfl⟩
      rw [← hp3e] at hownz
      have hp3 : Aside0 (checkP chkP p3 = (((k : Int), (pc : Int)), 8)) := ⟨by rw [hp3e, ← he.out]; exact code_bad hfit.out hfA.out hpc (by rw [he.out]; decide)⟩
      have hwf3 : Aside0 (PWf p3) := ⟨by rw [hp3e]; exact wf_setF hwA.out ⟨hsz.out.1, by simp only [List.length_set]; exact hsz.out.2.1, hsz.out.2.2⟩⟩
      obtain ⟨hv9, hu9, hpv⟩ := hownz.out.view
      simp only at hv9 hu9 hpv
      have hpvZ := Aside0.mk hpv
      replace B3 := Aside0.mk (hs4.out.blk B3.out (fun e => hgI.out.2.2.2 e.symm))
      clear q1 x3 g0 g1 y0 y1 z0 z1 hpv hp3e hW
      have q0 : Wz.cell? ⟨wd.heap.size, 0, none⟩ = some (.slice vA p.consts.length vK) := blk_cell B3.out 0
      have q1 : Wz.cell? ⟨wd.heap.size, 1, none⟩ = some (.slice (some ⟨gF, 0, none⟩) p.funcs.length uK) := blk_cell B3.out 1
      rw [hv9] at q0
      rw [hu9] at q1
      have hzz : Aside0 (Chg (fun _ => False) w Wz) := ⟨(hzh.out.trans hs.out (fun b hb e => by have := hlo.out; have := hlo2.out; omega)).trans hs4.out (fun b hb e => by subst e; have := hgI.out.1; have := hlo.out; omega)⟩
      have hEz : Aside0 (Wz.cell? ⟨0, 0, none⟩ = some (.iface 114 (.agg #[.pointer (some ⟨2, 68, none⟩)]))) := ⟨cell_chg0 hEA.out hzz.out⟩
      clear hv9 hu9 hs hs4 hownz hown3 hzh
      go_wp2_with (go_at_call 16; go_must (refine (law_found Wz vA (some ⟨gF, 0, none⟩) vK uK p3 rs' (k : Int) (pc : Int) 8 hpvZ.out hwf3.out hEz.out hp3.out).mono ?_); go_must (rintro e wk ⟨rfl, hwk⟩); go_must (replace hwk := Aside0.mk hwk))
      go_ret
      exact ⟨rfl, hzz.out.trans hwk.out (fun _ _ h => h)⟩
  · subst hm0
    go_upto_region 23 with (go_at_call 17; go_must (refine (hpick.out _).mono ?_); go_must (rintro e wn ⟨rfl, hwn⟩); go_must (subst wn))
    (try simp only [Act.put, List.setIfInBounds_toArray, List.set_cons_zero, List.set_cons_succ])
    generalize hW : World.setCell (World.setCell Wf _ _) _ _ = Wh
    have hs : Aside0 (Chg (fun b => b = We.heap.size) Wf Wh) := ⟨by rw [← hW]; exact ((Chg.refl (fun b => b = We.heap.size) Wf).setCell (p := ⟨We.heap.size, 0, none⟩) (fun _ => rfl) _).setCell (p := ⟨We.heap.size, 1, none⟩) (fun _ => rfl) _⟩
    have hown3 : Aside0 (POwn Wh wc.heap.size (vA, p.consts.length, vK) (some ⟨gF, 0, none⟩, p.funcs.length, uK) p rs') := ⟨hown.out.hitIB B5.out hs.out hnb.out⟩
    replace B5 : Aside0 (Wh.heap[We.heap.size]? = some (.cells #[.int .i64 0, .int .i64 1] 50 (0, 0))) := ⟨by rw [← hW]; exact blk_set (blk_set B5.out 0 _) 1 _⟩
    replace B1 := Aside0.mk (hs.out.blk B1.out (by have := hlo.out; have := hlo2.out; omega))
    replace B3 := Aside0.mk (hs.out.blk B3.out (by have := hlo.out; have := hlo2.out; omega))
    replace B4 := Aside0.mk (hs.out.blk B4.out (by have := hlo2.out; omega))
    clear q0 q1 p0 p1 g2 t0 t1 u0 u1 hW hown hpick
    obtain ⟨x, hx9⟩ : ∃ x : QI, x = ⟨0, 1⟩ := ⟨_, rfl⟩
    have hx := Aside0.mk hx9
    clear hx9
    have p0 : Wh.cell? ⟨w.heap.size, 0, none⟩ = some (.slice cA p.consts.length cc) := blk_cell B1.out 0
    have p1 : Wh.cell? ⟨w.heap.size, 1, none⟩ = some (.slice (some fd) p.funcs.length fc) := blk_cell B1.out 1
    have g2 : Wh.cell? ⟨Wd.heap.size, 2, none⟩ = some (.int .i64 f.locs) := blk_cell B4.out 2
    have g0' : Wh.cell? ⟨We.heap.size, 0, none⟩ = some (.int .i64 0) := blk_cell B5.out 0
    have g1' : Wh.cell? ⟨We.heap.size, 1, none⟩ = some (.int .i64 1) := blk_cell B5.out 1
    have hb : True := trivial
    have he : Aside0 (instrP chkP p f x = 7) := ⟨by rw [hx.out]; exact bad_nop⟩
    go_upto_region 25 with (fail)
    (try simp only [Act.put, List.setIfInBounds_toArray, List.set_cons_zero, List.set_cons_succ])
    clear p0 p1 g2 hb g0' g1'
    have q1 : Wh.cell? ⟨wd.heap.size, 1, none⟩ = some (.slice (some ⟨gF, 0, none⟩) p.funcs.length uK) := blk_cell B3.out 1
    have g0 : Wh.cell? ⟨We.heap.size, 0, none⟩ = some (.int .i64 x.op) := by rw [hx.out]; exact blk_cell B5.out 0
    have g1 : Wh.cell? ⟨We.heap.size, 1, none⟩ = some (.int .i64 x.a) := by rw [hx.out]; exact blk_cell B5.out 1
    obtain ⟨_, _, _, x3, x4⟩ := raw_ownC hown3.out.fs.toC k hkl hrA.out
    clear x4
    (try simp only at x3)
    obtain ⟨_, _, _, hoi, _⟩ := hown3.out.fn.2 k _ f hrA.out hfA.out
    obtain ⟨ya, yb, hy9, y0, y1⟩ := kQI_own hoi.toC pc hpc
    obtain ⟨cu3, hcu3⟩ := Kd.R_typed hoi.1 gI rfl
    have z0 := blk_frozen hcu3 (pc * 2)
    have z1 := blk_frozen hcu3 (pc * 2 + 1)
    have hy := Aside0.mk hy9
    clear hcu3 hoi hy9
    have hk0 : (0 : Int) ≤ k := by omega
    have hk1 : (k : Int) < p.funcs.length := by omega
    have hj0 : (0 : Int) ≤ pc := by omega
    have hj1 : (pc : Int) < f.code.length := by omega
    refine start_ (n := 10) (S := fun w' => w'.cell? ⟨wd.heap.size, 1, none⟩ = some (.slice (some ⟨gF, 0, none⟩) p.funcs.length uK) ∧ w'.cell? ⟨gF, k * 5 + 3, none⟩ = some (.slice (some ⟨gI, 0, none⟩) f.code.length iC) ∧ w'.cell? ⟨We.heap.size, 0, none⟩ = some (.int .i64 x.op) ∧ w'.cell? ⟨We.heap.size, 1, none⟩ = some (.int .i64 x.a)) (ds := [9]) #[false, false, false, false, false, false, false, false, false, false] (by kernel_rfl) rfl rfl ⟨q1, x3, g0, g1⟩ (fun hHeld => ?_)
    refine pure_ (i := 0) (N := some 115) (v := ?_) (a' := ?_) #[true, false, false, false, false, false, false, false, false, false] rfl rfl (by kernel_rfl) (fun _ _ _ h => h) (Or.inl ⟨by rfl, ?_⟩) ?_ ?_
    rotate_left
    · intro w'
      go_simp
      with_reducible rfl
    rotate_left
    · simp only [Act.put, List.setIfInBounds_toArray, List.set_cons_zero, List.set_cons_succ, i64_w, i32_w]
      rfl
    refine pure_ (i := 2) (N := some 117) (v := ?_) (a' := ?_) #[true, false, true, false, false, false, false, false, false, false] rfl rfl (by kernel_rfl) (fun _ _ _ h => h) (Or.inl ⟨by rfl, ?_⟩) ?_ ?_
    rotate_left
    · intro w'
      go_simp
      with_reducible rfl
    rotate_left
    · simp only [Act.put, List.setIfInBounds_toArray, List.set_cons_zero, List.set_cons_succ, i64_w, i32_w]
      rfl
    refine pure_ (i := 6) (N := some 121) (v := ?_) (a' := ?_) #[true, false, true, false, false, false, true, false, false, false] rfl rfl (by kernel_rfl) (fun _ _ _ h => h) (Or.inl ⟨by rfl, ?_⟩) ?_ ?_
    rotate_left
    · intro w'
      go_simp
      with_reducible rfl
    rotate_left
    · simp only [Act.put, List.setIfInBounds_toArray, List.set_cons_zero, List.set_cons_succ, i64_w, i32_w]
      rfl
    refine take_ (i := 1) (N := some 116) (v := ?_) (a' := ?_) #[true, true, true, false, false, false, true, false, false, false] rfl rfl (by kernel_rfl) (fun _ _ _ h => h) (Or.inl ⟨by rfl, ?_⟩) hHeld ?_ ?_
    rotate_left
    · rintro w' ⟨s0, s1, s2, s3⟩
      go_simp
      with_reducible rfl
    rotate_left
    · simp only [Act.put, List.setIfInBounds_toArray, List.set_cons_zero, List.set_cons_succ, i64_w, i32_w]
      rfl
    refine pure_ (i := 3) (N := some 118) (v := ?_) (a' := ?_) #[true, true, true, true, false, false, true, false, false, false] rfl rfl (by kernel_rfl) (fun _ _ _ h => h) (Or.inl ⟨by rfl, ?_⟩) ?_ ?_
    rotate_left
    · intro w'
      go_simp
      with_reducible rfl
    rotate_left
    · simp only [Act.put, List.setIfInBounds_toArray, List.set_cons_zero, List.set_cons_succ, i64_w, i32_w]
      rfl
    refine pure_ (i := 4) (N := some 119) (v := ?_) (a' := ?_) #[true, true, true, true, true, false, true, false, false, false] rfl rfl (by kernel_rfl) (fun _ _ _ h => h) (Or.inl ⟨by rfl, ?_⟩) ?_ ?_
    rotate_left
    · intro w'
      go_simp
      with_reducible rfl
    rotate_left
    · simp only [Act.put, List.setIfInBounds_toArray, List.set_cons_zero, List.set_cons_succ, i64_w, i32_w]
      rfl
    refine take_ (i := 5) (N := some 120) (v := ?_) (a' := ?_) #[true, true, true, true, true, true, true, false, false, false] rfl rfl (by kernel_rfl) (fun _ _ _ h => h) (Or.inl ⟨by rfl, ?_⟩) hHeld ?_ ?_
    rotate_left
    · rintro w' ⟨s0, s1, s2, s3⟩
      go_simp
      with_reducible rfl
    rotate_left
    · simp only [Act.put, List.setIfInBounds_toArray, List.set_cons_zero, List.set_cons_succ, i64_w, i32_w]
      rfl
    refine take_ (i := 7) (N := some 122) (v := ?_) (a' := ?_) #[true, true, true, true, true, true, true, true, false, false] rfl rfl (by kernel_rfl) (fun _ _ _ h => h) (Or.inl ⟨by rfl, ?_⟩) hHeld ?_ ?_
    rotate_left
    · rintro w' ⟨s0, s1, s2, s3⟩
      go_simp
      with_reducible rfl
    rotate_left
    · simp only [Act.put, List.setIfInBounds_toArray, List.set_cons_zero, List.set_cons_succ, i64_w, i32_w]
      rfl
    refine pure_ (i := 8) (N := some 123) (v := ?_) (a' := ?_) #[true, true, true, true, true, true, true, true, true, false] rfl rfl (by kernel_rfl) (fun _ _ _ h => h) (Or.inl ⟨by rfl, ?_⟩) ?_ ?_
    rotate_left
    · intro w'
      go_simp
      with_reducible rfl
    rotate_left
    · simp only [Act.put, List.setIfInBounds_toArray, List.set_cons_zero, List.set_cons_succ, i64_w, i32_w]
      rfl
    refine last_ (i := 9) (N := none) #[true, true, true, true, true, true, true, true, true, true] rfl rfl (by kernel_rfl) (by decide) (fun K hK => ?_)
    refine skip_ (w1 := ?_) (by rfl) rfl ?_ ?_
    rotate_left
    · go_simp
      rfl
    refine hK.out _ _ ?_
    clear hK K
    refine done_ (by kernel_rfl) ?_
    (try simp only [Act.put, List.setIfInBounds_toArray, List.set_cons_zero, List.set_cons_succ])
    clear hHeld
    generalize hW : World.drew (World.setCell (World.setCell _ _ _) _ _) = Wz
    have hs4 : Aside0 (Chg (fun b => b = gI) Wh Wz) := ⟨by rw [← hW]; exact Chg.drew (((Chg.refl (fun b => b = gI) Wh).setCell (p := ⟨gI, pc * 2, none⟩) (fun _ => rfl) (.int .i64 x.op)).setCell (p := ⟨gI, pc * 2 + 1, none⟩) (fun _ => rfl) (.int .i64 x.a))⟩
    have hownz : Aside0 (POwn Wz wc.heap.size (vA, p.consts.length, vK) (some ⟨gF, 0, none⟩, p.funcs.length, uK) ⟨p.consts, p.funcs.set k ⟨f.name, f.pars, f.locs, f.code.set pc x, f.hnd⟩⟩ rs') := ⟨by rw [← hW]; exact POwn.new (hown3.out.hitI (f' := ⟨f.name, f.pars, f.locs, f.code.set pc x, f.hnd⟩) hap.out hrA.out hfA.out rfl (((Chg.refl (fun b => b = gI) Wh).setCell (p := ⟨gI, pc * 2, none⟩) (fun _ => rfl) (.int .i64 x.op)).setCell (p := ⟨gI, pc * 2 + 1, none⟩) (fun _ => rfl) (.int .i64 x.a)) ⟨rfl, rfl, rfl, rfl⟩ (fun ho => oq_putI ho hy.out x)) ((Chg.refl _ _).drew)⟩
    obtain ⟨p3, hp3e⟩ : ∃ p3 : QP, p3 = ⟨p.consts, p.funcs.set k ⟨f.name, f.pars, f.locs, f.code.set pc x, f.hnd⟩⟩ := ⟨_, rfl⟩
    rw [← hp3e] at hownz
    have hp3 : Aside0 (checkP chkP p3 = (((k : Int), (pc : Int)), 7)) := ⟨by rw [hp3e, ← he.out]; exact code_bad hfit.out hfA.out hpc (by rw [he.out]; decide)⟩
    have hwf3 : Aside0 (PWf p3) := ⟨by rw [hp3e]; exact wf_setF hwA.out ⟨hsz.out.1, by simp only [List.length_set]; exact hsz.out.2.1, hsz.out.2.2⟩⟩
    obtain ⟨hv9, hu9, hpv⟩ := hownz.out.view
    simp only at hv9 hu9 hpv
    have hpvZ := Aside0.mk hpv
    replace B3 := Aside0.mk (hs4.out.blk B3.out (fun e => hgI.out.2.2.2 e.symm))
    clear q1 x3 g0 g1 y0 y1 z0 z1 hpv hp3e hW
    have q0 : Wz.cell? ⟨wd.heap.size, 0, none⟩ = some (.slice vA p.consts.length vK) := blk_cell B3.out 0
    have q1 : Wz.cell? ⟨wd.heap.size, 1, none⟩ = some (.slice (some ⟨gF, 0, none⟩) p.funcs.length uK) := blk_cell B3.out 1
    rw [hv9] at q0
    rw [hu9] at q1
    have hzz : Aside0 (Chg (fun _ => False) w Wz) := ⟨(hzh.out.trans hs.out (fun b hb e => by have := hlo.out; have := hlo2.out; omega)).trans hs4.out (fun b hb e => by subst e; have := hgI.out.1; have := hlo.out; omega)⟩
    have hEz : Aside0 (Wz.cell? ⟨0, 0, none⟩ = some (.iface 114 (.agg #[.pointer (some ⟨2, 68, none⟩)]))) := ⟨cell_chg0 hEA.out hzz.out⟩
    clear hv9 hu9 hs hs4 hownz hown3 hzh
    go_wp2_with (go_at_call 16; go_must (refine (law_found Wz vA (some ⟨gF, 0, none⟩) vK uK p3 rs' (k : Int) (pc : Int) 7 hpvZ.out hwf3.out hEz.out hp3.out).mono ?_); go_must (rintro e wk ⟨rfl, hwk⟩); go_must (replace hwk := Aside0.mk hwk))
    go_ret
    exact ⟨rfl, hzz.out.trans hwk.out (fun _ _ h => h)⟩
  · subst hm0
    go_wp2_with (first | (go_at_call 17; go_must (refine (hpick.out _).mono ?_); go_must (rintro e wn ⟨rfl, hwn⟩); go_must (subst wn)) | (go_at_call 18; go_must (refine (law_handlerFound Wf vA gF vK uK wc.heap.size p rs' k how hown.out hap.out hwA.out hfit.out hkl hh'.out (by have := hlo.out; omega) (by have := hlo.out; have := hlo2.out; have := hlo4.out; omega) (cell_chg0 hEA.out hzh.out)).mono ?_); go_must (rintro e wk ⟨rfl, hwk⟩); go_must (replace hwk := Aside0.mk hwk)))
    go_ret
    exact ⟨rfl, hzh.out.trans hwk.out (fun b hb e => by have := hlo.out; omega)⟩
  · subst hm0
    go_wp2_with (first | (go_at_call 17; go_must (refine (hpick.out _).mono ?_); go_must (rintro e wn ⟨rfl, hwn⟩); go_must (subst wn)) | (go_at_call 18; go_must (refine (law_handlerFound Wf vA gF vK uK wc.heap.size p rs' k how hown.out hap.out hwA.out hfit.out hkl hh'.out (by have := hlo.out; omega) (by have := hlo.out; have := hlo2.out; have := hlo4.out; omega) (cell_chg0 hEA.out hzh.out)).mono ?_); go_must (rintro e wk ⟨rfl, hwk⟩); go_must (replace hwk := Aside0.mk hwk)))
    go_ret
    exact ⟨rfl, hzh.out.trans hwk.out (fun b hb e => by have := hlo.out; omega)⟩
end Go.Proofs.YtgaackedappmgaaDoor.K
