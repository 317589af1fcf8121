import Derived.Test.YtgaackedappmgaaDoorGv
import Derived.IntWalk
import Derived.BigQuiet
namespace Go.Proofs.YtgaackedappmgaaDoor.K
open Go.RowKit Go.Proofs.YtgaackedappmgaaDoorW.PrintWords Go.Proofs.YtgaackedappmgaaDoorW.PrintLast Go.Proofs.YtgaackedappmgaaDoorW.PrintMore
set_option linter.unusedVariables false
set_option linter.unusedSimpArgs false
set_option maxRecDepth 100000
theorem size_al1 (w : World) (o : Obj) : (w.alloc o).heap.size = w.heap.size + 1 := by show (Array.push _ _).size = _; rw [Array.size_push]
theorem or3K {a b c G : Prop} (h : a ∨ b ∨ c) (h1 : a → G) (h2 : b → G) (h3 : c → G) : G := h.elim h1 (fun h => h.elim h2 h3)
theorem or4K {a b c d G : Prop} (h : a ∨ b ∨ c ∨ d) (h1 : a → G) (h2 : b → G) (h3 : c → G) (h4 : d → G) : G := h.elim h1 (fun h => h.elim h2 (fun h => h.elim h3 h4))
set_option maxHeartbeats 16000000
theorem law_programGrows (w : World) (cA fA : Option Addr) (cc fc : Nat) (p : QP) (rs : List QR) (i : Int) (nm0 : ByteArray) (c00 : QC) (hP : PV w cA fA p rs) (hw : PWf p) (hi : (Lit.int .i64 i).wf = true) (hnm0 : nm0.size ≤ 140737488351232) (hc00 : CWf c00) (hE : w.cell? ⟨0, 0, none⟩ = some (.iface 114 (.agg #[.pointer (some ⟨2, 68, none⟩)]))) :
    Calls Tryd.prog 7 #[.agg #[.slice cA p.consts.length cc, .slice fA p.funcs.length fc], .agg #[.int .i64 i, .string nm0, .int .i64 c00.kind, .int .i64 c00.n, .string c00.text]] w fun e w' => e = .returned (.bool true) ∧ Chg (fun _ => False) w w' := by
  obtain ⟨c0, hc0e⟩ : ∃ c0 : QC, c0 = c00 := ⟨_, rfl⟩
  obtain ⟨nm, hnme⟩ : ∃ nm : ByteArray, nm = nm0 := ⟨_, rfl⟩
  subst hc0e hnme
  have hcw := Aside0.mk hc00
  have hnm := Aside0.mk hnm0
  clear hc00 hnm0
  have hPA := Aside0.mk hP
  have hwA := Aside0.mk hw
  have hEA := Aside0.mk hE
  have hcode : Aside0 (∀ f ∈ p.funcs, f.code.length ≤ 1048576 ∧ f.hnd.length ≤ 1048576) := ⟨fun f hf => (hw.sm.fs f hf).2⟩
  have hn := hw.sm.c
  have hm := hw.sm.f
  have hi' : Aside0 (-9223372036854775808 ≤ i ∧ i ≤ 9223372036854775807) := ⟨by simp [Lit.wf, IntKind.min, IntKind.max, IntKind.signed, IntKind.bits] at hi; exact hi⟩
  clear hP hw hi hE
  by_cases hft : ¬ (checkP chkP p).2 = 0
  · have hfb : Aside0 (((checkP chkP p).2 == 0) = false) := ⟨by simpa using hft⟩
    clear hft
    go_enter Tryd.func7, Tryd.ntmps7
    go_upto_region 1 with (fail)
    (try simp only [Act.put, List.setIfInBounds_toArray, List.set_cons_zero, List.set_cons_succ])
    generalize hW : World.alloc (World.alloc w _) _ = W0
    have B1 : Aside0 (W0.heap[w.heap.size]? = some (.cells #[.slice cA p.consts.length cc, .slice fA p.funcs.length fc] 25)) := ⟨by rw [← hW]; exact ((Chg.refl (fun _ => False) (w.alloc _)).alloc _).blk (heap_alloc_new w _) (fun e => e)⟩
    have B2 : Aside0 (W0.heap[w.heap.size + 1]? = some (.cells #[.int .i64 i, .string nm, .int .i64 c0.kind, .int .i64 c0.n, .string c0.text] 52)) := ⟨by rw [← hW]; exact heap_alloc2_new w _ _⟩
    have hz0 : Aside0 (Chg (fun _ => False) w W0) := ⟨by rw [← hW]; exact cg⟩
    clear hW
    have hlw : Aside0 (w.heap.size < W0.heap.size) := ⟨blk_lt B1.out⟩
    have b0 : W0.cell? ⟨w.heap.size + 1, 0, none⟩ = some (.int .i64 i) := blk_cell B2.out 0
    have b1 : W0.cell? ⟨w.heap.size + 1, 1, none⟩ = some (.string nm) := blk_cell B2.out 1
    have b2 : W0.cell? ⟨w.heap.size + 1, 2, none⟩ = some (.int .i64 c0.kind) := blk_cell B2.out 2
    have b3 : W0.cell? ⟨w.heap.size + 1, 3, none⟩ = some (.int .i64 c0.n) := blk_cell B2.out 3
    have b4 : W0.cell? ⟨w.heap.size + 1, 4, none⟩ = some (.string c0.text) := blk_cell B2.out 4
    go_upto_region 4 with (fail)
    (try simp only [Act.put, List.setIfInBounds_toArray, List.set_cons_zero, List.set_cons_succ])
    generalize hW : World.alloc W0 _ = W1
    have B3 : Aside0 (W1.heap[W0.heap.size]? = some (.cells #[.int .i64 c0.kind, .int .i64 c0.n, .string c0.text] 39)) := ⟨by rw [← hW]; exact heap_alloc_new W0 _⟩
    have hzb : Aside0 (Chg (fun _ => False) W0 W1) := ⟨by rw [← hW]; exact cg⟩
    clear hW
    clear b0 b1 b2 b3 b4 B2
    replace B1 := Aside0.mk (hzb.out.blk B1.out (fun h => h))
    replace hz0 := Aside0.mk (hz0.out.trans hzb.out (fun _ _ h => h))
    clear hzb
    have p0 : W1.cell? ⟨w.heap.size, 0, none⟩ = some (.slice cA p.consts.length cc) := blk_cell B1.out 0
    have p1 : W1.cell? ⟨w.heap.size, 1, none⟩ = some (.slice fA p.funcs.length fc) := blk_cell B1.out 1
    go_upto_region 5 with (go_at_call 15; go_must (refine (law_fits _ cA fA cc fc p rs false (hPA.out.below bl) hwA.out.sm hfb.out).mono ?_); go_must (rintro e wa ⟨rfl, hwa⟩); go_must (replace hwa := Aside0.mk hwa))
    (try simp only [Act.put, List.setIfInBounds_toArray, List.set_cons_zero, List.set_cons_succ])
    clear p0 p1
    have p0 : wa.cell? ⟨w.heap.size, 0, none⟩ = some (.slice cA p.consts.length cc) := blk_cell (hwa.out.blk B1.out (fun h => h)) 0
    have p1 : wa.cell? ⟨w.heap.size, 1, none⟩ = some (.slice fA p.funcs.length fc) := blk_cell (hwa.out.blk B1.out (fun h => h)) 1
    go_wp2_with (go_at_call 15; go_must (refine (law_fits _ cA fA cc fc p rs false (hPA.out.below bl) hwA.out.sm hfb.out).mono ?_); go_must (rintro e wb ⟨rfl, hwb⟩); go_must (replace hwb := Aside0.mk hwb))
    go_ret
    exact ⟨rfl, cg⟩
  replace hft := Classical.not_not.1 hft
  have hfb : Aside0 (((checkP chkP p).2 == 0) = true) := ⟨by simpa using hft⟩
  have hfit := Aside0.mk (fits_of hft)
  have hchk := Aside0.mk (fits_check hfit.out)
  clear hft
  go_enter Tryd.func7, Tryd.ntmps7
  go_upto_region 1 with (fail)
  (try simp only [Act.put, List.setIfInBounds_toArray, List.set_cons_zero, List.set_cons_succ])
  generalize hW : World.alloc (World.alloc w _) _ = W0
  have B1 : Aside0 (W0.heap[w.heap.size]? = some (.cells #[.slice cA p.consts.length cc, .slice fA p.funcs.length fc] 25)) := ⟨by rw [← hW]; exact ((Chg.refl (fun _ => False) (w.alloc _)).alloc _).blk (heap_alloc_new w _) (fun e => e)⟩
  have B2 : Aside0 (W0.heap[w.heap.size + 1]? = some (.cells #[.int .i64 i, .string nm, .int .i64 c0.kind, .int .i64 c0.n, .string c0.text] 52)) := ⟨by rw [← hW]; exact heap_alloc2_new w _ _⟩
  have hz0 : Aside0 (Chg (fun _ => False) w W0) := ⟨by rw [← hW]; exact cg⟩
  clear hW
  have hlw : Aside0 (w.heap.size < W0.heap.size) := ⟨blk_lt B1.out⟩
  have b0 : W0.cell? ⟨w.heap.size + 1, 0, none⟩ = some (.int .i64 i) := blk_cell B2.out 0
  have b1 : W0.cell? ⟨w.heap.size + 1, 1, none⟩ = some (.string nm) := blk_cell B2.out 1
  have b2 : W0.cell? ⟨w.heap.size + 1, 2, none⟩ = some (.int .i64 c0.kind) := blk_cell B2.out 2
  have b3 : W0.cell? ⟨w.heap.size + 1, 3, none⟩ = some (.int .i64 c0.n) := blk_cell B2.out 3
  have b4 : W0.cell? ⟨w.heap.size + 1, 4, none⟩ = some (.string c0.text) := blk_cell B2.out 4
  go_upto_region 4 with (fail)
  (try simp only [Act.put, List.setIfInBounds_toArray, List.set_cons_zero, List.set_cons_succ])
  generalize hW : World.alloc W0 _ = W1
  have B3 : Aside0 (W1.heap[W0.heap.size]? = some (.cells #[.int .i64 c0.kind, .int .i64 c0.n, .string c0.text] 39)) := ⟨by rw [← hW]; exact heap_alloc_new W0 _⟩
  have hzb : Aside0 (Chg (fun _ => False) W0 W1) := ⟨by rw [← hW]; exact cg⟩
  clear hW
  clear b0 b1 b2 b3 b4 B2
  replace B1 := Aside0.mk (hzb.out.blk B1.out (fun h => h))
  replace hz0 := Aside0.mk (hz0.out.trans hzb.out (fun _ _ h => h))
  clear hzb
  have p0 : W1.cell? ⟨w.heap.size, 0, none⟩ = some (.slice cA p.consts.length cc) := blk_cell B1.out 0
  have p1 : W1.cell? ⟨w.heap.size, 1, none⟩ = some (.slice fA p.funcs.length fc) := blk_cell B1.out 1
  go_upto_region 6 with (first | (go_at_call 15; go_must (refine (law_fits _ cA fA cc fc p rs true (hPA.out.below bl) hwA.out.sm hfb.out).mono ?_); go_must (rintro e wa ⟨rfl, hwa⟩); go_must (have p0a : wa.cell? ⟨w.heap.size, 0, none⟩ = some (.slice cA p.consts.length cc) := blk_cell (hwa.blk B1.out (fun h => h)) 0); go_must (have p1a : wa.cell? ⟨w.heap.size, 1, none⟩ = some (.slice fA p.funcs.length fc) := blk_cell (hwa.blk B1.out (fun h => h)) 1); go_must (replace hwa := Aside0.mk hwa)) | (go_at_call 14; go_must (refine (ref_CopyProgram _ cA fA cc fc p rs (hPA.out.below bl) hn hm hcode.out).mono ?_); go_must (rintro e wb ⟨⟨vA, vN, vK⟩, ⟨uA, uN, uK⟩, rs', rfl, hown, hwb⟩); go_must (obtain ⟨hv9, hu9, hpv⟩ := hown.view); go_must (simp only at hv9 hu9 hpv); go_must (subst hv9); go_must (subst hu9); go_must (simp only [svl]); go_must (replace hown := Aside0.mk hown); go_must (replace hpv := Aside0.mk hpv); go_must (replace hwb := Aside0.mk hwb)) | (go_at_call 16; go_must (refine (law_found _ vA uA vK uK p rs' 0 0 0 hpv.out hwA.out (cell_chg0 hEA.out cg) hchk.out).mono ?_); go_must (rintro e wc ⟨rfl, hwc⟩); go_must (replace hwc := Aside0.mk hwc)))
  (try simp only [Act.put, List.setIfInBounds_toArray, List.set_cons_zero, List.set_cons_succ])
  have hzc : Aside0 (Chg (fun _ => False) W1 wc) := ⟨cg⟩
  replace hz0 := Aside0.mk (hz0.out.trans hzc.out (fun _ _ h => h))
  replace B1 := Aside0.mk (hzc.out.blk B1.out (fun h => h))
  replace B3 := Aside0.mk (hzc.out.blk B3.out (fun h => h))
  clear p0 p1 p0a p1a hzc hwa hwb hwc hown hpv
  have p0 : wc.cell? ⟨w.heap.size, 0, none⟩ = some (.slice cA p.consts.length cc) := blk_cell B1.out 0
  have p1 : wc.cell? ⟨w.heap.size, 1, none⟩ = some (.slice fA p.funcs.length fc) := blk_cell B1.out 1
  go_upto_region 7 with (go_at_call 14; go_must (refine (ref_CopyProgramA _ cA fA cc fc p rs (hPA.out.below bl) hn hm hcode.out).mono ?_); go_must (rintro e wd ⟨⟨vA, vN, vK⟩, ⟨uA, uN, uK⟩, rs', rfl, ⟨hown, hap⟩, hwd⟩); go_must (obtain ⟨hv9, hu9, hpv⟩ := hown.view); go_must (simp only at hv9 hu9 hpv); go_must (subst hv9); go_must (subst hu9); go_must (simp only [svl]); go_must (replace hown := Aside0.mk hown); go_must (replace hap := Aside0.mk hap); go_must (replace hpv := Aside0.mk hpv); go_must (replace hwd := Aside0.mk hwd))
  (try simp only [Act.put, List.setIfInBounds_toArray, List.set_cons_zero, List.set_cons_succ])
  generalize hW : World.alloc wd _ = Wd
  have B4 : Aside0 (Wd.heap[wd.heap.size]? = some (.cells #[.slice vA p.consts.length vK, .slice uA p.funcs.length uK] 25)) := ⟨by rw [← hW]; exact heap_alloc_new wd _⟩
  have hzq : Aside0 (Chg (fun _ => False) wd Wd) := ⟨by rw [← hW]; exact cg⟩
  clear hW
  have hlo : Aside0 (W0.heap.size < wc.heap.size ∧ w.heap.size < W0.heap.size ∧ wc.heap.size ≤ wd.heap.size) := ⟨blk_lt B3.out, hlw.out, hwd.out.size⟩
  have hzd : Aside0 (Chg (fun _ => False) wc Wd) := ⟨cg⟩
  have hzg : Aside0 (Chg (fun _ => False) w Wd) := ⟨hz0.out.trans hzd.out (fun _ _ h => h)⟩
  replace hown := Aside0.mk (hown.out.new hzq.out)
  replace B3 := Aside0.mk (hzd.out.blk B3.out (fun h => h))
  have hg0 : Aside0 (0 < wc.heap.size) := ⟨by have := hlo.out; omega⟩
  clear p0 p1 hzd hzq hpv hwd hz0 B1
  obtain ⟨gF, e1⟩ := Oq.some hown.out.fs (by have := hown.out.fn.1; have := hfit.out.nf; omega)
  subst e1
  obtain ⟨m0, m1⟩ := pickQ_lt (k := i) (n := p.funcs.length) (by exact hfit.out.nf)
  obtain ⟨k, hm9⟩ := Int.eq_ofNat_of_zero_le m0
  have hpk1 : Aside0 (∀ W, Calls Tryd.prog 17 #[.int .i64 i, .int .i64 (p.funcs.length : Int)] W fun e w' => e = .returned (.int .i64 (k : Int)) ∧ w' = W) := ⟨fun W => by rw [← hm9]; exact kit_PickQ W i _ hi'.out.1 hi'.out.2 (by have := hfit.out.mf; omega)⟩
  have kl : k < p.funcs.length := by omega
  clear m0 m1 hm9
  obtain ⟨f, hfx⟩ : ∃ f, p.funcs[k]? = some f := ⟨_, List.getElem?_eq_getElem kl⟩
  obtain ⟨r, hrx⟩ : ∃ r, rs'[k]? = some r := ⟨_, List.getElem?_eq_getElem (by have := hown.out.fn.1; omega)⟩
  obtain ⟨a1, a2, a3, a4, a5⟩ := hown.out.fn.2 k r f hrx hfx
  obtain ⟨nn, pa, lc, ⟨iA, iN, iC⟩, ⟨jA, jN, jC⟩⟩ := r
  have a6 := a4.toC.1
  have a7 := a5.toC.1
  simp only at a1 a2 a3 a6 a7
  subst a1 a2 a3 a6 a7
  have hok := Aside0.mk (fn_ok (hfit.out.fs k f hfx))
  have hsz := Aside0.mk (hwA.out.sm.fs f (List.mem_of_getElem? hfx))
  have hfA := Aside0.mk hfx
  have hrA := Aside0.mk hrx
  obtain ⟨gI, e1⟩ := Oq.some a4 hok.out.c0
  (try simp only at e1)
  subst e1
  have hgI : Aside0 (wc.heap.size ≤ gI ∧ gI ≠ gF ∧ gI ≠ wd.heap.size) := ⟨a4.2 gI rfl, fun e => by subst e; exact Oq.ne a4 hown.out.fs (by decide) gI rfl rfl, fun e => Oq.ne_blk a4 B4.out (by decide) rfl e⟩
  clear hfx hrx a4 a5
  have q1 : Wd.cell? ⟨wd.heap.size, 1, none⟩ = some (.slice (some ⟨gF, 0, none⟩) p.funcs.length uK) := blk_cell B4.out 1
  obtain ⟨_, _, _, x3, x4⟩ := raw_ownC hown.out.fs.toC k kl hrA.out
  (try simp only at x3 x4)
  have hk0 : (0 : Int) ≤ k := by omega
  have hk1 : (k : Int) < p.funcs.length := by omega
  go_upto_region 8 with (go_at_call 17; go_must (refine (hpk1.out _).mono ?_); go_must (rintro e wn ⟨rfl, hwn⟩); go_must (subst wn))
  (try simp only [Act.put, List.setIfInBounds_toArray, List.set_cons_zero, List.set_cons_succ])
  obtain ⟨m0, m1⟩ := pickQ_lt (k := i) (n := f.code.length) (by exact hok.out.c0)
  obtain ⟨pc, hm9⟩ := Int.eq_ofNat_of_zero_le m0
  have hpk2 : Aside0 (∀ W, Calls Tryd.prog 17 #[.int .i64 i, .int .i64 (f.code.length : Int)] W fun e w' => e = .returned (.int .i64 (pc : Int)) ∧ w' = W) := ⟨fun W => by rw [← hm9]; exact kit_PickQ W i _ hi'.out.1 hi'.out.2 (by have := hok.out.c1; omega)⟩
  have pcl : pc < f.code.length := by omega
  clear m0 m1 hm9
  go_upto_region 9 with (go_at_call 17; go_must (refine (hpk2.out _).mono ?_); go_must (rintro e wn ⟨rfl, hwn⟩); go_must (subst wn))
  (try simp only [Act.put, List.setIfInBounds_toArray, List.set_cons_zero, List.set_cons_succ])
  clear hpk1 hpk2 x4
  obtain ⟨_, _, _, hoi, _⟩ := hown.out.fn.2 k _ f hrA.out hfA.out
  obtain ⟨ya, yb, hy9, y0, y1⟩ := kQI_own hoi.toC pc pcl
  obtain ⟨cu3, hcu3⟩ := Kd.R_typed hoi.1 gI rfl
  have z0 := blk_frozen hcu3 (pc * 2)
  have z1 := blk_frozen hcu3 (pc * 2 + 1)
  have hy := Aside0.mk hy9
  clear hcu3 hoi hy9
  have hj0 : (0 : Int) ≤ pc := by omega
  have hj1 : (pc : Int) < f.code.length := by omega
  go_upto_region 10 with (fail)
  (try simp only [Act.put, List.setIfInBounds_toArray, List.set_cons_zero, List.set_cons_succ])
  clear x3 y0 y1 z0 z1 q1
  generalize hW : World.setCell (World.setCell Wd _ _) _ _ = We
  have hs : Aside0 (Chg (fun b => b = gI) Wd We) := ⟨by rw [← hW]; exact ((Chg.refl (fun b => b = gI) Wd).setCell (p := ⟨gI, pc * 2, none⟩) (fun _ => rfl) (.int .i64 0)).setCell (p := ⟨gI, pc * 2 + 1, none⟩) (fun _ => rfl) (.int .i64 0)⟩
  obtain ⟨p1, hp1⟩ : ∃ p1 : QP, p1 = ⟨p.consts, p.funcs.set k ⟨f.name, f.pars, f.locs, f.code.set pc ⟨0, 0⟩, f.hnd⟩⟩ := ⟨_, rfl⟩
  have hcl1 : p1.consts.length = p.consts.length := by rw [hp1]
  have hfl1 : p1.funcs.length = p.funcs.length := by rw [hp1]; simp only [List.length_set]
  have hS1 : Aside0 (GSt w We wc.heap.size wd.heap.size W0.heap.size vA (some ⟨gF, 0, none⟩) vK uK p1 rs' c0) := ⟨by
    have hbase : GSt w Wd wc.heap.size wd.heap.size W0.heap.size vA (some ⟨gF, 0, none⟩) vK uK p rs' c0 := ⟨hown.out, hfit.out, hwA.out, hzg.out, B4.out, B3.out, by have := hlo.out; omega, hlo.out.1, hlo.out.2.2, cell_chg0 hEA.out hzg.out⟩
    refine hbase.put hs.out hgI.out.1 hg0.out ?own ?fit ?wf ?q
    case own =>
      rw [hcl1, hfl1, hp1, ← hW]
      exact hown.out.hitI (f' := ⟨f.name, f.pars, f.locs, f.code.set pc ⟨0, 0⟩, f.hnd⟩) hap.out hrA.out hfA.out rfl (((Chg.refl (fun b => b = gI) Wd).setCell (p := ⟨gI, pc * 2, none⟩) (fun _ => rfl) (.int .i64 0)).setCell (p := ⟨gI, pc * 2 + 1, none⟩) (fun _ => rfl) (.int .i64 0)) ⟨rfl, rfl, rfl, rfl⟩ (fun ho => oq_putI ho hy.out ⟨0, 0⟩)
    case fit => rw [hp1]; exact grow_nop hfit.out hfA.out pcl
    case wf => rw [hp1]; exact wf_setF hwA.out ⟨hsz.out.1, by simp only [List.length_set]; exact hsz.out.2.1, hsz.out.2.2⟩
    case q => rw [hcl1, hfl1]; exact hs.out.blk B4.out (fun e => hgI.out.2.2 e.symm)⟩
  have hfx1 : Aside0 (p1.funcs[k]? = some ⟨f.name, f.pars, f.locs, f.code.set pc ⟨0, 0⟩, f.hnd⟩) := ⟨by rw [hp1]; simp only; rw [List.getElem?_set, if_pos rfl, if_pos kl]⟩
  clear hW hs hp1 hcl1 hown hap B3 B4 hzg hgI hfl1 hk1 kl hy hchk
  have hk1 : (k : Int) < p1.funcs.length := by have := (List.getElem?_eq_some_iff.1 hfx1.out).1; omega
  have kl := (List.getElem?_eq_some_iff.1 hfx1.out).1
  have q1 : We.cell? ⟨wd.heap.size, 1, none⟩ = some (.slice (some ⟨gF, 0, none⟩) p1.funcs.length uK) := blk_cell hS1.out.q 1
  obtain ⟨_, _, _, x3, x4⟩ := raw_ownC hS1.out.own.fs.toC k kl hrA.out
  (try simp only at x3 x4)
  clear x3
  go_upto_region 11 with (fail)
  (try simp only [Act.put, List.setIfInBounds_toArray, List.set_cons_zero, List.set_cons_succ])
  clear q1 x4
  obtain ⟨vX, hvX⟩ : ∃ vX : Option Addr, vX = vA := ⟨_, rfl⟩
  subst hvX
  by_cases hm : f.hnd.length = 0
  case' pos =>
    have hm1 : ¬ (0 : Int) < f.hnd.length := by omega
    go_upto_region 20 with (fail)
    (try simp only [Act.put, List.setIfInBounds_toArray, List.set_cons_zero, List.set_cons_succ])
    obtain ⟨Wn, hWn⟩ : ∃ Wn : World, Wn = We := ⟨_, rfl⟩
    subst hWn
    obtain ⟨pX, hpX⟩ : ∃ pX : QP, pX = p1 := ⟨_, rfl⟩
    subst hpX
    obtain ⟨rsX, hrX⟩ : ∃ rsX : List QR, rsX = rs' := ⟨_, rfl⟩
    subst hrX
    obtain ⟨uX, huX⟩ : ∃ uX : Option Addr, uX = some ⟨gF, 0, none⟩ := ⟨_, rfl⟩
    rw [← huX] at hS1
    have hS := hS1
    clear hS1 huX hm hm1 hk0 hk1 hj0 hj1 hfx1 hrA kl
  case' neg =>
    have hm1 : (0 : Int) < f.hnd.length := by omega
    have hhl := hsz.out.2.2
    obtain ⟨m0, m1⟩ := pickQ_lt (k := i) (n := f.hnd.length) (by omega)
    obtain ⟨am, hm9⟩ := Int.eq_ofNat_of_zero_le m0
    have hpk3 : Aside0 (∀ W, Calls Tryd.prog 17 #[.int .i64 i, .int .i64 (f.hnd.length : Int)] W fun e w' => e = .returned (.int .i64 (am : Int)) ∧ w' = W) := ⟨fun W => by rw [← hm9]; exact kit_PickQ W i _ hi'.out.1 hi'.out.2 (by have := hsz.out.2.2; omega)⟩
    have aml : am < f.hnd.length := by omega
    clear m0 m1 hm9
    go_upto_region 13 with (go_at_call 17; go_must (refine (hpk3.out _).mono ?_); go_must (rintro e wn ⟨rfl, hwn⟩); go_must (subst wn))
    (try simp only [Act.put, List.setIfInBounds_toArray, List.set_cons_zero, List.set_cons_succ])
    clear hpk3 hm1
    (try go_wp2)
    go_loopw [13, 14] (fun v ix wr => ∃ j : Nat, ix = .int .i64 j ∧ j ≤ f.hnd.length ∧ Aside0 (Kd.R kQH 54 wr 0 (New (fun _ => False) We wr) v (skipAt f.hnd am j)) ∧ Aside0 (Chg (fun _ => False) We wr)) (fun _ ix _ => f.hnd.length - (intOf ix).toNat)
    case atStart => exact ⟨0, rfl, by omega, ⟨Kd.R_nil _ _ _ _ _⟩, ⟨Chg.refl _ _⟩⟩
    case' round =>
      obtain ⟨j, rfl, hj, hR, hCh⟩ := hrel
      have hSr := Aside0.mk (hS1.out.new hCh.out)
      have q1 := blk_cell hSr.out.q 1
      obtain ⟨_, _, _, x3, x4⟩ := raw_ownC hSr.out.own.fs.toC k kl hrA.out
      (try simp only at x3 x4)
      clear x3
      by_cases hlt : j < f.hnd.length
      case' pos =>
        have hj2 : (0 : Int) ≤ j := by omega
        have hj3 : (j : Int) < f.hnd.length := by omega
        obtain ⟨ad, a9, b9, c9, d9, e1, e2, y0, y1, y2, y3⟩ := kQH_at ((hSr.out.own.fn.2 k _ _ hrA.out hfx1.out).2.2.2.2).toC j hlt
        (try simp only at e1)
        subst e1
        have e2A := Aside0.mk e2
        clear e2
        by_cases hne : j = am
        · subst hne
          have hb : ((j : Int) != (j : Int)) = false := by simp
          go_wp2
          go_roundw
          case measure => first | (simp [intOf]; done) | (simp [intOf]; omega)
          case rel => exact ⟨j + 1, by go_num, by omega, ⟨by rw [skip_out hlt]; exact hR.out⟩, hCh⟩
        · have hb : ((j : Int) != (am : Int)) = true := by simpa using fun e => hne (by omega)
          have hl : Aside0 (((skipAt f.hnd am j).length + 1) * 32 ≤ 140737488355328) := ⟨by have := skip_len (l := f.hnd) (a := am) (n := j); have := hsz.out.2.2; omega⟩
          go_wp2_with (at_builtin; go_must (refine app1 kQH rfl (.tmp 80) (.tmp 90) rfl Tryd.underlying45 infoQH rfl (by decide) (by decide) ⟨a9, b9, c9, d9⟩ rfl rfl (kQH_M _ _ _ _) hR hCh hl ?_); go_must (intro v1 w1 hr1 hc1))
          go_roundw
          case measure => first | (simp [intOf]; done) | (simp [intOf]; omega)
          case rel => exact ⟨j + 1, by go_num, by omega, ⟨by rw [skip_in e2A.out hne]; exact hr1.out⟩, hc1⟩
      case' neg =>
        obtain rfl : j = f.hnd.length := by omega
        have hj3 : ¬ (f.hnd.length : Int) < f.hnd.length := by omega
        obtain ⟨A3, n3, c3, rfl⟩ := R_sl hR.out
        obtain ⟨cu3, hcu3⟩ := Kd.R_typed hSr.out.own.fs.1 gF rfl
        have z4 := blk_frozen hcu3 (k * 5 + 4)
        clear hcu3 hlt
        go_upto_region 20 with (fail)
        (try simp only [Act.put, List.setIfInBounds_toArray, List.set_cons_zero, List.set_cons_succ])
        clear q1 x4 z4 hj3
        generalize hW : World.setCell wr _ _ = Wn
        have hs : Aside0 (Chg (fun b => b = gF) wr Wn) := ⟨by rw [← hW]; exact (Chg.refl (fun b => b = gF) wr).setCell (p := ⟨gF, k * 5 + 4, none⟩) (fun _ => rfl) _⟩
        obtain ⟨pX, hpX⟩ : ∃ pX : QP, pX = ⟨p1.consts, p1.funcs.set k ⟨f.name, f.pars, f.locs, f.code.set pc ⟨0, 0⟩, skipAt f.hnd am f.hnd.length⟩⟩ := ⟨_, rfl⟩
        obtain ⟨rsX, hrX⟩ : ∃ rsX : List QR, rsX = rs'.set k ⟨f.name, f.pars, f.locs, (some ⟨gI, 0, none⟩, f.code.length, iC), (A3, n3, c3)⟩ := ⟨_, rfl⟩
        have hcl1 : pX.consts.length = p1.consts.length := by rw [hpX]
        have hfl1 : pX.funcs.length = p1.funcs.length := by rw [hpX]; simp only [List.length_set]
        have hS : Aside0 (GSt w Wn wc.heap.size wd.heap.size W0.heap.size vX (some ⟨gF, 0, none⟩) vK uK pX rsX c0) := ⟨by
          refine hSr.out.put hs.out (hSr.out.own.fs.2 gF rfl) hg0.out ?own ?fit ?wf ?q
          case own =>
            rw [hcl1, hfl1, hpX, hrX, ← hW]
            exact hSr.out.own.putH4 (v' := (A3, n3, c3)) hrA.out hfx1.out (Oq.of_new rfl hR.out hS1.out.ll)
          case fit => rw [hpX]; exact grow_hnd hSr.out.fit hfx1.out skip_len skip_mem
          case wf => rw [hpX]; exact wf_setF hSr.out.wf ⟨hsz.out.1, by simp only [List.length_set]; exact hsz.out.2.1, Nat.le_trans skip_len hsz.out.2.2⟩
          case q => rw [hcl1, hfl1]; exact hs.out.blk hSr.out.q (fun e => Oq.ne_blk hSr.out.own.fs hSr.out.q (by decide) rfl e.symm)⟩
        obtain ⟨uX, huX⟩ : ∃ uX : Option Addr, uX = some ⟨gF, 0, none⟩ := ⟨_, rfl⟩
        rw [← huX] at hS
        clear hW hs hpX hrX hcl1 hfl1 huX hSr hS1 hR hCh hm hhl hk0 hk1 hj0 hj1 hfx1 hrA kl
  all_goals
    have q0 : Wn.cell? ⟨wd.heap.size, 0, none⟩ = some (.slice vX pX.consts.length vK) := blk_cell hS.out.q 0
    have q1 : Wn.cell? ⟨wd.heap.size, 1, none⟩ = some (.slice uX pX.funcs.length uK) := blk_cell hS.out.q 1
    go_upto_region 22 with (first | (go_at_call 14; go_must (refine (ref_CopyProgram Wn vX uX vK uK pX rsX hS.out.own.view.2.2 hS.out.wf.sm.c hS.out.wf.sm.f (fun f hf => (hS.out.wf.sm.fs f hf).2)).mono ?_); go_must (rintro e wn ⟨⟨vB, vN, vJ⟩, ⟨uB, uN, uJ⟩, rs2, rfl, hown2, hwn⟩); go_must (obtain ⟨hv8, hu8, hpv2⟩ := hown2.view); go_must (simp only at hv8 hu8 hpv2); go_must (subst hv8); go_must (subst hu8); go_must (simp only [svl]); go_must (replace hown2 := Aside0.mk hown2); go_must (replace hpv2 := Aside0.mk hpv2); go_must (replace hwn := Aside0.mk hwn)) | (go_at_call 16; go_must (refine (law_found _ vB uB vJ uJ pX rs2 0 0 0 hpv2.out hS.out.wf (cell_chg0 hS.out.e hwn.out) (fits_check hS.out.fit)).mono ?_); go_must (rintro e wo ⟨rfl, hwo⟩); go_must (replace hwo := Aside0.mk hwo)))
    (try simp only [Act.put, List.setIfInBounds_toArray, List.set_cons_zero, List.set_cons_succ])
    have hzo : Aside0 (Chg (fun _ => False) Wn wo) := ⟨hwn.out.trans hwo.out (fun _ _ h => h)⟩
    replace hS := Aside0.mk (hS.out.new hzo.out)
    clear q0 q1 hwn hwo hzo hown2 hpv2
    rcases hfn9 : findN rsX nm 0 with ⟨z1, z2⟩
    have hfn := Aside0.mk hfn9
    clear hfn9
    have q0 : wo.cell? ⟨wd.heap.size, 0, none⟩ = some (.slice vX pX.consts.length vK) := blk_cell hS.out.q 0
    have q1 : wo.cell? ⟨wd.heap.size, 1, none⟩ = some (.slice uX pX.funcs.length uK) := blk_cell hS.out.q 1
    go_upto_region 23 with (go_at_call 19; go_must (refine (ref_FindQ _ vX uX pX.consts.length vK pX.funcs.length uK rsX nm hS.out.own.fs.toC).mono ?_); go_must (rintro e wf ⟨rfl, hwf⟩); go_must (rw [hfn.out]); go_must (replace hwf := Aside0.mk hwf))
    (try simp only [Act.put, List.setIfInBounds_toArray, List.set_cons_zero, List.set_cons_succ])
    replace hS := Aside0.mk (hS.out.new hwf.out)
    clear q0 q1 hwf
    have q1 : wf.cell? ⟨wd.heap.size, 1, none⟩ = some (.slice uX pX.funcs.length uK) := blk_cell hS.out.q 1
    have hcs : nameE nm ≠ 0 ∨ (nameE nm = 0 ∧ z2 = true) ∨ (nameE nm = 0 ∧ z2 = false ∧ ¬ pX.funcs.length < 128) ∨ (nameE nm = 0 ∧ z2 = false ∧ pX.funcs.length < 128) := by
      by_cases h1 : nameE nm = 0
      · cases z2
        · by_cases h2 : pX.funcs.length < 128
          · exact .inr (.inr (.inr ⟨h1, rfl, h2⟩))
          · exact .inr (.inr (.inl ⟨h1, rfl, h2⟩))
        · exact .inr (.inl ⟨h1, rfl⟩)
      · exact .inl h1
    refine or4K hcs ?_ ?_ ?_ ?_
    focus
      clear hcs
      intro hcs
      have hrn : Aside0 (decide (nameE nm = 0) = false) := ⟨decide_eq_false hcs⟩
      clear hcs
      go_upto_region 25 with (go_at_call 20; go_must (refine (ref_RightName _ nm hnm.out).mono ?_); go_must (rintro e wq ⟨rfl, hwq⟩); go_must (subst wq); go_must (rw [hrn.out]))
      (try simp only [Act.put, List.setIfInBounds_toArray, List.set_cons_zero, List.set_cons_succ])
      obtain ⟨Wm, hWm⟩ : ∃ Wm : World, Wm = wf := ⟨_, rfl⟩
      subst hWm
      obtain ⟨pY, hpY⟩ : ∃ pY : QP, pY = pX := ⟨_, rfl⟩
      subst hpY
      obtain ⟨rsY, hrY⟩ : ∃ rsY : List QR, rsY = rsX := ⟨_, rfl⟩
      subst hrY
      obtain ⟨uY, huY⟩ : ∃ uY : Option Addr, uY = uX := ⟨_, rfl⟩
      subst huY
      obtain ⟨uL, huL⟩ : ∃ uL : Nat, uL = uK := ⟨_, rfl⟩
      subst huL
      clear q1 hrn hfn
    rotate_left
    focus
      clear hcs
      rintro ⟨hn0, hz2⟩
      subst hz2
      have hrn : Aside0 (decide (nameE nm = 0) = true) := ⟨decide_eq_true hn0⟩
      clear hn0
      go_upto_region 25 with (go_at_call 20; go_must (refine (ref_RightName _ nm hnm.out).mono ?_); go_must (rintro e wq ⟨rfl, hwq⟩); go_must (subst wq); go_must (rw [hrn.out]))
      (try simp only [Act.put, List.setIfInBounds_toArray, List.set_cons_zero, List.set_cons_succ])
      obtain ⟨Wm, hWm⟩ : ∃ Wm : World, Wm = wf := ⟨_, rfl⟩
      subst hWm
      obtain ⟨pY, hpY⟩ : ∃ pY : QP, pY = pX := ⟨_, rfl⟩
      subst hpY
      obtain ⟨rsY, hrY⟩ : ∃ rsY : List QR, rsY = rsX := ⟨_, rfl⟩
      subst hrY
      obtain ⟨uY, huY⟩ : ∃ uY : Option Addr, uY = uX := ⟨_, rfl⟩
      subst huY
      obtain ⟨uL, huL⟩ : ∃ uL : Nat, uL = uK := ⟨_, rfl⟩
      subst huL
      clear q1 hrn hfn
    rotate_left
    focus
      clear hcs
      rintro ⟨hn0, hz2, hlen⟩
      subst hz2
      have hrn : Aside0 (decide (nameE nm = 0) = true) := ⟨decide_eq_true hn0⟩
      have hl2 : ¬ (pX.funcs.length : Int) < 128 := by omega
      clear hn0 hlen
      go_upto_region 25 with (go_at_call 20; go_must (refine (ref_RightName _ nm hnm.out).mono ?_); go_must (rintro e wq ⟨rfl, hwq⟩); go_must (subst wq); go_must (rw [hrn.out]))
      (try simp only [Act.put, List.setIfInBounds_toArray, List.set_cons_zero, List.set_cons_succ])
      clear hl2
      obtain ⟨Wm, hWm⟩ : ∃ Wm : World, Wm = wf := ⟨_, rfl⟩
      subst hWm
      obtain ⟨pY, hpY⟩ : ∃ pY : QP, pY = pX := ⟨_, rfl⟩
      subst hpY
      obtain ⟨rsY, hrY⟩ : ∃ rsY : List QR, rsY = rsX := ⟨_, rfl⟩
      subst hrY
      obtain ⟨uY, huY⟩ : ∃ uY : Option Addr, uY = uX := ⟨_, rfl⟩
      subst huY
      obtain ⟨uL, huL⟩ : ∃ uL : Nat, uL = uK := ⟨_, rfl⟩
      subst huL
      clear q1 hrn hfn
    rotate_left
    focus
      clear hcs
      rintro ⟨hn0, hz2, hlen⟩
      subst hz2
      have hrn : Aside0 (decide (nameE nm = 0) = true) := ⟨decide_eq_true hn0⟩
      have hn0A := Aside0.mk hn0
      have hlA := Aside0.mk hlen
      have hl2 : (pX.funcs.length : Int) < 128 := by omega
      clear hn0 hlen
      go_upto_region 24 with (go_at_call 20; go_must (refine (ref_RightName _ nm hnm.out).mono ?_); go_must (rintro e wq ⟨rfl, hwq⟩); go_must (subst wq); go_must (rw [hrn.out]))
      (try simp only [Act.put, List.setIfInBounds_toArray, List.set_cons_zero, List.set_cons_succ])
      clear hl2
      have hSa : Aside0 (GSt w (wf.alloc (.cells #[.int .i64 0, .int .i64 0] 50)) wc.heap.size wd.heap.size W0.heap.size vX uX vK uK pX rsX c0) := ⟨hS.out.new ((Chg.refl _ _).alloc _)⟩
      have hcd : Aside0 ((wf.alloc (.cells #[.int .i64 0, .int .i64 0] 50)).heap[wf.heap.size]? = some (.cells #[.int .i64 0, .int .i64 0] 50 (0, 0))) := ⟨heap_alloc_new wf _⟩
      have hRd := own_new0 hSa.out.own.fs.1
      have hCd : Aside0 (Chg (fun b => (svl (uX, pX.funcs.length, uK)).ownBlock = some b) (wf.alloc (.cells #[.int .i64 0, .int .i64 0] 50)) (wf.alloc (.cells #[.int .i64 0, .int .i64 0] 50))) := ⟨Chg.refl _ _⟩
      have hl : Aside0 ((rsX.length + 1) * 80 ≤ 140737488355328) := ⟨by rw [hS.out.own.fn.1]; have := hlA.out; omega⟩
      have hno0 : Aside0 (¬ (svl (uX, pX.funcs.length, uK)).ownBlock = some wd.heap.size) := ⟨fun e => Oq.ne_blk hS.out.own.fs hS.out.q (by decide) e rfl⟩
      have hno1 : Aside0 (¬ (svl (uX, pX.funcs.length, uK)).ownBlock = some wf.heap.size) := ⟨fun e => by have := hS.out.own.fs.lt _ e; omega⟩
      go_upto_region 25 with (at_builtin; go_must (refine app1 kQR rfl (.tmp 121) (.tmp 126) rfl Tryd.underlying23 infoQR rfl (by decide) (by decide) ⟨nm, 0, 0, (some ⟨wf.heap.size, 0, none⟩, 1, 1), (none, 0, 0)⟩ rfl (by first | rfl | (rw [size_al1]; rfl)) (kQR_M _ _ _ _) hRd hCd hl ?_); go_must (intro v1 w5 hr2 hc2); go_must (obtain ⟨A2, n2, c2, rfl⟩ := R_sl hr2.out); go_must (have hbq := hc2.out.blk hSa.out.q hno0.out); go_must (have y1' : w5.cell? ⟨wd.heap.size, 1, none⟩ = some (.slice uX pX.funcs.length uK) := blk_cell hbq 1); go_must (have fz := blk_frozen hbq 1); go_must (clear hbq))
      (try simp only [Act.put, List.setIfInBounds_toArray, List.set_cons_zero, List.set_cons_succ])
      clear y1' fz q1 hRd hCd hl
      generalize hW : World.setCell w5 _ _ = Wm
      have hS2 : Aside0 (GSt w Wm wc.heap.size wd.heap.size W0.heap.size vX A2 vK c2 ⟨pX.consts, pX.funcs ++ [nopF nm]⟩ (rsX ++ [⟨nm, 0, 0, (some ⟨wf.heap.size, 0, none⟩, 1, 1), (none, 0, 0)⟩]) c0) := ⟨by
        rw [← hW]
        exact hSa.out.addF (nm := nm) hg0.out hc2.out hr2.out ⟨rfl, rfl, rfl, oq_one (hc2.out.blk hcd.out hno1.out) hS.out.ll, Oq.nil _ _ _ _⟩ hnm.out hn0A.out (by rw [hfn.out]) hlA.out⟩
      clear hW hc2 hr2 hcd hno0 hno1 hSa hS hlA hn0A hfn
      have hS := hS2
      clear hS2
      generalize hgp : QP.mk pX.consts (pX.funcs ++ [nopF nm]) = pY at hS
      generalize hgr : rsX ++ [QR.mk nm 0 0 (some ⟨wf.heap.size, 0, none⟩, 1, 1) (none, 0, 0)] = rsY at hS
      obtain ⟨uY, huY⟩ : ∃ uY : Option Addr, uY = A2 := ⟨_, rfl⟩
      subst huY
      obtain ⟨uL, huL⟩ : ∃ uL : Nat, uL = c2 := ⟨_, rfl⟩
      subst huL
      clear hgp hgr hrn
    all_goals
      have q0 : Wm.cell? ⟨wd.heap.size, 0, none⟩ = some (.slice vX pY.consts.length vK) := blk_cell hS.out.q 0
      have d0 : Wm.cell? ⟨W0.heap.size, 0, none⟩ = some (.int .i64 c0.kind) := blk_cell hS.out.c 0
      have d1 : Wm.cell? ⟨W0.heap.size, 1, none⟩ = some (.int .i64 c0.n) := blk_cell hS.out.c 1
      have d2 : Wm.cell? ⟨W0.heap.size, 2, none⟩ = some (.string c0.text) := blk_cell hS.out.c 2
      have hcs : ¬ pY.consts.length < 512 ∨ (pY.consts.length < 512 ∧ rightB pY.consts c0 = false) ∨ (pY.consts.length < 512 ∧ rightB pY.consts c0 = true) := by
        by_cases h1 : pY.consts.length < 512
        · cases h2 : rightB pY.consts c0
          · exact .inr (.inl ⟨h1, rfl⟩)
          · exact .inr (.inr ⟨h1, rfl⟩)
        · exact .inl h1
      refine or3K hcs ?_ ?_ ?_
      focus
        clear hcs
        intro hcs
        have hl2 : ¬ (pY.consts.length : Int) < 512 := by omega
        clear hcs
        go_upto_region 27 with (fail)
        (try simp only [Act.put, List.setIfInBounds_toArray, List.set_cons_zero, List.set_cons_succ])
        clear hl2 q0 d0 d1 d2
        obtain ⟨Wp, hWp⟩ : ∃ Wp : World, Wp = Wm := ⟨_, rfl⟩
        subst hWp
        obtain ⟨pZ, hpZ⟩ : ∃ pZ : QP, pZ = pY := ⟨_, rfl⟩
        subst hpZ
        obtain ⟨rsZ, hrZ⟩ : ∃ rsZ : List QR, rsZ = rsY := ⟨_, rfl⟩
        subst hrZ
        obtain ⟨vZ, hvZ⟩ : ∃ vZ : Option Addr, vZ = vX := ⟨_, rfl⟩
        subst hvZ
        obtain ⟨vL, hvL⟩ : ∃ vL : Nat, vL = vK := ⟨_, rfl⟩
        subst hvL
      rotate_left
      focus
        clear hcs
        rintro ⟨hlen, hrt9⟩
        have hl2 : (pY.consts.length : Int) < 512 := by omega
        have hrt : Aside0 (rightB pY.consts ⟨c0.kind, c0.n, c0.text⟩ = false) := ⟨hrt9⟩
        clear hlen hrt9
        go_upto_region 27 with (go_at_call 21; go_must (refine (law_right _ vX vK pY.consts c0.kind c0.n c0.text hS.out.own.cs.toC hS.out.wf.sm.c).mono ?_); go_must (rintro e wq ⟨rfl, hwq⟩); go_must (rw [hrt.out]); go_must (replace hwq := Aside0.mk hwq))
        (try simp only [Act.put, List.setIfInBounds_toArray, List.set_cons_zero, List.set_cons_succ])
        replace hS := Aside0.mk (hS.out.new hwq.out)
        clear hl2 q0 d0 d1 d2 hrt hwq
        obtain ⟨Wp, hWp⟩ : ∃ Wp : World, Wp = wq := ⟨_, rfl⟩
        subst hWp
        obtain ⟨pZ, hpZ⟩ : ∃ pZ : QP, pZ = pY := ⟨_, rfl⟩
        subst hpZ
        obtain ⟨rsZ, hrZ⟩ : ∃ rsZ : List QR, rsZ = rsY := ⟨_, rfl⟩
        subst hrZ
        obtain ⟨vZ, hvZ⟩ : ∃ vZ : Option Addr, vZ = vX := ⟨_, rfl⟩
        subst hvZ
        obtain ⟨vL, hvL⟩ : ∃ vL : Nat, vL = vK := ⟨_, rfl⟩
        subst hvL
      rotate_left
      focus
        clear hcs
        rintro ⟨hlen, hrt9⟩
        have hl2 : (pY.consts.length : Int) < 512 := by omega
        have hrt : Aside0 (rightB pY.consts ⟨c0.kind, c0.n, c0.text⟩ = true) := ⟨hrt9⟩
        have hlA := Aside0.mk hlen
        clear hlen hrt9
        go_upto_region 26 with (go_at_call 21; go_must (refine (law_right _ vX vK pY.consts c0.kind c0.n c0.text hS.out.own.cs.toC hS.out.wf.sm.c).mono ?_); go_must (rintro e wq ⟨rfl, hwq⟩); go_must (rw [hrt.out]); go_must (replace hwq := Aside0.mk hwq))
        (try simp only [Act.put, List.setIfInBounds_toArray, List.set_cons_zero, List.set_cons_succ])
        replace hS := Aside0.mk (hS.out.new hwq.out)
        clear hl2 q0 d0 d1 d2 hwq
        have q0 : wq.cell? ⟨wd.heap.size, 0, none⟩ = some (.slice vX pY.consts.length vK) := blk_cell hS.out.q 0
        have d0 : wq.cell? ⟨W0.heap.size, 0, none⟩ = some (.int .i64 c0.kind) := blk_cell hS.out.c 0
        have d1 : wq.cell? ⟨W0.heap.size, 1, none⟩ = some (.int .i64 c0.n) := blk_cell hS.out.c 1
        have d2 : wq.cell? ⟨W0.heap.size, 2, none⟩ = some (.string c0.text) := blk_cell hS.out.c 2
        have hRd := own_new0 hS.out.own.cs.1
        have hCd : Aside0 (Chg (fun b => (svl (vX, pY.consts.length, vK)).ownBlock = some b) wq wq) := ⟨Chg.refl _ _⟩
        have hl : Aside0 ((pY.consts.length + 1) * 32 ≤ 140737488355328) := ⟨by have := hlA.out; omega⟩
        have hno0 : Aside0 (¬ (svl (vX, pY.consts.length, vK)).ownBlock = some wd.heap.size) := ⟨fun e => Oq.ne_blk hS.out.own.cs hS.out.q (by decide) e rfl⟩
        go_upto_region 27 with (at_builtin; go_must (refine app1 kQC rfl (.tmp 140) (.tmp 142) rfl Tryd.underlying22 infoQC rfl (by decide) (by decide) ⟨c0.kind, c0.n, c0.text⟩ rfl rfl (kQC_M _ _ _ _) hRd hCd hl ?_); go_must (intro v1 w5 hr2 hc2); go_must (obtain ⟨A2, n2, c2, rfl⟩ := R_sl hr2.out); go_must (have hbq := hc2.out.blk hS.out.q hno0.out); go_must (have y0' : w5.cell? ⟨wd.heap.size, 0, none⟩ = some (.slice vX pY.consts.length vK) := blk_cell hbq 0); go_must (have fz := blk_frozen hbq 0); go_must (clear hbq))
        (try simp only [Act.put, List.setIfInBounds_toArray, List.set_cons_zero, List.set_cons_succ])
        clear y0' fz q0 d0 d1 d2 hRd hCd hl
        generalize hW : World.setCell w5 _ _ = Wp
        have hS2 : Aside0 (GSt w Wp wc.heap.size wd.heap.size W0.heap.size A2 uY c2 uL ⟨pY.consts ++ [c0], pY.funcs⟩ rsY c0) := ⟨by
          rw [← hW]
          exact hS.out.addC hg0.out hc2.out hr2.out hcw.out hrt.out hlA.out⟩
        clear hW hc2 hr2 hno0 hS hlA hrt
        have hS := hS2
        clear hS2
        generalize hgp : QP.mk (pY.consts ++ [c0]) pY.funcs = pZ at hS
        obtain ⟨rsZ, hrZ⟩ : ∃ rsZ : List QR, rsZ = rsY := ⟨_, rfl⟩
        subst hrZ
        obtain ⟨vZ, hvZ⟩ : ∃ vZ : Option Addr, vZ = A2 := ⟨_, rfl⟩
        subst hvZ
        obtain ⟨vL, hvL⟩ : ∃ vL : Nat, vL = c2 := ⟨_, rfl⟩
        subst hvL
        clear hgp
      all_goals
        have q0 : Wp.cell? ⟨wd.heap.size, 0, none⟩ = some (.slice vZ pZ.consts.length vL) := blk_cell hS.out.q 0
        have q1 : Wp.cell? ⟨wd.heap.size, 1, none⟩ = some (.slice uY pZ.funcs.length uL) := blk_cell hS.out.q 1
        go_upto_region 29 with (first | (go_at_call 14; go_must (refine (ref_CopyProgram Wp vZ uY vL uL pZ rsZ hS.out.own.view.2.2 hS.out.wf.sm.c hS.out.wf.sm.f (fun f hf => (hS.out.wf.sm.fs f hf).2)).mono ?_); go_must (rintro e wn2 ⟨⟨vB, vN, vJ⟩, ⟨uB, uN, uJ⟩, rs2, rfl, hown2, hwn2⟩); go_must (obtain ⟨hv8, hu8, hpv2⟩ := hown2.view); go_must (simp only at hv8 hu8 hpv2); go_must (subst hv8); go_must (subst hu8); go_must (simp only [svl]); go_must (replace hown2 := Aside0.mk hown2); go_must (replace hpv2 := Aside0.mk hpv2); go_must (replace hwn2 := Aside0.mk hwn2)) | (go_at_call 16; go_must (refine (law_found _ vB uB vJ uJ pZ rs2 0 0 0 hpv2.out hS.out.wf (cell_chg0 hS.out.e hwn2.out) (fits_check hS.out.fit)).mono ?_); go_must (rintro e wo2 ⟨rfl, hwo2⟩); go_must (replace hwo2 := Aside0.mk hwo2)))
        (try simp only [Act.put, List.setIfInBounds_toArray, List.set_cons_zero, List.set_cons_succ])
        have hzo : Aside0 (Chg (fun _ => False) Wp wo2) := ⟨hwn2.out.trans hwo2.out (fun _ _ h => h)⟩
        replace hS := Aside0.mk (hS.out.new hzo.out)
        clear q0 q1 hwn2 hwo2 hzo hown2 hpv2
        have hnf := hS.out.fit.nf
        obtain ⟨gG, e1⟩ := Oq.some hS.out.own.fs (by rw [hS.out.own.fn.1]; exact hnf)
        subst e1
        obtain ⟨f0, hfx⟩ : ∃ f0, pZ.funcs[0]? = some f0 := ⟨_, List.getElem?_eq_getElem hnf⟩
        obtain ⟨r0, hrx⟩ : ∃ r0, rsZ[0]? = some r0 := ⟨_, List.getElem?_eq_getElem (by rw [hS.out.own.fn.1]; exact hnf)⟩
        have hfA := Aside0.mk hfx
        have hrA := Aside0.mk hrx
        obtain ⟨_, x1, _, _, _⟩ := raw_ownC hS.out.own.fs.toC 0 hnf hrx
        obtain ⟨cu3, hcu3⟩ := Kd.R_typed hS.out.own.fs.1 gG rfl
        have z1 := blk_frozen hcu3 1
        have hgG : Aside0 (wc.heap.size ≤ gG ∧ gG ≠ wd.heap.size) := ⟨hS.out.own.fs.2 gG rfl, fun e => Oq.ne_blk hS.out.own.fs hS.out.q (by decide) rfl e⟩
        have hk1 : (0 : Int) < pZ.funcs.length := by omega
        simp only [Nat.zero_mul, Nat.zero_add] at x1
        clear hcu3 hfx hrx
        have q1 := blk_cell hS.out.q 1
        go_upto_region 30 with (fail)
        (try simp only [Act.put, List.setIfInBounds_toArray, List.set_cons_zero, List.set_cons_succ])
        clear q1 x1 z1
        generalize hW : World.setCell wo2 _ _ = Wz
        have hs : Aside0 (Chg (fun b => b = gG) wo2 Wz) := ⟨by rw [← hW]; exact (Chg.refl (fun b => b = gG) wo2).setCell (p := ⟨gG, 1, none⟩) (fun _ => rfl) _⟩
        obtain ⟨pz, hpz9⟩ : ∃ pz : QP, pz = ⟨pZ.consts, pZ.funcs.set 0 ⟨f0.name, 1, f0.locs, f0.code, f0.hnd⟩⟩ := ⟨_, rfl⟩
        have hownZ : Aside0 (POwn Wz wc.heap.size (vZ, pZ.consts.length, vL) (some ⟨gG, 0, none⟩, pZ.funcs.length, uL) pz (rsZ.set 0 ⟨r0.name, 1, r0.locs, r0.code, r0.hnd⟩)) := ⟨by
          rw [hpz9, ← hW]
          exact hS.out.own.putF (k := 0) (j := 1) hrA.out hfA.out rfl (by decide) (fun w' h1 h2 h3 => ⟨h3.1, rfl, h3.2.2, h1, h2⟩)⟩
        have hpz : Aside0 (checkP chkP pz = ((0, 0), 1)) := ⟨by rw [hpz9]; exact grow_params hS.out.fit hfA.out⟩
        have hwZ : Aside0 (PWf pz) := ⟨by rw [hpz9]; exact wf_setF hS.out.wf (hS.out.wf.sm.fs f0 (List.mem_of_getElem? hfA.out))⟩
        obtain ⟨hv9, hu9, hpv⟩ := hownZ.out.view
        simp only at hv9 hu9 hpv
        have hpvZ := Aside0.mk hpv
        have hqz := hs.out.blk hS.out.q (fun e => hgG.out.2 e.symm)
        have q0 : Wz.cell? ⟨wd.heap.size, 0, none⟩ = some (.slice vZ pZ.consts.length vL) := blk_cell hqz 0
        have q1 : Wz.cell? ⟨wd.heap.size, 1, none⟩ = some (.slice (some ⟨gG, 0, none⟩) pZ.funcs.length uL) := blk_cell hqz 1
        rw [hv9] at q0
        rw [hu9] at q1
        have hchZ : Aside0 (Chg (fun _ => False) w Wz) := ⟨hS.out.ch.trans hs.out (fun b hb e => by have := hgG.out.1; have := hS.out.lw; omega)⟩
        clear hqz hpv hv9 hu9 hpz9 hW hs hownZ hS hk1 hnf
        go_wp2_with (go_at_call 16; go_must (refine (law_found Wz vZ (some ⟨gG, 0, none⟩) vL uL pz _ 0 0 1 hpvZ.out hwZ.out (cell_chg0 hEA.out hchZ.out) hpz.out).mono ?_); go_must (rintro e wk ⟨rfl, hwk⟩); go_must (replace hwk := Aside0.mk hwk))
        go_ret
        exact ⟨rfl, hchZ.out.trans hwk.out (fun _ _ h => h)⟩
end Go.Proofs.YtgaackedappmgaaDoor.K
