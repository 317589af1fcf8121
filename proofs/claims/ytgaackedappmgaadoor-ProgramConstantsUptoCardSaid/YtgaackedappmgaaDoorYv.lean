import Derived.Test.YtgaackedappmgaaDoorGw
import Derived.IntWalk
import Derived.BigQuiet
namespace Go.Proofs.YtgaackedappmgaaDoor.K
open Go.RowKit Go.Proofs.YtgaackedappmgaaDoorW.PrintWords Go.Proofs.YtgaackedappmgaaDoorW.PrintLast Go.Proofs.YtgaackedappmgaaDoorW.PrintMore
set_option linter.unusedVariables false
set_option linter.unusedSimpArgs false
set_option maxRecDepth 100000
theorem Oq.some {α : Type} {kd : Kd α} {e : TypeId} {w : World} {lo c n : Nat} {A : Option Addr} {l : List α} (h : Oq kd e w lo (A, n, c) l) (h0 : 0 < l.length) : ∃ g, A = some ⟨g, 0, none⟩ := by
  obtain ⟨g, cF, hBf, _⟩ := Kd.R_form h.1 h0
  unfold svl at hBf
  injection hBf with hBf
  exact ⟨g, hBf⟩
theorem POwn.putC {w : World} {lo gC n c k j : Nat} {vF : SV} {p : QP} {rs : List QR} {r r' : QC} {u : Value} (h : POwn w lo (some ⟨gC, 0, none⟩, n, c) vF p rs) (hx : p.consts[k]? = some r) (hr : ciQC r' = (ciQC r).set j u) (hj : j < 3) : POwn (w.setCell ⟨gC, k * 3 + j, none⟩ u) lo (some ⟨gC, 0, none⟩, n, c) vF ⟨p.consts.set k r', p.funcs⟩ rs := by
  have hs : Chg (fun b => b = gC) w (w.setCell ⟨gC, k * 3 + j, none⟩ u) := (Chg.refl (fun b => b = gC) w).setCell (p := ⟨gC, k * 3 + j, none⟩) (fun _ => rfl) _
  obtain ⟨cs, hcs⟩ := Kd.R_typed h.cs.1 gC rfl
  have hh : ∀ {ts : List TypeId}, 39 ∉ ts → HitsQ w lo (fun b => b = gC) ts := fun ht b cs' t hb _ he hm => by
    subst hb
    rw [hcs] at he
    injection he with he
    injection he with _ he
    rw [he] at ht
    exact ht hm
  exact ⟨Oq.put (cells := ciQC) kQC_K kQC_M rfl h.cs hx hr hj, h.fs.hit hs (hh (ts := [47]) (by decide)) (by decide), h.fn.hit hs (hh (by decide))⟩
theorem POwn.putC3 {w : World} {lo gC n c k : Nat} {vF : SV} {p : QP} {rs : List QR} {r : QC} (h : POwn w lo (some ⟨gC, 0, none⟩, n, c) vF p rs) (hx : p.consts[k]? = some r) (c' : QC) : POwn (((w.setCell ⟨gC, k * 3, none⟩ (.int .i64 c'.kind)).setCell ⟨gC, k * 3 + 1, none⟩ (.int .i64 c'.n)).setCell ⟨gC, k * 3 + 2, none⟩ (.string c'.text)) lo (some ⟨gC, 0, none⟩, n, c) vF ⟨p.consts.set k c', p.funcs⟩ rs := by
  have hk := (List.getElem?_eq_some_iff.1 hx).1
  have h1 := h.putC (j := 0) (r' := ⟨c'.kind, r.n, r.text⟩) (u := .int .i64 c'.kind) hx rfl (by decide)
  have h2 := h1.putC (k := k) (j := 1) (r := ⟨c'.kind, r.n, r.text⟩) (r' := ⟨c'.kind, c'.n, r.text⟩) (u := .int .i64 c'.n) (by simp only; rw [List.getElem?_set, if_pos rfl, if_pos hk]) rfl (by decide)
  have h3 := h2.putC (k := k) (j := 2) (r := ⟨c'.kind, c'.n, r.text⟩) (r' := c') (u := .string c'.text) (by simp only; rw [List.set_set, List.getElem?_set, if_pos rfl, if_pos hk]) rfl (by decide)
  simp only [List.set_set] at h3
  exact h3
theorem POwn.box {w : World} {lo b i : Nat} {vC vF : SV} {p : QP} {rs : List QR} {cs : Array Value} {t : TypeId} {u : Value} (h : POwn w lo vC vF p rs) (hb : w.heap[b]? = some (.cells cs t (0, 0))) (ht : t ∉ [39, 47, 50, 54]) : POwn (w.setCell ⟨b, i, none⟩ u) lo vC vF p rs := by
  have hs : Chg (fun k => k = b) w (w.setCell ⟨b, i, none⟩ u) := (Chg.refl (fun k => k = b) w).setCell (p := ⟨b, i, none⟩) (fun _ => rfl) _
  exact h.hit hs (fun b' cs' t' hb' _ he hm => by
    subst hb'
    rw [hb] at he
    injection he with he
    injection he with _ he
    rw [← he] at hm
    exact ht hm)
theorem POwn.addC {w w1 : World} {lo : Nat} {vC vF v' : SV} {p : QP} {rs : List QR} {cs' : List QC} (h : POwn w lo vC vF p rs) (hl : lo ≤ w.heap.size) (hc : Chg (fun b => (svl vC).ownBlock = some b) w w1) (hr : Kd.R kQC 39 w1 0 (New (fun b => (svl vC).ownBlock = some b) w w1) (svl v') cs') : POwn w1 lo v' vF ⟨cs', p.funcs⟩ rs :=
  ⟨Oq.app rfl h.cs hr hl, h.fs.hit hc (HitsQ.own (ts := [47]) h.cs (by decide)) (by decide), h.fn.hit hc (HitsQ.own h.cs (by decide))⟩
theorem POwn.new {w w' : World} {lo : Nat} {vC vF : SV} {p : QP} {rs : List QR} (h : POwn w lo vC vF p rs) (hc : Chg (fun _ => False) w w') : POwn w' lo vC vF p rs := h.hit hc HitsQ.no
theorem wf_ofV {p : QP} (ok : okQP p) (h : p.consts.length + (p.funcs.map (fun f => f.code.length + f.hnd.length + 1)).sum ≤ 1048576) : PWf p := by
  obtain ⟨h1, h2, h3⟩ := prog_small h
  exact ⟨⟨h1, h2, fun f hf => ⟨(ok.2.2 f hf).1, h3 f hf⟩⟩, fun c hc => ⟨(ok.1.2 c hc).1, (ok.1.2 c hc).2.1, by have := (ok.1.2 c hc).2.2; unfold maxLen; omega⟩⟩
theorem cwf_of {c : QC} (ok : okQC c) : CWf c := ⟨ok.1, ok.2.1, by have := ok.2.2; unfold maxLen; omega⟩
theorem wf_set {p : QP} {k : Nat} {c : QC} (h : PWf p) (hc : CWf c) : PWf ⟨p.consts.set k c, p.funcs⟩ := ⟨⟨by simp only [List.length_set]; exact h.sm.c, h.sm.f, h.sm.fs⟩, fun d hd => by
  rcases List.mem_or_eq_of_mem_set hd with h1 | h1
  · exact h.cs d h1
  · rw [h1]; exact hc⟩
theorem wf_add {p : QP} {c : QC} (h : PWf p) (hc : CWf c) (hn : p.consts.length < 1048576) : PWf ⟨p.consts ++ [c], p.funcs⟩ := ⟨⟨by simp only [List.length_append, List.length_singleton]; omega, h.sm.f, h.sm.fs⟩, fun d hd => by
  rcases List.mem_append.1 hd with h1 | h1
  · exact h.cs d h1
  · rw [List.mem_singleton.1 h1]; exact hc⟩
set_option maxHeartbeats 16000000
theorem law_programConstants (w : World) (cA fA : Option Addr) (cc fc : Nat) (p : QP) (rs : List QR) (i : Int) (c0 : QC) (hP : PV w cA fA p rs) (hw : PWf p) (hi : (Lit.int .i64 i).wf = true) (hc0 : CWf c0) (hE : w.cell? ⟨0, 0, none⟩ = some (.iface 114 (.agg #[.pointer (some ⟨2, 68, none⟩)]))) :
    Calls Tryd.prog 4 #[.agg #[.slice cA p.consts.length cc, .slice fA p.funcs.length fc], .int .i64 i, .agg #[.int .i64 c0.kind, .int .i64 c0.n, .string c0.text]] w fun e w' => e = .returned (.bool true) ∧ Chg (fun _ => False) w w' := by
  have hPA := Aside0.mk hP
  have hwA := Aside0.mk hw
  have hEA := Aside0.mk hE
  have hcode : Aside0 (∀ f ∈ p.funcs, f.code.length ≤ 1048576 ∧ f.hnd.length ≤ 1048576) := ⟨fun f hf => (hw.sm.fs f hf).2⟩
  have hn := hw.sm.c
  have hm := hw.sm.f
  have hc0A := Aside0.mk hc0
  have hi' : Aside0 (-9223372036854775808 ≤ i ∧ i ≤ 9223372036854775807) := ⟨by simp [Lit.wf, IntKind.min, IntKind.max, IntKind.signed, IntKind.bits] at hi; exact hi⟩
  clear hP hw hi hc0 hE
  by_cases hft : ¬ (checkP chkP p).2 = 0
  · have hfb : Aside0 (((checkP chkP p).2 == 0) = false) := ⟨by simpa using hft⟩
    clear hft
    go_enter Tryd.func4, Tryd.ntmps4
    go_upto_region 1 with (fail)
    (try simp only [Act.put, List.setIfInBounds_toArray, List.set_cons_zero, List.set_cons_succ])
    generalize hW : World.alloc (World.alloc w _) _ = W0
    have B1 : Aside0 (W0.heap[w.heap.size]? = some (.cells #[.slice cA p.consts.length cc, .slice fA p.funcs.length fc] 25)) := ⟨by rw [← hW]; exact ((Chg.refl (fun _ => False) (w.alloc _)).alloc _).blk (heap_alloc_new w _) (fun e => e)⟩
    have B2 : Aside0 (W0.heap[w.heap.size + 1]? = some (.cells #[.int .i64 c0.kind, .int .i64 c0.n, .string c0.text] 39)) := ⟨by rw [← hW]; exact heap_alloc2_new w _ _⟩
    have hz0 : Aside0 (Chg (fun _ => False) w W0) := ⟨by rw [← hW]; exact cg⟩
    clear hW
    have hlo2 : Aside0 (w.heap.size + 1 < W0.heap.size) := ⟨blk_lt B2.out⟩
    have p0 : W0.cell? ⟨w.heap.size, 0, none⟩ = some (.slice cA p.consts.length cc) := blk_cell B1.out 0
    have p1 : W0.cell? ⟨w.heap.size, 1, none⟩ = some (.slice fA p.funcs.length fc) := blk_cell B1.out 1
    go_upto_region 2 with (go_at_call 15; go_must (refine (law_fits _ cA fA cc fc p rs false (hPA.out.below bl) hwA.out.sm hfb.out).mono ?_); go_must (rintro e wa ⟨rfl, hwa⟩); go_must (replace hwa := Aside0.mk hwa))
    (try simp only [Act.put, List.setIfInBounds_toArray, List.set_cons_zero, List.set_cons_succ])
    clear p0 p1
    have p0 : wa.cell? ⟨w.heap.size, 0, none⟩ = some (.slice cA p.consts.length cc) := blk_cell (hwa.out.blk B1.out (fun h => h)) 0
    have p1 : wa.cell? ⟨w.heap.size, 1, none⟩ = some (.slice fA p.funcs.length fc) := blk_cell (hwa.out.blk B1.out (fun h => h)) 1
    go_wp2_with (go_at_call 15; go_must (refine (law_fits _ cA fA cc fc p rs false (hPA.out.below bl) hwA.out.sm hfb.out).mono ?_); go_must (rintro e wb ⟨rfl, hwb⟩); go_must (replace hwb := Aside0.mk hwb))
    go_ret
    exact ⟨rfl, cg⟩
  replace hft := Classical.not_not.1 hft
  have hfb : Aside0 (((checkP chkP p).2 == 0) = true) := ⟨by simpa using hft⟩
  have hfit := Aside0.mk (fits_of hft)
  have hchk := Aside0.mk (fits_check hfit.out)
  clear hft
  go_enter Tryd.func4, Tryd.ntmps4
  go_upto_region 1 with (fail)
  (try simp only [Act.put, List.setIfInBounds_toArray, List.set_cons_zero, List.set_cons_succ])
  generalize hW : World.alloc (World.alloc w _) _ = W0
  have B1 : Aside0 (W0.heap[w.heap.size]? = some (.cells #[.slice cA p.consts.length cc, .slice fA p.funcs.length fc] 25)) := ⟨by rw [← hW]; exact ((Chg.refl (fun _ => False) (w.alloc _)).alloc _).blk (heap_alloc_new w _) (fun e => e)⟩
  have B2 : Aside0 (W0.heap[w.heap.size + 1]? = some (.cells #[.int .i64 c0.kind, .int .i64 c0.n, .string c0.text] 39)) := ⟨by rw [← hW]; exact heap_alloc2_new w _ _⟩
  have hz0 : Aside0 (Chg (fun _ => False) w W0) := ⟨by rw [← hW]; exact cg⟩
  clear hW
  have hlo2 : Aside0 (w.heap.size + 1 < W0.heap.size) := ⟨blk_lt B2.out⟩
  have p0 : W0.cell? ⟨w.heap.size, 0, none⟩ = some (.slice cA p.consts.length cc) := blk_cell B1.out 0
  have p1 : W0.cell? ⟨w.heap.size, 1, none⟩ = some (.slice fA p.funcs.length fc) := blk_cell B1.out 1
  go_upto_region 3 with (first | (go_at_call 15; go_must (refine (law_fits _ cA fA cc fc p rs true (hPA.out.below bl) hwA.out.sm hfb.out).mono ?_); go_must (rintro e wa ⟨rfl, hwa⟩); go_must (have p0a : wa.cell? ⟨w.heap.size, 0, none⟩ = some (.slice cA p.consts.length cc) := blk_cell (hwa.blk B1.out (fun h => h)) 0); go_must (have p1a : wa.cell? ⟨w.heap.size, 1, none⟩ = some (.slice fA p.funcs.length fc) := blk_cell (hwa.blk B1.out (fun h => h)) 1); go_must (replace hwa := Aside0.mk hwa)) | (go_at_call 14; go_must (refine (ref_CopyProgram _ cA fA cc fc p rs (hPA.out.below bl) hn hm hcode.out).mono ?_); go_must (rintro e wb ⟨⟨vA, vN, vK⟩, ⟨uA, uN, uK⟩, rs', rfl, how, hwb⟩); go_must (obtain ⟨hv9, hu9, hpv⟩ := how.view); go_must (simp only at hv9 hu9 hpv); go_must (subst hv9); go_must (subst hu9); go_must (simp only [svl]); go_must (replace how := Aside0.mk how); go_must (replace hpv := Aside0.mk hpv); go_must (replace hwb := Aside0.mk hwb)) | (go_at_call 16; go_must (refine (law_found _ vA uA vK uK p rs' 0 0 0 hpv.out hwA.out (cell_chg0 hEA.out cg) hchk.out).mono ?_); go_must (rintro e wc ⟨rfl, hwc⟩); go_must (replace hwc := Aside0.mk hwc)))
  (try simp only [Act.put, List.setIfInBounds_toArray, List.set_cons_zero, List.set_cons_succ])
  have hzc : Aside0 (Chg (fun _ => False) W0 wc) := ⟨cg⟩
  replace hz0 := Aside0.mk (hz0.out.trans hzc.out (fun _ _ h => h))
  replace B1 := Aside0.mk (hzc.out.blk B1.out (fun h => h))
  replace B2 := Aside0.mk (hzc.out.blk B2.out (fun h => h))
  clear p0 p1 p0a p1a hzc hwa hwb hwc how hpv
  have p0 : wc.cell? ⟨w.heap.size, 0, none⟩ = some (.slice cA p.consts.length cc) := blk_cell B1.out 0
  by_cases hl0 : p.consts.length = 0
  · have h1 : ((p.consts.length : Int) == 0) = true := by simpa using hl0
    clear hl0
    go_wp2
    go_ret
    exact ⟨rfl, hz0.out⟩
  have h1 : ((p.consts.length : Int) == 0) = false := by simpa using hl0
  by_cases hl1 : 512 ≤ p.consts.length
  · have h2 : (512 : Int) ≤ p.consts.length := by omega
    go_wp2
    go_ret
    exact ⟨rfl, hz0.out⟩
  have h2 : ¬ (512 : Int) ≤ p.consts.length := by omega
  obtain ⟨hk1, hk2⟩ := pickQ_lt (k := i) (n := p.consts.length) (by omega)
  obtain ⟨k, hk⟩ := Int.eq_ofNat_of_zero_le hk1
  have hpick : Aside0 (∀ W, Calls Tryd.prog 17 #[.int .i64 i, .int .i64 (p.consts.length : Int)] W fun e w' => e = .returned (.int .i64 (k : Int)) ∧ w' = W) := ⟨fun W => by rw [← hk]; exact kit_PickQ W i _ hi'.out.1 hi'.out.2 (by omega)⟩
  have hkl : k < p.consts.length := by omega
  have hl1A : Aside0 (p.consts.length < 512) := ⟨by omega⟩
  clear hk hk1 hk2 hl0 hl1
  go_upto_region 7 with (go_at_call 17; go_must (refine (hpick.out _).mono ?_); go_must (rintro e wn ⟨rfl, hwn⟩); go_must (subst wn))
  (try simp only [Act.put, List.setIfInBounds_toArray, List.set_cons_zero, List.set_cons_succ])
  clear p0 h1 h2 hpick
  have p0 : wc.cell? ⟨w.heap.size, 0, none⟩ = some (.slice cA p.consts.length cc) := blk_cell B1.out 0
  have p1 : wc.cell? ⟨w.heap.size, 1, none⟩ = some (.slice fA p.funcs.length fc) := blk_cell B1.out 1
  go_upto_region 8 with (go_at_call 14; go_must (refine (ref_CopyProgram _ cA fA cc fc p rs (hPA.out.below bl) hn hm hcode.out).mono ?_); go_must (rintro e wd ⟨⟨vA, vN, vK⟩, ⟨uA, uN, uK⟩, rs', rfl, how, hwd⟩); go_must (obtain ⟨hv9, hu9, hpv⟩ := how.view); go_must (simp only at hv9 hu9 hpv); go_must (subst hv9); go_must (subst hu9); go_must (simp only [svl]); go_must (replace how := Aside0.mk how); go_must (replace hpv := Aside0.mk hpv); go_must (replace hwd := Aside0.mk hwd))
  (try simp only [Act.put, List.setIfInBounds_toArray, List.set_cons_zero, List.set_cons_succ])
  generalize hW : World.alloc wd _ = Wd
  have B3 : Aside0 (Wd.heap[wd.heap.size]? = some (.cells #[.slice vA p.consts.length vK, .slice uA p.funcs.length uK] 25)) := ⟨by rw [← hW]; exact heap_alloc_new wd _⟩
  have hzq : Aside0 (Chg (fun _ => False) wd Wd) := ⟨by rw [← hW]; exact cg⟩
  clear hW
  have hlo : Aside0 (w.heap.size < wc.heap.size ∧ wc.heap.size ≤ wd.heap.size ∧ w.heap.size + 1 < wc.heap.size) := ⟨blk_lt B1.out, hwd.out.size, blk_lt B2.out⟩
  have hzd : Aside0 (Chg (fun _ => False) wc Wd) := ⟨cg⟩
  replace hz0 := Aside0.mk (hz0.out.trans hzd.out (fun _ _ h => h))
  replace B1 := Aside0.mk (hzd.out.blk B1.out (fun h => h))
  replace B2 := Aside0.mk (hzd.out.blk B2.out (fun h => h))
  replace how := Aside0.mk (how.out.new hzq.out)
  obtain ⟨gC, e1⟩ := Oq.some how.out.cs (by omega)
  subst e1
  obtain ⟨kd1, n1, t1, e2, x0, x1, x2⟩ := kQC_own how.out.cs.toC k hkl
  have hck := Aside0.mk e2
  have hcw : Aside0 (CWf ⟨kd1, n1, t1⟩) := ⟨hwA.out.cs _ (List.mem_of_getElem? e2)⟩
  have hb2 : Aside0 (checkP chkP ⟨p.consts ++ [⟨kd1, n1, t1⟩], p.funcs⟩ = ((-1, (p.consts.length : Int)), 15)) := ⟨check_const_twice hfit.out hl1A.out e2⟩
  have y0 : Wd.cell? ⟨wd.heap.size, 0, none⟩ = some (.slice (some ⟨gC, 0, none⟩) p.consts.length vK) := blk_cell B3.out 0
  have hk0 : (0 : Int) ≤ k := by omega
  have hk1 : (k : Int) < p.consts.length := by omega
  have hl : Aside0 ((p.consts.length + 1) * 32 ≤ 140737488355328) := ⟨by have := hfit.out.nc; omega⟩
  have hRd := own_new how.out.cs.1
  have hCd : Aside0 (Chg (fun b => (svl (some ⟨gC, 0, none⟩, p.consts.length, vK)).ownBlock = some b) Wd Wd.drew) := ⟨(Chg.refl _ _).drew⟩
  have hno : Aside0 (¬ (svl (some ⟨gC, 0, none⟩, p.consts.length, vK)).ownBlock = some wd.heap.size) := ⟨fun e => Oq.ne_blk how.out.cs B3.out (by decide) e rfl⟩
  clear p0 p1 e2 hzd hzq hpv hwd
  refine start_ (n := 11) (S := fun w' => w'.cell? ⟨wd.heap.size, 0, none⟩ = some (.slice (some ⟨gC, 0, none⟩) p.consts.length vK) ∧ w'.cell? ⟨gC, k * 3, none⟩ = some (.int .i64 kd1) ∧ w'.cell? ⟨gC, k * 3 + 1, none⟩ = some (.int .i64 n1) ∧ w'.cell? ⟨gC, k * 3 + 2, none⟩ = some (.string t1)) (ds := [8, 10]) #[false, false, false, false, false, false, false, false, false, false, false] (by kernel_rfl) rfl rfl ⟨y0, x0, x1, x2⟩ (fun hHeld => ?_)
  refine pure_ (i := 0) (N := some 36) (v := ?_) (a' := ?_) #[true, false, false, false, false, false, false, false, false, false, false] rfl rfl (by kernel_rfl) (fun _ _ _ h => h) (Or.inl ⟨by rfl, ?_⟩) ?_ ?_
  rotate_left
  · intro w'
    go_simp
    with_reducible rfl
  rotate_left
  · simp only [Act.put, List.setIfInBounds_toArray, List.set_cons_zero, List.set_cons_succ, i64_w, i32_w]
    rfl
  refine pure_ (i := 2) (N := some 38) (v := ?_) (a' := ?_) #[true, false, true, false, false, false, false, false, false, false, false] rfl rfl (by kernel_rfl) (fun _ _ _ h => h) (Or.inl ⟨by rfl, ?_⟩) ?_ ?_
  rotate_left
  · intro w'
    go_simp
    with_reducible rfl
  rotate_left
  · simp only [Act.put, List.setIfInBounds_toArray, List.set_cons_zero, List.set_cons_succ, i64_w, i32_w]
    rfl
  refine pure_ (i := 4) (N := some 40) (v := ?_) (a' := ?_) #[true, false, true, false, true, false, false, false, false, false, false] rfl rfl (by kernel_rfl) (fun _ _ _ h => h) (Or.inl ⟨by rfl, ?_⟩) ?_ ?_
  rotate_left
  · intro w'
    go_simp
    with_reducible rfl
  rotate_left
  · simp only [Act.put, List.setIfInBounds_toArray, List.set_cons_zero, List.set_cons_succ, i64_w, i32_w]
    rfl
  refine take_ (i := 1) (N := some 37) (v := ?_) (a' := ?_) #[true, true, true, false, true, false, false, false, false, false, false] rfl rfl (by kernel_rfl) (fun _ _ _ h => h) (Or.inl ⟨by rfl, ?_⟩) hHeld ?_ ?_
  rotate_left
  · rintro w' ⟨s0, s1, s2, s3⟩
    go_simp
    with_reducible rfl
  rotate_left
  · simp only [Act.put, List.setIfInBounds_toArray, List.set_cons_zero, List.set_cons_succ, i64_w, i32_w]
    rfl
  refine take_ (i := 3) (N := some 39) (v := ?_) (a' := ?_) #[true, true, true, true, true, false, false, false, false, false, false] rfl rfl (by kernel_rfl) (fun _ _ _ h => h) (Or.inl ⟨by rfl, ?_⟩) hHeld ?_ ?_
  rotate_left
  · rintro w' ⟨s0, s1, s2, s3⟩
    go_simp
    with_reducible rfl
  rotate_left
  · simp only [Act.put, List.setIfInBounds_toArray, List.set_cons_zero, List.set_cons_succ, i64_w, i32_w]
    rfl
  refine pure_ (i := 5) (N := some 41) (v := ?_) (a' := ?_) #[true, true, true, true, true, true, false, false, false, false, false] rfl rfl (by kernel_rfl) (fun _ _ _ h => h) (Or.inl ⟨by rfl, ?_⟩) ?_ ?_
  rotate_left
  · intro w'
    go_simp
    with_reducible rfl
  rotate_left
  · simp only [Act.put, List.setIfInBounds_toArray, List.set_cons_zero, List.set_cons_succ, i64_w, i32_w]
    rfl
  refine take_ (i := 6) (N := some 42) (v := ?_) (a' := ?_) #[true, true, true, true, true, true, true, false, false, false, false] rfl rfl (by kernel_rfl) (fun _ _ _ h => h) (Or.inl ⟨by rfl, ?_⟩) hHeld ?_ ?_
  rotate_left
  · rintro w' ⟨s0, s1, s2, s3⟩
    go_simp
    with_reducible rfl
  rotate_left
  · simp only [Act.put, List.setIfInBounds_toArray, List.set_cons_zero, List.set_cons_succ, i64_w, i32_w]
    rfl
  refine one_ (i := 7) (N := some 43) #[true, true, true, true, true, true, true, true, false, false, false] rfl rfl (by kernel_rfl) (by decide) (fun K hK => ?_)
  refine value_ (w1 := ?_) (v := ?_) (by rfl) rfl ?_ ?_
  rotate_left 2
  · go_simp
    constructor
    · rfl
    · rfl
  refine hK.out _ _ ⟨(cellQ hHeld.1 _), (cellQ hHeld.2.1 _), (cellQ hHeld.2.2.1 _), (cellQ hHeld.2.2.2 _)⟩ (fun hHeld => ?_)
  clear hK K
  refine norm_ (a' := ?_) ?_ ?_
  rotate_left
  · show Act.put _ (some 43) _ = _
    simp only [Act.put, List.setIfInBounds_toArray, List.set_cons_zero, List.set_cons_succ, i64_w, i32_w]
    rfl
  refine last_ (i := 8) (N := some 44) #[true, true, true, true, true, true, true, true, true, false, false] rfl rfl (by kernel_rfl) (by decide) (fun K hK => ?_)
  refine app1T kQC (by rfl) (.tmp 37) (.tmp 43) (by rfl) Tryd.underlying22 infoQC rfl (by decide) (by decide) ⟨kd1, n1, t1⟩ (by rfl) (by rfl) (kQC_M _ _ _ _) hRd hCd hl ?_
  intro v1 we hr2 hc2
  obtain ⟨A2, n2, c2, rfl⟩ := R_sl hr2.out
  have fz := blk_frozen (hc2.out.blk B3.out hno.out) 0
  have y0' : we.cell? ⟨wd.heap.size, 0, none⟩ = some (.slice (some ⟨gC, 0, none⟩) p.consts.length vK) := blk_cell (hc2.out.blk B3.out hno.out) 0
  refine hK.out _ _ ?_
  clear hK K
  refine norm_ (a' := ?_) ?_ ?_
  rotate_left
  · show Act.put _ (some 44) _ = _
    simp only [Act.put, List.setIfInBounds_toArray, List.set_cons_zero, List.set_cons_succ, i64_w, i32_w]
    rfl
  refine pure_ (i := 9) (N := some 45) (v := ?_) (a' := ?_) #[true, true, true, true, true, true, true, true, true, true, false] rfl rfl (by kernel_rfl) (fun _ _ _ h => h) (Or.inl ⟨by rfl, ?_⟩) ?_ ?_
  rotate_left
  · intro w'
    go_simp
    with_reducible rfl
  rotate_left
  · simp only [Act.put, List.setIfInBounds_toArray, List.set_cons_zero, List.set_cons_succ, i64_w, i32_w]
    rfl
  refine last_ (i := 10) (N := none) #[true, true, true, true, true, true, true, true, true, true, true] rfl rfl (by kernel_rfl) (by decide) (fun K hK => ?_)
  refine skip_ (w1 := ?_) (by rfl) rfl ?_ ?_
  rotate_left
  · go_simp
    rfl
  refine hK.out _ _ ?_
  clear hK K
  refine done_ (by kernel_rfl) ?_
  generalize hW : World.setCell we _ _ = We
  have hs : Aside0 (Chg (fun b => b = wd.heap.size) we We) := ⟨by rw [← hW]; exact (Chg.refl (fun b => b = wd.heap.size) we).setCell (p := ⟨wd.heap.size, 0, none⟩) (fun _ => rfl) _⟩
  have B3x : Aside0 (We.heap[wd.heap.size]? = some (.cells #[.slice A2 n2 c2, .slice uA p.funcs.length uK] 25)) := ⟨by rw [← hW]; exact blk_set (hc2.out.blk B3.out hno.out) 0 _⟩
  have hown : Aside0 (POwn We wc.heap.size (A2, n2, c2) (uA, p.funcs.length, uK) ⟨p.consts ++ [⟨kd1, n1, t1⟩], p.funcs⟩ rs') := ⟨by rw [← hW]; exact (how.out.addC (v' := (A2, n2, c2)) (by have := blk_lt B3.out; have := hlo.out.2.1; omega) hc2.out hr2.out).box (hc2.out.blk B3.out hno.out) (by decide)⟩
  have hze : Aside0 (Chg (fun _ => False) w We) := ⟨(hz0.out.trans hc2.out (fun b hb e => by have := how.out.cs.2 b e; have := hlo.out.1; omega)).trans hs.out (fun b hb e => by have := hlo.out; omega)⟩
  replace B1 := Aside0.mk (hs.out.blk (hc2.out.blk B1.out (fun e => by have := how.out.cs.2 _ e; have := hlo.out.1; omega)) (by have := hlo.out; omega))
  replace B2 := Aside0.mk (hs.out.blk (hc2.out.blk B2.out (fun e => by have := how.out.cs.2 _ e; have := hlo.out; omega)) (by have := hlo.out; omega))
  clear hW hs hc2 hr2 hno hRd hCd hl y0 x0 x1 x2 how B3 fz
  have hwf2 : Aside0 (PWf ⟨p.consts ++ [⟨kd1, n1, t1⟩], p.funcs⟩) := ⟨wf_add hwA.out hcw.out (by have := hl1A.out; omega)⟩
  obtain ⟨p2, hp2⟩ : ∃ p2 : QP, p2 = ⟨p.consts ++ [⟨kd1, n1, t1⟩], p.funcs⟩ := ⟨_, rfl⟩
  rw [← hp2] at hown hb2 hwf2
  obtain ⟨hv9, hu9, hpv⟩ := hown.out.view
  simp only at hv9 hu9 hpv
  subst hv9
  have hpvA := Aside0.mk hpv
  have q0 : We.cell? ⟨wd.heap.size, 0, none⟩ = some (.slice A2 p2.consts.length c2) := blk_cell B3x.out 0
  have q1 : We.cell? ⟨wd.heap.size, 1, none⟩ = some (.slice uA p.funcs.length uK) := blk_cell B3x.out 1
  rw [hu9] at q1
  have hfd : Aside0 (Calls Tryd.prog 16 #[.agg #[.slice A2 p2.consts.length c2, .slice uA p2.funcs.length uK], .int .i64 15, .int .i64 (-1), .int .i64 (p.consts.length : Int)] We fun e w' => e = .returned (.bool true) ∧ Chg (fun _ => False) We w') := ⟨law_found We A2 uA c2 uK _ rs' (-1) _ 15 hpvA.out hwf2.out (cell_chg0 hEA.out hze.out) hb2.out⟩
  clear hpv hu9 hp2 hwf2
  go_upto_region 11 with (go_at_call 16; go_must (refine hfd.out.mono ?_); go_must (rintro e wf ⟨rfl, hwf⟩); go_must (replace hwf := Aside0.mk hwf))
  (try simp only [Act.put, List.setIfInBounds_toArray, List.set_cons_zero, List.set_cons_succ])
  replace hze := Aside0.mk (hze.out.trans hwf.out (fun _ _ h => h))
  replace B1 := Aside0.mk (hwf.out.blk B1.out (fun h => h))
  replace B2 := Aside0.mk (hwf.out.blk B2.out (fun h => h))
  replace B3x := Aside0.mk (hwf.out.blk B3x.out (fun h => h))
  clear q0 q1 hfd hpvA hown hwf hb2
  have p0 : wf.cell? ⟨w.heap.size, 0, none⟩ = some (.slice cA p.consts.length cc) := blk_cell B1.out 0
  have p1 : wf.cell? ⟨w.heap.size, 1, none⟩ = some (.slice fA p.funcs.length fc) := blk_cell B1.out 1
  go_upto_region 12 with (go_at_call 14; go_must (refine (ref_CopyProgram _ cA fA cc fc p rs (hPA.out.below bl) hn hm hcode.out).mono ?_); go_must (rintro e wg ⟨⟨vAg, vNg, vKg⟩, ⟨uAg, uNg, uKg⟩, rs'g, rfl, howg, hwg⟩); go_must (obtain ⟨hv9, hu9, hpvg⟩ := howg.view); go_must (simp only at hv9 hu9 hpvg); go_must (subst hv9); go_must (subst hu9); go_must (simp only [svl]); go_must (replace howg := Aside0.mk howg); go_must (replace hpvg := Aside0.mk hpvg); go_must (replace hwg := Aside0.mk hwg); go_must (have B3g := hwg.out.blk B3x.out (fun h => h)); go_must (have t0 := blk_cell B3g 0); go_must (have t1 := blk_cell B3g 1); go_must (have u0 := blk_frozen B3g 0); go_must (have u1 := blk_frozen B3g 1); go_must (replace B3g := Aside0.mk B3g))
  (try simp only [Act.put, List.setIfInBounds_toArray, List.set_cons_zero, List.set_cons_succ])
  clear t0 t1 u0 u1 p0 p1
  generalize hW : World.setCell (World.setCell wg _ _) _ _ = Wg
  have hs : Aside0 (Chg (fun b => b = wd.heap.size) wg Wg) := ⟨by rw [← hW]; exact (Chg.setCell (Chg.setCell (Chg.refl (fun k => k = wd.heap.size) wg) (p := ⟨wd.heap.size, 0, none⟩) (fun _ => rfl) (.slice vAg p.consts.length vKg)) (p := ⟨wd.heap.size, 1, none⟩) (fun _ => rfl) (.slice uAg p.funcs.length uKg))⟩
  have B3 : Aside0 (Wg.heap[wd.heap.size]? = some (.cells #[.slice vAg p.consts.length vKg, .slice uAg p.funcs.length uKg] 25)) := ⟨by rw [← hW]; exact blk_set (blk_set B3g.out 0 (.slice vAg p.consts.length vKg)) 1 (.slice uAg p.funcs.length uKg)⟩
  have how : Aside0 (POwn Wg wf.heap.size (vAg, p.consts.length, vKg) (uAg, p.funcs.length, uKg) p rs'g) := ⟨by rw [← hW]; exact (howg.out.box B3g.out (by decide)).box (blk_set B3g.out 0 _) (by decide)⟩
  have hzg : Aside0 (Chg (fun _ => False) w Wg) := ⟨(hze.out.trans hwg.out (fun _ _ h => h)).trans hs.out (fun b hb e => by have := hlo.out; omega)⟩
  replace B1 := Aside0.mk (hs.out.blk (hwg.out.blk B1.out (fun h => h)) (by have := hlo.out; omega))
  replace B2 := Aside0.mk (hs.out.blk (hwg.out.blk B2.out (fun h => h)) (by have := hlo.out; omega))
  have hlo3 : Aside0 (w.heap.size < wf.heap.size ∧ wd.heap.size < wf.heap.size ∧ w.heap.size + 1 < wf.heap.size) := ⟨by have h1 := blk_lt B3x.out; have := hlo.out; omega⟩
  clear hW hs B3g B3x howg hpvg hwg hze
  obtain ⟨gD, e1⟩ := Oq.some how.out.cs (by omega)
  subst e1
  obtain ⟨kd2, n2', t2, e2, x0, x1, x2⟩ := kQC_own how.out.cs.toC k hkl
  rw [hck.out] at e2
  injection e2 with e2
  injection e2 with e2 e3 e4
  subst e2 e3 e4
  obtain ⟨cu, hcu⟩ := Kd.R_typed how.out.cs.1 gD rfl
  have hgD : Aside0 (gD ≠ wd.heap.size ∧ wf.heap.size ≤ gD) := ⟨Oq.ne_blk how.out.cs B3.out (by decide) rfl, how.out.cs.2 gD rfl⟩
  have f0 := blk_frozen hcu (k * 3)
  have f1 := blk_frozen hcu (k * 3 + 1)
  have f2 := blk_frozen hcu (k * 3 + 2)
  have hcuA := Aside0.mk hcu
  have x0A := Aside0.mk x0
  have x1A := Aside0.mk x1
  have x2A := Aside0.mk x2
  clear hcu
  have q0 : Wg.cell? ⟨wd.heap.size, 0, none⟩ = some (.slice (some ⟨gD, 0, none⟩) p.consts.length vKg) := blk_cell B3.out 0
  have q1 : Wg.cell? ⟨wd.heap.size, 1, none⟩ = some (.slice uAg p.funcs.length uKg) := blk_cell B3.out 1
  have z0 : Wg.cell? ⟨w.heap.size + 1, 0, none⟩ = some (.int .i64 c0.kind) := blk_cell B2.out 0
  have z1 : Wg.cell? ⟨w.heap.size + 1, 1, none⟩ = some (.int .i64 c0.n) := blk_cell B2.out 1
  have z2 : Wg.cell? ⟨w.heap.size + 1, 2, none⟩ = some (.string c0.text) := blk_cell B2.out 2
  by_cases hk34 : c0.kind ≠ 3 ∧ c0.kind ≠ 4
  · have d3 : (c0.kind != 3) = true := by simpa using hk34.1
    have d4 : (c0.kind != 4) = true := by simpa using hk34.2
    have hb0 : baseC c0 = 4 := by simp [baseC, hk34]
    have hp3 : Aside0 (checkP chkP ⟨p.consts.set k c0, p.funcs⟩ = ((-1, (k : Int)), 4)) := ⟨by have := check_const_set (c' := c0) hfit.out hck.out (by rw [hb0]; decide); rw [hb0] at this; exact this⟩
    clear hk34 hb0
    go_upto_region 14 with (fail)
    (try simp only [Act.put, List.setIfInBounds_toArray, List.set_cons_zero, List.set_cons_succ])
    generalize hW : World.setCell (World.setCell (World.setCell Wg _ _) _ _) _ _ = Wh
    have hs : Aside0 (Chg (fun b => b = gD) Wg Wh) := ⟨by rw [← hW]; exact (Chg.setCell (Chg.setCell (Chg.setCell (Chg.refl (fun b => b = gD) Wg) (p := ⟨gD, k * 3, none⟩) (fun _ => rfl) (.int .i64 c0.kind)) (p := ⟨gD, k * 3 + 1, none⟩) (fun _ => rfl) (.int .i64 c0.n)) (p := ⟨gD, k * 3 + 2, none⟩) (fun _ => rfl) (.string c0.text))⟩
    have hown3 : Aside0 (POwn Wh wf.heap.size (some ⟨gD, 0, none⟩, p.consts.length, vKg) (uAg, p.funcs.length, uKg) ⟨p.consts.set k c0, p.funcs⟩ rs'g) := ⟨by rw [← hW]; exact how.out.putC3 hck.out c0⟩
    have hwf3 : Aside0 (PWf ⟨p.consts.set k c0, p.funcs⟩) := ⟨wf_set hwA.out hc0A.out⟩
    obtain ⟨p3, hp3e⟩ : ∃ p3 : QP, p3 = ⟨p.consts.set k c0, p.funcs⟩ := ⟨_, rfl⟩
    have hp3f := Aside0.mk hp3e
    rw [← hp3e] at hown3 hwf3 hp3
    obtain ⟨hv9, hu9, hpv⟩ := hown3.out.view
    simp only at hv9 hu9 hpv
    have hpvA := Aside0.mk hpv
    replace B3 := Aside0.mk (hs.out.blk B3.out (fun e => hgD.out.1 e.symm))
    clear q0 q1
    have q0 : Wh.cell? ⟨wd.heap.size, 0, none⟩ = some (.slice (some ⟨gD, 0, none⟩) p.consts.length vKg) := blk_cell B3.out 0
    have q1 : Wh.cell? ⟨wd.heap.size, 1, none⟩ = some (.slice uAg p.funcs.length uKg) := blk_cell B3.out 1
    rw [hv9] at q0
    rw [hu9] at q1
    replace hv9 := Aside0.mk hv9
    replace hzg := Aside0.mk (hzg.out.trans hs.out (fun b hb e => by have := hgD.out.2; have := hlo3.out; omega))
    clear hpv hu9 hp3e hW
    go_wp2_with (go_at_call 16; go_must (refine (law_found Wh (some ⟨gD, 0, none⟩) uAg vKg uKg p3 rs'g (-1) (k : Int) 4 hpvA.out hwf3.out (cell_chg0 hEA.out hzg.out) hp3.out).mono ?_); go_must (rintro e wk ⟨rfl, hwk⟩); go_must (replace hwk := Aside0.mk hwk))
    go_ret
    exact ⟨rfl, hzg.out.trans hwk.out (fun _ _ h => h)⟩
  · have hb0 : baseC ⟨kd1, n1, t1⟩ = 0 := by
      have := hfit.out.cs k _ hck.out
      unfold constP at this
      by_cases hb : baseC ⟨kd1, n1, t1⟩ ≠ 0
      · rw [if_pos hb] at this; exact this
      · exact Classical.not_not.1 hb
    have hd : ((c0.kind != 3) = true ∧ (c0.kind != 4) = false) ∨ (c0.kind != 3) = false := by
      by_cases h3 : c0.kind = 3
      · exact Or.inr (by simpa using h3)
      · refine Or.inl ⟨by simpa using h3, ?_⟩
        have : c0.kind = 4 := Classical.byContradiction (fun h4 => hk34 ⟨h3, h4⟩)
        simpa using this
    have hkk : kd1 = 3 ∨ kd1 = 4 := by
      apply Classical.byContradiction
      intro hnn
      have : baseC ⟨kd1, n1, t1⟩ = 4 := by simp only [baseC]; rw [if_pos hnn]
      rw [this] at hb0
      exact absurd hb0 (by decide)
    clear hk34 hb0
    rcases hkk with hkk | hkk
    · subst hkk
      have hp3 : Aside0 (checkP chkP ⟨p.consts.set k ⟨3, n1, ⟨#[120]⟩⟩, p.funcs⟩ = ((-1, (k : Int)), 4)) := ⟨by
        have hb1 : baseC ⟨3, n1, ⟨#[120]⟩⟩ = 4 := by simp [baseC, show (⟨#[120]⟩ : ByteArray) ≠ ByteArray.empty by decide]
        have := check_const_set (c' := ⟨3, n1, ⟨#[120]⟩⟩) hfit.out hck.out (by rw [hb1]; decide)
        rw [hb1] at this
        exact this⟩
      rcases hd with ⟨d3, d4⟩ | d3
      all_goals
        go_upto_region 18 with (fail)
        (try simp only [Act.put, List.setIfInBounds_toArray, List.set_cons_zero, List.set_cons_succ])
        generalize hW : World.setCell Wg _ _ = Wh
        have hs : Aside0 (Chg (fun b => b = gD) Wg Wh) := ⟨by rw [← hW]; exact (Chg.setCell (Chg.refl (fun b => b = gD) Wg) (p := ⟨gD, k * 3 + 2, none⟩) (fun _ => rfl) (.string ⟨#[120]⟩))⟩
        have hown3 : Aside0 (POwn Wh wf.heap.size (some ⟨gD, 0, none⟩, p.consts.length, vKg) (uAg, p.funcs.length, uKg) ⟨p.consts.set k ⟨3, n1, ⟨#[120]⟩⟩, p.funcs⟩ rs'g) := ⟨by rw [← hW]; exact how.out.putC (j := 2) hck.out rfl (by decide)⟩
        have hwf3 : Aside0 (PWf ⟨p.consts.set k ⟨3, n1, ⟨#[120]⟩⟩, p.funcs⟩) := ⟨wf_set hwA.out ⟨by show (Lit.int .i64 3).wf = true; decide, hcw.out.n, by show (⟨#[120]⟩ : ByteArray).size ≤ maxLen; decide⟩⟩
        obtain ⟨p3, hp3e⟩ : ∃ p3 : QP, p3 = ⟨p.consts.set k ⟨3, n1, ⟨#[120]⟩⟩, p.funcs⟩ := ⟨_, rfl⟩
        have hp3f := Aside0.mk hp3e
        rw [← hp3e] at hown3 hwf3 hp3
        obtain ⟨hv9, hu9, hpv⟩ := hown3.out.view
        simp only at hv9 hu9 hpv
        have hpvA := Aside0.mk hpv
        replace B3 := Aside0.mk (hs.out.blk B3.out (fun e => hgD.out.1 e.symm))
        clear q0 q1
        have q0 : Wh.cell? ⟨wd.heap.size, 0, none⟩ = some (.slice (some ⟨gD, 0, none⟩) p.consts.length vKg) := blk_cell B3.out 0
        have q1 : Wh.cell? ⟨wd.heap.size, 1, none⟩ = some (.slice uAg p.funcs.length uKg) := blk_cell B3.out 1
        rw [hv9] at q0
        rw [hu9] at q1
        replace hv9 := Aside0.mk hv9
        replace hzg := Aside0.mk (hzg.out.trans hs.out (fun b hb e => by have := hgD.out.2; have := hlo3.out; omega))
        clear hpv hu9 hp3e hW
        go_upto_region 20 with (go_at_call 16; go_must (refine (law_found Wh (some ⟨gD, 0, none⟩) uAg vKg uKg p3 rs'g (-1) (k : Int) 4 hpvA.out hwf3.out (cell_chg0 hEA.out hzg.out) hp3.out).mono ?_); go_must (rintro e wi ⟨rfl, hwi⟩); go_must (replace hwi := Aside0.mk hwi))
        (try simp only [Act.put, List.setIfInBounds_toArray, List.set_cons_zero, List.set_cons_succ])
        replace hzg := Aside0.mk (hzg.out.trans hwi.out (fun _ _ h => h))
        replace hown3 := Aside0.mk (hown3.out.new hwi.out)
        replace B3 := Aside0.mk (hwi.out.blk B3.out (fun h => h))
        clear q0 q1 x0 x1 x2 f0 f1 f2 hpvA hp3 hs
        have q0 : wi.cell? ⟨wd.heap.size, 0, none⟩ = some (.slice (some ⟨gD, 0, none⟩) p.consts.length vKg) := blk_cell B3.out 0
        obtain ⟨kd3, n3, t3, e3, x0, x1, x2⟩ := kQC_own hown3.out.cs.toC k hkl
        obtain ⟨cu3, hcu3⟩ := Kd.R_typed hown3.out.cs.1 gD rfl
        have f0 := blk_frozen hcu3 (k * 3)
        have f1 := blk_frozen hcu3 (k * 3 + 1)
        have f2 := blk_frozen hcu3 (k * 3 + 2)
        replace hcu3 := Aside0.mk hcu3
        have e3A := Aside0.mk e3
        clear e3
        have hp4 : Aside0 (checkP chkP ⟨p.consts.set k (⟨3, 9218868437227405313, ⟨#[]⟩⟩ : QC), p.funcs⟩ = ((-1, (k : Int)), 4)) := ⟨by
          have hb1 : baseC (⟨3, 9218868437227405313, ⟨#[]⟩⟩ : QC) = 4 := by decide +kernel
          have := check_const_set (c' := (⟨3, 9218868437227405313, ⟨#[]⟩⟩ : QC)) hfit.out hck.out (by rw [hb1]; decide)
          rw [hb1] at this
          exact this⟩
        have hq1 : wi.cell? ⟨wd.heap.size, 1, none⟩ = some (.slice uAg p.funcs.length uKg) := blk_cell B3.out 1
        replace hq1 := Aside0.mk hq1
        go_upto_region 21 with (fail)
        (try simp only [Act.put, List.setIfInBounds_toArray, List.set_cons_zero, List.set_cons_succ])
        generalize hW : World.setCell (World.setCell (World.setCell wi _ _) _ _) _ _ = Wj
        have hs : Aside0 (Chg (fun b => b = gD) wi Wj) := ⟨by rw [← hW]; exact (Chg.setCell (Chg.setCell (Chg.setCell (Chg.refl (fun b => b = gD) wi) (p := ⟨gD, k * 3, none⟩) (fun _ => rfl) (.int .i64 3)) (p := ⟨gD, k * 3 + 1, none⟩) (fun _ => rfl) (.int .i64 9218868437227405313)) (p := ⟨gD, k * 3 + 2, none⟩) (fun _ => rfl) (.string ⟨#[]⟩))⟩
        have hown4 : Aside0 (POwn Wj wf.heap.size (some ⟨gD, 0, none⟩, p.consts.length, vKg) (uAg, p.funcs.length, uKg) ⟨p.consts.set k (⟨3, 9218868437227405313, ⟨#[]⟩⟩ : QC), p.funcs⟩ rs'g) := ⟨by
          rw [← hW]
          have h9 := hown3.out.putC3 e3A.out (⟨3, 9218868437227405313, ⟨#[]⟩⟩ : QC)
          rw [hp3f.out] at h9
          simp only [List.set_set] at h9
          exact h9⟩
        have hwf4 : Aside0 (PWf ⟨p.consts.set k (⟨3, 9218868437227405313, ⟨#[]⟩⟩ : QC), p.funcs⟩) := ⟨wf_set hwA.out ⟨by decide, by decide, by decide⟩⟩
        clear hp3f hown3 hwf3 hv9
        obtain ⟨p4, hp4e⟩ : ∃ p4 : QP, p4 = ⟨p.consts.set k (⟨3, 9218868437227405313, ⟨#[]⟩⟩ : QC), p.funcs⟩ := ⟨_, rfl⟩
        rw [← hp4e] at hown4 hwf4 hp4
        obtain ⟨hv8, hu8, hpv⟩ := hown4.out.view
        simp only at hv8 hu8 hpv
        have hpvB := Aside0.mk hpv
        replace B3 := Aside0.mk (hs.out.blk B3.out (fun e => hgD.out.1 e.symm))
        clear q0
        have q0 : Wj.cell? ⟨wd.heap.size, 0, none⟩ = some (.slice (some ⟨gD, 0, none⟩) p.consts.length vKg) := blk_cell B3.out 0
        have q1 : Wj.cell? ⟨wd.heap.size, 1, none⟩ = some (.slice uAg p.funcs.length uKg) := blk_cell B3.out 1
        rw [hv8] at q0
        rw [hu8] at q1
        replace hzg := Aside0.mk (hzg.out.trans hs.out (fun b hb e => by have := hgD.out.2; have := hlo3.out; omega))
        clear hpv hu8 hv8 hp4e hW
        go_wp2_with (go_at_call 16; go_must (refine (law_found Wj (some ⟨gD, 0, none⟩) uAg vKg uKg p4 rs'g (-1) (k : Int) 4 hpvB.out hwf4.out (cell_chg0 hEA.out hzg.out) hp4.out).mono ?_); go_must (rintro e wk ⟨rfl, hwk⟩); go_must (replace hwk := Aside0.mk hwk))
        go_ret
        exact ⟨rfl, hzg.out.trans hwk.out (fun _ _ h => h)⟩
    · subst hkk
      have hp3 : Aside0 (checkP chkP ⟨p.consts.set k ⟨4, 1, t1⟩, p.funcs⟩ = ((-1, (k : Int)), 4)) := ⟨by
        have hb1 : baseC ⟨4, 1, t1⟩ = 4 := by simp [baseC]
        have := check_const_set (c' := ⟨4, 1, t1⟩) hfit.out hck.out (by rw [hb1]; decide)
        rw [hb1] at this
        exact this⟩
      rcases hd with ⟨d3, d4⟩ | d3
      all_goals
        go_upto_region 18 with (fail)
        (try simp only [Act.put, List.setIfInBounds_toArray, List.set_cons_zero, List.set_cons_succ])
        generalize hW : World.setCell Wg _ _ = Wh
        have hs : Aside0 (Chg (fun b => b = gD) Wg Wh) := ⟨by rw [← hW]; exact (Chg.setCell (Chg.refl (fun b => b = gD) Wg) (p := ⟨gD, k * 3 + 1, none⟩) (fun _ => rfl) (.int .i64 1))⟩
        have hown3 : Aside0 (POwn Wh wf.heap.size (some ⟨gD, 0, none⟩, p.consts.length, vKg) (uAg, p.funcs.length, uKg) ⟨p.consts.set k ⟨4, 1, t1⟩, p.funcs⟩ rs'g) := ⟨by rw [← hW]; exact how.out.putC (j := 1) hck.out rfl (by decide)⟩
        have hwf3 : Aside0 (PWf ⟨p.consts.set k ⟨4, 1, t1⟩, p.funcs⟩) := ⟨wf_set hwA.out ⟨by show (Lit.int .i64 4).wf = true; decide, by show (Lit.int .i64 1).wf = true; decide, hcw.out.text⟩⟩
        obtain ⟨p3, hp3e⟩ : ∃ p3 : QP, p3 = ⟨p.consts.set k ⟨4, 1, t1⟩, p.funcs⟩ := ⟨_, rfl⟩
        have hp3f := Aside0.mk hp3e
        rw [← hp3e] at hown3 hwf3 hp3
        obtain ⟨hv9, hu9, hpv⟩ := hown3.out.view
        simp only at hv9 hu9 hpv
        have hpvA := Aside0.mk hpv
        replace B3 := Aside0.mk (hs.out.blk B3.out (fun e => hgD.out.1 e.symm))
        clear q0 q1
        have q0 : Wh.cell? ⟨wd.heap.size, 0, none⟩ = some (.slice (some ⟨gD, 0, none⟩) p.consts.length vKg) := blk_cell B3.out 0
        have q1 : Wh.cell? ⟨wd.heap.size, 1, none⟩ = some (.slice uAg p.funcs.length uKg) := blk_cell B3.out 1
        rw [hv9] at q0
        rw [hu9] at q1
        replace hv9 := Aside0.mk hv9
        replace hzg := Aside0.mk (hzg.out.trans hs.out (fun b hb e => by have := hgD.out.2; have := hlo3.out; omega))
        clear hpv hu9 hp3e hW
        go_upto_region 20 with (go_at_call 16; go_must (refine (law_found Wh (some ⟨gD, 0, none⟩) uAg vKg uKg p3 rs'g (-1) (k : Int) 4 hpvA.out hwf3.out (cell_chg0 hEA.out hzg.out) hp3.out).mono ?_); go_must (rintro e wi ⟨rfl, hwi⟩); go_must (replace hwi := Aside0.mk hwi))
        (try simp only [Act.put, List.setIfInBounds_toArray, List.set_cons_zero, List.set_cons_succ])
        replace hzg := Aside0.mk (hzg.out.trans hwi.out (fun _ _ h => h))
        replace hown3 := Aside0.mk (hown3.out.new hwi.out)
        replace B3 := Aside0.mk (hwi.out.blk B3.out (fun h => h))
        clear q0 q1 x0 x1 x2 f0 f1 f2 hpvA hp3 hs
        have q0 : wi.cell? ⟨wd.heap.size, 0, none⟩ = some (.slice (some ⟨gD, 0, none⟩) p.consts.length vKg) := blk_cell B3.out 0
        obtain ⟨kd3, n3, t3, e3, x0, x1, x2⟩ := kQC_own hown3.out.cs.toC k hkl
        obtain ⟨cu3, hcu3⟩ := Kd.R_typed hown3.out.cs.1 gD rfl
        have f0 := blk_frozen hcu3 (k * 3)
        have f1 := blk_frozen hcu3 (k * 3 + 1)
        have f2 := blk_frozen hcu3 (k * 3 + 2)
        replace hcu3 := Aside0.mk hcu3
        have e3A := Aside0.mk e3
        clear e3
        have hp4 : Aside0 (checkP chkP ⟨p.consts.set k (⟨3, 9218868437227405313, ⟨#[]⟩⟩ : QC), p.funcs⟩ = ((-1, (k : Int)), 4)) := ⟨by
          have hb1 : baseC (⟨3, 9218868437227405313, ⟨#[]⟩⟩ : QC) = 4 := by decide +kernel
          have := check_const_set (c' := (⟨3, 9218868437227405313, ⟨#[]⟩⟩ : QC)) hfit.out hck.out (by rw [hb1]; decide)
          rw [hb1] at this
          exact this⟩
        have hq1 : wi.cell? ⟨wd.heap.size, 1, none⟩ = some (.slice uAg p.funcs.length uKg) := blk_cell B3.out 1
        replace hq1 := Aside0.mk hq1
        go_upto_region 21 with (fail)
        (try simp only [Act.put, List.setIfInBounds_toArray, List.set_cons_zero, List.set_cons_succ])
        generalize hW : World.setCell (World.setCell (World.setCell wi _ _) _ _) _ _ = Wj
        have hs : Aside0 (Chg (fun b => b = gD) wi Wj) := ⟨by rw [← hW]; exact (Chg.setCell (Chg.setCell (Chg.setCell (Chg.refl (fun b => b = gD) wi) (p := ⟨gD, k * 3, none⟩) (fun _ => rfl) (.int .i64 3)) (p := ⟨gD, k * 3 + 1, none⟩) (fun _ => rfl) (.int .i64 9218868437227405313)) (p := ⟨gD, k * 3 + 2, none⟩) (fun _ => rfl) (.string ⟨#[]⟩))⟩
        have hown4 : Aside0 (POwn Wj wf.heap.size (some ⟨gD, 0, none⟩, p.consts.length, vKg) (uAg, p.funcs.length, uKg) ⟨p.consts.set k (⟨3, 9218868437227405313, ⟨#[]⟩⟩ : QC), p.funcs⟩ rs'g) := ⟨by
          rw [← hW]
          have h9 := hown3.out.putC3 e3A.out (⟨3, 9218868437227405313, ⟨#[]⟩⟩ : QC)
          rw [hp3f.out] at h9
          simp only [List.set_set] at h9
          exact h9⟩
        have hwf4 : Aside0 (PWf ⟨p.consts.set k (⟨3, 9218868437227405313, ⟨#[]⟩⟩ : QC), p.funcs⟩) := ⟨wf_set hwA.out ⟨by decide, by decide, by decide⟩⟩
        clear hp3f hown3 hwf3 hv9
        obtain ⟨p4, hp4e⟩ : ∃ p4 : QP, p4 = ⟨p.consts.set k (⟨3, 9218868437227405313, ⟨#[]⟩⟩ : QC), p.funcs⟩ := ⟨_, rfl⟩
        rw [← hp4e] at hown4 hwf4 hp4
        obtain ⟨hv8, hu8, hpv⟩ := hown4.out.view
        simp only at hv8 hu8 hpv
        have hpvB := Aside0.mk hpv
        replace B3 := Aside0.mk (hs.out.blk B3.out (fun e => hgD.out.1 e.symm))
        clear q0
        have q0 : Wj.cell? ⟨wd.heap.size, 0, none⟩ = some (.slice (some ⟨gD, 0, none⟩) p.consts.length vKg) := blk_cell B3.out 0
        have q1 : Wj.cell? ⟨wd.heap.size, 1, none⟩ = some (.slice uAg p.funcs.length uKg) := blk_cell B3.out 1
        rw [hv8] at q0
        rw [hu8] at q1
        replace hzg := Aside0.mk (hzg.out.trans hs.out (fun b hb e => by have := hgD.out.2; have := hlo3.out; omega))
        clear hpv hu8 hv8 hp4e hW
        go_wp2_with (go_at_call 16; go_must (refine (law_found Wj (some ⟨gD, 0, none⟩) uAg vKg uKg p4 rs'g (-1) (k : Int) 4 hpvB.out hwf4.out (cell_chg0 hEA.out hzg.out) hp4.out).mono ?_); go_must (rintro e wk ⟨rfl, hwk⟩); go_must (replace hwk := Aside0.mk hwk))
        go_ret
        exact ⟨rfl, hzg.out.trans hwk.out (fun _ _ h => h)⟩
end Go.Proofs.YtgaackedappmgaaDoor.K
