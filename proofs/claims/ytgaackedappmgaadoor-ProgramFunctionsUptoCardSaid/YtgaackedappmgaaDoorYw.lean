import Derived.Test.YtgaackedappmgaaDoorGw
import Derived.IntWalk
import Derived.BigQuiet
namespace Go.Proofs.YtgaackedappmgaaDoor.K
open Go.RowKit Go.Proofs.YtgaackedappmgaaDoorW.PrintWords Go.Proofs.YtgaackedappmgaaDoorW.PrintLast Go.Proofs.YtgaackedappmgaaDoorW.PrintMore
set_option linter.unusedVariables false
set_option linter.unusedSimpArgs false
set_option maxRecDepth 100000
theorem Oq.some {α : Type} {kd : Kd α} {e : TypeId} {w : World} {lo c n : Nat} {A : Option Addr} {l : List α} (h : Oq kd e w lo (A, n, c) l) (h0 : 0 < l.length) : ∃ g, A = some ⟨g, 0, none⟩ := by
  obtain ⟨g, cF, hBf, _⟩ := Kd.R_form h.1 h0
  unfold svl at hBf
  injection hBf with hBf
  exact ⟨g, hBf⟩
theorem POwn.box {w : World} {lo b i : Nat} {vC vF : SV} {p : QP} {rs : List QR} {cs : Array Value} {t : TypeId} {u : Value} (h : POwn w lo vC vF p rs) (hb : w.heap[b]? = some (.cells cs t (0, 0))) (ht : t ∉ [39, 47, 50, 54]) : POwn (w.setCell ⟨b, i, none⟩ u) lo vC vF p rs := by
  have hs : Chg (fun k => k = b) w (w.setCell ⟨b, i, none⟩ u) := (Chg.refl (fun k => k = b) w).setCell (p := ⟨b, i, none⟩) (fun _ => rfl) _
  exact h.hit hs (fun b' cs' t' hb' _ he hm => by
    subst hb'
    rw [hb] at he
    injection he with he
    injection he with _ he
    rw [← he] at hm
    exact ht hm)
theorem POwn.addC {w w1 : World} {lo : Nat} {vC vF v' : SV} {p : QP} {rs : List QR} {cs' : List QC} (h : POwn w lo vC vF p rs) (hl : lo ≤ w.heap.size) (hc : Chg (fun b => (svl vC).ownBlock = some b) w w1) (hr : Kd.R kQC 39 w1 0 (New (fun b => (svl vC).ownBlock = some b) w w1) (svl v') cs') : POwn w1 lo v' vF ⟨cs', p.funcs⟩ rs :=
  ⟨Oq.app rfl h.cs hr hl, h.fs.hit hc (HitsQ.own (ts := [47]) h.cs (by decide)) (by decide), h.fn.hit hc (HitsQ.own h.cs (by decide))⟩
theorem POwn.new {w w' : World} {lo : Nat} {vC vF : SV} {p : QP} {rs : List QR} (h : POwn w lo vC vF p rs) (hc : Chg (fun _ => False) w w') : POwn w' lo vC vF p rs := h.hit hc HitsQ.no
theorem wf_ofV {p : QP} (ok : okQP p) (h : p.consts.length + (p.funcs.map (fun f => f.code.length + f.hnd.length + 1)).sum ≤ 1048576) : PWf p := by
  obtain ⟨h1, h2, h3⟩ := prog_small h
  exact ⟨⟨h1, h2, fun f hf => ⟨(ok.2.2 f hf).1, h3 f hf⟩⟩, fun c hc => ⟨(ok.1.2 c hc).1, (ok.1.2 c hc).2.1, by have := (ok.1.2 c hc).2.2; unfold maxLen; omega⟩⟩
theorem functionP_same {p p' : QP} {j : Nat} {f : QF} (hc : p'.consts = p.consts) (hl : p'.funcs.length = p.funcs.length) (ht : p'.funcs.take j = p.funcs.take j) : functionP chkP p' j f = functionP chkP p j f := by
  have h1 : namesP p' f = namesP p f := by
    funext i
    unfold namesP
    rw [hc, hl]
  have h2 : instrP chkP p' f = instrP chkP p f := by
    funext i
    unfold instrP
    rw [h1]
  have h3 : headP p' j f = headP p j f := by
    unfold headP
    rw [ht]
  unfold functionP
  rw [h2, h3]
theorem check_func {p : QP} {k : Nat} {f f' : QF} {pc e : Int} (h : Fits p) (hk : p.funcs[k]? = some f) (hf : functionP chkP ⟨p.consts, p.funcs.set k f'⟩ k f' = (pc, e)) (he : e ≠ 0) : checkP chkP ⟨p.consts, p.funcs.set k f'⟩ = (((k : Int), pc), e) := by
  have hkl := (List.getElem?_eq_some_iff.1 hk).1
  rw [check_consts]
  have hc : constsE p.consts = (0, 0) := by
    unfold constsE
    rw [if_neg (by have := h.nc; omega), firstBad_none (fun k x hx => by rw [Nat.zero_add]; exact h.cs k x hx)]
  simp only
  rw [hc, if_neg (by simp), if_neg (by rw [List.length_set]; have := h.nf; omega), if_neg (by rw [List.length_set]; have := h.mf; omega)]
  have h1 := funcs_at (p := ⟨p.consts, p.funcs.set k f'⟩) (l := p.funcs.set k f') (i := 0) (m := k) (x := f') (by rw [List.getElem?_set, if_pos rfl, if_pos hkl]) (fun j g hj hg => by
    rw [List.getElem?_set_ne (by omega)] at hg
    rw [Nat.zero_add, functionP_same (p := p) (p' := ⟨p.consts, p.funcs.set k f'⟩) rfl (by simp only [List.length_set]) (by simp only; rw [List.take_set_of_le (by omega)])]
    exact h.fs j g hg) (by rw [Nat.zero_add, hf]; exact he)
  rw [Nat.zero_add, hf] at h1
  exact h1
structure FnOk (p : QP) (k : Nat) (f : QF) : Prop where
  name : nameE f.name = 0
  once : (p.funcs.take k).any (fun g => decide (g.name = f.name)) = false
  p0 : 0 ≤ f.pars
  pl : f.pars ≤ f.locs
  pk : k = 0 → f.pars = 0
  l64 : f.locs ≤ 64
  c0 : 0 < f.code.length
  c1 : f.code.length ≤ 2000
  rest : (restQ p f).2 = 0
theorem fn_ok {p : QP} {k : Nat} {f : QF} (h : (functionP chkP p k f).2 = 0) : FnOk p k f := by
  rw [function_rest] at h
  by_cases h1 : nameE f.name ≠ 0
  · rw [if_pos h1] at h
    exact absurd h h1
  rw [if_neg h1] at h
  by_cases h2 : (p.funcs.take k).any (fun g => decide (g.name = f.name)) = true
  · rw [if_pos h2] at h
    exact absurd h (by decide)
  rw [if_neg h2] at h
  unfold restP at h
  by_cases h3 : f.pars < 0 ∨ f.locs < f.pars ∨ (k = 0 ∧ f.pars ≠ 0)
  · rw [if_pos h3] at h
    exact absurd h (by decide)
  rw [if_neg h3] at h
  by_cases h4 : 64 < f.locs
  · rw [if_pos h4] at h
    exact absurd h (by decide)
  rw [if_neg h4] at h
  by_cases h5 : f.code.length = 0
  · rw [if_pos h5] at h
    exact absurd h (by decide)
  rw [if_neg h5] at h
  by_cases h6 : 2000 < f.code.length
  · rw [if_pos h6] at h
    exact absurd h (by decide)
  rw [if_neg h6] at h
  exact ⟨Classical.not_not.1 h1, by cases hb : (p.funcs.take k).any (fun g => decide (g.name = f.name)) with | true => exact absurd hb h2 | false => rfl, Int.not_lt.1 (fun h => h3 (Or.inl h)), Int.not_lt.1 (fun h => h3 (Or.inr (Or.inl h))), fun hk => Classical.byContradiction (fun hp => h3 (Or.inr (Or.inr ⟨hk, hp⟩))), by omega, by omega, by omega, h⟩
theorem nameE_size {s : ByteArray} (h : nameE s = 0) : s.size ≤ 32 := by
  unfold nameE at h
  by_cases h1 : nameBad s = true
  · rw [if_pos h1] at h; exact absurd h (by decide)
  rw [if_neg h1] at h
  by_cases h2 : s.size = 0
  · omega
  rw [if_neg h2] at h
  by_cases h3 : 32 < s.size
  · rw [if_pos h3] at h; exact absurd h (by decide)
  · omega
theorem nameE_dash (s : ByteArray) : nameE (s ++ ⟨#[45]⟩) = 6 := by
  unfold nameE
  rw [if_pos]
  unfold nameBad
  refine List.any_eq_true.2 ⟨45, ?_, by decide⟩
  rw [ByteArray.data_append, Array.toList_append]
  simp
theorem fn_name {p : QP} {k : Nat} {f' : QF} {e : Int} (hn : nameE f'.name = e) (he : e ≠ 0) : functionP chkP p k f' = (0, e) := by
  rw [function_rest, hn, if_pos he]
theorem fn_rest {p : QP} {k : Nat} {f f' : QF} (h : FnOk p k f) (hk : k < p.funcs.length) (hn : f'.name = f.name) : functionP chkP ⟨p.consts, p.funcs.set k f'⟩ k f' = restP ⟨p.consts, p.funcs.set k f'⟩ k f' := by
  rw [function_rest, hn, h.name, if_neg (by decide)]
  simp only
  rw [List.take_set_of_le (Nat.le_refl k), if_neg (by rw [h.once]; decide)]
theorem wf_setF {p : QP} {k : Nat} {f : QF} (h : PWf p) (hf : f.name.size ≤ 140737488351232 ∧ f.code.length ≤ 1048576 ∧ f.hnd.length ≤ 1048576) : PWf ⟨p.consts, p.funcs.set k f⟩ := ⟨⟨h.sm.c, by simp only [List.length_set]; exact h.sm.f, fun g hg => by
  rcases List.mem_or_eq_of_mem_set hg with h1 | h1
  · exact h.sm.fs g h1
  · rw [h1]; exact hf⟩, h.cs⟩
theorem POwn.putF {w : World} {lo gF n c k j : Nat} {vC : SV} {p : QP} {rs : List QR} {r r' : QR} {f f' : QF} {u : Value} (h : POwn w lo vC (some ⟨gF, 0, none⟩, n, c) p rs) (hx : rs[k]? = some r) (hf : p.funcs[k]? = some f) (hr : qrCells r' = (qrCells r).set j u) (hj : j < 5)
    (hrel : ∀ w', Oq kQI 50 w' lo r.code f.code → Oq kQH 54 w' lo r.hnd f.hnd → r.name = f.name ∧ r.pars = f.pars ∧ r.locs = f.locs → r'.name = f'.name ∧ r'.pars = f'.pars ∧ r'.locs = f'.locs ∧ Oq kQI 50 w' lo r'.code f'.code ∧ Oq kQH 54 w' lo r'.hnd f'.hnd) : POwn (w.setCell ⟨gF, k * 5 + j, none⟩ u) lo vC (some ⟨gF, 0, none⟩, n, c) ⟨p.consts, p.funcs.set k f'⟩ (rs.set k r') := by
  have hs : Chg (fun b => b = gF) w (w.setCell ⟨gF, k * 5 + j, none⟩ u) := (Chg.refl (fun b => b = gF) w).setCell (p := ⟨gF, k * 5 + j, none⟩) (fun _ => rfl) _
  obtain ⟨cs, hcs⟩ := Kd.R_typed h.fs.1 gF rfl
  have hh : ∀ {ts : List TypeId}, 47 ∉ ts → HitsQ w lo (fun b => b = gF) ts := fun ht b cs' t hb _ he hm => by
    subst hb
    rw [hcs] at he
    injection he with he
    injection he with _ he
    rw [he] at ht
    exact ht hm
  have hfn := h.fn.hit hs (hh (by decide))
  have hkl := (List.getElem?_eq_some_iff.1 hf).1
  refine ⟨h.cs.hit hs (hh (ts := [39]) (by decide)) (by decide), Oq.put kQR_K kQR_M rfl h.fs hx hr hj, by simp only [List.length_set]; exact hfn.1, fun i a g ha hg => ?_⟩
  simp only at hg
  by_cases e : k = i
  · subst e
    rw [List.getElem?_set, if_pos rfl, if_pos (by rw [hfn.1]; exact hkl)] at ha
    rw [List.getElem?_set, if_pos rfl, if_pos hkl] at hg
    injection ha with ha
    injection hg with hg
    subst ha hg
    obtain ⟨a1, a2, a3, a4, a5⟩ := hfn.2 k r f hx hf
    exact hrel _ a4 a5 ⟨a1, a2, a3⟩
  · rw [List.getElem?_set_ne e] at ha hg
    exact hfn.2 i a g ha hg
set_option maxHeartbeats 16000000
theorem law_programFunctions (w : World) (cA fA : Option Addr) (cc fc : Nat) (p : QP) (rs : List QR) (i how : Int) (hP : PV w cA fA p rs) (hw : PWf p) (hi : (Lit.int .i64 i).wf = true) (hh : (Lit.int .i64 how).wf = true) (hE : w.cell? ⟨0, 0, none⟩ = some (.iface 114 (.agg #[.pointer (some ⟨2, 68, none⟩)]))) :
    Calls Tryd.prog 5 #[.agg #[.slice cA p.consts.length cc, .slice fA p.funcs.length fc], .int .i64 i, .int .i64 how] w fun e w' => e = .returned (.bool true) ∧ Chg (fun _ => False) w w' := by
  have hPA := Aside0.mk hP
  have hwA := Aside0.mk hw
  have hEA := Aside0.mk hE
  have hcode : Aside0 (∀ f ∈ p.funcs, f.code.length ≤ 1048576 ∧ f.hnd.length ≤ 1048576) := ⟨fun f hf => (hw.sm.fs f hf).2⟩
  have hn := hw.sm.c
  have hm := hw.sm.f
  have hi' : Aside0 (-9223372036854775808 ≤ i ∧ i ≤ 9223372036854775807) := ⟨by simp [Lit.wf, IntKind.min, IntKind.max, IntKind.signed, IntKind.bits] at hi; exact hi⟩
  have hh' : Aside0 (-9223372036854775808 ≤ how ∧ how ≤ 9223372036854775807) := ⟨by simp [Lit.wf, IntKind.min, IntKind.max, IntKind.signed, IntKind.bits] at hh; exact hh⟩
  clear hP hw hi hh hE
  by_cases hft : ¬ (checkP chkP p).2 = 0
  · have hfb : Aside0 (((checkP chkP p).2 == 0) = false) := ⟨by simpa using hft⟩
    clear hft
    go_enter Tryd.func5, Tryd.ntmps5
    go_upto_region 1 with (fail)
    (try simp only [Act.put, List.setIfInBounds_toArray, List.set_cons_zero, List.set_cons_succ])
    generalize hW : World.alloc w _ = W0
    have B1 : Aside0 (W0.heap[w.heap.size]? = some (.cells #[.slice cA p.consts.length cc, .slice fA p.funcs.length fc] 25)) := ⟨by rw [← hW]; exact heap_alloc_new w _⟩
    have hz0 : Aside0 (Chg (fun _ => False) w W0) := ⟨by rw [← hW]; exact cg⟩
    clear hW
    have p0 : W0.cell? ⟨w.heap.size, 0, none⟩ = some (.slice cA p.consts.length cc) := blk_cell B1.out 0
    have p1 : W0.cell? ⟨w.heap.size, 1, none⟩ = some (.slice fA p.funcs.length fc) := blk_cell B1.out 1
    go_upto_region 2 with (go_at_call 15; go_must (refine (law_fits _ cA fA cc fc p rs false (hPA.out.below bl) hwA.out.sm hfb.out).mono ?_); go_must (rintro e wa ⟨rfl, hwa⟩); go_must (replace hwa := Aside0.mk hwa))
    (try simp only [Act.put, List.setIfInBounds_toArray, List.set_cons_zero, List.set_cons_succ])
    clear p0 p1
    have p0 : wa.cell? ⟨w.heap.size, 0, none⟩ = some (.slice cA p.consts.length cc) := blk_cell (hwa.out.blk B1.out (fun h => h)) 0
    have p1 : wa.cell? ⟨w.heap.size, 1, none⟩ = some (.slice fA p.funcs.length fc) := blk_cell (hwa.out.blk B1.out (fun h => h)) 1
    go_wp2_with (go_at_call 15; go_must (refine (law_fits _ cA fA cc fc p rs false (hPA.out.below bl) hwA.out.sm hfb.out).mono ?_); go_must (rintro e wb ⟨rfl, hwb⟩); go_must (replace hwb := Aside0.mk hwb))
    go_ret
    exact ⟨rfl, cg⟩
  replace hft := Classical.not_not.1 hft
  have hfb : Aside0 (((checkP chkP p).2 == 0) = true) := ⟨by simpa using hft⟩
  have hfit := Aside0.mk (fits_of hft)
  have hchk := Aside0.mk (fits_check hfit.out)
  clear hft
  go_enter Tryd.func5, Tryd.ntmps5
  go_upto_region 1 with (fail)
  (try simp only [Act.put, List.setIfInBounds_toArray, List.set_cons_zero, List.set_cons_succ])
  generalize hW : World.alloc w _ = W0
  have B1 : Aside0 (W0.heap[w.heap.size]? = some (.cells #[.slice cA p.consts.length cc, .slice fA p.funcs.length fc] 25)) := ⟨by rw [← hW]; exact heap_alloc_new w _⟩
  have hz0 : Aside0 (Chg (fun _ => False) w W0) := ⟨by rw [← hW]; exact cg⟩
  clear hW
  have p0 : W0.cell? ⟨w.heap.size, 0, none⟩ = some (.slice cA p.consts.length cc) := blk_cell B1.out 0
  have p1 : W0.cell? ⟨w.heap.size, 1, none⟩ = some (.slice fA p.funcs.length fc) := blk_cell B1.out 1
  go_upto_region 3 with (first | (go_at_call 15; go_must (refine (law_fits _ cA fA cc fc p rs true (hPA.out.below bl) hwA.out.sm hfb.out).mono ?_); go_must (rintro e wa ⟨rfl, hwa⟩); go_must (have p0a : wa.cell? ⟨w.heap.size, 0, none⟩ = some (.slice cA p.consts.length cc) := blk_cell (hwa.blk B1.out (fun h => h)) 0); go_must (have p1a : wa.cell? ⟨w.heap.size, 1, none⟩ = some (.slice fA p.funcs.length fc) := blk_cell (hwa.blk B1.out (fun h => h)) 1); go_must (replace hwa := Aside0.mk hwa)) | (go_at_call 14; go_must (refine (ref_CopyProgram _ cA fA cc fc p rs (hPA.out.below bl) hn hm hcode.out).mono ?_); go_must (rintro e wb ⟨⟨vA, vN, vK⟩, ⟨uA, uN, uK⟩, rs', rfl, hown, hwb⟩); go_must (obtain ⟨hv9, hu9, hpv⟩ := hown.view); go_must (simp only at hv9 hu9 hpv); go_must (subst hv9); go_must (subst hu9); go_must (simp only [svl]); go_must (replace hown := Aside0.mk hown); go_must (replace hpv := Aside0.mk hpv); go_must (replace hwb := Aside0.mk hwb)) | (go_at_call 16; go_must (refine (law_found _ vA uA vK uK p rs' 0 0 0 hpv.out hwA.out (cell_chg0 hEA.out cg) hchk.out).mono ?_); go_must (rintro e wc ⟨rfl, hwc⟩); go_must (replace hwc := Aside0.mk hwc)))
  (try simp only [Act.put, List.setIfInBounds_toArray, List.set_cons_zero, List.set_cons_succ])
  have hzc : Aside0 (Chg (fun _ => False) W0 wc) := ⟨cg⟩
  replace hz0 := Aside0.mk (hz0.out.trans hzc.out (fun _ _ h => h))
  replace B1 := Aside0.mk (hzc.out.blk B1.out (fun h => h))
  clear p0 p1 p0a p1a hzc hwa hwb hwc hown hpv
  have hnf := hfit.out.nf
  obtain ⟨hk1, hk2⟩ := pickQ_lt (k := i) (n := p.funcs.length) hnf
  obtain ⟨k, hk⟩ := Int.eq_ofNat_of_zero_le hk1
  have hpick : Aside0 (∀ W, Calls Tryd.prog 17 #[.int .i64 i, .int .i64 (p.funcs.length : Int)] W fun e w' => e = .returned (.int .i64 (k : Int)) ∧ w' = W) := ⟨fun W => by rw [← hk]; exact kit_PickQ W i _ hi'.out.1 hi'.out.2 (by omega)⟩
  have hkl : k < p.funcs.length := by omega
  clear hk hk1 hk2
  have p1 : wc.cell? ⟨w.heap.size, 1, none⟩ = some (.slice fA p.funcs.length fc) := blk_cell B1.out 1
  have p0 : wc.cell? ⟨w.heap.size, 0, none⟩ = some (.slice cA p.consts.length cc) := blk_cell B1.out 0
  go_upto_region 5 with (go_at_call 17; go_must (refine (hpick.out _).mono ?_); go_must (rintro e wn ⟨rfl, hwn⟩); go_must (subst wn))
  (try simp only [Act.put, List.setIfInBounds_toArray, List.set_cons_zero, List.set_cons_succ])
  clear hpick
  go_upto_region 6 with (go_at_call 14; go_must (refine (ref_CopyProgram _ cA fA cc fc p rs (hPA.out.below bl) hn hm hcode.out).mono ?_); go_must (rintro e wd ⟨⟨vA, vN, vK⟩, ⟨uA, uN, uK⟩, rs', rfl, hown, hwd⟩); go_must (obtain ⟨hv9, hu9, hpv⟩ := hown.view); go_must (simp only at hv9 hu9 hpv); go_must (subst hv9); go_must (subst hu9); go_must (simp only [svl]); go_must (replace hown := Aside0.mk hown); go_must (replace hpv := Aside0.mk hpv); go_must (replace hwd := Aside0.mk hwd))
  (try simp only [Act.put, List.setIfInBounds_toArray, List.set_cons_zero, List.set_cons_succ])
  generalize hW : World.alloc wd _ = Wd
  have B3 : Aside0 (Wd.heap[wd.heap.size]? = some (.cells #[.slice vA p.consts.length vK, .slice uA p.funcs.length uK] 25)) := ⟨by rw [← hW]; exact heap_alloc_new wd _⟩
  have hzq : Aside0 (Chg (fun _ => False) wd Wd) := ⟨by rw [← hW]; exact cg⟩
  clear hW
  have hlo : Aside0 (w.heap.size < wc.heap.size ∧ wc.heap.size ≤ wd.heap.size) := ⟨blk_lt B1.out, hwd.out.size⟩
  have hzd : Aside0 (Chg (fun _ => False) wc Wd) := ⟨cg⟩
  have hzg : Aside0 (Chg (fun _ => False) w Wd) := ⟨hz0.out.trans hzd.out (fun _ _ h => h)⟩
  replace hown := Aside0.mk (hown.out.new hzq.out)
  clear p0 p1 hzd hzq hpv hwd hz0
  obtain ⟨gF, e1⟩ := Oq.some hown.out.fs (by have := hown.out.fn.1; omega)
  subst e1
  obtain ⟨f, hfx⟩ : ∃ f, p.funcs[k]? = some f := ⟨_, List.getElem?_eq_getElem hkl⟩
  obtain ⟨r, hrx⟩ : ∃ r, rs'[k]? = some r := ⟨_, List.getElem?_eq_getElem (by have := hown.out.fn.1; omega)⟩
  obtain ⟨r1, r2, r3, _, _⟩ := hown.out.fn.2 k r f hrx hfx
  have hok := Aside0.mk (fn_ok (hfit.out.fs k f hfx))
  have hsz := Aside0.mk (hwA.out.sm.fs f (List.mem_of_getElem? hfx))
  obtain ⟨x0, x1, x2, x3, x4⟩ := raw_ownC hown.out.fs.toC k hkl hrx
  rw [r1] at x0
  rw [r2] at x1
  rw [r3] at x2
  obtain ⟨cu, hcu⟩ := Kd.R_typed hown.out.fs.1 gF rfl
  have hgF : Aside0 (gF ≠ wd.heap.size ∧ wc.heap.size ≤ gF) := ⟨Oq.ne_blk hown.out.fs B3.out (by decide) rfl, hown.out.fs.2 gF rfl⟩
  have f0 := blk_frozen hcu (k * 5)
  have f1 := blk_frozen hcu (k * 5 + 1)
  have f2 := blk_frozen hcu (k * 5 + 2)
  have f3 := blk_frozen hcu (k * 5 + 3)
  replace hcu := Aside0.mk hcu
  have hfA := Aside0.mk hfx
  have hrA := Aside0.mk hrx
  clear hfx hrx r1 r2 r3
  have q0 : Wd.cell? ⟨wd.heap.size, 0, none⟩ = some (.slice vA p.consts.length vK) := blk_cell B3.out 0
  have q1 : Wd.cell? ⟨wd.heap.size, 1, none⟩ = some (.slice (some ⟨gF, 0, none⟩) p.funcs.length uK) := blk_cell B3.out 1
  have hk0 : (0 : Int) ≤ k := by omega
  have hk1 : (k : Int) < p.funcs.length := by omega
  obtain ⟨m0, m1⟩ := pickQ_lt (k := how) (n := 8) (by omega)
  obtain ⟨m, hm9⟩ := Int.eq_ofNat_of_zero_le m0
  have hpick : Aside0 (∀ W, Calls Tryd.prog 17 #[.int .i64 how, .int .i64 8] W fun e w' => e = .returned (.int .i64 (m : Int)) ∧ w' = W) := ⟨fun W => by rw [← hm9]; exact kit_PickQ W how 8 hh'.out.1 hh'.out.2 (by omega)⟩
  have hm8 : m < 8 := by omega
  clear m0 m1 hm9
  have hcase : m = 0 ∨ m = 1 ∨ m = 2 ∨ m = 3 ∨ m = 4 ∨ m = 5 ∨ m = 6 ∨ m = 7 := by omega
  clear hm8
  rcases hcase with hm0 | hm0 | hm0 | hm0 | hm0 | hm0 | hm0 | hm0
  · subst hm0
    have hp3 : Aside0 (checkP chkP ⟨p.consts, p.funcs.set k ⟨⟨#[]⟩, f.pars, f.locs, f.code, f.hnd⟩⟩ = (((k : Int), 0), 6)) := ⟨check_func hfit.out hfA.out (fn_name (by show nameE (⟨#[]⟩ : ByteArray) = 6; decide +kernel) (by decide)) (by decide)⟩
    go_upto_region 9 with (go_at_call 17; go_must (refine (hpick.out _).mono ?_); go_must (rintro e wn ⟨rfl, hwn⟩); go_must (subst wn))
    (try simp only [Act.put, List.setIfInBounds_toArray, List.set_cons_zero, List.set_cons_succ])
    generalize hW : World.setCell _ _ _ = Wh
    have hs : Aside0 (Chg (fun b => b = gF) Wd Wh) := ⟨by rw [← hW]; exact (Chg.setCell (Chg.refl (fun b => b = gF) Wd) (p := ⟨gF, k * 5 + 0, none⟩) (fun _ => rfl) (.string ⟨#[]⟩))⟩
    have hown3 : Aside0 (POwn Wh wc.heap.size (vA, p.consts.length, vK) (some ⟨gF, 0, none⟩, p.funcs.length, uK) ⟨p.consts, p.funcs.set k ⟨⟨#[]⟩, f.pars, f.locs, f.code, f.hnd⟩⟩ (rs'.set k ⟨⟨#[]⟩, r.pars, r.locs, r.code, r.hnd⟩)) := ⟨by rw [← hW]; exact (hown.out.putF (j := 0) hrA.out hfA.out rfl (by decide) (fun w' h1 h2 h3 => ⟨rfl, h3.2.1, h3.2.2, h1, h2⟩))⟩
    have hwf3 : Aside0 (PWf ⟨p.consts, p.funcs.set k ⟨⟨#[]⟩, f.pars, f.locs, f.code, f.hnd⟩⟩) := ⟨wf_setF hwA.out ⟨by show (⟨#[]⟩ : ByteArray).size ≤ 140737488351232; decide, hsz.out.2⟩⟩
    obtain ⟨p3, hp3e⟩ : ∃ p3 : QP, p3 = ⟨p.consts, p.funcs.set k ⟨⟨#[]⟩, f.pars, f.locs, f.code, f.hnd⟩⟩ := ⟨_, rfl⟩
    rw [← hp3e] at hown3 hwf3 hp3
    obtain ⟨hv9, hu9, hpv⟩ := hown3.out.view
    simp only at hv9 hu9 hpv
    have hpvA := Aside0.mk hpv
    replace B3 := Aside0.mk (hs.out.blk B3.out (fun e => hgF.out.1 e.symm))
    clear q0 q1
    have q0 : Wh.cell? ⟨wd.heap.size, 0, none⟩ = some (.slice vA p.consts.length vK) := blk_cell B3.out 0
    have q1 : Wh.cell? ⟨wd.heap.size, 1, none⟩ = some (.slice (some ⟨gF, 0, none⟩) p.funcs.length uK) := blk_cell B3.out 1
    rw [hv9] at q0
    rw [hu9] at q1
    replace hzg := Aside0.mk (hzg.out.trans hs.out (fun b hb e => by have := hgF.out.2; have := hlo.out; omega))
    clear hpv hu9 hv9 hp3e hW x0 x1 x2 x3 x4 f0 f1 f2 f3
    go_wp2_with (go_at_call 16; go_must (refine (law_found Wh vA (some ⟨gF, 0, none⟩) vK uK p3 _ (k : Int) 0 6 hpvA.out hwf3.out (cell_chg0 hEA.out hzg.out) hp3.out).mono ?_); go_must (rintro e wk ⟨rfl, hwk⟩); go_must (replace hwk := Aside0.mk hwk))
    go_ret
    exact ⟨rfl, hzg.out.trans hwk.out (fun _ _ h => h)⟩
  · subst hm0
    have hp3 : Aside0 (checkP chkP ⟨p.consts, p.funcs.set k ⟨f.name ++ ⟨#[45]⟩, f.pars, f.locs, f.code, f.hnd⟩⟩ = (((k : Int), 0), 6)) := ⟨check_func hfit.out hfA.out (fn_name (nameE_dash _) (by decide)) (by decide)⟩
    have hsn : ¬ 9223372036854775807 < f.name.size + 1 := by have := nameE_size hok.out.name; omega
    go_upto_region 11 with (go_at_call 17; go_must (refine (hpick.out _).mono ?_); go_must (rintro e wn ⟨rfl, hwn⟩); go_must (subst wn))
    (try simp only [Act.put, List.setIfInBounds_toArray, List.set_cons_zero, List.set_cons_succ])
    refine start_ (n := 13) (S := fun w' => w'.cell? ⟨wd.heap.size, 1, none⟩ = some (.slice (some ⟨gF, 0, none⟩) p.funcs.length uK) ∧ w'.cell? ⟨gF, k * 5, none⟩ = some (.string f.name)) (ds := [12]) #[false, false, false, false, false, false, false, false, false, false, false, false, false] (by kernel_rfl) rfl rfl ⟨q1, x0⟩ (fun hHeld => ?_)
    refine pure_ (i := 0) (N := some 44) (v := ?_) (a' := ?_) #[true, false, false, false, false, false, false, false, false, false, false, false, false] rfl rfl (by kernel_rfl) (fun _ _ _ h => h) (Or.inl ⟨by rfl, ?_⟩) ?_ ?_
    rotate_left
    · intro w'
      go_simp
      with_reducible rfl
    rotate_left
    · simp only [Act.put, List.setIfInBounds_toArray, List.set_cons_zero, List.set_cons_succ, i64_w, i32_w]
      rfl
    refine pure_ (i := 2) (N := some 46) (v := ?_) (a' := ?_) #[true, false, true, false, false, false, false, false, false, false, false, false, false] rfl rfl (by kernel_rfl) (fun _ _ _ h => h) (Or.inl ⟨by rfl, ?_⟩) ?_ ?_
    rotate_left
    · intro w'
      go_simp
      with_reducible rfl
    rotate_left
    · simp only [Act.put, List.setIfInBounds_toArray, List.set_cons_zero, List.set_cons_succ, i64_w, i32_w]
      rfl
    refine pure_ (i := 3) (N := some 47) (v := ?_) (a' := ?_) #[true, false, true, true, false, false, false, false, false, false, false, false, false] rfl rfl (by kernel_rfl) (fun _ _ _ h => h) (Or.inl ⟨by rfl, ?_⟩) ?_ ?_
    rotate_left
    · intro w'
      go_simp
      with_reducible rfl
    rotate_left
    · simp only [Act.put, List.setIfInBounds_toArray, List.set_cons_zero, List.set_cons_succ, i64_w, i32_w]
      rfl
    refine pure_ (i := 5) (N := some 49) (v := ?_) (a' := ?_) #[true, false, true, true, false, true, false, false, false, false, false, false, false] rfl rfl (by kernel_rfl) (fun _ _ _ h => h) (Or.inl ⟨by rfl, ?_⟩) ?_ ?_
    rotate_left
    · intro w'
      go_simp
      with_reducible rfl
    rotate_left
    · simp only [Act.put, List.setIfInBounds_toArray, List.set_cons_zero, List.set_cons_succ, i64_w, i32_w]
      rfl
    refine take_ (i := 1) (N := some 45) (v := ?_) (a' := ?_) #[true, true, true, true, false, true, false, false, false, false, false, false, false] rfl rfl (by kernel_rfl) (fun _ _ _ h => h) (Or.inl ⟨by rfl, ?_⟩) hHeld ?_ ?_
    rotate_left
    · rintro w' ⟨s0, s1⟩
      go_simp
      with_reducible rfl
    rotate_left
    · simp only [Act.put, List.setIfInBounds_toArray, List.set_cons_zero, List.set_cons_succ, i64_w, i32_w]
      rfl
    refine take_ (i := 4) (N := some 48) (v := ?_) (a' := ?_) #[true, true, true, true, true, true, false, false, false, false, false, false, false] rfl rfl (by kernel_rfl) (fun _ _ _ h => h) (Or.inl ⟨by rfl, ?_⟩) hHeld ?_ ?_
    rotate_left
    · rintro w' ⟨s0, s1⟩
      go_simp
      with_reducible rfl
    rotate_left
    · simp only [Act.put, List.setIfInBounds_toArray, List.set_cons_zero, List.set_cons_succ, i64_w, i32_w]
      rfl
    refine pure_ (i := 6) (N := some 50) (v := ?_) (a' := ?_) #[true, true, true, true, true, true, true, false, false, false, false, false, false] rfl rfl (by kernel_rfl) (fun _ _ _ h => h) (Or.inl ⟨by rfl, ?_⟩) ?_ ?_
    rotate_left
    · intro w'
      go_simp
      with_reducible rfl
    rotate_left
    · simp only [Act.put, List.setIfInBounds_toArray, List.set_cons_zero, List.set_cons_succ, i64_w, i32_w]
      rfl
    refine pure_ (i := 7) (N := some 51) (v := ?_) (a' := ?_) #[true, true, true, true, true, true, true, true, false, false, false, false, false] rfl rfl (by kernel_rfl) (fun _ _ _ h => h) (Or.inl ⟨by rfl, ?_⟩) ?_ ?_
    rotate_left
    · intro w'
      go_simp
      with_reducible rfl
    rotate_left
    · simp only [Act.put, List.setIfInBounds_toArray, List.set_cons_zero, List.set_cons_succ, i64_w, i32_w]
      rfl
    refine take_ (i := 8) (N := some 52) (v := ?_) (a' := ?_) #[true, true, true, true, true, true, true, true, true, false, false, false, false] rfl rfl (by kernel_rfl) (fun _ _ _ h => h) (Or.inl ⟨by rfl, ?_⟩) hHeld ?_ ?_
    rotate_left
    · rintro w' ⟨s0, s1⟩
      go_simp
      with_reducible rfl
    rotate_left
    · simp only [Act.put, List.setIfInBounds_toArray, List.set_cons_zero, List.set_cons_succ, i64_w, i32_w]
      rfl
    refine pure_ (i := 9) (N := some 53) (v := ?_) (a' := ?_) #[true, true, true, true, true, true, true, true, true, true, false, false, false] rfl rfl (by kernel_rfl) (fun _ _ _ h => h) (Or.inl ⟨by rfl, ?_⟩) ?_ ?_
    rotate_left
    · intro w'
      go_simp
      with_reducible rfl
    rotate_left
    · simp only [Act.put, List.setIfInBounds_toArray, List.set_cons_zero, List.set_cons_succ, i64_w, i32_w]
      rfl
    refine pure_ (i := 10) (N := some 54) (v := ?_) (a' := ?_) #[true, true, true, true, true, true, true, true, true, true, true, false, false] rfl rfl (by kernel_rfl) (fun _ _ _ h => h) (Or.inl ⟨by rfl, ?_⟩) ?_ ?_
    rotate_left
    · intro w'
      go_simp
      with_reducible rfl
    rotate_left
    · simp only [Act.put, List.setIfInBounds_toArray, List.set_cons_zero, List.set_cons_succ, i64_w, i32_w]
      rfl
    refine pure_ (i := 11) (N := some 55) (v := ?_) (a' := ?_) #[true, true, true, true, true, true, true, true, true, true, true, true, false] rfl rfl (by kernel_rfl) (fun _ _ _ h => h) (Or.inl ⟨by rfl, ?_⟩) ?_ ?_
    rotate_left
    · intro w'
      go_simp
      with_reducible rfl
    rotate_left
    · simp only [Act.put, List.setIfInBounds_toArray, List.set_cons_zero, List.set_cons_succ, i64_w, i32_w]
      rfl
    refine last_ (i := 12) (N := none) #[true, true, true, true, true, true, true, true, true, true, true, true, true] rfl rfl (by kernel_rfl) (by decide) (fun K hK => ?_)
    refine skip_ (w1 := ?_) (by rfl) rfl ?_ ?_
    rotate_left
    · go_simp
      rfl
    refine hK.out _ _ ?_
    clear hK K
    refine done_ (by kernel_rfl) ?_
    (try simp only [Act.put, List.setIfInBounds_toArray, List.set_cons_zero, List.set_cons_succ])
    generalize hW : World.drew (World.setCell _ _ _) = Wh
    have hs : Aside0 (Chg (fun b => b = gF) Wd Wh) := ⟨by rw [← hW]; exact Chg.drew (Chg.setCell (Chg.refl (fun b => b = gF) Wd) (p := ⟨gF, k * 5 + 0, none⟩) (fun _ => rfl) (.string (f.name ++ ⟨#[45]⟩)))⟩
    have hown3 : Aside0 (POwn Wh wc.heap.size (vA, p.consts.length, vK) (some ⟨gF, 0, none⟩, p.funcs.length, uK) ⟨p.consts, p.funcs.set k ⟨f.name ++ ⟨#[45]⟩, f.pars, f.locs, f.code, f.hnd⟩⟩ (rs'.set k ⟨f.name ++ ⟨#[45]⟩, r.pars, r.locs, r.code, r.hnd⟩)) := ⟨by rw [← hW]; exact POwn.new (hown.out.putF (j := 0) hrA.out hfA.out rfl (by decide) (fun w' h1 h2 h3 => ⟨rfl, h3.2.1, h3.2.2, h1, h2⟩)) ((Chg.refl _ _).drew)⟩
    have hwf3 : Aside0 (PWf ⟨p.consts, p.funcs.set k ⟨f.name ++ ⟨#[45]⟩, f.pars, f.locs, f.code, f.hnd⟩⟩) := ⟨wf_setF hwA.out ⟨by have := nameE_size hok.out.name; show (f.name ++ ⟨#[45]⟩).size ≤ 140737488351232; rw [ByteArray.size_append]; show f.name.size + 1 ≤ _; omega, hsz.out.2⟩⟩
    obtain ⟨p3, hp3e⟩ : ∃ p3 : QP, p3 = ⟨p.consts, p.funcs.set k ⟨f.name ++ ⟨#[45]⟩, f.pars, f.locs, f.code, f.hnd⟩⟩ := ⟨_, rfl⟩
    rw [← hp3e] at hown3 hwf3 hp3
    obtain ⟨hv9, hu9, hpv⟩ := hown3.out.view
    simp only at hv9 hu9 hpv
    have hpvA := Aside0.mk hpv
    replace B3 := Aside0.mk (hs.out.blk B3.out (fun e => hgF.out.1 e.symm))
    clear q0 q1
    have q0 : Wh.cell? ⟨wd.heap.size, 0, none⟩ = some (.slice vA p.consts.length vK) := blk_cell B3.out 0
    have q1 : Wh.cell? ⟨wd.heap.size, 1, none⟩ = some (.slice (some ⟨gF, 0, none⟩) p.funcs.length uK) := blk_cell B3.out 1
    rw [hv9] at q0
    rw [hu9] at q1
    replace hzg := Aside0.mk (hzg.out.trans hs.out (fun b hb e => by have := hgF.out.2; have := hlo.out; omega))
    clear hpv hu9 hv9 hp3e hW x0 x1 x2 x3 x4 f0 f1 f2 f3
    go_wp2_with (go_at_call 16; go_must (refine (law_found Wh vA (some ⟨gF, 0, none⟩) vK uK p3 _ (k : Int) 0 6 hpvA.out hwf3.out (cell_chg0 hEA.out hzg.out) hp3.out).mono ?_); go_must (rintro e wk ⟨rfl, hwk⟩); go_must (replace hwk := Aside0.mk hwk))
    go_ret
    exact ⟨rfl, hzg.out.trans hwk.out (fun _ _ h => h)⟩
  · subst hm0
    have hp3 : Aside0 (checkP chkP ⟨p.consts, p.funcs.set k ⟨⟨#[97, 50, 51, 52, 53, 54, 55, 56, 57, 95, 98, 50, 51, 52, 53, 54, 55, 56, 57, 95, 99, 50, 51, 52, 53, 54, 55, 56, 57, 95, 100, 50, 51]⟩, f.pars, f.locs, f.code, f.hnd⟩⟩ = (((k : Int), 0), 5)) := ⟨check_func hfit.out hfA.out (fn_name (by show nameE (⟨#[97, 50, 51, 52, 53, 54, 55, 56, 57, 95, 98, 50, 51, 52, 53, 54, 55, 56, 57, 95, 99, 50, 51, 52, 53, 54, 55, 56, 57, 95, 100, 50, 51]⟩ : ByteArray) = 5; decide +kernel) (by decide)) (by decide)⟩
    go_upto_region 15 with (go_at_call 17; go_must (refine (hpick.out _).mono ?_); go_must (rintro e wn ⟨rfl, hwn⟩); go_must (subst wn))
    (try simp only [Act.put, List.setIfInBounds_toArray, List.set_cons_zero, List.set_cons_succ])
    generalize hW : World.setCell _ _ _ = Wh
    have hs : Aside0 (Chg (fun b => b = gF) Wd Wh) := ⟨by rw [← hW]; exact (Chg.setCell (Chg.refl (fun b => b = gF) Wd) (p := ⟨gF, k * 5 + 0, none⟩) (fun _ => rfl) (.string ⟨#[97, 50, 51, 52, 53, 54, 55, 56, 57, 95, 98, 50, 51, 52, 53, 54, 55, 56, 57, 95, 99, 50, 51, 52, 53, 54, 55, 56, 57, 95, 100, 50, 51]⟩))⟩
    have hown3 : Aside0 (POwn Wh wc.heap.size (vA, p.consts.length, vK) (some ⟨gF, 0, none⟩, p.funcs.length, uK) ⟨p.consts, p.funcs.set k ⟨⟨#[97, 50, 51, 52, 53, 54, 55, 56, 57, 95, 98, 50, 51, 52, 53, 54, 55, 56, 57, 95, 99, 50, 51, 52, 53, 54, 55, 56, 57, 95, 100, 50, 51]⟩, f.pars, f.locs, f.code, f.hnd⟩⟩ (rs'.set k ⟨⟨#[97, 50, 51, 52, 53, 54, 55, 56, 57, 95, 98, 50, 51, 52, 53, 54, 55, 56, 57, 95, 99, 50, 51, 52, 53, 54, 55, 56, 57, 95, 100, 50, 51]⟩, r.pars, r.locs, r.code, r.hnd⟩)) := ⟨by rw [← hW]; exact (hown.out.putF (j := 0) hrA.out hfA.out rfl (by decide) (fun w' h1 h2 h3 => ⟨rfl, h3.2.1, h3.2.2, h1, h2⟩))⟩
    have hwf3 : Aside0 (PWf ⟨p.consts, p.funcs.set k ⟨⟨#[97, 50, 51, 52, 53, 54, 55, 56, 57, 95, 98, 50, 51, 52, 53, 54, 55, 56, 57, 95, 99, 50, 51, 52, 53, 54, 55, 56, 57, 95, 100, 50, 51]⟩, f.pars, f.locs, f.code, f.hnd⟩⟩) := ⟨wf_setF hwA.out ⟨by show (⟨#[97, 50, 51, 52, 53, 54, 55, 56, 57, 95, 98, 50, 51, 52, 53, 54, 55, 56, 57, 95, 99, 50, 51, 52, 53, 54, 55, 56, 57, 95, 100, 50, 51]⟩ : ByteArray).size ≤ 140737488351232; decide, hsz.out.2⟩⟩
    obtain ⟨p3, hp3e⟩ : ∃ p3 : QP, p3 = ⟨p.consts, p.funcs.set k ⟨⟨#[97, 50, 51, 52, 53, 54, 55, 56, 57, 95, 98, 50, 51, 52, 53, 54, 55, 56, 57, 95, 99, 50, 51, 52, 53, 54, 55, 56, 57, 95, 100, 50, 51]⟩, f.pars, f.locs, f.code, f.hnd⟩⟩ := ⟨_, rfl⟩
    rw [← hp3e] at hown3 hwf3 hp3
    obtain ⟨hv9, hu9, hpv⟩ := hown3.out.view
    simp only at hv9 hu9 hpv
    have hpvA := Aside0.mk hpv
    replace B3 := Aside0.mk (hs.out.blk B3.out (fun e => hgF.out.1 e.symm))
    clear q0 q1
    have q0 : Wh.cell? ⟨wd.heap.size, 0, none⟩ = some (.slice vA p.consts.length vK) := blk_cell B3.out 0
    have q1 : Wh.cell? ⟨wd.heap.size, 1, none⟩ = some (.slice (some ⟨gF, 0, none⟩) p.funcs.length uK) := blk_cell B3.out 1
    rw [hv9] at q0
    rw [hu9] at q1
    replace hzg := Aside0.mk (hzg.out.trans hs.out (fun b hb e => by have := hgF.out.2; have := hlo.out; omega))
    clear hpv hu9 hv9 hp3e hW x0 x1 x2 x3 x4 f0 f1 f2 f3
    go_wp2_with (go_at_call 16; go_must (refine (law_found Wh vA (some ⟨gF, 0, none⟩) vK uK p3 _ (k : Int) 0 5 hpvA.out hwf3.out (cell_chg0 hEA.out hzg.out) hp3.out).mono ?_); go_must (rintro e wk ⟨rfl, hwk⟩); go_must (replace hwk := Aside0.mk hwk))
    go_ret
    exact ⟨rfl, hzg.out.trans hwk.out (fun _ _ h => h)⟩
  · subst hm0
    have hp3 : Aside0 (checkP chkP ⟨p.consts, p.funcs.set k ⟨f.name, -1, f.locs, f.code, f.hnd⟩⟩ = (((k : Int), 0), 1)) := ⟨check_func hfit.out hfA.out ((fn_rest (f' := ⟨f.name, -1, f.locs, f.code, f.hnd⟩) hok.out hkl rfl).trans (by unfold restP; rw [if_pos (Or.inl (by show (-1 : Int) < 0; decide))])) (by decide)⟩
    go_upto_region 18 with (go_at_call 17; go_must (refine (hpick.out _).mono ?_); go_must (rintro e wn ⟨rfl, hwn⟩); go_must (subst wn))
    (try simp only [Act.put, List.setIfInBounds_toArray, List.set_cons_zero, List.set_cons_succ])
    generalize hW : World.setCell _ _ _ = Wh
    have hs : Aside0 (Chg (fun b => b = gF) Wd Wh) := ⟨by rw [← hW]; exact (Chg.setCell (Chg.refl (fun b => b = gF) Wd) (p := ⟨gF, k * 5 + 1, none⟩) (fun _ => rfl) (.int .i64 (-1)))⟩
    have hown3 : Aside0 (POwn Wh wc.heap.size (vA, p.consts.length, vK) (some ⟨gF, 0, none⟩, p.funcs.length, uK) ⟨p.consts, p.funcs.set k ⟨f.name, -1, f.locs, f.code, f.hnd⟩⟩ (rs'.set k ⟨r.name, -1, r.locs, r.code, r.hnd⟩)) := ⟨by rw [← hW]; exact (hown.out.putF (j := 1) hrA.out hfA.out rfl (by decide) (fun w' h1 h2 h3 => ⟨h3.1, rfl, h3.2.2, h1, h2⟩))⟩
    have hwf3 : Aside0 (PWf ⟨p.consts, p.funcs.set k ⟨f.name, -1, f.locs, f.code, f.hnd⟩⟩) := ⟨wf_setF hwA.out hsz.out⟩
    obtain ⟨p3, hp3e⟩ : ∃ p3 : QP, p3 = ⟨p.consts, p.funcs.set k ⟨f.name, -1, f.locs, f.code, f.hnd⟩⟩ := ⟨_, rfl⟩
    rw [← hp3e] at hown3 hwf3 hp3
    obtain ⟨hv9, hu9, hpv⟩ := hown3.out.view
    simp only at hv9 hu9 hpv
    have hpvA := Aside0.mk hpv
    replace B3 := Aside0.mk (hs.out.blk B3.out (fun e => hgF.out.1 e.symm))
    clear q0 q1
    have q0 : Wh.cell? ⟨wd.heap.size, 0, none⟩ = some (.slice vA p.consts.length vK) := blk_cell B3.out 0
    have q1 : Wh.cell? ⟨wd.heap.size, 1, none⟩ = some (.slice (some ⟨gF, 0, none⟩) p.funcs.length uK) := blk_cell B3.out 1
    rw [hv9] at q0
    rw [hu9] at q1
    replace hzg := Aside0.mk (hzg.out.trans hs.out (fun b hb e => by have := hgF.out.2; have := hlo.out; omega))
    clear hpv hu9 hv9 hp3e hW x0 x1 x2 x3 x4 f0 f1 f2 f3
    go_wp2_with (go_at_call 16; go_must (refine (law_found Wh vA (some ⟨gF, 0, none⟩) vK uK p3 _ (k : Int) 0 1 hpvA.out hwf3.out (cell_chg0 hEA.out hzg.out) hp3.out).mono ?_); go_must (rintro e wk ⟨rfl, hwk⟩); go_must (replace hwk := Aside0.mk hwk))
    go_ret
    exact ⟨rfl, hzg.out.trans hwk.out (fun _ _ h => h)⟩
  · subst hm0
    have hp3 : Aside0 (checkP chkP ⟨p.consts, p.funcs.set k ⟨f.name, f.locs + 1, f.locs, f.code, f.hnd⟩⟩ = (((k : Int), 0), 1)) := ⟨check_func hfit.out hfA.out ((fn_rest (f' := ⟨f.name, f.locs + 1, f.locs, f.code, f.hnd⟩) hok.out hkl rfl).trans (by unfold restP; rw [if_pos (Or.inr (Or.inl (by show f.locs < f.locs + 1; omega)))])) (by decide)⟩
    have hw64 : wrap64 (f.locs + 1) = f.locs + 1 := by have := hok.out.p0; have := hok.out.pl; have := hok.out.l64; unfold wrap64; omega
    go_upto_region 20 with (go_at_call 17; go_must (refine (hpick.out _).mono ?_); go_must (rintro e wn ⟨rfl, hwn⟩); go_must (subst wn))
    (try simp only [Act.put, List.setIfInBounds_toArray, List.set_cons_zero, List.set_cons_succ])
    refine start_ (n := 13) (S := fun w' => w'.cell? ⟨wd.heap.size, 1, none⟩ = some (.slice (some ⟨gF, 0, none⟩) p.funcs.length uK) ∧ w'.cell? ⟨gF, k * 5 + 2, none⟩ = some (.int .i64 f.locs)) (ds := [12]) #[false, false, false, false, false, false, false, false, false, false, false, false, false] (by kernel_rfl) rfl rfl ⟨q1, x2⟩ (fun hHeld => ?_)
    refine pure_ (i := 0) (N := some 81) (v := ?_) (a' := ?_) #[true, false, false, false, false, false, false, false, false, false, false, false, false] rfl rfl (by kernel_rfl) (fun _ _ _ h => h) (Or.inl ⟨by rfl, ?_⟩) ?_ ?_
    rotate_left
    · intro w'
      go_simp
      with_reducible rfl
    rotate_left
    · simp only [Act.put, List.setIfInBounds_toArray, List.set_cons_zero, List.set_cons_succ, i64_w, i32_w]
      rfl
    refine pure_ (i := 2) (N := some 83) (v := ?_) (a' := ?_) #[true, false, true, false, false, false, false, false, false, false, false, false, false] rfl rfl (by kernel_rfl) (fun _ _ _ h => h) (Or.inl ⟨by rfl, ?_⟩) ?_ ?_
    rotate_left
    · intro w'
      go_simp
      with_reducible rfl
    rotate_left
    · simp only [Act.put, List.setIfInBounds_toArray, List.set_cons_zero, List.set_cons_succ, i64_w, i32_w]
      rfl
    refine pure_ (i := 3) (N := some 84) (v := ?_) (a' := ?_) #[true, false, true, true, false, false, false, false, false, false, false, false, false] rfl rfl (by kernel_rfl) (fun _ _ _ h => h) (Or.inl ⟨by rfl, ?_⟩) ?_ ?_
    rotate_left
    · intro w'
      go_simp
      with_reducible rfl
    rotate_left
    · simp only [Act.put, List.setIfInBounds_toArray, List.set_cons_zero, List.set_cons_succ, i64_w, i32_w]
      rfl
    refine pure_ (i := 5) (N := some 86) (v := ?_) (a' := ?_) #[true, false, true, true, false, true, false, false, false, false, false, false, false] rfl rfl (by kernel_rfl) (fun _ _ _ h => h) (Or.inl ⟨by rfl, ?_⟩) ?_ ?_
    rotate_left
    · intro w'
      go_simp
      with_reducible rfl
    rotate_left
    · simp only [Act.put, List.setIfInBounds_toArray, List.set_cons_zero, List.set_cons_succ, i64_w, i32_w]
      rfl
    refine take_ (i := 1) (N := some 82) (v := ?_) (a' := ?_) #[true, true, true, true, false, true, false, false, false, false, false, false, false] rfl rfl (by kernel_rfl) (fun _ _ _ h => h) (Or.inl ⟨by rfl, ?_⟩) hHeld ?_ ?_
    rotate_left
    · rintro w' ⟨s0, s1⟩
      go_simp
      with_reducible rfl
    rotate_left
    · simp only [Act.put, List.setIfInBounds_toArray, List.set_cons_zero, List.set_cons_succ, i64_w, i32_w]
      rfl
    refine take_ (i := 4) (N := some 85) (v := ?_) (a' := ?_) #[true, true, true, true, true, true, false, false, false, false, false, false, false] rfl rfl (by kernel_rfl) (fun _ _ _ h => h) (Or.inl ⟨by rfl, ?_⟩) hHeld ?_ ?_
    rotate_left
    · rintro w' ⟨s0, s1⟩
      go_simp
      with_reducible rfl
    rotate_left
    · simp only [Act.put, List.setIfInBounds_toArray, List.set_cons_zero, List.set_cons_succ, i64_w, i32_w]
      rfl
    refine pure_ (i := 6) (N := some 87) (v := ?_) (a' := ?_) #[true, true, true, true, true, true, true, false, false, false, false, false, false] rfl rfl (by kernel_rfl) (fun _ _ _ h => h) (Or.inl ⟨by rfl, ?_⟩) ?_ ?_
    rotate_left
    · intro w'
      go_simp
      with_reducible rfl
    rotate_left
    · simp only [Act.put, List.setIfInBounds_toArray, List.set_cons_zero, List.set_cons_succ, i64_w, i32_w]
      rfl
    refine pure_ (i := 7) (N := some 88) (v := ?_) (a' := ?_) #[true, true, true, true, true, true, true, true, false, false, false, false, false] rfl rfl (by kernel_rfl) (fun _ _ _ h => h) (Or.inl ⟨by rfl, ?_⟩) ?_ ?_
    rotate_left
    · intro w'
      go_simp
      with_reducible rfl
    rotate_left
    · simp only [Act.put, List.setIfInBounds_toArray, List.set_cons_zero, List.set_cons_succ, i64_w, i32_w]
      rfl
    refine take_ (i := 8) (N := some 89) (v := ?_) (a' := ?_) #[true, true, true, true, true, true, true, true, true, false, false, false, false] rfl rfl (by kernel_rfl) (fun _ _ _ h => h) (Or.inl ⟨by rfl, ?_⟩) hHeld ?_ ?_
    rotate_left
    · rintro w' ⟨s0, s1⟩
      go_simp
      with_reducible rfl
    rotate_left
    · simp only [Act.put, List.setIfInBounds_toArray, List.set_cons_zero, List.set_cons_succ, i64_w, i32_w]
      rfl
    refine pure_ (i := 9) (N := some 90) (v := ?_) (a' := ?_) #[true, true, true, true, true, true, true, true, true, true, false, false, false] rfl rfl (by kernel_rfl) (fun _ _ _ h => h) (Or.inl ⟨by rfl, ?_⟩) ?_ ?_
    rotate_left
    · intro w'
      go_simp
      with_reducible rfl
    rotate_left
    · simp only [Act.put, List.setIfInBounds_toArray, List.set_cons_zero, List.set_cons_succ, i64_w, i32_w]
      rfl
    refine pure_ (i := 10) (N := some 91) (v := ?_) (a' := ?_) #[true, true, true, true, true, true, true, true, true, true, true, false, false] rfl rfl (by kernel_rfl) (fun _ _ _ h => h) (Or.inl ⟨by rfl, ?_⟩) ?_ ?_
    rotate_left
    · intro w'
      go_simp
      with_reducible rfl
    rotate_left
    · simp only [Act.put, List.setIfInBounds_toArray, List.set_cons_zero, List.set_cons_succ, i64_w, i32_w]
      rfl
    refine pure_ (i := 11) (N := some 92) (v := ?_) (a' := ?_) #[true, true, true, true, true, true, true, true, true, true, true, true, false] rfl rfl (by kernel_rfl) (fun _ _ _ h => h) (Or.inl ⟨by rfl, ?_⟩) ?_ ?_
    rotate_left
    · intro w'
      go_simp
      with_reducible rfl
    rotate_left
    · simp only [Act.put, List.setIfInBounds_toArray, List.set_cons_zero, List.set_cons_succ, i64_w, i32_w]
      rfl
    refine last_ (i := 12) (N := none) #[true, true, true, true, true, true, true, true, true, true, true, true, true] rfl rfl (by kernel_rfl) (by decide) (fun K hK => ?_)
    refine skip_ (w1 := ?_) (by rfl) rfl ?_ ?_
    rotate_left
    · go_simp
      rfl
    refine hK.out _ _ ?_
    clear hK K
    refine done_ (by kernel_rfl) ?_
    (try simp only [Act.put, List.setIfInBounds_toArray, List.set_cons_zero, List.set_cons_succ])
    generalize hW : World.drew (World.setCell _ _ _) = Wh
    have hs : Aside0 (Chg (fun b => b = gF) Wd Wh) := ⟨by rw [← hW]; exact Chg.drew (Chg.setCell (Chg.refl (fun b => b = gF) Wd) (p := ⟨gF, k * 5 + 1, none⟩) (fun _ => rfl) (.int .i64 (f.locs + 1)))⟩
    have hown3 : Aside0 (POwn Wh wc.heap.size (vA, p.consts.length, vK) (some ⟨gF, 0, none⟩, p.funcs.length, uK) ⟨p.consts, p.funcs.set k ⟨f.name, f.locs + 1, f.locs, f.code, f.hnd⟩⟩ (rs'.set k ⟨r.name, f.locs + 1, r.locs, r.code, r.hnd⟩)) := ⟨by rw [← hW]; exact POwn.new (hown.out.putF (j := 1) hrA.out hfA.out rfl (by decide) (fun w' h1 h2 h3 => ⟨h3.1, rfl, h3.2.2, h1, h2⟩)) ((Chg.refl _ _).drew)⟩
    have hwf3 : Aside0 (PWf ⟨p.consts, p.funcs.set k ⟨f.name, f.locs + 1, f.locs, f.code, f.hnd⟩⟩) := ⟨wf_setF hwA.out hsz.out⟩
    obtain ⟨p3, hp3e⟩ : ∃ p3 : QP, p3 = ⟨p.consts, p.funcs.set k ⟨f.name, f.locs + 1, f.locs, f.code, f.hnd⟩⟩ := ⟨_, rfl⟩
    rw [← hp3e] at hown3 hwf3 hp3
    obtain ⟨hv9, hu9, hpv⟩ := hown3.out.view
    simp only at hv9 hu9 hpv
    have hpvA := Aside0.mk hpv
    replace B3 := Aside0.mk (hs.out.blk B3.out (fun e => hgF.out.1 e.symm))
    clear q0 q1
    have q0 : Wh.cell? ⟨wd.heap.size, 0, none⟩ = some (.slice vA p.consts.length vK) := blk_cell B3.out 0
    have q1 : Wh.cell? ⟨wd.heap.size, 1, none⟩ = some (.slice (some ⟨gF, 0, none⟩) p.funcs.length uK) := blk_cell B3.out 1
    rw [hv9] at q0
    rw [hu9] at q1
    replace hzg := Aside0.mk (hzg.out.trans hs.out (fun b hb e => by have := hgF.out.2; have := hlo.out; omega))
    clear hpv hu9 hv9 hp3e hW x0 x1 x2 x3 x4 f0 f1 f2 f3
    go_wp2_with (go_at_call 16; go_must (refine (law_found Wh vA (some ⟨gF, 0, none⟩) vK uK p3 _ (k : Int) 0 1 hpvA.out hwf3.out (cell_chg0 hEA.out hzg.out) hp3.out).mono ?_); go_must (rintro e wk ⟨rfl, hwk⟩); go_must (replace hwk := Aside0.mk hwk))
    go_ret
    exact ⟨rfl, hzg.out.trans hwk.out (fun _ _ h => h)⟩
  · subst hm0
    have hp3 : Aside0 (checkP chkP ⟨p.consts, p.funcs.set k ⟨f.name, f.pars, 65, f.code, f.hnd⟩⟩ = (((k : Int), 0), 5)) := ⟨check_func hfit.out hfA.out ((fn_rest (f' := ⟨f.name, f.pars, 65, f.code, f.hnd⟩) hok.out hkl rfl).trans (by unfold restP; rw [if_neg (by rintro (h | h | h); exact absurd (show f.pars < 0 from h) (by have := hok.out.p0; omega); exact absurd (show (65 : Int) < f.pars from h) (by have := hok.out.pl; have := hok.out.l64; omega); exact absurd (hok.out.pk h.1) h.2), if_pos (by show (64 : Int) < 65; decide)])) (by decide)⟩
    go_upto_region 24 with (go_at_call 17; go_must (refine (hpick.out _).mono ?_); go_must (rintro e wn ⟨rfl, hwn⟩); go_must (subst wn))
    (try simp only [Act.put, List.setIfInBounds_toArray, List.set_cons_zero, List.set_cons_succ])
    generalize hW : World.setCell _ _ _ = Wh
    have hs : Aside0 (Chg (fun b => b = gF) Wd Wh) := ⟨by rw [← hW]; exact (Chg.setCell (Chg.refl (fun b => b = gF) Wd) (p := ⟨gF, k * 5 + 2, none⟩) (fun _ => rfl) (.int .i64 65))⟩
    have hown3 : Aside0 (POwn Wh wc.heap.size (vA, p.consts.length, vK) (some ⟨gF, 0, none⟩, p.funcs.length, uK) ⟨p.consts, p.funcs.set k ⟨f.name, f.pars, 65, f.code, f.hnd⟩⟩ (rs'.set k ⟨r.name, r.pars, 65, r.code, r.hnd⟩)) := ⟨by rw [← hW]; exact (hown.out.putF (j := 2) hrA.out hfA.out rfl (by decide) (fun w' h1 h2 h3 => ⟨h3.1, h3.2.1, rfl, h1, h2⟩))⟩
    have hwf3 : Aside0 (PWf ⟨p.consts, p.funcs.set k ⟨f.name, f.pars, 65, f.code, f.hnd⟩⟩) := ⟨wf_setF hwA.out hsz.out⟩
    obtain ⟨p3, hp3e⟩ : ∃ p3 : QP, p3 = ⟨p.consts, p.funcs.set k ⟨f.name, f.pars, 65, f.code, f.hnd⟩⟩ := ⟨_, rfl⟩
    rw [← hp3e] at hown3 hwf3 hp3
    obtain ⟨hv9, hu9, hpv⟩ := hown3.out.view
    simp only at hv9 hu9 hpv
    have hpvA := Aside0.mk hpv
    replace B3 := Aside0.mk (hs.out.blk B3.out (fun e => hgF.out.1 e.symm))
    clear q0 q1
    have q0 : Wh.cell? ⟨wd.heap.size, 0, none⟩ = some (.slice vA p.consts.length vK) := blk_cell B3.out 0
    have q1 : Wh.cell? ⟨wd.heap.size, 1, none⟩ = some (.slice (some ⟨gF, 0, none⟩) p.funcs.length uK) := blk_cell B3.out 1
    rw [hv9] at q0
    rw [hu9] at q1
    replace hzg := Aside0.mk (hzg.out.trans hs.out (fun b hb e => by have := hgF.out.2; have := hlo.out; omega))
    clear hpv hu9 hv9 hp3e hW x0 x1 x2 x3 x4 f0 f1 f2 f3
    go_wp2_with (go_at_call 16; go_must (refine (law_found Wh vA (some ⟨gF, 0, none⟩) vK uK p3 _ (k : Int) 0 5 hpvA.out hwf3.out (cell_chg0 hEA.out hzg.out) hp3.out).mono ?_); go_must (rintro e wk ⟨rfl, hwk⟩); go_must (replace hwk := Aside0.mk hwk))
    go_ret
    exact ⟨rfl, hzg.out.trans hwk.out (fun _ _ h => h)⟩
  · subst hm0
    have hp3 : Aside0 (checkP chkP ⟨p.consts, p.funcs.set k ⟨f.name, f.pars, f.locs, [], f.hnd⟩⟩ = (((k : Int), 0), 2)) := ⟨check_func hfit.out hfA.out ((fn_rest (f' := ⟨f.name, f.pars, f.locs, [], f.hnd⟩) hok.out hkl rfl).trans (by unfold restP; rw [if_neg (by rintro (h | h | h); exact absurd (show f.pars < 0 from h) (by have := hok.out.p0; omega); exact absurd (show f.locs < f.pars from h) (by have := hok.out.pl; have := hok.out.l64; omega); exact absurd (hok.out.pk h.1) h.2), if_neg (by have := hok.out.l64; show ¬ 64 < f.locs; omega), if_pos (show ([] : List QI).length = 0 from rfl)])) (by decide)⟩
    go_upto_region 27 with (go_at_call 17; go_must (refine (hpick.out _).mono ?_); go_must (rintro e wn ⟨rfl, hwn⟩); go_must (subst wn))
    (try simp only [Act.put, List.setIfInBounds_toArray, List.set_cons_zero, List.set_cons_succ])
    generalize hW : World.setCell _ _ _ = Wh
    have hs : Aside0 (Chg (fun b => b = gF) Wd Wh) := ⟨by rw [← hW]; exact (Chg.setCell (Chg.refl (fun b => b = gF) Wd) (p := ⟨gF, k * 5 + 3, none⟩) (fun _ => rfl) (.slice none 0 0))⟩
    have hown3 : Aside0 (POwn Wh wc.heap.size (vA, p.consts.length, vK) (some ⟨gF, 0, none⟩, p.funcs.length, uK) ⟨p.consts, p.funcs.set k ⟨f.name, f.pars, f.locs, [], f.hnd⟩⟩ (rs'.set k ⟨r.name, r.pars, r.locs, (none, 0, 0), r.hnd⟩)) := ⟨by rw [← hW]; exact (hown.out.putF (j := 3) hrA.out hfA.out rfl (by decide) (fun w' h1 h2 h3 => ⟨h3.1, h3.2.1, h3.2.2, Oq.nil _ _ _ _, h2⟩))⟩
    have hwf3 : Aside0 (PWf ⟨p.consts, p.funcs.set k ⟨f.name, f.pars, f.locs, [], f.hnd⟩⟩) := ⟨wf_setF hwA.out ⟨hsz.out.1, by show ([] : List QI).length ≤ 1048576; decide, hsz.out.2.2⟩⟩
    obtain ⟨p3, hp3e⟩ : ∃ p3 : QP, p3 = ⟨p.consts, p.funcs.set k ⟨f.name, f.pars, f.locs, [], f.hnd⟩⟩ := ⟨_, rfl⟩
    rw [← hp3e] at hown3 hwf3 hp3
    obtain ⟨hv9, hu9, hpv⟩ := hown3.out.view
    simp only at hv9 hu9 hpv
    have hpvA := Aside0.mk hpv
    replace B3 := Aside0.mk (hs.out.blk B3.out (fun e => hgF.out.1 e.symm))
    clear q0 q1
    have q0 : Wh.cell? ⟨wd.heap.size, 0, none⟩ = some (.slice vA p.consts.length vK) := blk_cell B3.out 0
    have q1 : Wh.cell? ⟨wd.heap.size, 1, none⟩ = some (.slice (some ⟨gF, 0, none⟩) p.funcs.length uK) := blk_cell B3.out 1
    rw [hv9] at q0
    rw [hu9] at q1
    replace hzg := Aside0.mk (hzg.out.trans hs.out (fun b hb e => by have := hgF.out.2; have := hlo.out; omega))
    clear hpv hu9 hv9 hp3e hW x0 x1 x2 x3 x4 f0 f1 f2 f3
    go_wp2_with (go_at_call 16; go_must (refine (law_found Wh vA (some ⟨gF, 0, none⟩) vK uK p3 _ (k : Int) 0 2 hpvA.out hwf3.out (cell_chg0 hEA.out hzg.out) hp3.out).mono ?_); go_must (rintro e wk ⟨rfl, hwk⟩); go_must (replace hwk := Aside0.mk hwk))
    go_ret
    exact ⟨rfl, hzg.out.trans hwk.out (fun _ _ h => h)⟩
  · subst hm0
    go_upto_region 28 with (go_at_call 17; go_must (refine (hpick.out _).mono ?_); go_must (rintro e wn ⟨rfl, hwn⟩); go_must (subst wn))
    (try simp only [Act.put, List.setIfInBounds_toArray, List.set_cons_zero, List.set_cons_succ])
    have g1 := blk_frozen B3.out 1
    by_cases hn2 : p.funcs.length < 2
    · have hn3 : (p.funcs.length : Int) < 2 := by omega
      have hp3 : Aside0 (checkP chkP ⟨p.consts, []⟩ = ((0, 0), 2)) := ⟨by
        rw [check_consts]
        have hc : constsE p.consts = (0, 0) := by
          unfold constsE
          rw [if_neg (by have := hfit.out.nc; omega), firstBad_none (fun k x hx => by rw [Nat.zero_add]; exact hfit.out.cs k x hx)]
        simp only
        rw [hc, if_neg (by simp), if_pos (by rfl)]⟩
      clear hn2
      go_upto_region 30 with (fail)
      (try simp only [Act.put, List.setIfInBounds_toArray, List.set_cons_zero, List.set_cons_succ])
      generalize hW : World.setCell Wd _ _ = Wh
      have hs : Aside0 (Chg (fun b => b = wd.heap.size) Wd Wh) := ⟨by rw [← hW]; exact (Chg.refl (fun b => b = wd.heap.size) Wd).setCell (p := ⟨wd.heap.size, 1, none⟩) (fun _ => rfl) _⟩
      have B3x : Aside0 (Wh.heap[wd.heap.size]? = some (.cells #[.slice vA p.consts.length vK, .slice none 0 0] 25)) := ⟨by rw [← hW]; exact blk_set B3.out 1 (.slice none 0 0)⟩
      have hbx : Aside0 (POwn Wh wc.heap.size (vA, p.consts.length, vK) (some ⟨gF, 0, none⟩, p.funcs.length, uK) p rs') := ⟨by rw [← hW]; exact hown.out.box B3.out (by decide)⟩
      have hown3 : Aside0 (POwn Wh wc.heap.size (vA, p.consts.length, vK) (none, 0, 0) ⟨p.consts, []⟩ []) := ⟨⟨hbx.out.cs, Oq.nil _ _ _ _, rfl, fun k r f h => by simp at h⟩⟩
      have hwf3 : Aside0 (PWf ⟨p.consts, []⟩) := ⟨⟨⟨hwA.out.sm.c, by simp, fun f hf => by simp at hf⟩, hwA.out.cs⟩⟩
      replace hzg := Aside0.mk (hzg.out.trans hs.out (fun b hb e => by have := hlo.out; omega))
      have q0' : Wh.cell? ⟨wd.heap.size, 0, none⟩ = some (.slice vA p.consts.length vK) := blk_cell B3x.out 0
      have q1' : Wh.cell? ⟨wd.heap.size, 1, none⟩ = some (.slice none 0 0) := blk_cell B3x.out 1
      have hfd : Aside0 (Calls Tryd.prog 16 #[.agg #[.slice vA p.consts.length vK, .slice none 0 0], .int .i64 2, .int .i64 0, .int .i64 0] Wh fun e w' => e = .returned (.bool true) ∧ Chg (fun _ => False) Wh w') := ⟨law_found Wh vA none vK 0 ⟨p.consts, []⟩ [] 0 0 2 hown3.out.view.2.2 hwf3.out (cell_chg0 hEA.out hzg.out) hp3.out⟩
      clear q0 q1 hW x0 x1 x2 x3 x4 f0 f1 f2 f3 g1
      go_wp2_with (go_at_call 16; go_must (refine hfd.out.mono ?_); go_must (rintro e wk ⟨rfl, hwk⟩); go_must (replace hwk := Aside0.mk hwk))
      go_ret
      exact ⟨rfl, hzg.out.trans hwk.out (fun _ _ h => h)⟩
    · have hn3 : ¬ (p.funcs.length : Int) < 2 := by omega
      obtain ⟨n1, hn1⟩ : ∃ n1, p.funcs.length = n1 + 1 := ⟨p.funcs.length - 1, by omega⟩
      replace hn1 := Aside0.mk hn1
      have hn1p : 0 < n1 := by have := hn1.out; omega
      have hsub : (p.funcs.length : Int) - 1 = (n1 : Int) := by have := hn1.out; omega
      have hw64 : wrap64 (n1 : Int) = n1 := by have := hn1.out; unfold wrap64; omega
      obtain ⟨j0, j1⟩ := pickQ_lt (k := i) (n := n1) hn1p
      obtain ⟨j, hj9⟩ := Int.eq_ofNat_of_zero_le j0
      have hjn : j < n1 := by omega
      have hpk : Aside0 (∀ W, Calls Tryd.prog 17 #[.int .i64 i, .int .i64 (wrap64 (n1 : Int))] W fun e w' => e = .returned (.int .i64 (j : Int)) ∧ w' = W) := ⟨fun W => by rw [hw64, ← hj9]; exact kit_PickQ W i (n1 : Int) hi'.out.1 hi'.out.2 (by have := hn1.out; omega)⟩
      obtain ⟨g, hgx⟩ : ∃ g, p.funcs[j]? = some g := ⟨_, List.getElem?_eq_getElem (by have := hn1.out; omega)⟩
      obtain ⟨fl, hlx⟩ : ∃ fl, p.funcs[n1]? = some fl := ⟨_, List.getElem?_eq_getElem (by have := hn1.out; omega)⟩
      obtain ⟨rg, hrg⟩ : ∃ rg, rs'[j]? = some rg := ⟨_, List.getElem?_eq_getElem (by have := hown.out.fn.1; have := hn1.out; omega)⟩
      obtain ⟨rl, hrl⟩ : ∃ rl, rs'[n1]? = some rl := ⟨_, List.getElem?_eq_getElem (by have := hown.out.fn.1; have := hn1.out; omega)⟩
      obtain ⟨s1, _, _, _, _⟩ := hown.out.fn.2 j rg g hrg hgx
      obtain ⟨xj, _, _, _, _⟩ := raw_ownC hown.out.fs.toC j (by show j < p.funcs.length; have := hn1.out; omega) hrg
      obtain ⟨xl, _, _, _, _⟩ := raw_ownC hown.out.fs.toC n1 (by show n1 < p.funcs.length; have := hn1.out; omega) hrl
      rw [s1] at xj
      have fl0 := blk_frozen hcu.out (n1 * 5)
      have hj0 : (0 : Int) ≤ j := by omega
      have hj1 : (j : Int) < p.funcs.length := by have := hn1.out; omega
      have hm0 : (0 : Int) ≤ n1 := by omega
      have hm1 : (n1 : Int) < p.funcs.length := by have := hn1.out; omega
      have hp3 : Aside0 (checkP chkP ⟨p.consts, p.funcs.set n1 ⟨g.name, fl.pars, fl.locs, fl.code, fl.hnd⟩⟩ = (((n1 : Int), 0), 15)) := ⟨check_func hfit.out hlx (by
        rw [function_rest, if_neg (by have := (fn_ok (hfit.out.fs j g hgx)).name; simpa using this), if_pos]
        simp only
        rw [List.take_set_of_le (Nat.le_refl n1)]
        exact List.any_eq_true.2 ⟨g, List.mem_of_getElem? (i := j) (by rw [List.getElem?_take_of_lt hjn]; exact hgx), by simp⟩) (by decide)⟩
      have hlxA := Aside0.mk hlx
      have hgsz := Aside0.mk (hwA.out.sm.fs g (List.mem_of_getElem? hgx)).1
      have hlsz := Aside0.mk (hwA.out.sm.fs fl (List.mem_of_getElem? hlx)).2
      have hrlA := Aside0.mk hrl
      clear hn2 hgx hlx hrg hrl s1 x0 x1 x2 x3 x4 f0 f1 f2 f3 g1 j1 hk0 hk1
      go_upto_region 31 with (fail)
      (try simp only [Act.put, List.setIfInBounds_toArray, List.set_cons_zero, List.set_cons_succ])
      refine start_ (n := 16) (S := fun w' => w'.cell? ⟨wd.heap.size, 1, none⟩ = some (.slice (some ⟨gF, 0, none⟩) p.funcs.length uK) ∧ w'.cell? ⟨gF, j * 5, none⟩ = some (.string g.name)) (ds := [15]) #[false, false, false, false, false, false, false, false, false, false, false, false, false, false, false, false] (by kernel_rfl) rfl rfl ⟨q1, xj⟩ (fun hHeld => ?_)
      refine pure_ (i := 0) (N := some 121) (v := ?_) (a' := ?_) #[true, false, false, false, false, false, false, false, false, false, false, false, false, false, false, false] rfl rfl (by kernel_rfl) (fun _ _ _ h => h) (Or.inl ⟨by rfl, ?_⟩) ?_ ?_
      rotate_left
      · intro w'
        go_simp
        with_reducible rfl
      rotate_left
      · simp only [Act.put, List.setIfInBounds_toArray, List.set_cons_zero, List.set_cons_succ, i64_w, i32_w]
        rfl
      refine pure_ (i := 2) (N := some 123) (v := ?_) (a' := ?_) #[true, false, true, false, false, false, false, false, false, false, false, false, false, false, false, false] rfl rfl (by kernel_rfl) (fun _ _ _ h => h) (Or.inl ⟨by rfl, ?_⟩) ?_ ?_
      rotate_left
      · intro w'
        go_simp
        with_reducible rfl
      rotate_left
      · simp only [Act.put, List.setIfInBounds_toArray, List.set_cons_zero, List.set_cons_succ, i64_w, i32_w]
        rfl
      refine pure_ (i := 3) (N := some 124) (v := ?_) (a' := ?_) #[true, false, true, true, false, false, false, false, false, false, false, false, false, false, false, false] rfl rfl (by kernel_rfl) (fun _ _ _ h => h) (Or.inl ⟨by rfl, ?_⟩) ?_ ?_
      rotate_left
      · intro w'
        go_simp
        with_reducible rfl
      rotate_left
      · simp only [Act.put, List.setIfInBounds_toArray, List.set_cons_zero, List.set_cons_succ, i64_w, i32_w]
        rfl
      refine pure_ (i := 4) (N := some 125) (v := ?_) (a' := ?_) #[true, false, true, true, true, false, false, false, false, false, false, false, false, false, false, false] rfl rfl (by kernel_rfl) (fun _ _ _ h => h) (Or.inl ⟨by rfl, ?_⟩) ?_ ?_
      rotate_left
      · intro w'
        go_simp
        with_reducible rfl
      rotate_left
      · simp only [Act.put, List.setIfInBounds_toArray, List.set_cons_zero, List.set_cons_succ, i64_w, i32_w]
        rfl
      refine pure_ (i := 6) (N := some 127) (v := ?_) (a' := ?_) #[true, false, true, true, true, false, true, false, false, false, false, false, false, false, false, false] rfl rfl (by kernel_rfl) (fun _ _ _ h => h) (Or.inl ⟨by rfl, ?_⟩) ?_ ?_
      rotate_left
      · intro w'
        go_simp
        with_reducible rfl
      rotate_left
      · simp only [Act.put, List.setIfInBounds_toArray, List.set_cons_zero, List.set_cons_succ, i64_w, i32_w]
        rfl
      refine pure_ (i := 7) (N := some 128) (v := ?_) (a' := ?_) #[true, false, true, true, true, false, true, true, false, false, false, false, false, false, false, false] rfl rfl (by kernel_rfl) (fun _ _ _ h => h) (Or.inl ⟨by rfl, ?_⟩) ?_ ?_
      rotate_left
      · intro w'
        go_simp
        with_reducible rfl
      rotate_left
      · simp only [Act.put, List.setIfInBounds_toArray, List.set_cons_zero, List.set_cons_succ, i64_w, i32_w]
        rfl
      refine pure_ (i := 8) (N := some 129) (v := ?_) (a' := ?_) #[true, false, true, true, true, false, true, true, true, false, false, false, false, false, false, false] rfl rfl (by kernel_rfl) (fun _ _ _ h => h) (Or.inl ⟨by rfl, ?_⟩) ?_ ?_
      rotate_left
      · intro w'
        go_simp
        with_reducible rfl
      rotate_left
      · simp only [Act.put, List.setIfInBounds_toArray, List.set_cons_zero, List.set_cons_succ, i64_w, i32_w]
        rfl
      refine take_ (i := 1) (N := some 122) (v := ?_) (a' := ?_) #[true, true, true, true, true, false, true, true, true, false, false, false, false, false, false, false] rfl rfl (by kernel_rfl) (fun _ _ _ h => h) (Or.inl ⟨by rfl, ?_⟩) hHeld ?_ ?_
      rotate_left
      · rintro w' ⟨s0, s1⟩
        go_simp
        with_reducible rfl
      rotate_left
      · simp only [Act.put, List.setIfInBounds_toArray, List.set_cons_zero, List.set_cons_succ, i64_w, i32_w]
        rfl
      refine take_ (i := 5) (N := some 126) (v := ?_) (a' := ?_) #[true, true, true, true, true, true, true, true, true, false, false, false, false, false, false, false] rfl rfl (by kernel_rfl) (fun _ _ _ h => h) (Or.inl ⟨by rfl, ?_⟩) hHeld ?_ ?_
      rotate_left
      · rintro w' ⟨s0, s1⟩
        go_simp
        with_reducible rfl
      rotate_left
      · simp only [Act.put, List.setIfInBounds_toArray, List.set_cons_zero, List.set_cons_succ, i64_w, i32_w]
        rfl
      refine one_ (i := 9) (N := some 130) #[true, true, true, true, true, true, true, true, true, true, false, false, false, false, false, false] rfl rfl (by kernel_rfl) (by decide) (fun K hK => ?_)
      refine goes_ Tryd.func17 (by kernel_rfl) rfl #[.int .i64 i, .int .i64 (wrap64 (n1 : Int))] (by rfl) rfl rfl (by simp only [List.map_toArray, List.map_cons, List.map_nil]; rfl) ?_
      with_reducible refine ((hpk.out _)).mono ?_
      rintro e w3 ⟨rfl, hw3⟩
      refine ⟨_, rfl, ?_⟩
      subst hw3
      refine hK.out _ _ ⟨hHeld.1, hHeld.2⟩ (fun hHeld => ?_)
      clear hK K
      refine norm_ (a' := ?_) ?_ ?_
      rotate_left
      · show Act.put _ (some 130) _ = _
        simp only [Act.put, List.setIfInBounds_toArray, List.set_cons_zero, List.set_cons_succ, i64_w, i32_w]
        rfl
      refine pure_ (i := 10) (N := some 131) (v := ?_) (a' := ?_) #[true, true, true, true, true, true, true, true, true, true, true, false, false, false, false, false] rfl rfl (by kernel_rfl) (fun _ _ _ h => h) (Or.inl ⟨by rfl, ?_⟩) ?_ ?_
      rotate_left
      · intro w'
        go_simp
        with_reducible rfl
      rotate_left
      · simp only [Act.put, List.setIfInBounds_toArray, List.set_cons_zero, List.set_cons_succ, i64_w, i32_w]
        rfl
      refine pure_ (i := 11) (N := some 132) (v := ?_) (a' := ?_) #[true, true, true, true, true, true, true, true, true, true, true, true, false, false, false, false] rfl rfl (by kernel_rfl) (fun _ _ _ h => h) (Or.inl ⟨by rfl, ?_⟩) ?_ ?_
      rotate_left
      · intro w'
        go_simp
        with_reducible rfl
      rotate_left
      · simp only [Act.put, List.setIfInBounds_toArray, List.set_cons_zero, List.set_cons_succ, i64_w, i32_w]
        rfl
      refine take_ (i := 12) (N := some 133) (v := ?_) (a' := ?_) #[true, true, true, true, true, true, true, true, true, true, true, true, true, false, false, false] rfl rfl (by kernel_rfl) (fun _ _ _ h => h) (Or.inl ⟨by rfl, ?_⟩) hHeld ?_ ?_
      rotate_left
      · rintro w' ⟨s0, s1⟩
        go_simp
        with_reducible rfl
      rotate_left
      · simp only [Act.put, List.setIfInBounds_toArray, List.set_cons_zero, List.set_cons_succ, i64_w, i32_w]
        rfl
      refine pure_ (i := 13) (N := some 134) (v := ?_) (a' := ?_) #[true, true, true, true, true, true, true, true, true, true, true, true, true, true, false, false] rfl rfl (by kernel_rfl) (fun _ _ _ h => h) (Or.inl ⟨by rfl, ?_⟩) ?_ ?_
      rotate_left
      · intro w'
        go_simp
        with_reducible rfl
      rotate_left
      · simp only [Act.put, List.setIfInBounds_toArray, List.set_cons_zero, List.set_cons_succ, i64_w, i32_w]
        rfl
      refine pure_ (i := 14) (N := some 135) (v := ?_) (a' := ?_) #[true, true, true, true, true, true, true, true, true, true, true, true, true, true, true, false] rfl rfl (by kernel_rfl) (fun _ _ _ h => h) (Or.inl ⟨by rfl, ?_⟩) ?_ ?_
      rotate_left
      · intro w'
        go_simp
        with_reducible rfl
      rotate_left
      · simp only [Act.put, List.setIfInBounds_toArray, List.set_cons_zero, List.set_cons_succ, i64_w, i32_w]
        rfl
      refine last_ (i := 15) (N := none) #[true, true, true, true, true, true, true, true, true, true, true, true, true, true, true, true] rfl rfl (by kernel_rfl) (by decide) (fun K hK => ?_)
      refine skip_ (w1 := ?_) (by rfl) rfl ?_ ?_
      rotate_left
      · go_simp
        rfl
      refine hK.out _ _ ?_
      clear hK K
      refine done_ (by kernel_rfl) ?_
      (try simp only [Act.put, List.setIfInBounds_toArray, List.set_cons_zero, List.set_cons_succ])
      generalize hW : World.drew (World.setCell _ _ _) = Wh
      have hs : Aside0 (Chg (fun b => b = gF) Wd Wh) := ⟨by rw [← hW]; exact Chg.drew (Chg.setCell (Chg.refl (fun b => b = gF) Wd) (p := ⟨gF, n1 * 5 + 0, none⟩) (fun _ => rfl) (.string g.name))⟩
      have hown3 : Aside0 (POwn Wh wc.heap.size (vA, p.consts.length, vK) (some ⟨gF, 0, none⟩, p.funcs.length, uK) ⟨p.consts, p.funcs.set n1 ⟨g.name, fl.pars, fl.locs, fl.code, fl.hnd⟩⟩ (rs'.set n1 ⟨g.name, rl.pars, rl.locs, rl.code, rl.hnd⟩)) := ⟨by rw [← hW]; exact POwn.new (hown.out.putF (j := 0) hrlA.out hlxA.out rfl (by decide) (fun w' h1 h2 h3 => ⟨rfl, h3.2.1, h3.2.2, h1, h2⟩)) ((Chg.refl _ _).drew)⟩
      have hwf3 : Aside0 (PWf ⟨p.consts, p.funcs.set n1 ⟨g.name, fl.pars, fl.locs, fl.code, fl.hnd⟩⟩) := ⟨wf_setF hwA.out ⟨hgsz.out, hlsz.out⟩⟩
      obtain ⟨p3, hp3e⟩ : ∃ p3 : QP, p3 = ⟨p.consts, p.funcs.set n1 ⟨g.name, fl.pars, fl.locs, fl.code, fl.hnd⟩⟩ := ⟨_, rfl⟩
      rw [← hp3e] at hown3 hwf3 hp3
      obtain ⟨hv9, hu9, hpv⟩ := hown3.out.view
      simp only at hv9 hu9 hpv
      have hpvA := Aside0.mk hpv
      replace B3 := Aside0.mk (hs.out.blk B3.out (fun e => hgF.out.1 e.symm))
      clear q0 q1
      have q0 : Wh.cell? ⟨wd.heap.size, 0, none⟩ = some (.slice vA p.consts.length vK) := blk_cell B3.out 0
      have q1 : Wh.cell? ⟨wd.heap.size, 1, none⟩ = some (.slice (some ⟨gF, 0, none⟩) p.funcs.length uK) := blk_cell B3.out 1
      rw [hv9] at q0
      rw [hu9] at q1
      replace hzg := Aside0.mk (hzg.out.trans hs.out (fun b hb e => by have := hgF.out.2; have := hlo.out; omega))
      clear hpv hu9 hv9 hp3e hW xj xl fl0
      go_wp2_with (go_at_call 16; go_must (refine (law_found Wh vA (some ⟨gF, 0, none⟩) vK uK p3 _ (n1 : Int) 0 15 hpvA.out hwf3.out (cell_chg0 hEA.out hzg.out) hp3.out).mono ?_); go_must (rintro e wk ⟨rfl, hwk⟩); go_must (replace hwk := Aside0.mk hwk))
      go_ret
      exact ⟨rfl, hzg.out.trans hwk.out (fun _ _ h => h)⟩
end Go.Proofs.YtgaackedappmgaaDoor.K
