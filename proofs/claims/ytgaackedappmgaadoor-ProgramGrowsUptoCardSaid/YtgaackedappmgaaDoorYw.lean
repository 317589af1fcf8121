import Derived.Test.YtgaackedappmgaaDoorGw
import Derived.IntWalk
import Derived.BigQuiet
namespace Go.Proofs.YtgaackedappmgaaDoor.K
open Go.RowKit Go.Proofs.YtgaackedappmgaaDoorW.PrintWords Go.Proofs.YtgaackedappmgaaDoorW.PrintLast Go.Proofs.YtgaackedappmgaaDoorW.PrintMore
set_option linter.unusedVariables false
set_option linter.unusedSimpArgs false
set_option maxRecDepth 100000
theorem Oq.some {α : Type} {kd : Kd α} {e : TypeId} {w : World} {lo c n : Nat} {A : Option Addr} {l : List α} (h : Oq kd e w lo (A, n, c) l) (h0 : 0 < l.length) : ∃ g, A = some ⟨g, 0, none⟩ := by
  obtain ⟨g, cF, hBf, _⟩ := Kd.R_form h.1 h0
  unfold svl at hBf
  injection hBf with hBf
  exact ⟨g, hBf⟩
theorem POwn.box {w : World} {lo b i : Nat} {vC vF : SV} {p : QP} {rs : List QR} {cs : Array Value} {t : TypeId} {u : Value} (h : POwn w lo vC vF p rs) (hb : w.heap[b]? = some (.cells cs t (0, 0))) (ht : t ∉ [39, 47, 50, 54]) : POwn (w.setCell ⟨b, i, none⟩ u) lo vC vF p rs := by
  have hs : Chg (fun k => k = b) w (w.setCell ⟨b, i, none⟩ u) := (Chg.refl (fun k => k = b) w).setCell (p := ⟨b, i, none⟩) (fun _ => rfl) _
  exact h.hit hs (fun b' cs' t' hb' _ he hm => by
    subst hb'
    rw [hb] at he
    injection he with he
    injection he with _ he
    rw [← he] at hm
    exact ht hm)
theorem POwn.addC {w w1 : World} {lo : Nat} {vC vF v' : SV} {p : QP} {rs : List QR} {cs' : List QC} (h : POwn w lo vC vF p rs) (hl : lo ≤ w.heap.size) (hc : Chg (fun b => (svl vC).ownBlock = some b) w w1) (hr : Kd.R kQC 39 w1 0 (New (fun b => (svl vC).ownBlock = some b) w w1) (svl v') cs') : POwn w1 lo v' vF ⟨cs', p.funcs⟩ rs :=
  ⟨Oq.app rfl h.cs hr hl, h.fs.hit hc (HitsQ.own (ts := [47]) h.cs (by decide)) (by decide), h.fn.hit hc (HitsQ.own h.cs (by decide))⟩
theorem POwn.new {w w' : World} {lo : Nat} {vC vF : SV} {p : QP} {rs : List QR} (h : POwn w lo vC vF p rs) (hc : Chg (fun _ => False) w w') : POwn w' lo vC vF p rs := h.hit hc HitsQ.no
theorem wf_ofV {p : QP} (ok : okQP p) (h : p.consts.length + (p.funcs.map (fun f => f.code.length + f.hnd.length + 1)).sum ≤ 1048576) : PWf p := by
  obtain ⟨h1, h2, h3⟩ := prog_small h
  exact ⟨⟨h1, h2, fun f hf => ⟨(ok.2.2 f hf).1, h3 f hf⟩⟩, fun c hc => ⟨(ok.1.2 c hc).1, (ok.1.2 c hc).2.1, by have := (ok.1.2 c hc).2.2; unfold maxLen; omega⟩⟩
theorem cwf_of {c : QC} (ok : okQC c) : CWf c := ⟨ok.1, ok.2.1, by have := ok.2.2; unfold maxLen; omega⟩
theorem wf_add {p : QP} {c : QC} (h : PWf p) (hc : CWf c) (hn : p.consts.length < 1048576) : PWf ⟨p.consts ++ [c], p.funcs⟩ := ⟨⟨by simp only [List.length_append, List.length_singleton]; omega, h.sm.f, h.sm.fs⟩, fun d hd => by
  rcases List.mem_append.1 hd with h1 | h1
  · exact h.cs d h1
  · rw [List.mem_singleton.1 h1]; exact hc⟩
theorem functionP_same {p p' : QP} {j : Nat} {f : QF} (hc : p'.consts = p.consts) (hl : p'.funcs.length = p.funcs.length) (ht : p'.funcs.take j = p.funcs.take j) : functionP chkP p' j f = functionP chkP p j f := by
  have h1 : namesP p' f = namesP p f := by
    funext i
    unfold namesP
    rw [hc, hl]
  have h2 : instrP chkP p' f = instrP chkP p f := by
    funext i
    unfold instrP
    rw [h1]
  have h3 : headP p' j f = headP p j f := by
    unfold headP
    rw [ht]
  unfold functionP
  rw [h2, h3]
theorem check_func {p : QP} {k : Nat} {f f' : QF} {pc e : Int} (h : Fits p) (hk : p.funcs[k]? = some f) (hf : functionP chkP ⟨p.consts, p.funcs.set k f'⟩ k f' = (pc, e)) (he : e ≠ 0) : checkP chkP ⟨p.consts, p.funcs.set k f'⟩ = (((k : Int), pc), e) := by
  have hkl := (List.getElem?_eq_some_iff.1 hk).1
  rw [check_consts]
  have hc : constsE p.consts = (0, 0) := by
    unfold constsE
    rw [if_neg (by have := h.nc; omega), firstBad_none (fun k x hx => by rw [Nat.zero_add]; exact h.cs k x hx)]
  simp only
  rw [hc, if_neg (by simp), if_neg (by rw [List.length_set]; have := h.nf; omega), if_neg (by rw [List.length_set]; have := h.mf; omega)]
  have h1 := funcs_at (p := ⟨p.consts, p.funcs.set k f'⟩) (l := p.funcs.set k f') (i := 0) (m := k) (x := f') (by rw [List.getElem?_set, if_pos rfl, if_pos hkl]) (fun j g hj hg => by
    rw [List.getElem?_set_ne (by omega)] at hg
    rw [Nat.zero_add, functionP_same (p := p) (p' := ⟨p.consts, p.funcs.set k f'⟩) rfl (by simp only [List.length_set]) (by simp only; rw [List.take_set_of_le (by omega)])]
    exact h.fs j g hg) (by rw [Nat.zero_add, hf]; exact he)
  rw [Nat.zero_add, hf] at h1
  exact h1
structure FnOk (p : QP) (k : Nat) (f : QF) : Prop where
  name : nameE f.name = 0
  once : (p.funcs.take k).any (fun g => decide (g.name = f.name)) = false
  p0 : 0 ≤ f.pars
  pl : f.pars ≤ f.locs
  pk : k = 0 → f.pars = 0
  l64 : f.locs ≤ 64
  c0 : 0 < f.code.length
  c1 : f.code.length ≤ 2000
  rest : (restQ p f).2 = 0
theorem fn_ok {p : QP} {k : Nat} {f : QF} (h : (functionP chkP p k f).2 = 0) : FnOk p k f := by
  rw [function_rest] at h
  by_cases h1 : nameE f.name ≠ 0
  · rw [if_pos h1] at h
    exact absurd h h1
  rw [if_neg h1] at h
  by_cases h2 : (p.funcs.take k).any (fun g => decide (g.name = f.name)) = true
  · rw [if_pos h2] at h
    exact absurd h (by decide)
  rw [if_neg h2] at h
  unfold restP at h
  by_cases h3 : f.pars < 0 ∨ f.locs < f.pars ∨ (k = 0 ∧ f.pars ≠ 0)
  · rw [if_pos h3] at h
    exact absurd h (by decide)
  rw [if_neg h3] at h
  by_cases h4 : 64 < f.locs
  · rw [if_pos h4] at h
    exact absurd h (by decide)
  rw [if_neg h4] at h
  by_cases h5 : f.code.length = 0
  · rw [if_pos h5] at h
    exact absurd h (by decide)
  rw [if_neg h5] at h
  by_cases h6 : 2000 < f.code.length
  · rw [if_pos h6] at h
    exact absurd h (by decide)
  rw [if_neg h6] at h
  exact ⟨Classical.not_not.1 h1, by cases hb : (p.funcs.take k).any (fun g => decide (g.name = f.name)) with | true => exact absurd hb h2 | false => rfl, Int.not_lt.1 (fun h => h3 (Or.inl h)), Int.not_lt.1 (fun h => h3 (Or.inr (Or.inl h))), fun hk => Classical.byContradiction (fun hp => h3 (Or.inr (Or.inr ⟨hk, hp⟩))), by omega, by omega, by omega, h⟩
theorem fn_rest {p : QP} {k : Nat} {f f' : QF} (h : FnOk p k f) (hk : k < p.funcs.length) (hn : f'.name = f.name) : functionP chkP ⟨p.consts, p.funcs.set k f'⟩ k f' = restP ⟨p.consts, p.funcs.set k f'⟩ k f' := by
  rw [function_rest, hn, h.name, if_neg (by decide)]
  simp only
  rw [List.take_set_of_le (Nat.le_refl k), if_neg (by rw [h.once]; decide)]
theorem wf_setF {p : QP} {k : Nat} {f : QF} (h : PWf p) (hf : f.name.size ≤ 140737488351232 ∧ f.code.length ≤ 1048576 ∧ f.hnd.length ≤ 1048576) : PWf ⟨p.consts, p.funcs.set k f⟩ := ⟨⟨h.sm.c, by simp only [List.length_set]; exact h.sm.f, fun g hg => by
  rcases List.mem_or_eq_of_mem_set hg with h1 | h1
  · exact h.sm.fs g h1
  · rw [h1]; exact hf⟩, h.cs⟩
theorem POwn.putF {w : World} {lo gF n c k j : Nat} {vC : SV} {p : QP} {rs : List QR} {r r' : QR} {f f' : QF} {u : Value} (h : POwn w lo vC (some ⟨gF, 0, none⟩, n, c) p rs) (hx : rs[k]? = some r) (hf : p.funcs[k]? = some f) (hr : qrCells r' = (qrCells r).set j u) (hj : j < 5)
    (hrel : ∀ w', Oq kQI 50 w' lo r.code f.code → Oq kQH 54 w' lo r.hnd f.hnd → r.name = f.name ∧ r.pars = f.pars ∧ r.locs = f.locs → r'.name = f'.name ∧ r'.pars = f'.pars ∧ r'.locs = f'.locs ∧ Oq kQI 50 w' lo r'.code f'.code ∧ Oq kQH 54 w' lo r'.hnd f'.hnd) : POwn (w.setCell ⟨gF, k * 5 + j, none⟩ u) lo vC (some ⟨gF, 0, none⟩, n, c) ⟨p.consts, p.funcs.set k f'⟩ (rs.set k r') := by
  have hs : Chg (fun b => b = gF) w (w.setCell ⟨gF, k * 5 + j, none⟩ u) := (Chg.refl (fun b => b = gF) w).setCell (p := ⟨gF, k * 5 + j, none⟩) (fun _ => rfl) _
  obtain ⟨cs, hcs⟩ := Kd.R_typed h.fs.1 gF rfl
  have hh : ∀ {ts : List TypeId}, 47 ∉ ts → HitsQ w lo (fun b => b = gF) ts := fun ht b cs' t hb _ he hm => by
    subst hb
    rw [hcs] at he
    injection he with he
    injection he with _ he
    rw [he] at ht
    exact ht hm
  have hfn := h.fn.hit hs (hh (by decide))
  have hkl := (List.getElem?_eq_some_iff.1 hf).1
  refine ⟨h.cs.hit hs (hh (ts := [39]) (by decide)) (by decide), Oq.put kQR_K kQR_M rfl h.fs hx hr hj, by simp only [List.length_set]; exact hfn.1, fun i a g ha hg => ?_⟩
  simp only at hg
  by_cases e : k = i
  · subst e
    rw [List.getElem?_set, if_pos rfl, if_pos (by rw [hfn.1]; exact hkl)] at ha
    rw [List.getElem?_set, if_pos rfl, if_pos hkl] at hg
    injection ha with ha
    injection hg with hg
    subst ha hg
    obtain ⟨a1, a2, a3, a4, a5⟩ := hfn.2 k r f hx hf
    exact hrel _ a4 a5 ⟨a1, a2, a3⟩
  · rw [List.getElem?_set_ne e] at ha hg
    exact hfn.2 i a g ha hg
set_option maxHeartbeats 16000000
end Go.Proofs.YtgaackedappmgaaDoor.K
