import Derived.Test.YtgaackedappmgaaDoorYw
import Derived.Test.YtgaackedappmgaaDoorYx
namespace Go.Proofs.YtgaackedappmgaaDoor.K
open Go.RowKit Go.Proofs.YtgaackedappmgaaDoorW.PrintWords Go.Proofs.YtgaackedappmgaaDoorW.PrintLast Go.Proofs.YtgaackedappmgaaDoorW.PrintMore
set_option linter.unusedVariables false
set_option linter.unusedSimpArgs false
set_option maxRecDepth 100000
theorem firstBad_ne {α : Type} {f : Nat → α → Int} : ∀ {l : List α} {i j : Nat} {e : Int}, firstBad f i l = some (j, e) → e ≠ 0
  | [], i, j, e, h => by cases h
  | x :: xs, i, j, e, h => by
    rw [firstBad] at h
    by_cases hx : f i x ≠ 0
    · rw [if_pos hx] at h
      injection h with h
      injection h with h1 h2
      rw [← h2]; exact hx
    · rw [if_neg hx] at h
      exact firstBad_ne h
theorem rest_ok {p : QP} {f : QF} (h : (restQ p f).2 = 0) : (∀ (j : Nat) (i : QI), f.code[j]? = some i → instrP chkP p f i = 0) ∧ f.hnd.length ≤ 32 ∧ ∀ (j : Nat) (x : QH), f.hnd[j]? = some x → handlerQ x f.code.length = true := by
  unfold restQ at h
  cases h1 : firstBad (fun _ i => instrP chkP p f i) 0 f.code with
  | some z =>
    obtain ⟨i, e⟩ := z
    rw [h1] at h
    exact absurd h (firstBad_ne h1)
  | none =>
    rw [h1] at h
    simp only at h
    by_cases h2 : 32 < f.hnd.length
    · rw [if_pos h2] at h
      exact absurd h (by decide)
    rw [if_neg h2] at h
    cases h3 : firstBad (fun _ h => if handlerQ h f.code.length = true then 0 else 8) 0 f.hnd with
    | some z =>
      obtain ⟨i, e⟩ := z
      rw [h3] at h
      exact absurd h (firstBad_ne h3)
    | none =>
      refine ⟨fun j i hi => ?_, by omega, fun j x hx => ?_⟩
      · exact firstBad_all h1 j i hi
      · have h4 := firstBad_all h3 j x hx
        (try simp only at h4)
        by_cases h5 : handlerQ x f.code.length = true
        · exact h5
        · rw [if_neg h5] at h4
          exact absurd h4 (by decide)
theorem rest_is {p : QP} {f : QF} (h1 : ∀ (j : Nat) (i : QI), f.code[j]? = some i → instrP chkP p f i = 0) (h2 : f.hnd.length ≤ 32) (h3 : ∀ (j : Nat) (x : QH), f.hnd[j]? = some x → handlerQ x f.code.length = true) : restQ p f = (0, 0) := by
  unfold restQ
  rw [firstBad_none (f := fun _ i => instrP chkP p f i) (fun k x hx => h1 k x hx)]
  simp only
  rw [if_neg (by omega), firstBad_none (f := fun _ h => if handlerQ h f.code.length = true then 0 else 8) (fun k x hx => by (try simp only); rw [if_pos (h3 k x hx)])]
theorem instr_same {p p' : QP} {f f' : QF} (hc : p'.consts = p.consts) (hl : p'.funcs.length = p.funcs.length) (hk : f'.code.length = f.code.length) (hlo : f'.locs = f.locs) (i : QI) : instrP chkP p' f' i = instrP chkP p f i := by
  unfold instrP namesP
  rw [hc, hl, hk, hlo]
theorem rest_code {p p' : QP} {f f' : QF} {pc : Nat} {i : QI} (hr : (restQ p f).2 = 0) (hc : p'.consts = p.consts) (hl : p'.funcs.length = p.funcs.length) (h1 : f'.locs = f.locs) (h2 : f'.code = f.code.set pc i) (hpc : pc < f.code.length) (hb : instrP chkP p f i ≠ 0) : restQ p' f' = ((pc : Int), instrP chkP p f i) := by
  have hn : f'.code.length = f.code.length := by rw [h2, List.length_set]
  obtain ⟨a1, _, _⟩ := rest_ok hr
  unfold restQ
  have h := firstBad_at (f := fun _ x => instrP chkP p' f' x) (l := f'.code) (i := 0) (m := pc) (x := i) (by rw [h2, List.getElem?_set, if_pos rfl, if_pos hpc]) (fun k y hk hy => by
    rw [h2, List.getElem?_set_ne (by omega)] at hy
    (try simp only)
    rw [instr_same hc hl hn h1]
    exact a1 k y hy) (by (try simp only); rw [instr_same hc hl hn h1]; exact hb)
  rw [h, Nat.zero_add, instr_same hc hl hn h1]
theorem rest_hnd_ok {p p' : QP} {f f' : QF} (hr : (restQ p f).2 = 0) (hc : p'.consts = p.consts) (hl : p'.funcs.length = p.funcs.length) (h1 : f'.locs = f.locs) (h2 : f'.code = f.code) (h3 : f'.hnd.length ≤ 32) (h4 : ∀ (j : Nat) (x : QH), f'.hnd[j]? = some x → handlerQ x f.code.length = true) : restQ p' f' = (0, 0) := by
  obtain ⟨a1, _, _⟩ := rest_ok hr
  refine rest_is (fun j x hx => ?_) h3 (fun j x hx => by rw [h2]; exact h4 j x hx)
  rw [instr_same hc hl (by rw [h2]) h1]
  rw [h2] at hx
  exact a1 j x hx
theorem rest_hnd_bad {p p' : QP} {f f' : QF} {x : QH} (hr : (restQ p f).2 = 0) (hc : p'.consts = p.consts) (hl : p'.funcs.length = p.funcs.length) (h1 : f'.locs = f.locs) (h2 : f'.code = f.code) (h3 : f'.hnd = f.hnd ++ [x]) (h4 : f.hnd.length < 32) (h5 : handlerQ x f.code.length = false) : restQ p' f' = ((f.hnd.length : Int), 8) := by
  obtain ⟨a1, _, a3⟩ := rest_ok hr
  unfold restQ
  rw [firstBad_none (f := fun _ i => instrP chkP p' f' i) (fun k y hy => by (try simp only); rw [instr_same hc hl (by rw [h2]) h1]; rw [h2] at hy; exact a1 k y hy)]
  simp only
  rw [if_neg (by rw [h3, List.length_append, List.length_singleton]; omega)]
  have h := firstBad_at (f := fun _ h => if handlerQ h f'.code.length = true then (0 : Int) else 8) (l := f'.hnd) (i := 0) (m := f.hnd.length) (x := x) (by rw [h3, List.getElem?_append_right (Nat.le_refl _)]; simp) (fun k y hk hy => by
    rw [h3, List.getElem?_append_left hk] at hy
    (try simp only)
    rw [h2, if_pos (a3 k y hy)]) (by (try simp only); rw [h2, h5]; decide)
  rw [h, Nat.zero_add]
  (try simp only)
  rw [h2, h5]
  rfl
theorem rest_head {p p' : QP} {k : Nat} {f f' : QF} (h : FnOk p k f) (e1 : f'.pars = f.pars) (e2 : f'.locs = f.locs) (e3 : f'.code.length = f.code.length) : restP p' k f' = restQ p' f' := by
  unfold restP
  rw [e1, e2, e3, if_neg (by rintro (h1 | h1 | h1); exact absurd h1 (by have := h.p0; omega); exact absurd h1 (by have := h.pl; omega); exact h1.2 (h.pk h1.1)), if_neg (by have := h.l64; omega), if_neg (by have := h.c0; omega), if_neg (by have := h.c1; omega)]
theorem functionP_names {p p' : QP} {j : Nat} {f : QF} (hc : p'.consts = p.consts) (hm : p'.funcs.map QF.name = p.funcs.map QF.name) : functionP chkP p' j f = functionP chkP p j f := by
  have hl : p'.funcs.length = p.funcs.length := by have := congrArg List.length hm; simpa using this
  have h2 : instrP chkP p' f = instrP chkP p f := by
    funext i
    exact instr_same hc hl rfl rfl i
  have ha : ∀ (l : List QF), l.any (fun g => decide (g.name = f.name)) = (l.map QF.name).any (fun s => decide (s = f.name)) := fun l => by rw [List.any_map]; rfl
  have h3 : headP p' j f = headP p j f := by
    unfold headP
    rw [ha, ha, List.map_take, List.map_take, hm]
  unfold functionP
  rw [h2, h3]
theorem map_name_set {l : List QF} {k : Nat} {f f' : QF} (hk : l[k]? = some f) (hn : f'.name = f.name) : (l.set k f').map QF.name = l.map QF.name := by
  refine List.ext_getElem? (fun i => ?_)
  rw [List.getElem?_map, List.getElem?_map, List.getElem?_set]
  by_cases e : k = i
  · subst e
    rw [if_pos rfl, if_pos (List.getElem?_eq_some_iff.1 hk).1, hk]
    simp [hn]
  · rw [if_neg e]
theorem fits_set {p : QP} {k : Nat} {f f' : QF} (h : Fits p) (hk : p.funcs[k]? = some f) (hn : f'.name = f.name) (hf : (functionP chkP ⟨p.consts, p.funcs.set k f'⟩ k f').2 = 0) : Fits ⟨p.consts, p.funcs.set k f'⟩ :=
  ⟨h.nc, h.cs, by simp only [List.length_set]; exact h.nf, by simp only [List.length_set]; exact h.mf, fun j g hg => by
    simp only at hg
    by_cases e : k = j
    · subst e
      rw [List.getElem?_set, if_pos rfl, if_pos (List.getElem?_eq_some_iff.1 hk).1] at hg
      injection hg with hg
      subst hg
      exact hf
    · rw [List.getElem?_set_ne e] at hg
      rw [functionP_names (p := p) (p' := ⟨p.consts, p.funcs.set k f'⟩) rfl (map_name_set hk hn)]
      exact h.fs j g hg⟩
theorem fn_is {p : QP} {k : Nat} {f f' : QF} {x : Int × Int} (h : FnOk p k f) (hk : k < p.funcs.length) (hn : f'.name = f.name) (e1 : f'.pars = f.pars) (e2 : f'.locs = f.locs) (e3 : f'.code.length = f.code.length) (hx : restQ ⟨p.consts, p.funcs.set k f'⟩ f' = x) : functionP chkP ⟨p.consts, p.funcs.set k f'⟩ k f' = x :=
  (fn_rest h hk hn).trans ((rest_head h e1 e2 e3).trans hx)
theorem bad_jump {p : QP} {f : QF} (h0 : f.code.length ≤ 2000) : instrP chkP p f ⟨40, (f.code.length : Int)⟩ = if (f.code.length : Int) = 2000 then 7 else 8 := by
  have hr : (rowP 40).kind = 2 := by decide +kernel
  have ho : okP 40 = true := by decide +kernel
  have he : efP 40 (f.code.length : Int) = decide ((f.code.length : Int) < 2000) := by
    unfold efP rightP
    rw [ho, hr]
    simp [limP]
    (try omega)
  unfold instrP chkP namesP
  simp only
  rw [he, hr]
  by_cases h : (f.code.length : Int) = 2000
  · rw [if_pos h, h]
    simp
  · rw [if_neg h]
    have h1 : (f.code.length : Int) < 2000 := by omega
    simp [h1]
theorem bad_const {p : QP} {f : QF} (h0 : p.consts.length ≤ 512) : instrP chkP p f ⟨5, (p.consts.length : Int)⟩ = if (p.consts.length : Int) = 512 then 7 else 8 := by
  have hr : (rowP 5).kind = 4 := by decide +kernel
  have ho : okP 5 = true := by decide +kernel
  have he : efP 5 (p.consts.length : Int) = decide ((p.consts.length : Int) < 512) := by
    unfold efP rightP
    rw [ho, hr]
    simp [limP]
    (try omega)
  unfold instrP chkP namesP
  simp only
  rw [he, hr]
  by_cases h : (p.consts.length : Int) = 512
  · rw [if_pos h, h]
    simp
  · rw [if_neg h]
    have h1 : (p.consts.length : Int) < 512 := by omega
    simp [h1]
theorem bad_func {p : QP} {f : QF} (h0 : p.funcs.length ≤ 128) : instrP chkP p f ⟨6, (p.funcs.length : Int)⟩ = if (p.funcs.length : Int) = 128 then 7 else 8 := by
  have hr : (rowP 6).kind = 5 := by decide +kernel
  have ho : okP 6 = true := by decide +kernel
  have he : efP 6 (p.funcs.length : Int) = decide ((p.funcs.length : Int) < 128) := by
    unfold efP rightP
    rw [ho, hr]
    simp [limP]
    (try omega)
  unfold instrP chkP namesP
  simp only
  rw [he, hr]
  by_cases h : (p.funcs.length : Int) = 128
  · rw [if_pos h, h]
    simp
  · rw [if_neg h]
    have h1 : (p.funcs.length : Int) < 128 := by omega
    simp [h1]
theorem bad_load {p : QP} {f : QF} (h0 : 0 ≤ f.locs) (h1 : f.locs ≤ 64) : instrP chkP p f ⟨10, f.locs⟩ = if f.locs = 64 then 7 else 8 := by
  have hr : (rowP 10).kind = 3 := by decide +kernel
  have ho : okP 10 = true := by decide +kernel
  have he : efP 10 f.locs = decide (f.locs < 64) := by
    unfold efP rightP
    rw [ho, hr]
    simp [limP]
    (try omega)
  unfold instrP chkP namesP
  simp only
  rw [he, hr]
  by_cases h : f.locs = 64
  · rw [if_pos h, h]
    simp
  · rw [if_neg h]
    have h1 : f.locs < 64 := by omega
    simp [h1]
theorem bad_nop {p : QP} {f : QF} : instrP chkP p f ⟨0, 1⟩ = 7 := by
  have he : efP 0 1 = false := by decide +kernel
  unfold instrP chkP
  simp only
  rw [he]
  simp
end Go.Proofs.YtgaackedappmgaaDoor.K
