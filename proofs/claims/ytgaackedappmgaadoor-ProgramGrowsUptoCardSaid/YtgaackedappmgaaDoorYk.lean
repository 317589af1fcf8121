import Derived.Test.YtgaackedappmgaaDoorYj
import Derived.Test.YtgaackedappmgaaDoorQb
import Derived.Test.YtgaackedappmgaaDoorYh
import Derived.IntWalk
import Derived.BigQuiet
namespace Go.Proofs.YtgaackedappmgaaDoor.K
open Go.RowKit Go.Proofs.YtgaackedappmgaaDoorW.PrintWords Go.Proofs.YtgaackedappmgaaDoorW.PrintLast Go.Proofs.YtgaackedappmgaaDoorW.PrintMore
set_option linter.unusedVariables false
set_option linter.unusedSimpArgs false
set_option maxRecDepth 100000
def restQ (p : QP) (f : QF) : Int × Int := match firstBad (fun _ i => instrP chkP p f i) 0 f.code with
  | some (i, e) => ((i : Int), e)
  | none => if 32 < f.hnd.length then (32, 5) else match firstBad (fun _ h => if handlerQ h f.code.length = true then 0 else 8) 0 f.hnd with | some (i, e) => ((i : Int), e) | none => (0, 0)
def restP (p : QP) (k : Nat) (f : QF) : Int × Int :=
  if f.pars < 0 ∨ f.locs < f.pars ∨ (k = 0 ∧ f.pars ≠ 0) then (0, 1) else if 64 < f.locs then (0, 5) else if f.code.length = 0 then (0, 2) else if 2000 < f.code.length then (2000, 5) else restQ p f
theorem function_rest (p : QP) (k : Nat) (f : QF) : functionP chkP p k f = if nameE f.name ≠ 0 then (0, nameE f.name) else if (p.funcs.take k).any (fun g => decide (g.name = f.name)) = true then (0, 15) else restP p k f := by
  have h2 : (headP p k f).2 = 0 → functionP chkP p k f = restQ p f := fun h => by unfold functionP; rw [if_neg (by simpa using h)]; rfl
  have h3 : ∀ z : Int × Int, headP p k f = z → z.2 ≠ 0 → functionP chkP p k f = z := fun z h hz => by unfold functionP; rw [h, if_pos hz]
  unfold nameE
  by_cases c1 : nameBad f.name = true
  · rw [if_pos c1, if_pos (by decide)]
    exact h3 _ (by unfold headP; rw [if_pos c1]) (by decide)
  rw [if_neg c1]
  by_cases c2 : f.name.size = 0
  · rw [if_pos c2, if_pos (by decide)]
    exact h3 _ (by unfold headP; rw [if_neg c1, if_pos c2]) (by decide)
  rw [if_neg c2]
  by_cases c3 : 32 < f.name.size
  · rw [if_pos c3, if_pos (by decide)]
    exact h3 _ (by unfold headP; rw [if_neg c1, if_neg c2, if_pos c3]) (by decide)
  rw [if_neg c3, if_neg (by decide)]
  by_cases c4 : (p.funcs.take k).any (fun g => decide (g.name = f.name)) = true
  · rw [if_pos c4]
    exact h3 _ (by unfold headP; rw [if_neg c1, if_neg c2, if_neg c3, if_pos c4]) (by decide)
  rw [if_neg c4]
  have hh : headP p k f = if f.pars < 0 ∨ f.locs < f.pars ∨ (k = 0 ∧ f.pars ≠ 0) then (0, 1) else if 64 < f.locs then (0, 5) else if f.code.length = 0 then (0, 2) else if 2000 < f.code.length then (2000, 5) else (0, 0) := by unfold headP; rw [if_neg c1, if_neg c2, if_neg c3, if_neg c4]
  unfold restP
  by_cases c5 : f.pars < 0 ∨ f.locs < f.pars ∨ (k = 0 ∧ f.pars ≠ 0)
  · rw [if_pos c5]
    exact h3 _ (by rw [hh, if_pos c5]) (by decide)
  rw [if_neg c5]
  by_cases c6 : 64 < f.locs
  · rw [if_pos c6]
    exact h3 _ (by rw [hh, if_neg c5, if_pos c6]) (by decide)
  rw [if_neg c6]
  by_cases c7 : f.code.length = 0
  · rw [if_pos c7]
    exact h3 _ (by rw [hh, if_neg c5, if_neg c6, if_pos c7]) (by decide)
  rw [if_neg c7]
  by_cases c8 : 2000 < f.code.length
  · rw [if_pos c8]
    exact h3 _ (by rw [hh, if_neg c5, if_neg c6, if_neg c7, if_pos c8]) (by decide)
  rw [if_neg c8]
  exact h2 (by rw [hh, if_neg c5, if_neg c6, if_neg c7, if_neg c8])
def FnPost (w : World) (z : Int × Int) (e : Ending) (w' : World) : Prop := Chg (fun _ => False) w w' ∧ ((z.2 = 0 ∧ e = .returned .nilIface) ∨ (z.2 ≠ 0 ∧ ∃ b, e = .returned (.iface 80 (.pointer (some ⟨b, 0, none⟩))) ∧ w'.heap[b]? = some (.cells #[.int .i64 z.1, .int .i64 z.2] 87)))
set_option maxHeartbeats 4000000
theorem prog_checkFunction (w : World) (cA fA : Option Addr) (cc fc : Nat) (p : QP) (rs : List QR) (k : Nat) (f : QF) (hV : PV w cA fA p rs) (hf : p.funcs[k]? = some f) (hn : p.funcs.length ≤ 1048576) (hkn : f.code.length ≤ 1048576) (hhn : f.hnd.length ≤ 1048576) :
    Calls Tryd.prog 45 #[.agg #[.slice cA p.consts.length cc, .slice fA p.funcs.length fc], .int .i64 k] w (FnPost w (restP p k f)) := by
  obtain ⟨hk, _⟩ := List.getElem?_eq_some_iff.1 hf
  have hVA := Aside0.mk hV
  have hfA := Aside0.mk hf
  have hk0 : (0 : Int) ≤ k := by omega
  have hk1 : (k : Int) < p.funcs.length := by omega
  clear hV hf
  go_enter Tryd.func45, Tryd.ntmps45
  go_upto_region 1 with (fail)
  (try simp only [Act.put, List.setIfInBounds_toArray, List.set_cons_zero, List.set_cons_succ])
  generalize hW : World.alloc w _ = W0
  have B1 : Aside0 (W0.heap[w.heap.size]? = some (.cells #[.slice cA p.consts.length cc, .slice fA p.funcs.length fc] 25)) := ⟨by rw [← hW]; exact heap_alloc_new w _⟩
  have hz0 : Aside0 (Chg (fun _ => False) w W0) := ⟨by rw [← hW]; exact cg⟩
  clear hW
  obtain ⟨fd, ⟨nm, pa, lo, ⟨kA, kN, kC⟩, ⟨hA, hN, hC⟩⟩, e1, e2, x0, x1, x2, x3, x4⟩ := raw_at (hVA.out.below (hz0.out.below (fun _ _ h => h))).fs k hk
  obtain ⟨r1, r2, r3, r4, r5⟩ := (hVA.out.below (hz0.out.below (fun _ _ h => h))).raw k _ f e2 hfA.out
  have r6 := r4.1
  have r7 := r5.1
  simp only at r1 r2 r3 r6 r7 x0 x1 x2 x3 x4
  subst e1 r1 r2 r3 r6 r7
  have p1 : W0.cell? ⟨w.heap.size, 1, none⟩ = some (.slice (some fd) p.funcs.length fc) := blk_cell B1.out 1
  clear e2
  go_upto_region 2 with (fail)
  (try simp only [Act.put, List.setIfInBounds_toArray, List.set_cons_zero, List.set_cons_succ])
  generalize hW : World.alloc W0 _ = W1
  have B2 : Aside0 (W1.heap[W0.heap.size]? = some (.cells #[.string f.name, .int .i64 f.pars, .int .i64 f.locs, .slice kA f.code.length kC, .slice hA f.hnd.length hC] 47)) := ⟨by rw [← hW]; exact heap_alloc_new W0 _⟩
  have hz9 : Aside0 (Chg (fun _ => False) W0 W1) := ⟨by rw [← hW]; exact cg⟩
  clear hW
  have hgt : w.heap.size < W0.heap.size := blk_lt B1.out
  have hkC : Aside0 (Kd.C kQI W1 kA f.code.length f.code) := ⟨C_chg r4 (hz9.out.below (fun _ _ h => h))⟩
  have hhC : Aside0 (Kd.C kQH W1 hA f.hnd.length f.hnd) := ⟨C_chg r5 (hz9.out.below (fun _ _ h => h))⟩
  clear x0 x1 x2 x3 x4 p1 r4 r5
  replace B1 := Aside0.mk (hz9.out.blk B1.out (fun h => h))
  replace hz0 := Aside0.mk (hz0.out.trans hz9.out (fun _ _ h => h))
  clear hz9
  have q0 : W1.cell? ⟨W0.heap.size, 0, none⟩ = some (.string f.name) := blk_cell B2.out 0
  have q1 : W1.cell? ⟨W0.heap.size, 1, none⟩ = some (.int .i64 f.pars) := blk_cell B2.out 1
  have q2 : W1.cell? ⟨W0.heap.size, 2, none⟩ = some (.int .i64 f.locs) := blk_cell B2.out 2
  have q3 : W1.cell? ⟨W0.heap.size, 3, none⟩ = some (.slice kA f.code.length kC) := blk_cell B2.out 3
  have q4 : W1.cell? ⟨W0.heap.size, 4, none⟩ = some (.slice hA f.hnd.length hC) := blk_cell B2.out 4
  by_cases a1 : f.pars < 0
  · have he : Aside0 (restP p k f = (0, 1)) := ⟨by unfold restP; rw [if_pos (Or.inl a1)]⟩
    go_wp2_with (go_at_call 43; go_must (refine (prog_at _ _ _ (by decide)).mono ?_); go_must (rintro e w5 ⟨rfl, hw5⟩); go_must (subst w5))
    go_ret
    exact ⟨cg, Or.inr ⟨by rw [he.out]; decide, _, rfl, by rw [he.out]; exact heap_alloc_new _ _⟩⟩
  by_cases a2 : f.locs < f.pars
  · have he : Aside0 (restP p k f = (0, 1)) := ⟨by unfold restP; rw [if_pos (Or.inr (Or.inl a2))]⟩
    go_wp2_with (go_at_call 43; go_must (refine (prog_at _ _ _ (by decide)).mono ?_); go_must (rintro e w5 ⟨rfl, hw5⟩); go_must (subst w5))
    go_ret
    exact ⟨cg, Or.inr ⟨by rw [he.out]; decide, _, rfl, by rw [he.out]; exact heap_alloc_new _ _⟩⟩
  by_cases a3 : k = 0 ∧ f.pars ≠ 0
  · have he : Aside0 (restP p k f = (0, 1)) := ⟨by unfold restP; rw [if_pos (Or.inr (Or.inr a3))]⟩
    obtain ⟨b1, b2⟩ := a3
    have b3 : ((k : Int) == 0) = true := by simpa using b1
    have b4 : (f.pars != 0) = true := by simpa using b2
    clear b1 b2
    go_wp2_with (go_at_call 43; go_must (refine (prog_at _ _ _ (by decide)).mono ?_); go_must (rintro e w5 ⟨rfl, hw5⟩); go_must (subst w5))
    go_ret
    exact ⟨cg, Or.inr ⟨by rw [he.out]; decide, _, rfl, by rw [he.out]; exact heap_alloc_new _ _⟩⟩
  have hP : Aside0 (restP p k f = if 64 < f.locs then (0, 5) else if f.code.length = 0 then (0, 2) else if 2000 < f.code.length then (2000, 5) else restQ p f) := ⟨by unfold restP; rw [if_neg (by rintro (h | h | h); exact a1 h; exact a2 h; exact a3 h)]⟩
  have b5 : ((k : Int) == 0 && f.pars != 0) = false := by
    cases h1 : ((k : Int) == 0 && f.pars != 0) with
    | false => rfl
    | true =>
      rw [Bool.and_eq_true] at h1
      exact absurd ⟨by have := h1.1; simp at this; omega, by simpa using h1.2⟩ a3
  have hd : (((k : Int) == 0) = true ∧ (f.pars != 0) = false) ∨ ((k : Int) == 0) = false := by
    cases h1 : ((k : Int) == 0) with
    | false => exact Or.inr rfl
    | true => exact Or.inl ⟨rfl, by rw [h1] at b5; simpa using b5⟩
  clear b5
  rcases hd with ⟨b3, b4⟩ | b3
  all_goals
    clear a3
    by_cases a4 : 64 < f.locs
    · have he : Aside0 (restP p k f = (0, 5)) := ⟨by rw [hP.out, if_pos a4]⟩
      go_wp2_with (go_at_call 43; go_must (refine (prog_at _ _ _ (by decide)).mono ?_); go_must (rintro e w5 ⟨rfl, hw5⟩); go_must (subst w5))
      go_ret
      exact ⟨cg, Or.inr ⟨by rw [he.out]; decide, _, rfl, by rw [he.out]; exact heap_alloc_new _ _⟩⟩
    by_cases a5 : f.code.length = 0
    · have he : Aside0 (restP p k f = (0, 2)) := ⟨by rw [hP.out, if_neg a4, if_pos a5]⟩
      have a6 : ((f.code.length : Int) == 0) = true := by simpa using a5
      clear a5
      go_wp2_with (go_at_call 43; go_must (refine (prog_at _ _ _ (by decide)).mono ?_); go_must (rintro e w5 ⟨rfl, hw5⟩); go_must (subst w5))
      go_ret
      exact ⟨cg, Or.inr ⟨by rw [he.out]; decide, _, rfl, by rw [he.out]; exact heap_alloc_new _ _⟩⟩
    have a6 : ((f.code.length : Int) == 0) = false := by simpa using a5
    by_cases a7 : 2000 < f.code.length
    · have he : Aside0 (restP p k f = (2000, 5)) := ⟨by rw [hP.out, if_neg a4, if_neg a5, if_pos a7]⟩
      have a8 : (2000 : Int) < f.code.length := by omega
      clear a5
      go_wp2_with (go_at_call 43; go_must (refine (prog_at _ _ _ (by decide)).mono ?_); go_must (rintro e w5 ⟨rfl, hw5⟩); go_must (subst w5))
      go_ret
      exact ⟨cg, Or.inr ⟨by rw [he.out]; decide, _, rfl, by rw [he.out]; exact heap_alloc_new _ _⟩⟩
    have a8 : ¬ (2000 : Int) < f.code.length := by omega
    have hE : Aside0 (restP p k f = restQ p f) := ⟨by rw [hP.out, if_neg a4, if_neg a5, if_neg a7]⟩
    clear hP a5 a7
    go_wp2
    clear q0 q1 q2 q3 q4 a8 a6 a4 a2 a1
    go_loopw [57] (fun i57 wr => ∃ i : Nat, i57 = .int .i64 i ∧ i ≤ f.code.length ∧ Aside0 (∀ (m : Nat) (x : QI), m < i → f.code[m]? = some x → instrP chkP p f x = 0) ∧ Aside0 (Chg (fun _ => False) W1 wr)) (fun i57 _ => f.code.length - (intOf i57).toNat)
    case atStart => exact ⟨0, rfl, by omega, ⟨fun m x hm => by omega⟩, ⟨Chg.refl _ _⟩⟩
    case round =>
      obtain ⟨i, rfl, hi, hN, hCh⟩ := hrel
      have hz1 : Aside0 (Chg (fun _ => False) w wr) := ⟨hz0.out.trans hCh.out (fun _ _ h => h)⟩
      replace B1 := Aside0.mk (hCh.out.blk B1.out (fun h => h))
      replace B2 := Aside0.mk (hCh.out.blk B2.out (fun h => h))
      by_cases hlt : i < f.code.length
      · have hi0 : (0 : Int) ≤ i := by omega
        have hi1 : (i : Int) < f.code.length := by omega
        obtain ⟨kd, op1, a1, e1, e2, y0, y1⟩ := kQI_at (C_chg hkC.out (hCh.out.below (fun _ _ h => h))) i hlt
        subst e1
        have e2A := Aside0.mk e2
        clear e2
        go_upto_region 14 with (fail)
        (try simp only [Act.put, List.setIfInBounds_toArray, List.set_cons_zero, List.set_cons_succ])
        generalize hW : World.alloc wr _ = W2
        have B3 : Aside0 (W2.heap[wr.heap.size]? = some (.cells #[.int .i64 op1, .int .i64 a1] 50)) := ⟨by rw [← hW]; exact heap_alloc_new wr _⟩
        have hz3 : Aside0 (Chg (fun _ => False) wr W2) := ⟨by rw [← hW]; exact cg⟩
        clear hW
        replace B1 := Aside0.mk (hz3.out.blk B1.out (fun h => h))
        replace B2 := Aside0.mk (hz3.out.blk B2.out (fun h => h))
        replace hz1 := Aside0.mk (hz1.out.trans hz3.out (fun _ _ h => h))
        replace hCh := Aside0.mk (hCh.out.trans hz3.out (fun _ _ h => h))
        clear y0 y1 hz3
        have p0 : W2.cell? ⟨w.heap.size, 0, none⟩ = some (.slice cA p.consts.length cc) := blk_cell B1.out 0
        have p1 : W2.cell? ⟨w.heap.size, 1, none⟩ = some (.slice (some fd) p.funcs.length fc) := blk_cell B1.out 1
        have q0 : W2.cell? ⟨W0.heap.size, 0, none⟩ = some (.string f.name) := blk_cell B2.out 0
        have q1 : W2.cell? ⟨W0.heap.size, 1, none⟩ = some (.int .i64 f.pars) := blk_cell B2.out 1
        have q2 : W2.cell? ⟨W0.heap.size, 2, none⟩ = some (.int .i64 f.locs) := blk_cell B2.out 2
        have q3 : W2.cell? ⟨W0.heap.size, 3, none⟩ = some (.slice (some kd) f.code.length kC) := blk_cell B2.out 3
        have q4 : W2.cell? ⟨W0.heap.size, 4, none⟩ = some (.slice hA f.hnd.length hC) := blk_cell B2.out 4
        have i0 : W2.cell? ⟨wr.heap.size, 0, none⟩ = some (.int .i64 op1) := blk_cell B3.out 0
        have i1 : W2.cell? ⟨wr.heap.size, 1, none⟩ = some (.int .i64 a1) := blk_cell B3.out 1
        have hcall : Aside0 (Calls Tryd.prog 54 #[.agg #[.slice cA p.consts.length cc, .slice (some fd) p.funcs.length fc], .agg #[.string f.name, .int .i64 f.pars, .int .i64 f.locs, .slice (some kd) f.code.length kC, .slice hA f.hnd.length hC], .agg #[.int .i64 op1, .int .i64 a1]] W2 fun e w' => e = .returned (.int .i64 (instrP chkP p f ⟨op1, a1⟩)) ∧ Chg (fun _ => False) W2 w') := ⟨prog_checkInstr W2 cA (some fd) (some kd) hA cc fc kC hC p rs f op1 a1 (hVA.out.below (hz1.out.below (fun _ _ h => h)))⟩
        by_cases hb : instrP chkP p f ⟨op1, a1⟩ = 0
        · have hN2 : Aside0 (∀ (m : Nat) (x : QI), m < i + 1 → f.code[m]? = some x → instrP chkP p f x = 0) := ⟨fun m x hm hx => by
            rcases Nat.lt_or_ge m i with h1 | h1
            · exact hN.out m x h1 hx
            · obtain rfl : m = i := by omega
              rw [e2A.out] at hx
              injection hx with hx
              rw [← hx, hb]⟩
          rw [hb] at hcall
          clear hb hz1
          go_wp2_with (first | (go_at_call 54; go_must (refine (hcall.out).mono ?_); go_must (rintro e w4 ⟨rfl, hc4⟩); go_must (replace hc4 := Aside0.mk hc4)) | (go_at_call 43; go_must (refine (prog_at0 _ _).mono ?_); go_must (rintro e w5 ⟨rfl, hw5⟩); go_must (subst w5)))
          go_roundw
          case measure => first | (simp [intOf]; done) | (simp [intOf]; omega)
          case rel => exact ⟨i + 1, by go_num, by omega, hN2, ⟨cg⟩⟩
        · have he : Aside0 (restP p k f = ((i : Int), instrP chkP p f ⟨op1, a1⟩)) := ⟨by
            have h1 := firstBad_at (f := fun _ i => instrP chkP p f i) (i := 0) e2A.out (fun m y hm hy => hN.out m y hm hy) hb
            rw [hE.out]
            unfold restQ
            rw [h1]
            simp⟩
          have hbA := Aside0.mk hb
          clear hb hCh
          generalize instrP chkP p f ⟨op1, a1⟩ = z at hcall he hbA
          have hb' : (z == 0) = false := by simpa using hbA.out
          go_wp2_with (first | (go_at_call 54; go_must (refine (hcall.out).mono ?_); go_must (rintro e w4 ⟨rfl, hc4⟩); go_must (replace hc4 := Aside0.mk hc4)) | (go_at_call 43; go_must (refine (prog_at _ _ _ hbA.out).mono ?_); go_must (rintro e w5 ⟨rfl, hw5⟩); go_must (subst w5)))
          go_ret
          exact ⟨cg, Or.inr ⟨by rw [he.out]; exact hbA.out, _, rfl, by rw [he.out]; exact heap_alloc_new _ _⟩⟩
      · obtain rfl : i = f.code.length := by omega
        have hi1 : ¬ ((f.code.length : Int) < f.code.length) := by omega
        have hE2 : Aside0 (restP p k f = if 32 < f.hnd.length then (32, 5) else match firstBad (fun _ h => if handlerQ h f.code.length = true then 0 else 8) 0 f.hnd with | some (i, e) => ((i : Int), e) | none => (0, 0)) := ⟨by
          rw [hE.out]
          unfold restQ
          rw [firstBad_none (fun m x hx => hN.out m x (List.getElem?_eq_some_iff.1 hx).1 hx)]⟩
        have q4 : wr.cell? ⟨W0.heap.size, 4, none⟩ = some (.slice hA f.hnd.length hC) := blk_cell B2.out 4
        clear hlt hN hE
        by_cases hh : 32 < f.hnd.length
        · have he : Aside0 (restP p k f = (32, 5)) := ⟨by rw [hE2.out, if_pos hh]⟩
          have hh1 : (32 : Int) < f.hnd.length := by omega
          clear hCh
          go_wp2_with (go_at_call 43; go_must (refine (prog_at _ _ _ (by decide)).mono ?_); go_must (rintro e w5 ⟨rfl, hw5⟩); go_must (subst w5))
          go_ret
          exact ⟨cg, Or.inr ⟨by rw [he.out]; decide, _, rfl, by rw [he.out]; exact heap_alloc_new _ _⟩⟩
        have hh1 : ¬ (32 : Int) < f.hnd.length := by omega
        replace hE2 : Aside0 (restP p k f = match firstBad (fun _ h => if handlerQ h f.code.length = true then 0 else 8) 0 f.hnd with | some (i, e) => ((i : Int), e) | none => (0, 0)) := ⟨by rw [hE2.out, if_neg hh]⟩
        go_wp2
        obtain ⟨wo, hwo⟩ : ∃ wo : World, wo = wr := ⟨wr, rfl⟩
        subst hwo
        clear q4 hh hh1
        go_loopw [80] (fun i80 wr => ∃ i : Nat, i80 = .int .i64 i ∧ i ≤ f.hnd.length ∧ Aside0 (∀ (m : Nat) (x : QH), m < i → f.hnd[m]? = some x → handlerQ x f.code.length = true) ∧ Aside0 (Chg (fun _ => False) wo wr)) (fun i80 _ => f.hnd.length - (intOf i80).toNat)
        case atStart => exact ⟨0, rfl, by omega, ⟨fun m x hm => by omega⟩, ⟨Chg.refl _ _⟩⟩
        case round =>
          obtain ⟨i, rfl, hi, hN, hCh2⟩ := hrel
          have hz2 : Aside0 (Chg (fun _ => False) w wr) := ⟨hz1.out.trans hCh2.out (fun _ _ h => h)⟩
          by_cases hlt : i < f.hnd.length
          · have hi0 : (0 : Int) ≤ i := by omega
            have hi1 : (i : Int) < f.hnd.length := by omega
            obtain ⟨hd, a, b, t, g, e1, e2, y0, y1, y2, y3⟩ := kQH_at (C_chg (Aside0.mk (C_chg hhC.out (hCh.out.below (fun _ _ h => h)))).out (hCh2.out.below (fun _ _ h => h))) i hlt
            subst e1
            have e2A := Aside0.mk e2
            clear e2
            go_upto_region 23 with (fail)
            (try simp only [Act.put, List.setIfInBounds_toArray, List.set_cons_zero, List.set_cons_succ])
            generalize hW : World.alloc wr _ = W3
            have B4 : Aside0 (W3.heap[wr.heap.size]? = some (.cells #[.int .i64 a, .int .i64 b, .int .i64 t, .int .i64 g] 54)) := ⟨by rw [← hW]; exact heap_alloc_new wr _⟩
            have hz4 : Aside0 (Chg (fun _ => False) wr W3) := ⟨by rw [← hW]; exact cg⟩
            clear hW
            replace hz2 := Aside0.mk (hz2.out.trans hz4.out (fun _ _ h => h))
            replace hCh2 := Aside0.mk (hCh2.out.trans hz4.out (fun _ _ h => h))
            clear y0 y1 y2 y3 hz4
            have h0 : W3.cell? ⟨wr.heap.size, 0, none⟩ = some (.int .i64 a) := blk_cell B4.out 0
            have h1 : W3.cell? ⟨wr.heap.size, 1, none⟩ = some (.int .i64 b) := blk_cell B4.out 1
            have h2 : W3.cell? ⟨wr.heap.size, 2, none⟩ = some (.int .i64 t) := blk_cell B4.out 2
            have h3 : W3.cell? ⟨wr.heap.size, 3, none⟩ = some (.int .i64 g) := blk_cell B4.out 3
            have hN2 : Aside0 (handlerQ ⟨a, b, t, g⟩ f.code.length = true → ∀ (m : Nat) (x : QH), m < i + 1 → f.hnd[m]? = some x → handlerQ x f.code.length = true) := ⟨fun hq m x hm hx => by
              rcases Nat.lt_or_ge m i with h1 | h1
              · exact hN.out m x h1 hx
              · obtain rfl : m = i := by omega
                rw [e2A.out] at hx
                injection hx with hx
                rw [← hx, hq]⟩
            have hbd : Aside0 (handlerQ ⟨a, b, t, g⟩ f.code.length = false → restP p k f = ((i : Int), 8)) := ⟨fun hq => by
              have h1 := firstBad_at (f := fun _ h => if handlerQ h f.code.length = true then (0 : Int) else 8) (i := 0) e2A.out (fun m y hm hy => by rw [hN.out m y hm hy]; rfl) (by rw [hq]; decide)
              rw [hE2.out, h1, hq]
              simp⟩
            by_cases c0 : (0 : Int) ≤ a
            · have n0 : ¬ (a < 0) := by omega
              by_cases c1 : a < b
              · have n1 : ¬ (b ≤ a) := by omega
                by_cases c2 : b ≤ f.code.length
                · have n2 : ¬ ((f.code.length : Int) < b) := by omega
                  by_cases c3 : (0 : Int) ≤ t
                  · have n3 : ¬ (t < 0) := by omega
                    by_cases c4 : t < f.code.length
                    · have n4 : ¬ ((f.code.length : Int) ≤ t) := by omega
                      by_cases c5 : (0 : Int) ≤ g
                      · have n5 : ¬ (g < 0) := by omega
                        by_cases c6 : g < 64
                        · have n6 : ¬ (64 ≤ g) := by omega
                          have hq : handlerQ ⟨a, b, t, g⟩ f.code.length = true := by simp [handlerQ, c0, c1, c2, c3, c4, c5, c6]
                          replace hN2 := Aside0.mk (hN2.out hq)
                          clear hq hz2
                          go_wp2
                          go_roundw
                          case measure => first | (simp [intOf]; done) | (simp [intOf]; omega)
                          case rel => exact ⟨i + 1, by go_num, by omega, hN2, ⟨cg⟩⟩
                        · have n6 : 64 ≤ g := by omega
                          have he : Aside0 (restP p k f = ((i : Int), 8)) := ⟨hbd.out (by simp [handlerQ, c0, c1, c2, c3, c4, c5, c6])⟩
                          clear hCh2
                          go_wp2_with (go_at_call 43; go_must (refine (prog_at _ _ _ (by decide)).mono ?_); go_must (rintro e w5 ⟨rfl, hw5⟩); go_must (subst w5))
                          go_ret
                          exact ⟨cg, Or.inr ⟨by rw [he.out]; exact (by decide : (8 : Int) ≠ 0), _, rfl, by rw [he.out]; exact heap_alloc_new _ _⟩⟩
                      · have n5 : g < 0 := by omega
                        have he : Aside0 (restP p k f = ((i : Int), 8)) := ⟨hbd.out (by simp [handlerQ, c0, c1, c2, c3, c4, c5])⟩
                        clear hCh2
                        go_wp2_with (go_at_call 43; go_must (refine (prog_at _ _ _ (by decide)).mono ?_); go_must (rintro e w5 ⟨rfl, hw5⟩); go_must (subst w5))
                        go_ret
                        exact ⟨cg, Or.inr ⟨by rw [he.out]; exact (by decide : (8 : Int) ≠ 0), _, rfl, by rw [he.out]; exact heap_alloc_new _ _⟩⟩
                    · have n4 : (f.code.length : Int) ≤ t := by omega
                      have he : Aside0 (restP p k f = ((i : Int), 8)) := ⟨hbd.out (by simp [handlerQ, c0, c1, c2, c3, c4])⟩
                      clear hCh2
                      go_wp2_with (go_at_call 43; go_must (refine (prog_at _ _ _ (by decide)).mono ?_); go_must (rintro e w5 ⟨rfl, hw5⟩); go_must (subst w5))
                      go_ret
                      exact ⟨cg, Or.inr ⟨by rw [he.out]; exact (by decide : (8 : Int) ≠ 0), _, rfl, by rw [he.out]; exact heap_alloc_new _ _⟩⟩
                  · have n3 : t < 0 := by omega
                    have he : Aside0 (restP p k f = ((i : Int), 8)) := ⟨hbd.out (by simp [handlerQ, c0, c1, c2, c3])⟩
                    clear hCh2
                    go_wp2_with (go_at_call 43; go_must (refine (prog_at _ _ _ (by decide)).mono ?_); go_must (rintro e w5 ⟨rfl, hw5⟩); go_must (subst w5))
                    go_ret
                    exact ⟨cg, Or.inr ⟨by rw [he.out]; exact (by decide : (8 : Int) ≠ 0), _, rfl, by rw [he.out]; exact heap_alloc_new _ _⟩⟩
                · have n2 : (f.code.length : Int) < b := by omega
                  have he : Aside0 (restP p k f = ((i : Int), 8)) := ⟨hbd.out (by simp [handlerQ, c0, c1, c2])⟩
                  clear hCh2
                  go_wp2_with (go_at_call 43; go_must (refine (prog_at _ _ _ (by decide)).mono ?_); go_must (rintro e w5 ⟨rfl, hw5⟩); go_must (subst w5))
                  go_ret
                  exact ⟨cg, Or.inr ⟨by rw [he.out]; exact (by decide : (8 : Int) ≠ 0), _, rfl, by rw [he.out]; exact heap_alloc_new _ _⟩⟩
              · have n1 : b ≤ a := by omega
                have he : Aside0 (restP p k f = ((i : Int), 8)) := ⟨hbd.out (by simp [handlerQ, c0, c1])⟩
                clear hCh2
                go_wp2_with (go_at_call 43; go_must (refine (prog_at _ _ _ (by decide)).mono ?_); go_must (rintro e w5 ⟨rfl, hw5⟩); go_must (subst w5))
                go_ret
                exact ⟨cg, Or.inr ⟨by rw [he.out]; exact (by decide : (8 : Int) ≠ 0), _, rfl, by rw [he.out]; exact heap_alloc_new _ _⟩⟩
            · have n0 : a < 0 := by omega
              have he : Aside0 (restP p k f = ((i : Int), 8)) := ⟨hbd.out (by simp [handlerQ, c0])⟩
              clear hCh2
              go_wp2_with (go_at_call 43; go_must (refine (prog_at _ _ _ (by decide)).mono ?_); go_must (rintro e w5 ⟨rfl, hw5⟩); go_must (subst w5))
              go_ret
              exact ⟨cg, Or.inr ⟨by rw [he.out]; exact (by decide : (8 : Int) ≠ 0), _, rfl, by rw [he.out]; exact heap_alloc_new _ _⟩⟩
          · obtain rfl : i = f.hnd.length := by omega
            have hi1 : ¬ ((f.hnd.length : Int) < f.hnd.length) := by omega
            have he : Aside0 (restP p k f = (0, 0)) := ⟨by rw [hE2.out, firstBad_none (fun m x hx => by rw [hN.out m x (List.getElem?_eq_some_iff.1 hx).1 hx]; rfl)]⟩
            go_wp2
            go_ret
            exact ⟨hz2.out, Or.inl ⟨by rw [he.out], rfl⟩⟩
end Go.Proofs.YtgaackedappmgaaDoor.K
