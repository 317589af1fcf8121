import Derived.Test.YtgaackedappmgaaDoorYf
import Derived.Test.YtgaackedappmgaaDoorCj
import Derived.Test.YtgaackedappmgaaDoorQb
import Derived.IntWalk
import Derived.BigQuiet
import Derived.Deep.RegionHeld3
namespace Go.Proofs.YtgaackedappmgaaDoor.K
open Go.RowKit Go.Proofs.YtgaackedappmgaaDoorW.PrintWords Go.Proofs.YtgaackedappmgaaDoorW.PrintLast Go.Proofs.YtgaackedappmgaaDoorW.PrintMore
set_option linter.unusedVariables false
set_option linter.unusedSimpArgs false
set_option maxRecDepth 100000
theorem chk_right {op a : Int} (h : chkP op a = 0) : rightP (rowP op).kind a = true := by
  unfold chkP efP at h
  by_cases e : (okP op && rightP (rowP op).kind a) = true
  · exact (Bool.and_eq_true_iff.1 e).2
  · rw [if_neg e] at h
    exact absurd h (by decide)
set_option maxHeartbeats 4000000
theorem ref_names (w : World) (cA fA kA hA : Option Addr) (cc fc kC hC : Nat) (p : QP) (rs : List QR) (f : QF) (op a : Int) (hV : PV w cA fA p rs) (hck : chkP op a = 0) :
    Calls Tryd.prog 38 #[.agg #[.slice cA p.consts.length cc, .slice fA p.funcs.length fc], .agg #[.string f.name, .int .i64 f.pars, .int .i64 f.locs, .slice kA f.code.length kC, .slice hA f.hnd.length hC], .agg #[.int .i64 op, .int .i64 a]] w fun e w' => e = .returned (.bool (namesP p f ⟨op, a⟩)) ∧ Chg (fun _ => False) w w' := by
  have hri := chk_right hck
  have hVA := Aside0.mk hV
  have hop : Aside0 (∀ W, Calls Tryd.prog 47 #[.int .i64 op] W _) := ⟨fun W => ref_Operand W op⟩
  have hP : Aside0 (namesP p f ⟨op, a⟩ = if (rowP op).kind = 2 then decide (a < f.code.length) else if (rowP op).kind = 3 then decide (a < f.locs) else if (rowP op).kind = 5 then decide (a < p.funcs.length) else if (rowP op).kind = 4 then decide (a < p.consts.length) && (decide (op = 5) || match p.consts[a.toNat]? with | some c => decide (c.kind = 4) | none => false) else true) := ⟨rfl⟩
  generalize (rowP op).kind = kd at hop hP hri
  generalize okP op = ok at hop
  clear hV hck
  go_enter Tryd.func38, Tryd.ntmps38
  go_upto_region 1 with (fail)
  (try simp only [Act.put, List.setIfInBounds_toArray, List.set_cons_zero, List.set_cons_succ])
  generalize hW : World.alloc (World.alloc (World.alloc w _) _) _ = W0
  have B1 : Aside0 (W0.heap[w.heap.size]? = some (.cells #[.slice cA p.consts.length cc, .slice fA p.funcs.length fc] 25)) := ⟨by rw [← hW]; exact (((Chg.refl (fun _ => False) (w.alloc _)).alloc _).alloc _).blk (heap_alloc_new w _) (fun e => e)⟩
  have B2 : Aside0 (W0.heap[w.heap.size + 1]? = some (.cells #[.string f.name, .int .i64 f.pars, .int .i64 f.locs, .slice kA f.code.length kC, .slice hA f.hnd.length hC] 47)) := ⟨by rw [← hW]; exact ((Chg.refl (fun _ => False) ((w.alloc _).alloc _)).alloc _).blk (heap_alloc2_new w _ _) (fun e => e)⟩
  have B3 : Aside0 (W0.heap[w.heap.size + 1 + 1]? = some (.cells #[.int .i64 op, .int .i64 a] 50)) := ⟨by rw [← hW]; exact heap_al3 w _ _ _⟩
  have hz0 : Aside0 (Chg (fun _ => False) w W0) := ⟨by rw [← hW]; exact cg⟩
  clear hW
  have q0 : W0.cell? ⟨w.heap.size + 1, 0, none⟩ = some (.string f.name) := blk_cell B2.out 0
  have q1 : W0.cell? ⟨w.heap.size + 1, 1, none⟩ = some (.int .i64 f.pars) := blk_cell B2.out 1
  have q2 : W0.cell? ⟨w.heap.size + 1, 2, none⟩ = some (.int .i64 f.locs) := blk_cell B2.out 2
  have q3 : W0.cell? ⟨w.heap.size + 1, 3, none⟩ = some (.slice kA f.code.length kC) := blk_cell B2.out 3
  have q4 : W0.cell? ⟨w.heap.size + 1, 4, none⟩ = some (.slice hA f.hnd.length hC) := blk_cell B2.out 4
  have p1 : W0.cell? ⟨w.heap.size, 1, none⟩ = some (.slice fA p.funcs.length fc) := blk_cell B1.out 1
  have p0 : W0.cell? ⟨w.heap.size, 0, none⟩ = some (.slice cA p.consts.length cc) := blk_cell B1.out 0
  have i0 : W0.cell? ⟨w.heap.size + 1 + 1, 0, none⟩ = some (.int .i64 op) := blk_cell B3.out 0
  have i1 : W0.cell? ⟨w.heap.size + 1 + 1, 1, none⟩ = some (.int .i64 a) := blk_cell B3.out 1
  go_upto_region 2 with (go_at_call 47; go_must (refine (hop.out _).mono ?_); go_must (rintro e w1 ⟨rfl, hw1⟩); go_must (subst w1))
  (try simp only [Act.put, List.setIfInBounds_toArray, List.set_cons_zero, List.set_cons_succ])
  clear hop
  by_cases k2 : kd = 2
  · subst k2
    have he : Aside0 (namesP p f ⟨op, a⟩ = decide (a < f.code.length)) := ⟨by rw [hP.out, if_pos rfl]⟩
    go_wp2
    go_ret
    exact ⟨by first | (rw [he.out]; done) | (rw [he.out]; rfl) | (simp [he.out]; done), hz0.out⟩
  have d2 : (kd == 2) = false := by simpa using k2
  by_cases k3 : kd = 3
  · subst k3
    have he : Aside0 (namesP p f ⟨op, a⟩ = decide (a < f.locs)) := ⟨by rw [hP.out, if_neg (by decide), if_pos rfl]⟩
    go_wp2
    go_ret
    exact ⟨by first | (rw [he.out]; done) | (rw [he.out]; rfl) | (simp [he.out]; done), hz0.out⟩
  have d3 : (kd == 3) = false := by simpa using k3
  by_cases k5 : kd = 5
  · subst k5
    have he : Aside0 (namesP p f ⟨op, a⟩ = decide (a < p.funcs.length)) := ⟨by rw [hP.out, if_neg (by decide), if_neg (by decide), if_pos rfl]⟩
    go_wp2
    go_ret
    exact ⟨by first | (rw [he.out]; done) | (rw [he.out]; rfl) | (simp [he.out]; done), hz0.out⟩
  have d5 : (kd == 5) = false := by simpa using k5
  by_cases k4 : kd = 4
  · subst k4
    have h0 : 0 ≤ a := by
      simp [rightP, limP] at hri
      omega
    obtain ⟨m, rfl⟩ := Int.eq_ofNat_of_zero_le h0
    by_cases hm : m < p.consts.length
    · have hm1 : (m : Int) < p.consts.length := by omega
      by_cases ho : op = 5
      · subst ho
        have he : Aside0 (namesP p f ⟨5, m⟩ = true) := ⟨by rw [hP.out, if_neg (by decide), if_neg (by decide), if_neg (by decide), if_pos rfl, decide_eq_true hm1]; rfl⟩
        go_wp2
        go_ret
        exact ⟨by first | (rw [he.out]; done) | (rw [he.out]; rfl) | (simp [he.out]; done), hz0.out⟩
      have do5 : (op == 5) = false := by simpa using ho
      obtain ⟨cd, kd1, n1, t1, e1, e2, y0, y1, y2⟩ := kQC_at2 (hVA.out.below (hz0.out.below (fun _ _ h => h))).cs m hm
      subst e1
      have he : Aside0 (namesP p f ⟨op, m⟩ = decide (kd1 = 4)) := ⟨by rw [hP.out, if_neg (by decide), if_neg (by decide), if_neg (by decide), if_pos rfl, decide_eq_true hm1, decide_eq_false ho, Int.toNat_natCast, e2]; rfl⟩
      go_wp2
      go_ret
      exact ⟨by first | (rw [he.out]; done) | (rw [he.out]; rfl) | (simp [he.out]; done), hz0.out⟩
    · have hm1 : ¬ (m : Int) < p.consts.length := by omega
      have he : Aside0 (namesP p f ⟨op, m⟩ = false) := ⟨by rw [hP.out, if_neg (by decide), if_neg (by decide), if_neg (by decide), if_pos rfl, decide_eq_false hm1]; rfl⟩
      go_wp2
      go_ret
      exact ⟨by first | (rw [he.out]; done) | (rw [he.out]; rfl) | (simp [he.out]; done), hz0.out⟩
  have d4 : (kd == 4) = false := by simpa using k4
  have he : Aside0 (namesP p f ⟨op, a⟩ = true) := ⟨by rw [hP.out, if_neg k2, if_neg k3, if_neg k5, if_neg k4]⟩
  go_wp2
  go_ret
  exact ⟨by first | (rw [he.out]; done) | (rw [he.out]; rfl) | (simp [he.out]; done), hz0.out⟩
theorem ref_function (w : World) (cA fA : Option Addr) (cc fc : Nat) (p : QP) (rs : List QR) (k : Nat) (f : QF) (hV : PV w cA fA p rs) (hf : p.funcs[k]? = some f) (hn : p.funcs.length ≤ 1048576) (hz : f.name.size ≤ 140737488351232) (hkn : f.code.length ≤ 1048576) (hhn : f.hnd.length ≤ 1048576) :
    Calls Tryd.prog 26 #[.agg #[.slice cA p.consts.length cc, .slice fA p.funcs.length fc], .int .i64 k] w fun e w' => e = .returned (.tuple #[.int .i64 (functionP chkP p k f).1, .int .i64 (functionP chkP p k f).2]) ∧ Chg (fun _ => False) w w' := by
  obtain ⟨hk, _⟩ := List.getElem?_eq_some_iff.1 hf
  have hVA := Aside0.mk hV
  have hfA := Aside0.mk hf
  have hk0 : (0 : Int) ≤ k := by omega
  have hk1 : (k : Int) < p.funcs.length := by omega
  have hhd : Aside0 (∀ W, PV W cA fA p rs → Calls Tryd.prog 36 #[.agg #[.slice cA p.consts.length cc, .slice fA p.funcs.length fc], .int .i64 k] W fun e w' => e = .returned (.tuple #[.int .i64 (headP p k f).1, .int .i64 (headP p k f).2]) ∧ Chg (fun _ => False) W w') := ⟨fun W h => ref_head W cA fA _ cc fc p rs k f h hf hn hz⟩
  have hE : Aside0 (functionP chkP p k f = if (headP p k f).2 ≠ 0 then headP p k f else functionP chkP p k f) := ⟨by by_cases h : (headP p k f).2 ≠ 0; (rw [if_pos h]; unfold functionP; rw [if_pos h]); (rw [if_neg h])⟩
  have hE2 : Aside0 ((headP p k f).2 = 0 → functionP chkP p k f = match firstBad (fun _ i => instrP chkP p f i) 0 f.code with | some (i, e) => ((i : Int), e) | none => if 32 < f.hnd.length then (32, 5) else match firstBad (fun _ h => if handlerQ h f.code.length = true then 0 else 8) 0 f.hnd with | some (i, e) => ((i : Int), e) | none => (0, 0)) := ⟨fun h => by unfold functionP; rw [if_neg (by simpa using h)]; rfl⟩
  rcases hq : headP p k f with ⟨z1, z2⟩
  rw [hq] at hhd hE hE2
  clear hV hf hq
  go_enter Tryd.func26, Tryd.ntmps26
  go_upto_region 1 with (fail)
  (try simp only [Act.put, List.setIfInBounds_toArray, List.set_cons_zero, List.set_cons_succ])
  generalize hW : World.alloc w _ = W0
  have B1 : Aside0 (W0.heap[w.heap.size]? = some (.cells #[.slice cA p.consts.length cc, .slice fA p.funcs.length fc] 25)) := ⟨by rw [← hW]; exact heap_alloc_new w _⟩
  have hz0 : Aside0 (Chg (fun _ => False) w W0) := ⟨by rw [← hW]; exact cg⟩
  clear hW
  have p0 : W0.cell? ⟨w.heap.size, 0, none⟩ = some (.slice cA p.consts.length cc) := blk_cell B1.out 0
  have p1 : W0.cell? ⟨w.heap.size, 1, none⟩ = some (.slice fA p.funcs.length fc) := blk_cell B1.out 1
  go_upto_region 2 with (go_at_call 36; go_must (refine (hhd.out _ (hVA.out.below bl) ).mono ?_); go_must (rintro e w1 ⟨rfl, hc1⟩); go_must (replace hc1 := Aside0.mk hc1))
  (try simp only [Act.put, List.setIfInBounds_toArray, List.set_cons_zero, List.set_cons_succ])
  replace B1 := Aside0.mk (hc1.out.blk B1.out (fun h => h))
  replace hz0 := Aside0.mk (hz0.out.trans hc1.out (fun _ _ h => h))
  clear p0 p1 hhd hc1
  by_cases hz2 : z2 ≠ 0
  · have hz2' : (z2 != 0) = true := by simpa using hz2
    have he : Aside0 (functionP chkP p k f = (z1, z2)) := ⟨by rw [hE.out, if_pos hz2]⟩
    clear hz2
    go_wp2
    go_ret2
    exact ⟨by first | (rw [he.out]; done) | (rw [he.out]; rfl) | (simp [he.out]; done), hz0.out⟩
  replace hz2 : z2 = 0 := Classical.not_not.1 hz2
  subst hz2
  replace hE := Aside0.mk (hE2.out rfl)
  clear hE2
  obtain ⟨fd, ⟨nm, pa, lo, ⟨kA, kN, kC⟩, ⟨hA, hN, hC⟩⟩, e1, e2, x0, x1, x2, x3, x4⟩ := raw_at (hVA.out.below (hz0.out.below (fun _ _ h => h))).fs k hk
  obtain ⟨r1, r2, r3, r4, r5⟩ := (hVA.out.below (hz0.out.below (fun _ _ h => h))).raw k _ f e2 hfA.out
  have r6 := r4.1
  have r7 := r5.1
  simp only at r1 r2 r3 r6 r7 x0 x1 x2 x3 x4
  subst e1 r1 r2 r3 r6 r7
  have hkC := Aside0.mk r4
  have hhC := Aside0.mk r5
  have p1 : w1.cell? ⟨w.heap.size, 1, none⟩ = some (.slice (some fd) p.funcs.length fc) := blk_cell B1.out 1
  clear r4 r5 e2
  go_upto_region 5 with (fail)
  (try simp only [Act.put, List.setIfInBounds_toArray, List.set_cons_zero, List.set_cons_succ])
  generalize hW : World.alloc w1 _ = W1
  have B2 : Aside0 (W1.heap[w1.heap.size]? = some (.cells #[.string f.name, .int .i64 f.pars, .int .i64 f.locs, .slice kA f.code.length kC, .slice hA f.hnd.length hC] 47)) := ⟨by rw [← hW]; exact heap_alloc_new w1 _⟩
  have hz9 : Aside0 (Chg (fun _ => False) w1 W1) := ⟨by rw [← hW]; exact cg⟩
  clear hW
  have hgt : w.heap.size < w1.heap.size := blk_lt B1.out
  clear x0 x1 x2 x3 x4 p1
  replace B1 := Aside0.mk (hz9.out.blk B1.out (fun h => h))
  replace hz0 := Aside0.mk (hz0.out.trans hz9.out (fun _ _ h => h))
  (try go_wp2)
  go_loopw [9, 10] (fun i9 _ wr => ∃ i : Nat, i9 = .int .i64 i ∧ i ≤ f.code.length ∧ Aside0 (∀ (m : Nat) (x : QI), m < i → f.code[m]? = some x → instrP chkP p f x = 0) ∧ Aside0 (Chg (fun _ => False) W1 wr)) (fun i9 _ _ => f.code.length - (intOf i9).toNat)
  case atStart => exact ⟨0, rfl, by omega, ⟨fun m x hm => by omega⟩, ⟨Chg.refl _ _⟩⟩
  case round =>
    obtain ⟨i, rfl, hi, hN, hCh⟩ := hrel
    have hz1 : Aside0 (Chg (fun _ => False) w wr) := ⟨hz0.out.trans hCh.out (fun _ _ h => h)⟩
    replace B1 := Aside0.mk (hCh.out.blk B1.out (fun h => h))
    replace B2 := Aside0.mk (hCh.out.blk B2.out (fun h => h))
    have q3 : wr.cell? ⟨w1.heap.size, 3, none⟩ = some (.slice kA f.code.length kC) := blk_cell B2.out 3
    by_cases hlt : i < f.code.length
    · have hi0 : (0 : Int) ≤ i := by omega
      have hi1 : (i : Int) < f.code.length := by omega
      obtain ⟨kd, op1, a1, e1, e2, y0, y1⟩ := kQI_at (C_chg (Aside0.mk (C_chg hkC.out (hz9.out.below (fun _ _ h => h)))).out (hCh.out.below (fun _ _ h => h))) i hlt
      subst e1
      have e2A := Aside0.mk e2
      have hfst : Aside0 (∀ e, e ≠ 0 → instrP chkP p f ⟨op1, a1⟩ = e → functionP chkP p k f = ((i : Int), e)) := ⟨fun e h0 he => by
        have h1 := firstBad_at (f := fun _ i => instrP chkP p f i) (i := 0) e2A.out (fun m y hm hy => hN.out m y hm hy) (by rw [he]; exact h0)
        rw [hE.out, h1, he]
        simp⟩
      clear e2
      by_cases hck : chkP op1 a1 = 0
      · have hcall : Aside0 (∀ W, Calls Tryd.prog 37 #[.agg #[.int .i64 op1, .int .i64 a1]] W fun e w' => e = .returned (.int .i64 0) ∧ Chg (fun _ => False) W w') := ⟨fun W => by have h := ref_Check W op1 a1; rw [hck] at h; exact h⟩
        have hnm : Aside0 (∀ W, PV W cA (some fd) p rs → Calls Tryd.prog 38 #[.agg #[.slice cA p.consts.length cc, .slice (some fd) p.funcs.length fc], .agg #[.string f.name, .int .i64 f.pars, .int .i64 f.locs, .slice (some kd) f.code.length kC, .slice hA f.hnd.length hC], .agg #[.int .i64 op1, .int .i64 a1]] W fun e w' => e = .returned (.bool (namesP p f ⟨op1, a1⟩)) ∧ Chg (fun _ => False) W w') := ⟨fun W h => ref_names W cA (some fd) (some kd) hA cc fc kC hC p rs f op1 a1 h hck⟩
        have hib : Aside0 (instrP chkP p f ⟨op1, a1⟩ = if namesP p f ⟨op1, a1⟩ = true then 0 else 8) := ⟨by unfold instrP; rw [if_neg (by simpa using hck)]⟩
        clear hck
        go_upto_region 11 with (go_at_call 37; go_must (refine (hcall.out _).mono ?_); go_must (rintro e w2 ⟨rfl, hc2⟩); go_must (replace hc2 := Aside0.mk hc2))
        (try simp only [Act.put, List.setIfInBounds_toArray, List.set_cons_zero, List.set_cons_succ])
        replace B1 := Aside0.mk (hc2.out.blk B1.out (fun h => h))
        replace B2 := Aside0.mk (hc2.out.blk B2.out (fun h => h))
        replace hz1 := Aside0.mk (hz1.out.trans hc2.out (fun _ _ h => h))
        replace y0 := cell_chg0 y0 hc2.out
        replace y1 := cell_chg0 y1 hc2.out
        clear q3
        have p0 : w2.cell? ⟨w.heap.size, 0, none⟩ = some (.slice cA p.consts.length cc) := blk_cell B1.out 0
        have p1 : w2.cell? ⟨w.heap.size, 1, none⟩ = some (.slice (some fd) p.funcs.length fc) := blk_cell B1.out 1
        have q0 : w2.cell? ⟨w1.heap.size, 0, none⟩ = some (.string f.name) := blk_cell B2.out 0
        have q1 : w2.cell? ⟨w1.heap.size, 1, none⟩ = some (.int .i64 f.pars) := blk_cell B2.out 1
        have q2 : w2.cell? ⟨w1.heap.size, 2, none⟩ = some (.int .i64 f.locs) := blk_cell B2.out 2
        have q3 : w2.cell? ⟨w1.heap.size, 3, none⟩ = some (.slice (some kd) f.code.length kC) := blk_cell B2.out 3
        have q4 : w2.cell? ⟨w1.heap.size, 4, none⟩ = some (.slice hA f.hnd.length hC) := blk_cell B2.out 4
        have hVw := Aside0.mk (hVA.out.below (hz1.out.below (fun _ _ h => h)))
        generalize hnb : namesP p f ⟨op1, a1⟩ = nb at hnm hib
        clear hnb
        cases nb with
        | true =>
          have hN2 : Aside0 (∀ (m : Nat) (x : QI), m < i + 1 → f.code[m]? = some x → instrP chkP p f x = 0) := ⟨fun m x hm hx => by
            rcases Nat.lt_or_ge m i with h1 | h1
            · exact hN.out m x h1 hx
            · obtain rfl : m = i := by omega
              rw [e2A.out] at hx
              injection hx with hx
              rw [← hx, hib.out]; rfl⟩
          clear hz1
          go_region_held3 (fun w' => w'.cell? ⟨w.heap.size, 0, none⟩ = some (.slice cA p.consts.length cc) ∧ w'.cell? ⟨w.heap.size, 1, none⟩ = some (.slice (some fd) p.funcs.length fc) ∧ w'.cell? ⟨w1.heap.size, 0, none⟩ = some (.string f.name) ∧ w'.cell? ⟨w1.heap.size, 1, none⟩ = some (.int .i64 f.pars) ∧ w'.cell? ⟨w1.heap.size, 2, none⟩ = some (.int .i64 f.locs) ∧ w'.cell? ⟨w1.heap.size, 3, none⟩ = some (.slice (some kd) f.code.length kC) ∧ w'.cell? ⟨w1.heap.size, 4, none⟩ = some (.slice hA f.hnd.length hC) ∧ w'.cell? (kd.add (i * 2)) = some (.int .i64 op1) ∧ w'.cell? ⟨(kd.add (i * 2)).block, (kd.add (i * 2)).off + 1, none⟩ = some (.int .i64 a1)) (first | exact ⟨p0, p1, q0, q1, q2, q3, q4, y0, y1⟩ | go_keep | exact ⟨kc, kc, kc, kc, kc, kc, kc, kc, kc⟩) ((go_at_call 38; (refine (hnm.out _ (hVw.out.below bl)).mono ?_); (rintro e w3 ⟨rfl, hc3⟩); (replace hc3 := Aside0.mk hc3)))
          go_wp2
          go_roundw
          case measure => first | (simp [intOf]; done) | (simp [intOf]; omega)
          case rel => exact ⟨i + 1, by go_num, by omega, hN2, ⟨cg⟩⟩
        | false =>
          have he : Aside0 (functionP chkP p k f = ((i : Int), 8)) := ⟨hfst.out 8 (by decide) (by rw [hib.out]; rfl)⟩
          go_region_held3 (fun w' => w'.cell? ⟨w.heap.size, 0, none⟩ = some (.slice cA p.consts.length cc) ∧ w'.cell? ⟨w.heap.size, 1, none⟩ = some (.slice (some fd) p.funcs.length fc) ∧ w'.cell? ⟨w1.heap.size, 0, none⟩ = some (.string f.name) ∧ w'.cell? ⟨w1.heap.size, 1, none⟩ = some (.int .i64 f.pars) ∧ w'.cell? ⟨w1.heap.size, 2, none⟩ = some (.int .i64 f.locs) ∧ w'.cell? ⟨w1.heap.size, 3, none⟩ = some (.slice (some kd) f.code.length kC) ∧ w'.cell? ⟨w1.heap.size, 4, none⟩ = some (.slice hA f.hnd.length hC) ∧ w'.cell? (kd.add (i * 2)) = some (.int .i64 op1) ∧ w'.cell? ⟨(kd.add (i * 2)).block, (kd.add (i * 2)).off + 1, none⟩ = some (.int .i64 a1)) (first | exact ⟨p0, p1, q0, q1, q2, q3, q4, y0, y1⟩ | go_keep | exact ⟨kc, kc, kc, kc, kc, kc, kc, kc, kc⟩) ((go_at_call 38; (refine (hnm.out _ (hVw.out.below bl)).mono ?_); (rintro e w3 ⟨rfl, hc3⟩); (replace hc3 := Aside0.mk hc3)))
          go_wp2
          go_ret2
          exact ⟨by first | (rw [he.out]; done) | (rw [he.out]; rfl) | (simp [he.out]; done), cg⟩
      · have hcall : Aside0 (∀ W, Calls Tryd.prog 37 #[.agg #[.int .i64 op1, .int .i64 a1]] W fun e w' => e = .returned (.int .i64 (chkP op1 a1)) ∧ Chg (fun _ => False) W w') := ⟨fun W => ref_Check W op1 a1⟩
        have he : Aside0 (functionP chkP p k f = ((i : Int), chkP op1 a1)) := ⟨hfst.out _ hck (by unfold instrP; rw [if_pos hck])⟩
        have hck' : (chkP op1 a1 != 0) = true := by simpa using hck
        clear hck
        generalize chkP op1 a1 = ck at hcall he hck'
        go_wp2_with (go_at_call 37; go_must (refine (hcall.out _).mono ?_); go_must (rintro e w2 ⟨rfl, hc2⟩); go_must (replace hc2 := Aside0.mk hc2))
        go_ret2
        exact ⟨by first | (rw [he.out]; done) | (rw [he.out]; rfl) | (simp [he.out]; done), hz1.out.trans hc2.out (fun _ _ h => h)⟩
    · obtain rfl : i = f.code.length := by omega
      have hi1 : ¬ ((f.code.length : Int) < f.code.length) := by omega
      have hE2 : Aside0 (functionP chkP p k f = if 32 < f.hnd.length then (32, 5) else match firstBad (fun _ h => if handlerQ h f.code.length = true then 0 else 8) 0 f.hnd with | some (i, e) => ((i : Int), e) | none => (0, 0)) := ⟨by
        rw [hE.out, firstBad_none (fun m x hx => hN.out m x (List.getElem?_eq_some_iff.1 hx).1 hx)]⟩
      have q4 : wr.cell? ⟨w1.heap.size, 4, none⟩ = some (.slice hA f.hnd.length hC) := blk_cell B2.out 4
      clear hlt hN hE
      by_cases hh : 32 < f.hnd.length
      · have he : Aside0 (functionP chkP p k f = (32, 5)) := ⟨by rw [hE2.out, if_pos hh]⟩
        have hh1 : (32 : Int) < f.hnd.length := by omega
        go_wp2
        go_ret2
        exact ⟨by first | (rw [he.out]; done) | (rw [he.out]; rfl) | (simp [he.out]; done), hz1.out⟩
      have hh1 : ¬ (32 : Int) < f.hnd.length := by omega
      replace hE2 : Aside0 (functionP chkP p k f = match firstBad (fun _ h => if handlerQ h f.code.length = true then 0 else 8) 0 f.hnd with | some (i, e) => ((i : Int), e) | none => (0, 0)) := ⟨by rw [hE2.out, if_neg hh]⟩
      go_wp2
      obtain ⟨wo, hwo⟩ : ∃ wo : World, wo = wr := ⟨wr, rfl⟩
      subst hwo
      clear q3 q4 hh hh1
      go_loopw [11] (fun i11 wr => ∃ i : Nat, i11 = .int .i64 i ∧ i ≤ f.hnd.length ∧ Aside0 (∀ (m : Nat) (x : QH), m < i → f.hnd[m]? = some x → handlerQ x f.code.length = true) ∧ Aside0 (Chg (fun _ => False) wo wr)) (fun i11 _ => f.hnd.length - (intOf i11).toNat)
      case atStart => exact ⟨0, rfl, by omega, ⟨fun m x hm => by omega⟩, ⟨Chg.refl _ _⟩⟩
      case round =>
        obtain ⟨i, rfl, hi, hN, hCh2⟩ := hrel
        have hz2 : Aside0 (Chg (fun _ => False) w wr) := ⟨hz1.out.trans hCh2.out (fun _ _ h => h)⟩
        replace B2 := Aside0.mk (hCh2.out.blk B2.out (fun h => h))
        have q4 : wr.cell? ⟨w1.heap.size, 4, none⟩ = some (.slice hA f.hnd.length hC) := blk_cell B2.out 4
        have q3 : wr.cell? ⟨w1.heap.size, 3, none⟩ = some (.slice kA f.code.length kC) := blk_cell B2.out 3
        by_cases hlt : i < f.hnd.length
        · have hi0 : (0 : Int) ≤ i := by omega
          have hi1 : (i : Int) < f.hnd.length := by omega
          obtain ⟨hd, frm1, upto1, tgt1, hgt1, e1, e2, y0, y1, y2, y3⟩ := kQH_at (C_chg (Aside0.mk (C_chg (Aside0.mk (C_chg hhC.out (hz9.out.below (fun _ _ h => h)))).out (hCh.out.below (fun _ _ h => h)))).out (hCh2.out.below (fun _ _ h => h))) i hlt
          subst e1
          have e2A := Aside0.mk e2
          have hcall : Aside0 (∀ W, Calls Tryd.prog 39 #[.agg #[.int .i64 frm1, .int .i64 upto1, .int .i64 tgt1, .int .i64 hgt1], .int .i64 (f.code.length : Int)] W fun e w' => e = .returned (.bool (handlerQ ⟨frm1, upto1, tgt1, hgt1⟩ f.code.length)) ∧ Chg (fun _ => False) W w') := ⟨fun W => ref_handler W frm1 upto1 tgt1 hgt1 _⟩
          generalize hnb : handlerQ ⟨frm1, upto1, tgt1, hgt1⟩ f.code.length = nb at hcall
          replace hnb := Aside0.mk hnb
          clear e2
          cases nb with
          | true =>
            have hN2 : Aside0 (∀ (m : Nat) (x : QH), m < i + 1 → f.hnd[m]? = some x → handlerQ x f.code.length = true) := ⟨fun m x hm hx => by
              rcases Nat.lt_or_ge m i with h1 | h1
              · exact hN.out m x h1 hx
              · obtain rfl : m = i := by omega
                rw [e2A.out] at hx
                injection hx with hx
                rw [← hx, hnb.out]⟩
            clear hz2
            go_upto_region 18 with (fail)
            (try simp only [Act.put, List.setIfInBounds_toArray, List.set_cons_zero, List.set_cons_succ])
            go_region_held3 (fun w' => w'.cell? ⟨w1.heap.size, 3, none⟩ = some (.slice kA f.code.length kC) ∧ w'.cell? ⟨w1.heap.size, 4, none⟩ = some (.slice (some hd) f.hnd.length hC) ∧ w'.cell? (hd.add (i * 4)) = some (.int .i64 frm1) ∧ w'.cell? ⟨(hd.add (i * 4)).block, (hd.add (i * 4)).off + 1, none⟩ = some (.int .i64 upto1) ∧ w'.cell? ⟨(hd.add (i * 4)).block, (hd.add (i * 4)).off + 2, none⟩ = some (.int .i64 tgt1) ∧ w'.cell? ⟨(hd.add (i * 4)).block, (hd.add (i * 4)).off + 3, none⟩ = some (.int .i64 hgt1)) (first | exact ⟨q3, q4, y0, y1, y2, y3⟩ | go_keep | exact ⟨kc, kc, kc, kc, kc, kc⟩) ((go_at_call 39; (refine (hcall.out _).mono ?_); (rintro e w3 ⟨rfl, hc3⟩); (replace hc3 := Aside0.mk hc3)))
            go_wp2
            go_roundw
            case measure => first | (simp [intOf]; done) | (simp [intOf]; omega)
            case rel => exact ⟨i + 1, by go_num, by omega, hN2, ⟨cg⟩⟩
          | false =>
            have he : Aside0 (functionP chkP p k f = ((i : Int), 8)) := ⟨by
              have h1 := firstBad_at (f := fun _ h => if handlerQ h f.code.length = true then (0 : Int) else 8) (i := 0) e2A.out (fun m y hm hy => by rw [hN.out m y hm hy]; rfl) (by rw [hnb.out]; decide)
              rw [hE2.out, h1, hnb.out]
              simp⟩
            go_upto_region 18 with (fail)
            (try simp only [Act.put, List.setIfInBounds_toArray, List.set_cons_zero, List.set_cons_succ])
            go_region_held3 (fun w' => w'.cell? ⟨w1.heap.size, 3, none⟩ = some (.slice kA f.code.length kC) ∧ w'.cell? ⟨w1.heap.size, 4, none⟩ = some (.slice (some hd) f.hnd.length hC) ∧ w'.cell? (hd.add (i * 4)) = some (.int .i64 frm1) ∧ w'.cell? ⟨(hd.add (i * 4)).block, (hd.add (i * 4)).off + 1, none⟩ = some (.int .i64 upto1) ∧ w'.cell? ⟨(hd.add (i * 4)).block, (hd.add (i * 4)).off + 2, none⟩ = some (.int .i64 tgt1) ∧ w'.cell? ⟨(hd.add (i * 4)).block, (hd.add (i * 4)).off + 3, none⟩ = some (.int .i64 hgt1)) (first | exact ⟨q3, q4, y0, y1, y2, y3⟩ | go_keep | exact ⟨kc, kc, kc, kc, kc, kc⟩) ((go_at_call 39; (refine (hcall.out _).mono ?_); (rintro e w3 ⟨rfl, hc3⟩); (replace hc3 := Aside0.mk hc3)))
            go_wp2
            go_ret2
            exact ⟨by first | (rw [he.out]; done) | (rw [he.out]; rfl) | (simp [he.out]; done), cg⟩
        · obtain rfl : i = f.hnd.length := by omega
          have hi1 : ¬ ((f.hnd.length : Int) < f.hnd.length) := by omega
          have he : Aside0 (functionP chkP p k f = (0, 0)) := ⟨by rw [hE2.out, firstBad_none (fun m x hx => by rw [hN.out m x (List.getElem?_eq_some_iff.1 hx).1 hx]; rfl)]⟩
          go_wp2
          go_ret2
          exact ⟨by first | (rw [he.out]; done) | (rw [he.out]; rfl) | (simp [he.out]; done), hz2.out⟩
end Go.Proofs.YtgaackedappmgaaDoor.K
