import Derived.Test.YtgaackedappmgaaDoorYi
import Derived.Test.YtgaackedappmgaaDoorCj
import Derived.IntWalk
import Derived.BigQuiet
namespace Go.Proofs.YtgaackedappmgaaDoor.K
open Go.RowKit Go.Proofs.YtgaackedappmgaaDoorW.PrintWords Go.Proofs.YtgaackedappmgaaDoorW.PrintLast Go.Proofs.YtgaackedappmgaaDoorW.PrintMore
set_option linter.unusedVariables false
set_option linter.unusedSimpArgs false
set_option maxRecDepth 100000
theorem kind4T : ∀ k : Fin 67, (opTab.getD k.val noRow).kind = 4 → k.val = 5 ∨ k.val = 53 ∨ k.val = 54 ∨ k.val = 55 ∨ k.val = 56 := by decide +kernel
theorem kind4F : ∀ k : Fin 67, (opTab.getD k.val noRow).kind ≠ 4 → k.val ≠ 53 ∧ k.val ≠ 54 ∧ k.val ≠ 55 ∧ k.val ≠ 56 := by decide +kernel
theorem kind4 {op : Int} (h : (rowP op).kind = 4) : op = 5 ∨ op = 53 ∨ op = 54 ∨ op = 55 ∨ op = 56 := by
  by_cases hr : 0 ≤ op ∧ op < 67
  · obtain ⟨k, rfl⟩ := Int.eq_ofNat_of_zero_le hr.1
    rw [(rowP_at (k := k) (by omega)).1] at h
    have := kind4T ⟨k, by omega⟩ h
    simp only at this
    omega
  · rw [(rowP_not hr).1] at h
    exact absurd h (by decide)
theorem kind4n {op : Int} (h : (rowP op).kind ≠ 4) : op ≠ 53 ∧ op ≠ 54 ∧ op ≠ 55 ∧ op ≠ 56 := by
  by_cases hr : 0 ≤ op ∧ op < 67
  · obtain ⟨k, rfl⟩ := Int.eq_ofNat_of_zero_le hr.1
    rw [(rowP_at (k := k) (by omega)).1] at h
    have := kind4F ⟨k, by omega⟩ h
    simp only at this
    omega
  · omega
set_option maxHeartbeats 4000000
theorem prog_checkInstr (w : World) (cA fA kA hA : Option Addr) (cc fc kC hC : Nat) (p : QP) (rs : List QR) (f : QF) (op a : Int) (hV : PV w cA fA p rs) :
    Calls Tryd.prog 54 #[.agg #[.slice cA p.consts.length cc, .slice fA p.funcs.length fc], .agg #[.string f.name, .int .i64 f.pars, .int .i64 f.locs, .slice kA f.code.length kC, .slice hA f.hnd.length hC], .agg #[.int .i64 op, .int .i64 a]] w fun e w' => e = .returned (.int .i64 (instrP chkP p f ⟨op, a⟩)) ∧ Chg (fun _ => False) w w' := by
  have hVA := Aside0.mk hV
  have hck : Aside0 (∀ W, Calls Tryd.prog 60 #[.agg #[.int .i64 op, .int .i64 a]] W fun e w' => e = .returned (.int .i64 (chkP op a)) ∧ Chg (fun _ => False) W w') := ⟨fun W => code_Check W op a⟩
  have hop : Aside0 (∀ W, Calls Tryd.prog 61 #[.int .i64 op] W _) := ⟨fun W => code_Operand W op⟩
  clear hV
  by_cases hc : chkP op a = 0
  · have hri := chk_right hc
    have hI : Aside0 (instrP chkP p f ⟨op, a⟩ = if namesP p f ⟨op, a⟩ = true then 0 else 8) := ⟨by unfold instrP; rw [if_neg (by simpa using hc)]⟩
    have hP : Aside0 (namesP p f ⟨op, a⟩ = if (rowP op).kind = 2 then decide (a < f.code.length) else if (rowP op).kind = 3 then decide (a < f.locs) else if (rowP op).kind = 5 then decide (a < p.funcs.length) else if (rowP op).kind = 4 then decide (a < p.consts.length) && (decide (op = 5) || match p.consts[a.toNat]? with | some c => decide (c.kind = 4) | none => false) else true) := ⟨rfl⟩
    have h4 : (rowP op).kind = 4 → _ := fun h => kind4 h
    have hno : (rowP op).kind ≠ 4 → _ := fun h => kind4n h
    rw [hc] at hck
    clear hc
    generalize (rowP op).kind = kd at hop hP hri h4 hno
    generalize okP op = ok at hop
    go_enter Tryd.func54, Tryd.ntmps54
    go_upto_region 1 with (fail)
    (try simp only [Act.put, List.setIfInBounds_toArray, List.set_cons_zero, List.set_cons_succ])
    generalize hW : World.alloc (World.alloc (World.alloc w _) _) _ = W0
    have B1 : Aside0 (W0.heap[w.heap.size]? = some (.cells #[.slice cA p.consts.length cc, .slice fA p.funcs.length fc] 25)) := ⟨by rw [← hW]; exact (((Chg.refl (fun _ => False) (w.alloc _)).alloc _).alloc _).blk (heap_alloc_new w _) (fun e => e)⟩
    have B2 : Aside0 (W0.heap[w.heap.size + 1]? = some (.cells #[.string f.name, .int .i64 f.pars, .int .i64 f.locs, .slice kA f.code.length kC, .slice hA f.hnd.length hC] 47)) := ⟨by rw [← hW]; exact ((Chg.refl (fun _ => False) ((w.alloc _).alloc _)).alloc _).blk (heap_alloc2_new w _ _) (fun e => e)⟩
    have B3 : Aside0 (W0.heap[w.heap.size + 1 + 1]? = some (.cells #[.int .i64 op, .int .i64 a] 50)) := ⟨by rw [← hW]; exact heap_al3 w _ _ _⟩
    have hz0 : Aside0 (Chg (fun _ => False) w W0) := ⟨by rw [← hW]; exact cg⟩
    clear hW
    have i0 : W0.cell? ⟨w.heap.size + 1 + 1, 0, none⟩ = some (.int .i64 op) := blk_cell B3.out 0
    have i1 : W0.cell? ⟨w.heap.size + 1 + 1, 1, none⟩ = some (.int .i64 a) := blk_cell B3.out 1
    go_upto_region 5 with (go_at_call 60; go_must (refine (hck.out _).mono ?_); go_must (rintro e w1 ⟨rfl, hc1⟩); go_must (replace hc1 := Aside0.mk hc1))
    (try simp only [Act.put, List.setIfInBounds_toArray, List.set_cons_zero, List.set_cons_succ])
    replace B1 := Aside0.mk (hc1.out.blk B1.out (fun h => h))
    replace B2 := Aside0.mk (hc1.out.blk B2.out (fun h => h))
    replace B3 := Aside0.mk (hc1.out.blk B3.out (fun h => h))
    replace hz0 := Aside0.mk (hz0.out.trans hc1.out (fun _ _ h => h))
    clear i0 i1 hck
    have i0 : w1.cell? ⟨w.heap.size + 1 + 1, 0, none⟩ = some (.int .i64 op) := blk_cell B3.out 0
    go_upto_region 6 with (go_at_call 61; go_must (refine (hop.out _).mono ?_); go_must (rintro e w2 ⟨rfl, hc2⟩); go_must (replace hc2 := Aside0.mk hc2))
    (try simp only [Act.put, List.setIfInBounds_toArray, List.set_cons_zero, List.set_cons_succ])
    replace B1 := Aside0.mk (hc2.out.blk B1.out (fun h => h))
    replace B2 := Aside0.mk (hc2.out.blk B2.out (fun h => h))
    replace B3 := Aside0.mk (hc2.out.blk B3.out (fun h => h))
    have hz1 : Aside0 (Chg (fun _ => False) w w2) := ⟨hz0.out.trans hc2.out (fun _ _ h => h)⟩
    clear i0 hop hz0 hc1 hc2
    have i0 : w2.cell? ⟨w.heap.size + 1 + 1, 0, none⟩ = some (.int .i64 op) := blk_cell B3.out 0
    have i1 : w2.cell? ⟨w.heap.size + 1 + 1, 1, none⟩ = some (.int .i64 a) := blk_cell B3.out 1
    have p0 : w2.cell? ⟨w.heap.size, 0, none⟩ = some (.slice cA p.consts.length cc) := blk_cell B1.out 0
    have p1 : w2.cell? ⟨w.heap.size, 1, none⟩ = some (.slice fA p.funcs.length fc) := blk_cell B1.out 1
    have q2 : w2.cell? ⟨w.heap.size + 1, 2, none⟩ = some (.int .i64 f.locs) := blk_cell B2.out 2
    have q3 : w2.cell? ⟨w.heap.size + 1, 3, none⟩ = some (.slice kA f.code.length kC) := blk_cell B2.out 3
    by_cases k2 : kd = 2
    · subst k2
      obtain ⟨e3, e4, e5, e6⟩ := hno (by decide)
      have g3 : (op == 53) = false := by simpa using e3
      have g4 : (op == 54) = false := by simpa using e4
      have g5 : (op == 55) = false := by simpa using e5
      have g6 : (op == 56) = false := by simpa using e6
      clear hno e3 e4 e5 e6
      by_cases hs : a < (f.code.length : Int)
      · have hs1 : ¬ ((f.code.length : Int) ≤ a) := by omega
        have he : Aside0 (instrP chkP p f ⟨op, a⟩ = 0) := ⟨by rw [hI.out, show namesP p f ⟨op, a⟩ = true from by rw [hP.out, if_pos rfl, decide_eq_true hs]]; rfl⟩
        go_wp2
        go_ret
        exact ⟨by first | (rw [he.out]; done) | (rw [he.out]; rfl) | (simp [he.out]; done), hz1.out⟩
      · have hs1 : (f.code.length : Int) ≤ a := by omega
        have he : Aside0 (instrP chkP p f ⟨op, a⟩ = 8) := ⟨by rw [hI.out, show namesP p f ⟨op, a⟩ = false from by rw [hP.out, if_pos rfl, decide_eq_false hs]]; rfl⟩
        go_wp2
        go_ret
        exact ⟨by first | (rw [he.out]; done) | (rw [he.out]; rfl) | (simp [he.out]; done), hz1.out⟩
    have d2 : (kd == 2) = false := by simpa using k2
    by_cases k3 : kd = 3
    · subst k3
      obtain ⟨e3, e4, e5, e6⟩ := hno (by decide)
      have g3 : (op == 53) = false := by simpa using e3
      have g4 : (op == 54) = false := by simpa using e4
      have g5 : (op == 55) = false := by simpa using e5
      have g6 : (op == 56) = false := by simpa using e6
      clear hno e3 e4 e5 e6
      by_cases hs : a < f.locs
      · have hs1 : ¬ (f.locs ≤ a) := by omega
        have he : Aside0 (instrP chkP p f ⟨op, a⟩ = 0) := ⟨by rw [hI.out, show namesP p f ⟨op, a⟩ = true from by rw [hP.out, if_neg (by decide), if_pos rfl, decide_eq_true hs]]; rfl⟩
        go_wp2
        go_ret
        exact ⟨by first | (rw [he.out]; done) | (rw [he.out]; rfl) | (simp [he.out]; done), hz1.out⟩
      · have hs1 : f.locs ≤ a := by omega
        have he : Aside0 (instrP chkP p f ⟨op, a⟩ = 8) := ⟨by rw [hI.out, show namesP p f ⟨op, a⟩ = false from by rw [hP.out, if_neg (by decide), if_pos rfl, decide_eq_false hs]]; rfl⟩
        go_wp2
        go_ret
        exact ⟨by first | (rw [he.out]; done) | (rw [he.out]; rfl) | (simp [he.out]; done), hz1.out⟩
    have d3 : (kd == 3) = false := by simpa using k3
    by_cases k5 : kd = 5
    · subst k5
      obtain ⟨e3, e4, e5, e6⟩ := hno (by decide)
      have g3 : (op == 53) = false := by simpa using e3
      have g4 : (op == 54) = false := by simpa using e4
      have g5 : (op == 55) = false := by simpa using e5
      have g6 : (op == 56) = false := by simpa using e6
      clear hno e3 e4 e5 e6
      by_cases hs : a < (p.funcs.length : Int)
      · have hs1 : ¬ ((p.funcs.length : Int) ≤ a) := by omega
        have he : Aside0 (instrP chkP p f ⟨op, a⟩ = 0) := ⟨by rw [hI.out, show namesP p f ⟨op, a⟩ = true from by rw [hP.out, if_neg (by decide), if_neg (by decide), if_pos rfl, decide_eq_true hs]]; rfl⟩
        go_wp2
        go_ret
        exact ⟨by first | (rw [he.out]; done) | (rw [he.out]; rfl) | (simp [he.out]; done), hz1.out⟩
      · have hs1 : (p.funcs.length : Int) ≤ a := by omega
        have he : Aside0 (instrP chkP p f ⟨op, a⟩ = 8) := ⟨by rw [hI.out, show namesP p f ⟨op, a⟩ = false from by rw [hP.out, if_neg (by decide), if_neg (by decide), if_pos rfl, decide_eq_false hs]]; rfl⟩
        go_wp2
        go_ret
        exact ⟨by first | (rw [he.out]; done) | (rw [he.out]; rfl) | (simp [he.out]; done), hz1.out⟩
    have d5 : (kd == 5) = false := by simpa using k5
    by_cases k4 : kd = 4
    · subst k4
      clear hno
      have h0 : 0 ≤ a := by
        simp [rightP, limP] at hri
        omega
      obtain ⟨m, rfl⟩ := Int.eq_ofNat_of_zero_le h0
      by_cases hm : m < p.consts.length
      · have hm1 : (m : Int) < p.consts.length := by omega
        have hm2 : ¬ ((p.consts.length : Int) ≤ m) := by omega
        obtain ⟨cd, kd1, n1, t1, e1, e2, y0, y1, y2⟩ := kQC_at2 (hVA.out.below (hz1.out.below (fun _ _ h => h))).cs m hm
        subst e1
        replace e2 := Aside0.mk e2
        clear y1 y2
        rcases h4 rfl with ho | ho | ho | ho | ho
        · subst ho
          have he : Aside0 (instrP chkP p f ⟨5, m⟩ = 0) := ⟨by rw [hI.out, show namesP p f ⟨5, m⟩ = true from by rw [hP.out, if_neg (by decide), if_neg (by decide), if_neg (by decide), if_pos rfl, decide_eq_true hm1]; rfl]; rfl⟩
          go_wp2
          go_ret
          exact ⟨by first | (rw [he.out]; done) | (rw [he.out]; rfl) | (simp [he.out]; done), hz1.out⟩
        · subst ho
          by_cases hk : kd1 = 4
          · subst hk
            have he : Aside0 (instrP chkP p f ⟨53, m⟩ = 0) := ⟨by rw [hI.out, show namesP p f ⟨53, m⟩ = true from by rw [hP.out, if_neg (by decide), if_neg (by decide), if_neg (by decide), if_pos rfl, decide_eq_true hm1, Int.toNat_natCast, e2.out]; rfl]; rfl⟩
            go_wp2
            go_ret
            exact ⟨by first | (rw [he.out]; done) | (rw [he.out]; rfl) | (simp [he.out]; done), hz1.out⟩
          · have hk1 : (kd1 != 4) = true := by simpa using hk
            have he : Aside0 (instrP chkP p f ⟨53, m⟩ = 8) := ⟨by rw [hI.out, show namesP p f ⟨53, m⟩ = false from by rw [hP.out, if_neg (by decide), if_neg (by decide), if_neg (by decide), if_pos rfl, decide_eq_true hm1, Int.toNat_natCast, e2.out]; simp [hk]]; rfl⟩
            go_wp2
            go_ret
            exact ⟨by first | (rw [he.out]; done) | (rw [he.out]; rfl) | (simp [he.out]; done), hz1.out⟩
        · subst ho
          by_cases hk : kd1 = 4
          · subst hk
            have he : Aside0 (instrP chkP p f ⟨54, m⟩ = 0) := ⟨by rw [hI.out, show namesP p f ⟨54, m⟩ = true from by rw [hP.out, if_neg (by decide), if_neg (by decide), if_neg (by decide), if_pos rfl, decide_eq_true hm1, Int.toNat_natCast, e2.out]; rfl]; rfl⟩
            go_wp2
            go_ret
            exact ⟨by first | (rw [he.out]; done) | (rw [he.out]; rfl) | (simp [he.out]; done), hz1.out⟩
          · have hk1 : (kd1 != 4) = true := by simpa using hk
            have he : Aside0 (instrP chkP p f ⟨54, m⟩ = 8) := ⟨by rw [hI.out, show namesP p f ⟨54, m⟩ = false from by rw [hP.out, if_neg (by decide), if_neg (by decide), if_neg (by decide), if_pos rfl, decide_eq_true hm1, Int.toNat_natCast, e2.out]; simp [hk]]; rfl⟩
            go_wp2
            go_ret
            exact ⟨by first | (rw [he.out]; done) | (rw [he.out]; rfl) | (simp [he.out]; done), hz1.out⟩
        · subst ho
          by_cases hk : kd1 = 4
          · subst hk
            have he : Aside0 (instrP chkP p f ⟨55, m⟩ = 0) := ⟨by rw [hI.out, show namesP p f ⟨55, m⟩ = true from by rw [hP.out, if_neg (by decide), if_neg (by decide), if_neg (by decide), if_pos rfl, decide_eq_true hm1, Int.toNat_natCast, e2.out]; rfl]; rfl⟩
            go_wp2
            go_ret
            exact ⟨by first | (rw [he.out]; done) | (rw [he.out]; rfl) | (simp [he.out]; done), hz1.out⟩
          · have hk1 : (kd1 != 4) = true := by simpa using hk
            have he : Aside0 (instrP chkP p f ⟨55, m⟩ = 8) := ⟨by rw [hI.out, show namesP p f ⟨55, m⟩ = false from by rw [hP.out, if_neg (by decide), if_neg (by decide), if_neg (by decide), if_pos rfl, decide_eq_true hm1, Int.toNat_natCast, e2.out]; simp [hk]]; rfl⟩
            go_wp2
            go_ret
            exact ⟨by first | (rw [he.out]; done) | (rw [he.out]; rfl) | (simp [he.out]; done), hz1.out⟩
        · subst ho
          by_cases hk : kd1 = 4
          · subst hk
            have he : Aside0 (instrP chkP p f ⟨56, m⟩ = 0) := ⟨by rw [hI.out, show namesP p f ⟨56, m⟩ = true from by rw [hP.out, if_neg (by decide), if_neg (by decide), if_neg (by decide), if_pos rfl, decide_eq_true hm1, Int.toNat_natCast, e2.out]; rfl]; rfl⟩
            go_wp2
            go_ret
            exact ⟨by first | (rw [he.out]; done) | (rw [he.out]; rfl) | (simp [he.out]; done), hz1.out⟩
          · have hk1 : (kd1 != 4) = true := by simpa using hk
            have he : Aside0 (instrP chkP p f ⟨56, m⟩ = 8) := ⟨by rw [hI.out, show namesP p f ⟨56, m⟩ = false from by rw [hP.out, if_neg (by decide), if_neg (by decide), if_neg (by decide), if_pos rfl, decide_eq_true hm1, Int.toNat_natCast, e2.out]; simp [hk]]; rfl⟩
            go_wp2
            go_ret
            exact ⟨by first | (rw [he.out]; done) | (rw [he.out]; rfl) | (simp [he.out]; done), hz1.out⟩
      · have hm1 : ¬ (m : Int) < p.consts.length := by omega
        have hm2 : (p.consts.length : Int) ≤ m := by omega
        have he : Aside0 (instrP chkP p f ⟨op, m⟩ = 8) := ⟨by rw [hI.out, show namesP p f ⟨op, m⟩ = false from by rw [hP.out, if_neg (by decide), if_neg (by decide), if_neg (by decide), if_pos rfl, decide_eq_false hm1]; rfl]; rfl⟩
        go_wp2
        go_ret
        exact ⟨by first | (rw [he.out]; done) | (rw [he.out]; rfl) | (simp [he.out]; done), hz1.out⟩
    have d4 : (kd == 4) = false := by simpa using k4
    have he : Aside0 (instrP chkP p f ⟨op, a⟩ = 0) := ⟨by rw [hI.out, show namesP p f ⟨op, a⟩ = true from by rw [hP.out, if_neg k2, if_neg k3, if_neg k5, if_neg k4]]; rfl⟩
    go_wp2
    go_ret
    exact ⟨by first | (rw [he.out]; done) | (rw [he.out]; rfl) | (simp [he.out]; done), hz1.out⟩
  · have he : Aside0 (instrP chkP p f ⟨op, a⟩ = chkP op a) := ⟨by unfold instrP; rw [if_pos hc]⟩
    have hb : (chkP op a != 0) = true := by simpa using hc
    clear hc hop
    generalize chkP op a = z at hck he hb
    go_enter Tryd.func54, Tryd.ntmps54
    go_upto_region 1 with (fail)
    (try simp only [Act.put, List.setIfInBounds_toArray, List.set_cons_zero, List.set_cons_succ])
    generalize hW : World.alloc (World.alloc (World.alloc w _) _) _ = W0
    have B1 : Aside0 (W0.heap[w.heap.size]? = some (.cells #[.slice cA p.consts.length cc, .slice fA p.funcs.length fc] 25)) := ⟨by rw [← hW]; exact (((Chg.refl (fun _ => False) (w.alloc _)).alloc _).alloc _).blk (heap_alloc_new w _) (fun e => e)⟩
    have B2 : Aside0 (W0.heap[w.heap.size + 1]? = some (.cells #[.string f.name, .int .i64 f.pars, .int .i64 f.locs, .slice kA f.code.length kC, .slice hA f.hnd.length hC] 47)) := ⟨by rw [← hW]; exact ((Chg.refl (fun _ => False) ((w.alloc _).alloc _)).alloc _).blk (heap_alloc2_new w _ _) (fun e => e)⟩
    have B3 : Aside0 (W0.heap[w.heap.size + 1 + 1]? = some (.cells #[.int .i64 op, .int .i64 a] 50)) := ⟨by rw [← hW]; exact heap_al3 w _ _ _⟩
    have hz0 : Aside0 (Chg (fun _ => False) w W0) := ⟨by rw [← hW]; exact cg⟩
    clear hW
    have i0 : W0.cell? ⟨w.heap.size + 1 + 1, 0, none⟩ = some (.int .i64 op) := blk_cell B3.out 0
    have i1 : W0.cell? ⟨w.heap.size + 1 + 1, 1, none⟩ = some (.int .i64 a) := blk_cell B3.out 1
    go_wp2_with (go_at_call 60; go_must (refine (hck.out _).mono ?_); go_must (rintro e w1 ⟨rfl, hc1⟩); go_must (replace hc1 := Aside0.mk hc1))
    go_ret
    exact ⟨by first | (rw [he.out]; done) | (rw [he.out]; rfl), hz0.out.trans hc1.out (fun _ _ h => h)⟩
end Go.Proofs.YtgaackedappmgaaDoor.K
