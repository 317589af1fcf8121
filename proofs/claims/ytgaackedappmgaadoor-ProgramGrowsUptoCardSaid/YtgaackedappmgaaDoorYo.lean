import Derived.Test.YtgaackedappmgaaDoorYm
import Derived.Test.YtgaackedappmgaaDoorYn
import Derived.Test.YtgaackedappmgaaDoorGy
import Derived.IntWalk
import Derived.BigQuiet
namespace Go.Proofs.YtgaackedappmgaaDoor.K
open Go.RowKit Go.Proofs.YtgaackedappmgaaDoorW.PrintWords Go.Proofs.YtgaackedappmgaaDoorW.PrintLast Go.Proofs.YtgaackedappmgaaDoorW.PrintMore
set_option linter.unusedVariables false
set_option linter.unusedSimpArgs false
set_option maxRecDepth 100000
theorem cell_chgY {w w' : World} {S : Nat → Prop} {p : Addr} {v : Value} (hc : Chg S w w') (hn : ¬ S p.block) (h : w.cell? p = some v) : w'.cell? p = some v := by
  have hb := World.block_lt_of_cell? w p h
  have hk := hc.block p.block hb hn
  simpa [World.cell?, hk] using h
theorem blk_drewY {w : World} {g : Nat} {o : Obj} (h : w.heap[g]? = some o) : w.drew.heap[g]? = some o := h
set_option maxHeartbeats 4000000
theorem prog_told0 (w : World) : Calls Tryd.prog 27 #[.nilIface] w fun e w' => e = .returned (.tuple #[.agg #[.int .i64 0, .int .i64 0], .int .i64 0]) ∧ Chg (fun _ => False) w w' := by
  go_enter Tryd.func27, Tryd.ntmps27
  go_upto_region 3 with (fail)
  (try simp only [Act.put, List.setIfInBounds_toArray, List.set_cons_zero, List.set_cons_succ])
  generalize hW : World.alloc (World.alloc (World.alloc w _) _) _ = W0
  have B1 : Aside0 (W0.heap[w.heap.size]? = some (.cells #[.int .i64 0, .int .i64 0] 28)) := ⟨by rw [← hW]; exact (((Chg.refl (fun _ => False) (w.alloc _)).alloc _).alloc _).blk (heap_alloc_new w _) (fun e => e)⟩
  have B2 : Aside0 (W0.heap[w.heap.size + 1]? = some (.cells #[.pointer none] 79)) := ⟨by rw [← hW]; exact ((Chg.refl (fun _ => False) ((w.alloc _).alloc _)).alloc _).blk (heap_alloc2_new w _ _) (fun e => e)⟩
  have B3 : Aside0 (W0.heap[w.heap.size + 1 + 1]? = some (.cells #[.pointer none] 80)) := ⟨by rw [← hW]; exact heap_al3 w _ _ _⟩
  have hz0 : Aside0 (Chg (fun _ => False) w W0) := ⟨by rw [← hW]; exact cg⟩
  clear hW
  have t0 := blk_cell (w := W0) B1.out 0
  have t1 := blk_cell (w := W0) B1.out 1
  have u0 := blk_frozen B1.out 0
  have u1 := blk_frozen B1.out 1
  go_wp2_with (go_at_call 40; go_must (refine (As_nil _ _).mono ?_); go_must (rintro e w1 ⟨rfl, hw1⟩); go_must (subst w1))
  (try simp only [Exit.inBlock, Exit.then])
  refine bodyPost_ret (results_c2 rfl _ _ _ _ rfl _ (run_loadVar_row _ _ _ _ _ _ _ (blk_set (blk_set B1.out 0 (.int .i64 0)) 1 (.int .i64 0)) Tryd.underlying28 rfl (by kernel_rfl))) rfl ?_
  exact ⟨rfl, hz0.out.trans (Chg.setCell (Chg.setCell (Chg.refl (fun k => k = w.heap.size) _) (p := ⟨w.heap.size, 0, none⟩) (fun _ => rfl) (.int .i64 0)) (p := ⟨w.heap.size, 1, none⟩) (fun _ => rfl) (.int .i64 0)) (fun k hk h => by omega)⟩
theorem prog_told (w : World) (g b : Nat) (fn pc why : Int) (hE : w.cell? ⟨0, 0, none⟩ = some (.iface 114 (.agg #[.pointer (some ⟨2, 68, none⟩)]))) (hg : w.heap[g]? = some (.cells #[.int .i64 fn, .iface 80 (.pointer (some ⟨b, 0, none⟩))] 85)) (hb : w.heap[b]? = some (.cells #[.int .i64 pc, .int .i64 why] 87)) :
    Calls Tryd.prog 27 #[.iface 79 (.pointer (some ⟨g, 0, none⟩))] w fun e w' => e = .returned (.tuple #[.agg #[.int .i64 fn, .int .i64 pc], .int .i64 why]) ∧ Chg (fun _ => False) w w' := by
  have hgl := blk_lt hg
  have hbl := blk_lt hb
  have hEA := Aside0.mk hE
  have hgA := Aside0.mk hg
  have hbA := Aside0.mk hb
  clear hE hg hb
  go_enter Tryd.func27, Tryd.ntmps27
  go_upto_region 3 with (fail)
  (try simp only [Act.put, List.setIfInBounds_toArray, List.set_cons_zero, List.set_cons_succ])
  generalize hW : World.alloc (World.alloc (World.alloc w _) _) _ = W0
  have B1 : Aside0 (W0.heap[w.heap.size]? = some (.cells #[.int .i64 0, .int .i64 0] 28)) := ⟨by rw [← hW]; exact (((Chg.refl (fun _ => False) (w.alloc _)).alloc _).alloc _).blk (heap_alloc_new w _) (fun e => e)⟩
  have B2 : Aside0 (W0.heap[w.heap.size + 1]? = some (.cells #[.pointer none] 79)) := ⟨by rw [← hW]; exact ((Chg.refl (fun _ => False) ((w.alloc _).alloc _)).alloc _).blk (heap_alloc2_new w _ _) (fun e => e)⟩
  have B3 : Aside0 (W0.heap[w.heap.size + 1 + 1]? = some (.cells #[.pointer none] 80)) := ⟨by rw [← hW]; exact heap_al3 w _ _ _⟩
  have hz0 : Aside0 (Chg (fun _ => False) w W0) := ⟨by rw [← hW]; exact cg⟩
  clear hW
  replace hEA := Aside0.mk (cell_chg0 hEA.out hz0.out)
  replace hgA := Aside0.mk (hz0.out.blk hgA.out (fun h => h))
  replace hbA := Aside0.mk (hz0.out.blk hbA.out (fun h => h))
  go_upto_region 5 with (first | (go_at_call 40; (with_reducible refine (As_I _ ⟨g, 0, none⟩ (w.heap.size + 1) _ hEA.out B2.out).mono ?_); go_must (rintro ev w1 ⟨rfl, hc1, hb1⟩); go_must (have hE1 := Aside0.mk (cell_chgY hc1 (by show ¬ (0 = w.heap.size + 1); omega) hEA.out)); go_must (have hB3 := Aside0.mk (hc1.blk B3.out (by omega))); go_must (have hG1 : Aside0 (w1.cell? ⟨g, 1, none⟩ = some (.iface 80 (.pointer (some ⟨b, 0, none⟩)))) := ⟨blk_cell (hc1.blk hgA.out (by omega)) 1⟩); go_must (replace hc1 := Aside0.mk hc1); go_must (replace hb1 := Aside0.mk hb1)) | (go_at_call 40; (with_reducible refine (As_F _ ⟨b, 0, none⟩ (w.heap.size + 1 + 1) _ hE1.out hB3.out g hG1.out).mono ?_); go_must (rintro ev w2 ⟨rfl, hc2, hb2⟩); go_must (replace hc2 := Aside0.mk hc2); go_must (replace hb2 := Aside0.mk hb2)))
  (try simp only [Act.put, List.setIfInBounds_toArray, List.set_cons_zero, List.set_cons_succ])
  have hc12 : Aside0 (Chg (fun j => j = w.heap.size + 1 ∨ j = w.heap.size + 1 + 1) W0 w2) := ⟨(hc1.out.mono (fun _ _ h => Or.inl h)).trans hc2.out (fun _ _ h => Or.inr h)⟩
  have B1' := Aside0.mk (hc12.out.blk B1.out (by omega))
  have B2' := Aside0.mk (hc2.out.blk hb1.out (by omega))
  have hg2 := Aside0.mk (hc12.out.blk hgA.out (by omega))
  have hb2' := Aside0.mk (hc12.out.blk hbA.out (by omega))
  have s0 : w2.cell? ⟨w.heap.size + 1, 0, none⟩ = some (.pointer (some ⟨g, 0, none⟩)) := blk_cell B2'.out 0
  have s1 : w2.cell? ⟨g, 0, none⟩ = some (.int .i64 fn) := blk_cell hg2.out 0
  have s2 : w2.cell? ⟨w.heap.size + 1 + 1, 0, none⟩ = some (.pointer (some ⟨b, 0, none⟩)) := blk_cell hb2.out 0
  have s3 : w2.cell? ⟨b, 0, none⟩ = some (.int .i64 pc) := blk_cell hb2'.out 0
  have s4 : w2.cell? ⟨b, 1, none⟩ = some (.int .i64 why) := blk_cell hb2'.out 1
  have t0 := blk_cell (w := w2) B1'.out 0
  have t1 := blk_cell (w := w2) B1'.out 1
  have u0 := blk_frozen B1'.out 0
  have u1 := blk_frozen B1'.out 1
  have H3 := fun W9 : World => (Chg.setCell (Chg.setCell (Chg.refl (fun k => k = w.heap.size) W9) (p := ⟨w.heap.size, 0, none⟩) (fun _ => rfl) (.int .i64 fn)) (p := ⟨w.heap.size, 1, none⟩) (fun _ => rfl) (.int .i64 pc))
  have k_s0 := cell_chgY (v := .pointer (some ⟨g, 0, none⟩)) (p := ⟨w.heap.size + 1, 0, none⟩) ((H3 w2).drew) (by show ¬ (w.heap.size + 1 = w.heap.size); omega) s0
  have k_s1 := cell_chgY (v := .int .i64 fn) (p := ⟨g, 0, none⟩) ((H3 w2).drew) (by show ¬ (g = w.heap.size); omega) s1
  have k_s2 := cell_chgY (v := .pointer (some ⟨b, 0, none⟩)) (p := ⟨w.heap.size + 1 + 1, 0, none⟩) ((H3 w2).drew) (by show ¬ (w.heap.size + 1 + 1 = w.heap.size); omega) s2
  have k_s3 := cell_chgY (v := .int .i64 pc) (p := ⟨b, 0, none⟩) ((H3 w2).drew) (by show ¬ (b = w.heap.size); omega) s3
  have k_s4 := cell_chgY (v := .int .i64 why) (p := ⟨b, 1, none⟩) ((H3 w2).drew) (by show ¬ (b = w.heap.size); omega) s4
  replace H3 := Aside0.mk H3
  refine start_ (n := 15) (S := fun w' => w'.cell? ⟨w.heap.size + 1, 0, none⟩ = some (.pointer (some ⟨g, 0, none⟩)) ∧ w'.cell? ⟨g, 0, none⟩ = some (.int .i64 fn) ∧ w'.cell? ⟨w.heap.size + 1 + 1, 0, none⟩ = some (.pointer (some ⟨b, 0, none⟩)) ∧ w'.cell? ⟨b, 0, none⟩ = some (.int .i64 pc) ∧ w'.cell? ⟨b, 1, none⟩ = some (.int .i64 why)) (ds := []) #[false, false, false, false, false, false, false, false, false, false, false, false, false, false, false] (by kernel_rfl) rfl rfl ⟨s0, s1, s2, s3, s4⟩ (fun hHeld => ?_)
  refine take_ (i := 0) (N := some 17) (v := ?_) (a' := ?_) #[true, false, false, false, false, false, false, false, false, false, false, false, false, false, false] rfl rfl (by kernel_rfl) (fun _ _ _ h => h) (Or.inl ⟨by rfl, ?_⟩) hHeld ?_ ?_
  rotate_left
  · rintro w' ⟨s0, s1, s2, s3, s4⟩
    go_simp
    with_reducible rfl
  rotate_left
  · simp only [Act.put, List.setIfInBounds_toArray, List.set_cons_zero, List.set_cons_succ, i64_w, i32_w]
    rfl
  refine pure_ (i := 1) (N := some 18) (v := ?_) (a' := ?_) #[true, true, false, false, false, false, false, false, false, false, false, false, false, false, false] rfl rfl (by kernel_rfl) (fun _ _ _ h => h) (Or.inl ⟨by rfl, ?_⟩) ?_ ?_
  rotate_left
  · intro w'
    go_simp
    with_reducible rfl
  rotate_left
  · simp only [Act.put, List.setIfInBounds_toArray, List.set_cons_zero, List.set_cons_succ, i64_w, i32_w]
    rfl
  refine pure_ (i := 2) (N := some 19) (v := ?_) (a' := ?_) #[true, true, true, false, false, false, false, false, false, false, false, false, false, false, false] rfl rfl (by kernel_rfl) (fun _ _ _ h => h) (Or.inl ⟨by rfl, ?_⟩) ?_ ?_
  rotate_left
  · intro w'
    go_simp
    with_reducible rfl
  rotate_left
  · simp only [Act.put, List.setIfInBounds_toArray, List.set_cons_zero, List.set_cons_succ, i64_w, i32_w]
    rfl
  refine take_ (i := 3) (N := some 20) (v := ?_) (a' := ?_) #[true, true, true, true, false, false, false, false, false, false, false, false, false, false, false] rfl rfl (by kernel_rfl) (fun _ _ _ h => h) (Or.inl ⟨by rfl, ?_⟩) hHeld ?_ ?_
  rotate_left
  · rintro w' ⟨s0, s1, s2, s3, s4⟩
    go_simp
    with_reducible rfl
  rotate_left
  · simp only [Act.put, List.setIfInBounds_toArray, List.set_cons_zero, List.set_cons_succ, i64_w, i32_w]
    rfl
  refine take_ (i := 4) (N := some 21) (v := ?_) (a' := ?_) #[true, true, true, true, true, false, false, false, false, false, false, false, false, false, false] rfl rfl (by kernel_rfl) (fun _ _ _ h => h) (Or.inl ⟨by rfl, ?_⟩) hHeld ?_ ?_
  rotate_left
  · rintro w' ⟨s0, s1, s2, s3, s4⟩
    go_simp
    with_reducible rfl
  rotate_left
  · simp only [Act.put, List.setIfInBounds_toArray, List.set_cons_zero, List.set_cons_succ, i64_w, i32_w]
    rfl
  refine pure_ (i := 5) (N := some 22) (v := ?_) (a' := ?_) #[true, true, true, true, true, true, false, false, false, false, false, false, false, false, false] rfl rfl (by kernel_rfl) (fun _ _ _ h => h) (Or.inl ⟨by rfl, ?_⟩) ?_ ?_
  rotate_left
  · intro w'
    go_simp
    with_reducible rfl
  rotate_left
  · simp only [Act.put, List.setIfInBounds_toArray, List.set_cons_zero, List.set_cons_succ, i64_w, i32_w]
    rfl
  refine pure_ (i := 6) (N := some 23) (v := ?_) (a' := ?_) #[true, true, true, true, true, true, true, false, false, false, false, false, false, false, false] rfl rfl (by kernel_rfl) (fun _ _ _ h => h) (Or.inl ⟨by rfl, ?_⟩) ?_ ?_
  rotate_left
  · intro w'
    go_simp
    with_reducible rfl
  rotate_left
  · simp only [Act.put, List.setIfInBounds_toArray, List.set_cons_zero, List.set_cons_succ, i64_w, i32_w]
    rfl
  refine take_ (i := 7) (N := some 24) (v := ?_) (a' := ?_) #[true, true, true, true, true, true, true, true, false, false, false, false, false, false, false] rfl rfl (by kernel_rfl) (fun _ _ _ h => h) (Or.inl ⟨by rfl, ?_⟩) hHeld ?_ ?_
  rotate_left
  · rintro w' ⟨s0, s1, s2, s3, s4⟩
    go_simp
    with_reducible rfl
  rotate_left
  · simp only [Act.put, List.setIfInBounds_toArray, List.set_cons_zero, List.set_cons_succ, i64_w, i32_w]
    rfl
  refine pure_ (i := 8) (N := some 25) (v := ?_) (a' := ?_) #[true, true, true, true, true, true, true, true, true, false, false, false, false, false, false] rfl rfl (by kernel_rfl) (fun _ _ _ h => h) (Or.inl ⟨by rfl, ?_⟩) ?_ ?_
  rotate_left
  · intro w'
    go_simp
    with_reducible rfl
  rotate_left
  · simp only [Act.put, List.setIfInBounds_toArray, List.set_cons_zero, List.set_cons_succ, i64_w, i32_w]
    rfl
  refine take_ (i := 9) (N := some 26) (v := ?_) (a' := ?_) #[true, true, true, true, true, true, true, true, true, true, false, false, false, false, false] rfl rfl (by kernel_rfl) (fun _ _ _ h => h) (Or.inl ⟨by rfl, ?_⟩) hHeld ?_ ?_
  rotate_left
  · rintro w' ⟨s0, s1, s2, s3, s4⟩
    go_simp
    with_reducible rfl
  rotate_left
  · simp only [Act.put, List.setIfInBounds_toArray, List.set_cons_zero, List.set_cons_succ, i64_w, i32_w]
    rfl
  refine pure_ (i := 10) (N := some 27) (v := ?_) (a' := ?_) #[true, true, true, true, true, true, true, true, true, true, true, false, false, false, false] rfl rfl (by kernel_rfl) (fun _ _ _ h => h) (Or.inl ⟨by rfl, ?_⟩) ?_ ?_
  rotate_left
  · intro w'
    go_simp
    with_reducible rfl
  rotate_left
  · simp only [Act.put, List.setIfInBounds_toArray, List.set_cons_zero, List.set_cons_succ, i64_w, i32_w]
    rfl
  refine pure_ (i := 11) (N := some 28) (v := ?_) (a' := ?_) #[true, true, true, true, true, true, true, true, true, true, true, true, false, false, false] rfl rfl (by kernel_rfl) (fun _ _ _ h => h) (Or.inl ⟨by rfl, ?_⟩) ?_ ?_
  rotate_left
  · intro w'
    go_simp
    with_reducible rfl
  rotate_left
  · simp only [Act.put, List.setIfInBounds_toArray, List.set_cons_zero, List.set_cons_succ, i64_w, i32_w]
    rfl
  refine take_ (i := 12) (N := some 29) (v := ?_) (a' := ?_) #[true, true, true, true, true, true, true, true, true, true, true, true, true, false, false] rfl rfl (by kernel_rfl) (fun _ _ _ h => h) (Or.inl ⟨by rfl, ?_⟩) hHeld ?_ ?_
  rotate_left
  · rintro w' ⟨s0, s1, s2, s3, s4⟩
    go_simp
    with_reducible rfl
  rotate_left
  · simp only [Act.put, List.setIfInBounds_toArray, List.set_cons_zero, List.set_cons_succ, i64_w, i32_w]
    rfl
  refine one_ (i := 13) (N := none) #[true, true, true, true, true, true, true, true, true, true, true, true, true, true, false] rfl rfl (by kernel_rfl) (by decide) (fun K hK => ?_)
  refine skip_ (w1 := ?_) (by rfl) rfl ?_ ?_
  rotate_left
  · go_simp
    rfl
  refine hK.out _ _ ⟨k_s0, k_s1, k_s2, k_s3, k_s4⟩ (fun hHeld => ?_)
  clear hK K
  refine pure_ (i := 14) (N := some 3) (v := ?_) (a' := ?_) #[true, true, true, true, true, true, true, true, true, true, true, true, true, true, true] rfl rfl (by kernel_rfl) (fun _ _ _ h => h) (Or.inl ⟨by rfl, ?_⟩) ?_ ?_
  rotate_left
  · intro w'
    go_simp
    with_reducible rfl
  rotate_left
  · simp only [Act.put, List.setIfInBounds_toArray, List.set_cons_zero, List.set_cons_succ, i64_w, i32_w]
    rfl
  refine done_ (by kernel_rfl) ?_
  go_wp2
  (try simp only [Exit.inBlock, Exit.then])
  refine bodyPost_ret (results_c2 rfl _ _ _ _ rfl _ (run_loadVar_row _ _ _ _ _ _ _ (blk_drewY (blk_set (blk_set B1'.out 0 (.int .i64 fn)) 1 (.int .i64 pc))) Tryd.underlying28 rfl (by kernel_rfl))) rfl ?_
  exact ⟨rfl, ((hz0.out.trans hc12.out (fun k hk h => by omega)).trans (H3.out w2) (fun k hk h => by omega)).drew⟩
theorem pg_none {z : (Int × Int) × Int} {e : Ending} {w' : World} (hz : z.2 = 0) (h : (z.2 = 0 ∧ e = .returned .nilIface) ∨ (z.2 ≠ 0 ∧ ∃ b g, e = .returned (.iface 79 (.pointer (some ⟨g, 0, none⟩))) ∧ w'.heap[g]? = some (.cells #[.int .i64 z.1.1, .iface 80 (.pointer (some ⟨b, 0, none⟩))] 85) ∧ w'.heap[b]? = some (.cells #[.int .i64 z.1.2, .int .i64 z.2] 87))) : e = .returned .nilIface := by
  rcases h with h | h
  · exact h.2
  · exact absurd hz h.1
theorem pg_some {z1 z2 z3 : Int} {e : Ending} {w' : World} (hz : ¬ z3 = 0) (h : (z3 = 0 ∧ e = .returned .nilIface) ∨ (z3 ≠ 0 ∧ ∃ b g, e = .returned (.iface 79 (.pointer (some ⟨g, 0, none⟩))) ∧ w'.heap[g]? = some (.cells #[.int .i64 z1, .iface 80 (.pointer (some ⟨b, 0, none⟩))] 85) ∧ w'.heap[b]? = some (.cells #[.int .i64 z2, .int .i64 z3] 87))) : ∃ b g, e = .returned (.iface 79 (.pointer (some ⟨g, 0, none⟩))) ∧ w'.heap[g]? = some (.cells #[.int .i64 z1, .iface 80 (.pointer (some ⟨b, 0, none⟩))] 85) ∧ w'.heap[b]? = some (.cells #[.int .i64 z2, .int .i64 z3] 87) := by
  rcases h with h | h
  · exact absurd h.1 hz
  · exact h.2
theorem funcs_zero {p : QP} : ∀ {l : List QF} {i : Nat}, (funcsP chkP p i l).2 = 0 → funcsP chkP p i l = ((0, 0), 0)
  | [], i, h => rfl
  | x :: xs, i, h => by
    rw [funcsP] at h ⊢
    by_cases hx : (functionP chkP p i x).2 ≠ 0
    · rw [if_pos hx] at h
      exact absurd h hx
    · rw [if_neg hx] at h ⊢
      exact funcs_zero h
theorem check_zero {p : QP} (h : (checkP chkP p).2 = 0) : checkP chkP p = ((0, 0), 0) := by
  rw [check_consts] at h ⊢
  by_cases h1 : (constsE p.consts).2 ≠ 0
  · rw [if_pos h1] at h
    exact absurd h h1
  rw [if_neg h1] at h ⊢
  by_cases h2 : p.funcs.length = 0
  · rw [if_pos h2] at h
    exact absurd h (by decide)
  rw [if_neg h2] at h ⊢
  by_cases h3 : 128 < p.funcs.length
  · rw [if_pos h3] at h
    exact absurd h (by decide)
  rw [if_neg h3] at h ⊢
  exact funcs_zero h
theorem prog_Check (w : World) (cA fA : Option Addr) (cc fc : Nat) (p : QP) (rs : List QR) (hV : PV w cA fA p rs) (hp : PWf p) (hE : w.cell? ⟨0, 0, none⟩ = some (.iface 114 (.agg #[.pointer (some ⟨2, 68, none⟩)]))) :
    Calls Tryd.prog 10 #[.agg #[.slice cA p.consts.length cc, .slice fA p.funcs.length fc]] w fun e w' => e = .returned (.tuple #[.agg #[.int .i64 (checkP chkP p).1.1, .int .i64 (checkP chkP p).1.2], .int .i64 (checkP chkP p).2]) ∧ Chg (fun _ => False) w w' := by
  have hVA := Aside0.mk hV
  have hEA := Aside0.mk hE
  clear hV hE
  go_enter Tryd.func10, Tryd.ntmps10
  go_upto_region 1 with (fail)
  (try simp only [Act.put, List.setIfInBounds_toArray, List.set_cons_zero, List.set_cons_succ])
  generalize hW : World.alloc (World.alloc w _) _ = W0
  have B1 : Aside0 (W0.heap[w.heap.size]? = some (.cells #[.slice cA p.consts.length cc, .slice fA p.funcs.length fc] 25)) := ⟨by rw [← hW]; exact ((Chg.refl (fun _ => False) (w.alloc _)).alloc _).blk (heap_alloc_new w _) (fun e => e)⟩
  have B2 : Aside0 (W0.heap[w.heap.size + 1]? = some (.cells #[.int .i64 0, .int .i64 0] 28)) := ⟨by rw [← hW]; exact heap_alloc2_new w _ _⟩
  have hz0 : Aside0 (Chg (fun _ => False) w W0) := ⟨by rw [← hW]; exact cg⟩
  clear hW
  have p0 : W0.cell? ⟨w.heap.size, 0, none⟩ = some (.slice cA p.consts.length cc) := blk_cell B1.out 0
  have p1 : W0.cell? ⟨w.heap.size, 1, none⟩ = some (.slice fA p.funcs.length fc) := blk_cell B1.out 1
  have hcall : Aside0 (Calls Tryd.prog 28 #[.agg #[.slice cA p.consts.length cc, .slice fA p.funcs.length fc]] W0 (PgPost W0 (checkP chkP p))) := ⟨prog_check W0 cA fA cc fc p rs (hVA.out.below (hz0.out.below (fun _ _ h => h))) hp⟩
  replace hEA := Aside0.mk (cell_chg0 hEA.out hz0.out)
  rcases hq : checkP chkP p with ⟨⟨z1, z2⟩, z3⟩
  rw [hq] at hcall
  by_cases hz : z3 = 0
  · have h0 := check_zero (p := p) (by rw [hq]; exact hz)
    rw [hq] at h0
    injection h0 with h0 h3
    injection h0 with h1 h2
    subst h1 h2 h3
    have he := Aside0.mk hq
    clear hq hz
    go_wp2_with (first | (go_at_call 28; go_must (refine (hcall.out).mono ?_); go_must (intro e w1 hq); go_must (obtain ⟨hc1, hq⟩ := hq); go_must (replace hc1 := Aside0.mk hc1); go_must (obtain rfl := pg_none rfl hq)) | (go_at_call 27; go_must (refine (prog_told0 _).mono ?_); go_must (rintro e w2 ⟨rfl, hc2⟩); go_must (have B9 := hc2.blk (hc1.out.blk B2.out (fun h => h)) (fun h => h)); go_must (have t0 := blk_cell B9 0); go_must (have t1 := blk_cell B9 1); go_must (have u0 := blk_frozen B9 0); go_must (have u1 := blk_frozen B9 1); go_must (replace B9 := Aside0.mk B9); go_must (replace hc2 := Aside0.mk hc2)))
    (try simp only [Exit.inBlock, Exit.then])
    refine bodyPost_ret (results_c2 rfl _ _ _ _ rfl _ (run_loadVar_row _ _ _ _ _ _ _ (blk_set (blk_set B9.out 0 (.int .i64 0)) 1 (.int .i64 0)) Tryd.underlying28 rfl (by kernel_rfl))) rfl ?_
    exact ⟨by rw [he.out]; rfl, (((hz0.out.trans hc1.out (fun _ _ h => h)).trans hc2.out (fun _ _ h => h))).trans (Chg.setCell (Chg.setCell (Chg.refl (fun k => k = w.heap.size + 1) _) (p := ⟨w.heap.size + 1, 0, none⟩) (fun _ => rfl) (.int .i64 0)) (p := ⟨w.heap.size + 1, 1, none⟩) (fun _ => rfl) (.int .i64 0)) (fun k hk h => by omega)⟩
  · have he := Aside0.mk hq
    clear hq
    go_wp2_with (first | (go_at_call 28; go_must (refine (hcall.out).mono ?_); go_must (intro e w1 hq); go_must (obtain ⟨hc1, hq⟩ := hq); go_must (replace hc1 := Aside0.mk hc1); go_must (obtain ⟨b, g, rfl, hg1, hb1⟩ := pg_some hz hq); go_must (replace hg1 := Aside0.mk hg1); go_must (replace hb1 := Aside0.mk hb1)) | (go_at_call 27; go_must (refine (prog_told _ g b z1 z2 z3 (cell_chg0 hEA.out hc1.out) hg1.out hb1.out).mono ?_); go_must (rintro e w2 ⟨rfl, hc2⟩); go_must (have B9 := hc2.blk (hc1.out.blk B2.out (fun h => h)) (fun h => h)); go_must (have t0 := blk_cell B9 0); go_must (have t1 := blk_cell B9 1); go_must (have u0 := blk_frozen B9 0); go_must (have u1 := blk_frozen B9 1); go_must (replace B9 := Aside0.mk B9); go_must (replace hc2 := Aside0.mk hc2)))
    (try simp only [Exit.inBlock, Exit.then])
    refine bodyPost_ret (results_c2 rfl _ _ _ _ rfl _ (run_loadVar_row _ _ _ _ _ _ _ (blk_set (blk_set B9.out 0 (.int .i64 z1)) 1 (.int .i64 z2)) Tryd.underlying28 rfl (by kernel_rfl))) rfl ?_
    exact ⟨by rw [he.out]; rfl, (((hz0.out.trans hc1.out (fun _ _ h => h)).trans hc2.out (fun _ _ h => h))).trans (Chg.setCell (Chg.setCell (Chg.refl (fun k => k = w.heap.size + 1) _) (p := ⟨w.heap.size + 1, 0, none⟩) (fun _ => rfl) (.int .i64 z1)) (p := ⟨w.heap.size + 1, 1, none⟩) (fun _ => rfl) (.int .i64 z2)) (fun k hk h => by omega)⟩
end Go.Proofs.YtgaackedappmgaaDoor.K
