import Derived.Test.YtgaackedappmgaaDoorCh
import Derived.BigQuiet
import Derived.IntWalk
import Derived.Deep.RegionHeld3
namespace Go.Proofs.YtgaackedappmgaaDoor.K
open Go.RowKit Go.Proofs.YtgaackedappmgaaDoorW.PrintWords Go.Proofs.YtgaackedappmgaaDoorW.PrintLast Go.Proofs.YtgaackedappmgaaDoorW.PrintMore
set_option linter.unusedVariables false
set_option linter.unusedSimpArgs false
set_option maxRecDepth 100000
def efP (op a : Int) : Bool := okP op && rightP (rowP op).kind a
def tkP (op a : Int) : Int := if efP op a = true then (rowP op).takes + (if (rowP op).many = true then a else 0) else 0
def ptP (op a : Int) : Int := if efP op a = true then (rowP op).puts else 0
theorem form_field2 (W : World) (a b c : Value) : (Instr.field 140 (.agg #[a, b, c]) 2).run Tryd.prog W = .ok c W := by kernel_rfl
theorem many_kind (op : Int) : (rowP op).many = true → (rowP op).kind = 6 := tab_all (fun r => r.many = true → r.kind = 6) (by decide) (by decide +kernel) op
theorem fx_facts {w w1 W0 : World} {op a : Int} {nm : ByteArray} {k t p : Int} {m : Bool} (hc : Chg (fun _ => False) (w.alloc (.cells #[.int .i64 op, .int .i64 a] 50)) w1)
    (h : w1.alloc (.cells #[.string nm, .int .u8 k, .int .u8 t, .int .u8 p, .bool m] 134) = W0) :
    W0.heap[w.heap.size]? = some (.cells #[.int .i64 op, .int .i64 a] 50 (0, 0)) ∧ W0.heap[w1.heap.size]? = some (.cells #[.string nm, .int .u8 k, .int .u8 t, .int .u8 p, .bool m] 134 (0, 0)) ∧ Chg (fun _ => False) w W0 := by
  subst h
  exact ⟨heap_alloc_old3 _ _ (hc.blk (heap_alloc_new w _) (fun h => h)), heap_alloc_new w1 _, (((Chg.refl _ w).alloc _).trans hc (fun _ _ h => h)).alloc _⟩
set_option maxHeartbeats 4000000
theorem code_Effect (w : World) (op a : Int) : Calls Tryd.prog 64 #[.agg #[.int .i64 op, .int .i64 a]] w fun e w' => e = .returned (.tuple #[.int .i64 (tkP op a), .int .i64 (ptP op a), .bool (efP op a)]) ∧ Chg (fun _ => False) w w' := by
  obtain ⟨b0, b1, b2, b3, b4, b5⟩ := rowP_bounds op
  have hm6 := many_kind op
  cases eb : okP op
  · have e1 : efP op a = false := by unfold efP; rw [eb]; rfl
    have e2 : tkP op a = 0 := by unfold tkP; rw [e1]; rfl
    have e3 : ptP op a = 0 := by unfold ptP; rw [e1]; rfl
    rw [e1, e2, e3]
    generalize er : rowP op = r at b0 b1 b2 b3 b4 b5 hm6
    obtain ⟨nm, kd, tk, pt, mn⟩ := r
    have hrow : Aside0 (∀ W, Calls Tryd.prog 65 #[.int .i64 op] W fun e w' => e = .returned (.tuple #[.agg #[.string nm, .int .u8 kd, .int .u8 tk, .int .u8 pt, .bool mn], .bool false]) ∧ Chg (fun _ => False) W w') := ⟨fun W => by have := code_rowOf W op; rw [er, eb] at this; exact this⟩
    clear e1 e2 e3 er eb hm6
    go_enter Tryd.func64, Tryd.ntmps64
    go_wp2_with (first | (go_at_call 65; go_must (refine (hrow.out _).mono ?_); go_must (rintro e w1 ⟨rfl, hc1⟩); go_must (replace hc1 := Aside0.mk hc1)) | fail)
    generalize hW : World.alloc _ _ = W0
    obtain ⟨hbox, hrw, hcW⟩ := fx_facts hc1.out hW
    have x1 : W0.cell? ⟨w.heap.size, 1, none⟩ = some (.int .i64 a) := blk_cell hbox 1
    have r1 : W0.cell? ⟨w1.heap.size, 1, none⟩ = some (.int .u8 kd) := blk_cell hrw 1
    replace hbox := Aside0.mk hbox
    replace hrw := Aside0.mk hrw
    replace hcW := Aside0.mk hcW
    clear hW
    go_quiet (fail)
    go_wp2
    go_ret3
    exact ⟨rfl, by repeat (first | exact hcW.out | apply Chg.drewN | apply Chg.drew)⟩
  · have e1 : efP op a = rightP (rowP op).kind a := by unfold efP; rw [eb]; rfl
    have e2 : tkP op a = if rightP (rowP op).kind a = true then (rowP op).takes + (if (rowP op).many = true then a else 0) else 0 := by unfold tkP; rw [e1]
    have e3 : ptP op a = if rightP (rowP op).kind a = true then (rowP op).puts else 0 := by unfold ptP; rw [e1]
    rw [e1, e2, e3]
    generalize er : rowP op = r at b0 b1 b2 b3 b4 b5 hm6 ⊢
    obtain ⟨nm, kd, tk, pt, mn⟩ := r
    simp only at b0 b1 b2 b3 b4 b5 hm6 ⊢
    have hrow : Aside0 (∀ W, Calls Tryd.prog 65 #[.int .i64 op] W fun e w' => e = .returned (.tuple #[.agg #[.string nm, .int .u8 kd, .int .u8 tk, .int .u8 pt, .bool mn], .bool true]) ∧ Chg (fun _ => False) W w') := ⟨fun W => by have := code_rowOf W op; rw [er, eb] at this; exact this⟩
    clear e1 e2 e3 er eb
    have wt := i64_small b2 (by omega)
    have wp := i64_small b4 (by omega)
    have hfl : ∀ (W : World) (a b c : Value), (Instr.field 140 (.agg #[a, b, c]) 2).run Tryd.prog W = .ok c W := fun W a b c => form_field2 W a b c
    by_cases k1 : kd = 1
    · subst k1
      have hm0 : mn = false := by cases mn; rfl; exact absurd (hm6 rfl) (by decide)
      subst hm0
      clear hm6
      cases hR : rightP 1 a
      · cases hR
      · replace hR := Aside0.mk hR
        go_enter Tryd.func64, Tryd.ntmps64
        go_wp2_with (first | (go_at_call 65; go_must (refine (hrow.out _).mono ?_); go_must (rintro e w1 ⟨rfl, hc1⟩); go_must (replace hc1 := Aside0.mk hc1)) | fail)
        generalize hW : World.alloc _ _ = W0
        obtain ⟨hbox, hrw, hcW⟩ := fx_facts hc1.out hW
        have x1 : W0.cell? ⟨w.heap.size, 1, none⟩ = some (.int .i64 a) := blk_cell hbox 1
        have r1 : W0.cell? ⟨w1.heap.size, 1, none⟩ = some (.int .u8 1) := blk_cell hrw 1
        replace hbox := Aside0.mk hbox
        replace hrw := Aside0.mk hrw
        replace hcW := Aside0.mk hcW
        clear hW
        go_region_held3 (fun w' => w'.cell? ⟨w.heap.size, 1, none⟩ = some (.int .i64 a) ∧ w'.cell? ⟨w1.heap.size, 1, none⟩ = some (.int .u8 1)) (first | exact ⟨x1w2, r1w2⟩ | go_keep) (first | (go_at_call 66; refine (code_form1 _).mono ?_; rintro e w2 ⟨rfl, hc2⟩; go_must (have x1w2 : w2.cell? ⟨w.heap.size, 1, none⟩ = some (.int .i64 a) := blk_cell (hc2.blk hbox.out (fun h => h)) 1); go_must (have r1w2 : w2.cell? ⟨w1.heap.size, 1, none⟩ = some (.int .u8 1) := blk_cell (hc2.blk hrw.out (fun h => h)) 1); go_must (have r2w2 : w2.cell? ⟨w1.heap.size, 2, none⟩ = some (.int .u8 tk) := blk_cell (hc2.blk hrw.out (fun h => h)) 2); go_must (have r3w2 : w2.cell? ⟨w1.heap.size, 3, none⟩ = some (.int .u8 pt) := blk_cell (hc2.blk hrw.out (fun h => h)) 3); go_must (have r4w2 : w2.cell? ⟨w1.heap.size, 4, none⟩ = some (.bool false) := blk_cell (hc2.blk hrw.out (fun h => h)) 4); replace hc2 := Aside0.mk (hcW.out.drew.trans hc2 (fun _ _ h => h))) | (go_at_call 75; refine (code_right1 _ _).mono ?_; rintro e w3 ⟨rfl, rfl⟩; rw [hR.out]))
        all_goals (
          go_wp2
          go_quiet (fail)
          go_wp2
          go_ret3
          exact ⟨rfl, by repeat (first | exact hc2.out | apply Chg.drewN | apply Chg.drew)⟩)
    by_cases k7 : kd = 7
    · subst k7
      have hm0 : mn = false := by cases mn; rfl; exact absurd (hm6 rfl) (by decide)
      subst hm0
      clear hm6
      cases hR : rightP 7 a
      · replace hR := Aside0.mk hR
        go_enter Tryd.func64, Tryd.ntmps64
        go_wp2_with (first | (go_at_call 65; go_must (refine (hrow.out _).mono ?_); go_must (rintro e w1 ⟨rfl, hc1⟩); go_must (replace hc1 := Aside0.mk hc1)) | fail)
        generalize hW : World.alloc _ _ = W0
        obtain ⟨hbox, hrw, hcW⟩ := fx_facts hc1.out hW
        have x1 : W0.cell? ⟨w.heap.size, 1, none⟩ = some (.int .i64 a) := blk_cell hbox 1
        have r1 : W0.cell? ⟨w1.heap.size, 1, none⟩ = some (.int .u8 7) := blk_cell hrw 1
        replace hbox := Aside0.mk hbox
        replace hrw := Aside0.mk hrw
        replace hcW := Aside0.mk hcW
        clear hW
        go_region_held3 (fun w' => w'.cell? ⟨w.heap.size, 1, none⟩ = some (.int .i64 a) ∧ w'.cell? ⟨w1.heap.size, 1, none⟩ = some (.int .u8 7)) (first | exact ⟨x1w2, r1w2⟩ | go_keep) (first | (go_at_call 66; refine (code_form7 _).mono ?_; rintro e w2 ⟨rfl, hc2⟩; go_must (have x1w2 : w2.cell? ⟨w.heap.size, 1, none⟩ = some (.int .i64 a) := blk_cell (hc2.blk hbox.out (fun h => h)) 1); go_must (have r1w2 : w2.cell? ⟨w1.heap.size, 1, none⟩ = some (.int .u8 7) := blk_cell (hc2.blk hrw.out (fun h => h)) 1); go_must (have r2w2 : w2.cell? ⟨w1.heap.size, 2, none⟩ = some (.int .u8 tk) := blk_cell (hc2.blk hrw.out (fun h => h)) 2); go_must (have r3w2 : w2.cell? ⟨w1.heap.size, 3, none⟩ = some (.int .u8 pt) := blk_cell (hc2.blk hrw.out (fun h => h)) 3); go_must (have r4w2 : w2.cell? ⟨w1.heap.size, 4, none⟩ = some (.bool false) := blk_cell (hc2.blk hrw.out (fun h => h)) 4); replace hc2 := Aside0.mk (hcW.out.drew.trans hc2 (fun _ _ h => h))) | (go_at_call 77; refine (code_right7 _ _).mono ?_; rintro e w3 ⟨rfl, rfl⟩; rw [hR.out]))
        all_goals (
          go_wp2
          go_ret3
          exact ⟨rfl, by repeat (first | exact hc2.out | apply Chg.drewN | apply Chg.drew)⟩)
      · replace hR := Aside0.mk hR
        go_enter Tryd.func64, Tryd.ntmps64
        go_wp2_with (first | (go_at_call 65; go_must (refine (hrow.out _).mono ?_); go_must (rintro e w1 ⟨rfl, hc1⟩); go_must (replace hc1 := Aside0.mk hc1)) | fail)
        generalize hW : World.alloc _ _ = W0
        obtain ⟨hbox, hrw, hcW⟩ := fx_facts hc1.out hW
        have x1 : W0.cell? ⟨w.heap.size, 1, none⟩ = some (.int .i64 a) := blk_cell hbox 1
        have r1 : W0.cell? ⟨w1.heap.size, 1, none⟩ = some (.int .u8 7) := blk_cell hrw 1
        replace hbox := Aside0.mk hbox
        replace hrw := Aside0.mk hrw
        replace hcW := Aside0.mk hcW
        clear hW
        go_region_held3 (fun w' => w'.cell? ⟨w.heap.size, 1, none⟩ = some (.int .i64 a) ∧ w'.cell? ⟨w1.heap.size, 1, none⟩ = some (.int .u8 7)) (first | exact ⟨x1w2, r1w2⟩ | go_keep) (first | (go_at_call 66; refine (code_form7 _).mono ?_; rintro e w2 ⟨rfl, hc2⟩; go_must (have x1w2 : w2.cell? ⟨w.heap.size, 1, none⟩ = some (.int .i64 a) := blk_cell (hc2.blk hbox.out (fun h => h)) 1); go_must (have r1w2 : w2.cell? ⟨w1.heap.size, 1, none⟩ = some (.int .u8 7) := blk_cell (hc2.blk hrw.out (fun h => h)) 1); go_must (have r2w2 : w2.cell? ⟨w1.heap.size, 2, none⟩ = some (.int .u8 tk) := blk_cell (hc2.blk hrw.out (fun h => h)) 2); go_must (have r3w2 : w2.cell? ⟨w1.heap.size, 3, none⟩ = some (.int .u8 pt) := blk_cell (hc2.blk hrw.out (fun h => h)) 3); go_must (have r4w2 : w2.cell? ⟨w1.heap.size, 4, none⟩ = some (.bool false) := blk_cell (hc2.blk hrw.out (fun h => h)) 4); replace hc2 := Aside0.mk (hcW.out.drew.trans hc2 (fun _ _ h => h))) | (go_at_call 77; refine (code_right7 _ _).mono ?_; rintro e w3 ⟨rfl, rfl⟩; rw [hR.out]))
        all_goals (
          go_wp2
          go_quiet (fail)
          go_wp2
          go_ret3
          exact ⟨rfl, by repeat (first | exact hc2.out | apply Chg.drewN | apply Chg.drew)⟩)
    by_cases k8 : kd = 8
    · subst k8
      have hm0 : mn = false := by cases mn; rfl; exact absurd (hm6 rfl) (by decide)
      subst hm0
      clear hm6
      cases hR : rightP 8 a
      · replace hR := Aside0.mk hR
        go_enter Tryd.func64, Tryd.ntmps64
        go_wp2_with (first | (go_at_call 65; go_must (refine (hrow.out _).mono ?_); go_must (rintro e w1 ⟨rfl, hc1⟩); go_must (replace hc1 := Aside0.mk hc1)) | fail)
        generalize hW : World.alloc _ _ = W0
        obtain ⟨hbox, hrw, hcW⟩ := fx_facts hc1.out hW
        have x1 : W0.cell? ⟨w.heap.size, 1, none⟩ = some (.int .i64 a) := blk_cell hbox 1
        have r1 : W0.cell? ⟨w1.heap.size, 1, none⟩ = some (.int .u8 8) := blk_cell hrw 1
        replace hbox := Aside0.mk hbox
        replace hrw := Aside0.mk hrw
        replace hcW := Aside0.mk hcW
        clear hW
        go_region_held3 (fun w' => w'.cell? ⟨w.heap.size, 1, none⟩ = some (.int .i64 a) ∧ w'.cell? ⟨w1.heap.size, 1, none⟩ = some (.int .u8 8)) (first | exact ⟨x1w2, r1w2⟩ | go_keep) (first | (go_at_call 66; refine (code_form8 _).mono ?_; rintro e w2 ⟨rfl, hc2⟩; go_must (have x1w2 : w2.cell? ⟨w.heap.size, 1, none⟩ = some (.int .i64 a) := blk_cell (hc2.blk hbox.out (fun h => h)) 1); go_must (have r1w2 : w2.cell? ⟨w1.heap.size, 1, none⟩ = some (.int .u8 8) := blk_cell (hc2.blk hrw.out (fun h => h)) 1); go_must (have r2w2 : w2.cell? ⟨w1.heap.size, 2, none⟩ = some (.int .u8 tk) := blk_cell (hc2.blk hrw.out (fun h => h)) 2); go_must (have r3w2 : w2.cell? ⟨w1.heap.size, 3, none⟩ = some (.int .u8 pt) := blk_cell (hc2.blk hrw.out (fun h => h)) 3); go_must (have r4w2 : w2.cell? ⟨w1.heap.size, 4, none⟩ = some (.bool false) := blk_cell (hc2.blk hrw.out (fun h => h)) 4); replace hc2 := Aside0.mk (hcW.out.drew.trans hc2 (fun _ _ h => h))) | (go_at_call 78; refine (code_right8 _ _).mono ?_; rintro e w3 ⟨rfl, rfl⟩; rw [hR.out]))
        all_goals (
          go_wp2
          go_ret3
          exact ⟨rfl, by repeat (first | exact hc2.out | apply Chg.drewN | apply Chg.drew)⟩)
      · replace hR := Aside0.mk hR
        go_enter Tryd.func64, Tryd.ntmps64
        go_wp2_with (first | (go_at_call 65; go_must (refine (hrow.out _).mono ?_); go_must (rintro e w1 ⟨rfl, hc1⟩); go_must (replace hc1 := Aside0.mk hc1)) | fail)
        generalize hW : World.alloc _ _ = W0
        obtain ⟨hbox, hrw, hcW⟩ := fx_facts hc1.out hW
        have x1 : W0.cell? ⟨w.heap.size, 1, none⟩ = some (.int .i64 a) := blk_cell hbox 1
        have r1 : W0.cell? ⟨w1.heap.size, 1, none⟩ = some (.int .u8 8) := blk_cell hrw 1
        replace hbox := Aside0.mk hbox
        replace hrw := Aside0.mk hrw
        replace hcW := Aside0.mk hcW
        clear hW
        go_region_held3 (fun w' => w'.cell? ⟨w.heap.size, 1, none⟩ = some (.int .i64 a) ∧ w'.cell? ⟨w1.heap.size, 1, none⟩ = some (.int .u8 8)) (first | exact ⟨x1w2, r1w2⟩ | go_keep) (first | (go_at_call 66; refine (code_form8 _).mono ?_; rintro e w2 ⟨rfl, hc2⟩; go_must (have x1w2 : w2.cell? ⟨w.heap.size, 1, none⟩ = some (.int .i64 a) := blk_cell (hc2.blk hbox.out (fun h => h)) 1); go_must (have r1w2 : w2.cell? ⟨w1.heap.size, 1, none⟩ = some (.int .u8 8) := blk_cell (hc2.blk hrw.out (fun h => h)) 1); go_must (have r2w2 : w2.cell? ⟨w1.heap.size, 2, none⟩ = some (.int .u8 tk) := blk_cell (hc2.blk hrw.out (fun h => h)) 2); go_must (have r3w2 : w2.cell? ⟨w1.heap.size, 3, none⟩ = some (.int .u8 pt) := blk_cell (hc2.blk hrw.out (fun h => h)) 3); go_must (have r4w2 : w2.cell? ⟨w1.heap.size, 4, none⟩ = some (.bool false) := blk_cell (hc2.blk hrw.out (fun h => h)) 4); replace hc2 := Aside0.mk (hcW.out.drew.trans hc2 (fun _ _ h => h))) | (go_at_call 78; refine (code_right8 _ _).mono ?_; rintro e w3 ⟨rfl, rfl⟩; rw [hR.out]))
        all_goals (
          go_wp2
          go_quiet (fail)
          go_wp2
          go_ret3
          exact ⟨rfl, by repeat (first | exact hc2.out | apply Chg.drewN | apply Chg.drew)⟩)
    have hF : Aside0 (isF kd = false) := ⟨by unfold isF; simp [k1, k7, k8]⟩
    clear k1 k7 k8
    cases hR : rightP kd a
    · replace hR := Aside0.mk hR
      clear hm6
      go_enter Tryd.func64, Tryd.ntmps64
      go_wp2_with (first | (go_at_call 65; go_must (refine (hrow.out _).mono ?_); go_must (rintro e w1 ⟨rfl, hc1⟩); go_must (replace hc1 := Aside0.mk hc1)) | fail)
      generalize hW : World.alloc _ _ = W0
      obtain ⟨hbox, hrw, hcW⟩ := fx_facts hc1.out hW
      have x1 : W0.cell? ⟨w.heap.size, 1, none⟩ = some (.int .i64 a) := blk_cell hbox 1
      have r1 : W0.cell? ⟨w1.heap.size, 1, none⟩ = some (.int .u8 kd) := blk_cell hrw 1
      replace hbox := Aside0.mk hbox
      replace hrw := Aside0.mk hrw
      replace hcW := Aside0.mk hcW
      clear hW
      go_region_held3 (fun w' => w'.cell? ⟨w.heap.size, 1, none⟩ = some (.int .i64 a) ∧ w'.cell? ⟨w1.heap.size, 1, none⟩ = some (.int .u8 kd)) (first | exact ⟨x1w2, r1w2⟩ | go_keep) (first | (go_at_call 66; refine (code_formB _ kd b0 b1 hF.out).mono ?_; rintro e w2 ⟨b, rfl, hbz, hs, hc2⟩; go_must (have x1w2 : w2.cell? ⟨w.heap.size, 1, none⟩ = some (.int .i64 a) := blk_cell (hc2.blk hbox.out (fun h => h)) 1); go_must (have r1w2 : w2.cell? ⟨w1.heap.size, 1, none⟩ = some (.int .u8 kd) := blk_cell (hc2.blk hrw.out (fun h => h)) 1); go_must (have r2w2 : w2.cell? ⟨w1.heap.size, 2, none⟩ = some (.int .u8 tk) := blk_cell (hc2.blk hrw.out (fun h => h)) 2); go_must (have r3w2 : w2.cell? ⟨w1.heap.size, 3, none⟩ = some (.int .u8 pt) := blk_cell (hc2.blk hrw.out (fun h => h)) 3); go_must (have r4w2 : w2.cell? ⟨w1.heap.size, 4, none⟩ = some (.bool mn) := blk_cell (hc2.blk hrw.out (fun h => h)) 4); replace hs := Aside0.mk hs; replace hc2 := Aside0.mk (hcW.out.drew.trans hc2 (fun _ _ h => h))) | (go_at_call 84; refine (hs.out _ _ ?_).mono ?_; exact Chg.refl _ _; rintro e w3 ⟨rfl, rfl⟩; rw [hR.out]))
      all_goals (
        go_wp2
        go_ret3
        exact ⟨rfl, by repeat (first | exact hc2.out | apply Chg.drewN | apply Chg.drew)⟩)
    · cases mn
      · replace hR := Aside0.mk hR
        clear hm6
        go_enter Tryd.func64, Tryd.ntmps64
        go_wp2_with (first | (go_at_call 65; go_must (refine (hrow.out _).mono ?_); go_must (rintro e w1 ⟨rfl, hc1⟩); go_must (replace hc1 := Aside0.mk hc1)) | fail)
        generalize hW : World.alloc _ _ = W0
        obtain ⟨hbox, hrw, hcW⟩ := fx_facts hc1.out hW
        have x1 : W0.cell? ⟨w.heap.size, 1, none⟩ = some (.int .i64 a) := blk_cell hbox 1
        have r1 : W0.cell? ⟨w1.heap.size, 1, none⟩ = some (.int .u8 kd) := blk_cell hrw 1
        replace hbox := Aside0.mk hbox
        replace hrw := Aside0.mk hrw
        replace hcW := Aside0.mk hcW
        clear hW
        go_region_held3 (fun w' => w'.cell? ⟨w.heap.size, 1, none⟩ = some (.int .i64 a) ∧ w'.cell? ⟨w1.heap.size, 1, none⟩ = some (.int .u8 kd)) (first | exact ⟨x1w2, r1w2⟩ | go_keep) (first | (go_at_call 66; refine (code_formB _ kd b0 b1 hF.out).mono ?_; rintro e w2 ⟨b, rfl, hbz, hs, hc2⟩; go_must (have x1w2 : w2.cell? ⟨w.heap.size, 1, none⟩ = some (.int .i64 a) := blk_cell (hc2.blk hbox.out (fun h => h)) 1); go_must (have r1w2 : w2.cell? ⟨w1.heap.size, 1, none⟩ = some (.int .u8 kd) := blk_cell (hc2.blk hrw.out (fun h => h)) 1); go_must (have r2w2 : w2.cell? ⟨w1.heap.size, 2, none⟩ = some (.int .u8 tk) := blk_cell (hc2.blk hrw.out (fun h => h)) 2); go_must (have r3w2 : w2.cell? ⟨w1.heap.size, 3, none⟩ = some (.int .u8 pt) := blk_cell (hc2.blk hrw.out (fun h => h)) 3); go_must (have r4w2 : w2.cell? ⟨w1.heap.size, 4, none⟩ = some (.bool false) := blk_cell (hc2.blk hrw.out (fun h => h)) 4); replace hs := Aside0.mk hs; replace hc2 := Aside0.mk (hcW.out.drew.trans hc2 (fun _ _ h => h))) | (go_at_call 84; refine (hs.out _ _ ?_).mono ?_; exact Chg.refl _ _; rintro e w3 ⟨rfl, rfl⟩; rw [hR.out]))
        all_goals (
          go_wp2
          go_quiet (fail)
          go_wp2
          go_ret3
          exact ⟨rfl, by repeat (first | exact hc2.out | apply Chg.drewN | apply Chg.drew)⟩)
      · obtain rfl : kd = 6 := hm6 rfl
        have ha : 0 ≤ a ∧ a < 64 := by
          have h := hR
          unfold rightP limP at h
          simpa using h
        obtain ⟨ha0, ha1⟩ := ha
        have ws : IntKind.i64.wrap (tk + a) = tk + a := by simp [IntKind.wrap, IntKind.bits, IntKind.signed]; omega
        replace hR := Aside0.mk hR
        clear hm6
        go_enter Tryd.func64, Tryd.ntmps64
        go_wp2_with (first | (go_at_call 65; go_must (refine (hrow.out _).mono ?_); go_must (rintro e w1 ⟨rfl, hc1⟩); go_must (replace hc1 := Aside0.mk hc1)) | fail)
        generalize hW : World.alloc _ _ = W0
        obtain ⟨hbox, hrw, hcW⟩ := fx_facts hc1.out hW
        have x1 : W0.cell? ⟨w.heap.size, 1, none⟩ = some (.int .i64 a) := blk_cell hbox 1
        have r1 : W0.cell? ⟨w1.heap.size, 1, none⟩ = some (.int .u8 6) := blk_cell hrw 1
        replace hbox := Aside0.mk hbox
        replace hrw := Aside0.mk hrw
        replace hcW := Aside0.mk hcW
        clear hW
        go_region_held3 (fun w' => w'.cell? ⟨w.heap.size, 1, none⟩ = some (.int .i64 a) ∧ w'.cell? ⟨w1.heap.size, 1, none⟩ = some (.int .u8 6)) (first | exact ⟨x1w2, r1w2⟩ | go_keep) (first | (go_at_call 66; refine (code_formB _ 6 b0 b1 hF.out).mono ?_; rintro e w2 ⟨b, rfl, hbz, hs, hc2⟩; go_must (have x1w2 : w2.cell? ⟨w.heap.size, 1, none⟩ = some (.int .i64 a) := blk_cell (hc2.blk hbox.out (fun h => h)) 1); go_must (have r1w2 : w2.cell? ⟨w1.heap.size, 1, none⟩ = some (.int .u8 6) := blk_cell (hc2.blk hrw.out (fun h => h)) 1); go_must (have r2w2 : w2.cell? ⟨w1.heap.size, 2, none⟩ = some (.int .u8 tk) := blk_cell (hc2.blk hrw.out (fun h => h)) 2); go_must (have r3w2 : w2.cell? ⟨w1.heap.size, 3, none⟩ = some (.int .u8 pt) := blk_cell (hc2.blk hrw.out (fun h => h)) 3); go_must (have r4w2 : w2.cell? ⟨w1.heap.size, 4, none⟩ = some (.bool true) := blk_cell (hc2.blk hrw.out (fun h => h)) 4); replace hs := Aside0.mk hs; replace hc2 := Aside0.mk (hcW.out.drew.trans hc2 (fun _ _ h => h))) | (go_at_call 84; refine (hs.out _ _ ?_).mono ?_; exact Chg.refl _ _; rintro e w3 ⟨rfl, rfl⟩; rw [hR.out]))
        all_goals (
          go_wp2
          go_quiet (fail)
          go_wp2
          go_ret3
          exact ⟨rfl, by repeat (first | exact hc2.out | apply Chg.drewN | apply Chg.drew)⟩)
end Go.Proofs.YtgaackedappmgaaDoor.K
