import Derived.Test.YthmghcjkmmhgnaaCj
import Derived.BigQuiet
import Derived.IntWalk
import Derived.Deep.RegionWith
namespace Go.Proofs.Ythmghcjkmmhgnaa.K
open Go.RowKit Go.Proofs.YthmghcjkmmhgnaaW.PrintWords Go.Proofs.YthmghcjkmmhgnaaW.PrintLast Go.Proofs.YthmghcjkmmhgnaaW.PrintMore
set_option linter.unusedVariables false
set_option linter.unusedSimpArgs false
set_option maxRecDepth 100000

theorem kit_Num (w : World) (x : Int) : Calls Try.prog 32 #[.int .i64 x] w fun e w' => e = .returned (.int .i64 x) ∧ w' = w := by
  go_enter Try.func32, Try.ntmps32
  go_wp2
  go_ret
  exact ⟨rfl, rfl⟩
theorem flow_T : ∀ k : Fin 67, ((k.val = 40 ∨ k.val = 41 ∨ k.val = 42) ↔ (opTab.getD k.val noRow).kind = 2) ∧ ((k.val = 40 ∨ k.val = 44 ∨ k.val = 45) → (opTab.getD k.val noRow).puts = 0) := by decide +kernel
theorem law_codeFlow (w : World) (op : Int) : Calls Try.prog 8 #[.int .i64 op] w fun e w' => e = .returned (.bool true) ∧ Below w.heap.size w w' := by
  have hJ : Aside0 (∀ W, Calls Try.prog 24 #[.int .i64 op] W _) := ⟨fun W => code_Jumps W op⟩
  have hE : Aside0 (∀ W, Calls Try.prog 22 #[.int .i64 op] W _) := ⟨fun W => code_Ends W op⟩
  by_cases hin : 0 ≤ op ∧ op < 67
  · obtain ⟨k, rfl⟩ := Int.eq_ofNat_of_zero_le hin.1
    have hk : k < 67 := by omega
    obtain ⟨t1, t2⟩ := flow_T ⟨k, hk⟩
    simp only at t1 t2
    rw [← (rowP_at hk).1] at t1 t2
    have hok := (rowP_at hk).2
    obtain ⟨b0, b1, b2, b3, b4, b5⟩ := rowP_bounds (k : Int)
    have hm6 := many_kind (k : Int)
    have hJk : (((k : Int) == 40 || (k : Int) == 41 || (k : Int) == 42) = true) ↔ (rowP (k : Int)).kind = 2 := by rw [← t1]; simp; omega
    have hEk : (((k : Int) == 40 || (k : Int) == 44 || (k : Int) == 45) = true) → (rowP (k : Int)).puts = 0 := fun h => t2 (by simp at h; omega)
    have d0 : decide (0 ≤ (k : Int)) = true := by simp
    have d1 : decide ((k : Int) < 67) = true := by simp; omega
    have d2 : decide (k < 67) = true := by simp; omega
    clear t1 t2 hin
    generalize ((k : Int) == 40 || (k : Int) == 41 || (k : Int) == 42) = J at hJ hJk
    generalize ((k : Int) == 40 || (k : Int) == 44 || (k : Int) == 45) = E at hE hEk
    generalize hop : (k : Int) = op at *
    have hOp : Aside0 (∀ W, Calls Try.prog 21 #[.int .i64 op] W fun e w' => e = .returned (.tuple #[.int .i64 (rowP op).kind, .bool true]) ∧ Chg (fun _ => False) W w') := ⟨fun W => by have := code_Operand W op; rw [hok] at this; exact this⟩
    have hall : ∀ a, rightP (rowP op).kind a = true → ((rowP op).many = true → a = 0) → (∀ W, Calls Try.prog 31 #[.agg #[.int .i64 op, .int .i64 a]] W fun e w' => e = .returned (.tuple #[.int .i64 (rowP op).takes, .int .i64 (rowP op).puts, .bool true]) ∧ Chg (fun _ => False) W w') ∧
        (∀ W, Calls Try.prog 33 #[.agg #[.int .i64 op, .int .i64 a]] W fun e w' => e = .returned (.int .i64 0) ∧ Chg (fun _ => False) W w') := by
      intro a hr hm
      have hef : efP op a = true := by unfold efP; rw [hok, hr]; rfl
      have e1 : tkP op a = (rowP op).takes := by
        unfold tkP
        rw [if_pos hef]
        cases hmn : (rowP op).many
        · simp
        · rw [hm hmn]; simp
      have e2 : ptP op a = (rowP op).puts := by unfold ptP; rw [if_pos hef]
      refine ⟨fun W => by have := code_Effect W op a; rw [hef, e1, e2] at this; exact this, fun W => by have := code_Check W op a; unfold chkP at this; rw [hef] at this; exact this⟩
    generalize rowP op = r at hOp hall b0 b1 b2 b3 b4 b5 hm6 hJk hEk
    obtain ⟨nm, kd, tk, pt, mn⟩ := r
    simp only at hOp hall b0 b1 b2 b3 b4 b5 hm6 hJk hEk
    replace hEk := Aside0.mk hEk
    have z0 : decide (0 ≤ tk) = true := by simpa using b2
    have z1 : decide (tk ≤ 3) = true := by simpa using b3
    have z2 : decide (0 ≤ pt) = true := by simpa using b4
    have z3 : decide (pt ≤ 2) = true := by simpa using b5
    clear hop hok hk b2 b3 b4 b5
    by_cases k7 : kd = 7
    · subst k7
      obtain rfl : J = false := by cases J; rfl; exact absurd (hJk.1 rfl) (by decide)
      obtain ⟨hEf, hCk⟩ := hall 32 rfl (fun h => absurd (hm6 h) (by decide))
      replace hEf := Aside0.mk hEf
      replace hCk := Aside0.mk hCk
      clear hall hJk hm6
      cases E
      · go_enter Try.func8, Try.ntmps8
        go_wp2_with (first | (go_at_call 21; go_must (refine (hOp.out _).mono ?_); go_must (rintro e w1 ⟨rfl, hc1⟩); go_must (replace hc1 := Aside0.mk hc1)) | (go_at_call 31; go_must (refine (hEf.out _).mono ?_); go_must (rintro e w2 ⟨rfl, hc2⟩); go_must (have hb2 := hc2.blk (heap_alloc_new w1 (.cells #[.int .i64 op, .int .i64 32] 35)) (fun h => h)); go_must (have x0 : w2.cell? ⟨w1.heap.size, 0, none⟩ = some (.int .i64 op) := blk_cell hb2 0); go_must (have x1 : w2.cell? ⟨w1.heap.size, 1, none⟩ = some (.int .i64 32) := blk_cell hb2 1); go_must (clear hb2); go_must (replace hc2 := Aside0.mk hc2)) | (go_at_call 33; go_must (refine (hCk.out _).mono ?_); go_must (rintro e w3 ⟨rfl, hc3⟩); go_must (replace hc3 := Aside0.mk hc3)) | (go_at_call 24; go_must (refine (hJ.out _).mono ?_); go_must (rintro e w4 ⟨rfl, rfl⟩)) | (go_at_call 22; go_must (refine (hE.out _).mono ?_); go_must (rintro e w5 ⟨rfl, rfl⟩)))
        go_ret
        refine ⟨by first | rfl | simp, ?_⟩
        have z := hc1.out
        refine Chg.below (S := fun _ => False) (Chg.trans (T := fun _ => False) (Chg.trans (T := fun _ => False) z (Chg.trans (T := fun _ => False) (b := _) ?_ hc2.out (fun _ _ h => h)) (fun _ _ h => h)) hc3.out (fun _ _ h => h)) (fun _ _ h => h)
        repeat (first | exact Chg.refl _ _ | apply Chg.drewN | apply Chg.alloc | (refine Chg.setCell ?_ (fun h => by simp at h) _))
      · obtain rfl : pt = 0 := hEk.out rfl
        go_enter Try.func8, Try.ntmps8
        go_wp2_with (first | (go_at_call 21; go_must (refine (hOp.out _).mono ?_); go_must (rintro e w1 ⟨rfl, hc1⟩); go_must (replace hc1 := Aside0.mk hc1)) | (go_at_call 31; go_must (refine (hEf.out _).mono ?_); go_must (rintro e w2 ⟨rfl, hc2⟩); go_must (have hb2 := hc2.blk (heap_alloc_new w1 (.cells #[.int .i64 op, .int .i64 32] 35)) (fun h => h)); go_must (have x0 : w2.cell? ⟨w1.heap.size, 0, none⟩ = some (.int .i64 op) := blk_cell hb2 0); go_must (have x1 : w2.cell? ⟨w1.heap.size, 1, none⟩ = some (.int .i64 32) := blk_cell hb2 1); go_must (clear hb2); go_must (replace hc2 := Aside0.mk hc2)) | (go_at_call 33; go_must (refine (hCk.out _).mono ?_); go_must (rintro e w3 ⟨rfl, hc3⟩); go_must (replace hc3 := Aside0.mk hc3)) | (go_at_call 24; go_must (refine (hJ.out _).mono ?_); go_must (rintro e w4 ⟨rfl, rfl⟩)) | (go_at_call 22; go_must (refine (hE.out _).mono ?_); go_must (rintro e w5 ⟨rfl, rfl⟩)))
        go_ret
        refine ⟨by first | rfl | simp, ?_⟩
        have z := hc1.out
        refine Chg.below (S := fun _ => False) (Chg.trans (T := fun _ => False) (Chg.trans (T := fun _ => False) z (Chg.trans (T := fun _ => False) (b := _) ?_ hc2.out (fun _ _ h => h)) (fun _ _ h => h)) hc3.out (fun _ _ h => h)) (fun _ _ h => h)
        repeat (first | exact Chg.refl _ _ | apply Chg.drewN | apply Chg.alloc | (refine Chg.setCell ?_ (fun h => by simp at h) _))
    have c7 : (kd == 7) = false := by simpa using k7
    by_cases k8 : kd = 8
    · subst k8
      obtain rfl : J = false := by cases J; rfl; exact absurd (hJk.1 rfl) (by decide)
      obtain ⟨hEf, hCk⟩ := hall 64 rfl (fun h => absurd (hm6 h) (by decide))
      replace hEf := Aside0.mk hEf
      replace hCk := Aside0.mk hCk
      clear hall hJk hm6 k7 c7
      cases E
      · go_enter Try.func8, Try.ntmps8
        go_wp2_with (first | (go_at_call 21; go_must (refine (hOp.out _).mono ?_); go_must (rintro e w1 ⟨rfl, hc1⟩); go_must (replace hc1 := Aside0.mk hc1)) | (go_at_call 31; go_must (refine (hEf.out _).mono ?_); go_must (rintro e w2 ⟨rfl, hc2⟩); go_must (have hb2 := hc2.blk (heap_alloc_new w1 (.cells #[.int .i64 op, .int .i64 64] 35)) (fun h => h)); go_must (have x0 : w2.cell? ⟨w1.heap.size, 0, none⟩ = some (.int .i64 op) := blk_cell hb2 0); go_must (have x1 : w2.cell? ⟨w1.heap.size, 1, none⟩ = some (.int .i64 64) := blk_cell hb2 1); go_must (clear hb2); go_must (replace hc2 := Aside0.mk hc2)) | (go_at_call 33; go_must (refine (hCk.out _).mono ?_); go_must (rintro e w3 ⟨rfl, hc3⟩); go_must (replace hc3 := Aside0.mk hc3)) | (go_at_call 24; go_must (refine (hJ.out _).mono ?_); go_must (rintro e w4 ⟨rfl, rfl⟩)) | (go_at_call 22; go_must (refine (hE.out _).mono ?_); go_must (rintro e w5 ⟨rfl, rfl⟩)))
        go_ret
        refine ⟨by first | rfl | simp, ?_⟩
        have z := hc1.out
        refine Chg.below (S := fun _ => False) (Chg.trans (T := fun _ => False) (Chg.trans (T := fun _ => False) z (Chg.trans (T := fun _ => False) (b := _) ?_ hc2.out (fun _ _ h => h)) (fun _ _ h => h)) hc3.out (fun _ _ h => h)) (fun _ _ h => h)
        repeat (first | exact Chg.refl _ _ | apply Chg.drewN | apply Chg.alloc | (refine Chg.setCell ?_ (fun h => by simp at h) _))
      · obtain rfl : pt = 0 := hEk.out rfl
        go_enter Try.func8, Try.ntmps8
        go_wp2_with (first | (go_at_call 21; go_must (refine (hOp.out _).mono ?_); go_must (rintro e w1 ⟨rfl, hc1⟩); go_must (replace hc1 := Aside0.mk hc1)) | (go_at_call 31; go_must (refine (hEf.out _).mono ?_); go_must (rintro e w2 ⟨rfl, hc2⟩); go_must (have hb2 := hc2.blk (heap_alloc_new w1 (.cells #[.int .i64 op, .int .i64 64] 35)) (fun h => h)); go_must (have x0 : w2.cell? ⟨w1.heap.size, 0, none⟩ = some (.int .i64 op) := blk_cell hb2 0); go_must (have x1 : w2.cell? ⟨w1.heap.size, 1, none⟩ = some (.int .i64 64) := blk_cell hb2 1); go_must (clear hb2); go_must (replace hc2 := Aside0.mk hc2)) | (go_at_call 33; go_must (refine (hCk.out _).mono ?_); go_must (rintro e w3 ⟨rfl, hc3⟩); go_must (replace hc3 := Aside0.mk hc3)) | (go_at_call 24; go_must (refine (hJ.out _).mono ?_); go_must (rintro e w4 ⟨rfl, rfl⟩)) | (go_at_call 22; go_must (refine (hE.out _).mono ?_); go_must (rintro e w5 ⟨rfl, rfl⟩)))
        go_ret
        refine ⟨by first | rfl | simp, ?_⟩
        have z := hc1.out
        refine Chg.below (S := fun _ => False) (Chg.trans (T := fun _ => False) (Chg.trans (T := fun _ => False) z (Chg.trans (T := fun _ => False) (b := _) ?_ hc2.out (fun _ _ h => h)) (fun _ _ h => h)) hc3.out (fun _ _ h => h)) (fun _ _ h => h)
        repeat (first | exact Chg.refl _ _ | apply Chg.drewN | apply Chg.alloc | (refine Chg.setCell ?_ (fun h => by simp at h) _))
    have c8 : (kd == 8) = false := by simpa using k8
    obtain ⟨hEf, hCk⟩ := hall 0 (by unfold rightP limP; rw [if_neg k7, if_neg k8]; split; rfl; simp; split; decide; split; decide; split; decide; split; decide; split <;> decide) (fun _ => rfl)
    replace hEf := Aside0.mk hEf
    replace hCk := Aside0.mk hCk
    clear hall hm6 k7 k8
    by_cases k2 : kd = 2
    · subst k2
      obtain rfl : J = true := hJk.2 rfl
      clear hJk c7 c8
      cases E
      · go_enter Try.func8, Try.ntmps8
        go_wp2_with (first | (go_at_call 21; go_must (refine (hOp.out _).mono ?_); go_must (rintro e w1 ⟨rfl, hc1⟩); go_must (replace hc1 := Aside0.mk hc1)) | (go_at_call 31; go_must (refine (hEf.out _).mono ?_); go_must (rintro e w2 ⟨rfl, hc2⟩); go_must (have hb2 := hc2.blk (heap_alloc_new w1 (.cells #[.int .i64 op, .int .i64 0] 35)) (fun h => h)); go_must (have x0 : w2.cell? ⟨w1.heap.size, 0, none⟩ = some (.int .i64 op) := blk_cell hb2 0); go_must (have x1 : w2.cell? ⟨w1.heap.size, 1, none⟩ = some (.int .i64 0) := blk_cell hb2 1); go_must (clear hb2); go_must (replace hc2 := Aside0.mk hc2)) | (go_at_call 33; go_must (refine (hCk.out _).mono ?_); go_must (rintro e w3 ⟨rfl, hc3⟩); go_must (replace hc3 := Aside0.mk hc3)) | (go_at_call 24; go_must (refine (hJ.out _).mono ?_); go_must (rintro e w4 ⟨rfl, rfl⟩)) | (go_at_call 22; go_must (refine (hE.out _).mono ?_); go_must (rintro e w5 ⟨rfl, rfl⟩)))
        go_ret
        refine ⟨by first | rfl | simp, ?_⟩
        have z := hc1.out
        refine Chg.below (S := fun _ => False) (Chg.trans (T := fun _ => False) (Chg.trans (T := fun _ => False) z (Chg.trans (T := fun _ => False) (b := _) ?_ hc2.out (fun _ _ h => h)) (fun _ _ h => h)) hc3.out (fun _ _ h => h)) (fun _ _ h => h)
        repeat (first | exact Chg.refl _ _ | apply Chg.drewN | apply Chg.alloc | (refine Chg.setCell ?_ (fun h => by simp at h) _))
      · obtain rfl : pt = 0 := hEk.out rfl
        go_enter Try.func8, Try.ntmps8
        go_wp2_with (first | (go_at_call 21; go_must (refine (hOp.out _).mono ?_); go_must (rintro e w1 ⟨rfl, hc1⟩); go_must (replace hc1 := Aside0.mk hc1)) | (go_at_call 31; go_must (refine (hEf.out _).mono ?_); go_must (rintro e w2 ⟨rfl, hc2⟩); go_must (have hb2 := hc2.blk (heap_alloc_new w1 (.cells #[.int .i64 op, .int .i64 0] 35)) (fun h => h)); go_must (have x0 : w2.cell? ⟨w1.heap.size, 0, none⟩ = some (.int .i64 op) := blk_cell hb2 0); go_must (have x1 : w2.cell? ⟨w1.heap.size, 1, none⟩ = some (.int .i64 0) := blk_cell hb2 1); go_must (clear hb2); go_must (replace hc2 := Aside0.mk hc2)) | (go_at_call 33; go_must (refine (hCk.out _).mono ?_); go_must (rintro e w3 ⟨rfl, hc3⟩); go_must (replace hc3 := Aside0.mk hc3)) | (go_at_call 24; go_must (refine (hJ.out _).mono ?_); go_must (rintro e w4 ⟨rfl, rfl⟩)) | (go_at_call 22; go_must (refine (hE.out _).mono ?_); go_must (rintro e w5 ⟨rfl, rfl⟩)))
        go_ret
        refine ⟨by first | rfl | simp, ?_⟩
        have z := hc1.out
        refine Chg.below (S := fun _ => False) (Chg.trans (T := fun _ => False) (Chg.trans (T := fun _ => False) z (Chg.trans (T := fun _ => False) (b := _) ?_ hc2.out (fun _ _ h => h)) (fun _ _ h => h)) hc3.out (fun _ _ h => h)) (fun _ _ h => h)
        repeat (first | exact Chg.refl _ _ | apply Chg.drewN | apply Chg.alloc | (refine Chg.setCell ?_ (fun h => by simp at h) _))
    have c2 : (kd == 2) = false := by simpa using k2
    obtain rfl : J = false := by cases J; rfl; exact absurd (hJk.1 rfl) k2
    clear hJk k2
    cases E
    · go_enter Try.func8, Try.ntmps8
      go_wp2_with (first | (go_at_call 21; go_must (refine (hOp.out _).mono ?_); go_must (rintro e w1 ⟨rfl, hc1⟩); go_must (replace hc1 := Aside0.mk hc1)) | (go_at_call 31; go_must (refine (hEf.out _).mono ?_); go_must (rintro e w2 ⟨rfl, hc2⟩); go_must (have hb2 := hc2.blk (heap_alloc_new w1 (.cells #[.int .i64 op, .int .i64 0] 35)) (fun h => h)); go_must (have x0 : w2.cell? ⟨w1.heap.size, 0, none⟩ = some (.int .i64 op) := blk_cell hb2 0); go_must (have x1 : w2.cell? ⟨w1.heap.size, 1, none⟩ = some (.int .i64 0) := blk_cell hb2 1); go_must (clear hb2); go_must (replace hc2 := Aside0.mk hc2)) | (go_at_call 33; go_must (refine (hCk.out _).mono ?_); go_must (rintro e w3 ⟨rfl, hc3⟩); go_must (replace hc3 := Aside0.mk hc3)) | (go_at_call 24; go_must (refine (hJ.out _).mono ?_); go_must (rintro e w4 ⟨rfl, rfl⟩)) | (go_at_call 22; go_must (refine (hE.out _).mono ?_); go_must (rintro e w5 ⟨rfl, rfl⟩)))
      go_ret
      refine ⟨by first | rfl | simp, ?_⟩
      have z := hc1.out
      refine Chg.below (S := fun _ => False) (Chg.trans (T := fun _ => False) (Chg.trans (T := fun _ => False) z (Chg.trans (T := fun _ => False) (b := _) ?_ hc2.out (fun _ _ h => h)) (fun _ _ h => h)) hc3.out (fun _ _ h => h)) (fun _ _ h => h)
      repeat (first | exact Chg.refl _ _ | apply Chg.drewN | apply Chg.alloc | (refine Chg.setCell ?_ (fun h => by simp at h) _))
    · obtain rfl : pt = 0 := hEk.out rfl
      go_enter Try.func8, Try.ntmps8
      go_wp2_with (first | (go_at_call 21; go_must (refine (hOp.out _).mono ?_); go_must (rintro e w1 ⟨rfl, hc1⟩); go_must (replace hc1 := Aside0.mk hc1)) | (go_at_call 31; go_must (refine (hEf.out _).mono ?_); go_must (rintro e w2 ⟨rfl, hc2⟩); go_must (have hb2 := hc2.blk (heap_alloc_new w1 (.cells #[.int .i64 op, .int .i64 0] 35)) (fun h => h)); go_must (have x0 : w2.cell? ⟨w1.heap.size, 0, none⟩ = some (.int .i64 op) := blk_cell hb2 0); go_must (have x1 : w2.cell? ⟨w1.heap.size, 1, none⟩ = some (.int .i64 0) := blk_cell hb2 1); go_must (clear hb2); go_must (replace hc2 := Aside0.mk hc2)) | (go_at_call 33; go_must (refine (hCk.out _).mono ?_); go_must (rintro e w3 ⟨rfl, hc3⟩); go_must (replace hc3 := Aside0.mk hc3)) | (go_at_call 24; go_must (refine (hJ.out _).mono ?_); go_must (rintro e w4 ⟨rfl, rfl⟩)) | (go_at_call 22; go_must (refine (hE.out _).mono ?_); go_must (rintro e w5 ⟨rfl, rfl⟩)))
      go_ret
      refine ⟨by first | rfl | simp, ?_⟩
      have z := hc1.out
      refine Chg.below (S := fun _ => False) (Chg.trans (T := fun _ => False) (Chg.trans (T := fun _ => False) z (Chg.trans (T := fun _ => False) (b := _) ?_ hc2.out (fun _ _ h => h)) (fun _ _ h => h)) hc3.out (fun _ _ h => h)) (fun _ _ h => h)
      repeat (first | exact Chg.refl _ _ | apply Chg.drewN | apply Chg.alloc | (refine Chg.setCell ?_ (fun h => by simp at h) _))
  · obtain ⟨e1, e2⟩ := rowP_not hin
    have hOp : Aside0 (∀ W, Calls Try.prog 21 #[.int .i64 op] W fun e w' => e = .returned (.tuple #[.int .i64 0, .bool false]) ∧ Chg (fun _ => False) W w') := ⟨fun W => by have := code_Operand W op; rw [e1, e2] at this; exact this⟩
    have hef : efP op 0 = false := by unfold efP; rw [e2]; rfl
    have hEf : Aside0 (∀ W, Calls Try.prog 31 #[.agg #[.int .i64 op, .int .i64 0]] W fun e w' => e = .returned (.tuple #[.int .i64 0, .int .i64 0, .bool false]) ∧ Chg (fun _ => False) W w') := ⟨fun W => by have := code_Effect W op 0; unfold tkP ptP at this; rw [hef] at this; exact this⟩
    have hCk : Aside0 (∀ W, Calls Try.prog 33 #[.agg #[.int .i64 op, .int .i64 0]] W fun e w' => e = .returned (.int .i64 7) ∧ Chg (fun _ => False) W w') := ⟨fun W => by have := code_Check W op 0; unfold chkP at this; rw [hef] at this; exact this⟩
    obtain hJ0 : (op == 40 || op == 41 || op == 42) = false := by simp; omega
    obtain hE0 : (op == 40 || op == 44 || op == 45) = false := by simp; omega
    rw [hJ0] at hJ
    rw [hE0] at hE
    clear hJ0 hE0 e1 e2 hef
    by_cases hneg : op < 0
    · have d0 : decide (0 ≤ op) = false := by simp; omega
      clear hin hneg
      go_enter Try.func8, Try.ntmps8
      go_wp2_with (first | (go_at_call 21; go_must (refine (hOp.out _).mono ?_); go_must (rintro e w1 ⟨rfl, hc1⟩); go_must (replace hc1 := Aside0.mk hc1)) | (go_at_call 31; go_must (refine (hEf.out _).mono ?_); go_must (rintro e w2 ⟨rfl, hc2⟩); go_must (have hb2 := hc2.blk (heap_alloc_new w1 (.cells #[.int .i64 op, .int .i64 0] 35)) (fun h => h)); go_must (have x0 : w2.cell? ⟨w1.heap.size, 0, none⟩ = some (.int .i64 op) := blk_cell hb2 0); go_must (have x1 : w2.cell? ⟨w1.heap.size, 1, none⟩ = some (.int .i64 0) := blk_cell hb2 1); go_must (clear hb2); go_must (replace hc2 := Aside0.mk hc2)) | (go_at_call 33; go_must (refine (hCk.out _).mono ?_); go_must (rintro e w3 ⟨rfl, hc3⟩); go_must (replace hc3 := Aside0.mk hc3)) | (go_at_call 24; go_must (refine (hJ.out _).mono ?_); go_must (rintro e w4 ⟨rfl, rfl⟩)) | (go_at_call 22; go_must (refine (hE.out _).mono ?_); go_must (rintro e w5 ⟨rfl, rfl⟩)))
      go_ret
      refine ⟨by first | rfl | simp, ?_⟩
      have z := hc1.out
      refine Chg.below (S := fun _ => False) (Chg.trans (T := fun _ => False) (Chg.trans (T := fun _ => False) z (Chg.trans (T := fun _ => False) (b := _) ?_ hc2.out (fun _ _ h => h)) (fun _ _ h => h)) hc3.out (fun _ _ h => h)) (fun _ _ h => h)
      repeat (first | exact Chg.refl _ _ | apply Chg.drewN | apply Chg.alloc | (refine Chg.setCell ?_ (fun h => by simp at h) _))
    · have d0 : decide (0 ≤ op) = true := by simp; omega
      have d1 : decide (op < 67) = false := by simp; omega
      clear hin hneg
      go_enter Try.func8, Try.ntmps8
      go_wp2_with (first | (go_at_call 21; go_must (refine (hOp.out _).mono ?_); go_must (rintro e w1 ⟨rfl, hc1⟩); go_must (replace hc1 := Aside0.mk hc1)) | (go_at_call 31; go_must (refine (hEf.out _).mono ?_); go_must (rintro e w2 ⟨rfl, hc2⟩); go_must (have hb2 := hc2.blk (heap_alloc_new w1 (.cells #[.int .i64 op, .int .i64 0] 35)) (fun h => h)); go_must (have x0 : w2.cell? ⟨w1.heap.size, 0, none⟩ = some (.int .i64 op) := blk_cell hb2 0); go_must (have x1 : w2.cell? ⟨w1.heap.size, 1, none⟩ = some (.int .i64 0) := blk_cell hb2 1); go_must (clear hb2); go_must (replace hc2 := Aside0.mk hc2)) | (go_at_call 33; go_must (refine (hCk.out _).mono ?_); go_must (rintro e w3 ⟨rfl, hc3⟩); go_must (replace hc3 := Aside0.mk hc3)) | (go_at_call 24; go_must (refine (hJ.out _).mono ?_); go_must (rintro e w4 ⟨rfl, rfl⟩)) | (go_at_call 22; go_must (refine (hE.out _).mono ?_); go_must (rintro e w5 ⟨rfl, rfl⟩)))
      go_ret
      refine ⟨by first | rfl | simp, ?_⟩
      have z := hc1.out
      refine Chg.below (S := fun _ => False) (Chg.trans (T := fun _ => False) (Chg.trans (T := fun _ => False) z (Chg.trans (T := fun _ => False) (b := _) ?_ hc2.out (fun _ _ h => h)) (fun _ _ h => h)) hc3.out (fun _ _ h => h)) (fun _ _ h => h)
      repeat (first | exact Chg.refl _ _ | apply Chg.drewN | apply Chg.alloc | (refine Chg.setCell ?_ (fun h => by simp at h) _))

end Go.Proofs.Ythmghcjkmmhgnaa.K
