import Derived.Test.YtgaackedappmgaaDoorCi
import Derived.BigQuiet
import Derived.IntWalk
import Derived.Deep.RegionWith
namespace Go.Proofs.YtgaackedappmgaaDoor.K
open Go.RowKit Go.Proofs.YtgaackedappmgaaDoorW.PrintWords Go.Proofs.YtgaackedappmgaaDoorW.PrintLast Go.Proofs.YtgaackedappmgaaDoorW.PrintMore
set_option linter.unusedVariables false
set_option linter.unusedSimpArgs false
set_option maxRecDepth 100000
def chkP (op a : Int) : Int := if efP op a = true then 0 else 7
theorem code_Check (w : World) (op a : Int) : Calls Tryd.prog 60 #[.agg #[.int .i64 op, .int .i64 a]] w fun e w' => e = .returned (.int .i64 (chkP op a)) ∧ Chg (fun _ => False) w w' := by
  have hcall : Aside0 (∀ W, Calls Tryd.prog 64 #[.agg #[.int .i64 op, .int .i64 a]] W fun e w' => e = .returned (.tuple #[.int .i64 (tkP op a), .int .i64 (ptP op a), .bool (efP op a)]) ∧ Chg (fun _ => False) W w') := ⟨fun W => code_Effect W op a⟩
  have hE : Aside0 (chkP op a = if efP op a = true then 0 else 7) := ⟨rfl⟩
  have hc0 := Aside0.mk ((Chg.refl (fun _ => False) w).alloc (.cells #[.int .i64 op, .int .i64 a] 50))
  generalize chkP op a = cp at hE ⊢
  generalize tkP op a = tk at hcall
  generalize ptP op a = pt at hcall
  generalize efP op a = ef at hcall hE
  cases ef
  · go_enter Tryd.func60, Tryd.ntmps60
    go_wp2_with (go_at_call 64; go_must (refine (hcall.out _).mono ?_); go_must (rintro e w1 ⟨rfl, hc1⟩); go_must (replace hc1 := Aside0.mk hc1))
    go_ret
    exact ⟨by rw [hE.out]; rfl, hc0.out.trans hc1.out (fun _ _ h => h)⟩
  · go_enter Tryd.func60, Tryd.ntmps60
    go_wp2_with (go_at_call 64; go_must (refine (hcall.out _).mono ?_); go_must (rintro e w1 ⟨rfl, hc1⟩); go_must (replace hc1 := Aside0.mk hc1))
    go_ret
    exact ⟨by rw [hE.out]; rfl, hc0.out.trans hc1.out (fun _ _ h => h)⟩
theorem ref_right (w : World) (kind a : Int) (b0 : 0 ≤ kind) (b1 : kind ≤ 8) : Calls Tryd.prog 48 #[.int .i64 kind, .int .i64 a] w fun e w' => e = .returned (.bool (rightP kind a)) ∧ w' = w := by
  by_cases k1 : kind = 1
  · subst k1
    have hE : Aside0 (rightP 1 a = true) := ⟨rfl⟩
    go_enter Tryd.func48, Tryd.ntmps48
    go_wp2
    go_ret
    exact ⟨by first | rfl | (rw [hE.out]; rfl), rfl⟩
  by_cases k2 : kind = 2
  · subst k2
    by_cases h0 : 0 ≤ a
    · by_cases h1 : a < 2000
      · have hE : Aside0 (rightP 2 a = true) := ⟨by unfold rightP; simp [limP]; omega⟩
        have d0 : decide (0 ≤ a) = true := by simpa using h0
        have d1 : decide (a < 2000) = true := by simpa using h1
        go_enter Tryd.func48, Tryd.ntmps48
        go_wp2
        go_ret
        exact ⟨by first | rfl | (rw [hE.out]; rfl), rfl⟩
      · have hE : Aside0 (rightP 2 a = false) := ⟨by unfold rightP; simp [limP]; omega⟩
        have d0 : decide (0 ≤ a) = true := by simpa using h0
        have d1 : decide (a < 2000) = false := by simpa using h1
        go_enter Tryd.func48, Tryd.ntmps48
        go_wp2
        go_ret
        exact ⟨by first | rfl | (rw [hE.out]; rfl), rfl⟩
    · have hE : Aside0 (rightP 2 a = false) := ⟨by unfold rightP; simp [limP]; omega⟩
      have d0 : decide (0 ≤ a) = false := by simpa using h0
      go_enter Tryd.func48, Tryd.ntmps48
      go_wp2
      go_ret
      exact ⟨by first | rfl | (rw [hE.out]; rfl), rfl⟩
  by_cases k3 : kind = 3
  · subst k3
    by_cases h0 : 0 ≤ a
    · by_cases h1 : a < 64
      · have hE : Aside0 (rightP 3 a = true) := ⟨by unfold rightP; simp [limP]; omega⟩
        have d0 : decide (0 ≤ a) = true := by simpa using h0
        have d1 : decide (a < 64) = true := by simpa using h1
        go_enter Tryd.func48, Tryd.ntmps48
        go_wp2
        go_ret
        exact ⟨by first | rfl | (rw [hE.out]; rfl), rfl⟩
      · have hE : Aside0 (rightP 3 a = false) := ⟨by unfold rightP; simp [limP]; omega⟩
        have d0 : decide (0 ≤ a) = true := by simpa using h0
        have d1 : decide (a < 64) = false := by simpa using h1
        go_enter Tryd.func48, Tryd.ntmps48
        go_wp2
        go_ret
        exact ⟨by first | rfl | (rw [hE.out]; rfl), rfl⟩
    · have hE : Aside0 (rightP 3 a = false) := ⟨by unfold rightP; simp [limP]; omega⟩
      have d0 : decide (0 ≤ a) = false := by simpa using h0
      go_enter Tryd.func48, Tryd.ntmps48
      go_wp2
      go_ret
      exact ⟨by first | rfl | (rw [hE.out]; rfl), rfl⟩
  by_cases k4 : kind = 4
  · subst k4
    by_cases h0 : 0 ≤ a
    · by_cases h1 : a < 512
      · have hE : Aside0 (rightP 4 a = true) := ⟨by unfold rightP; simp [limP]; omega⟩
        have d0 : decide (0 ≤ a) = true := by simpa using h0
        have d1 : decide (a < 512) = true := by simpa using h1
        go_enter Tryd.func48, Tryd.ntmps48
        go_wp2
        go_ret
        exact ⟨by first | rfl | (rw [hE.out]; rfl), rfl⟩
      · have hE : Aside0 (rightP 4 a = false) := ⟨by unfold rightP; simp [limP]; omega⟩
        have d0 : decide (0 ≤ a) = true := by simpa using h0
        have d1 : decide (a < 512) = false := by simpa using h1
        go_enter Tryd.func48, Tryd.ntmps48
        go_wp2
        go_ret
        exact ⟨by first | rfl | (rw [hE.out]; rfl), rfl⟩
    · have hE : Aside0 (rightP 4 a = false) := ⟨by unfold rightP; simp [limP]; omega⟩
      have d0 : decide (0 ≤ a) = false := by simpa using h0
      go_enter Tryd.func48, Tryd.ntmps48
      go_wp2
      go_ret
      exact ⟨by first | rfl | (rw [hE.out]; rfl), rfl⟩
  by_cases k5 : kind = 5
  · subst k5
    by_cases h0 : 0 ≤ a
    · by_cases h1 : a < 128
      · have hE : Aside0 (rightP 5 a = true) := ⟨by unfold rightP; simp [limP]; omega⟩
        have d0 : decide (0 ≤ a) = true := by simpa using h0
        have d1 : decide (a < 128) = true := by simpa using h1
        go_enter Tryd.func48, Tryd.ntmps48
        go_wp2
        go_ret
        exact ⟨by first | rfl | (rw [hE.out]; rfl), rfl⟩
      · have hE : Aside0 (rightP 5 a = false) := ⟨by unfold rightP; simp [limP]; omega⟩
        have d0 : decide (0 ≤ a) = true := by simpa using h0
        have d1 : decide (a < 128) = false := by simpa using h1
        go_enter Tryd.func48, Tryd.ntmps48
        go_wp2
        go_ret
        exact ⟨by first | rfl | (rw [hE.out]; rfl), rfl⟩
    · have hE : Aside0 (rightP 5 a = false) := ⟨by unfold rightP; simp [limP]; omega⟩
      have d0 : decide (0 ≤ a) = false := by simpa using h0
      go_enter Tryd.func48, Tryd.ntmps48
      go_wp2
      go_ret
      exact ⟨by first | rfl | (rw [hE.out]; rfl), rfl⟩
  by_cases k6 : kind = 6
  · subst k6
    by_cases h0 : 0 ≤ a
    · by_cases h1 : a < 64
      · have hE : Aside0 (rightP 6 a = true) := ⟨by unfold rightP; simp [limP]; omega⟩
        have d0 : decide (0 ≤ a) = true := by simpa using h0
        have d1 : decide (a < 64) = true := by simpa using h1
        go_enter Tryd.func48, Tryd.ntmps48
        go_wp2
        go_ret
        exact ⟨by first | rfl | (rw [hE.out]; rfl), rfl⟩
      · have hE : Aside0 (rightP 6 a = false) := ⟨by unfold rightP; simp [limP]; omega⟩
        have d0 : decide (0 ≤ a) = true := by simpa using h0
        have d1 : decide (a < 64) = false := by simpa using h1
        go_enter Tryd.func48, Tryd.ntmps48
        go_wp2
        go_ret
        exact ⟨by first | rfl | (rw [hE.out]; rfl), rfl⟩
    · have hE : Aside0 (rightP 6 a = false) := ⟨by unfold rightP; simp [limP]; omega⟩
      have d0 : decide (0 ≤ a) = false := by simpa using h0
      go_enter Tryd.func48, Tryd.ntmps48
      go_wp2
      go_ret
      exact ⟨by first | rfl | (rw [hE.out]; rfl), rfl⟩
  by_cases k7 : kind = 7
  · subst k7
    by_cases h0 : a = 8
    · subst h0
      have hE : Aside0 (rightP 7 8 = true) := ⟨rfl⟩
      go_enter Tryd.func48, Tryd.ntmps48
      go_wp2
      go_ret
      exact ⟨by first | rfl | (rw [hE.out]; rfl), rfl⟩
    have d0 : (a == 8) = false := by simpa using h0
    by_cases h1 : a = 16
    · subst h1
      have hE : Aside0 (rightP 7 16 = true) := ⟨rfl⟩
      go_enter Tryd.func48, Tryd.ntmps48
      go_wp2
      go_ret
      exact ⟨by first | rfl | (rw [hE.out]; rfl), rfl⟩
    have d1 : (a == 16) = false := by simpa using h1
    by_cases h2 : a = 32
    · subst h2
      have hE : Aside0 (rightP 7 32 = true) := ⟨rfl⟩
      go_enter Tryd.func48, Tryd.ntmps48
      go_wp2
      go_ret
      exact ⟨by first | rfl | (rw [hE.out]; rfl), rfl⟩
    have d2 : (a == 32) = false := by simpa using h2
    have hE : Aside0 (rightP 7 a = false) := ⟨by unfold rightP; simp [h0, h1, h2]⟩
    go_enter Tryd.func48, Tryd.ntmps48
    go_wp2
    go_ret
    exact ⟨by first | rfl | (rw [hE.out]; rfl), rfl⟩
  by_cases k8 : kind = 8
  · subst k8
    by_cases h0 : 1 ≤ a
    · by_cases h1 : a ≤ 64
      · have hE : Aside0 (rightP 8 a = true) := ⟨by unfold rightP; simp [limP]; omega⟩
        have d0 : decide (1 ≤ a) = true := by simpa using h0
        have d1 : decide (a ≤ 64) = true := by simpa using h1
        go_enter Tryd.func48, Tryd.ntmps48
        go_wp2
        go_ret
        exact ⟨by first | rfl | (rw [hE.out]; rfl), rfl⟩
      · have hE : Aside0 (rightP 8 a = false) := ⟨by unfold rightP; simp [limP]; omega⟩
        have d0 : decide (1 ≤ a) = true := by simpa using h0
        have d1 : decide (a ≤ 64) = false := by simpa using h1
        go_enter Tryd.func48, Tryd.ntmps48
        go_wp2
        go_ret
        exact ⟨by first | rfl | (rw [hE.out]; rfl), rfl⟩
    · have hE : Aside0 (rightP 8 a = false) := ⟨by unfold rightP; simp [limP]; omega⟩
      have d0 : decide (1 ≤ a) = false := by simpa using h0
      go_enter Tryd.func48, Tryd.ntmps48
      go_wp2
      go_ret
      exact ⟨by first | rfl | (rw [hE.out]; rfl), rfl⟩
  obtain rfl : kind = 0 := by omega
  clear k1 k2 k3 k4 k5 k6 k7 k8
  by_cases h0 : a = 0
  · subst h0
    have hE : Aside0 (rightP 0 0 = true) := ⟨rfl⟩
    go_enter Tryd.func48, Tryd.ntmps48
    go_wp2
    go_ret
    exact ⟨by first | rfl | (rw [hE.out]; rfl), rfl⟩
  have d0 : (a == 0) = false := by simpa using h0
  have hE : Aside0 (rightP 0 a = false) := ⟨by unfold rightP; simp [limP]; omega⟩
  go_enter Tryd.func48, Tryd.ntmps48
  go_wp2
  go_ret
  exact ⟨by first | rfl | (rw [hE.out]; rfl), rfl⟩
theorem ref_Check (w : World) (op a : Int) : Calls Tryd.prog 37 #[.agg #[.int .i64 op, .int .i64 a]] w fun e w' => e = .returned (.int .i64 (chkP op a)) ∧ Chg (fun _ => False) w w' := by
  obtain ⟨b0, b1, _, _, _, _⟩ := rowP_bounds op
  have hop : Aside0 (∀ W, Calls Tryd.prog 47 #[.int .i64 op] W _) := ⟨fun W => ref_Operand W op⟩
  have hri : Aside0 (∀ W, Calls Tryd.prog 48 #[.int .i64 (rowP op).kind, .int .i64 a] W _) := ⟨fun W => ref_right W (rowP op).kind a b0 b1⟩
  have hE : Aside0 (chkP op a = if (okP op && rightP (rowP op).kind a) = true then 0 else 7) := ⟨rfl⟩
  have hc0 := Aside0.mk ((Chg.refl (fun _ => False) w).alloc (.cells #[.int .i64 op, .int .i64 a] 50))
  generalize rightP (rowP op).kind a = R at hri hE
  generalize (rowP op).kind = kd at hop hri
  clear b0 b1
  generalize chkP op a = cp at hE ⊢
  generalize okP op = ok at hop hE
  cases ok
  · go_enter Tryd.func37, Tryd.ntmps37
    go_wp2_with (first | (go_at_call 47; go_must (refine (hop.out _).mono ?_); go_must (rintro e w1 ⟨rfl, rfl⟩)) | (go_at_call 48; go_must (refine (hri.out _).mono ?_); go_must (rintro e w2 ⟨rfl, rfl⟩)))
    go_ret
    exact ⟨by rw [hE.out]; rfl, hc0.out⟩
  · cases R
    · go_enter Tryd.func37, Tryd.ntmps37
      go_wp2_with (first | (go_at_call 47; go_must (refine (hop.out _).mono ?_); go_must (rintro e w1 ⟨rfl, rfl⟩)) | (go_at_call 48; go_must (refine (hri.out _).mono ?_); go_must (rintro e w2 ⟨rfl, rfl⟩)))
      go_ret
      exact ⟨by rw [hE.out]; rfl, hc0.out⟩
    · go_enter Tryd.func37, Tryd.ntmps37
      go_wp2_with (first | (go_at_call 47; go_must (refine (hop.out _).mono ?_); go_must (rintro e w1 ⟨rfl, rfl⟩)) | (go_at_call 48; go_must (refine (hri.out _).mono ?_); go_must (rintro e w2 ⟨rfl, rfl⟩)))
      go_ret
      exact ⟨by rw [hE.out]; rfl, hc0.out⟩
