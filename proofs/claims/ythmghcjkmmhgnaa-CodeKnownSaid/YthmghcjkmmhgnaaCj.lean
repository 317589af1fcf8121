import Derived.Test.YthmghcjkmmhgnaaCi
import Derived.BigQuiet
import Derived.IntWalk
import Derived.Deep.RegionWith
namespace Go.Proofs.Ythmghcjkmmhgnaa.K
open Go.RowKit Go.Proofs.YthmghcjkmmhgnaaW.PrintWords Go.Proofs.YthmghcjkmmhgnaaW.PrintLast Go.Proofs.YthmghcjkmmhgnaaW.PrintMore
set_option linter.unusedVariables false
set_option linter.unusedSimpArgs false
set_option maxRecDepth 100000

def chkP (op a : Int) : Int := if efP op a = true then 0 else 7
theorem code_Check (w : World) (op a : Int) : Calls Try.prog 33 #[.agg #[.int .i64 op, .int .i64 a]] w fun e w' => e = .returned (.int .i64 (chkP op a)) ∧ Chg (fun _ => False) w w' := by
  have hcall : Aside0 (∀ W, Calls Try.prog 31 #[.agg #[.int .i64 op, .int .i64 a]] W fun e w' => e = .returned (.tuple #[.int .i64 (tkP op a), .int .i64 (ptP op a), .bool (efP op a)]) ∧ Chg (fun _ => False) W w') := ⟨fun W => code_Effect W op a⟩
  have hE : Aside0 (chkP op a = if efP op a = true then 0 else 7) := ⟨rfl⟩
  have hc0 := Aside0.mk ((Chg.refl (fun _ => False) w).alloc (.cells #[.int .i64 op, .int .i64 a] 35))
  generalize chkP op a = cp at hE ⊢
  generalize tkP op a = tk at hcall
  generalize ptP op a = pt at hcall
  generalize efP op a = ef at hcall hE
  cases ef
  · go_enter Try.func33, Try.ntmps33
    go_wp2_with (go_at_call 31; go_must (refine (hcall.out _).mono ?_); go_must (rintro e w1 ⟨rfl, hc1⟩); go_must (replace hc1 := Aside0.mk hc1))
    go_ret
    exact ⟨by rw [hE.out]; rfl, hc0.out.trans hc1.out (fun _ _ h => h)⟩
  · go_enter Try.func33, Try.ntmps33
    go_wp2_with (go_at_call 31; go_must (refine (hcall.out _).mono ?_); go_must (rintro e w1 ⟨rfl, hc1⟩); go_must (replace hc1 := Aside0.mk hc1))
    go_ret
    exact ⟨by rw [hE.out]; rfl, hc0.out.trans hc1.out (fun _ _ h => h)⟩

theorem ref_right (w : World) (kind a : Int) (b0 : 0 ≤ kind) (b1 : kind ≤ 8) : Calls Try.prog 52 #[.int .i64 kind, .int .i64 a] w fun e w' => e = .returned (.bool (rightP kind a)) ∧ w' = w := by
  by_cases k1 : kind = 1
  · subst k1
    have hE : Aside0 (rightP 1 a = true) := ⟨rfl⟩
    go_enter Try.func52, Try.ntmps52
    go_wp2
    go_ret
    exact ⟨by first | rfl | (rw [hE.out]; rfl), rfl⟩
  by_cases k2 : kind = 2
  · subst k2
    by_cases h0 : 0 ≤ a
    · by_cases h1 : a < 2000
      · have hE : Aside0 (rightP 2 a = true) := ⟨by unfold rightP; simp [limP]; omega⟩
        have d0 : decide (0 ≤ a) = true := by simpa using h0
        have d1 : decide (a < 2000) = true := by simpa using h1
        go_enter Try.func52, Try.ntmps52
        go_wp2
        go_ret
        exact ⟨by first | rfl | (rw [hE.out]; rfl), rfl⟩
      · have hE : Aside0 (rightP 2 a = false) := ⟨by unfold rightP; simp [limP]; omega⟩
        have d0 : decide (0 ≤ a) = true := by simpa using h0
        have d1 : decide (a < 2000) = false := by simpa using h1
        go_enter Try.func52, Try.ntmps52
        go_wp2
        go_ret
        exact ⟨by first | rfl | (rw [hE.out]; rfl), rfl⟩
    · have hE : Aside0 (rightP 2 a = false) := ⟨by unfold rightP; simp [limP]; omega⟩
      have d0 : decide (0 ≤ a) = false := by simpa using h0
      go_enter Try.func52, Try.ntmps52
      go_wp2
      go_ret
      exact ⟨by first | rfl | (rw [hE.out]; rfl), rfl⟩
  by_cases k3 : kind = 3
  · subst k3
    by_cases h0 : 0 ≤ a
    · by_cases h1 : a < 64
      · have hE : Aside0 (rightP 3 a = true) := ⟨by unfold rightP; simp [limP]; omega⟩
        have d0 : decide (0 ≤ a) = true := by simpa using h0
        have d1 : decide (a < 64) = true := by simpa using h1
        go_enter Try.func52, Try.ntmps52
        go_wp2
        go_ret
        exact ⟨by first | rfl | (rw [hE.out]; rfl), rfl⟩
      · have hE : Aside0 (rightP 3 a = false) := ⟨by unfold rightP; simp [limP]; omega⟩
        have d0 : decide (0 ≤ a) = true := by simpa using h0
        have d1 : decide (a < 64) = false := by simpa using h1
        go_enter Try.func52, Try.ntmps52
        go_wp2
        go_ret
        exact ⟨by first | rfl | (rw [hE.out]; rfl), rfl⟩
    · have hE : Aside0 (rightP 3 a = false) := ⟨by unfold rightP; simp [limP]; omega⟩
      have d0 : decide (0 ≤ a) = false := by simpa using h0
      go_enter Try.func52, Try.ntmps52
      go_wp2
      go_ret
      exact ⟨by first | rfl | (rw [hE.out]; rfl), rfl⟩
  by_cases k4 : kind = 4
  · subst k4
    by_cases h0 : 0 ≤ a
    · by_cases h1 : a < 512
      · have hE : Aside0 (rightP 4 a = true) := ⟨by unfold rightP; simp [limP]; omega⟩
        have d0 : decide (0 ≤ a) = true := by simpa using h0
        have d1 : decide (a < 512) = true := by simpa using h1
        go_enter Try.func52, Try.ntmps52
        go_wp2
        go_ret
        exact ⟨by first | rfl | (rw [hE.out]; rfl), rfl⟩
      · have hE : Aside0 (rightP 4 a = false) := ⟨by unfold rightP; simp [limP]; omega⟩
        have d0 : decide (0 ≤ a) = true := by simpa using h0
        have d1 : decide (a < 512) = false := by simpa using h1
        go_enter Try.func52, Try.ntmps52
        go_wp2
        go_ret
        exact ⟨by first | rfl | (rw [hE.out]; rfl), rfl⟩
    · have hE : Aside0 (rightP 4 a = false) := ⟨by unfold rightP; simp [limP]; omega⟩
      have d0 : decide (0 ≤ a) = false := by simpa using h0
      go_enter Try.func52, Try.ntmps52
      go_wp2
      go_ret
      exact ⟨by first | rfl | (rw [hE.out]; rfl), rfl⟩
  by_cases k5 : kind = 5
  · subst k5
    by_cases h0 : 0 ≤ a
    · by_cases h1 : a < 128
      · have hE : Aside0 (rightP 5 a = true) := ⟨by unfold rightP; simp [limP]; omega⟩
        have d0 : decide (0 ≤ a) = true := by simpa using h0
        have d1 : decide (a < 128) = true := by simpa using h1
        go_enter Try.func52, Try.ntmps52
        go_wp2
        go_ret
        exact ⟨by first | rfl | (rw [hE.out]; rfl), rfl⟩
      · have hE : Aside0 (rightP 5 a = false) := ⟨by unfold rightP; simp [limP]; omega⟩
        have d0 : decide (0 ≤ a) = true := by simpa using h0
        have d1 : decide (a < 128) = false := by simpa using h1
        go_enter Try.func52, Try.ntmps52
        go_wp2
        go_ret
        exact ⟨by first | rfl | (rw [hE.out]; rfl), rfl⟩
    · have hE : Aside0 (rightP 5 a = false) := ⟨by unfold rightP; simp [limP]; omega⟩
      have d0 : decide (0 ≤ a) = false := by simpa using h0
      go_enter Try.func52, Try.ntmps52
      go_wp2
      go_ret
      exact ⟨by first | rfl | (rw [hE.out]; rfl), rfl⟩
  by_cases k6 : kind = 6
  · subst k6
    by_cases h0 : 0 ≤ a
    · by_cases h1 : a < 64
      · have hE : Aside0 (rightP 6 a = true) := ⟨by unfold rightP; simp [limP]; omega⟩
        have d0 : decide (0 ≤ a) = true := by simpa using h0
        have d1 : decide (a < 64) = true := by simpa using h1
        go_enter Try.func52, Try.ntmps52
        go_wp2
        go_ret
        exact ⟨by first | rfl | (rw [hE.out]; rfl), rfl⟩
      · have hE : Aside0 (rightP 6 a = false) := ⟨by unfold rightP; simp [limP]; omega⟩
        have d0 : decide (0 ≤ a) = true := by simpa using h0
        have d1 : decide (a < 64) = false := by simpa using h1
        go_enter Try.func52, Try.ntmps52
        go_wp2
        go_ret
        exact ⟨by first | rfl | (rw [hE.out]; rfl), rfl⟩
    · have hE : Aside0 (rightP 6 a = false) := ⟨by unfold rightP; simp [limP]; omega⟩
      have d0 : decide (0 ≤ a) = false := by simpa using h0
      go_enter Try.func52, Try.ntmps52
      go_wp2
      go_ret
      exact ⟨by first | rfl | (rw [hE.out]; rfl), rfl⟩
  by_cases k7 : kind = 7
  · subst k7
    by_cases h0 : a = 8
    · subst h0
      have hE : Aside0 (rightP 7 8 = true) := ⟨rfl⟩
      go_enter Try.func52, Try.ntmps52
      go_wp2
      go_ret
      exact ⟨by first | rfl | (rw [hE.out]; rfl), rfl⟩
    have d0 : (a == 8) = false := by simpa using h0
    by_cases h1 : a = 16
    · subst h1
      have hE : Aside0 (rightP 7 16 = true) := ⟨rfl⟩
      go_enter Try.func52, Try.ntmps52
      go_wp2
      go_ret
      exact ⟨by first | rfl | (rw [hE.out]; rfl), rfl⟩
    have d1 : (a == 16) = false := by simpa using h1
    by_cases h2 : a = 32
    · subst h2
      have hE : Aside0 (rightP 7 32 = true) := ⟨rfl⟩
      go_enter Try.func52, Try.ntmps52
      go_wp2
      go_ret
      exact ⟨by first | rfl | (rw [hE.out]; rfl), rfl⟩
    have d2 : (a == 32) = false := by simpa using h2
    have hE : Aside0 (rightP 7 a = false) := ⟨by unfold rightP; simp [h0, h1, h2]⟩
    go_enter Try.func52, Try.ntmps52
    go_wp2
    go_ret
    exact ⟨by first | rfl | (rw [hE.out]; rfl), rfl⟩
  by_cases k8 : kind = 8
  · subst k8
    by_cases h0 : 1 ≤ a
    · by_cases h1 : a ≤ 64
      · have hE : Aside0 (rightP 8 a = true) := ⟨by unfold rightP; simp [limP]; omega⟩
        have d0 : decide (1 ≤ a) = true := by simpa using h0
        have d1 : decide (a ≤ 64) = true := by simpa using h1
        go_enter Try.func52, Try.ntmps52
        go_wp2
        go_ret
        exact ⟨by first | rfl | (rw [hE.out]; rfl), rfl⟩
      · have hE : Aside0 (rightP 8 a = false) := ⟨by unfold rightP; simp [limP]; omega⟩
        have d0 : decide (1 ≤ a) = true := by simpa using h0
        have d1 : decide (a ≤ 64) = false := by simpa using h1
        go_enter Try.func52, Try.ntmps52
        go_wp2
        go_ret
        exact ⟨by first | rfl | (rw [hE.out]; rfl), rfl⟩
    · have hE : Aside0 (rightP 8 a = false) := ⟨by unfold rightP; simp [limP]; omega⟩
      have d0 : decide (1 ≤ a) = false := by simpa using h0
      go_enter Try.func52, Try.ntmps52
      go_wp2
      go_ret
      exact ⟨by first | rfl | (rw [hE.out]; rfl), rfl⟩
  obtain rfl : kind = 0 := by omega
  clear k1 k2 k3 k4 k5 k6 k7 k8
  by_cases h0 : a = 0
  · subst h0
    have hE : Aside0 (rightP 0 0 = true) := ⟨rfl⟩
    go_enter Try.func52, Try.ntmps52
    go_wp2
    go_ret
    exact ⟨by first | rfl | (rw [hE.out]; rfl), rfl⟩
  have d0 : (a == 0) = false := by simpa using h0
  have hE : Aside0 (rightP 0 a = false) := ⟨by unfold rightP; simp [limP]; omega⟩
  go_enter Try.func52, Try.ntmps52
  go_wp2
  go_ret
  exact ⟨by first | rfl | (rw [hE.out]; rfl), rfl⟩

theorem ref_Check (w : World) (op a : Int) : Calls Try.prog 34 #[.agg #[.int .i64 op, .int .i64 a]] w fun e w' => e = .returned (.int .i64 (chkP op a)) ∧ Chg (fun _ => False) w w' := by
  obtain ⟨b0, b1, _, _, _, _⟩ := rowP_bounds op
  have hop : Aside0 (∀ W, Calls Try.prog 20 #[.int .i64 op] W _) := ⟨fun W => ref_Operand W op⟩
  have hri : Aside0 (∀ W, Calls Try.prog 52 #[.int .i64 (rowP op).kind, .int .i64 a] W _) := ⟨fun W => ref_right W (rowP op).kind a b0 b1⟩
  have hE : Aside0 (chkP op a = if (okP op && rightP (rowP op).kind a) = true then 0 else 7) := ⟨rfl⟩
  have hc0 := Aside0.mk ((Chg.refl (fun _ => False) w).alloc (.cells #[.int .i64 op, .int .i64 a] 35))
  generalize rightP (rowP op).kind a = R at hri hE
  generalize (rowP op).kind = kd at hop hri
  clear b0 b1
  generalize chkP op a = cp at hE ⊢
  generalize okP op = ok at hop hE
  cases ok
  · go_enter Try.func34, Try.ntmps34
    go_wp2_with (first | (go_at_call 20; go_must (refine (hop.out _).mono ?_); go_must (rintro e w1 ⟨rfl, rfl⟩)) | (go_at_call 52; go_must (refine (hri.out _).mono ?_); go_must (rintro e w2 ⟨rfl, rfl⟩)))
    go_ret
    exact ⟨by rw [hE.out]; rfl, hc0.out⟩
  · cases R
    · go_enter Try.func34, Try.ntmps34
      go_wp2_with (first | (go_at_call 20; go_must (refine (hop.out _).mono ?_); go_must (rintro e w1 ⟨rfl, rfl⟩)) | (go_at_call 52; go_must (refine (hri.out _).mono ?_); go_must (rintro e w2 ⟨rfl, rfl⟩)))
      go_ret
      exact ⟨by rw [hE.out]; rfl, hc0.out⟩
    · go_enter Try.func34, Try.ntmps34
      go_wp2_with (first | (go_at_call 20; go_must (refine (hop.out _).mono ?_); go_must (rintro e w1 ⟨rfl, rfl⟩)) | (go_at_call 52; go_must (refine (hri.out _).mono ?_); go_must (rintro e w2 ⟨rfl, rfl⟩)))
      go_ret
      exact ⟨by rw [hE.out]; rfl, hc0.out⟩

def numP (c a : Int) : Int := if c = 110 then a else if c = 109 then a + 1 else c - 48
theorem ref_num7 (w : World) (c a : Int) (h0 : 48 ≤ c) (h1 : c ≤ 110) (a0 : -9223372036854775808 ≤ a) (a1 : a ≤ 9223372036854775807) (ha : c = 109 → 0 ≤ a ∧ a < 64) : Calls Try.prog 50 #[.int .u8 c, .int .i64 a] w fun e w' => e = .returned (.int .i64 (numP c a)) ∧ w' = w := by
  by_cases k1 : c = 110
  · subst k1
    have hE : Aside0 (numP 110 a = a) := ⟨rfl⟩
    clear ha
    go_enter Try.func50, Try.ntmps50
    go_wp2
    go_ret
    exact ⟨by rw [hE.out]; rfl, rfl⟩
  have d1 : (c == 110) = false := by simpa using k1
  by_cases k2 : c = 109
  · subst k2
    have hE : Aside0 (numP 109 a = a + 1) := ⟨rfl⟩
    obtain ⟨a2, a3⟩ := ha rfl
    clear ha
    go_enter Try.func50, Try.ntmps50
    go_wp2
    go_ret
    exact ⟨by rw [hE.out]; rfl, rfl⟩
  have d2 : (c == 109) = false := by simpa using k2
  have hE : Aside0 (numP c a = c - 48) := ⟨by unfold numP; rw [if_neg k1, if_neg k2]⟩
  have w1 : IntKind.u8.wrap (c - 48) = c - 48 := by simp [IntKind.wrap, IntKind.bits, IntKind.signed]; omega
  have w2 : IntKind.i64.wrap (c - 48) = c - 48 := by simp [IntKind.wrap, IntKind.bits, IntKind.signed]; omega
  clear ha k1 k2
  go_enter Try.func50, Try.ntmps50
  go_wp2
  go_ret
  exact ⟨by rw [hE.out]; rfl, rfl⟩
def refShapes : ByteArray := ⟨List.toArray (48 :: 48 :: 32 :: 48 :: 49 :: 32 :: 48 :: 49 :: 32 :: 48 :: 49 :: 32 :: 48 :: 49 :: 32 :: 48 :: 49 :: 32 :: 48 :: 49 :: 32 :: 49 :: 48 :: 32 :: 49 :: 50 :: 32 :: 50 :: 50 :: 32 :: 48 :: 49 :: 32 :: 49 :: 48 :: 32 :: 50 :: 49 :: 32 :: 50 :: 49 :: 32 :: 50 :: 49 :: 32 :: 50 :: 49 :: 32 :: 50 :: 49 :: 32 :: 49 :: 49 :: 32 :: 50 :: 49 :: 32 :: 50 :: 49 :: 32 :: 50 :: 49 :: 32 :: 49 :: 49 :: 32 :: 50 :: 49 :: 32 :: 50 :: 49 :: 32 :: 49 :: 49 :: 32 :: 50 :: 49 :: 32 :: 50 :: 49 :: 32 :: 50 :: 49 :: 32 :: 50 :: 49 :: 32 :: 49 :: 49 :: 32 :: 49 :: 49 :: 32 :: 49 :: 49 :: 32 :: 49 :: 49 :: 32 :: 49 :: 49 :: 32 :: 49 :: 49 :: 32 :: 49 :: 49 :: 32 :: 49 :: 49 :: 32 :: 49 :: 49 :: 32 :: 50 :: 49 :: 32 :: 51 :: 49 :: 32 :: 48 :: 48 :: 32 :: 49 :: 48 :: 32 :: 49 :: 48 :: 32 :: 109 :: 49 :: 32 :: 49 :: 48 :: 32 :: 49 :: 48 :: 32 :: 109 :: 49 :: 32 :: 110 :: 49 :: 32 :: 48 :: 49 :: 32 :: 50 :: 49 :: 32 :: 51 :: 48 :: 32 :: 50 :: 48 :: 32 :: 49 :: 49 :: 32 :: 49 :: 49 :: 32 :: 50 :: 48 :: 32 :: 49 :: 49 :: 32 :: 49 :: 48 :: 32 :: 49 :: 49 :: 32 :: 49 :: 48 :: 32 :: 48 :: 49 :: 32 :: 109 :: 48 :: 32 :: 48 :: 48 :: 32 :: 48 :: 49 :: 32 :: 50 :: 48 :: 32 :: 49 :: 49 :: 32 :: 49 :: 48 :: 32 :: 50 :: 49 :: 32 :: [])⟩
def shapeB (n : Nat) : Nat := (refShapes.data.getD n 0).toNat
theorem refShapes_size : refShapes.size = 201 := by decide +kernel
theorem shapeB_at (n : Nat) (h : n < refShapes.size) : refShapes[n].toNat = shapeB n := by
  show refShapes.data[n].toNat = _
  unfold shapeB
  rw [Array.getD_eq_getD_getElem?, getElem?_pos refShapes.data n h]
  rfl
theorem shape_T : ∀ k : Fin 67, ((shapeB (3 * k.val) : Nat) : Int) = (if (opTab.getD k.val noRow).many then 110 - (opTab.getD k.val noRow).takes else 48 + (opTab.getD k.val noRow).takes) ∧ ((shapeB (3 * k.val + 1) : Nat) : Int) = 48 + (opTab.getD k.val noRow).puts ∧ ((opTab.getD k.val noRow).many = true → (opTab.getD k.val noRow).takes ≤ 1) := by decide +kernel

set_option maxHeartbeats 4000000
theorem ref_Effect (w : World) (op a : Int) (a0 : -9223372036854775808 ≤ a) (a1 : a ≤ 9223372036854775807) : Calls Try.prog 30 #[.agg #[.int .i64 op, .int .i64 a]] w fun e w' => e = .returned (.tuple #[.int .i64 (tkP op a), .int .i64 (ptP op a), .bool (efP op a)]) ∧ Chg (fun _ => False) w w' := by
  have hck : Aside0 (∀ W, Calls Try.prog 34 #[.agg #[.int .i64 op, .int .i64 a]] W fun e w' => e = .returned (.int .i64 (if efP op a = true then 0 else 7)) ∧ Chg (fun _ => False) W w') := ⟨fun W => ref_Check W op a⟩
  have hc0 := Aside0.mk ((Chg.refl (fun _ => False) w).alloc (.cells #[.int .i64 op, .int .i64 a] 35))
  have hb0 := Aside0.mk (heap_alloc_new w (.cells #[.int .i64 op, .int .i64 a] 35))
  cases hef : efP op a
  · have e2 : tkP op a = 0 := by unfold tkP; rw [hef]; rfl
    have e3 : ptP op a = 0 := by unfold ptP; rw [hef]; rfl
    rw [e2, e3]
    replace hck : Aside0 (∀ W, Calls Try.prog 34 #[.agg #[.int .i64 op, .int .i64 a]] W fun e w' => e = .returned (.int .i64 7) ∧ Chg (fun _ => False) W w') := ⟨fun W => by have h := hck.out W; rw [hef] at h; exact h⟩
    clear e2 e3 hef
    go_enter Try.func30, Try.ntmps30
    go_wp2_with (go_at_call 34; go_must (refine (hck.out _).mono ?_); go_must (rintro e w1 ⟨rfl, hc1⟩); go_must (replace hc1 := Aside0.mk (hc0.out.trans hc1 (fun _ _ h => h))))
    go_ret3
    exact ⟨rfl, hc1.out⟩
  · have h := hef
    unfold efP at h
    rw [Bool.and_eq_true] at h
    obtain ⟨hok, hri⟩ := h
    have hlt : 0 ≤ op ∧ op < 67 := by unfold okP at hok; simpa using hok
    obtain ⟨k, rfl⟩ := Int.eq_ofNat_of_zero_le hlt.1
    have hk : k < 67 := by omega
    have hmk := many_kind (k : Int)
    obtain ⟨b0, b1, b2, b3, b4, b5⟩ := rowP_bounds (k : Int)
    obtain ⟨s1, s2, s3⟩ := shape_T ⟨k, hk⟩
    simp only at s1 s2 s3
    rw [← (rowP_at hk).1] at s1 s2 s3
    obtain ⟨j, hj⟩ : ∃ j, j = 3 * k := ⟨_, rfl⟩
    obtain ⟨j1, hj1⟩ : ∃ j1, j1 = 3 * k + 1 := ⟨_, rfl⟩
    have z7 : j < 201 := by omega
    have z8 : j1 < 201 := by omega
    have q1 : (refShapes[j]'(by rw [refShapes_size]; exact z7)).toNat = shapeB (3 * k) := (shapeB_at j _).trans (by rw [hj])
    have q2 : (refShapes[j1]'(by rw [refShapes_size]; exact z8)).toNat = shapeB (3 * k + 1) := (shapeB_at j1 _).trans (by rw [hj1])
    have hm : (rowP (k : Int)).many = true → 0 ≤ a ∧ a < 64 := fun hm => by
      rw [hmk hm] at hri
      unfold rightP limP at hri
      simpa using hri
    have hT : Aside0 (tkP (k : Int) a = numP ((shapeB (3 * k) : Nat) : Int) a) := ⟨by
      unfold tkP numP
      rw [if_pos hef, s1]
      cases hmn : (rowP (k : Int)).many
      · simp only [Bool.false_eq_true, if_false, Int.add_zero]
        rw [if_neg (by omega), if_neg (by omega)]; omega
      · have := s3 hmn
        simp only [if_true]
        by_cases t0 : (rowP (k : Int)).takes = 0
        · rw [t0, if_pos (by omega)]; omega
        · have t1 : (rowP (k : Int)).takes = 1 := by omega
          rw [t1, if_neg (by omega), if_pos (by omega)]; omega⟩
    have hP : Aside0 (ptP (k : Int) a = numP ((shapeB (3 * k + 1) : Nat) : Int) a) := ⟨by
      unfold ptP numP
      rw [if_pos hef, s2, if_neg (by omega), if_neg (by omega)]; omega⟩
    have hN1 : Aside0 (∀ W, Calls Try.prog 50 #[.int .u8 ((shapeB (3 * k) : Nat) : Int), .int .i64 a] W _) := ⟨fun W => ref_num7 W _ a (by rw [s1]; split <;> omega) (by rw [s1]; split <;> omega) a0 a1 (fun h => by
      rw [s1] at h
      cases hmn : (rowP (k : Int)).many
      · rw [hmn] at h; simp at h; omega
      · exact hm hmn)⟩
    have hN2 : Aside0 (∀ W, Calls Try.prog 50 #[.int .u8 ((shapeB (3 * k + 1) : Nat) : Int), .int .i64 a] W _) := ⟨fun W => ref_num7 W _ a (by rw [s2]; omega) (by rw [s2]; omega) a0 a1 (fun h => by rw [s2] at h; omega)⟩
    replace hck : Aside0 (∀ W, Calls Try.prog 34 #[.agg #[.int .i64 (k : Int), .int .i64 a]] W fun e w' => e = .returned (.int .i64 0) ∧ Chg (fun _ => False) W w') := ⟨fun W => by have h := hck.out W; rw [hef] at h; exact h⟩
    generalize shapeB (3 * k) = c1 at q1 hT hN1
    generalize shapeB (3 * k + 1) = c2 at q2 hP hN2
    generalize numP (c1 : Int) a = n1 at hT hN1
    generalize numP (c2 : Int) a = n2 at hP hN2
    have z1 : (3 : Int) * (k : Int) = (j : Int) := by omega
    have z2 : (j : Int) + 1 = (j1 : Int) := by omega
    have z3 : (0 : Int) ≤ (j : Int) := by omega
    have z4 : (j : Int) < 201 := by omega
    have z5 : (0 : Int) ≤ (j1 : Int) := by omega
    have z6 : (j1 : Int) < 201 := by omega
    replace q1 := Aside0.mk q1
    replace q2 := Aside0.mk q2
    replace hj := Aside0.mk hj
    replace hj1 := Aside0.mk hj1
    clear hef hok hri hlt hk hmk b0 b1 b2 b3 b4 b5 s1 s2 s3 hm
    go_enter Try.func30, Try.ntmps30
    go_wp2_with (go_at_call 34; go_must (refine (hck.out _).mono ?_); go_must (rintro e w1 ⟨rfl, hc1⟩); go_must (have x0 : w1.cell? ⟨w.heap.size, 0, none⟩ = some (.int .i64 (k : Int)) := blk_cell (hc1.blk hb0.out (fun h => h)) 0); go_must (have x1 : w1.cell? ⟨w.heap.size, 1, none⟩ = some (.int .i64 a) := blk_cell (hc1.blk hb0.out (fun h => h)) 1); go_must (replace hc1 := Aside0.mk (hc0.out.trans hc1 (fun _ _ h => h))))
    obtain ⟨q1⟩ := q1
    obtain ⟨q2⟩ := q2
    unfold refShapes at q1 q2
    go_quiet (first | (go_at_call_of 50 c1; exact Calls.quiet_of_same (hN1.out _)) | (go_at_call_of 50 c2; exact Calls.quiet_of_same (hN2.out _)))
    go_wp2
    go_ret3
    exact ⟨by rw [hT.out, hP.out]; rfl, by repeat (first | exact hc1.out | apply Chg.drewN | apply Chg.drew)⟩

end Go.Proofs.Ythmghcjkmmhgnaa.K
