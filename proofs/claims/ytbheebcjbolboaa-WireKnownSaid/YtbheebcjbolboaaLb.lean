import Derived.Test.YtbheebcjbolboaaLa
namespace Go.Proofs.Ytbheebcjbolboaa.K
open Go.RowKit Go.Proofs.YtbheebcjbolboaaW.PrintWords Go.Proofs.YtbheebcjbolboaaW.PrintLast Go.Proofs.YtbheebcjbolboaaW.PrintMore
set_option linter.unusedVariables false
set_option linter.unusedSimpArgs false
set_option maxRecDepth 100000

theorem be_getD (x : Int) : ∀ (n k : Nat), k < n → (be x n).getD k 0 = x / 2 ^ (8 * (n - 1 - k)) % 256
  | 0, k, h => by omega
  | n + 1, 0, _ => by simp [be]
  | n + 1, k + 1, h => by
    have := be_getD x n k (by omega)
    simp only [be, List.getD_cons_succ, this]
    congr 3
    omega
theorem pow_step (m : Nat) : (2 : Int) ^ (8 * (m + 1)) = 2 ^ (8 * m) * 256 := by rw [show 8 * (m + 1) = 8 * m + 8 from by omega, Int.pow_add]; rfl
/-- The first byte that parts two words tells which is less. -/
theorem word_order (x y : Int) (k : Nat) (hk : k < 8) (hE : x / 2 ^ (8 * (8 - k)) = y / 2 ^ (8 * (8 - k))) :
    ((be x 8).getD k 0 = (be y 8).getD k 0 → x / 2 ^ (8 * (8 - (k + 1))) = y / 2 ^ (8 * (8 - (k + 1)))) ∧
    ((be x 8).getD k 0 ≠ (be y 8).getD k 0 → ((be x 8).getD k 0 < (be y 8).getD k 0 ↔ x < y) ∧ x ≠ y) := by
  rw [be_getD x 8 k hk, be_getD y 8 k hk]
  have e1 : 8 - 1 - k = 7 - k := by omega
  have e2 : 8 - (k + 1) = 7 - k := by omega
  have e3 : 8 - k = (7 - k) + 1 := by omega
  rw [e3, pow_step, ← Int.ediv_ediv_of_nonneg (Int.le_of_lt (Int.pow_pos (by decide))), ← Int.ediv_ediv_of_nonneg (Int.le_of_lt (Int.pow_pos (by decide)))] at hE
  rw [e1, e2]
  have hp : (0 : Int) < 2 ^ (8 * (7 - k)) := Int.pow_pos (by decide)
  generalize (2 : Int) ^ (8 * (7 - k)) = P at *
  have hx : x / P < y / P → x < y := fun h => by
    rcases Int.lt_or_le x y with h1 | h1
    · exact h1
    · have := Int.ediv_le_ediv hp h1; omega
  have hy : y / P < x / P → y < x := fun h => by
    rcases Int.lt_or_le y x with h1 | h1
    · exact h1
    · have := Int.ediv_le_ediv hp h1; omega
  generalize x / P = X at *
  generalize y / P = Y at *
  refine ⟨fun h => by omega, fun h => ⟨⟨fun h1 => hx (by omega), fun h1 => ?_⟩, fun h1 => ?_⟩⟩
  · rcases Int.lt_or_le X Y with h2 | h2
    · omega
    · have := hy (by omega); omega
  · rcases Int.lt_or_le X Y with h2 | h2
    · have := hx h2; omega
    · have := hy (by omega); omega
theorem law_order (w : World) (x y : Int) (hx0 : 0 ≤ x) (hx1 : x ≤ 18446744073709551615) (hy0 : 0 ≤ y) (hy1 : y ≤ 18446744073709551615) :
    Calls Try.prog 4 #[.int .u64 x, .int .u64 y] w fun e w' => e = .returned (.bool true) ∧ Below w.heap.size w w' := by
  have hx1A := Aside0.mk hx1
  have hy1A := Aside0.mk hy1
  clear hx1 hy1
  go_enter Try.func4, Try.ntmps4
  go_wp2_with fail
  (refine (law_written _ 0 3 x ⟨#[]⟩ hx0 hx1A.out (by decide)).mono ?_)
  (rintro e w1 ⟨v1, rfl, hr1, hc1⟩)
  (obtain ⟨A1, n1, cap1, rfl⟩ := R_sl hr1)
  (replace hr1 := Aside0.mk hr1)
  (replace hc1 := Aside0.mk hc1)
  go_wp2_with fail
  (refine (law_written _ 0 3 y ⟨#[]⟩ hy0 hy1A.out (by decide)).mono ?_)
  (rintro e w2 ⟨v2, rfl, hr2, hc2⟩)
  (obtain ⟨A2, n2, cap2, rfl⟩ := R_sl hr2)
  (replace hr2 := Aside0.mk hr2)
  (replace hc2 := Aside0.mk hc2)
  have hr12 := Aside0.mk (R_chg hr1.out hc2.out (fun _ _ _ h => h))
  obtain ⟨q1, _, qC1⟩ := Kd.R_reads' hr12.out
  obtain ⟨q2, _, qC2⟩ := Kd.R_reads' hr2.out
  have q1' : n1 = 8 := by rw [q1]; simp [wrL, putL, be_length]
  have q2' : n2 = 8 := by rw [q2]; simp [wrL, putL, be_length]
  have r1 : Aside0 (Kd.C (Kd.int .u8) w2 A1 8 (be x 8)) := ⟨by have := qC1; rw [← q1, q1'] at this; simpa [wrL, putL] using this⟩
  have r2 : Aside0 (Kd.C (Kd.int .u8) w2 A2 8 (be y 8)) := ⟨by have := qC2; rw [← q2, q2'] at this; simpa [wrL, putL] using this⟩
  clear q1 q2 qC1 qC2 hr1 hr2 hr12
  subst q1' q2'
  have hbel := Aside0.mk ((hc1.out.trans hc2.out (fun _ _ h => h)).below (fun _ _ h => h))
  go_wp2
  go_loopw [9] (fun i wr => ∃ k : Nat, i = .int .i64 k ∧ k ≤ 8 ∧ Aside0 (x / 2 ^ (8 * (8 - k)) = y / 2 ^ (8 * (8 - k))) ∧ Drawn0 w2 wr) (fun i _ => 8 - (intOf i).toNat)
  case atStart => exact ⟨0, rfl, by omega, ⟨by have := hx1A.out; have := hy1A.out; show x / 18446744073709551616 = y / 18446744073709551616; omega⟩, Drawn0.refl _⟩
  case round =>
    obtain ⟨k, rfl, hk, hE, ⟨nd, rfl⟩⟩ := hrel
    by_cases hlt : k < 8
    · obtain ⟨a1, e1, x1⟩ := byte_at r1.out k hlt
      obtain ⟨a2, e2, x2⟩ := byte_at r2.out k hlt
      have hk0 : (0 : Int) ≤ k := by omega
      have hk1 : (k : Int) < 8 := by omega
      subst e1 e2
      have hwo := Aside0.mk (word_order x y k hlt hE.out)
      generalize (be x 8).getD k 0 = y1 at x1 hwo
      generalize (be y 8).getD k 0 = y2 at x2 hwo
      by_cases hy : y1 = y2
      · have hy1 : (y1 != y2) = false := by simpa using hy
        replace hy := Aside0.mk hy
        go_wp2
        go_quiet (fail)
        go_wp2
        go_roundw
        case measure => simp [intOf]; omega
        case rel => exact ⟨k + 1, by go_num, by omega, ⟨hwo.out.1 hy.out⟩, by first | exact ⟨⟨_, rfl⟩⟩ | exact Drawn0.step ⟨⟨_, rfl⟩⟩ _⟩
      · have hy1 : (y1 != y2) = true := by simpa using hy
        have hxy : (x != y) = true := by simpa using (hwo.out.2 hy).2
        have hiff := (hwo.out.2 hy).1
        replace hy := Aside0.mk hy
        by_cases hc : x < y
        · have d1 : decide (x < y) = true := by simpa using hc
          have d2 : decide (y1 < y2) = true := by simpa using hiff.2 hc
          clear hiff hc
          go_wp2
          go_quiet (fail)
          go_wp2
          go_quiet (fail)
          go_wp2
          go_ret
          exact ⟨by simp, by repeat (first | exact hbel.out | apply pw_below_drewN)⟩
        · have d1 : decide (x < y) = false := by simpa using hc
          have d2 : decide (y1 < y2) = false := by simpa using fun h => hc (hiff.1 h)
          clear hiff hc
          go_wp2
          go_quiet (fail)
          go_wp2
          go_quiet (fail)
          go_wp2
          go_ret
          exact ⟨by simp, by repeat (first | exact hbel.out | apply pw_below_drewN)⟩
    · have hxy : x = y := by
        have := hE.out
        rw [show 8 - k = 0 from by omega] at this
        simpa using this
      subst hxy
      go_wp2
      go_ret
      exact ⟨by simp, by repeat (first | exact hbel.out | apply pw_below_drewN)⟩

end Go.Proofs.Ytbheebcjbolboaa.K
