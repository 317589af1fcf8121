import Derived.Test.YtknboapnpccliaaMb
import Derived.Test.YtknboapnpccliaaNa
import Derived.IntWalk
import Derived.BigQuiet
namespace Go.Proofs.Ytknboapnpccliaa.K
open Go.RowKit Go.Proofs.YtknboapnpccliaaW.PrintWords Go.Proofs.YtknboapnpccliaaW.PrintLast Go.Proofs.YtknboapnpccliaaW.PrintMore
set_option linter.unusedVariables false
set_option linter.unusedSimpArgs false
set_option maxRecDepth 100000

/-- The marks. -/
def marksB (k : Nat) : List Int := (List.range k).map (fun i : Nat => 201 + (i : Int) % 40)
theorem marksB_succ (k : Nat) : marksB (k + 1) = marksB k ++ [201 + (k : Int) % 40] := by simp [marksB, List.range_succ]
theorem marksB_length (k : Nat) : (marksB k).length = k := by simp [marksB]
theorem marksB_get {k j : Nat} (h : j < k) : (marksB k).getD j 0 = 201 + (j : Int) % 40 := by
  rw [List.getD_eq_getElem?_getD, marksB, List.getElem?_map, List.getElem?_range h]; rfl
theorem kit_Lent (w : World) (A : Option Addr) (n cap : Nat) (bs : List Int) (hC : Kd.C (Kd.int .u8) w A n bs) (hn : bs.length ≤ 140737488355000) :
    Calls Try.prog 34 #[.slice A n cap] w fun e w' => ∃ v, e = .returned v ∧ Kd.R (Kd.int .u8) 5 w' 0 (New (fun _ => False) w w') v (bs ++ marksB 64) ∧ Chg (fun _ => False) w w' := by
  have e0 := hC.1
  subst e0
  have hCA := Aside0.mk hC
  clear hC
  go_enter Try.func34, Try.ntmps34
  go_wp2
  go_loopw [3, 4] (fun v i wr => ∃ k : Nat, i = .int .i64 k ∧ k ≤ bs.length ∧ Aside0 (Kd.R (Kd.int .u8) 5 wr 0 (New (fun _ => False) w wr) v (bs.take k)) ∧ Aside0 (Chg (fun _ => False) w wr)) (fun _ i _ => bs.length - (intOf i).toNat)
  case atStart => exact ⟨0, rfl, by omega, ⟨Kd.R_nil _ _ _ _ _⟩, ⟨Chg.refl _ _⟩⟩
  case round =>
    obtain ⟨k, rfl, hk, hR, hCh⟩ := hrel
    by_cases hlt : k < bs.length
    · obtain ⟨ad, e1, x1⟩ := byte_at (C_chg hCA.out (hCh.out.below (fun _ _ h => h))) k hlt
      subst e1
      have hk0 : (0 : Int) ≤ k := by omega
      have hk1 : (k : Int) < bs.length := by omega
      have ht : Aside0 (bs.take (k + 1) = bs.take k ++ [bs.getD k 0]) := ⟨by rw [List.take_succ_eq_append_getElem hlt, List.getD_eq_getElem?_getD, List.getElem?_eq_getElem hlt]; rfl⟩
      generalize bs.getD k 0 = b at x1 ht
      have hl : Aside0 (((bs.take k).length + 1) * 1 ≤ 140737488355328) := ⟨by rw [List.length_take]; omega⟩
      go_wp2_with (at_builtin; go_must (refine app1 (Kd.int .u8) rfl (.tmp 12) (.tmp 17) rfl Try.underlying73 infoU8 rfl (by decide) (by decide) b rfl rfl rfl hR hCh hl ?_); go_must (intro v1 w1 hr1 hc1))
      go_roundw
      case measure => first | (simp [intOf]; done) | (simp [intOf]; omega)
      case rel => exact ⟨k + 1, by go_num, by omega, ⟨by rw [ht.out]; exact hr1.out⟩, hc1⟩
    · obtain rfl : k = bs.length := by omega
      have h := hR.out
      rw [List.take_length] at h
      replace h := Aside0.mk h
      clear hR
      go_wp2
      go_loopw [3, 5] (fun v i wr => ∃ k : Nat, i = .int .i64 k ∧ k ≤ 64 ∧ Aside0 (Kd.R (Kd.int .u8) 5 wr 0 (New (fun _ => False) w wr) v (bs ++ marksB k)) ∧ Aside0 (Chg (fun _ => False) w wr)) (fun _ i _ => 64 - (intOf i).toNat)
      case atStart => exact ⟨0, rfl, by omega, ⟨by simpa [marksB] using h.out⟩, hCh⟩
      case round =>
        obtain ⟨k, rfl, hk2, hR, hCh2⟩ := hrel
        by_cases hlt : k < 64
        · have hl : Aside0 (((bs ++ marksB k).length + 1) * 1 ≤ 140737488355328) := ⟨by rw [List.length_append, marksB_length]; omega⟩
          have hk0 : (0 : Int) ≤ k := by omega
          have hk1 : (k : Int) < 64 := by omega
          have hm : Int.tmod (k : Int) 40 = (k : Int) % 40 := Int.tmod_eq_emod_of_nonneg hk0
          go_wp2_with (at_builtin; go_must (refine app1 (Kd.int .u8) rfl (.tmp 23) (.tmp 28) rfl Try.underlying73 infoU8 rfl (by decide) (by decide) (201 + (k : Int) % 40) rfl rfl rfl hR hCh2 hl ?_); go_must (intro v1 w1 hr1 hc1))
          go_roundw
          case measure => first | (simp [intOf]; done) | (simp [intOf]; omega)
          case rel => exact ⟨k + 1, by go_num, by omega, ⟨by rw [marksB_succ, ← List.append_assoc]; exact hr1.out⟩, hc1⟩
        · obtain rfl : k = 64 := by omega
          go_wp2
          go_ret
          exact ⟨_, rfl, hR.out, hCh2.out⟩
theorem kit_Kept (w : World) (A B : Option Addr) (n cap m capm : Nat) (bs : List Int) (hC : Kd.C (Kd.int .u8) w A n (bs ++ marksB 64)) (hD : Kd.C (Kd.int .u8) w B m bs) (hn : bs.length ≤ 140737488355000) :
    Calls Try.prog 38 #[.slice A n cap, .slice B m capm] w fun e w' => e = .returned (.bool true) ∧ Chg (fun _ => False) w w' := by
  have e0 := hC.1
  have e1 := hD.1
  rw [List.length_append, marksB_length] at e0
  subst e0 e1
  have hCA := Aside0.mk hC
  have hDA := Aside0.mk hD
  clear hC hD
  have hlen : ((bs.length : Int) + 64) ≤ 9223372036854775807 := by omega
  go_enter Try.func38, Try.ntmps38
  go_wp2
  go_loopw [5, 6] (fun i _ wr => ∃ k : Nat, i = .int .i64 k ∧ k ≤ bs.length + 64 ∧ Aside0 (Chg (fun _ => False) w wr)) (fun i _ _ => bs.length + 64 - (intOf i).toNat)
  case atStart => exact ⟨0, rfl, by omega, ⟨Chg.refl _ _⟩⟩
  case round =>
    obtain ⟨k, rfl, hk, hCh⟩ := hrel
    by_cases hlt : k < bs.length + 64
    · have hk0 : (0 : Int) ≤ k := by omega
      have hk1 : (k : Int) < (bs.length : Int) + 64 := by omega
      by_cases hin : k < bs.length
      · obtain ⟨ad, e1, x1⟩ := byte_at (C_chg hCA.out (hCh.out.below (fun _ _ h => h))) k hlt
        obtain ⟨bd, e2, x2⟩ := byte_at (C_chg hDA.out (hCh.out.below (fun _ _ h => h))) k hin
        subst e1 e2
        have hk2 : (k : Int) < bs.length := by omega
        have e3 : (bs ++ marksB 64).getD k 0 = bs.getD k 0 := by simp only [List.getD_eq_getElem?_getD, List.getElem?_append_left hin]
        rw [e3] at x1
        clear e3
        generalize bs.getD k 0 = b at x1 x2
        go_wp2
        go_roundw
        case measure => first | (simp [intOf]; done) | (simp [intOf]; omega)
        case rel => exact ⟨k + 1, by go_num, by omega, hCh⟩
      · obtain ⟨ad, e1, x1⟩ := byte_at (C_chg hCA.out (hCh.out.below (fun _ _ h => h))) k hlt
        subst e1
        have e3 : (bs ++ marksB 64).getD k 0 = 201 + ((k - bs.length : Nat) : Int) % 40 := by
          have := marksB_get (k := 64) (j := k - bs.length) (by omega)
          rw [← this]
          simp only [List.getD_eq_getElem?_getD, List.getElem?_append_right (by omega : bs.length ≤ k)]
        have hs : ((k - bs.length : Nat) : Int) = (k : Int) - bs.length := by omega
        rw [e3, hs] at x1
        clear e3 hs
        have hk2 : ¬ (k : Int) < bs.length := by omega
        have hm : Int.tmod ((k : Int) - bs.length) 40 = ((k : Int) - bs.length) % 40 := Int.tmod_eq_emod_of_nonneg (by omega)
        go_wp2
        go_roundw
        case measure => first | (simp [intOf]; done) | (simp [intOf]; omega)
        case rel => exact ⟨k + 1, by go_num, by omega, hCh⟩
    · obtain rfl : k = bs.length + 64 := by omega
      go_wp2
      go_ret
      exact ⟨rfl, hCh.out⟩
def pickP (k n : Int) : Int := if n < 1 then 0 else k % n
theorem pickP_lt {k : Int} {n : Nat} (h : 0 < n) : 0 ≤ pickP k n ∧ pickP k n < n := by
  unfold pickP
  rw [if_neg (by omega)]
  exact ⟨Int.emod_nonneg _ (by omega), Int.emod_lt_of_pos _ (by omega)⟩
theorem kit_Pick (w : World) (k n : Int) (h0 : -9223372036854775808 ≤ k) (h1 : k ≤ 9223372036854775807) (hn : n ≤ 9223372036854775807) :
    Calls Try.prog 39 #[.int .i64 k, .int .i64 n] w fun e w' => e = .returned (.int .i64 (pickP k n)) ∧ w' = w := by
  by_cases hlt : n < 1
  · have hp : pickP k n = 0 := by unfold pickP; rw [if_pos hlt]
    rw [hp]
    go_enter Try.func39, Try.ntmps39
    go_wp2
    go_ret
    exact ⟨rfl, rfl⟩
  · have hp : pickP k n = k % n := by unfold pickP; rw [if_neg hlt]
    have hz : n ≠ 0 := by omega
    rw [hp]
    have b0 := Int.emod_nonneg k hz
    have b1 := Int.emod_lt_of_pos k (show 0 < n by omega)
    by_cases hneg : Int.tmod k n < 0
    · have e1 : Int.tmod k n + n = k % n := by
        have h2 := Int.emod_eq_tmod (a := k) (b := n)
        rw [h2]
        split
        · rename_i hq
          rcases hq with hq | hq
          · exact absurd (Int.tmod_nonneg n hq) (by omega)
          · have := Int.tmod_eq_zero_of_dvd hq; omega
        · omega
      go_enter Try.func39, Try.ntmps39
      go_wp2
      go_ret
      first | exact ⟨rfl, rfl⟩ | (simp only [e1]; exact ⟨trivial, trivial⟩) | (rw [e1]; exact ⟨rfl, rfl⟩)
    · have e1 : Int.tmod k n = k % n := by
        have h2 := Int.emod_eq_tmod (a := k) (b := n)
        split at h2
        · simpa using h2.symm
        · exfalso
          omega
      rw [e1] at hneg
      go_enter Try.func39, Try.ntmps39
      go_wp2
      go_ret
      exact ⟨rfl, rfl⟩

end Go.Proofs.Ytknboapnpccliaa.K
