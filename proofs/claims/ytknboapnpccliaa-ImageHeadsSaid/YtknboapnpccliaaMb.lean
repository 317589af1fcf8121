import Derived.Test.YtknboapnpccliaaRa
namespace Go.Proofs.Ytknboapnpccliaa.K
open Go.RowKit Go.Proofs.YtknboapnpccliaaW.PrintWords Go.Proofs.YtknboapnpccliaaW.PrintLast Go.Proofs.YtknboapnpccliaaW.PrintMore
set_option linter.unusedVariables false
set_option linter.unusedSimpArgs false
set_option maxRecDepth 100000

theorem ref_copy (w : World) (A : Option Addr) (n cap : Nat) (bs : List Int) (hC : Kd.C (Kd.int .u8) w A n bs) (hn : bs.length ≤ 140737488355328) :
    Calls Try.prog 40 #[.slice A n cap] w fun e w' => ∃ v, e = .returned v ∧ Kd.R (Kd.int .u8) 5 w' 0 (New (fun _ => False) w w') v bs ∧ Chg (fun _ => False) w w' := by
  have e0 := hC.1
  subst e0
  have hCA := Aside0.mk hC
  clear hC
  go_enter Try.func40, Try.ntmps40
  go_wp2
  go_loopw [3, 4] (fun v i wr => ∃ k : Nat, i = .int .i64 k ∧ k ≤ bs.length ∧ Aside0 (Kd.R (Kd.int .u8) 5 wr 0 (New (fun _ => False) w wr) v (bs.take k)) ∧ Aside0 (Chg (fun _ => False) w wr)) (fun _ i _ => bs.length - (intOf i).toNat)
  case atStart => exact ⟨0, rfl, by omega, ⟨Kd.R_nil _ _ _ _ _⟩, ⟨Chg.refl _ _⟩⟩
  case round =>
    obtain ⟨k, rfl, hk, hR, hCh⟩ := hrel
    by_cases hlt : k < bs.length
    · obtain ⟨ad, e1, x1⟩ := byte_at (C_chg hCA.out (hCh.out.below (fun _ _ h => h))) k hlt
      subst e1
      have hk0 : (0 : Int) ≤ k := by omega
      have hk1 : (k : Int) < bs.length := by omega
      have ht : Aside0 (bs.take (k + 1) = bs.take k ++ [bs.getD k 0]) := ⟨by rw [List.take_succ_eq_append_getElem hlt, List.getD_eq_getElem?_getD, List.getElem?_eq_getElem hlt]; rfl⟩
      generalize bs.getD k 0 = b at x1 ht
      have hl : Aside0 (((bs.take k).length + 1) * 1 ≤ 140737488355328) := ⟨by rw [List.length_take]; omega⟩
      go_wp2_with (at_builtin; go_must (refine app1 (Kd.int .u8) rfl (.tmp 11) (.tmp 16) rfl Try.underlying73 infoU8 rfl (by decide) (by decide) b rfl rfl rfl hR hCh hl ?_); go_must (intro v1 w1 hr1 hc1))
      go_roundw
      case measure => first | (simp [intOf]; done) | (simp [intOf]; omega)
      case rel => exact ⟨k + 1, by go_num, by omega, ⟨by rw [ht.out]; exact hr1.out⟩, hc1⟩
    · obtain rfl : k = bs.length := by omega
      go_wp2
      go_ret
      have h := hR.out
      rw [List.take_length] at h
      exact ⟨_, rfl, h, hCh.out⟩

end Go.Proofs.Ytknboapnpccliaa.K
