import Derived.Test.YtknboapnpccliaaHa
import Derived.Test.YtknboapnpccliaaRf
import Derived.IntWalk
import Derived.BigQuiet
import Derived.ChangeKeysEq
import Derived.Laws.StructEq
import Derived.Laws.Rows
import Derived.Laws.Tables
import Derived.Deep.MidRow
namespace Go.Proofs.Ytknboapnpccliaa.K
open Go.RowKit Go.Proofs.YtknboapnpccliaaW.PrintWords Go.Proofs.YtknboapnpccliaaW.PrintLast Go.Proofs.YtknboapnpccliaaW.PrintMore
set_option linter.unusedVariables false
set_option linter.unusedSimpArgs false
set_option maxRecDepth 100000

theorem eqItems_self {l : List Int} {d : Nat} (w : World) : ∀ is : List Nat, (∀ i ∈ is, i < l.length) → (Op.eqItems (d + 1) 5 (Try.prog.cellsOf 5) (nums .u8 l).toArray (nums .u8 l).toArray is).run Try.prog w = .ok true w
  | [], _ => by simp [Op.eqItems]
  | i :: is, h => by
    have hi : i < l.length := h i (List.mem_cons_self)
    have hx : (nums .u8 l).toArray[i * Try.prog.cellsOf 5]? = some (.int .u8 l[i]) := by
      rw [show Try.prog.cellsOf 5 = 1 from by kernel_rfl, Nat.mul_one]
      simp [nums, hi]
    have hp := run_part_plain (P := Try.prog) w (e := 5) (by kernel_rfl) hx
    simp only [Op.eqItems, Sem.run_bind, hp, Result.andThen_ok, run_equalIn_int w d 5 .u8 .u8 _ _ Try.underlying5]
    simpa using eqItems_self w is (fun j hj => h j (List.mem_cons_of_mem _ hj))
/-- An array of 32 bytes is equal to itself. -/
theorem eq32 {l : List Int} (hl : l.length = 32) (w : World) : (Op.equalIn 10000 75 (.agg (nums .u8 l).toArray) (.agg (nums .u8 l).toArray)).run Try.prog w = .ok true w := by
  obtain ⟨i, hi⟩ : ∃ i, Try.prog.info? 5 = some i := Option.isSome_iff_exists.1 (by kernel_rfl)
  rw [show (10000 : Nat) = 9999 + 1 from rfl, run_equalIn_array w 9999 _ _ Try.underlying75 hi]
  exact eqItems_self (d := 9998) w (List.range 32) (fun i hi => by rw [hl]; exact List.mem_range.1 hi)
def markP (bs : List Int) : Int := if bs.length < 4 then 2 else if bs.take 4 = [80, 84, 73, 1] then 0 else 4
def headP (bs : List Int) : List Int × Int := if markP bs ≠ 0 then (List.replicate 32 0, markP bs) else if bs.length < 36 then (List.replicate 32 0, 2) else ((bs.drop 4).take 32, 0)
theorem headP_len (bs : List Int) : (headP bs).1.length = 32 := by
  unfold headP
  split
  · simp
  · split
    · simp
    · simp; omega
theorem headP_byte {bs : List Int} (h : ∀ c ∈ bs, 0 ≤ c ∧ c < 256) : ∀ c ∈ (headP bs).1, 0 ≤ c ∧ c < 256 := by
  intro c hc
  unfold headP at hc
  split at hc
  · rw [List.eq_of_mem_replicate hc]; decide
  · split at hc
    · rw [List.eq_of_mem_replicate hc]; decide
    · exact h c (List.mem_of_mem_drop (List.mem_of_mem_take hc))
theorem ref_mark (w : World) (A : Option Addr) (n cap : Nat) (bs : List Int) (hC : Kd.C (Kd.int .u8) w A n bs) (hn : bs.length ≤ 140737488355328) :
    Calls Try.prog 79 #[.slice A n cap] w fun e w' => e = .returned (.int .i64 (markP bs)) ∧ Chg (fun _ => False) w w' := by
  have e0 := hC.1
  subst e0
  by_cases h4 : bs.length < 4
  · have d0 : (bs.length : Int) < 4 := by omega
    have hE : Aside0 (markP bs = 2) := ⟨by unfold markP; rw [if_pos h4]⟩
    clear h4 hC
    go_enter Try.func79, Try.ntmps79
    go_wp2
    go_ret
    rw [hE.out]
    exact ⟨rfl, Chg.refl _ _⟩
  · obtain ⟨b0, b1, b2, b3, r, rfl⟩ : ∃ b0 b1 b2 b3 r, bs = b0 :: b1 :: b2 :: b3 :: r := by
      match bs, h4 with
      | b0 :: b1 :: b2 :: b3 :: r, _ => exact ⟨b0, b1, b2, b3, r, rfl⟩
      | [], h => simp at h
      | [_], h => simp at h
      | [_, _], h => simp at h
      | [_, _, _], h => simp at h
    obtain ⟨ad, e1, x0⟩ := byte_at hC 0 (by simp)
    obtain ⟨_, e2, x1⟩ := byte_at hC 1 (by simp)
    obtain ⟨_, e3, x2⟩ := byte_at hC 2 (by simp)
    obtain ⟨_, e4, x3⟩ := byte_at hC 3 (by simp)
    subst e1
    injection e2 with e2
    injection e3 with e3
    injection e4 with e4
    subst e2 e3 e4
    have hm : markP (b0 :: b1 :: b2 :: b3 :: r) = if b0 = 80 ∧ b1 = 84 ∧ b2 = 73 ∧ b3 = 1 then 0 else 4 := by
      unfold markP
      rw [if_neg h4]
      simp only [List.take_succ_cons, List.take_zero, List.cons.injEq, and_true]
    have hn4 : (4 : Int) ≤ ((b0 :: b1 :: b2 :: b3 :: r).length : Int) := by simp; omega
    have hnb : ((b0 :: b1 :: b2 :: b3 :: r).length : Int) ≤ 140737488355328 := by omega
    simp only [List.getD_cons_zero, List.getD_cons_succ] at x0 x1 x2 x3
    rw [Addr.add_zero'] at x0
    replace x1 : w.cell? ⟨ad.block, ad.off + 1, none⟩ = some (.int .u8 b1) := x1
    replace x2 : w.cell? ⟨ad.block, ad.off + 2, none⟩ = some (.int .u8 b2) := x2
    replace x3 : w.cell? ⟨ad.block, ad.off + 3, none⟩ = some (.int .u8 b3) := x3
    generalize hN : (b0 :: b1 :: b2 :: b3 :: r).length = N at hC h4 hn hn4 hnb ⊢
    generalize markP (b0 :: b1 :: b2 :: b3 :: r) = mk at hm ⊢
    have d0 : decide (N < 4) = false := by simp; omega
    clear hC hN h4 hn
    by_cases q0 : b0 = 80
    · subst q0
      by_cases q1 : b1 = 84
      · subst q1
        by_cases q2 : b2 = 73
        · subst q2
          by_cases q3 : b3 = 1
          · subst q3
            have hE : Aside0 (mk = 0) := ⟨by rw [hm, if_pos ⟨rfl, rfl, rfl, rfl⟩]⟩
            clear hm
            (go_enter Try.func79, Try.ntmps79; go_wp2; try (go_quiet (fail); go_wp2)); go_ret; rw [hE.out]; exact ⟨rfl, by repeat (first | exact Chg.refl _ _ | apply Chg.drewN)⟩
          · have hE : Aside0 (mk = 4) := ⟨by rw [hm, if_neg (fun h => q3 h.2.2.2)]⟩
            have t3 : (b3 != 1) = true := by simpa using q3
            clear hm
            (go_enter Try.func79, Try.ntmps79; go_wp2; try (go_quiet (fail); go_wp2)); go_ret; rw [hE.out]; exact ⟨rfl, by repeat (first | exact Chg.refl _ _ | apply Chg.drewN)⟩
        · have hE : Aside0 (mk = 4) := ⟨by rw [hm, if_neg (fun h => q2 h.2.2.1)]⟩
          have t2 : (b2 != 73) = true := by simpa using q2
          clear hm
          (go_enter Try.func79, Try.ntmps79; go_wp2; try (go_quiet (fail); go_wp2)); go_ret; rw [hE.out]; exact ⟨rfl, by repeat (first | exact Chg.refl _ _ | apply Chg.drewN)⟩
      · have hE : Aside0 (mk = 4) := ⟨by rw [hm, if_neg (fun h => q1 h.2.1)]⟩
        have t1 : (b1 != 84) = true := by simpa using q1
        clear hm
        (go_enter Try.func79, Try.ntmps79; go_wp2; try (go_quiet (fail); go_wp2)); go_ret; rw [hE.out]; exact ⟨rfl, by repeat (first | exact Chg.refl _ _ | apply Chg.drewN)⟩
    · have hE : Aside0 (mk = 4) := ⟨by rw [hm, if_neg (fun h => q0 h.1)]⟩
      have t0 : (b0 != 80) = true := by simpa using q0
      clear hm
      (go_enter Try.func79, Try.ntmps79; go_wp2; try (go_quiet (fail); go_wp2)); go_ret; rw [hE.out]; exact ⟨rfl, by repeat (first | exact Chg.refl _ _ | apply Chg.drewN)⟩

end Go.Proofs.Ytknboapnpccliaa.K
