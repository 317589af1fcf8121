import Derived.Test.YtdoghjmanogelaaQb
import Derived.Test.YtdoghjmanogelaaZa
import Derived.IntWalk
import Derived.BigQuiet
namespace Go.Proofs.Ytdoghjmanogelaa.K
open Go.RowKit Go.Proofs.YtdoghjmanogelaaW.PrintWords Go.Proofs.YtdoghjmanogelaaW.PrintLast Go.Proofs.YtdoghjmanogelaaW.PrintMore
set_option linter.unusedVariables false
set_option linter.unusedSimpArgs false
set_option maxRecDepth 100000

theorem qref_Jumps (w : World) (op : Int) : Calls Try.prog 84 #[.int .i64 op] w fun e w' => e = .returned (.bool (op == 40 || op == 41 || op == 42)) ∧ w' = w := by
  by_cases h0 : op = 40
  · subst h0
    go_enter Try.func84, Try.ntmps84
    go_wp2
    go_ret
    exact ⟨rfl, rfl⟩
  · have d0 : (op == 40) = false := by simpa using h0
    by_cases h1 : op = 41
    · subst h1
      clear d0 h0
      go_enter Try.func84, Try.ntmps84
      go_wp2
      go_ret
      exact ⟨rfl, rfl⟩
    · have d1 : (op == 41) = false := by simpa using h1
      clear h0 h1
      go_enter Try.func84, Try.ntmps84
      go_wp2
      go_ret
      exact ⟨by first | rfl | (rw [d0, d1]; rfl) | simp [d0, d1], rfl⟩

theorem qcode_Jumps (w : World) (op : Int) : Calls Try.prog 83 #[.int .i64 op] w fun e w' => e = .returned (.bool (op == 40 || op == 41 || op == 42)) ∧ w' = w := by
  by_cases h0 : 40 ≤ op
  · by_cases h1 : op ≤ 42
    · have hE : Aside0 ((op == 40 || op == 41 || op == 42) = true) := ⟨by simp; omega⟩
      have d0 : decide (40 ≤ op) = true := by simpa using h0
      have d1 : decide (op ≤ 42) = true := by simpa using h1
      go_enter Try.func83, Try.ntmps83
      go_wp2
      go_ret
      exact ⟨by rw [hE.out]; rfl, rfl⟩
    · have hE : Aside0 ((op == 40 || op == 41 || op == 42) = false) := ⟨by simp; omega⟩
      have d0 : decide (40 ≤ op) = true := by simpa using h0
      have d1 : decide (op ≤ 42) = false := by simpa using h1
      go_enter Try.func83, Try.ntmps83
      go_wp2
      go_ret
      exact ⟨by rw [hE.out]; rfl, rfl⟩
  · have hE : Aside0 ((op == 40 || op == 41 || op == 42) = false) := ⟨by simp; omega⟩
    have d0 : decide (40 ≤ op) = false := by simpa using h0
    go_enter Try.func83, Try.ntmps83
    go_wp2
    go_ret
    exact ⟨by rw [hE.out]; rfl, rfl⟩
/-- Is there a safe place? -/
def safeQP (l : List QI) (pc : Int) : Bool := if pc < 0 then false else match l[pc.toNat]? with
  | none => false
  | some x => x.op == 43 || (x.op == 40 || x.op == 41 || x.op == 42) && decide (x.a ≤ pc)

theorem qcode_Safe (w : World) (A : Option Addr) (n cap : Nat) (l : List QI) (pc : Int) (hC : Kd.C kQI w A n l) (hpc : pc ≤ 9223372036854775807) :
    Calls Try.prog 50 #[.slice A n cap, .int .i64 pc] w fun e w' => e = .returned (.bool (safeQP l pc)) ∧ w' = w := by
  have e0 := hC.1
  subst e0
  have hCA := Aside0.mk hC
  clear hC
  by_cases hneg : pc < 0
  · have hE : Aside0 (safeQP l pc = false) := ⟨by unfold safeQP; rw [if_pos hneg]⟩
    have d0 : decide (pc < 0) = true := by simpa using hneg
    clear hneg
    go_enter Try.func50, Try.ntmps50
    go_wp2
    go_ret
    exact ⟨by rw [hE.out]; rfl, rfl⟩
  · obtain ⟨k, rfl⟩ := Int.eq_ofNat_of_zero_le (show 0 ≤ pc by omega)
    clear hneg
    by_cases hlt : k < l.length
    · obtain ⟨ad, op, a, e1, e2, x0, x1⟩ := kQI_at hCA.out k hlt
      subst e1
      have hE : Aside0 (safeQP l k = (op == 43 || (op == 40 || op == 41 || op == 42) && decide (a ≤ k))) := ⟨by unfold safeQP; rw [if_neg (by omega), Int.toNat_natCast, e2]⟩
      clear e2
      have hk0 : (0 : Int) ≤ k := by omega
      have hk1 : (k : Int) < l.length := by omega
      have d0 : decide (l.length ≤ k) = false := by simp; omega
      clear hlt
      by_cases h43 : op = 43
      · subst h43
        go_enter Try.func50, Try.ntmps50
        go_wp2
        go_ret
        exact ⟨by rw [hE.out]; rfl, rfl⟩
      · have d1 : (op == 43) = false := by simpa using h43
        clear h43
        have hJ : Aside0 (∀ W, Calls Try.prog 83 #[.int .i64 op] W fun e w' => e = .returned (.bool (op == 40 || op == 41 || op == 42)) ∧ w' = W) := ⟨fun W => qcode_Jumps W op⟩
        have d1A := Aside0.mk d1
        generalize (op == 40 || op == 41 || op == 42) = J at hE hJ
        cases J
        · go_enter Try.func50, Try.ntmps50
          go_wp2_with (go_at_call 83; go_must (refine (hJ.out _).mono ?_); go_must (rintro e w1 ⟨rfl, rfl⟩))
          go_ret
          exact ⟨by rw [hE.out, d1A.out]; rfl, rfl⟩
        · go_enter Try.func50, Try.ntmps50
          go_wp2_with (go_at_call 83; go_must (refine (hJ.out _).mono ?_); go_must (rintro e w1 ⟨rfl, rfl⟩))
          go_ret
          exact ⟨by rw [hE.out, d1A.out]; simp, rfl⟩
    · have hE : Aside0 (safeQP l k = false) := ⟨by unfold safeQP; rw [if_neg (by omega), Int.toNat_natCast, List.getElem?_eq_none (by omega)]⟩
      have d0 : decide (l.length ≤ k) = true := by simp; omega
      clear hlt
      go_enter Try.func50, Try.ntmps50
      go_wp2
      go_ret
      exact ⟨by rw [hE.out]; rfl, rfl⟩

theorem qref_Safe (w : World) (A : Option Addr) (n cap : Nat) (l : List QI) (pc : Int) (hC : Kd.C kQI w A n l) (hpc : pc ≤ 9223372036854775807) :
    Calls Try.prog 52 #[.slice A n cap, .int .i64 pc] w fun e w' => e = .returned (.bool (safeQP l pc)) ∧ w' = w := by
  have e0 := hC.1
  subst e0
  have hCA := Aside0.mk hC
  clear hC
  by_cases hneg : pc < 0
  · have hE : Aside0 (safeQP l pc = false) := ⟨by unfold safeQP; rw [if_pos hneg]⟩
    have d0 : decide (pc < 0) = true := by simpa using hneg
    clear hneg
    go_enter Try.func52, Try.ntmps52
    go_wp2
    go_ret
    exact ⟨by rw [hE.out]; rfl, rfl⟩
  · obtain ⟨k, rfl⟩ := Int.eq_ofNat_of_zero_le (show 0 ≤ pc by omega)
    clear hneg
    by_cases hlt : k < l.length
    · obtain ⟨ad, op, a, e1, e2, x0, x1⟩ := kQI_at hCA.out k hlt
      subst e1
      have hE : Aside0 (safeQP l k = (op == 43 || (op == 40 || op == 41 || op == 42) && decide (a ≤ k))) := ⟨by unfold safeQP; rw [if_neg (by omega), Int.toNat_natCast, e2]⟩
      clear e2
      have hk0 : (0 : Int) ≤ k := by omega
      have hk1 : (k : Int) < l.length := by omega
      have d0 : decide (l.length ≤ k) = false := by simp; omega
      clear hlt
      by_cases h43 : op = 43
      · subst h43
        go_enter Try.func52, Try.ntmps52
        go_wp2
        go_ret
        exact ⟨by rw [hE.out]; rfl, rfl⟩
      · have d1 : (op == 43) = false := by simpa using h43
        clear h43
        have hJ : Aside0 (∀ W, Calls Try.prog 84 #[.int .i64 op] W fun e w' => e = .returned (.bool (op == 40 || op == 41 || op == 42)) ∧ w' = W) := ⟨fun W => qref_Jumps W op⟩
        have d1A := Aside0.mk d1
        generalize (op == 40 || op == 41 || op == 42) = J at hE hJ
        cases J
        · go_enter Try.func52, Try.ntmps52
          go_wp2_with (go_at_call 84; go_must (refine (hJ.out _).mono ?_); go_must (rintro e w1 ⟨rfl, rfl⟩))
          go_ret
          exact ⟨by rw [hE.out, d1A.out]; rfl, rfl⟩
        · go_enter Try.func52, Try.ntmps52
          go_wp2_with (go_at_call 84; go_must (refine (hJ.out _).mono ?_); go_must (rintro e w1 ⟨rfl, rfl⟩))
          go_ret
          exact ⟨by rw [hE.out, d1A.out]; simp, rfl⟩
    · have hE : Aside0 (safeQP l k = false) := ⟨by unfold safeQP; rw [if_neg (by omega), Int.toNat_natCast, List.getElem?_eq_none (by omega)]⟩
      have d0 : decide (l.length ≤ k) = true := by simp; omega
      clear hlt
      go_enter Try.func52, Try.ntmps52
      go_wp2
      go_ret
      exact ⟨by rw [hE.out]; rfl, rfl⟩

end Go.Proofs.Ytdoghjmanogelaa.K
