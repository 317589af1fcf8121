import Derived.Test.YthmghcjkmmhgnaaCa
import Derived.BigQuiet
namespace Go.Proofs.Ythmghcjkmmhgnaa.K
open Go.RowKit Go.Proofs.YthmghcjkmmhgnaaW.PrintWords Go.Proofs.YthmghcjkmmhgnaaW.PrintLast Go.Proofs.YthmghcjkmmhgnaaW.PrintMore
set_option linter.unusedVariables false
set_option linter.unusedSimpArgs false
set_option maxRecDepth 100000

theorem ref_Jumps (w : World) (op : Int) : Calls Try.prog 25 #[.int .i64 op] w fun e w' => e = .returned (.bool (op == 40 || op == 41 || op == 42)) ∧ w' = w := by
  by_cases h0 : op = 40
  · subst h0
    go_enter Try.func25, Try.ntmps25
    go_wp2
    go_ret
    exact ⟨rfl, rfl⟩
  · have d0 : (op == 40) = false := by simpa using h0
    by_cases h1 : op = 41
    · subst h1
      clear d0 h0
      go_enter Try.func25, Try.ntmps25
      go_wp2
      go_ret
      exact ⟨rfl, rfl⟩
    · have d1 : (op == 41) = false := by simpa using h1
      clear h0 h1
      go_enter Try.func25, Try.ntmps25
      go_wp2
      go_ret
      exact ⟨by first | rfl | (rw [d0, d1]; rfl) | simp [d0, d1], rfl⟩

theorem ref_Ends (w : World) (op : Int) : Calls Try.prog 23 #[.int .i64 op] w fun e w' => e = .returned (.bool (op == 40 || op == 44 || op == 45)) ∧ w' = w := by
  by_cases h0 : op = 40
  · subst h0
    go_enter Try.func23, Try.ntmps23
    go_wp2
    go_ret
    exact ⟨rfl, rfl⟩
  · have d0 : (op == 40) = false := by simpa using h0
    by_cases h1 : op = 44
    · subst h1
      clear d0 h0
      go_enter Try.func23, Try.ntmps23
      go_wp2
      go_ret
      exact ⟨rfl, rfl⟩
    · have d1 : (op == 44) = false := by simpa using h1
      clear h0 h1
      go_enter Try.func23, Try.ntmps23
      go_wp2
      go_ret
      exact ⟨by first | rfl | (rw [d0, d1]; rfl) | simp [d0, d1], rfl⟩

theorem code_Ends (w : World) (op : Int) : Calls Try.prog 22 #[.int .i64 op] w fun e w' => e = .returned (.bool (op == 40 || op == 44 || op == 45)) ∧ w' = w := by
  by_cases h0 : op = 40
  · subst h0
    go_enter Try.func22, Try.ntmps22
    go_wp2
    go_ret
    exact ⟨rfl, rfl⟩
  · have d0 : (op == 40) = false := by simpa using h0
    by_cases h1 : op = 44
    · subst h1
      clear d0 h0
      go_enter Try.func22, Try.ntmps22
      go_wp2
      go_ret
      exact ⟨rfl, rfl⟩
    · have d1 : (op == 44) = false := by simpa using h1
      clear h0 h1
      go_enter Try.func22, Try.ntmps22
      go_wp2
      go_ret
      exact ⟨by first | rfl | (rw [d0, d1]; rfl) | simp [d0, d1], rfl⟩

theorem code_Jumps (w : World) (op : Int) : Calls Try.prog 24 #[.int .i64 op] w fun e w' => e = .returned (.bool (op == 40 || op == 41 || op == 42)) ∧ w' = w := by
  by_cases h0 : 40 ≤ op
  · by_cases h1 : op ≤ 42
    · have hE : Aside0 ((op == 40 || op == 41 || op == 42) = true) := ⟨by simp; omega⟩
      have d0 : decide (40 ≤ op) = true := by simpa using h0
      have d1 : decide (op ≤ 42) = true := by simpa using h1
      go_enter Try.func24, Try.ntmps24
      go_wp2
      go_ret
      exact ⟨by rw [hE.out]; rfl, rfl⟩
    · have hE : Aside0 ((op == 40 || op == 41 || op == 42) = false) := ⟨by simp; omega⟩
      have d0 : decide (40 ≤ op) = true := by simpa using h0
      have d1 : decide (op ≤ 42) = false := by simpa using h1
      go_enter Try.func24, Try.ntmps24
      go_wp2
      go_ret
      exact ⟨by rw [hE.out]; rfl, rfl⟩
  · have hE : Aside0 ((op == 40 || op == 41 || op == 42) = false) := ⟨by simp; omega⟩
    have d0 : decide (40 ≤ op) = false := by simpa using h0
    go_enter Try.func24, Try.ntmps24
    go_wp2
    go_ret
    exact ⟨by rw [hE.out]; rfl, rfl⟩
/-- Is there a safe place? -/
def safeP (l : List Instr) (pc : Int) : Bool := if pc < 0 then false else match l[pc.toNat]? with
  | none => false
  | some x => x.op == 43 || (x.op == 40 || x.op == 41 || x.op == 42) && decide (x.a ≤ pc)

theorem code_Safe (w : World) (A : Option Addr) (n cap : Nat) (l : List Instr) (pc : Int) (hC : Kd.C kInstr w A n l) (hpc : pc ≤ 9223372036854775807) :
    Calls Try.prog 18 #[.slice A n cap, .int .i64 pc] w fun e w' => e = .returned (.bool (safeP l pc)) ∧ w' = w := by
  have e0 := hC.1
  subst e0
  have hCA := Aside0.mk hC
  clear hC
  by_cases hneg : pc < 0
  · have hE : Aside0 (safeP l pc = false) := ⟨by unfold safeP; rw [if_pos hneg]⟩
    have d0 : decide (pc < 0) = true := by simpa using hneg
    clear hneg
    go_enter Try.func18, Try.ntmps18
    go_wp2
    go_ret
    exact ⟨by rw [hE.out]; rfl, rfl⟩
  · obtain ⟨k, rfl⟩ := Int.eq_ofNat_of_zero_le (show 0 ≤ pc by omega)
    clear hneg
    by_cases hlt : k < l.length
    · obtain ⟨ad, op, a, e1, e2, x0, x1⟩ := instr_at hCA.out k hlt
      subst e1
      have hE : Aside0 (safeP l k = (op == 43 || (op == 40 || op == 41 || op == 42) && decide (a ≤ k))) := ⟨by unfold safeP; rw [if_neg (by omega), Int.toNat_natCast, e2]⟩
      clear e2
      have hk0 : (0 : Int) ≤ k := by omega
      have hk1 : (k : Int) < l.length := by omega
      have d0 : decide (l.length ≤ k) = false := by simp; omega
      clear hlt
      by_cases h43 : op = 43
      · subst h43
        go_enter Try.func18, Try.ntmps18
        go_wp2
        go_ret
        exact ⟨by rw [hE.out]; rfl, rfl⟩
      · have d1 : (op == 43) = false := by simpa using h43
        clear h43
        have hJ : Aside0 (∀ W, Calls Try.prog 24 #[.int .i64 op] W fun e w' => e = .returned (.bool (op == 40 || op == 41 || op == 42)) ∧ w' = W) := ⟨fun W => code_Jumps W op⟩
        have d1A := Aside0.mk d1
        generalize (op == 40 || op == 41 || op == 42) = J at hE hJ
        cases J
        · go_enter Try.func18, Try.ntmps18
          go_wp2_with (go_at_call 24; go_must (refine (hJ.out _).mono ?_); go_must (rintro e w1 ⟨rfl, rfl⟩))
          go_ret
          exact ⟨by rw [hE.out, d1A.out]; rfl, rfl⟩
        · go_enter Try.func18, Try.ntmps18
          go_wp2_with (go_at_call 24; go_must (refine (hJ.out _).mono ?_); go_must (rintro e w1 ⟨rfl, rfl⟩))
          go_ret
          exact ⟨by rw [hE.out, d1A.out]; simp, rfl⟩
    · have hE : Aside0 (safeP l k = false) := ⟨by unfold safeP; rw [if_neg (by omega), Int.toNat_natCast, List.getElem?_eq_none (by omega)]⟩
      have d0 : decide (l.length ≤ k) = true := by simp; omega
      clear hlt
      go_enter Try.func18, Try.ntmps18
      go_wp2
      go_ret
      exact ⟨by rw [hE.out]; rfl, rfl⟩

theorem ref_Safe (w : World) (A : Option Addr) (n cap : Nat) (l : List Instr) (pc : Int) (hC : Kd.C kInstr w A n l) (hpc : pc ≤ 9223372036854775807) :
    Calls Try.prog 16 #[.slice A n cap, .int .i64 pc] w fun e w' => e = .returned (.bool (safeP l pc)) ∧ w' = w := by
  have e0 := hC.1
  subst e0
  have hCA := Aside0.mk hC
  clear hC
  by_cases hneg : pc < 0
  · have hE : Aside0 (safeP l pc = false) := ⟨by unfold safeP; rw [if_pos hneg]⟩
    have d0 : decide (pc < 0) = true := by simpa using hneg
    clear hneg
    go_enter Try.func16, Try.ntmps16
    go_wp2
    go_ret
    exact ⟨by rw [hE.out]; rfl, rfl⟩
  · obtain ⟨k, rfl⟩ := Int.eq_ofNat_of_zero_le (show 0 ≤ pc by omega)
    clear hneg
    by_cases hlt : k < l.length
    · obtain ⟨ad, op, a, e1, e2, x0, x1⟩ := instr_at hCA.out k hlt
      subst e1
      have hE : Aside0 (safeP l k = (op == 43 || (op == 40 || op == 41 || op == 42) && decide (a ≤ k))) := ⟨by unfold safeP; rw [if_neg (by omega), Int.toNat_natCast, e2]⟩
      clear e2
      have hk0 : (0 : Int) ≤ k := by omega
      have hk1 : (k : Int) < l.length := by omega
      have d0 : decide (l.length ≤ k) = false := by simp; omega
      clear hlt
      by_cases h43 : op = 43
      · subst h43
        go_enter Try.func16, Try.ntmps16
        go_wp2
        go_ret
        exact ⟨by rw [hE.out]; rfl, rfl⟩
      · have d1 : (op == 43) = false := by simpa using h43
        clear h43
        have hJ : Aside0 (∀ W, Calls Try.prog 25 #[.int .i64 op] W fun e w' => e = .returned (.bool (op == 40 || op == 41 || op == 42)) ∧ w' = W) := ⟨fun W => ref_Jumps W op⟩
        have d1A := Aside0.mk d1
        generalize (op == 40 || op == 41 || op == 42) = J at hE hJ
        cases J
        · go_enter Try.func16, Try.ntmps16
          go_wp2_with (go_at_call 25; go_must (refine (hJ.out _).mono ?_); go_must (rintro e w1 ⟨rfl, rfl⟩))
          go_ret
          exact ⟨by rw [hE.out, d1A.out]; rfl, rfl⟩
        · go_enter Try.func16, Try.ntmps16
          go_wp2_with (go_at_call 25; go_must (refine (hJ.out _).mono ?_); go_must (rintro e w1 ⟨rfl, rfl⟩))
          go_ret
          exact ⟨by rw [hE.out, d1A.out]; simp, rfl⟩
    · have hE : Aside0 (safeP l k = false) := ⟨by unfold safeP; rw [if_neg (by omega), Int.toNat_natCast, List.getElem?_eq_none (by omega)]⟩
      have d0 : decide (l.length ≤ k) = true := by simp; omega
      clear hlt
      go_enter Try.func16, Try.ntmps16
      go_wp2
      go_ret
      exact ⟨by rw [hE.out]; rfl, rfl⟩

theorem law_codeSafe (w : World) (A : Option Addr) (n cap : Nat) (l : List Instr) (pc : Int) (hC : Kd.C kInstr w A n l) (hn : l.length ≤ 8796093022100) (h1 : pc ≤ 9223372036854775807) :
    Calls Try.prog 3 #[.slice A n cap, .int .i64 pc] w fun e w' => e = .returned (.bool true) ∧ Below w.heap.size w w' := by
  have e0 := hC.1
  subst e0
  have hCA := Aside0.mk hC
  clear hC
  go_enter Try.func3, Try.ntmps3
  go_wp2_with (first | (go_at_call 16; go_must (refine (ref_Safe _ A l.length cap l pc hCA.out h1).mono ?_); go_must (rintro e w1 ⟨rfl, rfl⟩)) | (go_at_call 17; go_must (refine (lentInstrs _ A l.length cap l hCA.out hn).mono ?_); go_must (rintro e w2 ⟨v2, rfl, hr2, hc2⟩); go_must (obtain ⟨A2, n2, cap2, rfl⟩ := R_sl hr2); go_must (obtain ⟨q1, q2, q3⟩ := Kd.R_reads' hr2); go_must (rw [List.length_append, lentMarks_length] at q1 q3); go_must (subst q1); go_must (replace q3 := Aside0.mk q3); go_must (have q4 := Aside0.mk (Kd.R_reads' (Kd.R_take hr2 (m := l.length) (by simp))).2.2); go_must (rw [List.take_left] at q4); go_must (clear hr2); go_must (replace hc2 := Aside0.mk hc2); go_must (have hle : l.length ≤ cap2 := by omega)) | (go_at_call 18; go_must (refine (code_Safe _ A2 l.length cap2 l pc q4.out h1).mono ?_); go_must (rintro e w3 ⟨rfl, rfl⟩)) | (go_at_call 19; go_must (refine (keptInstrs _ A2 A _ cap2 l.length cap l q3.out (C_chg hCA.out (hc2.out.below (fun _ _ h => h))) hn).mono ?_); go_must (rintro e w4 ⟨rfl, hc4⟩); go_must (replace hc4 := Aside0.mk hc4)))
  go_ret
  exact ⟨rfl, (hc2.out.trans hc4.out (fun _ _ h => h)).below (fun _ _ h => h)⟩

end Go.Proofs.Ythmghcjkmmhgnaa.K
