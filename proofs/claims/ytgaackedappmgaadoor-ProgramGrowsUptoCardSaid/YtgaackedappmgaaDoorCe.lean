import Derived.Test.YtgaackedappmgaaDoorCd
import Derived.BigQuiet
namespace Go.Proofs.YtgaackedappmgaaDoor.K
open Go.RowKit Go.Proofs.YtgaackedappmgaaDoorW.PrintWords Go.Proofs.YtgaackedappmgaaDoorW.PrintLast Go.Proofs.YtgaackedappmgaaDoorW.PrintMore
set_option linter.unusedVariables false
set_option linter.unusedSimpArgs false
set_option maxRecDepth 100000
theorem code_Operand (w : World) (op : Int) : Calls Tryd.prog 61 #[.int .i64 op] w fun e w' => e = .returned (.tuple #[.int .i64 (rowP op).kind, .bool (okP op)]) ∧ Chg (fun _ => False) w w' := by
  obtain ⟨b0, b1, _, _, _, _⟩ := rowP_bounds op
  generalize er : rowP op = r at b0 b1 ⊢
  generalize eb : okP op = b
  have hrow : Aside0 (∀ W, Calls Tryd.prog 65 #[.int .i64 op] W fun e w' => e = .returned (.tuple #[.agg #[.string r.name, .int .u8 r.kind, .int .u8 r.takes, .int .u8 r.puts, .bool r.many], .bool b]) ∧ Chg (fun _ => False) W w') := ⟨fun W => by have := code_rowOf W op; rw [er, eb] at this; exact this⟩
  clear er eb
  have hw := i64_small b0 (by omega)
  go_enter Tryd.func61, Tryd.ntmps61
  go_wp2_with (go_at_call 65; go_must (refine (hrow.out _).mono ?_); go_must (rintro e w1 ⟨rfl, hc1⟩); go_must (replace hc1 := Aside0.mk hc1))
  go_ret2
  exact ⟨rfl, by repeat (first | exact hc1.out | apply Chg.drewN | apply Chg.alloc | (refine Chg.setCell ?_ (fun h => ?_) _))⟩
theorem kind_gen : ∀ k : Fin 67, k.val ≠ 4 ∧ k.val ≠ 40 ∧ k.val ≠ 41 ∧ k.val ≠ 42 ∧ k.val ≠ 10 ∧ k.val ≠ 11 ∧ k.val ≠ 5 ∧ k.val ≠ 53 ∧ k.val ≠ 54 ∧ k.val ≠ 55 ∧ k.val ≠ 56 ∧ k.val ≠ 6 ∧ k.val ≠ 43 ∧ k.val ≠ 46 ∧ k.val ≠ 47 ∧ k.val ≠ 60 ∧ k.val ≠ 24 ∧ k.val ≠ 62 → (opTab.getD k.val noRow).kind = 0 := by decide +kernel
theorem ref_Operand (w : World) (op : Int) : Calls Tryd.prog 47 #[.int .i64 op] w fun e w' => e = .returned (.tuple #[.int .i64 (rowP op).kind, .bool (okP op)]) ∧ w' = w := by
  by_cases hneg : op < 0
  · obtain ⟨e1, e2⟩ := rowP_not (op := op) (by omega)
    rw [e1, e2]
    have d0 : decide (op < 0) = true := by simpa using hneg
    clear hneg e1 e2
    go_enter Tryd.func47, Tryd.ntmps47
    go_wp2
    go_ret2
    exact ⟨rfl, rfl⟩
  by_cases hbig : 67 ≤ op
  · obtain ⟨e1, e2⟩ := rowP_not (op := op) (by omega)
    rw [e1, e2]
    have d0 : decide (op < 0) = false := by simpa using hneg
    have d1 : decide (67 ≤ op) = true := by simpa using hbig
    clear hneg hbig e1 e2
    go_enter Tryd.func47, Tryd.ntmps47
    go_wp2
    go_ret2
    exact ⟨rfl, rfl⟩
  have hb0 : decide (op < 0) = false := by simpa using hneg
  have hb1 : decide (67 ≤ op) = false := by simpa using hbig
  have hgen : Aside0 (op ≠ 4 ∧ op ≠ 40 ∧ op ≠ 41 ∧ op ≠ 42 ∧ op ≠ 10 ∧ op ≠ 11 ∧ op ≠ 5 ∧ op ≠ 53 ∧ op ≠ 54 ∧ op ≠ 55 ∧ op ≠ 56 ∧ op ≠ 6 ∧ op ≠ 43 ∧ op ≠ 46 ∧ op ≠ 47 ∧ op ≠ 60 ∧ op ≠ 24 ∧ op ≠ 62 → (rowP op).kind = 0 ∧ okP op = true) := ⟨by
    intro hn
    obtain ⟨k, rfl⟩ := Int.eq_ofNat_of_zero_le (show 0 ≤ op by omega)
    obtain ⟨e1, e2⟩ := rowP_at (k := k) (by omega)
    rw [e1]
    exact ⟨kind_gen ⟨k, by omega⟩ (by simp only; omega), e2⟩⟩
  clear hneg hbig
  by_cases h4 : op = 4
  · subst h4
    clear hb0 hb1 hgen
    go_enter Tryd.func47, Tryd.ntmps47
    go_wp2
    go_ret2
    exact ⟨rfl, rfl⟩
  have d4 : (op == 4) = false := by simpa using h4
  by_cases h40 : op = 40
  · subst h40
    clear hb0 hb1 hgen
    go_enter Tryd.func47, Tryd.ntmps47
    go_wp2
    go_ret2
    exact ⟨rfl, rfl⟩
  have d40 : (op == 40) = false := by simpa using h40
  by_cases h41 : op = 41
  · subst h41
    clear hb0 hb1 hgen
    go_enter Tryd.func47, Tryd.ntmps47
    go_wp2
    go_ret2
    exact ⟨rfl, rfl⟩
  have d41 : (op == 41) = false := by simpa using h41
  by_cases h42 : op = 42
  · subst h42
    clear hb0 hb1 hgen
    go_enter Tryd.func47, Tryd.ntmps47
    go_wp2
    go_ret2
    exact ⟨rfl, rfl⟩
  have d42 : (op == 42) = false := by simpa using h42
  by_cases h10 : op = 10
  · subst h10
    clear hb0 hb1 hgen
    go_enter Tryd.func47, Tryd.ntmps47
    go_wp2
    go_ret2
    exact ⟨rfl, rfl⟩
  have d10 : (op == 10) = false := by simpa using h10
  by_cases h11 : op = 11
  · subst h11
    clear hb0 hb1 hgen
    go_enter Tryd.func47, Tryd.ntmps47
    go_wp2
    go_ret2
    exact ⟨rfl, rfl⟩
  have d11 : (op == 11) = false := by simpa using h11
  by_cases h5 : op = 5
  · subst h5
    clear hb0 hb1 hgen
    go_enter Tryd.func47, Tryd.ntmps47
    go_wp2
    go_ret2
    exact ⟨rfl, rfl⟩
  have d5 : (op == 5) = false := by simpa using h5
  by_cases h53 : op = 53
  · subst h53
    clear hb0 hb1 hgen
    go_enter Tryd.func47, Tryd.ntmps47
    go_wp2
    go_ret2
    exact ⟨rfl, rfl⟩
  have d53 : (op == 53) = false := by simpa using h53
  by_cases h54 : op = 54
  · subst h54
    clear hb0 hb1 hgen
    go_enter Tryd.func47, Tryd.ntmps47
    go_wp2
    go_ret2
    exact ⟨rfl, rfl⟩
  have d54 : (op == 54) = false := by simpa using h54
  by_cases h55 : op = 55
  · subst h55
    clear hb0 hb1 hgen
    go_enter Tryd.func47, Tryd.ntmps47
    go_wp2
    go_ret2
    exact ⟨rfl, rfl⟩
  have d55 : (op == 55) = false := by simpa using h55
  by_cases h56 : op = 56
  · subst h56
    clear hb0 hb1 hgen
    go_enter Tryd.func47, Tryd.ntmps47
    go_wp2
    go_ret2
    exact ⟨rfl, rfl⟩
  have d56 : (op == 56) = false := by simpa using h56
  by_cases h6 : op = 6
  · subst h6
    clear hb0 hb1 hgen
    go_enter Tryd.func47, Tryd.ntmps47
    go_wp2
    go_ret2
    exact ⟨rfl, rfl⟩
  have d6 : (op == 6) = false := by simpa using h6
  by_cases h43 : op = 43
  · subst h43
    clear hb0 hb1 hgen
    go_enter Tryd.func47, Tryd.ntmps47
    go_wp2
    go_ret2
    exact ⟨rfl, rfl⟩
  have d43 : (op == 43) = false := by simpa using h43
  by_cases h46 : op = 46
  · subst h46
    clear hb0 hb1 hgen
    go_enter Tryd.func47, Tryd.ntmps47
    go_wp2
    go_ret2
    exact ⟨rfl, rfl⟩
  have d46 : (op == 46) = false := by simpa using h46
  by_cases h47 : op = 47
  · subst h47
    clear hb0 hb1 hgen
    go_enter Tryd.func47, Tryd.ntmps47
    go_wp2
    go_ret2
    exact ⟨rfl, rfl⟩
  have d47 : (op == 47) = false := by simpa using h47
  by_cases h60 : op = 60
  · subst h60
    clear hb0 hb1 hgen
    go_enter Tryd.func47, Tryd.ntmps47
    go_wp2
    go_ret2
    exact ⟨rfl, rfl⟩
  have d60 : (op == 60) = false := by simpa using h60
  by_cases h24 : op = 24
  · subst h24
    clear hb0 hb1 hgen
    go_enter Tryd.func47, Tryd.ntmps47
    go_wp2
    go_ret2
    exact ⟨rfl, rfl⟩
  have d24 : (op == 24) = false := by simpa using h24
  by_cases h62 : op = 62
  · subst h62
    clear hb0 hb1 hgen
    go_enter Tryd.func47, Tryd.ntmps47
    go_wp2
    go_ret2
    exact ⟨rfl, rfl⟩
  have d62 : (op == 62) = false := by simpa using h62
  obtain ⟨e1, e2⟩ := hgen.out (by omega)
  rw [e1, e2]
  clear h4 h40 h41 h42 h10 h11 h5 h53 h54 h55 h56 h6 h43 h46 h47 h60 h24 h62 hgen e1 e2
  go_enter Tryd.func47, Tryd.ntmps47
  go_wp2
  go_ret2
  exact ⟨rfl, rfl⟩
