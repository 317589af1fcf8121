import Derived.Test.YthmghcjkmmhgnaaCf
import Derived.BigQuiet
namespace Go.Proofs.Ythmghcjkmmhgnaa.K
open Go.RowKit Go.Proofs.YthmghcjkmmhgnaaW.PrintWords Go.Proofs.YthmghcjkmmhgnaaW.PrintLast Go.Proofs.YthmghcjkmmhgnaaW.PrintMore
set_option linter.unusedVariables false
set_option linter.unusedSimpArgs false
set_option maxRecDepth 100000

theorem named_T : ∀ k : Fin 67, findP (opTab.getD k.val noRow).name = ((k.val : Int), true) ∧ (2 ≤ (opTab.getD k.val noRow).name.size ∧ (opTab.getD k.val noRow).name.size ≤ 100) ∧ (opTab.getD k.val noRow).name.data.toList.all (fun c => decide (97 ≤ c.toNat ∧ c.toNat ≤ 122)) = true := by decide +kernel
theorem ba_all {s : ByteArray} {p : UInt8 → Bool} (h : s.data.toList.all p = true) (i : Nat) (hi : i < s.size) : p (s[i]'hi) = true :=
  List.all_eq_true.1 h _ (Array.mem_toList_iff.2 (Array.getElem_mem (xs := s.data) hi))
theorem law_codeNamed (w : World) : Calls Try.prog 6 #[] w fun e w' => e = .returned (.bool true) ∧ Below w.heap.size w w' := by
  go_enter Try.func6, Try.ntmps6
  go_wp2
  go_loopw [1, 2, 3, 4, 5, 6] (fun i _ _ _ _ _ wr => ∃ op : Int, i = .int .i64 op ∧ -3 ≤ op ∧ op ≤ 80 ∧ Aside0 (Chg (fun _ => False) w wr)) (fun i _ _ _ _ _ _ => (80 - intOf i).toNat)
  case atStart => exact ⟨-3, rfl, by omega, by omega, ⟨Chg.refl _ _⟩⟩
  case round =>
    obtain ⟨op, rfl, hk0, hk1, hCh⟩ := hrel
    by_cases hlt : op < 80
    · have d9 : decide (op < 80) = true := by simpa using hlt
      by_cases hok : 0 ≤ op ∧ op < 67
      · obtain ⟨k, rfl⟩ := Int.eq_ofNat_of_zero_le hok.1
        have hk : k < 67 := by omega
        obtain ⟨e1, e2⟩ := rowP_at hk
        obtain ⟨t1, t2, t3⟩ := named_T ⟨k, hk⟩
        simp only at t1 t2 t3
        have hcall : Aside0 (∀ W, Calls Try.prog 27 #[.int .i64 (k : Int)] W fun e w' => e = .returned (.tuple #[.string (opTab.getD k noRow).name, .bool true]) ∧ Chg (fun _ => False) W w') := ⟨fun W => by have := code_Name W k; rw [e1, e2] at this; exact this⟩
        have hfind : Aside0 (∀ W, Calls Try.prog 29 #[.string (opTab.getD k noRow).name] W fun e w' => e = .returned (.tuple #[.int .i64 (k : Int), .bool true]) ∧ Chg (fun _ => False) W w') := ⟨fun W => by have := code_Find W (opTab.getD k noRow).name; rw [t1] at this; exact this⟩
        generalize (opTab.getD k noRow).name = nm at hcall hfind t2 t3
        have t3A := Aside0.mk t3
        obtain ⟨hlen, hlen2⟩ := t2
        have d0 : decide (0 ≤ (k : Int)) = true := by simp
        have d1 : decide ((k : Int) < 67) = true := by simp; omega
        have d2 : decide (k < 67) = true := by simp; omega
        have d3 : decide (nm.size < 2) = false := by simp; omega
        clear t1 t3 e1 e2 hok hk
        go_wp2_with (first | (go_at_call 27; go_must (refine (hcall.out _).mono ?_); go_must (rintro e w1 ⟨rfl, hc1⟩); go_must (replace hc1 := Aside0.mk hc1)) | (go_at_call 29; go_must (refine (hfind.out _).mono ?_); go_must (rintro e w2 ⟨rfl, hc2⟩); go_must (replace hc2 := Aside0.mk hc2)))
        have hc3 := Aside0.mk ((hCh.out.trans hc1.out (fun _ _ h => h)).trans hc2.out (fun _ _ h => h))
        go_loopw [6] (fun i wr => wr = w2 ∧ ∃ j : Nat, i = .int .i64 j ∧ j ≤ nm.size) (fun i _ => nm.size - (intOf i).toNat)
        case atStart => exact ⟨rfl, 0, rfl, by omega⟩
        case round =>
          obtain ⟨rfl, j, rfl, hj⟩ := hrel
          by_cases hl2 : j < nm.size
          · have hb := ba_all t3A.out j hl2
            simp only [decide_eq_true_eq] at hb
            obtain ⟨c, hc⟩ : ∃ c, c = (nm[j]'hl2).toNat := ⟨_, rfl⟩
            rw [← hc] at hb
            replace hc := hc.symm
            have q0 : decide (c < 97) = false := by simp; omega
            have q1 : decide (122 < c) = false := by simp; omega
            have j0 : (0 : Int) ≤ j := by omega
            have j1 : (j : Int) < nm.size := by omega
            have q2 : decide ((122 : Int) < (c : Int)) = false := by simp; omega
            have q3 : decide ((c : Int) > 122) = false := by simp; omega
            obtain ⟨hb0, hb1⟩ := hb
            go_wp2
            go_roundw
            case measure => first | (simp [intOf]; done) | (simp [intOf]; omega)
            case rel => exact ⟨by first | trivial | rfl, j + 1, by go_num, by omega⟩
          · obtain rfl : j = nm.size := by omega
            go_wp2
            go_roundw
            case measure => first | (simp [intOf]; done) | (simp [intOf]; omega)
            case rel => exact ⟨(k : Int) + 1, by first | rfl | go_num, by omega, by omega, hc3⟩
      · obtain ⟨e1, e2⟩ := rowP_not hok
        have hcall : Aside0 (∀ W, Calls Try.prog 27 #[.int .i64 op] W fun e w' => e = .returned (.tuple #[.string ⟨#[]⟩, .bool false]) ∧ Chg (fun _ => False) W w') := ⟨fun W => by have := code_Name W op; rw [e1, e2] at this; exact this⟩
        by_cases hneg : op < 0
        · have d0 : decide (0 ≤ op) = false := by simp; omega
          clear hneg hok
          go_wp2_with (go_at_call 27; go_must (refine (hcall.out _).mono ?_); go_must (rintro e w1 ⟨rfl, hc1⟩); go_must (replace hc1 := Aside0.mk hc1))
          go_roundw
          case measure => first | (simp [intOf]; done) | (simp [intOf]; omega)
          case rel => exact ⟨op + 1, by first | rfl | go_num, by omega, by omega, ⟨hCh.out.trans hc1.out (fun _ _ h => h)⟩⟩
        · have d0 : decide (0 ≤ op) = true := by simp; omega
          have d1 : decide (op < 67) = false := by simp; omega
          clear hneg hok
          go_wp2_with (go_at_call 27; go_must (refine (hcall.out _).mono ?_); go_must (rintro e w1 ⟨rfl, hc1⟩); go_must (replace hc1 := Aside0.mk hc1))
          go_roundw
          case measure => first | (simp [intOf]; done) | (simp [intOf]; omega)
          case rel => exact ⟨op + 1, by first | rfl | go_num, by omega, by omega, ⟨hCh.out.trans hc1.out (fun _ _ h => h)⟩⟩
    · have d9 : decide (op < 80) = false := by simpa using hlt
      go_wp2
      go_ret
      exact ⟨rfl, hCh.out.below (fun _ _ h => h)⟩

end Go.Proofs.Ythmghcjkmmhgnaa.K
