import Derived.Test.YthmghcjkmmhgnaaCe
import Derived.BigQuiet
namespace Go.Proofs.Ythmghcjkmmhgnaa.K
open Go.RowKit Go.Proofs.YthmghcjkmmhgnaaW.PrintWords Go.Proofs.YthmghcjkmmhgnaaW.PrintLast Go.Proofs.YthmghcjkmmhgnaaW.PrintMore
set_option linter.unusedVariables false
set_option linter.unusedSimpArgs false
set_option maxRecDepth 100000

theorem law_codeKinds (w : World) (op : Int) : Calls Try.prog 4 #[.int .i64 op] w fun e w' => e = .returned (.bool true) ∧ Below w.heap.size w w' := by
  have h1 : Aside0 (∀ W, Calls Try.prog 20 #[.int .i64 op] W _) := ⟨fun W => ref_Operand W op⟩
  have h2 : Aside0 (∀ W, Calls Try.prog 21 #[.int .i64 op] W _) := ⟨fun W => code_Operand W op⟩
  have h3 : Aside0 (∀ W, Calls Try.prog 22 #[.int .i64 op] W _) := ⟨fun W => code_Ends W op⟩
  have h4 : Aside0 (∀ W, Calls Try.prog 23 #[.int .i64 op] W _) := ⟨fun W => ref_Ends W op⟩
  have h5 : Aside0 (∀ W, Calls Try.prog 24 #[.int .i64 op] W _) := ⟨fun W => code_Jumps W op⟩
  have h6 : Aside0 (∀ W, Calls Try.prog 25 #[.int .i64 op] W _) := ⟨fun W => ref_Jumps W op⟩
  generalize (op == 40 || op == 41 || op == 42) = J at h5 h6
  generalize (op == 40 || op == 44 || op == 45) = E at h3 h4
  generalize (rowP op).kind = kd at h1 h2
  generalize okP op = ok at h1 h2
  go_enter Try.func4, Try.ntmps4
  go_wp2_with (first | (go_at_call 20; go_must (refine (h1.out _).mono ?_); go_must (rintro e w' ⟨rfl, rfl⟩)) | (go_at_call 21; go_must (refine (h2.out _).mono ?_); go_must (rintro e w1 ⟨rfl, hc1⟩); go_must (replace hc1 := Aside0.mk hc1)) | (go_at_call 22; go_must (refine (h3.out _).mono ?_); go_must (rintro e w' ⟨rfl, rfl⟩)) | (go_at_call 23; go_must (refine (h4.out _).mono ?_); go_must (rintro e w' ⟨rfl, rfl⟩)) | (go_at_call 24; go_must (refine (h5.out _).mono ?_); go_must (rintro e w' ⟨rfl, rfl⟩)) | (go_at_call 25; go_must (refine (h6.out _).mono ?_); go_must (rintro e w' ⟨rfl, rfl⟩)))
  go_ret
  exact ⟨by simp, hc1.out.below (fun _ _ h => h)⟩

theorem ba_beq (a b : ByteArray) : (a.toList == b.toList) = decide (a = b) := by
  rw [ByteArray.toList_eq, ByteArray.toList_eq]
  by_cases h : a = b
  · subst h; simp
  · have h2 : a.data.toList ≠ b.data.toList := fun e => h (ByteArray.ext (Array.toList_inj.1 e))
    rw [decide_eq_false h]; simpa using fun e => h (ByteArray.ext e)
/-- The first operation of that name. -/
def findP (s : ByteArray) : Int × Bool := match (List.range 67).find? (fun k => decide ((opTab.getD k noRow).name = s)) with
  | some k => ((k : Int), true)
  | none => (0, false)
theorem findP_hit {s : ByteArray} {k : Nat} (hk : k < 67) (h : (opTab.getD k noRow).name = s) (h0 : ∀ j, j < k → (opTab.getD j noRow).name ≠ s) : findP s = ((k : Int), true) := by
  unfold findP
  rw [(List.find?_range_eq_some (n := 67) (i := k)).2 ⟨by simpa using h, by simpa using hk, fun j hj => by simpa using h0 j hj⟩]
theorem findP_miss {s : ByteArray} (h0 : ∀ j, j < 67 → (opTab.getD j noRow).name ≠ s) : findP s = (0, false) := by
  unfold findP
  rw [List.find?_eq_none.2 (fun j hj => by simpa using h0 j (by simpa using hj))]
theorem ref_Find (w : World) (s : ByteArray) : Calls Try.prog 28 #[.string s] w fun e w' => e = .returned (.tuple #[.int .i64 (findP s).1, .bool (findP s).2]) ∧ Chg (fun _ => False) w w' := by
  go_enter Try.func28, Try.ntmps28
  go_wp2
  go_loopw [4, 5, 6] (fun i _ _ wr => ∃ k : Nat, i = .int .i64 k ∧ k ≤ 67 ∧ Aside0 (∀ j, j < k → (opTab.getD j noRow).name ≠ s) ∧ Aside0 (Chg (fun _ => False) w wr)) (fun i _ _ _ => 67 - (intOf i).toNat)
  case atStart => exact ⟨0, rfl, by omega, ⟨fun j hj => by omega⟩, ⟨Chg.refl _ _⟩⟩
  case round =>
    obtain ⟨k, rfl, hk, hbef, hCh⟩ := hrel
    by_cases hlt : k < 67
    · have hk0 : (0 : Int) ≤ k := by omega
      have hk1 : (k : Int) < 67 := by omega
      have hcall : Aside0 (∀ W, Calls Try.prog 26 #[.int .i64 (k : Int)] W fun e w' => e = .returned (.tuple #[.string (rowP (k : Int)).name, .bool (okP (k : Int))]) ∧ Chg (fun _ => False) W w') := ⟨fun W => (ref_Name W k).mono (fun e w' h => ⟨h.1, h.2 ▸ Chg.refl _ _⟩)⟩
      have hname := Aside0.mk (rowP_at hlt).1
      generalize rowP (k : Int) = r at hcall hname
      by_cases hhit : r.name = s
      · have hE := Aside0.mk (findP_hit hlt (by rw [← hname.out]; exact hhit) hbef.out)
        subst hhit
        go_wp2_with (go_at_call 26; go_must (refine (hcall.out _).mono ?_); go_must (rintro e w1 ⟨rfl, hc1⟩); go_must (replace hc1 := Aside0.mk hc1))
        go_ret2
        rw [hE.out]
        exact ⟨rfl, by repeat (first | exact hCh.out.trans hc1.out (fun _ _ h => h) | apply Chg.drewN | apply Chg.alloc | (refine Chg.setCell ?_ (fun h => ?_) _))⟩
      · have hne : (r.name.toList == s.toList) = false := by rw [ba_beq]; simpa using hhit
        have hbef2 : Aside0 (∀ j, j < k + 1 → (opTab.getD j noRow).name ≠ s) := ⟨fun j hj => by
          rcases Nat.lt_or_ge j k with h | h
          · exact hbef.out j h
          · obtain rfl : j = k := by omega
            rw [← hname.out]; exact hhit⟩
        go_wp2_with (go_at_call 26; go_must (refine (hcall.out _).mono ?_); go_must (rintro e w1 ⟨rfl, hc1⟩); go_must (replace hc1 := Aside0.mk hc1))
        go_roundw
        case measure => first | (simp [intOf]; done) | (simp [intOf]; omega)
        case rel => exact ⟨k + 1, by go_num, by omega, hbef2, ⟨by repeat (first | exact hCh.out.trans hc1.out (fun _ _ h => h) | apply Chg.drewN | apply Chg.alloc | (refine Chg.setCell ?_ (fun h => ?_) _))⟩⟩
    · obtain rfl : k = 67 := by omega
      have hE := Aside0.mk (findP_miss hbef.out)
      go_wp2
      go_ret2
      rw [hE.out]
      exact ⟨rfl, hCh.out⟩

theorem code_Find (w : World) (s : ByteArray) : Calls Try.prog 29 #[.string s] w fun e w' => e = .returned (.tuple #[.int .i64 (findP s).1, .bool (findP s).2]) ∧ Chg (fun _ => False) w w' := by
  go_enter Try.func29, Try.ntmps29
  go_wp2
  go_loopw [4, 5, 6, 7] (fun _ _ _ i wr => ∃ k : Nat, i = .int .i64 k ∧ k ≤ 67 ∧ Aside0 (∀ j, j < k → (opTab.getD j noRow).name ≠ s) ∧ Aside0 (Chg (fun _ => False) w wr)) (fun _ _ _ i _ => 67 - (intOf i).toNat)
  case atStart => exact ⟨0, rfl, by omega, ⟨fun j hj => by omega⟩, ⟨Chg.refl _ _⟩⟩
  case round =>
    obtain ⟨k, rfl, hk, hbef, hCh⟩ := hrel
    by_cases hlt : k < 67
    · have hk0 : (0 : Int) ≤ k := by omega
      have hk1 : (k : Int) < 67 := by omega
      have hcall : Aside0 (∀ W, Calls Try.prog 49 #[.int .i64 (k : Int)] W fun e w' => e = .returned (.tuple #[.agg #[.string (rowP (k : Int)).name, .int .u8 (rowP (k : Int)).kind, .int .u8 (rowP (k : Int)).takes, .int .u8 (rowP (k : Int)).puts, .bool (rowP (k : Int)).many], .bool (okP (k : Int))]) ∧ Chg (fun _ => False) W w') := ⟨fun W => code_rowOf W k⟩
      have hname := Aside0.mk (rowP_at hlt).1
      generalize rowP (k : Int) = r at hcall hname
      by_cases hhit : r.name = s
      · have hE := Aside0.mk (findP_hit hlt (by rw [← hname.out]; exact hhit) hbef.out)
        subst hhit
        go_wp2_with (go_at_call 49; go_must (refine (hcall.out _).mono ?_); go_must (rintro e w1 ⟨rfl, hc1⟩); go_must (replace hc1 := Aside0.mk hc1))
        go_ret2
        rw [hE.out]
        exact ⟨rfl, by repeat (first | exact hCh.out.trans hc1.out (fun _ _ h => h) | apply Chg.drewN | apply Chg.alloc | (refine Chg.setCell ?_ (fun h => ?_) _))⟩
      · have hne : (r.name.toList == s.toList) = false := by rw [ba_beq]; simpa using hhit
        have hbef2 : Aside0 (∀ j, j < k + 1 → (opTab.getD j noRow).name ≠ s) := ⟨fun j hj => by
          rcases Nat.lt_or_ge j k with h | h
          · exact hbef.out j h
          · obtain rfl : j = k := by omega
            rw [← hname.out]; exact hhit⟩
        go_wp2_with (go_at_call 49; go_must (refine (hcall.out _).mono ?_); go_must (rintro e w1 ⟨rfl, hc1⟩); go_must (replace hc1 := Aside0.mk hc1))
        go_roundw
        case measure => first | (simp [intOf]; done) | (simp [intOf]; omega)
        case rel => exact ⟨k + 1, by go_num, by omega, hbef2, ⟨by repeat (first | exact hCh.out.trans hc1.out (fun _ _ h => h) | apply Chg.drewN | apply Chg.alloc | (refine Chg.setCell ?_ (fun h => ?_) _))⟩⟩
    · obtain rfl : k = 67 := by omega
      have hE := Aside0.mk (findP_miss hbef.out)
      go_wp2
      go_ret2
      rw [hE.out]
      exact ⟨rfl, hCh.out⟩

theorem law_codeNames (w : World) (op : Int) (s : ByteArray) : Calls Try.prog 5 #[.int .i64 op, .string s] w fun e w' => e = .returned (.bool true) ∧ Below w.heap.size w w' := by
  have h1 : Aside0 (∀ W, Calls Try.prog 26 #[.int .i64 op] W _) := ⟨fun W => ref_Name W op⟩
  have h2 : Aside0 (∀ W, Calls Try.prog 27 #[.int .i64 op] W _) := ⟨fun W => code_Name W op⟩
  have h3 : Aside0 (∀ W, Calls Try.prog 28 #[.string s] W _) := ⟨fun W => ref_Find W s⟩
  have h4 : Aside0 (∀ W, Calls Try.prog 29 #[.string s] W _) := ⟨fun W => code_Find W s⟩
  generalize (rowP op).name = nm at h1 h2
  generalize okP op = ok at h1 h2
  generalize (findP s).1 = fx at h3 h4
  generalize (findP s).2 = fy at h3 h4
  go_enter Try.func5, Try.ntmps5
  go_wp2_with (first | (go_at_call 26; go_must (refine (h1.out _).mono ?_); go_must (rintro e w' ⟨rfl, rfl⟩)) | (go_at_call 27; go_must (refine (h2.out _).mono ?_); go_must (rintro e w2 ⟨rfl, hc2⟩); go_must (replace hc2 := Aside0.mk hc2)) | (go_at_call 28; go_must (refine (h3.out _).mono ?_); go_must (rintro e w3 ⟨rfl, hc3⟩); go_must (replace hc3 := Aside0.mk hc3)) | (go_at_call 29; go_must (refine (h4.out _).mono ?_); go_must (rintro e w4 ⟨rfl, hc4⟩); go_must (replace hc4 := Aside0.mk hc4)))
  go_ret
  exact ⟨by simp, ((hc2.out.trans hc3.out (fun _ _ h => h)).trans hc4.out (fun _ _ h => h)).below (fun _ _ h => h)⟩

end Go.Proofs.Ythmghcjkmmhgnaa.K
