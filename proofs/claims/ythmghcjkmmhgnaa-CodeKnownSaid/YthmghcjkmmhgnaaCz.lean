import Derived.Test.YthmghcjkmmhgnaaCe
import Derived.BigQuiet
namespace Go.Proofs.Ythmghcjkmmhgnaa.K
open Go.RowKit Go.Proofs.YthmghcjkmmhgnaaW.PrintWords Go.Proofs.YthmghcjkmmhgnaaW.PrintLast Go.Proofs.YthmghcjkmmhgnaaW.PrintMore
set_option linter.unusedVariables false
set_option linter.unusedSimpArgs false
set_option maxRecDepth 100000

theorem law_codeKinds (w : World) (op : Int) : Calls Try.prog 4 #[.int .i64 op] w fun e w' => e = .returned (.bool true) ∧ Below w.heap.size w w' := by
  have h1 : Aside0 (∀ W, Calls Try.prog 20 #[.int .i64 op] W _) := ⟨fun W => ref_Operand W op⟩
  have h2 : Aside0 (∀ W, Calls Try.prog 21 #[.int .i64 op] W _) := ⟨fun W => code_Operand W op⟩
  have h3 : Aside0 (∀ W, Calls Try.prog 22 #[.int .i64 op] W _) := ⟨fun W => code_Ends W op⟩
  have h4 : Aside0 (∀ W, Calls Try.prog 23 #[.int .i64 op] W _) := ⟨fun W => ref_Ends W op⟩
  have h5 : Aside0 (∀ W, Calls Try.prog 24 #[.int .i64 op] W _) := ⟨fun W => code_Jumps W op⟩
  have h6 : Aside0 (∀ W, Calls Try.prog 25 #[.int .i64 op] W _) := ⟨fun W => ref_Jumps W op⟩
  generalize (op == 40 || op == 41 || op == 42) = J at h5 h6
  generalize (op == 40 || op == 44 || op == 45) = E at h3 h4
  generalize (rowP op).kind = kd at h1 h2
  generalize okP op = ok at h1 h2
  go_enter Try.func4, Try.ntmps4
  go_wp2_with (first | (go_at_call 20; go_must (refine (h1.out _).mono ?_); go_must (rintro e w' ⟨rfl, rfl⟩)) | (go_at_call 21; go_must (refine (h2.out _).mono ?_); go_must (rintro e w1 ⟨rfl, hc1⟩); go_must (replace hc1 := Aside0.mk hc1)) | (go_at_call 22; go_must (refine (h3.out _).mono ?_); go_must (rintro e w' ⟨rfl, rfl⟩)) | (go_at_call 23; go_must (refine (h4.out _).mono ?_); go_must (rintro e w' ⟨rfl, rfl⟩)) | (go_at_call 24; go_must (refine (h5.out _).mono ?_); go_must (rintro e w' ⟨rfl, rfl⟩)) | (go_at_call 25; go_must (refine (h6.out _).mono ?_); go_must (rintro e w' ⟨rfl, rfl⟩)))
  go_ret
  exact ⟨by simp, hc1.out.below (fun _ _ h => h)⟩

theorem ba_beq (a b : ByteArray) : (a.toList == b.toList) = decide (a = b) := by
  rw [ByteArray.toList_eq, ByteArray.toList_eq]
  by_cases h : a = b
  · subst h; simp
  · have h2 : a.data.toList ≠ b.data.toList := fun e => h (ByteArray.ext (Array.toList_inj.1 e))
    rw [decide_eq_false h]; simpa using fun e => h (ByteArray.ext e)
/-- The first operation of that name. -/
def findP (s : ByteArray) : Int × Bool := match (List.range 67).find? (fun k => decide ((opTab.getD k noRow).name = s)) with
  | some k => ((k : Int), true)
  | none => (0, false)
theorem findP_hit {s : ByteArray} {k : Nat} (hk : k < 67) (h : (opTab.getD k noRow).name = s) (h0 : ∀ j, j < k → (opTab.getD j noRow).name ≠ s) : findP s = ((k : Int), true) := by
  unfold findP
  rw [(List.find?_range_eq_some (n := 67) (i := k)).2 ⟨by simpa using h, by simpa using hk, fun j hj => by simpa using h0 j hj⟩]
theorem findP_miss {s : ByteArray} (h0 : ∀ j, j < 67 → (opTab.getD j noRow).name ≠ s) : findP s = (0, false) := by
  unfold findP
  rw [List.find?_eq_none.2 (fun j hj => by simpa using h0 j (by simpa using hj))]
theorem ref_Find (w : World) (s : ByteArray) : Calls Try.prog 28 #[.string s] w fun e w' => e = .returned (.tuple #[.int .i64 (findP s).1, .bool (findP s).2]) ∧ Chg (fun _ => False) w w' := by
  go_enter Try.func28, Try.ntmps28
  go_wp2
  go_loopw [4, 5, 6] (fun i _ _ wr => ∃ k : Nat, i = .int .i64 k ∧ k ≤ 67 ∧ Aside0 (∀ j, j < k → (opTab.getD j noRow).name ≠ s) ∧ Aside0 (Chg (fun _ => False) w wr)) (fun i _ _ _ => 67 - (intOf i).toNat)
  case atStart => exact ⟨0, rfl, by omega, ⟨fun j hj => by omega⟩, ⟨Chg.refl _ _⟩⟩
  case round =>
    obtain ⟨k, rfl, hk, hbef, hCh⟩ := hrel
    by_cases hlt : k < 67
    · have hk0 : (0 : Int) ≤ k := by omega
      have hk1 : (k : Int) < 67 := by omega
      have hcall : Aside0 (∀ W, Calls Try.prog 26 #[.int .i64 (k : Int)] W fun e w' => e = .returned (.tuple #[.string (rowP (k : Int)).name, .bool (okP (k : Int))]) ∧ Chg (fun _ => False) W w') := ⟨fun W => (ref_Name W k).mono (fun e w' h => ⟨h.1, h.2 ▸ Chg.refl _ _⟩)⟩
      have hname := Aside0.mk (rowP_at hlt).1
      generalize rowP (k : Int) = r at hcall hname
      by_cases hhit : r.name = s
      · have hE := Aside0.mk (findP_hit hlt (by rw [← hname.out]; exact hhit) hbef.out)
        subst hhit
        go_wp2_with (go_at_call 26; go_must (refine (hcall.out _).mono ?_); go_must (rintro e w1 ⟨rfl, hc1⟩); go_must (replace hc1 := Aside0.mk hc1))
        go_ret2
        rw [hE.out]
        exact ⟨rfl, by repeat (first | exact hCh.out.trans hc1.out (fun _ _ h => h) | apply Chg.drewN | apply Chg.alloc | (refine Chg.setCell ?_ (fun h => ?_) _))⟩
      · have hne : (r.name.toList == s.toList) = false := by rw [ba_beq]; simpa using hhit
        have hbef2 : Aside0 (∀ j, j < k + 1 → (opTab.getD j noRow).name ≠ s) := ⟨fun j hj => by
          rcases Nat.lt_or_ge j k with h | h
          · exact hbef.out j h
          · obtain rfl : j = k := by omega
            rw [← hname.out]; exact hhit⟩
        go_wp2_with (go_at_call 26; go_must (refine (hcall.out _).mono ?_); go_must (rintro e w1 ⟨rfl, hc1⟩); go_must (replace hc1 := Aside0.mk hc1))
        go_roundw
        case measure => first | (simp [intOf]; done) | (simp [intOf]; omega)
        case rel => exact ⟨k + 1, by go_num, by omega, hbef2, ⟨by repeat (first | exact hCh.out.trans hc1.out (fun _ _ h => h) | apply Chg.drewN | apply Chg.alloc | (refine Chg.setCell ?_ (fun h => ?_) _))⟩⟩
    · obtain rfl : k = 67 := by omega
      have hE := Aside0.mk (findP_miss hbef.out)
      go_wp2
      go_ret2
      rw [hE.out]
      exact ⟨rfl, hCh.out⟩

theorem code_Find (w : World) (s : ByteArray) : Calls Try.prog 29 #[.string s] w fun e w' => e = .returned (.tuple #[.int .i64 (findP s).1, .bool (findP s).2]) ∧ Chg (fun _ => False) w w' := by
  go_enter Try.func29, Try.ntmps29
  go_wp2
  go_loopw [4, 5, 6, 7] (fun _ _ _ i wr => ∃ k : Nat, i = .int .i64 k ∧ k ≤ 67 ∧ Aside0 (∀ j, j < k → (opTab.getD j noRow).name ≠ s) ∧ Aside0 (Chg (fun _ => False) w wr)) (fun _ _ _ i _ => 67 - (intOf i).toNat)
  case atStart => exact ⟨0, rfl, by omega, ⟨fun j hj => by omega⟩, ⟨Chg.refl _ _⟩⟩
  case round =>
    obtain ⟨k, rfl, hk, hbef, hCh⟩ := hrel
    by_cases hlt : k < 67
    · have hk0 : (0 : Int) ≤ k := by omega
      have hk1 : (k : Int) < 67 := by omega
      have hcall : Aside0 (∀ W, Calls Try.prog 49 #[.int .i64 (k : Int)] W fun e w' => e = .returned (.tuple #[.agg #[.string (rowP (k : Int)).name, .int .u8 (rowP (k : Int)).kind, .int .u8 (rowP (k : Int)).takes, .int .u8 (rowP (k : Int)).puts, .bool (rowP (k : Int)).many], .bool (okP (k : Int))]) ∧ Chg (fun _ => False) W w') := ⟨fun W => code_rowOf W k⟩
      have hname := Aside0.mk (rowP_at hlt).1
      generalize rowP (k : Int) = r at hcall hname
      by_cases hhit : r.name = s
      · have hE := Aside0.mk (findP_hit hlt (by rw [← hname.out]; exact hhit) hbef.out)
        subst hhit
        go_wp2_with (go_at_call 49; go_must (refine (hcall.out _).mono ?_); go_must (rintro e w1 ⟨rfl, hc1⟩); go_must (replace hc1 := Aside0.mk hc1))
        go_ret2
        rw [hE.out]
        exact ⟨rfl, by repeat (first | exact hCh.out.trans hc1.out (fun _ _ h => h) | apply Chg.drewN | apply Chg.alloc | (refine Chg.setCell ?_ (fun h => ?_) _))⟩
      · have hne : (r.name.toList == s.toList) = false := by rw [ba_beq]; simpa using hhit
        have hbef2 : Aside0 (∀ j, j < k + 1 → (opTab.getD j noRow).name ≠ s) := ⟨fun j hj => by
          rcases Nat.lt_or_ge j k with h | h
          · exact hbef.out j h
          · obtain rfl : j = k := by omega
            rw [← hname.out]; exact hhit⟩
        go_wp2_with (go_at_call 49; go_must (refine (hcall.out _).mono ?_); go_must (rintro e w1 ⟨rfl, hc1⟩); go_must (replace hc1 := Aside0.mk hc1))
        go_roundw
        case measure => first | (simp [intOf]; done) | (simp [intOf]; omega)
        case rel => exact ⟨k + 1, by go_num, by omega, hbef2, ⟨by repeat (first | exact hCh.out.trans hc1.out (fun _ _ h => h) | apply Chg.drewN | apply Chg.alloc | (refine Chg.setCell ?_ (fun h => ?_) _))⟩⟩
    · obtain rfl : k = 67 := by omega
      have hE := Aside0.mk (findP_miss hbef.out)
      go_wp2
      go_ret2
      rw [hE.out]
      exact ⟨rfl, hCh.out⟩

theorem law_codeNames (w : World) (op : Int) (s : ByteArray) : Calls Try.prog 5 #[.int .i64 op, .string s] w fun e w' => e = .returned (.bool true) ∧ Below w.heap.size w w' := by
  have h1 : Aside0 (∀ W, Calls Try.prog 26 #[.int .i64 op] W _) := ⟨fun W => ref_Name W op⟩
  have h2 : Aside0 (∀ W, Calls Try.prog 27 #[.int .i64 op] W _) := ⟨fun W => code_Name W op⟩
  have h3 : Aside0 (∀ W, Calls Try.prog 28 #[.string s] W _) := ⟨fun W => ref_Find W s⟩
  have h4 : Aside0 (∀ W, Calls Try.prog 29 #[.string s] W _) := ⟨fun W => code_Find W s⟩
  generalize (rowP op).name = nm at h1 h2
  generalize okP op = ok at h1 h2
  generalize (findP s).1 = fx at h3 h4
  generalize (findP s).2 = fy at h3 h4
  go_enter Try.func5, Try.ntmps5
  go_wp2_with (first | (go_at_call 26; go_must (refine (h1.out _).mono ?_); go_must (rintro e w' ⟨rfl, rfl⟩)) | (go_at_call 27; go_must (refine (h2.out _).mono ?_); go_must (rintro e w2 ⟨rfl, hc2⟩); go_must (replace hc2 := Aside0.mk hc2)) | (go_at_call 28; go_must (refine (h3.out _).mono ?_); go_must (rintro e w3 ⟨rfl, hc3⟩); go_must (replace hc3 := Aside0.mk hc3)) | (go_at_call 29; go_must (refine (h4.out _).mono ?_); go_must (rintro e w4 ⟨rfl, hc4⟩); go_must (replace hc4 := Aside0.mk hc4)))
  go_ret
  exact ⟨by simp, ((hc2.out.trans hc3.out (fun _ _ h => h)).trans hc4.out (fun _ _ h => h)).below (fun _ _ h => h)⟩

end Go.Proofs.Ythmghcjkmmhgnaa.K

namespace Go.Proofs.Ythmghcjkmmhgnaa.K
open Go.RowKit Go.Proofs.YthmghcjkmmhgnaaW.PrintWords Go.Proofs.YthmghcjkmmhgnaaW.PrintLast Go.Proofs.YthmghcjkmmhgnaaW.PrintMore
set_option linter.unusedVariables false
set_option linter.unusedSimpArgs false
set_option maxRecDepth 100000

theorem named_T : ∀ k : Fin 67, findP (opTab.getD k.val noRow).name = ((k.val : Int), true) ∧ (2 ≤ (opTab.getD k.val noRow).name.size ∧ (opTab.getD k.val noRow).name.size ≤ 100) ∧ (opTab.getD k.val noRow).name.data.toList.all (fun c => decide (97 ≤ c.toNat ∧ c.toNat ≤ 122)) = true := by decide +kernel
theorem ba_all {s : ByteArray} {p : UInt8 → Bool} (h : s.data.toList.all p = true) (i : Nat) (hi : i < s.size) : p (s[i]'hi) = true :=
  List.all_eq_true.1 h _ (Array.mem_toList_iff.2 (Array.getElem_mem (xs := s.data) hi))
theorem law_codeNamed (w : World) : Calls Try.prog 6 #[] w fun e w' => e = .returned (.bool true) ∧ Below w.heap.size w w' := by
  go_enter Try.func6, Try.ntmps6
  go_wp2
  go_loopw [1, 2, 3, 4, 5, 6] (fun i _ _ _ _ _ wr => ∃ op : Int, i = .int .i64 op ∧ -3 ≤ op ∧ op ≤ 80 ∧ Aside0 (Chg (fun _ => False) w wr)) (fun i _ _ _ _ _ _ => (80 - intOf i).toNat)
  case atStart => exact ⟨-3, rfl, by omega, by omega, ⟨Chg.refl _ _⟩⟩
  case round =>
    obtain ⟨op, rfl, hk0, hk1, hCh⟩ := hrel
    by_cases hlt : op < 80
    · have d9 : decide (op < 80) = true := by simpa using hlt
      by_cases hok : 0 ≤ op ∧ op < 67
      · obtain ⟨k, rfl⟩ := Int.eq_ofNat_of_zero_le hok.1
        have hk : k < 67 := by omega
        obtain ⟨e1, e2⟩ := rowP_at hk
        obtain ⟨t1, t2, t3⟩ := named_T ⟨k, hk⟩
        simp only at t1 t2 t3
        have hcall : Aside0 (∀ W, Calls Try.prog 27 #[.int .i64 (k : Int)] W fun e w' => e = .returned (.tuple #[.string (opTab.getD k noRow).name, .bool true]) ∧ Chg (fun _ => False) W w') := ⟨fun W => by have := code_Name W k; rw [e1, e2] at this; exact this⟩
        have hfind : Aside0 (∀ W, Calls Try.prog 29 #[.string (opTab.getD k noRow).name] W fun e w' => e = .returned (.tuple #[.int .i64 (k : Int), .bool true]) ∧ Chg (fun _ => False) W w') := ⟨fun W => by have := code_Find W (opTab.getD k noRow).name; rw [t1] at this; exact this⟩
        generalize (opTab.getD k noRow).name = nm at hcall hfind t2 t3
        have t3A := Aside0.mk t3
        obtain ⟨hlen, hlen2⟩ := t2
        have d0 : decide (0 ≤ (k : Int)) = true := by simp
        have d1 : decide ((k : Int) < 67) = true := by simp; omega
        have d2 : decide (k < 67) = true := by simp; omega
        have d3 : decide (nm.size < 2) = false := by simp; omega
        clear t1 t3 e1 e2 hok hk
        go_wp2_with (first | (go_at_call 27; go_must (refine (hcall.out _).mono ?_); go_must (rintro e w1 ⟨rfl, hc1⟩); go_must (replace hc1 := Aside0.mk hc1)) | (go_at_call 29; go_must (refine (hfind.out _).mono ?_); go_must (rintro e w2 ⟨rfl, hc2⟩); go_must (replace hc2 := Aside0.mk hc2)))
        have hc3 := Aside0.mk ((hCh.out.trans hc1.out (fun _ _ h => h)).trans hc2.out (fun _ _ h => h))
        go_loopw [6] (fun i wr => wr = w2 ∧ ∃ j : Nat, i = .int .i64 j ∧ j ≤ nm.size) (fun i _ => nm.size - (intOf i).toNat)
        case atStart => exact ⟨rfl, 0, rfl, by omega⟩
        case round =>
          obtain ⟨rfl, j, rfl, hj⟩ := hrel
          by_cases hl2 : j < nm.size
          · have hb := ba_all t3A.out j hl2
            simp only [decide_eq_true_eq] at hb
            obtain ⟨c, hc⟩ : ∃ c, c = (nm[j]'hl2).toNat := ⟨_, rfl⟩
            rw [← hc] at hb
            replace hc := hc.symm
            have q0 : decide (c < 97) = false := by simp; omega
            have q1 : decide (122 < c) = false := by simp; omega
            have j0 : (0 : Int) ≤ j := by omega
            have j1 : (j : Int) < nm.size := by omega
            have q2 : decide ((122 : Int) < (c : Int)) = false := by simp; omega
            have q3 : decide ((c : Int) > 122) = false := by simp; omega
            obtain ⟨hb0, hb1⟩ := hb
            go_wp2
            go_roundw
            case measure => first | (simp [intOf]; done) | (simp [intOf]; omega)
            case rel => exact ⟨by first | trivial | rfl, j + 1, by go_num, by omega⟩
          · obtain rfl : j = nm.size := by omega
            go_wp2
            go_roundw
            case measure => first | (simp [intOf]; done) | (simp [intOf]; omega)
            case rel => exact ⟨(k : Int) + 1, by first | rfl | go_num, by omega, by omega, hc3⟩
      · obtain ⟨e1, e2⟩ := rowP_not hok
        have hcall : Aside0 (∀ W, Calls Try.prog 27 #[.int .i64 op] W fun e w' => e = .returned (.tuple #[.string ⟨#[]⟩, .bool false]) ∧ Chg (fun _ => False) W w') := ⟨fun W => by have := code_Name W op; rw [e1, e2] at this; exact this⟩
        by_cases hneg : op < 0
        · have d0 : decide (0 ≤ op) = false := by simp; omega
          clear hneg hok
          go_wp2_with (go_at_call 27; go_must (refine (hcall.out _).mono ?_); go_must (rintro e w1 ⟨rfl, hc1⟩); go_must (replace hc1 := Aside0.mk hc1))
          go_roundw
          case measure => first | (simp [intOf]; done) | (simp [intOf]; omega)
          case rel => exact ⟨op + 1, by first | rfl | go_num, by omega, by omega, ⟨hCh.out.trans hc1.out (fun _ _ h => h)⟩⟩
        · have d0 : decide (0 ≤ op) = true := by simp; omega
          have d1 : decide (op < 67) = false := by simp; omega
          clear hneg hok
          go_wp2_with (go_at_call 27; go_must (refine (hcall.out _).mono ?_); go_must (rintro e w1 ⟨rfl, hc1⟩); go_must (replace hc1 := Aside0.mk hc1))
          go_roundw
          case measure => first | (simp [intOf]; done) | (simp [intOf]; omega)
          case rel => exact ⟨op + 1, by first | rfl | go_num, by omega, by omega, ⟨hCh.out.trans hc1.out (fun _ _ h => h)⟩⟩
    · have d9 : decide (op < 80) = false := by simpa using hlt
      go_wp2
      go_ret
      exact ⟨rfl, hCh.out.below (fun _ _ h => h)⟩

end Go.Proofs.Ythmghcjkmmhgnaa.K
