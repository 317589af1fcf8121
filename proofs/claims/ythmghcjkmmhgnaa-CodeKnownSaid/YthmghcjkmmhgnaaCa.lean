import Derived.Test.YthmghcjkmmhgnaaNa
import Derived.Test.YthmghcjkmmhgnaaOb
import Derived.IntWalk
import Derived.BigQuiet
namespace Go.Proofs.Ythmghcjkmmhgnaa.K
open Go.RowKit Go.Proofs.YthmghcjkmmhgnaaW.PrintWords Go.Proofs.YthmghcjkmmhgnaaW.PrintLast Go.Proofs.YthmghcjkmmhgnaaW.PrintMore
set_option linter.unusedVariables false
set_option linter.unusedSimpArgs false
set_option maxRecDepth 100000

theorem cellA {w : World} {p : Addr} {v : Value} (h : w.cell? p = some v) (o : Obj) : (w.alloc o).cell? p = some v := by
  have hb := World.block_lt_of_cell? w p h
  have hk := ((Chg.refl (fun _ => False) w).alloc o).block p.block hb (fun h => h)
  simpa [World.cell?, hk] using h
theorem infoInstr : (Try.prog.info? 35).map (fun i => (i.zero, i.size, i.bytes)) = some (some (.agg #[.int .i64 0, .int .i64 0]), 2, 16) := by kernel_rfl
/-- The cells of an element of a row of instructions. -/
theorem instr_at {w : World} {A : Option Addr} {n : Nat} {l : List Instr} (h : Kd.C kInstr w A n l) (i : Nat) (h1 : i < n) : ∃ ad op a, A = some ad ∧ l[i]? = some ⟨op, a⟩ ∧ w.cell? (ad.add (i * 2)) = some (.int .i64 op) ∧
    w.cell? ⟨(ad.add (i * 2)).block, (ad.add (i * 2)).off + 1, none⟩ = some (.int .i64 a) := by
  have hl : i < l.length := by have := h.1; omega
  obtain ⟨ad, c, e, _, hK, hc0⟩ := Kd.C_get h ⟨0, 0⟩ (i : Int) (by omega) (by omega)
  rw [kInstr_K] at hK
  subst hK
  have e1 : l.getD (i : Int).toNat ⟨0, 0⟩ = l[i] := by rw [Int.toNat_natCast, List.getD_eq_getElem?_getD, List.getElem?_eq_getElem hl]; rfl
  rw [e1] at hc0
  have f1 := hc0 1 _ rfl
  rw [← add_add] at f1
  exact ⟨ad, l[i].op, l[i].a, e, List.getElem?_eq_getElem hl, hc0 0 _ rfl, f1⟩
theorem copyInstrs (w : World) (A : Option Addr) (n cap : Nat) (l : List Instr) (hC : Kd.C kInstr w A n l) (hn : l.length ≤ 8796093022208) :
    Calls Try.prog 45 #[.slice A n cap] w fun e w' => ∃ v, e = .returned v ∧ Kd.R kInstr 35 w' 0 (New (fun _ => False) w w') v l ∧ Chg (fun _ => False) w w' := by
  have e0 := hC.1
  subst e0
  have hCA := Aside0.mk hC
  clear hC
  go_enter Try.func45, Try.ntmps45
  go_wp2
  go_loopw [3, 4] (fun v i wr => ∃ k : Nat, i = .int .i64 k ∧ k ≤ l.length ∧ Aside0 (Kd.R kInstr 35 wr 0 (New (fun _ => False) w wr) v (l.take k)) ∧ Aside0 (Chg (fun _ => False) w wr)) (fun _ i _ => l.length - (intOf i).toNat)
  case atStart => exact ⟨0, rfl, by omega, ⟨Kd.R_nil _ _ _ _ _⟩, ⟨Chg.refl _ _⟩⟩
  case round =>
    obtain ⟨k, rfl, hk, hR, hCh⟩ := hrel
    by_cases hlt : k < l.length
    · obtain ⟨ad, op, a, e1, e2, x0, x1⟩ := instr_at (C_chg hCA.out (hCh.out.below (fun _ _ h => h))) k hlt
      subst e1
      have hk0 : (0 : Int) ≤ k := by omega
      have hk1 : (k : Int) < l.length := by omega
      have ht : Aside0 (l.take (k + 1) = l.take k ++ [⟨op, a⟩]) := ⟨by rw [List.take_succ_eq_append_getElem hlt]; rw [List.getElem?_eq_getElem hlt] at e2; injection e2 with e2; rw [e2]⟩
      clear e2
      have hl : Aside0 (((l.take k).length + 1) * 16 ≤ 140737488355328) := ⟨by rw [List.length_take]; omega⟩
      go_wp2_with (at_builtin; go_must (refine app1 kInstr rfl (.tmp 11) (.tmp 16) rfl Try.underlying22 infoInstr rfl (by decide) (by decide) ⟨op, a⟩ rfl rfl (kInstr_M _ _ _ _) hR hCh hl ?_); go_must (intro v1 w1 hr1 hc1))
      go_roundw
      case measure => first | (simp [intOf]; done) | (simp [intOf]; omega)
      case rel => exact ⟨k + 1, by go_num, by omega, ⟨by rw [ht.out]; exact hr1.out⟩, hc1⟩
    · obtain rfl : k = l.length := by omega
      go_wp2
      go_ret
      have h := hR.out
      rw [List.take_length] at h
      exact ⟨_, rfl, h, hCh.out⟩

/-- The marks. -/
def lentMarks (k : Nat) : List Instr := (List.range k).map (fun i : Nat => (⟨-9, Int.ofNat i⟩ : Instr))
theorem lentMarks_succ (k : Nat) : lentMarks (k + 1) = lentMarks k ++ [⟨-9, (k : Int)⟩] := by simp [lentMarks, List.range_succ]
theorem lentMarks_length (k : Nat) : (lentMarks k).length = k := by simp [lentMarks]
theorem lentInstrs (w : World) (A : Option Addr) (n cap : Nat) (l : List Instr) (hC : Kd.C kInstr w A n l) (hn : l.length ≤ 8796093022100) :
    Calls Try.prog 17 #[.slice A n cap] w fun e w' => ∃ v, e = .returned v ∧ Kd.R kInstr 35 w' 0 (New (fun _ => False) w w') v (l ++ lentMarks 64) ∧ Chg (fun _ => False) w w' := by
  have hCA := Aside0.mk hC
  clear hC
  go_enter Try.func17, Try.ntmps17
  go_wp2_with (go_at_call 45; go_must (refine (copyInstrs _ A n cap l hCA.out (by omega)).mono ?_); go_must (rintro e w2 ⟨v2, rfl, hr2, hc2⟩); go_must (obtain ⟨A2, n2, cap2, rfl⟩ := R_sl hr2); go_must (replace hr2 := Aside0.mk hr2); go_must (replace hc2 := Aside0.mk hc2))
  go_loopw [3, 4] (fun v i wr => ∃ k : Nat, i = .int .i64 k ∧ k ≤ 64 ∧ Aside0 (Kd.R kInstr 35 wr 0 (New (fun _ => False) w wr) v (l ++ lentMarks k)) ∧ Aside0 (Chg (fun _ => False) w wr)) (fun _ i _ => 64 - (intOf i).toNat)
  case atStart => exact ⟨0, rfl, by omega, ⟨by simpa [lentMarks] using hr2.out⟩, hc2⟩
  case round =>
    obtain ⟨k, rfl, hk, hR, hCh⟩ := hrel
    by_cases hlt : k < 64
    · have hl : Aside0 (((l ++ lentMarks k).length + 1) * 16 ≤ 140737488355328) := ⟨by rw [List.length_append, lentMarks_length]; omega⟩
      go_wp2_with (at_builtin; go_must (refine app1 kInstr rfl (.tmp 11) (.tmp 14) rfl Try.underlying22 infoInstr rfl (by decide) (by decide) ⟨-9, k⟩ rfl rfl (kInstr_M _ _ _ _) hR hCh hl ?_); go_must (intro v1 w1 hr1 hc1))
      go_roundw
      case measure => first | (simp [intOf]; done) | (simp [intOf]; omega)
      case rel => exact ⟨k + 1, by go_num, by omega, ⟨by rw [lentMarks_succ, ← List.append_assoc]; exact hr1.out⟩, hc1⟩
    · obtain rfl : k = 64 := by omega
      go_wp2
      go_ret
      exact ⟨_, rfl, hR.out, hCh.out⟩

theorem keptInstrs (w : World) (A B : Option Addr) (n cap m capm : Nat) (l : List Instr) (hC : Kd.C kInstr w A n (l ++ lentMarks 64)) (hD : Kd.C kInstr w B m l) (hn : l.length ≤ 8796093022100) :
    Calls Try.prog 19 #[.slice A n cap, .slice B m capm] w fun e w' => e = .returned (.bool true) ∧ Chg (fun _ => False) w w' := by
  have e0 := hC.1
  have e1 := hD.1
  rw [List.length_append, lentMarks_length] at e0
  subst e0 e1
  have hCA := Aside0.mk hC
  have hDA := Aside0.mk hD
  clear hC hD
  go_enter Try.func19, Try.ntmps19
  go_wp2
  go_loopw [5, 6] (fun i _ wr => ∃ k : Nat, i = .int .i64 k ∧ k ≤ l.length + 64 ∧ Aside0 (Chg (fun _ => False) w wr)) (fun i _ _ => l.length + 64 - (intOf i).toNat)
  case atStart => exact ⟨0, rfl, by omega, ⟨Chg.refl _ _⟩⟩
  case round =>
    obtain ⟨k, rfl, hk, hCh⟩ := hrel
    by_cases hlt : k < l.length + 64
    · have hk0 : (0 : Int) ≤ k := by omega
      have hk1 : (k : Int) < (l.length : Int) + 64 := by omega
      have hlA := Aside0.mk hlt
      by_cases hin : k < l.length
      · obtain ⟨ad, op, a, e1, e2, x0, x1⟩ := instr_at (C_chg hCA.out (hCh.out.below (fun _ _ h => h))) k hlt
        obtain ⟨bd, op2, a2, e3, e4, y0, y1⟩ := instr_at (C_chg hDA.out (hCh.out.below (fun _ _ h => h))) k hin
        subst e1 e3
        rw [List.getElem?_append_left hin, e4] at e2
        injection e2 with e2
        injection e2 with e5 e6
        obtain rfl := e5
        obtain rfl := e6
        clear e4
        have hk2 : (k : Int) < l.length := by omega
        have x2 := cellA x0 (.cells #[.int .i64 op2, .int .i64 a2] 35)
        have x3 := cellA x1 (.cells #[.int .i64 op2, .int .i64 a2] 35)
        have y2 := cellA y0 (.cells #[.int .i64 (-9), .int .i64 ((k : Int) - l.length)] 35)
        have y3 := cellA y1 (.cells #[.int .i64 (-9), .int .i64 ((k : Int) - l.length)] 35)
        go_wp2
        go_quiet (fail)
        go_wp2
        go_roundw
        case measure => first | (simp [intOf]; done) | (simp [intOf]; omega)
        case rel => exact ⟨k + 1, by go_num, by omega, ⟨by repeat (first | exact hCh.out | apply Chg.drewN | apply Chg.alloc | (refine Chg.setCell ?_ (fun h => ?_) _))⟩⟩
      · obtain ⟨ad, op, a, e1, e2, x0, x1⟩ := instr_at (C_chg hCA.out (hCh.out.below (fun _ _ h => h))) k hlt
        subst e1
        rw [List.getElem?_append_right (by omega), lentMarks, List.getElem?_map, List.getElem?_range (by omega)] at e2
        simp only [Option.map_some, Option.some.injEq, Instr.mk.injEq] at e2
        obtain ⟨e5, e6⟩ := e2
        subst e5
        have hk2 : ¬ (k : Int) < l.length := by omega
        have hs : (k : Int) - (l.length : Int) = a := by rw [← e6]; simp only [Int.ofNat_eq_natCast]; omega
        clear e6
        have x2 := cellA x0 (.cells #[.int .i64 (-9), .int .i64 a] 35)
        have x3 := cellA x1 (.cells #[.int .i64 (-9), .int .i64 a] 35)
        go_wp2
        go_quiet (fail)
        go_wp2
        go_roundw
        case measure => first | (simp [intOf]; done) | (simp [intOf]; omega)
        case rel => exact ⟨k + 1, by go_num, by omega, ⟨by repeat (first | exact hCh.out | apply Chg.drewN | apply Chg.alloc | (refine Chg.setCell ?_ (fun h => ?_) _))⟩⟩
    · obtain rfl : k = l.length + 64 := by omega
      go_wp2
      go_ret
      exact ⟨rfl, hCh.out⟩

end Go.Proofs.Ythmghcjkmmhgnaa.K
