import Derived.Test.YtgaackedappmgaaDoorQa
import Derived.IntWalk
import Derived.BigQuiet
namespace Go.Proofs.YtgaackedappmgaaDoor.K
open Go.RowKit Go.Proofs.YtgaackedappmgaaDoorW.PrintWords Go.Proofs.YtgaackedappmgaaDoorW.PrintLast Go.Proofs.YtgaackedappmgaaDoorW.PrintMore
set_option linter.unusedVariables false
set_option linter.unusedSimpArgs false
set_option maxRecDepth 100000
theorem cellQ {w : World} {p : Addr} {v : Value} (h : w.cell? p = some v) (o : Obj) : (w.alloc o).cell? p = some v := by
  have hb := World.block_lt_of_cell? w p h
  have hk := ((Chg.refl (fun _ => False) w).alloc o).block p.block hb (fun h => h)
  simpa [World.cell?, hk] using h
theorem infoQI : (Tryd.prog.info? 50).map (fun i => (i.zero, i.size, i.bytes)) = some (some (.agg #[.int .i64 0, .int .i64 0]), 2, 16) := by kernel_rfl
theorem kQI_at {w : World} {A : Option Addr} {n : Nat} {l : List QI} (h : Kd.C kQI w A n l) (i : Nat) (h1 : i < n) : ∃ ad op1 a1, A = some ad ∧ l[i]? = some ⟨op1, a1⟩ ∧ w.cell? (ad.add (i * 2)) = some (.int .i64 op1) ∧ w.cell? ⟨(ad.add (i * 2)).block, (ad.add (i * 2)).off + 1, none⟩ = some (.int .i64 a1) := by
  obtain ⟨e1, e2, e3⟩ := h
  obtain ⟨ad, ea, hc⟩ := e3 (by omega)
  have hi : i < l.length := by omega
  obtain ⟨cs, _, hk, hcell⟩ := hc i _ (List.getElem?_eq_getElem hi)
  rw [kQI_K] at hk
  subst hk
  have g1 := hcell 1 _ rfl
  have e5 : kQI.sz = 2 := rfl
  rw [e5] at g1
  rw [← add_add] at g1
  exact ⟨ad, l[i].op, l[i].a, ea, List.getElem?_eq_getElem hi, hcell 0 _ rfl, g1⟩
def kQIMarks (k : Nat) : List QI := (List.range k).map (fun i : Nat => (⟨(-7), Int.ofNat i⟩ : QI))
theorem kQIMarks_succ (k : Nat) : kQIMarks (k + 1) = kQIMarks k ++ [⟨(-7), (k : Int)⟩] := by simp [kQIMarks, List.range_succ]
theorem kQIMarks_length (k : Nat) : (kQIMarks k).length = k := by simp [kQIMarks]
theorem kit_fullInstrs (w : World) (A : Option Addr) (n cap : Nat) (l : List QI) (hC : Kd.C kQI w A n l) (hn : l.length ≤ 1048576) :
    Calls Tryd.prog 22 #[.slice A n cap] w fun e w' => ∃ v, e = .returned v ∧ Kd.R kQI 50 w' 0 (New (fun _ => False) w w') v (l ++ kQIMarks 64) ∧ Chg (fun _ => False) w w' := by
  have e0 := hC.1
  subst e0
  have hCA := Aside0.mk hC
  clear hC
  go_enter Tryd.func22, Tryd.ntmps22
  go_wp2
  go_loopw [3, 4] (fun v i wr => ∃ k : Nat, i = .int .i64 k ∧ k ≤ l.length ∧ Aside0 (Kd.R kQI 50 wr 0 (New (fun _ => False) w wr) v (l.take k)) ∧ Aside0 (Chg (fun _ => False) w wr)) (fun _ i _ => l.length - (intOf i).toNat)
  case atStart => exact ⟨0, rfl, by omega, ⟨Kd.R_nil _ _ _ _ _⟩, ⟨Chg.refl _ _⟩⟩
  case round =>
    obtain ⟨k, rfl, hk, hR, hCh⟩ := hrel
    by_cases hlt : k < l.length
    · obtain ⟨ad, op1, a1, e1, e2, x0, x1⟩ := kQI_at (C_chg hCA.out (hCh.out.below (fun _ _ h => h))) k hlt
      subst e1
      have hk0 : (0 : Int) ≤ k := by omega
      have hk1 : (k : Int) < l.length := by omega
      have ht : Aside0 (l.take (k + 1) = l.take k ++ [⟨op1, a1⟩]) := ⟨by rw [List.take_succ_eq_append_getElem hlt]; rw [List.getElem?_eq_getElem hlt] at e2; injection e2 with e2; rw [e2]⟩
      clear e2
      have hl : Aside0 (((l.take k).length + 1) * 16 ≤ 140737488355328) := ⟨by rw [List.length_take]; omega⟩
      go_wp2_with (at_builtin; go_must (refine app1 kQI rfl (.tmp 12) (.tmp 17) rfl Tryd.underlying44 infoQI rfl (by decide) (by decide) ⟨op1, a1⟩ rfl rfl (kQI_M _ _ _ _) hR hCh hl ?_); go_must (intro v1 w1 hr1 hc1))
      go_roundw
      case measure => first | (simp [intOf]; done) | (simp [intOf]; omega)
      case rel => exact ⟨k + 1, by go_num, by omega, ⟨by rw [ht.out]; exact hr1.out⟩, hc1⟩
    · obtain rfl : k = l.length := by omega
      have h := hR.out
      rw [List.take_length] at h
      replace h := Aside0.mk h
      clear hR
      go_wp2
      go_loopw [3, 5] (fun v i wr => ∃ k : Nat, i = .int .i64 k ∧ k ≤ 64 ∧ Aside0 (Kd.R kQI 50 wr 0 (New (fun _ => False) w wr) v (l ++ kQIMarks k)) ∧ Aside0 (Chg (fun _ => False) w wr)) (fun _ i _ => 64 - (intOf i).toNat)
      case atStart => exact ⟨0, rfl, by omega, ⟨by simpa [kQIMarks] using h.out⟩, hCh⟩
      case round =>
        obtain ⟨k, rfl, hk2, hR, hCh2⟩ := hrel
        by_cases hlt : k < 64
        · have hl : Aside0 (((l ++ kQIMarks k).length + 1) * 16 ≤ 140737488355328) := ⟨by rw [List.length_append, kQIMarks_length]; omega⟩
          go_wp2_with (at_builtin; go_must (refine app1 kQI rfl (.tmp 23) (.tmp 26) rfl Tryd.underlying44 infoQI rfl (by decide) (by decide) ⟨(-7), (k : Int)⟩ rfl rfl (kQI_M _ _ _ _) hR hCh2 hl ?_); go_must (intro v1 w1 hr1 hc1))
          go_roundw
          case measure => first | (simp [intOf]; done) | (simp [intOf]; omega)
          case rel => exact ⟨k + 1, by go_num, by omega, ⟨by rw [kQIMarks_succ, ← List.append_assoc]; exact hr1.out⟩, hc1⟩
        · obtain rfl : k = 64 := by omega
          go_wp2
          go_ret
          exact ⟨_, rfl, hR.out, hCh2.out⟩
theorem kit_sameInstrs (w : World) (A B : Option Addr) (n m ca cb : Nat) (l : List QI) (h1 : Kd.C kQI w A n l) (h2 : Kd.C kQI w B m l) :
    Calls Tryd.prog 29 #[.slice A n ca, .slice B m cb] w fun e w' => e = .returned (.bool true) ∧ Chg (fun _ => False) w w' := by
  have e1 := h1.1
  have e2 := h2.1
  have hb := h1.2.1
  subst e1 e2
  have hCA := Aside0.mk h1
  have hDA := Aside0.mk h2
  clear h1 h2
  go_enter Tryd.func29, Tryd.ntmps29
  go_wp2
  go_loopw [5] (fun i wr => ∃ k : Nat, i = .int .i64 k ∧ k ≤ l.length ∧ Aside0 (Chg (fun _ => False) w wr)) (fun i _ => l.length - (intOf i).toNat)
  case atStart => exact ⟨0, rfl, by omega, ⟨Chg.refl _ _⟩⟩
  case round =>
    obtain ⟨k, rfl, hk, hCh⟩ := hrel
    by_cases hlt : k < l.length
    · obtain ⟨ad, op1, a1, e1, e2, x0, x1⟩ := kQI_at (C_chg hCA.out (hCh.out.below (fun _ _ h => h))) k hlt
      obtain ⟨bd, op2, a2, e3, e4, y0, y1⟩ := kQI_at (C_chg hDA.out (hCh.out.below (fun _ _ h => h))) k hlt
      subst e1 e3
      rw [e4] at e2
      injection e2 with e2
      injection e2 with q0 q1
      obtain rfl := q0
      obtain rfl := q1
      clear e4
      have hk0 : (0 : Int) ≤ k := by omega
      have hk1 : (k : Int) < l.length := by omega
      go_wp2
      go_quiet (fail)
      go_wp2
      go_roundw
      case measure => first | (simp [intOf]; done) | (simp [intOf]; omega)
      case rel => exact ⟨k + 1, by go_num, by omega, ⟨by repeat (first | exact hCh.out | apply Chg.drewN)⟩⟩
    · obtain rfl : k = l.length := by omega
      go_wp2
      go_ret
      exact ⟨rfl, hCh.out⟩
theorem kit_KeptInstrs (w : World) (A B : Option Addr) (n cap m capm : Nat) (l : List QI) (hC : Kd.C kQI w A n (l ++ kQIMarks 64)) (hD : Kd.C kQI w B m l) (hn : l.length ≤ 1048576) :
    Calls Tryd.prog 31 #[.slice A n cap, .slice B m capm] w fun e w' => e = .returned (.bool true) ∧ Chg (fun _ => False) w w' := by
  have e0 := hC.1
  have e1 := hD.1
  rw [List.length_append, kQIMarks_length] at e0
  subst e0 e1
  have hCA := Aside0.mk hC
  have hDA := Aside0.mk hD
  clear hC hD
  go_enter Tryd.func31, Tryd.ntmps31
  go_wp2
  go_loopw [5, 6] (fun i _ wr => ∃ k : Nat, i = .int .i64 k ∧ k ≤ l.length + 64 ∧ Aside0 (Chg (fun _ => False) w wr)) (fun i _ _ => l.length + 64 - (intOf i).toNat)
  case atStart => exact ⟨0, rfl, by omega, ⟨Chg.refl _ _⟩⟩
  case round =>
    obtain ⟨k, rfl, hk, hCh⟩ := hrel
    by_cases hlt : k < l.length + 64
    · have hk0 : (0 : Int) ≤ k := by omega
      have hk1 : (k : Int) < (l.length : Int) + 64 := by omega
      have hlA := Aside0.mk hlt
      by_cases hin : k < l.length
      · obtain ⟨ad, op1, a1, e1, e2, x0, x1⟩ := kQI_at (C_chg hCA.out (hCh.out.below (fun _ _ h => h))) k hlt
        obtain ⟨bd, op2, a2, e3, e4, y0, y1⟩ := kQI_at (C_chg hDA.out (hCh.out.below (fun _ _ h => h))) k hin
        subst e1 e3
        rw [List.getElem?_append_left hin, e4] at e2
        injection e2 with e2
        injection e2 with q0 q1
        obtain rfl := q0
        obtain rfl := q1
        clear e4
        have hk2 : (k : Int) < l.length := by omega
        have x0a := cellQ x0 (.cells #[.int .i64 op2, .int .i64 a2] 50)
        have x1a := cellQ x1 (.cells #[.int .i64 op2, .int .i64 a2] 50)
        have y0a := cellQ y0 (.cells #[.int .i64 (-7), .int .i64 ((k : Int) - l.length)] 50)
        have y1a := cellQ y1 (.cells #[.int .i64 (-7), .int .i64 ((k : Int) - l.length)] 50)
        go_wp2
        go_quiet (fail)
        go_wp2
        go_roundw
        case measure => first | (simp [intOf]; done) | (simp [intOf]; omega)
        case rel => exact ⟨k + 1, by go_num, by omega, ⟨by repeat (first | exact hCh.out | apply Chg.drewN | apply Chg.alloc | (refine Chg.setCell ?_ (fun h => ?_) _))⟩⟩
      · obtain ⟨ad, op1, a1, e1, e2, x0, x1⟩ := kQI_at (C_chg hCA.out (hCh.out.below (fun _ _ h => h))) k hlt
        subst e1
        rw [List.getElem?_append_right (by omega), kQIMarks, List.getElem?_map, List.getElem?_range (by omega)] at e2
        simp only [Option.map_some, Option.some.injEq, QI.mk.injEq] at e2
        obtain ⟨q0, q1⟩ := e2
        subst q0
        have hk2 : ¬ (k : Int) < l.length := by omega
        have hs : (k : Int) - (l.length : Int) = a1 := by rw [← q1]; simp only [Int.ofNat_eq_natCast]; omega
        clear q1
        have x0a := cellQ x0 (.cells #[.int .i64 (-7), .int .i64 a1] 50)
        have x1a := cellQ x1 (.cells #[.int .i64 (-7), .int .i64 a1] 50)
        go_wp2
        go_quiet (fail)
        go_wp2
        go_roundw
        case measure => first | (simp [intOf]; done) | (simp [intOf]; omega)
        case rel => exact ⟨k + 1, by go_num, by omega, ⟨by repeat (first | exact hCh.out | apply Chg.drewN | apply Chg.alloc | (refine Chg.setCell ?_ (fun h => ?_) _))⟩⟩
    · obtain rfl : k = l.length + 64 := by omega
      go_wp2
      go_ret
      exact ⟨rfl, hCh.out⟩
theorem infoQH : (Tryd.prog.info? 54).map (fun i => (i.zero, i.size, i.bytes)) = some (some (.agg #[.int .i64 0, .int .i64 0, .int .i64 0, .int .i64 0]), 4, 32) := by kernel_rfl
theorem kQH_at {w : World} {A : Option Addr} {n : Nat} {l : List QH} (h : Kd.C kQH w A n l) (i : Nat) (h1 : i < n) : ∃ ad frm1 upto1 tgt1 hgt1, A = some ad ∧ l[i]? = some ⟨frm1, upto1, tgt1, hgt1⟩ ∧ w.cell? (ad.add (i * 4)) = some (.int .i64 frm1) ∧ w.cell? ⟨(ad.add (i * 4)).block, (ad.add (i * 4)).off + 1, none⟩ = some (.int .i64 upto1) ∧ w.cell? ⟨(ad.add (i * 4)).block, (ad.add (i * 4)).off + 2, none⟩ = some (.int .i64 tgt1) ∧ w.cell? ⟨(ad.add (i * 4)).block, (ad.add (i * 4)).off + 3, none⟩ = some (.int .i64 hgt1) := by
  obtain ⟨e1, e2, e3⟩ := h
  obtain ⟨ad, ea, hc⟩ := e3 (by omega)
  have hi : i < l.length := by omega
  obtain ⟨cs, _, hk, hcell⟩ := hc i _ (List.getElem?_eq_getElem hi)
  rw [kQH_K] at hk
  subst hk
  have g1 := hcell 1 _ rfl
  have g2 := hcell 2 _ rfl
  have g3 := hcell 3 _ rfl
  have e5 : kQH.sz = 4 := rfl
  rw [e5] at g1 g2 g3
  rw [← add_add] at g1 g2 g3
  exact ⟨ad, l[i].frm, l[i].upto, l[i].tgt, l[i].hgt, ea, List.getElem?_eq_getElem hi, hcell 0 _ rfl, g1, g2, g3⟩
def kQHMarks (k : Nat) : List QH := (List.range k).map (fun i : Nat => (⟨(-7), Int.ofNat i, 0, 0⟩ : QH))
theorem kQHMarks_succ (k : Nat) : kQHMarks (k + 1) = kQHMarks k ++ [⟨(-7), (k : Int), 0, 0⟩] := by simp [kQHMarks, List.range_succ]
theorem kQHMarks_length (k : Nat) : (kQHMarks k).length = k := by simp [kQHMarks]
theorem kit_fullHandlers (w : World) (A : Option Addr) (n cap : Nat) (l : List QH) (hC : Kd.C kQH w A n l) (hn : l.length ≤ 1048576) :
    Calls Tryd.prog 23 #[.slice A n cap] w fun e w' => ∃ v, e = .returned v ∧ Kd.R kQH 54 w' 0 (New (fun _ => False) w w') v (l ++ kQHMarks 64) ∧ Chg (fun _ => False) w w' := by
  have e0 := hC.1
  subst e0
  have hCA := Aside0.mk hC
  clear hC
  go_enter Tryd.func23, Tryd.ntmps23
  go_wp2
  go_loopw [3, 4] (fun v i wr => ∃ k : Nat, i = .int .i64 k ∧ k ≤ l.length ∧ Aside0 (Kd.R kQH 54 wr 0 (New (fun _ => False) w wr) v (l.take k)) ∧ Aside0 (Chg (fun _ => False) w wr)) (fun _ i _ => l.length - (intOf i).toNat)
  case atStart => exact ⟨0, rfl, by omega, ⟨Kd.R_nil _ _ _ _ _⟩, ⟨Chg.refl _ _⟩⟩
  case round =>
    obtain ⟨k, rfl, hk, hR, hCh⟩ := hrel
    by_cases hlt : k < l.length
    · obtain ⟨ad, frm1, upto1, tgt1, hgt1, e1, e2, x0, x1, x2, x3⟩ := kQH_at (C_chg hCA.out (hCh.out.below (fun _ _ h => h))) k hlt
      subst e1
      have hk0 : (0 : Int) ≤ k := by omega
      have hk1 : (k : Int) < l.length := by omega
      have ht : Aside0 (l.take (k + 1) = l.take k ++ [⟨frm1, upto1, tgt1, hgt1⟩]) := ⟨by rw [List.take_succ_eq_append_getElem hlt]; rw [List.getElem?_eq_getElem hlt] at e2; injection e2 with e2; rw [e2]⟩
      clear e2
      have hl : Aside0 (((l.take k).length + 1) * 32 ≤ 140737488355328) := ⟨by rw [List.length_take]; omega⟩
      go_wp2_with (at_builtin; go_must (refine app1 kQH rfl (.tmp 12) (.tmp 17) rfl Tryd.underlying45 infoQH rfl (by decide) (by decide) ⟨frm1, upto1, tgt1, hgt1⟩ rfl rfl (kQH_M _ _ _ _) hR hCh hl ?_); go_must (intro v1 w1 hr1 hc1))
      go_roundw
      case measure => first | (simp [intOf]; done) | (simp [intOf]; omega)
      case rel => exact ⟨k + 1, by go_num, by omega, ⟨by rw [ht.out]; exact hr1.out⟩, hc1⟩
    · obtain rfl : k = l.length := by omega
      have h := hR.out
      rw [List.take_length] at h
      replace h := Aside0.mk h
      clear hR
      go_wp2
      go_loopw [3, 5] (fun v i wr => ∃ k : Nat, i = .int .i64 k ∧ k ≤ 64 ∧ Aside0 (Kd.R kQH 54 wr 0 (New (fun _ => False) w wr) v (l ++ kQHMarks k)) ∧ Aside0 (Chg (fun _ => False) w wr)) (fun _ i _ => 64 - (intOf i).toNat)
      case atStart => exact ⟨0, rfl, by omega, ⟨by simpa [kQHMarks] using h.out⟩, hCh⟩
      case round =>
        obtain ⟨k, rfl, hk2, hR, hCh2⟩ := hrel
        by_cases hlt : k < 64
        · have hl : Aside0 (((l ++ kQHMarks k).length + 1) * 32 ≤ 140737488355328) := ⟨by rw [List.length_append, kQHMarks_length]; omega⟩
          go_wp2_with (at_builtin; go_must (refine app1 kQH rfl (.tmp 23) (.tmp 26) rfl Tryd.underlying45 infoQH rfl (by decide) (by decide) ⟨(-7), (k : Int), 0, 0⟩ rfl rfl (kQH_M _ _ _ _) hR hCh2 hl ?_); go_must (intro v1 w1 hr1 hc1))
          go_roundw
          case measure => first | (simp [intOf]; done) | (simp [intOf]; omega)
          case rel => exact ⟨k + 1, by go_num, by omega, ⟨by rw [kQHMarks_succ, ← List.append_assoc]; exact hr1.out⟩, hc1⟩
        · obtain rfl : k = 64 := by omega
          go_wp2
          go_ret
          exact ⟨_, rfl, hR.out, hCh2.out⟩
theorem kit_sameHandlers (w : World) (A B : Option Addr) (n m ca cb : Nat) (l : List QH) (h1 : Kd.C kQH w A n l) (h2 : Kd.C kQH w B m l) :
    Calls Tryd.prog 30 #[.slice A n ca, .slice B m cb] w fun e w' => e = .returned (.bool true) ∧ Chg (fun _ => False) w w' := by
  have e1 := h1.1
  have e2 := h2.1
  have hb := h1.2.1
  subst e1 e2
  have hCA := Aside0.mk h1
  have hDA := Aside0.mk h2
  clear h1 h2
  go_enter Tryd.func30, Tryd.ntmps30
  go_wp2
  go_loopw [5] (fun i wr => ∃ k : Nat, i = .int .i64 k ∧ k ≤ l.length ∧ Aside0 (Chg (fun _ => False) w wr)) (fun i _ => l.length - (intOf i).toNat)
  case atStart => exact ⟨0, rfl, by omega, ⟨Chg.refl _ _⟩⟩
  case round =>
    obtain ⟨k, rfl, hk, hCh⟩ := hrel
    by_cases hlt : k < l.length
    · obtain ⟨ad, frm1, upto1, tgt1, hgt1, e1, e2, x0, x1, x2, x3⟩ := kQH_at (C_chg hCA.out (hCh.out.below (fun _ _ h => h))) k hlt
      obtain ⟨bd, frm2, upto2, tgt2, hgt2, e3, e4, y0, y1, y2, y3⟩ := kQH_at (C_chg hDA.out (hCh.out.below (fun _ _ h => h))) k hlt
      subst e1 e3
      rw [e4] at e2
      injection e2 with e2
      injection e2 with q0 q1 q2 q3
      obtain rfl := q0
      obtain rfl := q1
      obtain rfl := q2
      obtain rfl := q3
      clear e4
      have hk0 : (0 : Int) ≤ k := by omega
      have hk1 : (k : Int) < l.length := by omega
      go_wp2
      go_quiet (fail)
      go_wp2
      go_roundw
      case measure => first | (simp [intOf]; done) | (simp [intOf]; omega)
      case rel => exact ⟨k + 1, by go_num, by omega, ⟨by repeat (first | exact hCh.out | apply Chg.drewN)⟩⟩
    · obtain rfl : k = l.length := by omega
      go_wp2
      go_ret
      exact ⟨rfl, hCh.out⟩
theorem kit_keptHandlers (w : World) (A B : Option Addr) (n cap m capm : Nat) (l : List QH) (hC : Kd.C kQH w A n (l ++ kQHMarks 64)) (hD : Kd.C kQH w B m l) (hn : l.length ≤ 1048576) :
    Calls Tryd.prog 32 #[.slice A n cap, .slice B m capm] w fun e w' => e = .returned (.bool true) ∧ Chg (fun _ => False) w w' := by
  have e0 := hC.1
  have e1 := hD.1
  rw [List.length_append, kQHMarks_length] at e0
  subst e0 e1
  have hCA := Aside0.mk hC
  have hDA := Aside0.mk hD
  clear hC hD
  go_enter Tryd.func32, Tryd.ntmps32
  go_wp2
  go_loopw [5, 6] (fun i _ wr => ∃ k : Nat, i = .int .i64 k ∧ k ≤ l.length + 64 ∧ Aside0 (Chg (fun _ => False) w wr)) (fun i _ _ => l.length + 64 - (intOf i).toNat)
  case atStart => exact ⟨0, rfl, by omega, ⟨Chg.refl _ _⟩⟩
  case round =>
    obtain ⟨k, rfl, hk, hCh⟩ := hrel
    by_cases hlt : k < l.length + 64
    · have hk0 : (0 : Int) ≤ k := by omega
      have hk1 : (k : Int) < (l.length : Int) + 64 := by omega
      have hlA := Aside0.mk hlt
      by_cases hin : k < l.length
      · obtain ⟨ad, frm1, upto1, tgt1, hgt1, e1, e2, x0, x1, x2, x3⟩ := kQH_at (C_chg hCA.out (hCh.out.below (fun _ _ h => h))) k hlt
        obtain ⟨bd, frm2, upto2, tgt2, hgt2, e3, e4, y0, y1, y2, y3⟩ := kQH_at (C_chg hDA.out (hCh.out.below (fun _ _ h => h))) k hin
        subst e1 e3
        rw [List.getElem?_append_left hin, e4] at e2
        injection e2 with e2
        injection e2 with q0 q1 q2 q3
        obtain rfl := q0
        obtain rfl := q1
        obtain rfl := q2
        obtain rfl := q3
        clear e4
        have hk2 : (k : Int) < l.length := by omega
        have x0a := cellQ x0 (.cells #[.int .i64 frm2, .int .i64 upto2, .int .i64 tgt2, .int .i64 hgt2] 54)
        have x1a := cellQ x1 (.cells #[.int .i64 frm2, .int .i64 upto2, .int .i64 tgt2, .int .i64 hgt2] 54)
        have x2a := cellQ x2 (.cells #[.int .i64 frm2, .int .i64 upto2, .int .i64 tgt2, .int .i64 hgt2] 54)
        have x3a := cellQ x3 (.cells #[.int .i64 frm2, .int .i64 upto2, .int .i64 tgt2, .int .i64 hgt2] 54)
        have y0a := cellQ y0 (.cells #[.int .i64 (-7), .int .i64 ((k : Int) - l.length), .int .i64 0, .int .i64 0] 54)
        have y1a := cellQ y1 (.cells #[.int .i64 (-7), .int .i64 ((k : Int) - l.length), .int .i64 0, .int .i64 0] 54)
        have y2a := cellQ y2 (.cells #[.int .i64 (-7), .int .i64 ((k : Int) - l.length), .int .i64 0, .int .i64 0] 54)
        have y3a := cellQ y3 (.cells #[.int .i64 (-7), .int .i64 ((k : Int) - l.length), .int .i64 0, .int .i64 0] 54)
        go_wp2
        go_quiet (fail)
        go_wp2
        go_roundw
        case measure => first | (simp [intOf]; done) | (simp [intOf]; omega)
        case rel => exact ⟨k + 1, by go_num, by omega, ⟨by repeat (first | exact hCh.out | apply Chg.drewN | apply Chg.alloc | (refine Chg.setCell ?_ (fun h => ?_) _))⟩⟩
      · obtain ⟨ad, frm1, upto1, tgt1, hgt1, e1, e2, x0, x1, x2, x3⟩ := kQH_at (C_chg hCA.out (hCh.out.below (fun _ _ h => h))) k hlt
        subst e1
        rw [List.getElem?_append_right (by omega), kQHMarks, List.getElem?_map, List.getElem?_range (by omega)] at e2
        simp only [Option.map_some, Option.some.injEq, QH.mk.injEq] at e2
        obtain ⟨q0, q1, q2, q3⟩ := e2
        subst q0
        subst q2
        subst q3
        have hk2 : ¬ (k : Int) < l.length := by omega
        have hs : (k : Int) - (l.length : Int) = upto1 := by rw [← q1]; simp only [Int.ofNat_eq_natCast]; omega
        clear q1
        have x0a := cellQ x0 (.cells #[.int .i64 (-7), .int .i64 upto1, .int .i64 0, .int .i64 0] 54)
        have x1a := cellQ x1 (.cells #[.int .i64 (-7), .int .i64 upto1, .int .i64 0, .int .i64 0] 54)
        have x2a := cellQ x2 (.cells #[.int .i64 (-7), .int .i64 upto1, .int .i64 0, .int .i64 0] 54)
        have x3a := cellQ x3 (.cells #[.int .i64 (-7), .int .i64 upto1, .int .i64 0, .int .i64 0] 54)
        go_wp2
        go_quiet (fail)
        go_wp2
        go_roundw
        case measure => first | (simp [intOf]; done) | (simp [intOf]; omega)
        case rel => exact ⟨k + 1, by go_num, by omega, ⟨by repeat (first | exact hCh.out | apply Chg.drewN | apply Chg.alloc | (refine Chg.setCell ?_ (fun h => ?_) _))⟩⟩
    · obtain rfl : k = l.length + 64 := by omega
      go_wp2
      go_ret
      exact ⟨rfl, hCh.out⟩
end Go.Proofs.YtgaackedappmgaaDoor.K
