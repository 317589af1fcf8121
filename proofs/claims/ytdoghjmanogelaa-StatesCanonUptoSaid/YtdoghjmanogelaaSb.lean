import Derived.Test.YtdoghjmanogelaaQb
import Derived.Test.YtdoghjmanogelaaSa
import Derived.IntWalk
import Derived.BigQuiet
namespace Go.Proofs.Ytdoghjmanogelaa.K
open Go.RowKit Go.Proofs.YtdoghjmanogelaaW.PrintWords Go.Proofs.YtdoghjmanogelaaW.PrintLast Go.Proofs.YtdoghjmanogelaaW.PrintMore
set_option linter.unusedVariables false
set_option linter.unusedSimpArgs false
set_option maxRecDepth 100000

theorem infoQV : (Try.prog.info? 56).map (fun i => (i.zero, i.size, i.bytes)) = some (some (.agg #[.int .i64 0, .int .i64 0]), 2, 16) := by kernel_rfl
theorem kQV_at {w : World} {A : Option Addr} {n : Nat} {l : List QV} (h : Kd.C kQV w A n l) (i : Nat) (h1 : i < n) : ∃ ad kind1 n1, A = some ad ∧ l[i]? = some ⟨kind1, n1⟩ ∧ w.cell? (ad.add (i * 2)) = some (.int .i64 kind1) ∧ w.cell? ⟨(ad.add (i * 2)).block, (ad.add (i * 2)).off + 1, none⟩ = some (.int .i64 n1) := by
  obtain ⟨e1, e2, e3⟩ := h
  obtain ⟨ad, ea, hc⟩ := e3 (by omega)
  have hi : i < l.length := by omega
  obtain ⟨cs, _, hk, hcell⟩ := hc i _ (List.getElem?_eq_getElem hi)
  rw [kQV_K] at hk
  subst hk
  have g1 := hcell 1 _ rfl
  have e5 : kQV.sz = 2 := rfl
  rw [e5] at g1
  rw [← add_add] at g1
  exact ⟨ad, l[i].kind, l[i].n, ea, List.getElem?_eq_getElem hi, hcell 0 _ rfl, g1⟩
def kQVMarks (k : Nat) : List QV := (List.range k).map (fun i : Nat => (⟨(-9), Int.ofNat i⟩ : QV))
theorem kQVMarks_succ (k : Nat) : kQVMarks (k + 1) = kQVMarks k ++ [⟨(-9), (k : Int)⟩] := by simp [kQVMarks, List.range_succ]
theorem kQVMarks_length (k : Nat) : (kQVMarks k).length = k := by simp [kQVMarks]
theorem kit_LentValues (w : World) (A : Option Addr) (n cap : Nat) (l : List QV) (hC : Kd.C kQV w A n l) (hn : l.length ≤ 1048576) :
    Calls Try.prog 47 #[.slice A n cap] w fun e w' => ∃ v, e = .returned v ∧ Kd.R kQV 56 w' 0 (New (fun _ => False) w w') v (l ++ kQVMarks 64) ∧ Chg (fun _ => False) w w' := by
  have e0 := hC.1
  subst e0
  have hCA := Aside0.mk hC
  clear hC
  go_enter Try.func47, Try.ntmps47
  go_wp2
  go_loopw [3, 4] (fun v i wr => ∃ k : Nat, i = .int .i64 k ∧ k ≤ l.length ∧ Aside0 (Kd.R kQV 56 wr 0 (New (fun _ => False) w wr) v (l.take k)) ∧ Aside0 (Chg (fun _ => False) w wr)) (fun _ i _ => l.length - (intOf i).toNat)
  case atStart => exact ⟨0, rfl, by omega, ⟨Kd.R_nil _ _ _ _ _⟩, ⟨Chg.refl _ _⟩⟩
  case round =>
    obtain ⟨k, rfl, hk, hR, hCh⟩ := hrel
    by_cases hlt : k < l.length
    · obtain ⟨ad, kind1, n1, e1, e2, x0, x1⟩ := kQV_at (C_chg hCA.out (hCh.out.below (fun _ _ h => h))) k hlt
      subst e1
      have hk0 : (0 : Int) ≤ k := by omega
      have hk1 : (k : Int) < l.length := by omega
      have ht : Aside0 (l.take (k + 1) = l.take k ++ [⟨kind1, n1⟩]) := ⟨by rw [List.take_succ_eq_append_getElem hlt]; rw [List.getElem?_eq_getElem hlt] at e2; injection e2 with e2; rw [e2]⟩
      clear e2
      have hl : Aside0 (((l.take k).length + 1) * 16 ≤ 140737488355328) := ⟨by rw [List.length_take]; omega⟩
      go_wp2_with (at_builtin; go_must (refine app1 kQV rfl (.tmp 12) (.tmp 17) rfl Try.underlying52 infoQV rfl (by decide) (by decide) ⟨kind1, n1⟩ rfl rfl (kQV_M _ _ _ _) hR hCh hl ?_); go_must (intro v1 w1 hr1 hc1))
      go_roundw
      case measure => first | (simp [intOf]; done) | (simp [intOf]; omega)
      case rel => exact ⟨k + 1, by go_num, by omega, ⟨by rw [ht.out]; exact hr1.out⟩, hc1⟩
    · obtain rfl : k = l.length := by omega
      have h := hR.out
      rw [List.take_length] at h
      replace h := Aside0.mk h
      clear hR
      go_wp2
      go_loopw [3, 5] (fun v i wr => ∃ k : Nat, i = .int .i64 k ∧ k ≤ 64 ∧ Aside0 (Kd.R kQV 56 wr 0 (New (fun _ => False) w wr) v (l ++ kQVMarks k)) ∧ Aside0 (Chg (fun _ => False) w wr)) (fun _ i _ => 64 - (intOf i).toNat)
      case atStart => exact ⟨0, rfl, by omega, ⟨by simpa [kQVMarks] using h.out⟩, hCh⟩
      case round =>
        obtain ⟨k, rfl, hk2, hR, hCh2⟩ := hrel
        by_cases hlt : k < 64
        · have hl : Aside0 (((l ++ kQVMarks k).length + 1) * 16 ≤ 140737488355328) := ⟨by rw [List.length_append, kQVMarks_length]; omega⟩
          go_wp2_with (at_builtin; go_must (refine app1 kQV rfl (.tmp 23) (.tmp 26) rfl Try.underlying52 infoQV rfl (by decide) (by decide) ⟨(-9), (k : Int)⟩ rfl rfl (kQV_M _ _ _ _) hR hCh2 hl ?_); go_must (intro v1 w1 hr1 hc1))
          go_roundw
          case measure => first | (simp [intOf]; done) | (simp [intOf]; omega)
          case rel => exact ⟨k + 1, by go_num, by omega, ⟨by rw [kQVMarks_succ, ← List.append_assoc]; exact hr1.out⟩, hc1⟩
        · obtain rfl : k = 64 := by omega
          go_wp2
          go_ret
          exact ⟨_, rfl, hR.out, hCh2.out⟩
theorem kit_SameValues (w : World) (A B : Option Addr) (n m ca cb : Nat) (l : List QV) (h1 : Kd.C kQV w A n l) (h2 : Kd.C kQV w B m l) :
    Calls Try.prog 100 #[.slice A n ca, .slice B m cb] w fun e w' => e = .returned (.bool true) ∧ Chg (fun _ => False) w w' := by
  have e1 := h1.1
  have e2 := h2.1
  have hb := h1.2.1
  subst e1 e2
  have hCA := Aside0.mk h1
  have hDA := Aside0.mk h2
  clear h1 h2
  go_enter Try.func100, Try.ntmps100
  go_wp2
  go_loopw [5] (fun i wr => ∃ k : Nat, i = .int .i64 k ∧ k ≤ l.length ∧ Aside0 (Chg (fun _ => False) w wr)) (fun i _ => l.length - (intOf i).toNat)
  case atStart => exact ⟨0, rfl, by omega, ⟨Chg.refl _ _⟩⟩
  case round =>
    obtain ⟨k, rfl, hk, hCh⟩ := hrel
    by_cases hlt : k < l.length
    · obtain ⟨ad, kind1, n1, e1, e2, x0, x1⟩ := kQV_at (C_chg hCA.out (hCh.out.below (fun _ _ h => h))) k hlt
      obtain ⟨bd, kind2, n2, e3, e4, y0, y1⟩ := kQV_at (C_chg hDA.out (hCh.out.below (fun _ _ h => h))) k hlt
      subst e1 e3
      rw [e4] at e2
      injection e2 with e2
      injection e2 with q0 q1
      obtain rfl := q0
      obtain rfl := q1
      clear e4
      have hk0 : (0 : Int) ≤ k := by omega
      have hk1 : (k : Int) < l.length := by omega
      go_wp2
      go_quiet (fail)
      go_wp2
      go_roundw
      case measure => first | (simp [intOf]; done) | (simp [intOf]; omega)
      case rel => exact ⟨k + 1, by go_num, by omega, ⟨by repeat (first | exact hCh.out | apply Chg.drewN)⟩⟩
    · obtain rfl : k = l.length := by omega
      go_wp2
      go_ret
      exact ⟨rfl, hCh.out⟩
theorem kit_KeptValues (w : World) (A B : Option Addr) (n cap m capm : Nat) (l : List QV) (hC : Kd.C kQV w A n (l ++ kQVMarks 64)) (hD : Kd.C kQV w B m l) (hn : l.length ≤ 1048576) :
    Calls Try.prog 55 #[.slice A n cap, .slice B m capm] w fun e w' => e = .returned (.bool true) ∧ Chg (fun _ => False) w w' := by
  have e0 := hC.1
  have e1 := hD.1
  rw [List.length_append, kQVMarks_length] at e0
  subst e0 e1
  have hCA := Aside0.mk hC
  have hDA := Aside0.mk hD
  clear hC hD
  go_enter Try.func55, Try.ntmps55
  go_wp2
  go_loopw [5, 6] (fun i _ wr => ∃ k : Nat, i = .int .i64 k ∧ k ≤ l.length + 64 ∧ Aside0 (Chg (fun _ => False) w wr)) (fun i _ _ => l.length + 64 - (intOf i).toNat)
  case atStart => exact ⟨0, rfl, by omega, ⟨Chg.refl _ _⟩⟩
  case round =>
    obtain ⟨k, rfl, hk, hCh⟩ := hrel
    by_cases hlt : k < l.length + 64
    · have hk0 : (0 : Int) ≤ k := by omega
      have hk1 : (k : Int) < (l.length : Int) + 64 := by omega
      have hlA := Aside0.mk hlt
      by_cases hin : k < l.length
      · obtain ⟨ad, kind1, n1, e1, e2, x0, x1⟩ := kQV_at (C_chg hCA.out (hCh.out.below (fun _ _ h => h))) k hlt
        obtain ⟨bd, kind2, n2, e3, e4, y0, y1⟩ := kQV_at (C_chg hDA.out (hCh.out.below (fun _ _ h => h))) k hin
        subst e1 e3
        rw [List.getElem?_append_left hin, e4] at e2
        injection e2 with e2
        injection e2 with q0 q1
        obtain rfl := q0
        obtain rfl := q1
        clear e4
        have hk2 : (k : Int) < l.length := by omega
        have x0a := cellQ x0 (.cells #[.int .i64 kind2, .int .i64 n2] 56)
        have x1a := cellQ x1 (.cells #[.int .i64 kind2, .int .i64 n2] 56)
        have y0a := cellQ y0 (.cells #[.int .i64 (-9), .int .i64 ((k : Int) - l.length)] 56)
        have y1a := cellQ y1 (.cells #[.int .i64 (-9), .int .i64 ((k : Int) - l.length)] 56)
        go_wp2
        go_quiet (fail)
        go_wp2
        go_roundw
        case measure => first | (simp [intOf]; done) | (simp [intOf]; omega)
        case rel => exact ⟨k + 1, by go_num, by omega, ⟨by repeat (first | exact hCh.out | apply Chg.drewN | apply Chg.alloc | (refine Chg.setCell ?_ (fun h => ?_) _))⟩⟩
      · obtain ⟨ad, kind1, n1, e1, e2, x0, x1⟩ := kQV_at (C_chg hCA.out (hCh.out.below (fun _ _ h => h))) k hlt
        subst e1
        rw [List.getElem?_append_right (by omega), kQVMarks, List.getElem?_map, List.getElem?_range (by omega)] at e2
        simp only [Option.map_some, Option.some.injEq, QV.mk.injEq] at e2
        obtain ⟨q0, q1⟩ := e2
        subst q0
        have hk2 : ¬ (k : Int) < l.length := by omega
        have hs : (k : Int) - (l.length : Int) = n1 := by rw [← q1]; simp only [Int.ofNat_eq_natCast]; omega
        clear q1
        have x0a := cellQ x0 (.cells #[.int .i64 (-9), .int .i64 n1] 56)
        have x1a := cellQ x1 (.cells #[.int .i64 (-9), .int .i64 n1] 56)
        go_wp2
        go_quiet (fail)
        go_wp2
        go_roundw
        case measure => first | (simp [intOf]; done) | (simp [intOf]; omega)
        case rel => exact ⟨k + 1, by go_num, by omega, ⟨by repeat (first | exact hCh.out | apply Chg.drewN | apply Chg.alloc | (refine Chg.setCell ?_ (fun h => ?_) _))⟩⟩
    · obtain rfl : k = l.length + 64 := by omega
      go_wp2
      go_ret
      exact ⟨rfl, hCh.out⟩

theorem C_one {α : Type} {d : Kd α} {enc : α → Value} (hK : ∀ w x cs, d.K w x cs → cs = [enc x]) (hsz : d.sz = 1) {w : World} {A : Option Addr} {n : Nat} {l : List α} (h : d.C w A n l) (i : Nat) (h1 : i < n) : ∃ ad x, A = some ad ∧ l[i]? = some x ∧ w.cell? (ad.add i) = some (enc x) := by
  obtain ⟨e1, e2, e3⟩ := h
  obtain ⟨ad, ea, hc⟩ := e3 (by omega)
  have hi : i < l.length := by omega
  obtain ⟨cs, _, hk, hcell⟩ := hc i _ (List.getElem?_eq_getElem hi)
  have hk := hK _ _ _ hk
  subst hk
  have g := hcell 0 _ rfl
  rw [hsz, Nat.mul_one, Nat.add_zero] at g
  exact ⟨ad, l[i], ea, List.getElem?_eq_getElem hi, g⟩
theorem i64_at {w : World} {A : Option Addr} {n : Nat} {l : List Int} (h : Kd.C (Kd.int .i64) w A n l) (i : Nat) (h1 : i < n) : ∃ ad x, A = some ad ∧ l[i]? = some x ∧ w.cell? (ad.add i) = some (.int .i64 x) := C_one (enc := Value.int .i64) (fun _ _ _ h => h) rfl h i h1
theorem str_at {w : World} {A : Option Addr} {n : Nat} {l : List ByteArray} (h : Kd.C Kd.string w A n l) (i : Nat) (h1 : i < n) : ∃ ad x, A = some ad ∧ l[i]? = some x ∧ w.cell? (ad.add i) = some (.string x) := C_one (enc := Value.string) (fun _ _ _ h => h) rfl h i h1
theorem infoI64 : (Try.prog.info? 2).map (fun i => (i.zero, i.size, i.bytes)) = some (some (.int .i64 0), 1, 8) := by kernel_rfl
theorem infoStr : (Try.prog.info? 9).map (fun i => (i.zero, i.size, i.bytes)) = some (some (.string ⟨#[]⟩), 1, 16) := by kernel_rfl
theorem ref_CopyValues (w : World) (A : Option Addr) (n cap : Nat) (l : List QV) (hC : Kd.C kQV w A n l) (hn : l.length ≤ 1048576) :
    Calls Try.prog 66 #[.slice A n cap] w fun e w' => ∃ v, e = .returned v ∧ Kd.R kQV 56 w' 0 (New (fun _ => False) w w') v l ∧ Chg (fun _ => False) w w' := by
  have e0 := hC.1
  subst e0
  have hCA := Aside0.mk hC
  clear hC
  go_enter Try.func66, Try.ntmps66
  go_wp2
  go_loopw [3, 4] (fun v i wr => ∃ k : Nat, i = .int .i64 k ∧ k ≤ l.length ∧ Aside0 (Kd.R kQV 56 wr 0 (New (fun _ => False) w wr) v (l.take k)) ∧ Aside0 (Chg (fun _ => False) w wr)) (fun _ i _ => l.length - (intOf i).toNat)
  case atStart => exact ⟨0, rfl, by omega, ⟨Kd.R_nil _ _ _ _ _⟩, ⟨Chg.refl _ _⟩⟩
  case round =>
    obtain ⟨k, rfl, hk, hR, hCh⟩ := hrel
    by_cases hlt : k < l.length
    · obtain ⟨ad, vk, vn, e1, e2, x0, x1⟩ := kQV_at (C_chg hCA.out (hCh.out.below (fun _ _ h => h))) k hlt
      subst e1
      have hk0 : (0 : Int) ≤ k := by omega
      have hk1 : (k : Int) < l.length := by omega
      have ht : Aside0 (l.take (k + 1) = l.take k ++ [⟨vk, vn⟩]) := ⟨by rw [List.take_succ_eq_append_getElem hlt]; rw [List.getElem?_eq_getElem hlt] at e2; injection e2 with e2; rw [e2]⟩
      clear e2
      have hl : Aside0 (((l.take k).length + 1) * 16 ≤ 140737488355328) := ⟨by rw [List.length_take]; omega⟩
      go_wp2_with (at_builtin; go_must (refine app1 kQV rfl (.tmp 11) (.tmp 16) rfl Try.underlying52 infoQV rfl (by decide) (by decide) ⟨vk, vn⟩ rfl rfl (kQV_M _ _ _ _) hR hCh hl ?_); go_must (intro v1 w1 hr1 hc1))
      go_roundw
      case measure => first | (simp [intOf]; done) | (simp [intOf]; omega)
      case rel => exact ⟨k + 1, by go_num, by omega, ⟨by rw [ht.out]; exact hr1.out⟩, hc1⟩
    · obtain rfl : k = l.length := by omega
      go_wp2
      go_ret
      have h := hR.out
      rw [List.take_length] at h
      exact ⟨_, rfl, h, hCh.out⟩

theorem ref_CopyLongs (w : World) (A : Option Addr) (n cap : Nat) (l : List Int) (hC : Kd.C (Kd.int .i64) w A n l) (hn : l.length ≤ 1048576) :
    Calls Try.prog 67 #[.slice A n cap] w fun e w' => ∃ v, e = .returned v ∧ Kd.R (Kd.int .i64) 2 w' 0 (New (fun _ => False) w w') v l ∧ Chg (fun _ => False) w w' := by
  have e0 := hC.1
  subst e0
  have hCA := Aside0.mk hC
  clear hC
  go_enter Try.func67, Try.ntmps67
  go_wp2
  go_loopw [3, 4] (fun v i wr => ∃ k : Nat, i = .int .i64 k ∧ k ≤ l.length ∧ Aside0 (Kd.R (Kd.int .i64) 2 wr 0 (New (fun _ => False) w wr) v (l.take k)) ∧ Aside0 (Chg (fun _ => False) w wr)) (fun _ i _ => l.length - (intOf i).toNat)
  case atStart => exact ⟨0, rfl, by omega, ⟨Kd.R_nil _ _ _ _ _⟩, ⟨Chg.refl _ _⟩⟩
  case round =>
    obtain ⟨k, rfl, hk, hR, hCh⟩ := hrel
    by_cases hlt : k < l.length
    · obtain ⟨ad, x, e1, e2, x0⟩ := i64_at (C_chg hCA.out (hCh.out.below (fun _ _ h => h))) k hlt
      subst e1
      have hk0 : (0 : Int) ≤ k := by omega
      have hk1 : (k : Int) < l.length := by omega
      have ht : Aside0 (l.take (k + 1) = l.take k ++ [x]) := ⟨by rw [List.take_succ_eq_append_getElem hlt]; rw [List.getElem?_eq_getElem hlt] at e2; injection e2 with e2; rw [e2]⟩
      clear e2
      have hl : Aside0 (((l.take k).length + 1) * 8 ≤ 140737488355328) := ⟨by rw [List.length_take]; omega⟩
      go_wp2_with (at_builtin; go_must (refine app1 (Kd.int .i64) rfl (.tmp 11) (.tmp 16) rfl Try.underlying57 infoI64 rfl (by decide) (by decide) x rfl rfl rfl hR hCh hl ?_); go_must (intro v1 w1 hr1 hc1))
      go_roundw
      case measure => first | (simp [intOf]; done) | (simp [intOf]; omega)
      case rel => exact ⟨k + 1, by go_num, by omega, ⟨by rw [ht.out]; exact hr1.out⟩, hc1⟩
    · obtain rfl : k = l.length := by omega
      go_wp2
      go_ret
      have h := hR.out
      rw [List.take_length] at h
      exact ⟨_, rfl, h, hCh.out⟩

theorem ref_CopyTexts (w : World) (A : Option Addr) (n cap : Nat) (l : List ByteArray) (hC : Kd.C Kd.string w A n l) (hn : l.length ≤ 1048576) :
    Calls Try.prog 68 #[.slice A n cap] w fun e w' => ∃ v, e = .returned v ∧ Kd.R Kd.string 9 w' 0 (New (fun _ => False) w w') v l ∧ Chg (fun _ => False) w w' := by
  have e0 := hC.1
  subst e0
  have hCA := Aside0.mk hC
  clear hC
  go_enter Try.func68, Try.ntmps68
  go_wp2
  go_loopw [3, 4] (fun v i wr => ∃ k : Nat, i = .int .i64 k ∧ k ≤ l.length ∧ Aside0 (Kd.R Kd.string 9 wr 0 (New (fun _ => False) w wr) v (l.take k)) ∧ Aside0 (Chg (fun _ => False) w wr)) (fun _ i _ => l.length - (intOf i).toNat)
  case atStart => exact ⟨0, rfl, by omega, ⟨Kd.R_nil _ _ _ _ _⟩, ⟨Chg.refl _ _⟩⟩
  case round =>
    obtain ⟨k, rfl, hk, hR, hCh⟩ := hrel
    by_cases hlt : k < l.length
    · obtain ⟨ad, x, e1, e2, x0⟩ := str_at (C_chg hCA.out (hCh.out.below (fun _ _ h => h))) k hlt
      subst e1
      have hk0 : (0 : Int) ≤ k := by omega
      have hk1 : (k : Int) < l.length := by omega
      have ht : Aside0 (l.take (k + 1) = l.take k ++ [x]) := ⟨by rw [List.take_succ_eq_append_getElem hlt]; rw [List.getElem?_eq_getElem hlt] at e2; injection e2 with e2; rw [e2]⟩
      clear e2
      have hl : Aside0 (((l.take k).length + 1) * 16 ≤ 140737488355328) := ⟨by rw [List.length_take]; omega⟩
      go_wp2_with (at_builtin; go_must (refine app1 Kd.string rfl (.tmp 11) (.tmp 16) rfl Try.underlying36 infoStr rfl (by decide) (by decide) x rfl rfl rfl hR hCh hl ?_); go_must (intro v1 w1 hr1 hc1))
      go_roundw
      case measure => first | (simp [intOf]; done) | (simp [intOf]; omega)
      case rel => exact ⟨k + 1, by go_num, by omega, ⟨by rw [ht.out]; exact hr1.out⟩, hc1⟩
    · obtain rfl : k = l.length := by omega
      go_wp2
      go_ret
      have h := hR.out
      rw [List.take_length] at h
      exact ⟨_, rfl, h, hCh.out⟩

theorem ref_SameLongs (w : World) (A B : Option Addr) (n m ca cb : Nat) (l : List Int) (h1 : Kd.C (Kd.int .i64) w A n l) (h2 : Kd.C (Kd.int .i64) w B m l) :
    Calls Try.prog 101 #[.slice A n ca, .slice B m cb] w fun e w' => e = .returned (.bool true) ∧ Chg (fun _ => False) w w' := by
  have e1 := h1.1
  have e2 := h2.1
  have hb := h1.2.1
  subst e1 e2
  have hCA := Aside0.mk h1
  have hDA := Aside0.mk h2
  clear h1 h2
  go_enter Try.func101, Try.ntmps101
  go_wp2
  go_loopw [5] (fun i wr => ∃ k : Nat, i = .int .i64 k ∧ k ≤ l.length ∧ Aside0 (Chg (fun _ => False) w wr)) (fun i _ => l.length - (intOf i).toNat)
  case atStart => exact ⟨0, rfl, by omega, ⟨Chg.refl _ _⟩⟩
  case round =>
    obtain ⟨k, rfl, hk, hCh⟩ := hrel
    by_cases hlt : k < l.length
    · obtain ⟨ad, x, e1, e2, x0⟩ := i64_at (C_chg hCA.out (hCh.out.below (fun _ _ h => h))) k hlt
      obtain ⟨bd, y, e3, e4, y0⟩ := i64_at (C_chg hDA.out (hCh.out.below (fun _ _ h => h))) k hlt
      subst e1 e3
      rw [e4] at e2
      injection e2 with e2
      subst e2
      clear e4
      have hk0 : (0 : Int) ≤ k := by omega
      have hk1 : (k : Int) < l.length := by omega
      go_wp2
      go_quiet (fail)
      go_wp2
      go_roundw
      case measure => first | (simp [intOf]; done) | (simp [intOf]; omega)
      case rel => exact ⟨k + 1, by go_num, by omega, ⟨by repeat (first | exact hCh.out | apply Chg.drewN)⟩⟩
    · obtain rfl : k = l.length := by omega
      go_wp2
      go_ret
      exact ⟨rfl, hCh.out⟩

theorem ref_SameTexts (w : World) (A B : Option Addr) (n m ca cb : Nat) (l : List ByteArray) (h1 : Kd.C Kd.string w A n l) (h2 : Kd.C Kd.string w B m l) :
    Calls Try.prog 63 #[.slice A n ca, .slice B m cb] w fun e w' => e = .returned (.bool true) ∧ Chg (fun _ => False) w w' := by
  have e1 := h1.1
  have e2 := h2.1
  have hb := h1.2.1
  subst e1 e2
  have hCA := Aside0.mk h1
  have hDA := Aside0.mk h2
  clear h1 h2
  go_enter Try.func63, Try.ntmps63
  go_wp2
  go_loopw [5] (fun i wr => ∃ k : Nat, i = .int .i64 k ∧ k ≤ l.length ∧ Aside0 (Chg (fun _ => False) w wr)) (fun i _ => l.length - (intOf i).toNat)
  case atStart => exact ⟨0, rfl, by omega, ⟨Chg.refl _ _⟩⟩
  case round =>
    obtain ⟨k, rfl, hk, hCh⟩ := hrel
    by_cases hlt : k < l.length
    · obtain ⟨ad, x, e1, e2, x0⟩ := str_at (C_chg hCA.out (hCh.out.below (fun _ _ h => h))) k hlt
      obtain ⟨bd, y, e3, e4, y0⟩ := str_at (C_chg hDA.out (hCh.out.below (fun _ _ h => h))) k hlt
      subst e1 e3
      rw [e4] at e2
      injection e2 with e2
      subst e2
      clear e4
      have hk0 : (0 : Int) ≤ k := by omega
      have hk1 : (k : Int) < l.length := by omega
      go_wp2
      go_quiet (fail)
      go_wp2
      go_roundw
      case measure => first | (simp [intOf]; done) | (simp [intOf]; omega)
      case rel => exact ⟨k + 1, by go_num, by omega, ⟨by repeat (first | exact hCh.out | apply Chg.drewN)⟩⟩
    · obtain rfl : k = l.length := by omega
      go_wp2
      go_ret
      exact ⟨rfl, hCh.out⟩

end Go.Proofs.Ytdoghjmanogelaa.K
