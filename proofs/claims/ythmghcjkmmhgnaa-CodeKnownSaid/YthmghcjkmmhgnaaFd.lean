import Derived.Test.YthmghcjkmmhgnaaFb
import Derived.Test.YthmghcjkmmhgnaaFc
import Derived.BigQuiet
import Derived.IntWalk
namespace Go.Proofs.Ythmghcjkmmhgnaa.K
open Go.RowKit Go.Proofs.YthmghcjkmmhgnaaW.PrintWords Go.Proofs.YthmghcjkmmhgnaaW.PrintLast Go.Proofs.YthmghcjkmmhgnaaW.PrintMore
set_option linter.unusedVariables false
set_option linter.unusedSimpArgs false
set_option maxRecDepth 100000

theorem same_code (w : World) (A B : Option Addr) (n m ca cb : Nat) (l : List Instr) (h1 : Kd.C kInstr w A n l) (h2 : Kd.C kInstr w B m l) :
    Calls Try.prog 38 #[.slice A n ca, .slice B m cb] w fun e w' => e = .returned (.bool true) ∧ Chg (fun _ => False) w w' := by
  have e1 := h1.1
  have e2 := h2.1
  have hb := h1.2.1
  subst e1 e2
  have hCA := Aside0.mk h1
  have hDA := Aside0.mk h2
  clear h1 h2
  go_enter Try.func38, Try.ntmps38
  go_wp2
  go_loopw [5] (fun i wr => ∃ k : Nat, i = .int .i64 k ∧ k ≤ l.length ∧ Aside0 (Chg (fun _ => False) w wr)) (fun i _ => l.length - (intOf i).toNat)
  case atStart => exact ⟨0, rfl, by omega, ⟨Chg.refl _ _⟩⟩
  case round =>
    obtain ⟨k, rfl, hk, hCh⟩ := hrel
    by_cases hlt : k < l.length
    · obtain ⟨ad, op, a, e1, e2, x0, x1⟩ := instr_at (C_chg hCA.out (hCh.out.below (fun _ _ h => h))) k hlt
      obtain ⟨bd, op2, a2, e3, e4, y0, y1⟩ := instr_at (C_chg hDA.out (hCh.out.below (fun _ _ h => h))) k hlt
      subst e1 e3
      rw [e4] at e2
      injection e2 with e2
      injection e2 with e5 e6
      obtain rfl := e5
      obtain rfl := e6
      clear e4
      have hk0 : (0 : Int) ≤ k := by omega
      have hk1 : (k : Int) < l.length := by omega
      go_wp2
      go_quiet (fail)
      go_wp2
      go_roundw
      case measure => first | (simp [intOf]; done) | (simp [intOf]; omega)
      case rel => exact ⟨k + 1, by go_num, by omega, ⟨by repeat (first | exact hCh.out | apply Chg.drewN)⟩⟩
    · obtain rfl : k = l.length := by omega
      go_wp2
      go_ret
      exact ⟨rfl, hCh.out⟩
theorem law_codeOneForm (w : World) (A : Option Addr) (n cap : Nat) (bs : List Int) (hC : Kd.C (Kd.int .u8) w A n bs) (hby : ∀ c ∈ bs, 0 ≤ c ∧ c < 256) (hn : bs.length ≤ 140737488355328) :
    Calls Try.prog 13 #[.slice A n cap] w fun e w' => e = .returned (.bool true) ∧ Below w.heap.size w w' := by
  have e0 := hC.1
  subst e0
  obtain ⟨d1, d2⟩ := dec_form hby
  have hdec : Aside0 (∀ c W, Chg (fun _ => False) w W → Calls Try.prog 37 #[.slice A bs.length c] W fun e w' => ∃ v, e = .returned (.tuple #[v, .int .i64 (decP bs).2]) ∧ Kd.R kInstr 35 w' 0 (New (fun _ => False) W w') v (decP bs).1 ∧ Chg (fun _ => False) W w') := ⟨fun c W hW => code_Decode W A bs.length c bs (C_chg hC (hW.below (fun _ _ h => h))) hby hn⟩
  have hCA := Aside0.mk hC
  clear hC hby
  generalize decP bs = r at hdec d1 d2
  obtain ⟨l, er⟩ := r
  simp only at hdec d1 d2
  by_cases he : er = 0
  · obtain ⟨g1, g2, g3, g4⟩ := d1 he
    subst he
    have henc : Aside0 (encP l = (bs, 0)) := ⟨by rw [encP_of g3 g2, g1]⟩
    have hlA := Aside0.mk g4
    have hl3 := Aside0.mk g3
    clear d1 d2 g1 g2 g3 g4
    go_enter Try.func13, Try.ntmps13
    go_wp2_with (first | (go_at_call 47; go_must (refine (law_works _).mono ?_); go_must (rintro e w1 ⟨rfl, hc1⟩); go_must (replace hc1 := Aside0.mk hc1)) | (go_at_call 37; go_must (refine (hdec.out _ _ hc1.out).mono ?_); go_must (rintro e w2 ⟨v2, rfl, hr2, hc2⟩); go_must (obtain ⟨A2, n2, cap2, rfl⟩ := R_sl hr2); go_must (have p2 := Aside0.mk (R_C hr2)); go_must (clear hr2); go_must (replace hc2 := Aside0.mk (hc1.out.trans hc2 (fun _ _ h => h)))) | (go_at_call 43; go_must (refine (code_Encode _ A2 n2 cap2 l p2.out hlA.out (by have := hl3.out; omega)).mono ?_); go_must (rintro e w3 ⟨v3, rfl, hr3, hc3⟩); go_must (rw [henc.out] at hr3); go_must (rw [henc.out]); go_must (obtain ⟨A3, n3, cap3, rfl⟩ := R_sl hr3); go_must (have p3 := Aside0.mk (R_C hr3)); go_must (clear hr3); go_must (replace hc3 := Aside0.mk (hc2.out.trans hc3 (fun _ _ h => h)))) | (go_at_call 44; go_must (refine (same_bytes _ A3 A n3 bs.length cap3 cap bs bs p3.out (C_chg hCA.out (hc3.out.below (fun _ _ h => h)))).mono ?_); go_must (rintro e w4 ⟨rfl, hd4⟩); go_must (rw [decide_eq_true (rfl : bs = bs)]); go_must (have hc4 := Aside0.mk (hc3.out.trans (chgQ hd4) (fun _ _ h => h))); go_must (clear hd4)))
    go_ret
    exact ⟨rfl, hc4.out.below (fun _ _ h => h)⟩
  · obtain rfl := d2 he
    have c0 : (er != 0) = true := by simpa using he
    have c1 : (er == 0) = false := by simpa using he
    clear d1 d2
    go_enter Try.func13, Try.ntmps13
    go_wp2_with (first | (go_at_call 47; go_must (refine (law_works _).mono ?_); go_must (rintro e w1 ⟨rfl, hc1⟩); go_must (replace hc1 := Aside0.mk hc1)) | (go_at_call 37; go_must (refine (hdec.out _ _ hc1.out).mono ?_); go_must (rintro e w2 ⟨v2, rfl, hr2, hc2⟩); go_must (obtain ⟨A2, n2, cap2, rfl⟩ := R_sl hr2); go_must (obtain ⟨q2, _, _⟩ := Kd.R_reads' hr2); go_must (obtain rfl : n2 = 0 := q2); go_must (clear hr2); go_must (replace hc2 := Aside0.mk (hc1.out.trans hc2 (fun _ _ h => h)))))
    go_ret
    exact ⟨rfl, hc2.out.below (fun _ _ h => h)⟩

set_option maxHeartbeats 4000000
theorem law_codeBack (w : World) (A : Option Addr) (n cap : Nat) (l : List Instr) (hC : Kd.C kInstr w A n l) (hl : ∀ i ∈ l, -9223372036854775808 ≤ i.a ∧ i.a ≤ 9223372036854775807) (hn : l.length ≤ 8796093022100) :
    Calls Try.prog 12 #[.slice A n cap] w fun e w' => e = .returned (.bool true) ∧ Below w.heap.size w w' := by
  have e0 := hC.1
  subst e0
  have hCA := Aside0.mk hC
  have hlA := Aside0.mk hl
  clear hC hl
  by_cases hbig : 2000 < l.length
  · have henc : Aside0 (encP l = ([], 5)) := ⟨by rw [encP_eq, if_pos hbig]⟩
    have hwrong : Aside0 ((decide (2000 < l.length) || !okL l) = true) := ⟨by simp; omega⟩
    have d0 : decide (2000 < l.length) = true := by simpa using hbig
    have d1 : decide ((2000 : Int) < (l.length : Int)) = true := by simp; omega
    clear hbig
    go_enter Try.func12, Try.ntmps12
    go_wp2_with (first | (go_at_call 47; go_must (refine (law_works _).mono ?_); go_must (rintro e w1 ⟨rfl, hc1⟩); go_must (replace hc1 := Aside0.mk hc1)) | (go_at_call 43; go_must (refine (code_Encode _ A l.length cap l (C_chg hCA.out (hc1.out.below (fun _ _ h => h))) hlA.out (by omega)).mono ?_); go_must (rintro e w2 ⟨v2, rfl, hr2, hc2⟩); go_must (rw [henc.out] at hr2); go_must (rw [henc.out]); go_must (obtain ⟨A2, n2, cap2, rfl⟩ := R_sl hr2); go_must (obtain ⟨q2, _, _⟩ := Kd.R_reads' hr2); go_must (have p2 := Aside0.mk (R_C hr2)); go_must (replace hc2 := Aside0.mk (hc1.out.trans hc2 (fun _ _ h => h))); go_must (obtain rfl : n2 = 0 := q2); go_must (clear hr2)))
    go_loopw [5, 6] (fun v i wr => ∃ k : Nat, i = .int .i64 k ∧ k ≤ l.length ∧ (∃ bb : Bool, v = .bool bb ∧ Aside0 (bb = (decide (2000 < l.length) || !okL (l.take k)))) ∧ Aside0 (Chg (fun _ => False) w wr)) (fun _ i _ => l.length - (intOf i).toNat)
    case atStart => exact ⟨0, rfl, by omega, ⟨_, rfl, ⟨by rw [d0]; simp [okL]⟩⟩, hc2⟩
    case round =>
      obtain ⟨k, rfl, hk, ⟨bb, rfl, hbb⟩, hCh⟩ := hrel
      by_cases hlt : k < l.length
      · obtain ⟨ad, op, a, e1, e2, x0, x1⟩ := instr_at (C_chg hCA.out (hCh.out.below (fun _ _ h => h))) k hlt
        subst e1
        have hk0 : (0 : Int) ≤ k := by omega
        have hk1 : (k : Int) < l.length := by omega
        have ht : Aside0 (okL (l.take (k + 1)) = (okL (l.take k) && efP op a)) := ⟨by
          rw [List.take_succ_eq_append_getElem hlt, okL_snoc]
          rw [List.getElem?_eq_getElem hlt] at e2
          injection e2 with e2
          rw [e2]⟩
        clear e2
        cases bb
        · cases hef : efP op a
          · have hck : Aside0 (∀ W, Calls Try.prog 33 #[.agg #[.int .i64 op, .int .i64 a]] W fun e w' => e = .returned (.int .i64 7) ∧ Chg (fun _ => False) W w') := ⟨fun W => by have h := code_Check W op a; unfold chkP at h; rw [hef] at h; exact h⟩
            have hbn : Aside0 (true = (decide (2000 < l.length) || !okL (l.take (k + 1)))) := ⟨by rw [ht.out, hef]; simp⟩
            clear hef
            go_wp2_with (go_at_call 33; go_must (refine (hck.out _).mono ?_); go_must (rintro e w3 ⟨rfl, hc3⟩); go_must (replace hc3 := Aside0.mk (hCh.out.trans hc3 (fun _ _ h => h))))
            go_roundw
            case measure => first | (simp [intOf]; done) | (simp [intOf]; omega)
            case rel => exact ⟨k + 1, by go_num, by omega, ⟨true, rfl, hbn⟩, hc3⟩
          · have hck : Aside0 (∀ W, Calls Try.prog 33 #[.agg #[.int .i64 op, .int .i64 a]] W fun e w' => e = .returned (.int .i64 0) ∧ Chg (fun _ => False) W w') := ⟨fun W => by have h := code_Check W op a; unfold chkP at h; rw [hef] at h; exact h⟩
            have hbn : Aside0 (false = (decide (2000 < l.length) || !okL (l.take (k + 1)))) := ⟨by rw [ht.out, hef, Bool.and_true]; exact hbb.out⟩
            clear hef
            go_wp2_with (go_at_call 33; go_must (refine (hck.out _).mono ?_); go_must (rintro e w3 ⟨rfl, hc3⟩); go_must (replace hc3 := Aside0.mk (hCh.out.trans hc3 (fun _ _ h => h))))
            go_roundw
            case measure => first | (simp [intOf]; done) | (simp [intOf]; omega)
            case rel => exact ⟨k + 1, by go_num, by omega, ⟨false, rfl, hbn⟩, hc3⟩
        · have hbn : Aside0 (true = (decide (2000 < l.length) || !okL (l.take (k + 1)))) := ⟨by
            have h := hbb.out
            rw [ht.out]
            revert h
            cases decide (2000 < l.length) <;> cases okL (l.take k) <;> cases efP op a <;> simp⟩
          go_wp2
          go_roundw
          case measure => first | (simp [intOf]; done) | (simp [intOf]; omega)
          case rel => exact ⟨k + 1, by go_num, by omega, ⟨true, rfl, hbn⟩, hCh⟩
      · obtain rfl : k = l.length := by omega
        obtain rfl : bb = true := by
          have h := hbb.out
          rw [List.take_length] at h
          rw [h]
          exact hwrong.out
        go_wp2
        go_ret
        exact ⟨rfl, hCh.out.below (fun _ _ h => h)⟩
  · have d0 : decide (2000 < l.length) = false := by simpa using hbig
    have d1 : decide ((2000 : Int) < (l.length : Int)) = false := by simp; omega
    cases hok : okL l
    · have henc : Aside0 (encP l = ([], 7)) := ⟨by rw [encP_eq, if_neg hbig, if_neg (by rw [hok]; decide)]⟩
      have hwrong : Aside0 ((decide (2000 < l.length) || !okL l) = true) := ⟨by rw [hok]; simp⟩
      clear hbig hok
      go_enter Try.func12, Try.ntmps12
      go_wp2_with (first | (go_at_call 47; go_must (refine (law_works _).mono ?_); go_must (rintro e w1 ⟨rfl, hc1⟩); go_must (replace hc1 := Aside0.mk hc1)) | (go_at_call 43; go_must (refine (code_Encode _ A l.length cap l (C_chg hCA.out (hc1.out.below (fun _ _ h => h))) hlA.out (by omega)).mono ?_); go_must (rintro e w2 ⟨v2, rfl, hr2, hc2⟩); go_must (rw [henc.out] at hr2); go_must (rw [henc.out]); go_must (obtain ⟨A2, n2, cap2, rfl⟩ := R_sl hr2); go_must (obtain ⟨q2, _, _⟩ := Kd.R_reads' hr2); go_must (have p2 := Aside0.mk (R_C hr2)); go_must (replace hc2 := Aside0.mk (hc1.out.trans hc2 (fun _ _ h => h))); go_must (obtain rfl : n2 = 0 := q2); go_must (clear hr2)))
      go_loopw [5, 6] (fun v i wr => ∃ k : Nat, i = .int .i64 k ∧ k ≤ l.length ∧ (∃ bb : Bool, v = .bool bb ∧ Aside0 (bb = (decide (2000 < l.length) || !okL (l.take k)))) ∧ Aside0 (Chg (fun _ => False) w wr)) (fun _ i _ => l.length - (intOf i).toNat)
      case atStart => exact ⟨0, rfl, by omega, ⟨_, rfl, ⟨by rw [d0]; simp [okL]⟩⟩, hc2⟩
      case round =>
        obtain ⟨k, rfl, hk, ⟨bb, rfl, hbb⟩, hCh⟩ := hrel
        by_cases hlt : k < l.length
        · obtain ⟨ad, op, a, e1, e2, x0, x1⟩ := instr_at (C_chg hCA.out (hCh.out.below (fun _ _ h => h))) k hlt
          subst e1
          have hk0 : (0 : Int) ≤ k := by omega
          have hk1 : (k : Int) < l.length := by omega
          have ht : Aside0 (okL (l.take (k + 1)) = (okL (l.take k) && efP op a)) := ⟨by
            rw [List.take_succ_eq_append_getElem hlt, okL_snoc]
            rw [List.getElem?_eq_getElem hlt] at e2
            injection e2 with e2
            rw [e2]⟩
          clear e2
          cases bb
          · cases hef : efP op a
            · have hck : Aside0 (∀ W, Calls Try.prog 33 #[.agg #[.int .i64 op, .int .i64 a]] W fun e w' => e = .returned (.int .i64 7) ∧ Chg (fun _ => False) W w') := ⟨fun W => by have h := code_Check W op a; unfold chkP at h; rw [hef] at h; exact h⟩
              have hbn : Aside0 (true = (decide (2000 < l.length) || !okL (l.take (k + 1)))) := ⟨by rw [ht.out, hef]; simp⟩
              clear hef
              go_wp2_with (go_at_call 33; go_must (refine (hck.out _).mono ?_); go_must (rintro e w3 ⟨rfl, hc3⟩); go_must (replace hc3 := Aside0.mk (hCh.out.trans hc3 (fun _ _ h => h))))
              go_roundw
              case measure => first | (simp [intOf]; done) | (simp [intOf]; omega)
              case rel => exact ⟨k + 1, by go_num, by omega, ⟨true, rfl, hbn⟩, hc3⟩
            · have hck : Aside0 (∀ W, Calls Try.prog 33 #[.agg #[.int .i64 op, .int .i64 a]] W fun e w' => e = .returned (.int .i64 0) ∧ Chg (fun _ => False) W w') := ⟨fun W => by have h := code_Check W op a; unfold chkP at h; rw [hef] at h; exact h⟩
              have hbn : Aside0 (false = (decide (2000 < l.length) || !okL (l.take (k + 1)))) := ⟨by rw [ht.out, hef, Bool.and_true]; exact hbb.out⟩
              clear hef
              go_wp2_with (go_at_call 33; go_must (refine (hck.out _).mono ?_); go_must (rintro e w3 ⟨rfl, hc3⟩); go_must (replace hc3 := Aside0.mk (hCh.out.trans hc3 (fun _ _ h => h))))
              go_roundw
              case measure => first | (simp [intOf]; done) | (simp [intOf]; omega)
              case rel => exact ⟨k + 1, by go_num, by omega, ⟨false, rfl, hbn⟩, hc3⟩
          · have hbn : Aside0 (true = (decide (2000 < l.length) || !okL (l.take (k + 1)))) := ⟨by
              have h := hbb.out
              rw [ht.out]
              revert h
              cases decide (2000 < l.length) <;> cases okL (l.take k) <;> cases efP op a <;> simp⟩
            go_wp2
            go_roundw
            case measure => first | (simp [intOf]; done) | (simp [intOf]; omega)
            case rel => exact ⟨k + 1, by go_num, by omega, ⟨true, rfl, hbn⟩, hCh⟩
        · obtain rfl : k = l.length := by omega
          obtain rfl : bb = true := by
            have h := hbb.out
            rw [List.take_length] at h
            rw [h]
            exact hwrong.out
          go_wp2
          go_ret
          exact ⟨rfl, hCh.out.below (fun _ _ h => h)⟩
    · have henc : Aside0 (encP l = (flatL l, 0)) := ⟨encP_of (by omega) hok⟩
      have hdec : Aside0 (decP (flatL l) = (l, 0)) := ⟨dec_back hok hlA.out (by omega)⟩
      have hby := Aside0.mk (flatL_byte hok)
      have hfl : Aside0 ((flatL l).length ≤ 22000) := ⟨by have := flatL_length l; omega⟩
      clear hbig hok
      generalize flatL l = bs at henc hdec hby hfl
      go_enter Try.func12, Try.ntmps12
      go_wp2_with (first | (go_at_call 47; go_must (refine (law_works _).mono ?_); go_must (rintro e w1 ⟨rfl, hc1⟩); go_must (replace hc1 := Aside0.mk hc1)) | (go_at_call 43; go_must (refine (code_Encode _ A l.length cap l (C_chg hCA.out (hc1.out.below (fun _ _ h => h))) hlA.out (by omega)).mono ?_); go_must (rintro e w2 ⟨v2, rfl, hr2, hc2⟩); go_must (rw [henc.out] at hr2); go_must (rw [henc.out]); go_must (obtain ⟨A2, n2, cap2, rfl⟩ := R_sl hr2); go_must (obtain ⟨q2, _, _⟩ := Kd.R_reads' hr2); go_must (have p2 := Aside0.mk (R_C hr2)); go_must (replace hc2 := Aside0.mk (hc1.out.trans hc2 (fun _ _ h => h))); go_must (clear hr2 q2)) | (go_at_call 37; go_must (refine (code_Decode _ A2 n2 cap2 bs p2.out hby.out (by have := hfl.out; omega)).mono ?_); go_must (rintro e w3 ⟨v3, rfl, hr3, hc3⟩); go_must (rw [hdec.out] at hr3); go_must (rw [hdec.out]); go_must (obtain ⟨A3, n3, cap3, rfl⟩ := R_sl hr3); go_must (have p3 := Aside0.mk (R_C hr3)); go_must (clear hr3); go_must (replace hc3 := Aside0.mk (hc2.out.trans hc3 (fun _ _ h => h)))) | (go_at_call 38; go_must (refine (same_code _ A3 A n3 l.length cap3 cap l p3.out (C_chg hCA.out (hc3.out.below (fun _ _ h => h)))).mono ?_); go_must (rintro e w4 ⟨rfl, hc4⟩); go_must (replace hc4 := Aside0.mk (hc3.out.trans hc4 (fun _ _ h => h)))))
      go_ret
      exact ⟨rfl, hc4.out.below (fun _ _ h => h)⟩

end Go.Proofs.Ythmghcjkmmhgnaa.K
