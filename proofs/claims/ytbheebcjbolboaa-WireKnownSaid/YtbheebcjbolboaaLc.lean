import Derived.Test.YtbheebcjbolboaaLb
namespace Go.Proofs.Ytbheebcjbolboaa.K
open Go.RowKit Go.Proofs.YtbheebcjbolboaaW.PrintWords Go.Proofs.YtbheebcjbolboaaW.PrintLast Go.Proofs.YtbheebcjbolboaaW.PrintMore
set_option linter.unusedVariables false
set_option linter.unusedSimpArgs false
set_option maxRecDepth 100000

/-- Where a reader of a number's form stands behind k digits. -/
structure FormAt (x : Int) (k : Nat) (y : Int) : Prop where
  lo : 0 ≤ y
  hi : y ≤ 18446744073709551615
  few : y < 128 ^ (10 - k)
  k10 : k < 10
  rest : (digs x 10).drop k = digs y (10 - k)
  top : 0 < k → 1 ≤ y
theorem FormAt.start {x : Int} (h0 : 0 ≤ x) (h1 : x ≤ 18446744073709551615) : FormAt x 0 x := ⟨h0, h1, by show x < 1180591620717411303424; omega, by omega, rfl, fun h => absurd h (by omega)⟩
theorem FormAt.step {x : Int} {k : Nat} {y : Int} (h : FormAt x k y) :
    k < (digs x 10).length ∧ ((y < 128 ∧ (digs x 10).getD k 0 = y ∧ (digs x 10).length = k + 1) ∨ (128 ≤ y ∧ (digs x 10).getD k 0 = y % 128 + 128 ∧ k + 1 < (digs x 10).length ∧ FormAt x (k + 1) (y / 128))) := by
  obtain ⟨h0, h1, h2, h3, h4, h5⟩ := h
  obtain ⟨m, hm⟩ : ∃ m, 10 - k = m + 1 := ⟨9 - k, by omega⟩
  rw [hm] at h2 h4
  have hlen : (digs x 10).length - k = (digs y (m + 1)).length := by rw [← h4, List.length_drop]
  have hget : (digs x 10).getD k 0 = (digs y (m + 1)).getD 0 0 := by rw [← h4]; simp [List.getD_eq_getElem?_getD]
  rw [digs.eq_2 y] at hlen hget h4
  split at hlen
  · rename_i hy
    rw [if_pos hy] at hget
    simp at hlen hget
    exact ⟨by omega, .inl ⟨hy, by simpa using hget, by omega⟩⟩
  · rename_i hy
    rw [if_neg hy] at hget h4
    simp at hlen hget
    have hd : (digs x 10).drop (k + 1) = digs (y / 128) m := by rw [← List.drop_drop, h4]; rfl
    cases m with
    | zero => exact absurd h2 (by show ¬ y < 128; omega)
    | succ m =>
      have hk1 : k + 1 < (digs x 10).length := by
        have : (digs (y / 128) (m + 1)).length ≠ 0 := by rw [digs.eq_2]; split <;> simp
        omega
      refine ⟨by omega, .inr ⟨by omega, by simpa using hget, hk1, ⟨by omega, by omega, ?_, by omega, by rw [hd]; (have e : 10 - (k + 1) = m + 1 := by omega); rw [e], fun _ => by omega⟩⟩⟩
      rw [show 10 - (k + 1) = m + 1 from by omega]
      rw [Int.pow_succ] at h2
      generalize (128 : Int) ^ (m + 1) = P at *
      omega
theorem uint_len (w : World) (x : Int) (hx0 : 0 ≤ x) (hx1 : x ≤ 18446744073709551615) :
    Calls Try.prog 11 #[.int .u64 x] w fun e w' => e = .returned (.int .i64 (digs x 10).length) ∧ Chg (fun _ => False) w w' := by
  have hx1A := Aside0.mk hx1
  clear hx1
  go_enter Try.func11, Try.ntmps11
  go_wp2_with (go_at_call 40; go_must (refine (digits64 _ (fun _ => False) _ [] _ (Kd.R_nil _ _ _ _ _) (by omega) hx1A.out (by simp)).mono ?_); go_must (rintro e w1 ⟨v1, rfl, hr1, hc1⟩); go_must (obtain ⟨A1, n1, cap1, rfl⟩ := R_sl hr1); go_must (replace hr1 := Aside0.mk hr1); go_must (replace hc1 := Aside0.mk hc1))
  go_ret
  obtain ⟨q1, _, _⟩ := Kd.R_reads' hr1.out
  exact ⟨by rw [q1]; simp, hc1.out⟩
theorem law_forms (w : World) (x : Int) (hx0 : 0 ≤ x) (hx1 : x ≤ 18446744073709551615) :
    Calls Try.prog 5 #[.int .u64 x] w fun e w' => e = .returned (.bool true) ∧ Below w.heap.size w w' := by
  have hx1A := Aside0.mk hx1
  have hst := Aside0.mk (FormAt.start hx0 hx1)
  clear hx1
  go_enter Try.func5, Try.ntmps5
  go_wp2_with fail
  (refine (law_written _ 0 1 x ⟨#[]⟩ hx0 hx1A.out (by decide)).mono ?_)
  (rintro e w1 ⟨v1, rfl, hr1, hc1⟩)
  (obtain ⟨A1, n1, cap1, rfl⟩ := R_sl hr1)
  (replace hr1 := Aside0.mk hr1)
  (replace hc1 := Aside0.mk hc1)
  obtain ⟨q1, _, qC1⟩ := Kd.R_reads' hr1.out
  have q1' : (digs x 10).length = n1 := by rw [q1]; simp [wrL, putL]
  have r1 : Aside0 (Kd.C (Kd.int .u8) w1 A1 n1 (digs x 10)) := ⟨by have := qC1; rw [← q1] at this; simpa [wrL, putL] using this⟩
  have hn10 := digs_length 10 x
  have hn1 := (hst.out.step).1
  rw [q1'] at hn10 hn1
  have g1 : decide ((n1 : Int) < 1) = false := by simp; omega
  have g2 : decide ((n1 : Int) > 10) = false := by simp; omega
  clear q1 qC1 hr1 hn1
  replace q1' := Aside0.mk q1'
  go_wp2
  go_loopw [5, 6, 7, 8] (fun r i la di wr => ∃ (k : Nat) (y : Int), i = .int .i64 k ∧ r = .int .u64 y ∧ Aside0 ((k < n1 ∧ FormAt x k y) ∨ (k = n1 ∧ y = 0)) ∧ Drawn0 w1 wr) (fun _ i _ _ _ => n1 - (intOf i).toNat)
  case atStart => exact ⟨0, x, rfl, rfl, ⟨.inl ⟨by have := hst.out.step.1; rw [q1'.out] at this; exact this, hst.out⟩⟩, Drawn0.refl _⟩
  case round =>
    obtain ⟨k, y, rfl, rfl, hE, ⟨nd, rfl⟩⟩ := hrel
    rcases hE.out with ⟨hlt, hF⟩ | ⟨rfl, rfl⟩
    · clear hE
      obtain ⟨a1, e1, x1⟩ := byte_at r1.out k hlt
      have hs := (hF.step).2
      have hk0 : (0 : Int) ≤ k := by omega
      have hk1 : (k : Int) < n1 := by omega
      have hy0 := hF.lo
      have hyA := Aside0.mk hF.hi
      have htop := Aside0.mk hF.top
      subst e1
      generalize (digs x 10).getD k 0 = b at x1 hs
      rcases hs with ⟨h1, rfl, h3⟩ | ⟨h1, rfl, h3, h4⟩
      · obtain rfl : n1 = k + 1 := by have := q1'.out; omega
        have d1 : decide (b < 128) = true := by simpa using h1
        have d2 : (b % 128 != b % 128) = false := by simp
        clear h3 hF
        rcases Nat.eq_zero_or_pos k with rfl | hk
        · have x2 : w1.cell? a1 = some (.int .u8 b) := x1
          go_wp2
          go_roundw
          case measure => first | (simp [intOf]; done) | (simp [intOf]; omega)
          case rel => exact ⟨1, b / 128, by go_num, rfl, ⟨.inr ⟨by omega, by omega⟩⟩, ⟨_, rfl⟩⟩
        · have d3 : decide ((k : Int) > 0) = true := by simp; omega
          have d4 : (b % 128 == 0) = false := by have := htop.out hk; simp; omega
          go_wp2
          go_roundw
          case measure => first | (simp [intOf]; done) | (simp [intOf]; omega)
          case rel => exact ⟨k + 1, b / 128, by go_num, rfl, ⟨.inr ⟨by omega, by omega⟩⟩, ⟨_, rfl⟩⟩
      · have h5 : ((k : Int) == (n1 : Int) - 1) = false := by have := q1'.out; simp; omega
        have d1 : decide (y % 128 + 128 < 128) = false := by simp; omega
        have d2 : ((y % 128 + 128) % 128 != y % 128) = false := by simp
        have d0 : y % 128 + 128 ≤ 255 := by omega
        have hy1 := hyA.out
        replace h4 := Aside0.mk h4
        go_wp2
        go_roundw
        case measure => first | (simp [intOf]; done) | (simp [intOf]; omega)
        case rel => exact ⟨k + 1, y / 128, by go_num, rfl, ⟨.inl ⟨by have := q1'.out; omega, h4.out⟩⟩, ⟨_, rfl⟩⟩
    · clear hE
      obtain ⟨n, hn⟩ : ∃ n, wrap64 x = n := ⟨_, rfl⟩
      have hn0 : -9223372036854775808 ≤ n := by rw [← hn]; unfold wrap64; omega
      have hn1 : n ≤ 9223372036854775807 := by rw [← hn]; unfold wrap64; omega
      by_cases hneg : n < 0
      · go_wp2_with fail
        (refine (law_written _ 0 2 x ⟨#[]⟩ hx0 hx1A.out (by decide)).mono ?_)
        (rintro e w2 ⟨v2, rfl, hr2, hc2⟩)
        (obtain ⟨A2, n2, cap2, rfl⟩ := R_sl hr2)
        (replace hr2 := Aside0.mk hr2)
        (replace hc2 := Aside0.mk hc2)
        go_wp2_with fail
        (refine (law_written _ 0 1 _ ⟨#[]⟩ (by omega) (by omega) (by decide)).mono ?_)
        (rintro e w3 ⟨v3, rfl, hr3, hc3⟩)
        (obtain ⟨A3, n3, cap3, rfl⟩ := R_sl hr3)
        (replace hr3 := Aside0.mk hr3)
        (replace hc3 := Aside0.mk hc3)
        have hr23 := Aside0.mk (R_chg hr2.out hc3.out (fun _ _ _ h => h))
        obtain ⟨p2, _, pC2⟩ := Kd.R_reads' hr23.out
        obtain ⟨p3, _, pC3⟩ := Kd.R_reads' hr3.out
        have hw2 : wrL 2 x ⟨#[]⟩ = digs (fold n) 10 := by simp [wrL, putL, hn]
        have hw3 : ∀ f, f = fold n → wrL 1 f ⟨#[]⟩ = digs (fold n) 10 := fun f h => by subst h; simp [wrL, putL]
        rw [← p2, hw2] at pC2
        rw [← p3, hw3 _ (by unfold fold; split <;> omega)] at pC3
        clear p2 p3 hr2 hr3 hr23 hw2 hw3
        replace pC2 := Aside0.mk pC2
        replace pC3 := Aside0.mk pC3
        go_wp2_with (first | (go_at_call 11; go_must (refine (uint_len _ x hx0 hx1A.out).mono ?_); go_must (rintro e w4 ⟨rfl, hc4⟩); go_must (replace hc4 := Aside0.mk hc4); go_must (rw [q1'.out])) | (go_at_call 14; go_must (refine (same_bytes _ _ _ _ _ _ _ _ _ (C_chg pC2.out (hc4.out.below (fun _ _ h => h))) (C_chg pC3.out (hc4.out.below (fun _ _ h => h)))).mono ?_); go_must (rintro e w5 ⟨rfl, hd5⟩)))
        go_ret
        exact ⟨by simp, by have h := ((((hc1.out.drewN nd).trans hc2.out (fun _ _ h => h)).trans hc3.out (fun _ _ h => h)).trans hc4.out (fun _ _ h => h)).below (fun _ _ h => h); obtain ⟨nd5, rfl⟩ := hd5; repeat (first | exact h | apply pw_below_drewN)⟩
      · go_wp2_with fail
        (refine (law_written _ 0 2 x ⟨#[]⟩ hx0 hx1A.out (by decide)).mono ?_)
        (rintro e w2 ⟨v2, rfl, hr2, hc2⟩)
        (obtain ⟨A2, n2, cap2, rfl⟩ := R_sl hr2)
        (replace hr2 := Aside0.mk hr2)
        (replace hc2 := Aside0.mk hc2)
        go_wp2_with fail
        (refine (law_written _ 0 1 _ ⟨#[]⟩ (by omega) (by omega) (by decide)).mono ?_)
        (rintro e w3 ⟨v3, rfl, hr3, hc3⟩)
        (obtain ⟨A3, n3, cap3, rfl⟩ := R_sl hr3)
        (replace hr3 := Aside0.mk hr3)
        (replace hc3 := Aside0.mk hc3)
        have hr23 := Aside0.mk (R_chg hr2.out hc3.out (fun _ _ _ h => h))
        obtain ⟨p2, _, pC2⟩ := Kd.R_reads' hr23.out
        obtain ⟨p3, _, pC3⟩ := Kd.R_reads' hr3.out
        have hw2 : wrL 2 x ⟨#[]⟩ = digs (fold n) 10 := by simp [wrL, putL, hn]
        have hw3 : ∀ f, f = fold n → wrL 1 f ⟨#[]⟩ = digs (fold n) 10 := fun f h => by subst h; simp [wrL, putL]
        rw [← p2, hw2] at pC2
        rw [← p3, hw3 _ (by unfold fold; split <;> omega)] at pC3
        clear p2 p3 hr2 hr3 hr23 hw2 hw3
        replace pC2 := Aside0.mk pC2
        replace pC3 := Aside0.mk pC3
        go_wp2_with (first | (go_at_call 11; go_must (refine (uint_len _ x hx0 hx1A.out).mono ?_); go_must (rintro e w4 ⟨rfl, hc4⟩); go_must (replace hc4 := Aside0.mk hc4); go_must (rw [q1'.out])) | (go_at_call 14; go_must (refine (same_bytes _ _ _ _ _ _ _ _ _ (C_chg pC2.out (hc4.out.below (fun _ _ h => h))) (C_chg pC3.out (hc4.out.below (fun _ _ h => h)))).mono ?_); go_must (rintro e w5 ⟨rfl, hd5⟩)))
        go_ret
        exact ⟨by simp, by have h := ((((hc1.out.drewN nd).trans hc2.out (fun _ _ h => h)).trans hc3.out (fun _ _ h => h)).trans hc4.out (fun _ _ h => h)).below (fun _ _ h => h); obtain ⟨nd5, rfl⟩ := hd5; repeat (first | exact h | apply pw_below_drewN)⟩

end Go.Proofs.Ytbheebcjbolboaa.K
