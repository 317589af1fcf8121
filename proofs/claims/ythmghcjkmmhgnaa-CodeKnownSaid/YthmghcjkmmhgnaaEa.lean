import Derived.Test.YthmghcjkmmhgnaaCj
import Derived.Test.YthmghcjkmmhgnaaWa
import Derived.BigQuiet
import Derived.IntWalk
namespace Go.Proofs.Ythmghcjkmmhgnaa.K
open Go.RowKit Go.Proofs.YthmghcjkmmhgnaaW.PrintWords Go.Proofs.YthmghcjkmmhgnaaW.PrintLast Go.Proofs.YthmghcjkmmhgnaaW.PrintMore
set_option linter.unusedVariables false
set_option linter.unusedSimpArgs false
set_option maxRecDepth 100000

theorem sz1 (w : World) (o : Obj) : (w.alloc o).heap.size = w.heap.size + 1 := by simp
theorem ref_PutUint (w : World) (F : Nat → Prop) (v : Value) (l : List Int) (x : Int) (hr0 : Kd.R (Kd.int .u8) 5 w 0 F v l) (h0 : 0 ≤ x) (h1 : x ≤ 18446744073709551615) (hl0 : l.length < 140737488355000) :
    Calls Try.prog 88 #[v, .int .u64 x] w fun e w' => ∃ v', e = .returned v' ∧ Kd.R (Kd.int .u8) 5 w' 0 (New F w w') v' (l ++ digs x 10) ∧ Chg F w w' := by
  have hr := Aside0.mk hr0
  have hl := Aside0.mk hl0
  have hx := Aside0.mk h1
  clear hr0 hl0 h1
  go_enter Try.func88, Try.ntmps88
  go_wp2
  go_loopw [0, 1] (fun v0 i wr => ∃ (y : Int) (m : Nat) (cur : List Int), i = .int .u64 y ∧ 0 ≤ y ∧ m ≤ 9 ∧ Aside0 (y < 128 ^ (m + 1) ∧ y ≤ 18446744073709551615) ∧ Aside0 (Kd.R (Kd.int .u8) 5 wr 0 (New F w wr) v0 cur) ∧ Aside0 (cur ++ digs y (m + 1) = l ++ digs x 10) ∧ Aside0 (Chg F w wr)) (fun _ i _ => (intOf i).toNat)
  case atStart => exact ⟨x, 9, l, rfl, by omega, by omega, ⟨by have := hx.out; omega, hx.out⟩, ⟨Kd.R_mono hr.out (fun k hk => .inl hk)⟩, ⟨rfl⟩, ⟨Chg.refl _ _⟩⟩
  case round =>
    obtain ⟨y, m, cur, rfl, hy0, hm, hy, hR, hE, hC⟩ := hrel
    have hlen : Aside0 ((cur.length + 1) * 1 ≤ 140737488355328) := ⟨by
      have := congrArg List.length hE.out
      have h10 := digs_length 10 x
      simp only [List.length_append] at this
      have := hl.out
      omega⟩
    by_cases hj : 128 ≤ y
    · have d0 : decide (128 ≤ y) = true := by simpa using hj
      have u1 : IntKind.u8.wrap (y % 128 + 128) = y % 128 + 128 := by simp [IntKind.wrap, IntKind.bits, IntKind.signed]; omega
      have u2 : IntKind.u64.wrap (y % 128 + 128) = y % 128 + 128 := by simp [IntKind.wrap, IntKind.bits, IntKind.signed]; omega
      have hyt : y ≤ 18446744073709551615 := hy.out.2
      go_wp2_with (at_builtin; go_must (refine app1 (Kd.int .u8) rfl (.tmp 7) (.tmp 12) rfl Try.underlying43 infoU8 rfl (by decide) (by decide) (y % 128 + 128) rfl rfl rfl hR hC hlen ?_); go_must (intro v1 w1 hr1 hc1))
      go_roundw
      case measure => simp [intOf]; omega
      case rel =>
        have hy' := hy.out
        obtain ⟨m', rfl⟩ : ∃ m', m = m' + 1 := by
          rcases m with _ | m'
          · simp at hy'; omega
          · exact ⟨m', rfl⟩
        refine ⟨y / 128, m', _, by first | rfl | go_num, by omega, by omega, ⟨?_, by omega⟩, hr1, ⟨?_⟩, hc1⟩
        · have hp : (128 : Int) ^ (m' + 1 + 1) = 128 * 128 ^ (m' + 1) := by rw [Int.pow_succ, Int.mul_comm]
          rw [hp] at hy'; omega
        · rw [← hE.out, List.append_assoc]
          congr 1
          rw [digs.eq_2 y, if_neg (by omega)]
          rfl
    · have hy2 : y < 128 := by omega
      have d0 : decide (128 ≤ y) = false := by simpa using hj
      have u1 : IntKind.u8.wrap y = y := by simp [IntKind.wrap, IntKind.bits, IntKind.signed]; omega
      go_wp2_with (at_builtin; go_must (refine app1 (Kd.int .u8) rfl (.tmp 16) (.tmp 19) rfl Try.underlying43 infoU8 rfl (by decide) (by decide) (y) rfl rfl rfl hR hC hlen ?_); go_must (intro v1 w1 hr1 hc1))
      go_ret
      have h := hr1.out
      refine ⟨_, rfl, ?_, hc1.out⟩
      rw [← hE.out, digs.eq_2, if_pos hy2]
      exact h
theorem ref_Folded (w : World) (x : Int) (h0 : -9223372036854775808 ≤ x) (h1 : x ≤ 9223372036854775807) : Calls Try.prog 97 #[.int .i64 x] w fun e w' => e = .returned (.int .u64 (fold x)) ∧ w' = w := by
  by_cases h : 0 ≤ x
  · have hE : Aside0 (fold x = 2 * x) := ⟨by unfold fold; rw [if_pos h]⟩
    have d0 : decide (0 ≤ x) = true := by simpa using h
    have u1 : IntKind.u64.wrap x = x := by simp [IntKind.wrap, IntKind.bits, IntKind.signed]; omega
    have u2 : IntKind.u64.wrap (2 * x) = 2 * x := by simp [IntKind.wrap, IntKind.bits, IntKind.signed]; omega
    go_enter Try.func97, Try.ntmps97
    go_wp2
    go_ret
    exact ⟨by rw [hE.out]; rfl, rfl⟩
  · have hE : Aside0 (fold x = 2 * -(x + 1) + 1) := ⟨by unfold fold; rw [if_neg h]; omega⟩
    have d0 : decide (0 ≤ x) = false := by simpa using h
    have u0 : IntKind.i64.wrap (x + 1) = x + 1 := by simp [IntKind.wrap, IntKind.bits, IntKind.signed]; omega
    have u1 : IntKind.i64.wrap (-(x + 1)) = -(x + 1) := by simp [IntKind.wrap, IntKind.bits, IntKind.signed]; omega
    have u2 : IntKind.u64.wrap (-(x + 1)) = -(x + 1) := by simp [IntKind.wrap, IntKind.bits, IntKind.signed]; omega
    have u3 : IntKind.u64.wrap (2 * -(x + 1)) = 2 * -(x + 1) := by simp [IntKind.wrap, IntKind.bits, IntKind.signed]; omega
    have u4 : IntKind.u64.wrap (2 * -(x + 1) + 1) = 2 * -(x + 1) + 1 := by simp [IntKind.wrap, IntKind.bits, IntKind.signed]; omega
    go_enter Try.func97, Try.ntmps97
    go_wp2
    go_ret
    exact ⟨by rw [hE.out]; rfl, rfl⟩
theorem ref_PutInt (w : World) (F : Nat → Prop) (v : Value) (l : List Int) (x : Int) (hr0 : Kd.R (Kd.int .u8) 5 w 0 F v l) (h0 : -9223372036854775808 ≤ x) (h1 : x ≤ 9223372036854775807) (hl0 : l.length < 140737488355000) :
    Calls Try.prog 87 #[v, .int .i64 x] w fun e w' => ∃ v', e = .returned v' ∧ Kd.R (Kd.int .u8) 5 w' 0 (New F w w') v' (l ++ digs (fold x) 10) ∧ Chg F w w' := by
  obtain ⟨f0, f1⟩ := fold_range x h0 h1
  obtain ⟨A, n, cap, rfl⟩ := R_sl hr0
  have hr := Aside0.mk hr0
  clear hr0
  go_enter Try.func87, Try.ntmps87
  go_wp2_with (first | (go_at_call 97; go_must (refine (ref_Folded _ x h0 h1).mono ?_); go_must (rintro e w0 ⟨rfl, rfl⟩)) | (go_at_call 88; go_must (refine (ref_PutUint _ F _ l (fold x) hr.out f0 f1 hl0).mono ?_); go_must (rintro e w1 ⟨v1, rfl, hr1, hc1⟩); go_must (obtain ⟨A1, n1, cap1, rfl⟩ := R_sl hr1); go_must (replace hr1 := Aside0.mk hr1); go_must (replace hc1 := Aside0.mk hc1)))
  go_ret
  exact ⟨_, rfl, hr1.out, hc1.out⟩
/-- An instruction's form. -/
def putP (op a : Int) : List Int := op :: (if (rowP op).kind = 1 then digs (fold a) 10 else if (rowP op).kind = 0 then [] else digs a 10)
theorem putP_length (op a : Int) : (putP op a).length ≤ 11 := by
  unfold putP
  have h1 := digs_length 10 (fold a)
  have h2 := digs_length 10 a
  split
  · simp; omega
  · split
    · simp
    · simp; omega


theorem ref_Put (w : World) (F : Nat → Prop) (v : Value) (l : List Int) (op a : Int) (hr0 : Kd.R (Kd.int .u8) 5 w 0 F v l) (hop0 : 0 ≤ op) (hop1 : op < 256) (a0 : -9223372036854775808 ≤ a) (a1 : a ≤ 9223372036854775807) (hpos : (rowP op).kind ≠ 1 → (rowP op).kind ≠ 0 → 0 ≤ a) (hl0 : l.length < 140737488354000) :
    Calls Try.prog 60 #[v, .agg #[.int .i64 op, .int .i64 a]] w fun e w' => ∃ v', e = .returned v' ∧ Kd.R (Kd.int .u8) 5 w' 0 (New F w w') v' (l ++ putP op a) ∧ Chg F w w' := by
  obtain ⟨F', hF', hrn, hsub⟩ : ∃ F' : Nat → Prop, (∀ k, F' k → k < w.heap.size) ∧ Kd.R (Kd.int .u8) 5 w 0 F' v l ∧ ∀ k, F' k → F k := ⟨fun k => F k ∧ k < w.heap.size, fun _ h => h.2, Kd.R_mono (Kd.R_bound hr0) (fun k hk => ⟨hk.1, hk.2.2.1⟩), fun _ h => h.1⟩
  suffices h : Calls Try.prog 60 #[v, .agg #[.int .i64 op, .int .i64 a]] w fun e w' => ∃ v', e = .returned v' ∧ Kd.R (Kd.int .u8) 5 w' 0 (New F' w w') v' (l ++ putP op a) ∧ Chg F' w w' from
    h.mono (fun e w' ⟨v', e1, e2, e3⟩ => ⟨v', e1, Kd.R_mono e2 (fun k hk => hk.imp (hsub k) id), e3.mono (fun k _ => hsub k)⟩)
  clear hsub hr0
  have hr0 := hrn
  clear hrn
  obtain ⟨A, n, cap, rfl⟩ := R_sl hr0
  obtain ⟨b0, b1, _, _, _, _⟩ := rowP_bounds op
  have hopc : Aside0 (∀ W, Calls Try.prog 20 #[.int .i64 op] W _) := ⟨fun W => ref_Operand W op⟩
  have hE : Aside0 (putP op a = op :: (if (rowP op).kind = 1 then digs (fold a) 10 else if (rowP op).kind = 0 then [] else digs a 10)) := ⟨rfl⟩
  generalize putP op a = pp at hE ⊢
  generalize (rowP op).kind = kd at hopc hE b0 b1 hpos
  generalize okP op = ok at hopc
  have hr : Aside0 (Kd.R (Kd.int .u8) 5 (w.alloc (.cells #[.int .i64 op, .int .i64 a] 35)) 0 (New F' w (w.alloc (.cells #[.int .i64 op, .int .i64 a] 35))) (.slice A n cap) l) := ⟨Kd.R_mono (R_chg hr0 ((Chg.refl (fun _ => False) w).alloc _) (fun _ _ _ h => h)) (fun k hk => .inl hk)⟩
  have hr2 : Aside0 (Kd.R (Kd.int .u8) 5 (w.alloc (.cells #[.int .i64 op, .int .i64 a] 35)) 0 (New F' (w.alloc (.cells #[.int .i64 op, .int .i64 a] 35)) (w.alloc (.cells #[.int .i64 op, .int .i64 a] 35))) (.slice A n cap) l) := ⟨Kd.R_mono (R_chg hr0 ((Chg.refl (fun _ => False) w).alloc _) (fun _ _ _ h => h)) (fun k hk => .inl hk)⟩
  have hc2 := Aside0.mk (Chg.refl F' (w.alloc (.cells #[.int .i64 op, .int .i64 a] 35)))
  have hc0 := Aside0.mk ((Chg.refl F' w).alloc (.cells #[.int .i64 op, .int .i64 a] 35))
  have hlen : Aside0 ((l.length + 1) * 1 ≤ 140737488355328) := ⟨by omega⟩
  have hlen2 : Aside0 ((l ++ [op]).length < 140737488355000) := ⟨by simp; omega⟩
  have hbx := Aside0.mk (heap_alloc_new w (.cells #[.int .i64 op, .int .i64 a] 35))
  have hFA := Aside0.mk hF'
  have u0 : IntKind.u8.wrap op = op := by simp [IntKind.wrap, IntKind.bits, IntKind.signed]; omega
  clear hr0 hF'
  have fin : ∀ {w1 w2 : World} {v2 : Value} {ys : List Int}, Chg F' (w.alloc (.cells #[.int .i64 op, .int .i64 a] 35)) w1 → Kd.R (Kd.int .u8) 5 w2 0 (New (New F' (w.alloc (.cells #[.int .i64 op, .int .i64 a] 35)) w1) w1 w2) v2 ys → Chg (New F' (w.alloc (.cells #[.int .i64 op, .int .i64 a] 35)) w1) w1 w2 → Kd.R (Kd.int .u8) 5 w2 0 (New F' w w2) v2 ys ∧ Chg F' w w2 := by
    intro w1 w2 v2 ys h1 h2 h3
    have z1 := h1.size
    have z3 := h3.size
    simp at z1
    refine ⟨Kd.R_mono h2 (fun k hk => ?_), (((Chg.refl F' w).alloc _).trans h1 (fun _ _ h => h)).trans h3 (fun i hi h => ?_)⟩
    · rcases hk with (h | h) | h
      · exact .inl h
      · simp at h; exact .inr ⟨by omega, by omega⟩
      · exact .inr ⟨by omega, by omega⟩
    · rcases h with h | h
      · exact h
      · simp at h; omega
  replace fin := Aside0.mk @fin
  by_cases k1 : kd = 1
  · subst k1
    go_enter Try.func60, Try.ntmps60
    go_wp2_with (first | (go_at_call 20; go_must (refine (hopc.out _).mono ?_); go_must (rintro e w0 ⟨rfl, rfl⟩)) | (at_builtin; go_must (refine app1 (Kd.int .u8) rfl (.tmp 13) (.tmp 17) rfl Try.underlying43 infoU8 rfl (by decide) (by decide) (op) rfl (by rw [sz1]; rfl) rfl hr2 hc2 hlen ?_); go_must (intro v1 w1 hr1 hc1); go_must (obtain ⟨A1, n1, cap1, rfl⟩ := R_sl hr1.out); go_must (have hb1 := hc1.out.blk hbx.out (fun h => Nat.lt_irrefl _ (hFA.out _ h))); go_must (have x1 : w1.cell? ⟨w.heap.size, 1, none⟩ = some (.int .i64 a) := blk_cell hb1 1); go_must (clear hb1)) | (go_at_call 87; go_must (refine (ref_PutInt _ _ _ _ a hr1.out a0 a1 hlen2.out).mono ?_); go_must (rintro e w2 ⟨v2, rfl, hr3, hc3⟩); go_must (obtain ⟨A2, n2, cap2, rfl⟩ := R_sl hr3); go_must (replace hr3 := Aside0.mk hr3); go_must (replace hc3 := Aside0.mk hc3)))
    go_ret
    rw [hE.out]
    obtain ⟨g1, g2⟩ := fin.out hc1.out hr3.out hc3.out
    exact ⟨_, rfl, by simpa using g1, g2⟩
  · have d1 : (kd == 1) = false := by simpa using k1
    by_cases k0 : kd = 0
    · subst k0
      go_enter Try.func60, Try.ntmps60
      go_wp2_with (first | (go_at_call 20; go_must (refine (hopc.out _).mono ?_); go_must (rintro e w0 ⟨rfl, rfl⟩)) | (at_builtin; go_must (refine app1 (Kd.int .u8) rfl (.tmp 13) (.tmp 17) rfl Try.underlying43 infoU8 rfl (by decide) (by decide) (op) rfl (by rw [sz1]; rfl) rfl hr2 hc2 hlen ?_); go_must (intro v1 w1 hr1 hc1); go_must (obtain ⟨A1, n1, cap1, rfl⟩ := R_sl hr1.out); go_must (have hb1 := hc1.out.blk hbx.out (fun h => Nat.lt_irrefl _ (hFA.out _ h))); go_must (have x1 : w1.cell? ⟨w.heap.size, 1, none⟩ = some (.int .i64 a) := blk_cell hb1 1); go_must (clear hb1)))
      go_ret
      rw [hE.out]
      obtain ⟨g1, g2⟩ := fin.out hc1.out (Kd.R_mono hr1.out (fun k hk => .inl hk)) (Chg.refl _ _)
      exact ⟨_, rfl, g1, g2⟩
    · have d0 : (kd == 0) = false := by simpa using k0
      have d2 : (kd != 0) = true := by simpa using k0
      have ha := hpos k1 k0
      have u1 : IntKind.u64.wrap a = a := by simp [IntKind.wrap, IntKind.bits, IntKind.signed]; omega
      have hE2 : Aside0 (pp = op :: digs a 10) := ⟨by rw [hE.out, if_neg k1, if_neg k0]⟩
      clear k1 k0 hpos
      go_enter Try.func60, Try.ntmps60
      go_wp2_with (first | (go_at_call 20; go_must (refine (hopc.out _).mono ?_); go_must (rintro e w0 ⟨rfl, rfl⟩)) | (at_builtin; go_must (refine app1 (Kd.int .u8) rfl (.tmp 13) (.tmp 17) rfl Try.underlying43 infoU8 rfl (by decide) (by decide) (op) rfl (by rw [sz1]; rfl) rfl hr2 hc2 hlen ?_); go_must (intro v1 w1 hr1 hc1); go_must (obtain ⟨A1, n1, cap1, rfl⟩ := R_sl hr1.out); go_must (have hb1 := hc1.out.blk hbx.out (fun h => Nat.lt_irrefl _ (hFA.out _ h))); go_must (have x1 : w1.cell? ⟨w.heap.size, 1, none⟩ = some (.int .i64 a) := blk_cell hb1 1); go_must (clear hb1)) | (go_at_call 88; go_must (refine (ref_PutUint _ _ _ _ a hr1.out ha (by omega) hlen2.out).mono ?_); go_must (rintro e w2 ⟨v2, rfl, hr3, hc3⟩); go_must (obtain ⟨A2, n2, cap2, rfl⟩ := R_sl hr3); go_must (replace hr3 := Aside0.mk hr3); go_must (replace hc3 := Aside0.mk hc3)))
      go_ret
      rw [hE2.out]
      obtain ⟨g1, g2⟩ := fin.out hc1.out hr3.out hc3.out
      exact ⟨_, rfl, by simpa using g1, g2⟩

end Go.Proofs.Ythmghcjkmmhgnaa.K
