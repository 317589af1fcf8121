import Derived.Test.YtbheebcjbolboaaRf
namespace Go.Proofs.Ytbheebcjbolboaa.K
open Go.RowKit Go.Proofs.YtbheebcjbolboaaW.PrintWords Go.Proofs.YtbheebcjbolboaaW.PrintLast Go.Proofs.YtbheebcjbolboaaW.PrintMore
set_option linter.unusedVariables false
set_option linter.unusedSimpArgs false
set_option maxRecDepth 100000

theorem same_bytes (w : World) (A B : Option Addr) (n m ca cb : Nat) (l1 l2 : List Int) (h1 : Kd.C (Kd.int .u8) w A n l1) (h2 : Kd.C (Kd.int .u8) w B m l2) :
    Calls Try.prog 14 #[.slice A n ca, .slice B m cb] w fun e w' => e = .returned (.bool (decide (l1 = l2))) ∧ Drawn0 w w' := by
  have hn : l1.length = n := h1.1
  have hm : l2.length = m := h2.1
  have hb := h1.2.1
  replace h1 := Aside0.mk h1
  replace h2 := Aside0.mk h2
  by_cases he : n = m
  · subst he
    have hnA := Aside0.mk hn
    have hmA := Aside0.mk hm
    clear hn hm
    have hne : ((n : Int) != (n : Int)) = false := by simp
    go_enter Try.func14, Try.ntmps14
    go_wp2
    go_loopw [5] (fun i wr => ∃ k : Nat, i = .int .i64 k ∧ k ≤ n ∧ Aside0 (l1.take k = l2.take k) ∧ Drawn0 w wr) (fun i _ => n - (intOf i).toNat)
    case atStart => exact ⟨0, rfl, by omega, ⟨by simp⟩, Drawn0.refl _⟩
    case round =>
      obtain ⟨k, rfl, hk, hE, ⟨nd, rfl⟩⟩ := hrel
      by_cases hlt : k < n
      · obtain ⟨a1, e1, x1⟩ := byte_at h1.out k hlt
        obtain ⟨a2, e2, x2⟩ := byte_at h2.out k hlt
        have hk0 : (0 : Int) ≤ k := by omega
        have hk1 : (k : Int) < n := by omega
        subst e1 e2
        have t1 : l1.take (k + 1) = l1.take k ++ [l1.getD k 0] := by
          rw [List.take_succ_eq_append_getElem (by have := hnA.out; omega), List.getD_eq_getElem?_getD, List.getElem?_eq_getElem (by have := hnA.out; omega)]; rfl
        have t2 : l2.take (k + 1) = l2.take k ++ [l2.getD k 0] := by
          rw [List.take_succ_eq_append_getElem (by have := hmA.out; omega), List.getD_eq_getElem?_getD, List.getElem?_eq_getElem (by have := hmA.out; omega)]; rfl
        replace t1 := Aside0.mk t1
        replace t2 := Aside0.mk t2
        generalize l1.getD k 0 = y1 at x1 t1
        generalize l2.getD k 0 = y2 at x2 t2
        by_cases hy : y1 = y2
        · have hy1 : (y1 != y2) = false := by simpa using hy
          replace hy := Aside0.mk hy
          go_wp2
          go_quiet (fail)
          go_wp2
          go_roundw
          case measure => simp [intOf]; omega
          case rel => exact ⟨k + 1, by go_num, by omega, ⟨by rw [t1.out, t2.out, hE.out, hy.out]⟩, by first | exact ⟨⟨_, rfl⟩⟩ | exact Drawn0.step ⟨⟨_, rfl⟩⟩ _⟩
        · have hy1 : (y1 != y2) = true := by simpa using hy
          replace hy := Aside0.mk hy
          go_wp2
          go_quiet (fail)
          go_wp2
          go_ret
          refine ⟨?_, by first | exact ⟨⟨_, rfl⟩⟩ | exact Drawn0.step ⟨⟨_, rfl⟩⟩ _⟩
          have : ¬ l1 = l2 := by
            intro h
            have := t1.out.symm.trans ((congrArg (List.take (k + 1)) h).trans t2.out)
            rw [hE.out] at this
            exact hy.out (by simpa using this)
          simp [this]
      · go_wp2
        go_ret
        refine ⟨?_, ⟨_, rfl⟩⟩
        have hkn : k = n := by omega
        have := hE.out
        rw [List.take_of_length_le (by have := hnA.out; omega), List.take_of_length_le (by have := hmA.out; omega)] at this
        simp [this]
  · have hne : ((n : Int) != (m : Int)) = true := by simp; omega
    have hll : ¬ l1 = l2 := fun h => he (by rw [← hn, ← hm, h])
    replace hll := Aside0.mk hll
    clear hn hm he
    go_enter Try.func14, Try.ntmps14
    go_wp2
    go_ret
    exact ⟨by simp [hll.out], ⟨0, rfl⟩⟩
/-- What one call of a writer writes. -/
def putL (kind x : Int) (s : ByteArray) : List Int :=
  if kind = 0 then be (x % 256) 1 else if kind = 1 then digs x 10 else if kind = 2 then digs (fold (wrap64 x)) 10 else if kind = 3 then be x 8 else if kind = 4 then digs s.size 10 ++ bytesOf s else []
theorem law_put (w : World) (F : Nat → Prop) (g : Nat) (l : List Int) (on kind x : Int) (s : ByteArray) (hw : Wr w F g l) (hx0 : 0 ≤ x) (hx1 : x ≤ 18446744073709551615) (hs : s.size ≤ 140737488355328) (hll : l.length < 140737488355000) (hl : kind = 4 → l.length + s.size < 140737488355000) :
    Calls Try.prog 42 #[.pointer (some ⟨g, 0, none⟩), .agg #[.int .i64 on, .int .i64 kind, .int .u64 x, .string s]] w fun e w' => e = .returned (.tuple #[]) ∧ Wr w' (New F w w') g (l ++ putL kind x s) ∧ Chg F w w' := by
  have hW := Aside0.mk hw
  have hx1A := Aside0.mk hx1
  have hsA := Aside0.mk hs
  have hlA := Aside0.mk hl
  replace hll := Aside0.mk hll
  clear hw hx1 hs hl
  have hch : Chg (fun _ => False) w (w.alloc (.cells #[.int .i64 on, .int .i64 kind, .int .u64 x, .string s] 29)) := (Chg.refl _ w).alloc _
  have hWa := Aside0.mk (hW.out.chg hch (fun _ _ _ h => h))
  replace hch := Aside0.mk hch
  have hfin : ∀ w1 L, Wr w1 (New F (w.alloc (.cells #[.int .i64 on, .int .i64 kind, .int .u64 x, .string s] 29)) w1) g (l ++ L) → Chg F (w.alloc (.cells #[.int .i64 on, .int .i64 kind, .int .u64 x, .string s] 29)) w1 → putL kind x s = L → Wr w1 (New F w w1) g (l ++ putL kind x s) ∧ Chg F w w1 := by
    intro w1 L h1 h2 h3
    rw [h3]
    exact ⟨h1.mono (fun k hk h => h.imp id (fun h => ⟨by have := h.1; simp at this; omega, h.2⟩)), (hch.out.mono (fun _ _ h => h.elim)).trans h2 (fun _ _ h => h)⟩
  replace hfin := Aside0.mk hfin
  by_cases h0 : kind = 0
  · subst h0
    go_enter Try.func42, Try.ntmps42
    go_wp2_with (go_at_call 32; go_must (refine (wr_byte _ F g l _ hWa.out (by omega) (by omega) hll.out).mono ?_); go_must (rintro e w1 ⟨rfl, hW1, hc1⟩); go_must (replace hW1 := Aside0.mk hW1); go_must (replace hc1 := Aside0.mk hc1))
    all_goals (go_wp2; go_end0; exact ⟨rfl, hfin.out _ _ hW1.out hc1.out (by simp [putL])⟩)
  have g0 : (kind == 0) = false := by simpa using h0
  by_cases h1 : kind = 1
  · subst h1
    go_enter Try.func42, Try.ntmps42
    go_wp2_with (go_at_call 33; go_must (refine (wr_uint _ F g l _ hWa.out hx0 hx1A.out hll.out).mono ?_); go_must (rintro e w1 ⟨rfl, hW1, hc1⟩); go_must (replace hW1 := Aside0.mk hW1); go_must (replace hc1 := Aside0.mk hc1))
    all_goals (go_wp2; go_end0; exact ⟨rfl, hfin.out _ _ hW1.out hc1.out (by simp [putL])⟩)
  have g1 : (kind == 1) = false := by simpa using h1
  by_cases h2 : kind = 2
  · subst h2
    go_enter Try.func42, Try.ntmps42
    go_wp2_with (go_at_call 34; go_must (refine (wr_int _ F g l _ hWa.out (by unfold wrap64; omega) (by unfold wrap64; omega) hll.out).mono ?_); go_must (rintro e w1 ⟨rfl, hW1, hc1⟩); go_must (replace hW1 := Aside0.mk hW1); go_must (replace hc1 := Aside0.mk hc1))
    all_goals (go_wp2; go_end0; exact ⟨rfl, hfin.out _ _ hW1.out hc1.out (by simp [putL])⟩)
  have g2 : (kind == 2) = false := by simpa using h2
  by_cases h3 : kind = 3
  · subst h3
    go_enter Try.func42, Try.ntmps42
    go_wp2_with (go_at_call 36; go_must (refine (wr_word _ F g l _ hWa.out hx0 hll.out).mono ?_); go_must (rintro e w1 ⟨rfl, hW1, hc1⟩); go_must (replace hW1 := Aside0.mk hW1); go_must (replace hc1 := Aside0.mk hc1))
    all_goals (go_wp2; go_end0; exact ⟨rfl, hfin.out _ _ hW1.out hc1.out (by simp [putL])⟩)
  have g3 : (kind == 3) = false := by simpa using h3
  by_cases h4 : kind = 4
  · subst h4
    go_enter Try.func42, Try.ntmps42
    go_wp2_with (go_at_call 38; go_must (refine (wr_text _ F g l _ hWa.out hsA.out (hlA.out rfl)).mono ?_); go_must (rintro e w1 ⟨rfl, hW1, hc1⟩); go_must (rw [List.append_assoc] at hW1); go_must (replace hW1 := Aside0.mk hW1); go_must (replace hc1 := Aside0.mk hc1))
    all_goals (go_wp2; go_end0; exact ⟨rfl, hfin.out _ _ hW1.out hc1.out (by simp [putL])⟩)
  have g4 : (kind == 4) = false := by simpa using h4
  go_enter Try.func42, Try.ntmps42
  go_wp2
  go_end0
  refine ⟨rfl, ?_, hch.out.mono (fun _ _ h => h.elim)⟩
  have e : putL kind x s = [] := by simp only [putL]; rw [if_neg h0, if_neg h1, if_neg h2, if_neg h3, if_neg h4]
  rw [e, List.append_nil]
  exact hWa.out.mono (fun _ _ h => .inl h)

/-- What a new writer writes of one call. -/
def wrL (kind x : Int) (s : ByteArray) : List Int := if kind = 5 then bytesOf s else putL kind x s
theorem C_bytesWorld (W : World) (s : ByteArray) (e : TypeId) (hs : s.size ≤ 140737488355328) : Kd.C (Kd.int .u8) (Lib.bytesWorld W e s) (some ⟨W.heap.size, 0, none⟩) s.size (bytesOf s) :=
  Kd.C_of_reads (bytes_reads W e s (by omega))
theorem chg_bytesWorld (W : World) (s : ByteArray) (e : TypeId) : Chg (fun _ => False) W (Lib.bytesWorld W e s) := Chg.of_below (bytes_below (Below.refl _ _) (Nat.le_refl _) e s)
theorem putL_length (kind x : Int) (s : ByteArray) : (putL kind x s).length ≤ s.size + 18 := by
  unfold putL
  repeat' split
  all_goals (try simp [be_length, bytesOf_length])
  all_goals (first | (have := digs_length 10 x; omega) | (have := digs_length 10 (fold (wrap64 x)); omega) | (have := digs_length 10 s.size; omega) | omega)
theorem Put.cells {w : World} {b : Nat} {v0 v1 v2 v3 : Value} {t : TypeId} (h : w.heap[b]? = some (.cells #[v0, v1, v2, v3] t (0, 0))) : w.cell? ⟨b, 0, none⟩ = some v0 ∧ w.cell? ⟨b, 1, none⟩ = some v1 ∧ w.cell? ⟨b, 2, none⟩ = some v2 ∧ w.cell? ⟨b, 3, none⟩ = some v3 :=
  ⟨blk_cell h 0, blk_cell h 1, blk_cell h 2, blk_cell h 3⟩
theorem law_written (w : World) (on kind x : Int) (s : ByteArray) (hx0 : 0 ≤ x) (hx1 : x ≤ 18446744073709551615) (hs : s.size ≤ 140737488351232) :
    Calls Try.prog 13 #[.agg #[.int .i64 on, .int .i64 kind, .int .u64 x, .string s]] w fun e w' => ∃ v, e = .returned (.tuple #[v, .bool true]) ∧ Kd.R (Kd.int .u8) 5 w' 0 (New (fun _ => False) w w') v (wrL kind x s) ∧ Chg (fun _ => False) w w' := by
  have hx1A := Aside0.mk hx1
  have hsA := Aside0.mk hs
  have hs2 : s.size ≤ 140737488355328 := by omega
  replace hs2 := Aside0.mk hs2
  clear hx1 hs
  have hchA := Aside0.mk (((Chg.refl (fun _ => False) w).alloc (.cells #[.int .i64 on, .int .i64 kind, .int .u64 x, .string s] 29)).alloc (.cells #[.slice none 0 0] 88))
  have hbox := Aside0.mk (heap_alloc_old2 w (.cells #[.int .i64 on, .int .i64 kind, .int .u64 x, .string s] 29) (.cells #[.slice none 0 0] 88))
  obtain ⟨b0, b1, b2, b3⟩ := Put.cells hbox.out
  have hWn : Wr ((w.alloc (.cells #[.int .i64 on, .int .i64 kind, .int .u64 x, .string s] 29)).alloc (.cells #[.slice none 0 0] 88)) (fun k => k = w.heap.size + 1) (w.heap.size + 1) [] :=
    ⟨_, heap_alloc_new2 w _ _, rfl, Kd.R_nil _ _ _ _ _⟩
  generalize hW2 : (w.alloc (.cells #[.int .i64 on, .int .i64 kind, .int .u64 x, .string s] 29)).alloc (.cells #[.slice none 0 0] 88) = W2 at hchA hbox b0 b1 b2 b3 hWn
  replace hWn := Aside0.mk hWn
  replace hW2 := Aside0.mk hW2
  by_cases h5 : kind = 5
  · subst h5
    have kb := fun W => print_bytes (P := Try.prog) 9 25 5 Try.underlying9 Try.underlying25 Try.underlying5 s W
    go_enter Try.func13, Try.ntmps13
    go_wp2_with (first | (go_at_call 31; go_must (refine (wr_new _).mono ?_); go_must (rintro e w1 ⟨rfl, hW1, rfl⟩); go_must (clear hW1); go_must (rw [hW2.out])) | (go_at_call 41; go_must (have hc0 := Aside0.mk (chg_bytesWorld W2 s 5)); go_must (have hW0 := Aside0.mk (hWn.out.chg hc0.out (fun _ _ _ h => h))); go_must (have hbox0 := Aside0.mk (hc0.out.blk hbox.out (fun h => h))); go_must (refine (wr_raw _ _ _ [] _ _ _ (bytesOf s) hW0.out (C_bytesWorld W2 s 5 hs2.out) (by have := hsA.out; simp; omega)).mono ?_); go_must (rintro e w1 ⟨rfl, hW1, hc1⟩); go_must (have hbox1 := Aside0.mk (hc1.blk hbox0.out (by omega))); go_must (obtain ⟨p0, p1, p2, p3⟩ := Put.cells hbox1.out); go_must (replace hW1 := Aside0.mk hW1); go_must (replace hc1 := Aside0.mk hc1)) | (go_at_call 42; go_must (refine (law_put _ _ _ ([] ++ bytesOf s) on 5 x s hW1.out hx0 hx1A.out hs2.out (by have := hsA.out; simp [bytesOf_length]; omega) (fun h => absurd h (by decide))).mono ?_); go_must (rintro e w2 ⟨rfl, hW3, hc2⟩); go_must (replace hW3 := Aside0.mk hW3); go_must (replace hc2 := Aside0.mk hc2)) | (go_at_call 39; go_must (refine (wr_done _ _ _ _ hW3.out (by have := hsA.out; simp [bytesOf_length, putL]; omega)).mono ?_); go_must (rintro e w3 ⟨v3, rfl, hr3, hc3⟩); go_must (obtain ⟨A3, n3, cap3, rfl⟩ := R_sl hr3); go_must (replace hr3 := Aside0.mk hr3); go_must (replace hc3 := Aside0.mk hc3)))
    go_ret2
    refine ⟨_, rfl, ?_, ?_⟩
    · have e : wrL 5 x s = [] ++ bytesOf s ++ putL 5 x s := by simp [wrL, putL]
      rw [e]
      exact Kd.R_mono hr3.out (fun k hk => hk.imp id (fun h => ⟨by have := hchA.out.size; have := hc0.out.size; have := hc1.out.size; have := hc2.out.size; omega, h.2⟩))
    · exact (((hchA.out.trans hc0.out (fun _ _ h => h.elim)).trans hc1.out (fun k hk h => by omega)).trans hc2.out (fun k hk h => by rcases h with h | h <;> (have := hchA.out.size; have := hc0.out.size; omega))).trans hc3.out (fun _ _ h => h.elim)
  · have h51 : (kind == 5) = false := by simpa using h5
    go_enter Try.func13, Try.ntmps13
    go_wp2_with (first | (go_at_call 31; go_must (refine (wr_new _).mono ?_); go_must (rintro e w1 ⟨rfl, hW1, rfl⟩); go_must (clear hW1); go_must (rw [hW2.out])) | (go_at_call 42; go_must (refine (law_put _ _ _ [] on kind x s hWn.out hx0 hx1A.out hs2.out (by simp) (fun _ => by have := hsA.out; simp; omega)).mono ?_); go_must (rintro e w2 ⟨rfl, hW3, hc2⟩); go_must (replace hW3 := Aside0.mk hW3); go_must (replace hc2 := Aside0.mk hc2)) | (go_at_call 39; go_must (refine (wr_done _ _ _ _ hW3.out (by have := hsA.out; have := putL_length kind x s; simp; omega)).mono ?_); go_must (rintro e w3 ⟨v3, rfl, hr3, hc3⟩); go_must (obtain ⟨A3, n3, cap3, rfl⟩ := R_sl hr3); go_must (replace hr3 := Aside0.mk hr3); go_must (replace hc3 := Aside0.mk hc3)))
    go_ret2
    refine ⟨_, rfl, ?_, ?_⟩
    · have e : wrL kind x s = [] ++ putL kind x s := by simp [wrL, h5]
      rw [e]
      exact Kd.R_mono hr3.out (fun k hk => hk.imp id (fun h => ⟨by have := hchA.out.size; have := hc2.out.size; omega, h.2⟩))
    · exact ((hchA.out.trans hc2.out (fun k hk h => by omega))).trans hc3.out (fun _ _ h => h.elim)

end Go.Proofs.Ytbheebcjbolboaa.K
