import Derived.Test.YtbheebcjbolboaaRf
import Derived.Test.YtbheebcjbolboaaPb
namespace Go.Proofs.Ytbheebcjbolboaa.K
open Go.RowKit Go.Proofs.YtbheebcjbolboaaW.PrintWords Go.Proofs.YtbheebcjbolboaaW.PrintLast Go.Proofs.YtbheebcjbolboaaW.PrintMore
set_option linter.unusedVariables false
set_option linter.unusedSimpArgs false
set_option maxRecDepth 100000

theorem same_bytes (w : World) (A B : Option Addr) (n m ca cb : Nat) (l1 l2 : List Int) (h1 : Kd.C (Kd.int .u8) w A n l1) (h2 : Kd.C (Kd.int .u8) w B m l2) :
    Calls Try.prog 14 #[.slice A n ca, .slice B m cb] w fun e w' => e = .returned (.bool (decide (l1 = l2))) ∧ Drawn0 w w' := by
  have hn : l1.length = n := h1.1
  have hm : l2.length = m := h2.1
  have hb := h1.2.1
  replace h1 := Aside0.mk h1
  replace h2 := Aside0.mk h2
  by_cases he : n = m
  · subst he
    have hnA := Aside0.mk hn
    have hmA := Aside0.mk hm
    clear hn hm
    have hne : ((n : Int) != (n : Int)) = false := by simp
    go_enter Try.func14, Try.ntmps14
    go_wp2
    go_loopw [5] (fun i wr => ∃ k : Nat, i = .int .i64 k ∧ k ≤ n ∧ Aside0 (l1.take k = l2.take k) ∧ Drawn0 w wr) (fun i _ => n - (intOf i).toNat)
    case atStart => exact ⟨0, rfl, by omega, ⟨by simp⟩, Drawn0.refl _⟩
    case round =>
      obtain ⟨k, rfl, hk, hE, ⟨nd, rfl⟩⟩ := hrel
      by_cases hlt : k < n
      · obtain ⟨a1, e1, x1⟩ := byte_at h1.out k hlt
        obtain ⟨a2, e2, x2⟩ := byte_at h2.out k hlt
        have hk0 : (0 : Int) ≤ k := by omega
        have hk1 : (k : Int) < n := by omega
        subst e1 e2
        have t1 : l1.take (k + 1) = l1.take k ++ [l1.getD k 0] := by
          rw [List.take_succ_eq_append_getElem (by have := hnA.out; omega), List.getD_eq_getElem?_getD, List.getElem?_eq_getElem (by have := hnA.out; omega)]; rfl
        have t2 : l2.take (k + 1) = l2.take k ++ [l2.getD k 0] := by
          rw [List.take_succ_eq_append_getElem (by have := hmA.out; omega), List.getD_eq_getElem?_getD, List.getElem?_eq_getElem (by have := hmA.out; omega)]; rfl
        replace t1 := Aside0.mk t1
        replace t2 := Aside0.mk t2
        generalize l1.getD k 0 = y1 at x1 t1
        generalize l2.getD k 0 = y2 at x2 t2
        by_cases hy : y1 = y2
        · have hy1 : (y1 != y2) = false := by simpa using hy
          replace hy := Aside0.mk hy
          go_wp2
          go_quiet (fail)
          go_wp2
          go_roundw
          case measure => simp [intOf]; omega
          case rel => exact ⟨k + 1, by go_num, by omega, ⟨by rw [t1.out, t2.out, hE.out, hy.out]⟩, by first | exact ⟨⟨_, rfl⟩⟩ | exact Drawn0.step ⟨⟨_, rfl⟩⟩ _⟩
        · have hy1 : (y1 != y2) = true := by simpa using hy
          replace hy := Aside0.mk hy
          go_wp2
          go_quiet (fail)
          go_wp2
          go_ret
          refine ⟨?_, by first | exact ⟨⟨_, rfl⟩⟩ | exact Drawn0.step ⟨⟨_, rfl⟩⟩ _⟩
          have : ¬ l1 = l2 := by
            intro h
            have := t1.out.symm.trans ((congrArg (List.take (k + 1)) h).trans t2.out)
            rw [hE.out] at this
            exact hy.out (by simpa using this)
          simp [this]
      · go_wp2
        go_ret
        refine ⟨?_, ⟨_, rfl⟩⟩
        have hkn : k = n := by omega
        have := hE.out
        rw [List.take_of_length_le (by have := hnA.out; omega), List.take_of_length_le (by have := hmA.out; omega)] at this
        simp [this]
  · have hne : ((n : Int) != (m : Int)) = true := by simp; omega
    have hll : ¬ l1 = l2 := fun h => he (by rw [← hn, ← hm, h])
    replace hll := Aside0.mk hll
    clear hn hm he
    go_enter Try.func14, Try.ntmps14
    go_wp2
    go_ret
    exact ⟨by simp [hll.out], ⟨0, rfl⟩⟩
/-- What one call of a writer writes. -/
def putL (kind x : Int) (s : ByteArray) : List Int :=
  if kind = 0 then be (x % 256) 1 else if kind = 1 then digs x 10 else if kind = 2 then digs (fold (wrap64 x)) 10 else if kind = 3 then be x 8 else if kind = 4 then digs s.size 10 ++ bytesOf s else []
theorem law_put (w : World) (F : Nat → Prop) (g : Nat) (l : List Int) (on kind x : Int) (s : ByteArray) (hw : Wr w F g l) (hx0 : 0 ≤ x) (hx1 : x ≤ 18446744073709551615) (hs : s.size ≤ 140737488355328) (hll : l.length < 140737488355000) (hl : kind = 4 → l.length + s.size < 140737488355000) :
    Calls Try.prog 42 #[.pointer (some ⟨g, 0, none⟩), .agg #[.int .i64 on, .int .i64 kind, .int .u64 x, .string s]] w fun e w' => e = .returned (.tuple #[]) ∧ Wr w' (New F w w') g (l ++ putL kind x s) ∧ Chg F w w' := by
  have hW := Aside0.mk hw
  have hx1A := Aside0.mk hx1
  have hsA := Aside0.mk hs
  have hlA := Aside0.mk hl
  replace hll := Aside0.mk hll
  clear hw hx1 hs hl
  have hch : Chg (fun _ => False) w (w.alloc (.cells #[.int .i64 on, .int .i64 kind, .int .u64 x, .string s] 29)) := (Chg.refl _ w).alloc _
  have hWa := Aside0.mk (hW.out.chg hch (fun _ _ _ h => h))
  replace hch := Aside0.mk hch
  have hfin : ∀ w1 L, Wr w1 (New F (w.alloc (.cells #[.int .i64 on, .int .i64 kind, .int .u64 x, .string s] 29)) w1) g (l ++ L) → Chg F (w.alloc (.cells #[.int .i64 on, .int .i64 kind, .int .u64 x, .string s] 29)) w1 → putL kind x s = L → Wr w1 (New F w w1) g (l ++ putL kind x s) ∧ Chg F w w1 := by
    intro w1 L h1 h2 h3
    rw [h3]
    exact ⟨h1.mono (fun k hk h => h.imp id (fun h => ⟨by have := h.1; simp at this; omega, h.2⟩)), (hch.out.mono (fun _ _ h => h.elim)).trans h2 (fun _ _ h => h)⟩
  replace hfin := Aside0.mk hfin
  by_cases h0 : kind = 0
  · subst h0
    go_enter Try.func42, Try.ntmps42
    go_wp2_with (go_at_call 32; go_must (refine (wr_byte _ F g l _ hWa.out (by omega) (by omega) hll.out).mono ?_); go_must (rintro e w1 ⟨rfl, hW1, hc1⟩); go_must (replace hW1 := Aside0.mk hW1); go_must (replace hc1 := Aside0.mk hc1))
    all_goals (go_wp2; go_end0; exact ⟨rfl, hfin.out _ _ hW1.out hc1.out (by simp [putL])⟩)
  have g0 : (kind == 0) = false := by simpa using h0
  by_cases h1 : kind = 1
  · subst h1
    go_enter Try.func42, Try.ntmps42
    go_wp2_with (go_at_call 33; go_must (refine (wr_uint _ F g l _ hWa.out hx0 hx1A.out hll.out).mono ?_); go_must (rintro e w1 ⟨rfl, hW1, hc1⟩); go_must (replace hW1 := Aside0.mk hW1); go_must (replace hc1 := Aside0.mk hc1))
    all_goals (go_wp2; go_end0; exact ⟨rfl, hfin.out _ _ hW1.out hc1.out (by simp [putL])⟩)
  have g1 : (kind == 1) = false := by simpa using h1
  by_cases h2 : kind = 2
  · subst h2
    go_enter Try.func42, Try.ntmps42
    go_wp2_with (go_at_call 34; go_must (refine (wr_int _ F g l _ hWa.out (by unfold wrap64; omega) (by unfold wrap64; omega) hll.out).mono ?_); go_must (rintro e w1 ⟨rfl, hW1, hc1⟩); go_must (replace hW1 := Aside0.mk hW1); go_must (replace hc1 := Aside0.mk hc1))
    all_goals (go_wp2; go_end0; exact ⟨rfl, hfin.out _ _ hW1.out hc1.out (by simp [putL])⟩)
  have g2 : (kind == 2) = false := by simpa using h2
  by_cases h3 : kind = 3
  · subst h3
    go_enter Try.func42, Try.ntmps42
    go_wp2_with (go_at_call 36; go_must (refine (wr_word _ F g l _ hWa.out hx0 hll.out).mono ?_); go_must (rintro e w1 ⟨rfl, hW1, hc1⟩); go_must (replace hW1 := Aside0.mk hW1); go_must (replace hc1 := Aside0.mk hc1))
    all_goals (go_wp2; go_end0; exact ⟨rfl, hfin.out _ _ hW1.out hc1.out (by simp [putL])⟩)
  have g3 : (kind == 3) = false := by simpa using h3
  by_cases h4 : kind = 4
  · subst h4
    go_enter Try.func42, Try.ntmps42
    go_wp2_with (go_at_call 38; go_must (refine (wr_text _ F g l _ hWa.out hsA.out (hlA.out rfl)).mono ?_); go_must (rintro e w1 ⟨rfl, hW1, hc1⟩); go_must (rw [List.append_assoc] at hW1); go_must (replace hW1 := Aside0.mk hW1); go_must (replace hc1 := Aside0.mk hc1))
    all_goals (go_wp2; go_end0; exact ⟨rfl, hfin.out _ _ hW1.out hc1.out (by simp [putL])⟩)
  have g4 : (kind == 4) = false := by simpa using h4
  go_enter Try.func42, Try.ntmps42
  go_wp2
  go_end0
  refine ⟨rfl, ?_, hch.out.mono (fun _ _ h => h.elim)⟩
  have e : putL kind x s = [] := by simp only [putL]; rw [if_neg h0, if_neg h1, if_neg h2, if_neg h3, if_neg h4]
  rw [e, List.append_nil]
  exact hWa.out.mono (fun _ _ h => .inl h)

/-- What a new writer writes of one call. -/
def wrL (kind x : Int) (s : ByteArray) : List Int := if kind = 5 then bytesOf s else putL kind x s
theorem C_bytesWorld (W : World) (s : ByteArray) (e : TypeId) (hs : s.size ≤ 140737488355328) : Kd.C (Kd.int .u8) (Lib.bytesWorld W e s) (some ⟨W.heap.size, 0, none⟩) s.size (bytesOf s) :=
  Kd.C_of_reads (bytes_reads W e s (by omega))
theorem chg_bytesWorld (W : World) (s : ByteArray) (e : TypeId) : Chg (fun _ => False) W (Lib.bytesWorld W e s) := Chg.of_below (bytes_below (Below.refl _ _) (Nat.le_refl _) e s)
theorem putL_length (kind x : Int) (s : ByteArray) : (putL kind x s).length ≤ s.size + 18 := by
  unfold putL
  repeat' split
  all_goals (try simp [be_length, bytesOf_length])
  all_goals (first | (have := digs_length 10 x; omega) | (have := digs_length 10 (fold (wrap64 x)); omega) | (have := digs_length 10 s.size; omega) | omega)
theorem Put.cells {w : World} {b : Nat} {v0 v1 v2 v3 : Value} {t : TypeId} (h : w.heap[b]? = some (.cells #[v0, v1, v2, v3] t (0, 0))) : w.cell? ⟨b, 0, none⟩ = some v0 ∧ w.cell? ⟨b, 1, none⟩ = some v1 ∧ w.cell? ⟨b, 2, none⟩ = some v2 ∧ w.cell? ⟨b, 3, none⟩ = some v3 :=
  ⟨blk_cell h 0, blk_cell h 1, blk_cell h 2, blk_cell h 3⟩
theorem law_written (w : World) (on kind x : Int) (s : ByteArray) (hx0 : 0 ≤ x) (hx1 : x ≤ 18446744073709551615) (hs : s.size ≤ 140737488351232) :
    Calls Try.prog 13 #[.agg #[.int .i64 on, .int .i64 kind, .int .u64 x, .string s]] w fun e w' => ∃ v, e = .returned (.tuple #[v, .bool true]) ∧ Kd.R (Kd.int .u8) 5 w' 0 (New (fun _ => False) w w') v (wrL kind x s) ∧ Chg (fun _ => False) w w' := by
  have hx1A := Aside0.mk hx1
  have hsA := Aside0.mk hs
  have hs2 : s.size ≤ 140737488355328 := by omega
  replace hs2 := Aside0.mk hs2
  clear hx1 hs
  have hchA := Aside0.mk (((Chg.refl (fun _ => False) w).alloc (.cells #[.int .i64 on, .int .i64 kind, .int .u64 x, .string s] 29)).alloc (.cells #[.slice none 0 0] 88))
  have hbox := Aside0.mk (heap_alloc_old2 w (.cells #[.int .i64 on, .int .i64 kind, .int .u64 x, .string s] 29) (.cells #[.slice none 0 0] 88))
  obtain ⟨b0, b1, b2, b3⟩ := Put.cells hbox.out
  have hWn : Wr ((w.alloc (.cells #[.int .i64 on, .int .i64 kind, .int .u64 x, .string s] 29)).alloc (.cells #[.slice none 0 0] 88)) (fun k => k = w.heap.size + 1) (w.heap.size + 1) [] :=
    ⟨_, heap_alloc_new2 w _ _, rfl, Kd.R_nil _ _ _ _ _⟩
  generalize hW2 : (w.alloc (.cells #[.int .i64 on, .int .i64 kind, .int .u64 x, .string s] 29)).alloc (.cells #[.slice none 0 0] 88) = W2 at hchA hbox b0 b1 b2 b3 hWn
  replace hWn := Aside0.mk hWn
  replace hW2 := Aside0.mk hW2
  by_cases h5 : kind = 5
  · subst h5
    have kb := fun W => print_bytes (P := Try.prog) 9 25 5 Try.underlying9 Try.underlying25 Try.underlying5 s W
    go_enter Try.func13, Try.ntmps13
    go_wp2_with (first | (go_at_call 31; go_must (refine (wr_new _).mono ?_); go_must (rintro e w1 ⟨rfl, hW1, rfl⟩); go_must (clear hW1); go_must (rw [hW2.out])) | (go_at_call 41; go_must (have hc0 := Aside0.mk (chg_bytesWorld W2 s 5)); go_must (have hW0 := Aside0.mk (hWn.out.chg hc0.out (fun _ _ _ h => h))); go_must (have hbox0 := Aside0.mk (hc0.out.blk hbox.out (fun h => h))); go_must (refine (wr_raw _ _ _ [] _ _ _ (bytesOf s) hW0.out (C_bytesWorld W2 s 5 hs2.out) (by have := hsA.out; simp; omega)).mono ?_); go_must (rintro e w1 ⟨rfl, hW1, hc1⟩); go_must (have hbox1 := Aside0.mk (hc1.blk hbox0.out (by omega))); go_must (obtain ⟨p0, p1, p2, p3⟩ := Put.cells hbox1.out); go_must (replace hW1 := Aside0.mk hW1); go_must (replace hc1 := Aside0.mk hc1)) | (go_at_call 42; go_must (refine (law_put _ _ _ ([] ++ bytesOf s) on 5 x s hW1.out hx0 hx1A.out hs2.out (by have := hsA.out; simp [bytesOf_length]; omega) (fun h => absurd h (by decide))).mono ?_); go_must (rintro e w2 ⟨rfl, hW3, hc2⟩); go_must (replace hW3 := Aside0.mk hW3); go_must (replace hc2 := Aside0.mk hc2)) | (go_at_call 39; go_must (refine (wr_done _ _ _ _ hW3.out (by have := hsA.out; simp [bytesOf_length, putL]; omega)).mono ?_); go_must (rintro e w3 ⟨v3, rfl, hr3, hc3⟩); go_must (obtain ⟨A3, n3, cap3, rfl⟩ := R_sl hr3); go_must (replace hr3 := Aside0.mk hr3); go_must (replace hc3 := Aside0.mk hc3)))
    go_ret2
    refine ⟨_, rfl, ?_, ?_⟩
    · have e : wrL 5 x s = [] ++ bytesOf s ++ putL 5 x s := by simp [wrL, putL]
      rw [e]
      exact Kd.R_mono hr3.out (fun k hk => hk.imp id (fun h => ⟨by have := hchA.out.size; have := hc0.out.size; have := hc1.out.size; have := hc2.out.size; omega, h.2⟩))
    · exact (((hchA.out.trans hc0.out (fun _ _ h => h.elim)).trans hc1.out (fun k hk h => by omega)).trans hc2.out (fun k hk h => by rcases h with h | h <;> (have := hchA.out.size; have := hc0.out.size; omega))).trans hc3.out (fun _ _ h => h.elim)
  · have h51 : (kind == 5) = false := by simpa using h5
    go_enter Try.func13, Try.ntmps13
    go_wp2_with (first | (go_at_call 31; go_must (refine (wr_new _).mono ?_); go_must (rintro e w1 ⟨rfl, hW1, rfl⟩); go_must (clear hW1); go_must (rw [hW2.out])) | (go_at_call 42; go_must (refine (law_put _ _ _ [] on kind x s hWn.out hx0 hx1A.out hs2.out (by simp) (fun _ => by have := hsA.out; simp; omega)).mono ?_); go_must (rintro e w2 ⟨rfl, hW3, hc2⟩); go_must (replace hW3 := Aside0.mk hW3); go_must (replace hc2 := Aside0.mk hc2)) | (go_at_call 39; go_must (refine (wr_done _ _ _ _ hW3.out (by have := hsA.out; have := putL_length kind x s; simp; omega)).mono ?_); go_must (rintro e w3 ⟨v3, rfl, hr3, hc3⟩); go_must (obtain ⟨A3, n3, cap3, rfl⟩ := R_sl hr3); go_must (replace hr3 := Aside0.mk hr3); go_must (replace hc3 := Aside0.mk hc3)))
    go_ret2
    refine ⟨_, rfl, ?_, ?_⟩
    · have e : wrL kind x s = [] ++ putL kind x s := by simp [wrL, h5]
      rw [e]
      exact Kd.R_mono hr3.out (fun k hk => hk.imp id (fun h => ⟨by have := hchA.out.size; have := hc2.out.size; omega, h.2⟩))
    · exact ((hchA.out.trans hc2.out (fun k hk h => by omega))).trans hc3.out (fun _ _ h => h.elim)

end Go.Proofs.Ytbheebcjbolboaa.K

namespace Go.Proofs.Ytbheebcjbolboaa.K
open Go.RowKit Go.Proofs.YtbheebcjbolboaaW.PrintWords Go.Proofs.YtbheebcjbolboaaW.PrintLast Go.Proofs.YtbheebcjbolboaaW.PrintMore
set_option linter.unusedVariables false
set_option linter.unusedSimpArgs false
set_option maxRecDepth 100000

theorem be_getD (x : Int) : ∀ (n k : Nat), k < n → (be x n).getD k 0 = x / 2 ^ (8 * (n - 1 - k)) % 256
  | 0, k, h => by omega
  | n + 1, 0, _ => by simp [be]
  | n + 1, k + 1, h => by
    have := be_getD x n k (by omega)
    simp only [be, List.getD_cons_succ, this]
    congr 3
    omega
theorem pow_step (m : Nat) : (2 : Int) ^ (8 * (m + 1)) = 2 ^ (8 * m) * 256 := by rw [show 8 * (m + 1) = 8 * m + 8 from by omega, Int.pow_add]; rfl
/-- The first byte that parts two words tells which is less. -/
theorem word_order (x y : Int) (k : Nat) (hk : k < 8) (hE : x / 2 ^ (8 * (8 - k)) = y / 2 ^ (8 * (8 - k))) :
    ((be x 8).getD k 0 = (be y 8).getD k 0 → x / 2 ^ (8 * (8 - (k + 1))) = y / 2 ^ (8 * (8 - (k + 1)))) ∧
    ((be x 8).getD k 0 ≠ (be y 8).getD k 0 → ((be x 8).getD k 0 < (be y 8).getD k 0 ↔ x < y) ∧ x ≠ y) := by
  rw [be_getD x 8 k hk, be_getD y 8 k hk]
  have e1 : 8 - 1 - k = 7 - k := by omega
  have e2 : 8 - (k + 1) = 7 - k := by omega
  have e3 : 8 - k = (7 - k) + 1 := by omega
  rw [e3, pow_step, ← Int.ediv_ediv_of_nonneg (Int.le_of_lt (Int.pow_pos (by decide))), ← Int.ediv_ediv_of_nonneg (Int.le_of_lt (Int.pow_pos (by decide)))] at hE
  rw [e1, e2]
  have hp : (0 : Int) < 2 ^ (8 * (7 - k)) := Int.pow_pos (by decide)
  generalize (2 : Int) ^ (8 * (7 - k)) = P at *
  have hx : x / P < y / P → x < y := fun h => by
    rcases Int.lt_or_le x y with h1 | h1
    · exact h1
    · have := Int.ediv_le_ediv hp h1; omega
  have hy : y / P < x / P → y < x := fun h => by
    rcases Int.lt_or_le y x with h1 | h1
    · exact h1
    · have := Int.ediv_le_ediv hp h1; omega
  generalize x / P = X at *
  generalize y / P = Y at *
  refine ⟨fun h => by omega, fun h => ⟨⟨fun h1 => hx (by omega), fun h1 => ?_⟩, fun h1 => ?_⟩⟩
  · rcases Int.lt_or_le X Y with h2 | h2
    · omega
    · have := hy (by omega); omega
  · rcases Int.lt_or_le X Y with h2 | h2
    · have := hx h2; omega
    · have := hy (by omega); omega
theorem law_order (w : World) (x y : Int) (hx0 : 0 ≤ x) (hx1 : x ≤ 18446744073709551615) (hy0 : 0 ≤ y) (hy1 : y ≤ 18446744073709551615) :
    Calls Try.prog 4 #[.int .u64 x, .int .u64 y] w fun e w' => e = .returned (.bool true) ∧ Below w.heap.size w w' := by
  have hx1A := Aside0.mk hx1
  have hy1A := Aside0.mk hy1
  clear hx1 hy1
  go_enter Try.func4, Try.ntmps4
  go_wp2_with fail
  (refine (law_written _ 0 3 x ⟨#[]⟩ hx0 hx1A.out (by decide)).mono ?_)
  (rintro e w1 ⟨v1, rfl, hr1, hc1⟩)
  (obtain ⟨A1, n1, cap1, rfl⟩ := R_sl hr1)
  (replace hr1 := Aside0.mk hr1)
  (replace hc1 := Aside0.mk hc1)
  go_wp2_with fail
  (refine (law_written _ 0 3 y ⟨#[]⟩ hy0 hy1A.out (by decide)).mono ?_)
  (rintro e w2 ⟨v2, rfl, hr2, hc2⟩)
  (obtain ⟨A2, n2, cap2, rfl⟩ := R_sl hr2)
  (replace hr2 := Aside0.mk hr2)
  (replace hc2 := Aside0.mk hc2)
  have hr12 := Aside0.mk (R_chg hr1.out hc2.out (fun _ _ _ h => h))
  obtain ⟨q1, _, qC1⟩ := Kd.R_reads' hr12.out
  obtain ⟨q2, _, qC2⟩ := Kd.R_reads' hr2.out
  have q1' : n1 = 8 := by rw [q1]; simp [wrL, putL, be_length]
  have q2' : n2 = 8 := by rw [q2]; simp [wrL, putL, be_length]
  have r1 : Aside0 (Kd.C (Kd.int .u8) w2 A1 8 (be x 8)) := ⟨by have := qC1; rw [← q1, q1'] at this; simpa [wrL, putL] using this⟩
  have r2 : Aside0 (Kd.C (Kd.int .u8) w2 A2 8 (be y 8)) := ⟨by have := qC2; rw [← q2, q2'] at this; simpa [wrL, putL] using this⟩
  clear q1 q2 qC1 qC2 hr1 hr2 hr12
  subst q1' q2'
  have hbel := Aside0.mk ((hc1.out.trans hc2.out (fun _ _ h => h)).below (fun _ _ h => h))
  go_wp2
  go_loopw [9] (fun i wr => ∃ k : Nat, i = .int .i64 k ∧ k ≤ 8 ∧ Aside0 (x / 2 ^ (8 * (8 - k)) = y / 2 ^ (8 * (8 - k))) ∧ Drawn0 w2 wr) (fun i _ => 8 - (intOf i).toNat)
  case atStart => exact ⟨0, rfl, by omega, ⟨by have := hx1A.out; have := hy1A.out; show x / 18446744073709551616 = y / 18446744073709551616; omega⟩, Drawn0.refl _⟩
  case round =>
    obtain ⟨k, rfl, hk, hE, ⟨nd, rfl⟩⟩ := hrel
    by_cases hlt : k < 8
    · obtain ⟨a1, e1, x1⟩ := byte_at r1.out k hlt
      obtain ⟨a2, e2, x2⟩ := byte_at r2.out k hlt
      have hk0 : (0 : Int) ≤ k := by omega
      have hk1 : (k : Int) < 8 := by omega
      subst e1 e2
      have hwo := Aside0.mk (word_order x y k hlt hE.out)
      generalize (be x 8).getD k 0 = y1 at x1 hwo
      generalize (be y 8).getD k 0 = y2 at x2 hwo
      by_cases hy : y1 = y2
      · have hy1 : (y1 != y2) = false := by simpa using hy
        replace hy := Aside0.mk hy
        go_wp2
        go_quiet (fail)
        go_wp2
        go_roundw
        case measure => simp [intOf]; omega
        case rel => exact ⟨k + 1, by go_num, by omega, ⟨hwo.out.1 hy.out⟩, by first | exact ⟨⟨_, rfl⟩⟩ | exact Drawn0.step ⟨⟨_, rfl⟩⟩ _⟩
      · have hy1 : (y1 != y2) = true := by simpa using hy
        have hxy : (x != y) = true := by simpa using (hwo.out.2 hy).2
        have hiff := (hwo.out.2 hy).1
        replace hy := Aside0.mk hy
        by_cases hc : x < y
        · have d1 : decide (x < y) = true := by simpa using hc
          have d2 : decide (y1 < y2) = true := by simpa using hiff.2 hc
          clear hiff hc
          go_wp2
          go_quiet (fail)
          go_wp2
          go_quiet (fail)
          go_wp2
          go_ret
          exact ⟨by simp, by repeat (first | exact hbel.out | apply pw_below_drewN)⟩
        · have d1 : decide (x < y) = false := by simpa using hc
          have d2 : decide (y1 < y2) = false := by simpa using fun h => hc (hiff.1 h)
          clear hiff hc
          go_wp2
          go_quiet (fail)
          go_wp2
          go_quiet (fail)
          go_wp2
          go_ret
          exact ⟨by simp, by repeat (first | exact hbel.out | apply pw_below_drewN)⟩
    · have hxy : x = y := by
        have := hE.out
        rw [show 8 - k = 0 from by omega] at this
        simpa using this
      subst hxy
      go_wp2
      go_ret
      exact ⟨by simp, by repeat (first | exact hbel.out | apply pw_below_drewN)⟩

end Go.Proofs.Ytbheebcjbolboaa.K

namespace Go.Proofs.Ytbheebcjbolboaa.K
open Go.RowKit Go.Proofs.YtbheebcjbolboaaW.PrintWords Go.Proofs.YtbheebcjbolboaaW.PrintLast Go.Proofs.YtbheebcjbolboaaW.PrintMore
set_option linter.unusedVariables false
set_option linter.unusedSimpArgs false
set_option maxRecDepth 100000

/-- Where a reader of a number's form stands behind k digits. -/
structure FormAt (x : Int) (k : Nat) (y : Int) : Prop where
  lo : 0 ≤ y
  hi : y ≤ 18446744073709551615
  few : y < 128 ^ (10 - k)
  k10 : k < 10
  rest : (digs x 10).drop k = digs y (10 - k)
  top : 0 < k → 1 ≤ y
theorem FormAt.start {x : Int} (h0 : 0 ≤ x) (h1 : x ≤ 18446744073709551615) : FormAt x 0 x := ⟨h0, h1, by show x < 1180591620717411303424; omega, by omega, rfl, fun h => absurd h (by omega)⟩
theorem FormAt.step {x : Int} {k : Nat} {y : Int} (h : FormAt x k y) :
    k < (digs x 10).length ∧ ((y < 128 ∧ (digs x 10).getD k 0 = y ∧ (digs x 10).length = k + 1) ∨ (128 ≤ y ∧ (digs x 10).getD k 0 = y % 128 + 128 ∧ k + 1 < (digs x 10).length ∧ FormAt x (k + 1) (y / 128))) := by
  obtain ⟨h0, h1, h2, h3, h4, h5⟩ := h
  obtain ⟨m, hm⟩ : ∃ m, 10 - k = m + 1 := ⟨9 - k, by omega⟩
  rw [hm] at h2 h4
  have hlen : (digs x 10).length - k = (digs y (m + 1)).length := by rw [← h4, List.length_drop]
  have hget : (digs x 10).getD k 0 = (digs y (m + 1)).getD 0 0 := by rw [← h4]; simp [List.getD_eq_getElem?_getD]
  rw [digs.eq_2 y] at hlen hget h4
  split at hlen
  · rename_i hy
    rw [if_pos hy] at hget
    simp at hlen hget
    exact ⟨by omega, .inl ⟨hy, by simpa using hget, by omega⟩⟩
  · rename_i hy
    rw [if_neg hy] at hget h4
    simp at hlen hget
    have hd : (digs x 10).drop (k + 1) = digs (y / 128) m := by rw [← List.drop_drop, h4]; rfl
    cases m with
    | zero => exact absurd h2 (by show ¬ y < 128; omega)
    | succ m =>
      have hk1 : k + 1 < (digs x 10).length := by
        have : (digs (y / 128) (m + 1)).length ≠ 0 := by rw [digs.eq_2]; split <;> simp
        omega
      refine ⟨by omega, .inr ⟨by omega, by simpa using hget, hk1, ⟨by omega, by omega, ?_, by omega, by rw [hd]; (have e : 10 - (k + 1) = m + 1 := by omega); rw [e], fun _ => by omega⟩⟩⟩
      rw [show 10 - (k + 1) = m + 1 from by omega]
      rw [Int.pow_succ] at h2
      generalize (128 : Int) ^ (m + 1) = P at *
      omega
theorem uint_len (w : World) (x : Int) (hx0 : 0 ≤ x) (hx1 : x ≤ 18446744073709551615) :
    Calls Try.prog 11 #[.int .u64 x] w fun e w' => e = .returned (.int .i64 (digs x 10).length) ∧ Chg (fun _ => False) w w' := by
  have hx1A := Aside0.mk hx1
  clear hx1
  go_enter Try.func11, Try.ntmps11
  go_wp2_with (go_at_call 40; go_must (refine (digits64 _ (fun _ => False) _ [] _ (Kd.R_nil _ _ _ _ _) (by omega) hx1A.out (by simp)).mono ?_); go_must (rintro e w1 ⟨v1, rfl, hr1, hc1⟩); go_must (obtain ⟨A1, n1, cap1, rfl⟩ := R_sl hr1); go_must (replace hr1 := Aside0.mk hr1); go_must (replace hc1 := Aside0.mk hc1))
  go_ret
  obtain ⟨q1, _, _⟩ := Kd.R_reads' hr1.out
  exact ⟨by rw [q1]; simp, hc1.out⟩
theorem law_forms (w : World) (x : Int) (hx0 : 0 ≤ x) (hx1 : x ≤ 18446744073709551615) :
    Calls Try.prog 5 #[.int .u64 x] w fun e w' => e = .returned (.bool true) ∧ Below w.heap.size w w' := by
  have hx1A := Aside0.mk hx1
  have hst := Aside0.mk (FormAt.start hx0 hx1)
  clear hx1
  go_enter Try.func5, Try.ntmps5
  go_wp2_with fail
  (refine (law_written _ 0 1 x ⟨#[]⟩ hx0 hx1A.out (by decide)).mono ?_)
  (rintro e w1 ⟨v1, rfl, hr1, hc1⟩)
  (obtain ⟨A1, n1, cap1, rfl⟩ := R_sl hr1)
  (replace hr1 := Aside0.mk hr1)
  (replace hc1 := Aside0.mk hc1)
  obtain ⟨q1, _, qC1⟩ := Kd.R_reads' hr1.out
  have q1' : (digs x 10).length = n1 := by rw [q1]; simp [wrL, putL]
  have r1 : Aside0 (Kd.C (Kd.int .u8) w1 A1 n1 (digs x 10)) := ⟨by have := qC1; rw [← q1] at this; simpa [wrL, putL] using this⟩
  have hn10 := digs_length 10 x
  have hn1 := (hst.out.step).1
  rw [q1'] at hn10 hn1
  have g1 : decide ((n1 : Int) < 1) = false := by simp; omega
  have g2 : decide ((n1 : Int) > 10) = false := by simp; omega
  clear q1 qC1 hr1 hn1
  replace q1' := Aside0.mk q1'
  go_wp2
  go_loopw [5, 6, 7, 8] (fun r i la di wr => ∃ (k : Nat) (y : Int), i = .int .i64 k ∧ r = .int .u64 y ∧ Aside0 ((k < n1 ∧ FormAt x k y) ∨ (k = n1 ∧ y = 0)) ∧ Drawn0 w1 wr) (fun _ i _ _ _ => n1 - (intOf i).toNat)
  case atStart => exact ⟨0, x, rfl, rfl, ⟨.inl ⟨by have := hst.out.step.1; rw [q1'.out] at this; exact this, hst.out⟩⟩, Drawn0.refl _⟩
  case round =>
    obtain ⟨k, y, rfl, rfl, hE, ⟨nd, rfl⟩⟩ := hrel
    rcases hE.out with ⟨hlt, hF⟩ | ⟨rfl, rfl⟩
    · clear hE
      obtain ⟨a1, e1, x1⟩ := byte_at r1.out k hlt
      have hs := (hF.step).2
      have hk0 : (0 : Int) ≤ k := by omega
      have hk1 : (k : Int) < n1 := by omega
      have hy0 := hF.lo
      have hyA := Aside0.mk hF.hi
      have htop := Aside0.mk hF.top
      subst e1
      generalize (digs x 10).getD k 0 = b at x1 hs
      rcases hs with ⟨h1, rfl, h3⟩ | ⟨h1, rfl, h3, h4⟩
      · obtain rfl : n1 = k + 1 := by have := q1'.out; omega
        have d1 : decide (b < 128) = true := by simpa using h1
        have d2 : (b % 128 != b % 128) = false := by simp
        clear h3 hF
        rcases Nat.eq_zero_or_pos k with rfl | hk
        · have x2 : w1.cell? a1 = some (.int .u8 b) := x1
          go_wp2
          go_roundw
          case measure => first | (simp [intOf]; done) | (simp [intOf]; omega)
          case rel => exact ⟨1, b / 128, by go_num, rfl, ⟨.inr ⟨by omega, by omega⟩⟩, ⟨_, rfl⟩⟩
        · have d3 : decide ((k : Int) > 0) = true := by simp; omega
          have d4 : (b % 128 == 0) = false := by have := htop.out hk; simp; omega
          go_wp2
          go_roundw
          case measure => first | (simp [intOf]; done) | (simp [intOf]; omega)
          case rel => exact ⟨k + 1, b / 128, by go_num, rfl, ⟨.inr ⟨by omega, by omega⟩⟩, ⟨_, rfl⟩⟩
      · have h5 : ((k : Int) == (n1 : Int) - 1) = false := by have := q1'.out; simp; omega
        have d1 : decide (y % 128 + 128 < 128) = false := by simp; omega
        have d2 : ((y % 128 + 128) % 128 != y % 128) = false := by simp
        have d0 : y % 128 + 128 ≤ 255 := by omega
        have hy1 := hyA.out
        replace h4 := Aside0.mk h4
        go_wp2
        go_roundw
        case measure => first | (simp [intOf]; done) | (simp [intOf]; omega)
        case rel => exact ⟨k + 1, y / 128, by go_num, rfl, ⟨.inl ⟨by have := q1'.out; omega, h4.out⟩⟩, ⟨_, rfl⟩⟩
    · clear hE
      obtain ⟨n, hn⟩ : ∃ n, wrap64 x = n := ⟨_, rfl⟩
      have hn0 : -9223372036854775808 ≤ n := by rw [← hn]; unfold wrap64; omega
      have hn1 : n ≤ 9223372036854775807 := by rw [← hn]; unfold wrap64; omega
      by_cases hneg : n < 0
      · go_wp2_with fail
        (refine (law_written _ 0 2 x ⟨#[]⟩ hx0 hx1A.out (by decide)).mono ?_)
        (rintro e w2 ⟨v2, rfl, hr2, hc2⟩)
        (obtain ⟨A2, n2, cap2, rfl⟩ := R_sl hr2)
        (replace hr2 := Aside0.mk hr2)
        (replace hc2 := Aside0.mk hc2)
        go_wp2_with fail
        (refine (law_written _ 0 1 _ ⟨#[]⟩ (by omega) (by omega) (by decide)).mono ?_)
        (rintro e w3 ⟨v3, rfl, hr3, hc3⟩)
        (obtain ⟨A3, n3, cap3, rfl⟩ := R_sl hr3)
        (replace hr3 := Aside0.mk hr3)
        (replace hc3 := Aside0.mk hc3)
        have hr23 := Aside0.mk (R_chg hr2.out hc3.out (fun _ _ _ h => h))
        obtain ⟨p2, _, pC2⟩ := Kd.R_reads' hr23.out
        obtain ⟨p3, _, pC3⟩ := Kd.R_reads' hr3.out
        have hw2 : wrL 2 x ⟨#[]⟩ = digs (fold n) 10 := by simp [wrL, putL, hn]
        have hw3 : ∀ f, f = fold n → wrL 1 f ⟨#[]⟩ = digs (fold n) 10 := fun f h => by subst h; simp [wrL, putL]
        rw [← p2, hw2] at pC2
        rw [← p3, hw3 _ (by unfold fold; split <;> omega)] at pC3
        clear p2 p3 hr2 hr3 hr23 hw2 hw3
        replace pC2 := Aside0.mk pC2
        replace pC3 := Aside0.mk pC3
        go_wp2_with (first | (go_at_call 11; go_must (refine (uint_len _ x hx0 hx1A.out).mono ?_); go_must (rintro e w4 ⟨rfl, hc4⟩); go_must (replace hc4 := Aside0.mk hc4); go_must (rw [q1'.out])) | (go_at_call 14; go_must (refine (same_bytes _ _ _ _ _ _ _ _ _ (C_chg pC2.out (hc4.out.below (fun _ _ h => h))) (C_chg pC3.out (hc4.out.below (fun _ _ h => h)))).mono ?_); go_must (rintro e w5 ⟨rfl, hd5⟩)))
        go_ret
        exact ⟨by simp, by have h := ((((hc1.out.drewN nd).trans hc2.out (fun _ _ h => h)).trans hc3.out (fun _ _ h => h)).trans hc4.out (fun _ _ h => h)).below (fun _ _ h => h); obtain ⟨nd5, rfl⟩ := hd5; repeat (first | exact h | apply pw_below_drewN)⟩
      · go_wp2_with fail
        (refine (law_written _ 0 2 x ⟨#[]⟩ hx0 hx1A.out (by decide)).mono ?_)
        (rintro e w2 ⟨v2, rfl, hr2, hc2⟩)
        (obtain ⟨A2, n2, cap2, rfl⟩ := R_sl hr2)
        (replace hr2 := Aside0.mk hr2)
        (replace hc2 := Aside0.mk hc2)
        go_wp2_with fail
        (refine (law_written _ 0 1 _ ⟨#[]⟩ (by omega) (by omega) (by decide)).mono ?_)
        (rintro e w3 ⟨v3, rfl, hr3, hc3⟩)
        (obtain ⟨A3, n3, cap3, rfl⟩ := R_sl hr3)
        (replace hr3 := Aside0.mk hr3)
        (replace hc3 := Aside0.mk hc3)
        have hr23 := Aside0.mk (R_chg hr2.out hc3.out (fun _ _ _ h => h))
        obtain ⟨p2, _, pC2⟩ := Kd.R_reads' hr23.out
        obtain ⟨p3, _, pC3⟩ := Kd.R_reads' hr3.out
        have hw2 : wrL 2 x ⟨#[]⟩ = digs (fold n) 10 := by simp [wrL, putL, hn]
        have hw3 : ∀ f, f = fold n → wrL 1 f ⟨#[]⟩ = digs (fold n) 10 := fun f h => by subst h; simp [wrL, putL]
        rw [← p2, hw2] at pC2
        rw [← p3, hw3 _ (by unfold fold; split <;> omega)] at pC3
        clear p2 p3 hr2 hr3 hr23 hw2 hw3
        replace pC2 := Aside0.mk pC2
        replace pC3 := Aside0.mk pC3
        go_wp2_with (first | (go_at_call 11; go_must (refine (uint_len _ x hx0 hx1A.out).mono ?_); go_must (rintro e w4 ⟨rfl, hc4⟩); go_must (replace hc4 := Aside0.mk hc4); go_must (rw [q1'.out])) | (go_at_call 14; go_must (refine (same_bytes _ _ _ _ _ _ _ _ _ (C_chg pC2.out (hc4.out.below (fun _ _ h => h))) (C_chg pC3.out (hc4.out.below (fun _ _ h => h)))).mono ?_); go_must (rintro e w5 ⟨rfl, hd5⟩)))
        go_ret
        exact ⟨by simp, by have h := ((((hc1.out.drewN nd).trans hc2.out (fun _ _ h => h)).trans hc3.out (fun _ _ h => h)).trans hc4.out (fun _ _ h => h)).below (fun _ _ h => h); obtain ⟨nd5, rfl⟩ := hd5; repeat (first | exact h | apply pw_below_drewN)⟩

end Go.Proofs.Ytbheebcjbolboaa.K

namespace Go.Proofs.Ytbheebcjbolboaa.K
open Go.RowKit Go.Proofs.YtbheebcjbolboaaW.PrintWords Go.Proofs.YtbheebcjbolboaaW.PrintLast Go.Proofs.YtbheebcjbolboaaW.PrintMore
set_option linter.unusedVariables false
set_option linter.unusedSimpArgs false
set_option maxRecDepth 100000

theorem putL_pos {kind x : Int} {s : ByteArray} (h0 : 0 ≤ kind) (h4 : kind ≤ 4) : 0 < (putL kind x s).length := by
  unfold putL
  repeat' split
  · simp [be_length]
  · exact digs_pos _ 9
  · exact digs_pos _ 9
  · simp [be_length]
  · rw [List.length_append]; have : 0 < (digs (s.size : Int) 10).length := digs_pos s.size 9; omega
  · omega
theorem digs_in (f : Nat) (y : Int) (h : 0 ≤ y) : ∀ c ∈ digs y f, 0 ≤ c ∧ c < 256 := digs_bytes f y h
theorem bytesOf_in (s : ByteArray) : ∀ c ∈ bytesOf s, 0 ≤ c ∧ c < 256 := by
  intro c hc
  obtain ⟨b, _, rfl⟩ := List.mem_map.1 hc
  have := UInt8.toNat_lt b
  omega
theorem putL_in {kind x : Int} {s : ByteArray} (hx0 : 0 ≤ x) : ∀ c ∈ putL kind x s, 0 ≤ c ∧ c < 256 := by
  have hw : -9223372036854775808 ≤ wrap64 x ∧ wrap64 x ≤ 9223372036854775807 := by unfold wrap64; omega
  unfold putL
  repeat' split
  · exact be_bytes _ _
  · exact digs_in _ _ hx0
  · exact digs_in _ _ (fold_range _ hw.1 hw.2).1
  · exact be_bytes _ _
  · intro c hc
    rcases List.mem_append.1 hc with h | h
    · exact digs_in _ _ (by omega) c h
    · exact bytesOf_in s c h
  · simp
theorem begins_0 {x : Int} {s : ByteArray} {m : Nat} (hm : m < (putL 0 x s).length) : rrun (pNext ((putL 0 x s).take m)) 0 0 0 = (0, 0, 2) := by
  have h : m = 0 := by simp [putL, be_length] at hm; omega
  subst h
  simp [rrun, pNext]
theorem begins_1 {x : Int} {s : ByteArray} {m : Nat} (h0 : 0 ≤ x) (h1 : x ≤ 18446744073709551615) (hm : m < (putL 1 x s).length) : rrun (pNum ((putL 1 x s).take m)) 0 0 0 = (0, 0, 2) := by
  have e : putL 1 x s = digs x 10 := by simp [putL]
  rw [e] at hm ⊢
  simp [rrun, pNum_cut h0 h1 (i := 0) (bs := (digs x 10).take m) rfl hm]
theorem begins_2 {x : Int} {s : ByteArray} {m : Nat} (hm : m < (putL 2 x s).length) : rrun (pNum ((putL 2 x s).take m)) 0 0 0 = (0, 0, 2) := by
  have hw : -9223372036854775808 ≤ wrap64 x ∧ wrap64 x ≤ 9223372036854775807 := by unfold wrap64; omega
  have hf := fold_range _ hw.1 hw.2
  have e : putL 2 x s = digs (fold (wrap64 x)) 10 := by simp [putL]
  rw [e] at hm ⊢
  simp [rrun, pNum_cut hf.1 hf.2 (i := 0) (bs := (digs (fold (wrap64 x)) 10).take m) rfl hm]
theorem begins_3 {x : Int} {s : ByteArray} {m : Nat} (hm : m < (putL 3 x s).length) : rrun (pWord ((putL 3 x s).take m)) 0 0 0 = (0, 0, 2) := by
  have e : putL 3 x s = be x 8 := by simp [putL]
  rw [e] at hm ⊢
  rw [be_length] at hm
  have : pWord ((be x 8).take m) 0 = .error 2 := by
    simp only [pWord, pTake]
    rw [if_neg (by simp [be_length]; omega)]
  simp [rrun, this]
theorem begins_4 {x : Int} {s : ByteArray} {m : Nat} (hs : s.size ≤ 140737488351232) (hm : m < (putL 4 x s).length) : rrun (pText ((putL 4 x s).take m) s.size) ([] : List Int) 0 0 = ([], 0, 2) := by
  have e : putL 4 x s = digs s.size 10 ++ bytesOf s := by simp [putL]
  rw [e] at hm ⊢
  have hp : pText ((digs s.size 10 ++ bytesOf s).take m) s.size 0 = .error 2 := by
    rcases Nat.lt_or_ge m (digs s.size 10).length with h | h
    · have : (digs s.size 10 ++ bytesOf s).take m = (digs s.size 10).take m := List.take_append_of_le_length (by omega)
      rw [this]
      simp [pText, pCount, pNum_cut (y := s.size) (by omega) (by omega) (i := 0) (bs := (digs s.size 10).take m) rfl h]
    · have h2 : (digs s.size 10 ++ bytesOf s).take m = digs s.size 10 ++ (bytesOf s).take (m - (digs s.size 10).length) := by
        rw [List.take_append, List.take_of_length_le h]
      rw [h2]
      have h3 := pNum_digs (y := s.size) (bs := digs s.size 10 ++ (bytesOf s).take (m - (digs s.size 10).length)) (i := 0) (by omega) (by omega) rfl
      simp only [pText, pCount, h3]
      rw [if_neg (by omega)]
      simp only [pTake]
      rw [List.length_append, bytesOf_length] at hm
      rw [if_neg (by simp [bytesOf_length]; omega)]
  simp [rrun, hp]
theorem strOfNums_nil : (strOfNums []).toList.isEmpty = true := by
  rw [show strOfNums [] = ⟨#[]⟩ from by rfl, ByteArray.toList, ByteArray.toList.loop]; rfl
theorem rem_range (n m : Int) (hm : 0 < m) : -m < n.tmod m ∧ n.tmod m < m := by
  rcases Int.le_total 0 n with h | h
  · rw [Int.tmod_eq_emod_of_nonneg h]
    have := Int.emod_nonneg n (show m ≠ 0 by omega)
    have := Int.emod_lt_of_pos n hm
    omega
  · obtain ⟨k, rfl⟩ : ∃ k, n = -k := ⟨-n, by omega⟩
    rw [Int.neg_tmod, Int.tmod_eq_emod_of_nonneg (by omega)]
    have := Int.emod_nonneg k (show m ≠ 0 by omega)
    have := Int.emod_lt_of_pos k hm
    omega

set_option maxHeartbeats 4000000 in
theorem law_begins (w : World) (on kind x n : Int) (s : ByteArray) (hx0 : 0 ≤ x) (hx1 : x ≤ 18446744073709551615) (hs : s.size ≤ 140737488351232) (hn0 : -9223372036854775808 ≤ n) (hn1 : n ≤ 9223372036854775807) :
    Calls Try.prog 10 #[.agg #[.int .i64 on, .int .i64 kind, .int .u64 x, .string s], .int .i64 n] w fun e w' => e = .returned (.bool true) ∧ Below w.heap.size w w' := by
  have hx1A := Aside0.mk hx1
  have hsA := Aside0.mk hs
  clear hx1 hs
  have hch0 := Aside0.mk ((Chg.refl (fun _ => False) w).alloc (.cells #[.int .i64 on, .int .i64 kind, .int .u64 x, .string s] 29))
  have hbox0 := heap_alloc_new w (.cells #[.int .i64 on, .int .i64 kind, .int .u64 x, .string s] 29)
  by_cases h0 : kind = 0
  · subst h0
    have hbox := Aside0.mk hbox0
    go_enter Try.func10, Try.ntmps10
    go_wp2_with fail
    refine (law_written _ on 0 x s hx0 hx1A.out hsA.out).mono ?_
    rintro e w1 ⟨v1, rfl, hr1, hc1⟩
    obtain ⟨A1, n1, cap1, rfl⟩ := R_sl hr1
    have hbox1 := Aside0.mk (hc1.blk hbox.out (fun h => h))
    obtain ⟨p0, p1, p2, p3⟩ := Put.cells hbox1.out
    obtain ⟨q1, qcap, qC1⟩ := Kd.R_reads' hr1
    have hLw : wrL 0 x s = putL 0 x s := by simp [wrL]
    rw [hLw] at q1 qC1
    have hpos := putL_pos (x := x) (s := s) (show (0 : Int) ≤ 0 by decide) (by decide)
    have hl18 := putL_length 0 x s
    have hLin := Aside0.mk (putL_in (kind := 0) (s := s) hx0)
    obtain ⟨L, hL⟩ : ∃ L, putL 0 x s = L := ⟨_, rfl⟩
    rw [hL] at q1 qC1 hpos hl18 hLin
    subst q1
    replace hL := Aside0.mk hL
    have g1 : decide ((L.length : Int) < 1) = false := by simp; omega
    have g2 : ((L.length : Int) == 0) = false := beq_eq_false_iff_ne.2 (by omega)
    obtain ⟨c, hc⟩ : ∃ c, n.tmod (L.length : Int) = c := ⟨_, rfl⟩
    have hcr := rem_range n L.length (by omega)
    rw [hc] at hcr
    obtain ⟨i8, hi8, hz8, hs8, hy8⟩ := info_parts infoU8
    have hcap := Aside0.mk qcap
    have hlr : (L.length : Int) ≤ 9223372036854775807 := by have := hsA.out; omega
    replace hr1 := Aside0.mk hr1
    replace hc1 := Aside0.mk hc1
    have hl18A := Aside0.mk hl18
    replace hl18 := hl18A
    clear hl18A
    obtain ⟨hcr1, hcr2⟩ := hcr
    by_cases hneg : c < 0
    · have hcr : c ≤ 9223372036854775807 := by omega
      have hcl : c < 0 := hneg
      obtain ⟨m, hmc⟩ : ∃ m : Nat, -c = (m : Int) := ⟨(-c).toNat, by omega⟩
      have hml : m < L.length := by omega
      have hrun := cut_to (P := Try.prog) 25 5 .i64 Try.underlying25 hi8 A1 L.length cap1 (-c) (by omega) (by omega) hcap.out
      rw [show (-c : Int).toNat = m from by omega] at hrun
      have hm : Aside0 (m < (putL 0 x s).length) := ⟨by rw [hL.out]; exact hml⟩
      have hbeg := Aside0.mk (begins_0 hm.out)
      rw [hL.out] at hbeg
      have hlt := (show (L.take m).length = m from by simp; omega)
      have hCm : Aside0 (Kd.C (Kd.int .u8) w1 A1 m (L.take m)) := ⟨by have := Kd.C_take qC1 (m := m) (by omega); rwa [hlt] at this⟩
      have hltA := Aside0.mk hlt
      clear hml hlt
      go_wp2_with (first | (go_at_call 22; go_must (refine (rd_new w1 A1 m cap1 (L.take m) hCm.out (by have := hl18.out; have := hsA.out; have := hm.out; rw [hL.out] at this; omega) (fun c hc => hLin.out c (List.mem_of_mem_take hc))).mono ?_); go_must (rintro e w2 ⟨g, rfl, hgs, hR2, hc2⟩); go_must (obtain ⟨r0, r1, r2, r3⟩ := Put.cells (hc2.blk hbox1.out (fun h => h))); go_must (replace hR2 := Aside0.mk hR2); go_must (replace hc2 := Aside0.mk hc2); go_must (replace hgs := Aside0.mk hgs)) | (go_at_call 28; go_must (refine (rd_Byte w2 _ g 0 (L.take m) 0 hR2.out).mono ?_); go_must (rintro e w3 ⟨rfl, hR3, hc3⟩); go_must (rw [hbeg.out] at hR3 ⊢); go_must (replace hR3 := Aside0.mk hR3); go_must (replace hc3 := Aside0.mk hc3)) | (go_at_call 25; go_must (refine (rd_Left _ _ g 0 (L.take m) 2 hR3.out).mono ?_); go_must (rintro e w4 ⟨rfl, nd4, rfl⟩); go_must (rw [hltA.out])) | (go_at_call 24; go_must (refine (rd_Err _ _ g 0 (L.take m) 2 (hR3.out.chg ((Chg.refl (fun _ => False) w3).drewN _) (fun _ _ _ h => h))).mono ?_); go_must (rintro e w5 ⟨rfl, rfl⟩)) | (go_at_call 26; go_must (refine (rd_End _ _ g 0 (L.take m) 2 (hR3.out.chg ((Chg.refl (fun _ => False) w3).drewN _) (fun _ _ _ h => h))).mono ?_); go_must (rintro e w6 ⟨rfl, nd6, rfl⟩)))
      go_ret
      exact ⟨by simp [rEnd], by have hz := hch0.out.size; have hy := hc1.out.size; have hx := hgs.out; have h := (((hch0.out.trans hc1.out (fun _ _ h => h)).trans hc2.out (fun _ _ h => h)).trans hc3.out (fun k hk e => by omega)).below (fun _ _ h => h); repeat (first | exact h | apply pw_below_drewN)⟩
    · have hcr : c ≤ 9223372036854775807 := by omega
      have hcl : 0 ≤ c := by omega
      obtain ⟨m, hmc⟩ : ∃ m : Nat, c = (m : Int) := ⟨(c).toNat, by omega⟩
      have hml : m < L.length := by omega
      have hrun := cut_to (P := Try.prog) 25 5 .i64 Try.underlying25 hi8 A1 L.length cap1 (c) (by omega) (by omega) hcap.out
      rw [show (c : Int).toNat = m from by omega] at hrun
      have hm : Aside0 (m < (putL 0 x s).length) := ⟨by rw [hL.out]; exact hml⟩
      have hbeg := Aside0.mk (begins_0 hm.out)
      rw [hL.out] at hbeg
      have hlt := (show (L.take m).length = m from by simp; omega)
      have hCm : Aside0 (Kd.C (Kd.int .u8) w1 A1 m (L.take m)) := ⟨by have := Kd.C_take qC1 (m := m) (by omega); rwa [hlt] at this⟩
      have hltA := Aside0.mk hlt
      clear hml hlt
      go_wp2_with (first | (go_at_call 22; go_must (refine (rd_new w1 A1 m cap1 (L.take m) hCm.out (by have := hl18.out; have := hsA.out; have := hm.out; rw [hL.out] at this; omega) (fun c hc => hLin.out c (List.mem_of_mem_take hc))).mono ?_); go_must (rintro e w2 ⟨g, rfl, hgs, hR2, hc2⟩); go_must (obtain ⟨r0, r1, r2, r3⟩ := Put.cells (hc2.blk hbox1.out (fun h => h))); go_must (replace hR2 := Aside0.mk hR2); go_must (replace hc2 := Aside0.mk hc2); go_must (replace hgs := Aside0.mk hgs)) | (go_at_call 28; go_must (refine (rd_Byte w2 _ g 0 (L.take m) 0 hR2.out).mono ?_); go_must (rintro e w3 ⟨rfl, hR3, hc3⟩); go_must (rw [hbeg.out] at hR3 ⊢); go_must (replace hR3 := Aside0.mk hR3); go_must (replace hc3 := Aside0.mk hc3)) | (go_at_call 25; go_must (refine (rd_Left _ _ g 0 (L.take m) 2 hR3.out).mono ?_); go_must (rintro e w4 ⟨rfl, nd4, rfl⟩); go_must (rw [hltA.out])) | (go_at_call 24; go_must (refine (rd_Err _ _ g 0 (L.take m) 2 (hR3.out.chg ((Chg.refl (fun _ => False) w3).drewN _) (fun _ _ _ h => h))).mono ?_); go_must (rintro e w5 ⟨rfl, rfl⟩)) | (go_at_call 26; go_must (refine (rd_End _ _ g 0 (L.take m) 2 (hR3.out.chg ((Chg.refl (fun _ => False) w3).drewN _) (fun _ _ _ h => h))).mono ?_); go_must (rintro e w6 ⟨rfl, nd6, rfl⟩)))
      go_ret
      exact ⟨by simp [rEnd], by have hz := hch0.out.size; have hy := hc1.out.size; have hx := hgs.out; have h := (((hch0.out.trans hc1.out (fun _ _ h => h)).trans hc2.out (fun _ _ h => h)).trans hc3.out (fun k hk e => by omega)).below (fun _ _ h => h); repeat (first | exact h | apply pw_below_drewN)⟩
  by_cases h1 : kind = 1
  · subst h1
    have hbox := Aside0.mk hbox0
    go_enter Try.func10, Try.ntmps10
    go_wp2_with fail
    refine (law_written _ on 1 x s hx0 hx1A.out hsA.out).mono ?_
    rintro e w1 ⟨v1, rfl, hr1, hc1⟩
    obtain ⟨A1, n1, cap1, rfl⟩ := R_sl hr1
    have hbox1 := Aside0.mk (hc1.blk hbox.out (fun h => h))
    obtain ⟨p0, p1, p2, p3⟩ := Put.cells hbox1.out
    obtain ⟨q1, qcap, qC1⟩ := Kd.R_reads' hr1
    have hLw : wrL 1 x s = putL 1 x s := by simp [wrL]
    rw [hLw] at q1 qC1
    have hpos := putL_pos (x := x) (s := s) (show (0 : Int) ≤ 1 by decide) (by decide)
    have hl18 := putL_length 1 x s
    have hLin := Aside0.mk (putL_in (kind := 1) (s := s) hx0)
    obtain ⟨L, hL⟩ : ∃ L, putL 1 x s = L := ⟨_, rfl⟩
    rw [hL] at q1 qC1 hpos hl18 hLin
    subst q1
    replace hL := Aside0.mk hL
    have g1 : decide ((L.length : Int) < 1) = false := by simp; omega
    have g2 : ((L.length : Int) == 0) = false := beq_eq_false_iff_ne.2 (by omega)
    obtain ⟨c, hc⟩ : ∃ c, n.tmod (L.length : Int) = c := ⟨_, rfl⟩
    have hcr := rem_range n L.length (by omega)
    rw [hc] at hcr
    obtain ⟨i8, hi8, hz8, hs8, hy8⟩ := info_parts infoU8
    have hcap := Aside0.mk qcap
    have hlr : (L.length : Int) ≤ 9223372036854775807 := by have := hsA.out; omega
    replace hr1 := Aside0.mk hr1
    replace hc1 := Aside0.mk hc1
    have hl18A := Aside0.mk hl18
    replace hl18 := hl18A
    clear hl18A
    obtain ⟨hcr1, hcr2⟩ := hcr
    by_cases hneg : c < 0
    · have hcr : c ≤ 9223372036854775807 := by omega
      have hcl : c < 0 := hneg
      obtain ⟨m, hmc⟩ : ∃ m : Nat, -c = (m : Int) := ⟨(-c).toNat, by omega⟩
      have hml : m < L.length := by omega
      have hrun := cut_to (P := Try.prog) 25 5 .i64 Try.underlying25 hi8 A1 L.length cap1 (-c) (by omega) (by omega) hcap.out
      rw [show (-c : Int).toNat = m from by omega] at hrun
      have hm : Aside0 (m < (putL 1 x s).length) := ⟨by rw [hL.out]; exact hml⟩
      have hbeg := Aside0.mk (begins_1 hx0 hx1A.out hm.out)
      rw [hL.out] at hbeg
      have hlt := (show (L.take m).length = m from by simp; omega)
      have hCm : Aside0 (Kd.C (Kd.int .u8) w1 A1 m (L.take m)) := ⟨by have := Kd.C_take qC1 (m := m) (by omega); rwa [hlt] at this⟩
      have hltA := Aside0.mk hlt
      clear hml hlt
      go_wp2_with (first | (go_at_call 22; go_must (refine (rd_new w1 A1 m cap1 (L.take m) hCm.out (by have := hl18.out; have := hsA.out; have := hm.out; rw [hL.out] at this; omega) (fun c hc => hLin.out c (List.mem_of_mem_take hc))).mono ?_); go_must (rintro e w2 ⟨g, rfl, hgs, hR2, hc2⟩); go_must (obtain ⟨r0, r1, r2, r3⟩ := Put.cells (hc2.blk hbox1.out (fun h => h))); go_must (replace hR2 := Aside0.mk hR2); go_must (replace hc2 := Aside0.mk hc2); go_must (replace hgs := Aside0.mk hgs)) | (go_at_call 29; go_must (refine (rd_Uint w2 _ g 0 (L.take m) 0 hR2.out).mono ?_); go_must (rintro e w3 ⟨rfl, hR3, hc3⟩); go_must (rw [hbeg.out] at hR3 ⊢); go_must (replace hR3 := Aside0.mk hR3); go_must (replace hc3 := Aside0.mk hc3)) | (go_at_call 25; go_must (refine (rd_Left _ _ g 0 (L.take m) 2 hR3.out).mono ?_); go_must (rintro e w4 ⟨rfl, nd4, rfl⟩); go_must (rw [hltA.out])) | (go_at_call 24; go_must (refine (rd_Err _ _ g 0 (L.take m) 2 (hR3.out.chg ((Chg.refl (fun _ => False) w3).drewN _) (fun _ _ _ h => h))).mono ?_); go_must (rintro e w5 ⟨rfl, rfl⟩)) | (go_at_call 26; go_must (refine (rd_End _ _ g 0 (L.take m) 2 (hR3.out.chg ((Chg.refl (fun _ => False) w3).drewN _) (fun _ _ _ h => h))).mono ?_); go_must (rintro e w6 ⟨rfl, nd6, rfl⟩)))
      go_ret
      exact ⟨by simp [rEnd], by have hz := hch0.out.size; have hy := hc1.out.size; have hx := hgs.out; have h := (((hch0.out.trans hc1.out (fun _ _ h => h)).trans hc2.out (fun _ _ h => h)).trans hc3.out (fun k hk e => by omega)).below (fun _ _ h => h); repeat (first | exact h | apply pw_below_drewN)⟩
    · have hcr : c ≤ 9223372036854775807 := by omega
      have hcl : 0 ≤ c := by omega
      obtain ⟨m, hmc⟩ : ∃ m : Nat, c = (m : Int) := ⟨(c).toNat, by omega⟩
      have hml : m < L.length := by omega
      have hrun := cut_to (P := Try.prog) 25 5 .i64 Try.underlying25 hi8 A1 L.length cap1 (c) (by omega) (by omega) hcap.out
      rw [show (c : Int).toNat = m from by omega] at hrun
      have hm : Aside0 (m < (putL 1 x s).length) := ⟨by rw [hL.out]; exact hml⟩
      have hbeg := Aside0.mk (begins_1 hx0 hx1A.out hm.out)
      rw [hL.out] at hbeg
      have hlt := (show (L.take m).length = m from by simp; omega)
      have hCm : Aside0 (Kd.C (Kd.int .u8) w1 A1 m (L.take m)) := ⟨by have := Kd.C_take qC1 (m := m) (by omega); rwa [hlt] at this⟩
      have hltA := Aside0.mk hlt
      clear hml hlt
      go_wp2_with (first | (go_at_call 22; go_must (refine (rd_new w1 A1 m cap1 (L.take m) hCm.out (by have := hl18.out; have := hsA.out; have := hm.out; rw [hL.out] at this; omega) (fun c hc => hLin.out c (List.mem_of_mem_take hc))).mono ?_); go_must (rintro e w2 ⟨g, rfl, hgs, hR2, hc2⟩); go_must (obtain ⟨r0, r1, r2, r3⟩ := Put.cells (hc2.blk hbox1.out (fun h => h))); go_must (replace hR2 := Aside0.mk hR2); go_must (replace hc2 := Aside0.mk hc2); go_must (replace hgs := Aside0.mk hgs)) | (go_at_call 29; go_must (refine (rd_Uint w2 _ g 0 (L.take m) 0 hR2.out).mono ?_); go_must (rintro e w3 ⟨rfl, hR3, hc3⟩); go_must (rw [hbeg.out] at hR3 ⊢); go_must (replace hR3 := Aside0.mk hR3); go_must (replace hc3 := Aside0.mk hc3)) | (go_at_call 25; go_must (refine (rd_Left _ _ g 0 (L.take m) 2 hR3.out).mono ?_); go_must (rintro e w4 ⟨rfl, nd4, rfl⟩); go_must (rw [hltA.out])) | (go_at_call 24; go_must (refine (rd_Err _ _ g 0 (L.take m) 2 (hR3.out.chg ((Chg.refl (fun _ => False) w3).drewN _) (fun _ _ _ h => h))).mono ?_); go_must (rintro e w5 ⟨rfl, rfl⟩)) | (go_at_call 26; go_must (refine (rd_End _ _ g 0 (L.take m) 2 (hR3.out.chg ((Chg.refl (fun _ => False) w3).drewN _) (fun _ _ _ h => h))).mono ?_); go_must (rintro e w6 ⟨rfl, nd6, rfl⟩)))
      go_ret
      exact ⟨by simp [rEnd], by have hz := hch0.out.size; have hy := hc1.out.size; have hx := hgs.out; have h := (((hch0.out.trans hc1.out (fun _ _ h => h)).trans hc2.out (fun _ _ h => h)).trans hc3.out (fun k hk e => by omega)).below (fun _ _ h => h); repeat (first | exact h | apply pw_below_drewN)⟩
  by_cases h2 : kind = 2
  · subst h2
    have hbox := Aside0.mk hbox0
    go_enter Try.func10, Try.ntmps10
    go_wp2_with fail
    refine (law_written _ on 2 x s hx0 hx1A.out hsA.out).mono ?_
    rintro e w1 ⟨v1, rfl, hr1, hc1⟩
    obtain ⟨A1, n1, cap1, rfl⟩ := R_sl hr1
    have hbox1 := Aside0.mk (hc1.blk hbox.out (fun h => h))
    obtain ⟨p0, p1, p2, p3⟩ := Put.cells hbox1.out
    obtain ⟨q1, qcap, qC1⟩ := Kd.R_reads' hr1
    have hLw : wrL 2 x s = putL 2 x s := by simp [wrL]
    rw [hLw] at q1 qC1
    have hpos := putL_pos (x := x) (s := s) (show (0 : Int) ≤ 2 by decide) (by decide)
    have hl18 := putL_length 2 x s
    have hLin := Aside0.mk (putL_in (kind := 2) (s := s) hx0)
    obtain ⟨L, hL⟩ : ∃ L, putL 2 x s = L := ⟨_, rfl⟩
    rw [hL] at q1 qC1 hpos hl18 hLin
    subst q1
    replace hL := Aside0.mk hL
    have g1 : decide ((L.length : Int) < 1) = false := by simp; omega
    have g2 : ((L.length : Int) == 0) = false := beq_eq_false_iff_ne.2 (by omega)
    obtain ⟨c, hc⟩ : ∃ c, n.tmod (L.length : Int) = c := ⟨_, rfl⟩
    have hcr := rem_range n L.length (by omega)
    rw [hc] at hcr
    obtain ⟨i8, hi8, hz8, hs8, hy8⟩ := info_parts infoU8
    have hcap := Aside0.mk qcap
    have hlr : (L.length : Int) ≤ 9223372036854775807 := by have := hsA.out; omega
    replace hr1 := Aside0.mk hr1
    replace hc1 := Aside0.mk hc1
    have hl18A := Aside0.mk hl18
    replace hl18 := hl18A
    clear hl18A
    obtain ⟨hcr1, hcr2⟩ := hcr
    by_cases hneg : c < 0
    · have hcr : c ≤ 9223372036854775807 := by omega
      have hcl : c < 0 := hneg
      obtain ⟨m, hmc⟩ : ∃ m : Nat, -c = (m : Int) := ⟨(-c).toNat, by omega⟩
      have hml : m < L.length := by omega
      have hrun := cut_to (P := Try.prog) 25 5 .i64 Try.underlying25 hi8 A1 L.length cap1 (-c) (by omega) (by omega) hcap.out
      rw [show (-c : Int).toNat = m from by omega] at hrun
      have hm : Aside0 (m < (putL 2 x s).length) := ⟨by rw [hL.out]; exact hml⟩
      have hbeg := Aside0.mk (begins_2 hm.out)
      rw [hL.out] at hbeg
      have hlt := (show (L.take m).length = m from by simp; omega)
      have hCm : Aside0 (Kd.C (Kd.int .u8) w1 A1 m (L.take m)) := ⟨by have := Kd.C_take qC1 (m := m) (by omega); rwa [hlt] at this⟩
      have hltA := Aside0.mk hlt
      clear hml hlt
      go_wp2_with (first | (go_at_call 22; go_must (refine (rd_new w1 A1 m cap1 (L.take m) hCm.out (by have := hl18.out; have := hsA.out; have := hm.out; rw [hL.out] at this; omega) (fun c hc => hLin.out c (List.mem_of_mem_take hc))).mono ?_); go_must (rintro e w2 ⟨g, rfl, hgs, hR2, hc2⟩); go_must (obtain ⟨r0, r1, r2, r3⟩ := Put.cells (hc2.blk hbox1.out (fun h => h))); go_must (replace hR2 := Aside0.mk hR2); go_must (replace hc2 := Aside0.mk hc2); go_must (replace hgs := Aside0.mk hgs)) | (go_at_call 35; go_must (refine (rd_Int w2 _ g 0 (L.take m) 0 hR2.out).mono ?_); go_must (rintro e w3 ⟨rfl, hR3, hc3⟩); go_must (rw [hbeg.out] at hR3 ⊢); go_must (replace hR3 := Aside0.mk hR3); go_must (replace hc3 := Aside0.mk hc3)) | (go_at_call 25; go_must (refine (rd_Left _ _ g 0 (L.take m) 2 hR3.out).mono ?_); go_must (rintro e w4 ⟨rfl, nd4, rfl⟩); go_must (rw [hltA.out])) | (go_at_call 24; go_must (refine (rd_Err _ _ g 0 (L.take m) 2 (hR3.out.chg ((Chg.refl (fun _ => False) w3).drewN _) (fun _ _ _ h => h))).mono ?_); go_must (rintro e w5 ⟨rfl, rfl⟩)) | (go_at_call 26; go_must (refine (rd_End _ _ g 0 (L.take m) 2 (hR3.out.chg ((Chg.refl (fun _ => False) w3).drewN _) (fun _ _ _ h => h))).mono ?_); go_must (rintro e w6 ⟨rfl, nd6, rfl⟩)))
      go_ret
      exact ⟨by simp [rEnd], by have hz := hch0.out.size; have hy := hc1.out.size; have hx := hgs.out; have h := (((hch0.out.trans hc1.out (fun _ _ h => h)).trans hc2.out (fun _ _ h => h)).trans hc3.out (fun k hk e => by omega)).below (fun _ _ h => h); repeat (first | exact h | apply pw_below_drewN)⟩
    · have hcr : c ≤ 9223372036854775807 := by omega
      have hcl : 0 ≤ c := by omega
      obtain ⟨m, hmc⟩ : ∃ m : Nat, c = (m : Int) := ⟨(c).toNat, by omega⟩
      have hml : m < L.length := by omega
      have hrun := cut_to (P := Try.prog) 25 5 .i64 Try.underlying25 hi8 A1 L.length cap1 (c) (by omega) (by omega) hcap.out
      rw [show (c : Int).toNat = m from by omega] at hrun
      have hm : Aside0 (m < (putL 2 x s).length) := ⟨by rw [hL.out]; exact hml⟩
      have hbeg := Aside0.mk (begins_2 hm.out)
      rw [hL.out] at hbeg
      have hlt := (show (L.take m).length = m from by simp; omega)
      have hCm : Aside0 (Kd.C (Kd.int .u8) w1 A1 m (L.take m)) := ⟨by have := Kd.C_take qC1 (m := m) (by omega); rwa [hlt] at this⟩
      have hltA := Aside0.mk hlt
      clear hml hlt
      go_wp2_with (first | (go_at_call 22; go_must (refine (rd_new w1 A1 m cap1 (L.take m) hCm.out (by have := hl18.out; have := hsA.out; have := hm.out; rw [hL.out] at this; omega) (fun c hc => hLin.out c (List.mem_of_mem_take hc))).mono ?_); go_must (rintro e w2 ⟨g, rfl, hgs, hR2, hc2⟩); go_must (obtain ⟨r0, r1, r2, r3⟩ := Put.cells (hc2.blk hbox1.out (fun h => h))); go_must (replace hR2 := Aside0.mk hR2); go_must (replace hc2 := Aside0.mk hc2); go_must (replace hgs := Aside0.mk hgs)) | (go_at_call 35; go_must (refine (rd_Int w2 _ g 0 (L.take m) 0 hR2.out).mono ?_); go_must (rintro e w3 ⟨rfl, hR3, hc3⟩); go_must (rw [hbeg.out] at hR3 ⊢); go_must (replace hR3 := Aside0.mk hR3); go_must (replace hc3 := Aside0.mk hc3)) | (go_at_call 25; go_must (refine (rd_Left _ _ g 0 (L.take m) 2 hR3.out).mono ?_); go_must (rintro e w4 ⟨rfl, nd4, rfl⟩); go_must (rw [hltA.out])) | (go_at_call 24; go_must (refine (rd_Err _ _ g 0 (L.take m) 2 (hR3.out.chg ((Chg.refl (fun _ => False) w3).drewN _) (fun _ _ _ h => h))).mono ?_); go_must (rintro e w5 ⟨rfl, rfl⟩)) | (go_at_call 26; go_must (refine (rd_End _ _ g 0 (L.take m) 2 (hR3.out.chg ((Chg.refl (fun _ => False) w3).drewN _) (fun _ _ _ h => h))).mono ?_); go_must (rintro e w6 ⟨rfl, nd6, rfl⟩)))
      go_ret
      exact ⟨by simp [rEnd], by have hz := hch0.out.size; have hy := hc1.out.size; have hx := hgs.out; have h := (((hch0.out.trans hc1.out (fun _ _ h => h)).trans hc2.out (fun _ _ h => h)).trans hc3.out (fun k hk e => by omega)).below (fun _ _ h => h); repeat (first | exact h | apply pw_below_drewN)⟩
  by_cases h3 : kind = 3
  · subst h3
    have hbox := Aside0.mk hbox0
    go_enter Try.func10, Try.ntmps10
    go_wp2_with fail
    refine (law_written _ on 3 x s hx0 hx1A.out hsA.out).mono ?_
    rintro e w1 ⟨v1, rfl, hr1, hc1⟩
    obtain ⟨A1, n1, cap1, rfl⟩ := R_sl hr1
    have hbox1 := Aside0.mk (hc1.blk hbox.out (fun h => h))
    obtain ⟨p0, p1, p2, p3⟩ := Put.cells hbox1.out
    obtain ⟨q1, qcap, qC1⟩ := Kd.R_reads' hr1
    have hLw : wrL 3 x s = putL 3 x s := by simp [wrL]
    rw [hLw] at q1 qC1
    have hpos := putL_pos (x := x) (s := s) (show (0 : Int) ≤ 3 by decide) (by decide)
    have hl18 := putL_length 3 x s
    have hLin := Aside0.mk (putL_in (kind := 3) (s := s) hx0)
    obtain ⟨L, hL⟩ : ∃ L, putL 3 x s = L := ⟨_, rfl⟩
    rw [hL] at q1 qC1 hpos hl18 hLin
    subst q1
    replace hL := Aside0.mk hL
    have g1 : decide ((L.length : Int) < 1) = false := by simp; omega
    have g2 : ((L.length : Int) == 0) = false := beq_eq_false_iff_ne.2 (by omega)
    obtain ⟨c, hc⟩ : ∃ c, n.tmod (L.length : Int) = c := ⟨_, rfl⟩
    have hcr := rem_range n L.length (by omega)
    rw [hc] at hcr
    obtain ⟨i8, hi8, hz8, hs8, hy8⟩ := info_parts infoU8
    have hcap := Aside0.mk qcap
    have hlr : (L.length : Int) ≤ 9223372036854775807 := by have := hsA.out; omega
    replace hr1 := Aside0.mk hr1
    replace hc1 := Aside0.mk hc1
    have hl18A := Aside0.mk hl18
    replace hl18 := hl18A
    clear hl18A
    obtain ⟨hcr1, hcr2⟩ := hcr
    by_cases hneg : c < 0
    · have hcr : c ≤ 9223372036854775807 := by omega
      have hcl : c < 0 := hneg
      obtain ⟨m, hmc⟩ : ∃ m : Nat, -c = (m : Int) := ⟨(-c).toNat, by omega⟩
      have hml : m < L.length := by omega
      have hrun := cut_to (P := Try.prog) 25 5 .i64 Try.underlying25 hi8 A1 L.length cap1 (-c) (by omega) (by omega) hcap.out
      rw [show (-c : Int).toNat = m from by omega] at hrun
      have hm : Aside0 (m < (putL 3 x s).length) := ⟨by rw [hL.out]; exact hml⟩
      have hbeg := Aside0.mk (begins_3 hm.out)
      rw [hL.out] at hbeg
      have hlt := (show (L.take m).length = m from by simp; omega)
      have hCm : Aside0 (Kd.C (Kd.int .u8) w1 A1 m (L.take m)) := ⟨by have := Kd.C_take qC1 (m := m) (by omega); rwa [hlt] at this⟩
      have hltA := Aside0.mk hlt
      clear hml hlt
      go_wp2_with (first | (go_at_call 22; go_must (refine (rd_new w1 A1 m cap1 (L.take m) hCm.out (by have := hl18.out; have := hsA.out; have := hm.out; rw [hL.out] at this; omega) (fun c hc => hLin.out c (List.mem_of_mem_take hc))).mono ?_); go_must (rintro e w2 ⟨g, rfl, hgs, hR2, hc2⟩); go_must (obtain ⟨r0, r1, r2, r3⟩ := Put.cells (hc2.blk hbox1.out (fun h => h))); go_must (replace hR2 := Aside0.mk hR2); go_must (replace hc2 := Aside0.mk hc2); go_must (replace hgs := Aside0.mk hgs)) | (go_at_call 37; go_must (refine (rd_Word w2 _ g 0 (L.take m) 0 hR2.out).mono ?_); go_must (rintro e w3 ⟨rfl, hR3, hc3⟩); go_must (rw [hbeg.out] at hR3 ⊢); go_must (replace hR3 := Aside0.mk hR3); go_must (replace hc3 := Aside0.mk hc3)) | (go_at_call 25; go_must (refine (rd_Left _ _ g 0 (L.take m) 2 hR3.out).mono ?_); go_must (rintro e w4 ⟨rfl, nd4, rfl⟩); go_must (rw [hltA.out])) | (go_at_call 24; go_must (refine (rd_Err _ _ g 0 (L.take m) 2 (hR3.out.chg ((Chg.refl (fun _ => False) w3).drewN _) (fun _ _ _ h => h))).mono ?_); go_must (rintro e w5 ⟨rfl, rfl⟩)) | (go_at_call 26; go_must (refine (rd_End _ _ g 0 (L.take m) 2 (hR3.out.chg ((Chg.refl (fun _ => False) w3).drewN _) (fun _ _ _ h => h))).mono ?_); go_must (rintro e w6 ⟨rfl, nd6, rfl⟩)))
      go_ret
      exact ⟨by simp [rEnd], by have hz := hch0.out.size; have hy := hc1.out.size; have hx := hgs.out; have h := (((hch0.out.trans hc1.out (fun _ _ h => h)).trans hc2.out (fun _ _ h => h)).trans hc3.out (fun k hk e => by omega)).below (fun _ _ h => h); repeat (first | exact h | apply pw_below_drewN)⟩
    · have hcr : c ≤ 9223372036854775807 := by omega
      have hcl : 0 ≤ c := by omega
      obtain ⟨m, hmc⟩ : ∃ m : Nat, c = (m : Int) := ⟨(c).toNat, by omega⟩
      have hml : m < L.length := by omega
      have hrun := cut_to (P := Try.prog) 25 5 .i64 Try.underlying25 hi8 A1 L.length cap1 (c) (by omega) (by omega) hcap.out
      rw [show (c : Int).toNat = m from by omega] at hrun
      have hm : Aside0 (m < (putL 3 x s).length) := ⟨by rw [hL.out]; exact hml⟩
      have hbeg := Aside0.mk (begins_3 hm.out)
      rw [hL.out] at hbeg
      have hlt := (show (L.take m).length = m from by simp; omega)
      have hCm : Aside0 (Kd.C (Kd.int .u8) w1 A1 m (L.take m)) := ⟨by have := Kd.C_take qC1 (m := m) (by omega); rwa [hlt] at this⟩
      have hltA := Aside0.mk hlt
      clear hml hlt
      go_wp2_with (first | (go_at_call 22; go_must (refine (rd_new w1 A1 m cap1 (L.take m) hCm.out (by have := hl18.out; have := hsA.out; have := hm.out; rw [hL.out] at this; omega) (fun c hc => hLin.out c (List.mem_of_mem_take hc))).mono ?_); go_must (rintro e w2 ⟨g, rfl, hgs, hR2, hc2⟩); go_must (obtain ⟨r0, r1, r2, r3⟩ := Put.cells (hc2.blk hbox1.out (fun h => h))); go_must (replace hR2 := Aside0.mk hR2); go_must (replace hc2 := Aside0.mk hc2); go_must (replace hgs := Aside0.mk hgs)) | (go_at_call 37; go_must (refine (rd_Word w2 _ g 0 (L.take m) 0 hR2.out).mono ?_); go_must (rintro e w3 ⟨rfl, hR3, hc3⟩); go_must (rw [hbeg.out] at hR3 ⊢); go_must (replace hR3 := Aside0.mk hR3); go_must (replace hc3 := Aside0.mk hc3)) | (go_at_call 25; go_must (refine (rd_Left _ _ g 0 (L.take m) 2 hR3.out).mono ?_); go_must (rintro e w4 ⟨rfl, nd4, rfl⟩); go_must (rw [hltA.out])) | (go_at_call 24; go_must (refine (rd_Err _ _ g 0 (L.take m) 2 (hR3.out.chg ((Chg.refl (fun _ => False) w3).drewN _) (fun _ _ _ h => h))).mono ?_); go_must (rintro e w5 ⟨rfl, rfl⟩)) | (go_at_call 26; go_must (refine (rd_End _ _ g 0 (L.take m) 2 (hR3.out.chg ((Chg.refl (fun _ => False) w3).drewN _) (fun _ _ _ h => h))).mono ?_); go_must (rintro e w6 ⟨rfl, nd6, rfl⟩)))
      go_ret
      exact ⟨by simp [rEnd], by have hz := hch0.out.size; have hy := hc1.out.size; have hx := hgs.out; have h := (((hch0.out.trans hc1.out (fun _ _ h => h)).trans hc2.out (fun _ _ h => h)).trans hc3.out (fun k hk e => by omega)).below (fun _ _ h => h); repeat (first | exact h | apply pw_below_drewN)⟩
  by_cases h4 : kind = 4
  · subst h4
    have hbox := Aside0.mk hbox0
    go_enter Try.func10, Try.ntmps10
    go_wp2_with fail
    refine (law_written _ on 4 x s hx0 hx1A.out hsA.out).mono ?_
    rintro e w1 ⟨v1, rfl, hr1, hc1⟩
    obtain ⟨A1, n1, cap1, rfl⟩ := R_sl hr1
    have hbox1 := Aside0.mk (hc1.blk hbox.out (fun h => h))
    obtain ⟨p0, p1, p2, p3⟩ := Put.cells hbox1.out
    obtain ⟨q1, qcap, qC1⟩ := Kd.R_reads' hr1
    have hLw : wrL 4 x s = putL 4 x s := by simp [wrL]
    rw [hLw] at q1 qC1
    have hpos := putL_pos (x := x) (s := s) (show (0 : Int) ≤ 4 by decide) (by decide)
    have hl18 := putL_length 4 x s
    have hLin := Aside0.mk (putL_in (kind := 4) (s := s) hx0)
    obtain ⟨L, hL⟩ : ∃ L, putL 4 x s = L := ⟨_, rfl⟩
    rw [hL] at q1 qC1 hpos hl18 hLin
    subst q1
    replace hL := Aside0.mk hL
    have g1 : decide ((L.length : Int) < 1) = false := by simp; omega
    have g2 : ((L.length : Int) == 0) = false := beq_eq_false_iff_ne.2 (by omega)
    obtain ⟨c, hc⟩ : ∃ c, n.tmod (L.length : Int) = c := ⟨_, rfl⟩
    have hcr := rem_range n L.length (by omega)
    rw [hc] at hcr
    obtain ⟨i8, hi8, hz8, hs8, hy8⟩ := info_parts infoU8
    have hcap := Aside0.mk qcap
    have hlr : (L.length : Int) ≤ 9223372036854775807 := by have := hsA.out; omega
    replace hr1 := Aside0.mk hr1
    replace hc1 := Aside0.mk hc1
    have hl18A := Aside0.mk hl18
    replace hl18 := hl18A
    clear hl18A
    obtain ⟨hcr1, hcr2⟩ := hcr
    by_cases hneg : c < 0
    · have hcr : c ≤ 9223372036854775807 := by omega
      have hcl : c < 0 := hneg
      obtain ⟨m, hmc⟩ : ∃ m : Nat, -c = (m : Int) := ⟨(-c).toNat, by omega⟩
      have hml : m < L.length := by omega
      have hrun := cut_to (P := Try.prog) 25 5 .i64 Try.underlying25 hi8 A1 L.length cap1 (-c) (by omega) (by omega) hcap.out
      rw [show (-c : Int).toNat = m from by omega] at hrun
      have hm : Aside0 (m < (putL 4 x s).length) := ⟨by rw [hL.out]; exact hml⟩
      have hbeg := Aside0.mk (begins_4 hsA.out hm.out)
      rw [hL.out] at hbeg
      have hlt := (show (L.take m).length = m from by simp; omega)
      have hCm : Aside0 (Kd.C (Kd.int .u8) w1 A1 m (L.take m)) := ⟨by have := Kd.C_take qC1 (m := m) (by omega); rwa [hlt] at this⟩
      have hltA := Aside0.mk hlt
      clear hml hlt
      have hse : (strOfNums []).toList.isEmpty = true := strOfNums_nil
      go_wp2_with (first | (go_at_call 22; go_must (refine (rd_new w1 A1 m cap1 (L.take m) hCm.out (by have := hl18.out; have := hsA.out; have := hm.out; rw [hL.out] at this; omega) (fun c hc => hLin.out c (List.mem_of_mem_take hc))).mono ?_); go_must (rintro e w2 ⟨g, rfl, hgs, hR2, hc2⟩); go_must (obtain ⟨r0, r1, r2, r3⟩ := Put.cells (hc2.blk hbox1.out (fun h => h))); go_must (replace hR2 := Aside0.mk hR2); go_must (replace hc2 := Aside0.mk hc2); go_must (replace hgs := Aside0.mk hgs)) | (go_at_call 27; go_must (refine (rd_Text w2 _ g 0 (L.take m) 0 (s.size : Int) (by have := hsA.out; omega) (by have := hsA.out; omega) hR2.out).mono ?_); go_must (rintro e w3 ⟨rfl, hR3, hc3⟩); go_must (rw [hbeg.out] at hR3 ⊢); go_must (replace hR3 := Aside0.mk hR3); go_must (replace hc3 := Aside0.mk hc3)) | (go_at_call 25; go_must (refine (rd_Left _ _ g 0 (L.take m) 2 hR3.out).mono ?_); go_must (rintro e w4 ⟨rfl, nd4, rfl⟩); go_must (rw [hltA.out])) | (go_at_call 24; go_must (refine (rd_Err _ _ g 0 (L.take m) 2 (hR3.out.chg ((Chg.refl (fun _ => False) w3).drewN _) (fun _ _ _ h => h))).mono ?_); go_must (rintro e w5 ⟨rfl, rfl⟩)) | (go_at_call 26; go_must (refine (rd_End _ _ g 0 (L.take m) 2 (hR3.out.chg ((Chg.refl (fun _ => False) w3).drewN _) (fun _ _ _ h => h))).mono ?_); go_must (rintro e w6 ⟨rfl, nd6, rfl⟩)))
      go_ret
      exact ⟨by simp [rEnd], by have hz := hch0.out.size; have hy := hc1.out.size; have hx := hgs.out; have h := (((hch0.out.trans hc1.out (fun _ _ h => h)).trans hc2.out (fun _ _ h => h)).trans hc3.out (fun k hk e => by omega)).below (fun _ _ h => h); repeat (first | exact h | apply pw_below_drewN)⟩
    · have hcr : c ≤ 9223372036854775807 := by omega
      have hcl : 0 ≤ c := by omega
      obtain ⟨m, hmc⟩ : ∃ m : Nat, c = (m : Int) := ⟨(c).toNat, by omega⟩
      have hml : m < L.length := by omega
      have hrun := cut_to (P := Try.prog) 25 5 .i64 Try.underlying25 hi8 A1 L.length cap1 (c) (by omega) (by omega) hcap.out
      rw [show (c : Int).toNat = m from by omega] at hrun
      have hm : Aside0 (m < (putL 4 x s).length) := ⟨by rw [hL.out]; exact hml⟩
      have hbeg := Aside0.mk (begins_4 hsA.out hm.out)
      rw [hL.out] at hbeg
      have hlt := (show (L.take m).length = m from by simp; omega)
      have hCm : Aside0 (Kd.C (Kd.int .u8) w1 A1 m (L.take m)) := ⟨by have := Kd.C_take qC1 (m := m) (by omega); rwa [hlt] at this⟩
      have hltA := Aside0.mk hlt
      clear hml hlt
      have hse : (strOfNums []).toList.isEmpty = true := strOfNums_nil
      go_wp2_with (first | (go_at_call 22; go_must (refine (rd_new w1 A1 m cap1 (L.take m) hCm.out (by have := hl18.out; have := hsA.out; have := hm.out; rw [hL.out] at this; omega) (fun c hc => hLin.out c (List.mem_of_mem_take hc))).mono ?_); go_must (rintro e w2 ⟨g, rfl, hgs, hR2, hc2⟩); go_must (obtain ⟨r0, r1, r2, r3⟩ := Put.cells (hc2.blk hbox1.out (fun h => h))); go_must (replace hR2 := Aside0.mk hR2); go_must (replace hc2 := Aside0.mk hc2); go_must (replace hgs := Aside0.mk hgs)) | (go_at_call 27; go_must (refine (rd_Text w2 _ g 0 (L.take m) 0 (s.size : Int) (by have := hsA.out; omega) (by have := hsA.out; omega) hR2.out).mono ?_); go_must (rintro e w3 ⟨rfl, hR3, hc3⟩); go_must (rw [hbeg.out] at hR3 ⊢); go_must (replace hR3 := Aside0.mk hR3); go_must (replace hc3 := Aside0.mk hc3)) | (go_at_call 25; go_must (refine (rd_Left _ _ g 0 (L.take m) 2 hR3.out).mono ?_); go_must (rintro e w4 ⟨rfl, nd4, rfl⟩); go_must (rw [hltA.out])) | (go_at_call 24; go_must (refine (rd_Err _ _ g 0 (L.take m) 2 (hR3.out.chg ((Chg.refl (fun _ => False) w3).drewN _) (fun _ _ _ h => h))).mono ?_); go_must (rintro e w5 ⟨rfl, rfl⟩)) | (go_at_call 26; go_must (refine (rd_End _ _ g 0 (L.take m) 2 (hR3.out.chg ((Chg.refl (fun _ => False) w3).drewN _) (fun _ _ _ h => h))).mono ?_); go_must (rintro e w6 ⟨rfl, nd6, rfl⟩)))
      go_ret
      exact ⟨by simp [rEnd], by have hz := hch0.out.size; have hy := hc1.out.size; have hx := hgs.out; have h := (((hch0.out.trans hc1.out (fun _ _ h => h)).trans hc2.out (fun _ _ h => h)).trans hc3.out (fun k hk e => by omega)).below (fun _ _ h => h); repeat (first | exact h | apply pw_below_drewN)⟩
  have hch1 := Aside0.mk ((Chg.refl (fun _ => False) w).alloc (.cells #[.int .i64 on, .int .i64 1, .int .u64 x, .string s] 29))
  have hbox := Aside0.mk (heap_alloc_new w (.cells #[.int .i64 on, .int .i64 1, .int .u64 x, .string s] 29))
  replace hch0 := hch1
  clear hch1 hbox0
  by_cases hk : kind < 0
  · have d0 : decide (kind < 0) = true := by simpa using hk
    clear h0 h1 h2 h3 h4 hk
    go_enter Try.func10, Try.ntmps10
    go_wp2_with fail
    refine (law_written _ on 1 x s hx0 hx1A.out hsA.out).mono ?_
    rintro e w1 ⟨v1, rfl, hr1, hc1⟩
    obtain ⟨A1, n1, cap1, rfl⟩ := R_sl hr1
    have hbox1 := Aside0.mk (hc1.blk hbox.out (fun h => h))
    obtain ⟨p0, p1, p2, p3⟩ := Put.cells hbox1.out
    obtain ⟨q1, qcap, qC1⟩ := Kd.R_reads' hr1
    have hLw : wrL 1 x s = putL 1 x s := by simp [wrL]
    rw [hLw] at q1 qC1
    have hpos := putL_pos (x := x) (s := s) (show (0 : Int) ≤ 1 by decide) (by decide)
    have hl18 := putL_length 1 x s
    have hLin := Aside0.mk (putL_in (kind := 1) (s := s) hx0)
    obtain ⟨L, hL⟩ : ∃ L, putL 1 x s = L := ⟨_, rfl⟩
    rw [hL] at q1 qC1 hpos hl18 hLin
    subst q1
    replace hL := Aside0.mk hL
    have g1 : decide ((L.length : Int) < 1) = false := by simp; omega
    have g2 : ((L.length : Int) == 0) = false := beq_eq_false_iff_ne.2 (by omega)
    obtain ⟨c, hc⟩ : ∃ c, n.tmod (L.length : Int) = c := ⟨_, rfl⟩
    have hcr := rem_range n L.length (by omega)
    rw [hc] at hcr
    obtain ⟨i8, hi8, hz8, hs8, hy8⟩ := info_parts infoU8
    have hcap := Aside0.mk qcap
    have hlr : (L.length : Int) ≤ 9223372036854775807 := by have := hsA.out; omega
    replace hr1 := Aside0.mk hr1
    replace hc1 := Aside0.mk hc1
    have hl18A := Aside0.mk hl18
    replace hl18 := hl18A
    clear hl18A
    obtain ⟨hcr1, hcr2⟩ := hcr
    by_cases hneg : c < 0
    · have hcr : c ≤ 9223372036854775807 := by omega
      have hcl : c < 0 := hneg
      obtain ⟨m, hmc⟩ : ∃ m : Nat, -c = (m : Int) := ⟨(-c).toNat, by omega⟩
      have hml : m < L.length := by omega
      have hrun := cut_to (P := Try.prog) 25 5 .i64 Try.underlying25 hi8 A1 L.length cap1 (-c) (by omega) (by omega) hcap.out
      rw [show (-c : Int).toNat = m from by omega] at hrun
      have hm : Aside0 (m < (putL 1 x s).length) := ⟨by rw [hL.out]; exact hml⟩
      have hbeg := Aside0.mk (begins_1 hx0 hx1A.out hm.out)
      rw [hL.out] at hbeg
      have hlt := (show (L.take m).length = m from by simp; omega)
      have hCm : Aside0 (Kd.C (Kd.int .u8) w1 A1 m (L.take m)) := ⟨by have := Kd.C_take qC1 (m := m) (by omega); rwa [hlt] at this⟩
      have hltA := Aside0.mk hlt
      clear hml hlt
      go_wp2_with (first | (go_at_call 22; go_must (refine (rd_new w1 A1 m cap1 (L.take m) hCm.out (by have := hl18.out; have := hsA.out; have := hm.out; rw [hL.out] at this; omega) (fun c hc => hLin.out c (List.mem_of_mem_take hc))).mono ?_); go_must (rintro e w2 ⟨g, rfl, hgs, hR2, hc2⟩); go_must (obtain ⟨r0, r1, r2, r3⟩ := Put.cells (hc2.blk hbox1.out (fun h => h))); go_must (replace hR2 := Aside0.mk hR2); go_must (replace hc2 := Aside0.mk hc2); go_must (replace hgs := Aside0.mk hgs)) | (go_at_call 29; go_must (refine (rd_Uint w2 _ g 0 (L.take m) 0 hR2.out).mono ?_); go_must (rintro e w3 ⟨rfl, hR3, hc3⟩); go_must (rw [hbeg.out] at hR3 ⊢); go_must (replace hR3 := Aside0.mk hR3); go_must (replace hc3 := Aside0.mk hc3)) | (go_at_call 25; go_must (refine (rd_Left _ _ g 0 (L.take m) 2 hR3.out).mono ?_); go_must (rintro e w4 ⟨rfl, nd4, rfl⟩); go_must (rw [hltA.out])) | (go_at_call 24; go_must (refine (rd_Err _ _ g 0 (L.take m) 2 (hR3.out.chg ((Chg.refl (fun _ => False) w3).drewN _) (fun _ _ _ h => h))).mono ?_); go_must (rintro e w5 ⟨rfl, rfl⟩)) | (go_at_call 26; go_must (refine (rd_End _ _ g 0 (L.take m) 2 (hR3.out.chg ((Chg.refl (fun _ => False) w3).drewN _) (fun _ _ _ h => h))).mono ?_); go_must (rintro e w6 ⟨rfl, nd6, rfl⟩)))
      go_ret
      exact ⟨by simp [rEnd], by have hz := hch0.out.size; have hy := hc1.out.size; have hx := hgs.out; have h := (((hch0.out.trans hc1.out (fun _ _ h => h)).trans hc2.out (fun _ _ h => h)).trans hc3.out (fun k hk e => by omega)).below (fun _ _ h => h); repeat (first | exact h | apply pw_below_drewN)⟩
    · have hcr : c ≤ 9223372036854775807 := by omega
      have hcl : 0 ≤ c := by omega
      obtain ⟨m, hmc⟩ : ∃ m : Nat, c = (m : Int) := ⟨(c).toNat, by omega⟩
      have hml : m < L.length := by omega
      have hrun := cut_to (P := Try.prog) 25 5 .i64 Try.underlying25 hi8 A1 L.length cap1 (c) (by omega) (by omega) hcap.out
      rw [show (c : Int).toNat = m from by omega] at hrun
      have hm : Aside0 (m < (putL 1 x s).length) := ⟨by rw [hL.out]; exact hml⟩
      have hbeg := Aside0.mk (begins_1 hx0 hx1A.out hm.out)
      rw [hL.out] at hbeg
      have hlt := (show (L.take m).length = m from by simp; omega)
      have hCm : Aside0 (Kd.C (Kd.int .u8) w1 A1 m (L.take m)) := ⟨by have := Kd.C_take qC1 (m := m) (by omega); rwa [hlt] at this⟩
      have hltA := Aside0.mk hlt
      clear hml hlt
      go_wp2_with (first | (go_at_call 22; go_must (refine (rd_new w1 A1 m cap1 (L.take m) hCm.out (by have := hl18.out; have := hsA.out; have := hm.out; rw [hL.out] at this; omega) (fun c hc => hLin.out c (List.mem_of_mem_take hc))).mono ?_); go_must (rintro e w2 ⟨g, rfl, hgs, hR2, hc2⟩); go_must (obtain ⟨r0, r1, r2, r3⟩ := Put.cells (hc2.blk hbox1.out (fun h => h))); go_must (replace hR2 := Aside0.mk hR2); go_must (replace hc2 := Aside0.mk hc2); go_must (replace hgs := Aside0.mk hgs)) | (go_at_call 29; go_must (refine (rd_Uint w2 _ g 0 (L.take m) 0 hR2.out).mono ?_); go_must (rintro e w3 ⟨rfl, hR3, hc3⟩); go_must (rw [hbeg.out] at hR3 ⊢); go_must (replace hR3 := Aside0.mk hR3); go_must (replace hc3 := Aside0.mk hc3)) | (go_at_call 25; go_must (refine (rd_Left _ _ g 0 (L.take m) 2 hR3.out).mono ?_); go_must (rintro e w4 ⟨rfl, nd4, rfl⟩); go_must (rw [hltA.out])) | (go_at_call 24; go_must (refine (rd_Err _ _ g 0 (L.take m) 2 (hR3.out.chg ((Chg.refl (fun _ => False) w3).drewN _) (fun _ _ _ h => h))).mono ?_); go_must (rintro e w5 ⟨rfl, rfl⟩)) | (go_at_call 26; go_must (refine (rd_End _ _ g 0 (L.take m) 2 (hR3.out.chg ((Chg.refl (fun _ => False) w3).drewN _) (fun _ _ _ h => h))).mono ?_); go_must (rintro e w6 ⟨rfl, nd6, rfl⟩)))
      go_ret
      exact ⟨by simp [rEnd], by have hz := hch0.out.size; have hy := hc1.out.size; have hx := hgs.out; have h := (((hch0.out.trans hc1.out (fun _ _ h => h)).trans hc2.out (fun _ _ h => h)).trans hc3.out (fun k hk e => by omega)).below (fun _ _ h => h); repeat (first | exact h | apply pw_below_drewN)⟩
  · have d0 : decide (kind < 0) = false := by simpa using hk
    have d1 : decide (kind > 4) = true := by simp; omega
    clear h0 h1 h2 h3 h4 hk
    go_enter Try.func10, Try.ntmps10
    go_wp2_with fail
    refine (law_written _ on 1 x s hx0 hx1A.out hsA.out).mono ?_
    rintro e w1 ⟨v1, rfl, hr1, hc1⟩
    obtain ⟨A1, n1, cap1, rfl⟩ := R_sl hr1
    have hbox1 := Aside0.mk (hc1.blk hbox.out (fun h => h))
    obtain ⟨p0, p1, p2, p3⟩ := Put.cells hbox1.out
    obtain ⟨q1, qcap, qC1⟩ := Kd.R_reads' hr1
    have hLw : wrL 1 x s = putL 1 x s := by simp [wrL]
    rw [hLw] at q1 qC1
    have hpos := putL_pos (x := x) (s := s) (show (0 : Int) ≤ 1 by decide) (by decide)
    have hl18 := putL_length 1 x s
    have hLin := Aside0.mk (putL_in (kind := 1) (s := s) hx0)
    obtain ⟨L, hL⟩ : ∃ L, putL 1 x s = L := ⟨_, rfl⟩
    rw [hL] at q1 qC1 hpos hl18 hLin
    subst q1
    replace hL := Aside0.mk hL
    have g1 : decide ((L.length : Int) < 1) = false := by simp; omega
    have g2 : ((L.length : Int) == 0) = false := beq_eq_false_iff_ne.2 (by omega)
    obtain ⟨c, hc⟩ : ∃ c, n.tmod (L.length : Int) = c := ⟨_, rfl⟩
    have hcr := rem_range n L.length (by omega)
    rw [hc] at hcr
    obtain ⟨i8, hi8, hz8, hs8, hy8⟩ := info_parts infoU8
    have hcap := Aside0.mk qcap
    have hlr : (L.length : Int) ≤ 9223372036854775807 := by have := hsA.out; omega
    replace hr1 := Aside0.mk hr1
    replace hc1 := Aside0.mk hc1
    have hl18A := Aside0.mk hl18
    replace hl18 := hl18A
    clear hl18A
    obtain ⟨hcr1, hcr2⟩ := hcr
    by_cases hneg : c < 0
    · have hcr : c ≤ 9223372036854775807 := by omega
      have hcl : c < 0 := hneg
      obtain ⟨m, hmc⟩ : ∃ m : Nat, -c = (m : Int) := ⟨(-c).toNat, by omega⟩
      have hml : m < L.length := by omega
      have hrun := cut_to (P := Try.prog) 25 5 .i64 Try.underlying25 hi8 A1 L.length cap1 (-c) (by omega) (by omega) hcap.out
      rw [show (-c : Int).toNat = m from by omega] at hrun
      have hm : Aside0 (m < (putL 1 x s).length) := ⟨by rw [hL.out]; exact hml⟩
      have hbeg := Aside0.mk (begins_1 hx0 hx1A.out hm.out)
      rw [hL.out] at hbeg
      have hlt := (show (L.take m).length = m from by simp; omega)
      have hCm : Aside0 (Kd.C (Kd.int .u8) w1 A1 m (L.take m)) := ⟨by have := Kd.C_take qC1 (m := m) (by omega); rwa [hlt] at this⟩
      have hltA := Aside0.mk hlt
      clear hml hlt
      go_wp2_with (first | (go_at_call 22; go_must (refine (rd_new w1 A1 m cap1 (L.take m) hCm.out (by have := hl18.out; have := hsA.out; have := hm.out; rw [hL.out] at this; omega) (fun c hc => hLin.out c (List.mem_of_mem_take hc))).mono ?_); go_must (rintro e w2 ⟨g, rfl, hgs, hR2, hc2⟩); go_must (obtain ⟨r0, r1, r2, r3⟩ := Put.cells (hc2.blk hbox1.out (fun h => h))); go_must (replace hR2 := Aside0.mk hR2); go_must (replace hc2 := Aside0.mk hc2); go_must (replace hgs := Aside0.mk hgs)) | (go_at_call 29; go_must (refine (rd_Uint w2 _ g 0 (L.take m) 0 hR2.out).mono ?_); go_must (rintro e w3 ⟨rfl, hR3, hc3⟩); go_must (rw [hbeg.out] at hR3 ⊢); go_must (replace hR3 := Aside0.mk hR3); go_must (replace hc3 := Aside0.mk hc3)) | (go_at_call 25; go_must (refine (rd_Left _ _ g 0 (L.take m) 2 hR3.out).mono ?_); go_must (rintro e w4 ⟨rfl, nd4, rfl⟩); go_must (rw [hltA.out])) | (go_at_call 24; go_must (refine (rd_Err _ _ g 0 (L.take m) 2 (hR3.out.chg ((Chg.refl (fun _ => False) w3).drewN _) (fun _ _ _ h => h))).mono ?_); go_must (rintro e w5 ⟨rfl, rfl⟩)) | (go_at_call 26; go_must (refine (rd_End _ _ g 0 (L.take m) 2 (hR3.out.chg ((Chg.refl (fun _ => False) w3).drewN _) (fun _ _ _ h => h))).mono ?_); go_must (rintro e w6 ⟨rfl, nd6, rfl⟩)))
      go_ret
      exact ⟨by simp [rEnd], by have hz := hch0.out.size; have hy := hc1.out.size; have hx := hgs.out; have h := (((hch0.out.trans hc1.out (fun _ _ h => h)).trans hc2.out (fun _ _ h => h)).trans hc3.out (fun k hk e => by omega)).below (fun _ _ h => h); repeat (first | exact h | apply pw_below_drewN)⟩
    · have hcr : c ≤ 9223372036854775807 := by omega
      have hcl : 0 ≤ c := by omega
      obtain ⟨m, hmc⟩ : ∃ m : Nat, c = (m : Int) := ⟨(c).toNat, by omega⟩
      have hml : m < L.length := by omega
      have hrun := cut_to (P := Try.prog) 25 5 .i64 Try.underlying25 hi8 A1 L.length cap1 (c) (by omega) (by omega) hcap.out
      rw [show (c : Int).toNat = m from by omega] at hrun
      have hm : Aside0 (m < (putL 1 x s).length) := ⟨by rw [hL.out]; exact hml⟩
      have hbeg := Aside0.mk (begins_1 hx0 hx1A.out hm.out)
      rw [hL.out] at hbeg
      have hlt := (show (L.take m).length = m from by simp; omega)
      have hCm : Aside0 (Kd.C (Kd.int .u8) w1 A1 m (L.take m)) := ⟨by have := Kd.C_take qC1 (m := m) (by omega); rwa [hlt] at this⟩
      have hltA := Aside0.mk hlt
      clear hml hlt
      go_wp2_with (first | (go_at_call 22; go_must (refine (rd_new w1 A1 m cap1 (L.take m) hCm.out (by have := hl18.out; have := hsA.out; have := hm.out; rw [hL.out] at this; omega) (fun c hc => hLin.out c (List.mem_of_mem_take hc))).mono ?_); go_must (rintro e w2 ⟨g, rfl, hgs, hR2, hc2⟩); go_must (obtain ⟨r0, r1, r2, r3⟩ := Put.cells (hc2.blk hbox1.out (fun h => h))); go_must (replace hR2 := Aside0.mk hR2); go_must (replace hc2 := Aside0.mk hc2); go_must (replace hgs := Aside0.mk hgs)) | (go_at_call 29; go_must (refine (rd_Uint w2 _ g 0 (L.take m) 0 hR2.out).mono ?_); go_must (rintro e w3 ⟨rfl, hR3, hc3⟩); go_must (rw [hbeg.out] at hR3 ⊢); go_must (replace hR3 := Aside0.mk hR3); go_must (replace hc3 := Aside0.mk hc3)) | (go_at_call 25; go_must (refine (rd_Left _ _ g 0 (L.take m) 2 hR3.out).mono ?_); go_must (rintro e w4 ⟨rfl, nd4, rfl⟩); go_must (rw [hltA.out])) | (go_at_call 24; go_must (refine (rd_Err _ _ g 0 (L.take m) 2 (hR3.out.chg ((Chg.refl (fun _ => False) w3).drewN _) (fun _ _ _ h => h))).mono ?_); go_must (rintro e w5 ⟨rfl, rfl⟩)) | (go_at_call 26; go_must (refine (rd_End _ _ g 0 (L.take m) 2 (hR3.out.chg ((Chg.refl (fun _ => False) w3).drewN _) (fun _ _ _ h => h))).mono ?_); go_must (rintro e w6 ⟨rfl, nd6, rfl⟩)))
      go_ret
      exact ⟨by simp [rEnd], by have hz := hch0.out.size; have hy := hc1.out.size; have hx := hgs.out; have h := (((hch0.out.trans hc1.out (fun _ _ h => h)).trans hc2.out (fun _ _ h => h)).trans hc3.out (fun k hk e => by omega)).below (fun _ _ h => h); repeat (first | exact h | apply pw_below_drewN)⟩

end Go.Proofs.Ytbheebcjbolboaa.K

namespace Go.Proofs.Ytbheebcjbolboaa.K
open Go.RowKit Go.Proofs.YtbheebcjbolboaaW.PrintWords Go.Proofs.YtbheebcjbolboaaW.PrintLast Go.Proofs.YtbheebcjbolboaaW.PrintMore
set_option linter.unusedVariables false
set_option linter.unusedSimpArgs false
set_option maxRecDepth 100000

theorem int_at {k : IntKind} {w : World} {A : Option Addr} {n : Nat} {l : List Int} (h : Kd.C (Kd.int k) w A n l) (i : Nat) (h1 : i < n) : ∃ ad, A = some ad ∧ w.cell? (ad.add i) = some (.int k (l.getD i 0)) := by
  obtain ⟨ad, c, e, _, hK, hc0⟩ := Kd.C_get h 0 (i : Int) (by omega) (by omega)
  refine ⟨ad, e, ?_⟩
  have hk : c = [Value.int k (l.getD i 0)] := hK
  have := hc0 0 _ (by rw [hk]; rfl)
  simpa [Kd.int, Kd.scalar] using this
theorem bytesOf_strOfNums {l : List Int} (h : ∀ c ∈ l, 0 ≤ c ∧ c < 256) : bytesOf (strOfNums l) = l := by
  unfold bytesOf
  rw [strOfNums_data, List.map_map]
  conv => rhs; rw [← List.map_id l]
  refine List.map_congr_left (fun c hc => ?_)
  have := h c hc
  simp only [Function.comp, UInt8.toNat_ofNat', id]
  omega
/-- What a round of the law writes: the form of what it read. -/
def oneW (bs : List Int) (i : Nat) (err : Int) (r : Int) : List Int × Nat × Int :=
  if r = 0 then let x := rrun (pNext bs) 0 i err; (be x.1 1, x.2)
  else if r = 1 then let x := rrun (pNum bs) 0 i err; (digs x.1 10, x.2)
  else if r = 2 then let x := rrun (pNum bs) 0 i err; (digs x.1 10, x.2)
  else if r = 3 then let x := rrun (pWord bs) 0 i err; (be x.1 8, x.2)
  else let x := rrun (pText bs bs.length) [] i err; (digs x.1.length 10 ++ x.1, x.2)
theorem rrun_cases {α : Type} (p : Nat → Except Int (α × Nat)) (z : α) (i : Nat) (err : Int) : (∃ x j, err = 0 ∧ p i = .ok (x, j) ∧ rrun p z i err = (x, j, 0)) ∨ (∃ c, rrun p z i err = (z, i, c) ∧ (err = 0 → p i = .error c) ∧ (err ≠ 0 → c = err)) := by
  unfold rrun
  split
  · rename_i h
    split
    · rename_i x j h1; exact .inl ⟨x, j, h, h1, rfl⟩
    · rename_i c h1; exact .inr ⟨c, rfl, fun _ => h1, fun h2 => absurd h h2⟩
  · rename_i h; exact .inr ⟨err, rfl, fun h1 => absurd h1 h, fun _ => rfl⟩
/-- No reading gives up with 'no error'. -/
theorem pNumGo_err {bs : List Int} : ∀ f {i s : Nat} {x c : Int}, pNumGo bs f i s x = .error c → c ≠ 0
  | 0, _, _, _, _, h => by simp [pNumGo] at h; omega
  | f + 1, i, s, x, c, h => by
    unfold pNumGo at h
    split at h
    · split at h
      · cases h; decide
      · split at h
        · cases h
        · exact pNumGo_err f h
    · cases h; decide
theorem pNext_err {bs : List Int} {i : Nat} {c : Int} (h : pNext bs i = .error c) : c ≠ 0 := by
  unfold pNext at h; split at h <;> cases h; decide
theorem pNum_err {bs : List Int} {i : Nat} {c : Int} (h : pNum bs i = .error c) : c ≠ 0 := pNumGo_err 10 h
theorem pTake_err {bs : List Int} {n i : Nat} {c : Int} (h : pTake bs n i = .error c) : c ≠ 0 := by
  unfold pTake at h; split at h <;> cases h; decide
theorem pCount_err {bs : List Int} {m : Int} {i : Nat} {c : Int} (h : pCount bs m i = .error c) : c ≠ 0 := by
  unfold pCount at h
  split at h
  · rename_i h1; cases h; exact pNum_err h1
  · split at h <;> cases h; decide
theorem pWord_err {bs : List Int} {i : Nat} {c : Int} (h : pWord bs i = .error c) : c ≠ 0 := by
  unfold pWord at h
  split at h
  · rename_i h1; cases h; exact pTake_err h1
  · cases h
theorem pText_err {bs : List Int} {m : Int} {i : Nat} {c : Int} (h : pText bs m i = .error c) : c ≠ 0 := by
  unfold pText at h
  split at h
  · rename_i h1; cases h; exact pCount_err h1
  · exact pTake_err h
theorem pRaw_err {bs : List Int} {n : Int} {i : Nat} {c : Int} (h : pRaw bs n i = .error c) : c ≠ 0 := by
  unfold pRaw at h
  split at h
  · cases h; decide
  · exact pTake_err h
theorem take_on {bs e : List Int} {i j : Nat} (h : bs.drop i = e ++ bs.drop j) : bs.take i ++ e = bs.take j := by
  have h1 : bs = (bs.take i ++ e) ++ bs.drop j := by rw [List.append_assoc, ← h, List.take_append_drop]
  have h2 : bs = bs.take j ++ bs.drop j := (List.take_append_drop j bs).symm
  exact List.append_cancel_right (h1.symm.trans h2)
theorem oneW_len (bs : List Int) (i : Nat) (err r : Int) (hi : i ≤ bs.length) : (oneW bs i err r).1.length ≤ bs.length + 10 := by
  unfold oneW
  have hd := digs_length 10
  split
  · simp [be_length]
  split
  · have := hd (rrun (pNum bs) 0 i err).1; simp only; omega
  split
  · have := hd (rrun (pNum bs) 0 i err).1; simp only; omega
  split
  · simp [be_length]
  · rcases rrun_cases (pText bs bs.length) [] i err with ⟨x, j, _, h1, h2⟩ | ⟨c, h1, _⟩
    · rw [h2]
      have h3 : x.length ≤ bs.length := by
        unfold pText at h1
        split at h1
        · cases h1
        · rename_i h4
          unfold pTake at h1
          split at h1
          · cases h1; simp; omega
          · cases h1
      have := hd x.length
      simp only [List.length_append]; omega
    · rw [h1]
      have := hd ([] : List Int).length
      simp only [List.length_append, List.length_nil]; simp only [List.length_nil] at this; omega
/-- As long as there is no error, what is written is what was read. -/
theorem oneW_ok {bs : List Int} (hb : ∀ c ∈ bs, 0 ≤ c ∧ c < 256) {i : Nat} {err r : Int} (hi : i ≤ bs.length) (h0 : (oneW bs i err r).2.2 = 0) : err = 0 ∧ bs.take i ++ (oneW bs i err r).1 = bs.take (oneW bs i err r).2.1 := by
  have key : ∀ {α : Type} (p : Nat → Except Int (α × Nat)) (z : α) (en : α → List Int), (∀ c, p i = .error c → c ≠ 0) → (∀ x j, p i = .ok (x, j) → bs.drop i = en x ++ bs.drop j) → (rrun p z i err).2.2 = 0 → err = 0 ∧ bs.take i ++ en (rrun p z i err).1 = bs.take (rrun p z i err).2.1 := by
    intro α p z en he ho h
    rcases rrun_cases p z i err with ⟨x, j, h1, h2, h3⟩ | ⟨c, h1, h2, h3⟩
    · rw [h3]; exact ⟨h1, take_on (ho x j h2)⟩
    · rw [h1] at h
      by_cases h4 : err = 0
      · exact absurd h (he c (h2 h4))
      · exact absurd (h3 h4 ▸ h) h4
  unfold oneW at h0 ⊢
  split at h0
  · rename_i h; rw [if_pos h]; exact key (pNext bs) 0 (fun x => be x 1) (fun c => pNext_err) (fun x j h => (pNext_form hb h).2) h0
  rename_i g0; rw [if_neg g0]
  split at h0
  · rename_i h; rw [if_pos h]; exact key (pNum bs) 0 (fun x => digs x 10) (fun c => pNum_err) (fun x j h => (pNum_form hb h).2.2) h0
  rename_i g1; rw [if_neg g1]
  split at h0
  · rename_i h; rw [if_pos h]; exact key (pNum bs) 0 (fun x => digs x 10) (fun c => pNum_err) (fun x j h => (pNum_form hb h).2.2) h0
  rename_i g2; rw [if_neg g2]
  split at h0
  · rename_i h; rw [if_pos h]; exact key (pWord bs) 0 (fun x => be x 8) (fun c => pWord_err) (fun x j h => (pWord_form hb hi h).2) h0
  rename_i g3; rw [if_neg g3]
  exact key (pText bs bs.length) [] (fun x => digs x.length 10 ++ x) (fun c => pText_err) (fun x j h => by rw [(pText_form hb hi h).2.1]) h0
theorem rr_num {bs : List Int} (hb : ∀ c ∈ bs, 0 ≤ c ∧ c < 256) (i : Nat) (err : Int) : 0 ≤ (rrun (pNum bs) 0 i err).1 ∧ (rrun (pNum bs) 0 i err).1 ≤ 18446744073709551615 := by
  rcases rrun_cases (pNum bs) 0 i err with ⟨x, j, _, h2, h3⟩ | ⟨c, h1, _⟩
  · rw [h3]; exact pNum_range hb h2
  · rw [h1]; simp
theorem rr_next {bs : List Int} (hb : ∀ c ∈ bs, 0 ≤ c ∧ c < 256) (i : Nat) (err : Int) : 0 ≤ (rrun (pNext bs) 0 i err).1 ∧ (rrun (pNext bs) 0 i err).1 < 256 := by
  rcases rrun_cases (pNext bs) 0 i err with ⟨x, j, _, h2, h3⟩ | ⟨c, h1, _⟩
  · rw [h3]
    unfold pNext at h2
    split at h2
    · rename_i hi
      simp only [Except.ok.injEq, Prod.mk.injEq] at h2
      rw [← h2.1, List.getD_eq_getElem?_getD, List.getElem?_eq_getElem hi]
      exact hb _ (List.getElem_mem hi)
    · cases h2
  · rw [h1]; simp
theorem rr_word {bs : List Int} (hb : ∀ c ∈ bs, 0 ≤ c ∧ c < 256) (i : Nat) (err : Int) : 0 ≤ (rrun (pWord bs) 0 i err).1 ∧ (rrun (pWord bs) 0 i err).1 ≤ 18446744073709551615 := by
  rcases rrun_cases (pWord bs) 0 i err with ⟨x, j, _, h2, h3⟩ | ⟨c, h1, _⟩
  · rw [h3]
    simp only [pWord, pTake] at h2
    split at h2
    · cases h2
    · rename_i l j' h4
      split at h4
      · cases h4
        cases h2
        have := unbe_range ((bs.drop i).take 8) (fun c hc => hb c (List.mem_of_mem_drop (List.mem_of_mem_take hc)))
        have hl : ((bs.drop i).take 8).length ≤ 8 := by simp; omega
        have : (256 : Int) ^ ((bs.drop i).take 8).length ≤ 256 ^ 8 := by exact_mod_cast Nat.pow_le_pow_right (by decide) hl
        omega
      · cases h4
  · rw [h1]; simp
theorem rr_text {bs : List Int} (hb : ∀ c ∈ bs, 0 ≤ c ∧ c < 256) (m : Int) (i : Nat) (err : Int) : (rrun (pText bs m) [] i err).1.length ≤ bs.length ∧ ∀ c ∈ (rrun (pText bs m) [] i err).1, 0 ≤ c ∧ c < 256 := by
  rcases rrun_cases (pText bs m) [] i err with ⟨x, j, _, h2, h3⟩ | ⟨c, h1, _⟩
  · rw [h3]
    unfold pText at h2
    split at h2
    · cases h2
    · unfold pTake at h2
      split at h2
      · cases h2
        exact ⟨by simp; omega, fun c hc => hb c (List.mem_of_mem_drop (List.mem_of_mem_take hc))⟩
      · cases h2
  · rw [h1]; simp
theorem rr_le {α : Type} {bs : List Int} {p : Nat → Except Int (α × Nat)} {z : α} {i : Nat} {err : Int} (hi : i ≤ bs.length) (h : ∀ x j, p i = .ok (x, j) → j ≤ bs.length) : (rrun p z i err).2.1 ≤ bs.length := by
  rcases rrun_cases p z i err with ⟨x, j, _, h2, h3⟩ | ⟨c, h1, _⟩
  · rw [h3]; exact h x j h2
  · rw [h1]; exact hi

end Go.Proofs.Ytbheebcjbolboaa.K

namespace Go.Proofs.Ytbheebcjbolboaa.K
open Go.RowKit Go.Proofs.YtbheebcjbolboaaW.PrintWords Go.Proofs.YtbheebcjbolboaaW.PrintLast Go.Proofs.YtbheebcjbolboaaW.PrintMore
set_option linter.unusedVariables false
set_option linter.unusedSimpArgs false
set_option maxRecDepth 100000

theorem unfoldI_range {x : Int} (h : 0 ≤ x ∧ x ≤ 18446744073709551615) : -9223372036854775808 ≤ unfoldI x ∧ unfoldI x ≤ 9223372036854775807 := by unfold unfoldI; split <;> omega
set_option maxHeartbeats 4000000
/-- The law's reader and writer behind k rounds. -/
structure OWs (w : World) (a b gw gr : Nat) (bs : List Int) (k : Nat) (wr : World) (FW : Nat → Prop) (l : List Int) (i : Nat) (err : Int) : Prop where
  wrt : Wr wr FW gw l
  rdr : Rd wr (fun j => a ≤ j ∧ j < b) gr bs i err
  ap : ∀ j, FW j → w.heap.size ≤ j ∧ ¬ (a ≤ j ∧ j < b)
  lo : w.heap.size ≤ a
  hi : b ≤ wr.heap.size
  ch : Chg (fun _ => False) w wr
  same : err = 0 → l = bs.take i
  len : l.length ≤ 1048600 * k
theorem OW.step {w : World} {a b gw gr : Nat} {bs : List Int} {k : Nat} {wr : World} {FW : Nat → Prop} {l : List Int} {i : Nat} {err : Int} (r : Int) (h : OWs w a b gw gr bs k wr FW l i err ∧ bs.length ≤ 1048576) {w1 w2 : World}
    (hR : Rd w1 (fun j => a ≤ j ∧ j < b) gr bs (oneW bs i err r).2.1 (oneW bs i err r).2.2) (hc1 : Chg (fun j => j = gr) wr w1) (hW : Wr w2 (New FW w1 w2) gw (l ++ (oneW bs i err r).1)) (hc2 : Chg FW w1 w2) :
    ∃ FW l i err, OWs w a b gw gr bs (k + 1) w2 FW l i err ∧ bs.length ≤ 1048576 := by
  obtain ⟨⟨hw, hr, hap, hlo, hhi, hch, hs, hl⟩, hbl⟩ := h
  obtain ⟨_, _, _, hg, hi', _, hb, _⟩ := hr
  have s1 := hc1.size
  have s2 := hc2.size
  have s0 := hch.size
  refine ⟨New FW w1 w2, _, _, _, ⟨hW, hR.chg hc2 (fun j _ hj hF => (hap j hF).2 hj), ?_, hlo, by omega, ?_, ?_, ?_⟩, hbl⟩
  · rintro j (h | h)
    · exact hap j h
    · omega
  · exact (hch.trans hc1 (fun j hj e => by subst e; have := hg.1; omega)).trans hc2 (fun j hj hF => by have := (hap j hF).1; omega)
  · intro h0
    obtain ⟨e0, e1⟩ := oneW_ok hb hi' h0
    rw [hs e0, e1]
  · have := oneW_len bs i err r hi'
    rw [List.length_append]
    omega
theorem law_oneway (w : World) (A B : Option Addr) (n cap nr capr : Nat) (bs row : List Int) (hC : Kd.C (Kd.int .u8) w A n bs) (hbs0 : ∀ c ∈ bs, 0 ≤ c ∧ c < 256) (hD : Kd.C (Kd.int .i64) w B nr row) (hrow : ∀ c ∈ row, -9223372036854775808 ≤ c ∧ c ≤ 9223372036854775807) (hn : bs.length ≤ 1048576) (hnr : row.length ≤ 1048576) :
    Calls Try.prog 9 #[.slice A n cap, .slice B nr capr] w fun e w' => e = .returned (.bool true) ∧ Below w.heap.size w w' := by
  have hbs := Aside0.mk hbs0
  have hCA := Aside0.mk hC
  have hDA := Aside0.mk hD
  have e0 := hC.1
  have e1 := hD.1
  subst e0
  have hnn : bs.length ≤ 1048576 := hn
  have hnr' : nr ≤ 1048576 := by omega
  have hbl := Aside0.mk hn
  have hrowA := Aside0.mk hrow
  clear hbs0 hC hD e1 hn hnr hrow
  go_enter Try.func9, Try.ntmps9
  go_wp2_with fail
  (refine (law_written _ 0 1 300 ⟨#[]⟩ (by decide) (by decide) (by decide)).mono ?_)
  (rintro e w1 ⟨v1, rfl, hr1, hc1⟩)
  (obtain ⟨A1, n1, cap1, rfl⟩ := R_sl hr1)
  (replace hr1 := Aside0.mk hr1)
  (replace hc1 := Aside0.mk hc1)
  have hL : wrL 1 300 ⟨#[]⟩ = [172, 2] := by decide
  rw [hL] at hr1
  obtain ⟨q1, _, qC1⟩ := Kd.R_reads' hr1.out
  obtain ⟨b1, f1, x1⟩ := byte_at qC1 0 (by decide)
  obtain ⟨b1', f2, x2⟩ := byte_at qC1 1 (by decide)
  have q1' : n1 = 2 := q1
  subst q1' f1
  obtain rfl : b1 = b1' := by injection f2
  have x1' : w1.cell? b1 = some (.int .u8 172) := x1
  have x2' : w1.cell? ⟨b1.block, b1.off + 1, none⟩ = some (.int .u8 2) := x2
  clear f2 qC1 q1 hL x1 x2 hr1
  have hch1 := Aside0.mk hc1.out
  go_wp2_with (first | (go_at_call 31; go_must (refine (wr_new _).mono ?_); go_must (rintro e w2 ⟨rfl, hW2, hw2⟩); go_must (have hc2 := Aside0.mk (show Chg (fun _ => False) w1 w2 by rw [hw2]; exact (Chg.refl _ _).alloc _)); go_must (have hs2 := Aside0.mk (show w2.heap.size = w1.heap.size + 1 by rw [hw2]; simp)); go_must (clear hw2); go_must (replace hW2 := Aside0.mk hW2)) | (go_at_call 22; go_must (refine (rd_new _ A bs.length cap bs (C_chg hCA.out ((hc1.out.trans hc2.out (fun _ _ h => h)).below (fun _ _ h => h))) (by omega) hbs.out).mono ?_); go_must (rintro e w3 ⟨gr, rfl, hgs, hR3, hc3⟩); go_must (replace hR3 := Aside0.mk hR3); go_must (replace hc3 := Aside0.mk hc3); go_must (replace hgs := Aside0.mk hgs)))
  have hO0 : ∃ FW l i err, OWs w w2.heap.size w3.heap.size w1.heap.size gr bs 0 w3 FW l i err ∧ bs.length ≤ 1048576 := by
    have s1 := hc1.out.size
    have s2 := hs2.out
    have s3 := hc3.out.size
    refine ⟨_, [], 0, 0, ⟨hW2.out.chg hc3.out (fun _ _ _ h => h), hR3.out.mono (fun j _ hj => ?_), ?_, by omega, Nat.le_refl _, (hc1.out.trans hc2.out (fun _ _ h => h)).trans hc3.out (fun _ _ h => h), fun _ => rfl, by simp⟩, hbl.out⟩
    · rcases hj with h | h
      · exact h.elim
      · exact h
    · intro j hj
      have hj' : j = w1.heap.size := hj
      omega
  replace hO0 := Aside0.mk hO0
  clear hR3 hc3 hgs hW2 hc2
  generalize w2.heap.size = a at hO0
  generalize hbz : w3.heap.size = b at hO0
  generalize w1.heap.size = gw at hO0
  clear hs2 hbz
  go_loopw [9] (fun i wr => ∃ k : Nat, i = .int .i64 k ∧ k ≤ nr ∧ Aside0 (∃ FW l i err, OWs w a b gw gr bs k wr FW l i err ∧ bs.length ≤ 1048576)) (fun i _ => nr - (intOf i).toNat)
  case atStart => exact ⟨0, rfl, by omega, hO0⟩
  case round =>
    obtain ⟨k, rfl, hk, hO⟩ := hrel
    obtain ⟨FW, l, i, err, hO⟩ := hO.out
    replace hO := Aside0.mk hO
    have hWr := Aside0.mk hO.out.1.wrt
    have hRd := Aside0.mk hO.out.1.rdr
    have hap := Aside0.mk hO.out.1.ap
    by_cases hlt : k < nr
    · obtain ⟨ad, e1, x1⟩ := int_at (C_chg hDA.out (hO.out.1.ch.below (fun _ _ h => h))) k hlt
      subst e1
      have hgr : Aside0 (a ≤ gr ∧ gr < b) := ⟨by obtain ⟨_, _, _, hg, _⟩ := hRd.out; exact hg⟩
      have hl0 : Aside0 (l.length ≤ 1048600 * 1048576) := ⟨by have := hO.out.1.len; omega⟩
      have hl1 : Aside0 (l.length < 140737488355000) := ⟨by have := hl0.out; omega⟩
      have hk0 : (0 : Int) ≤ k := by omega
      have hk1 : (k : Int) < nr := by omega
      generalize row.getD k 0 = r at x1
      by_cases g0 : r = 0
      · subst g0
        go_wp2_with (first | (go_at_call 28; go_must (refine (rd_Byte _ _ gr i bs err hRd.out).mono ?_); go_must (rintro e w1 ⟨rfl, hR1, hc1⟩); go_must (have hW1 := Aside0.mk (hWr.out.chg hc1 (fun j _ hj e => (hap.out j hj).2 (e ▸ hgr.out)))); go_must (replace hR1 := Aside0.mk hR1); go_must (replace hc1 := Aside0.mk hc1)) | (go_at_call 32; go_must (refine (wr_byte _ FW gw l _ hW1.out (rr_next hbs.out i err).1 (rr_next hbs.out i err).2 hl1.out).mono ?_); go_must (rintro e w2 ⟨rfl, hW2, hc2⟩); go_must (replace hW2 := Aside0.mk hW2); go_must (replace hc2 := Aside0.mk hc2)))
        go_roundw
        case measure => first | (simp [intOf]; done) | (simp [intOf]; omega)
        case rel => exact ⟨k + 1, by go_num, by omega, ⟨OW.step 0 hO.out (by unfold oneW; rw [if_pos rfl]; exact hR1.out) hc1.out (by unfold oneW; rw [if_pos rfl]; exact hW2.out) hc2.out⟩⟩
      have t0 : (r == 0) = false := by simpa using g0
      by_cases g1 : r = 1
      · subst g1
        go_wp2_with (first | (go_at_call 29; go_must (refine (rd_Uint _ _ gr i bs err hRd.out).mono ?_); go_must (rintro e w1 ⟨rfl, hR1, hc1⟩); go_must (have hW1 := Aside0.mk (hWr.out.chg hc1 (fun j _ hj e => (hap.out j hj).2 (e ▸ hgr.out)))); go_must (replace hR1 := Aside0.mk hR1); go_must (replace hc1 := Aside0.mk hc1)) | (go_at_call 33; go_must (refine (wr_uint _ FW gw l _ hW1.out (rr_num hbs.out i err).1 (rr_num hbs.out i err).2 hl1.out).mono ?_); go_must (rintro e w2 ⟨rfl, hW2, hc2⟩); go_must (replace hW2 := Aside0.mk hW2); go_must (replace hc2 := Aside0.mk hc2)))
        go_roundw
        case measure => first | (simp [intOf]; done) | (simp [intOf]; omega)
        case rel => exact ⟨k + 1, by go_num, by omega, ⟨OW.step 1 hO.out (by unfold oneW; rw [if_neg g0, if_pos rfl]; exact hR1.out) hc1.out (by unfold oneW; rw [if_neg g0, if_pos rfl]; exact hW2.out) hc2.out⟩⟩
      have t1 : (r == 1) = false := by simpa using g1
      by_cases g2 : r = 2
      · subst g2
        go_wp2_with (first | (go_at_call 35; go_must (refine (rd_Int _ _ gr i bs err hRd.out).mono ?_); go_must (rintro e w1 ⟨rfl, hR1, hc1⟩); go_must (have hW1 := Aside0.mk (hWr.out.chg hc1 (fun j _ hj e => (hap.out j hj).2 (e ▸ hgr.out)))); go_must (replace hR1 := Aside0.mk hR1); go_must (replace hc1 := Aside0.mk hc1)) | (go_at_call 34; go_must (refine (wr_int _ FW gw l _ hW1.out (unfoldI_range (rr_num hbs.out i err)).1 (unfoldI_range (rr_num hbs.out i err)).2 hl1.out).mono ?_); go_must (rintro e w2 ⟨rfl, hW2, hc2⟩); go_must (rw [fold_unfold (rr_num hbs.out i err).1] at hW2); go_must (replace hW2 := Aside0.mk hW2); go_must (replace hc2 := Aside0.mk hc2)))
        go_roundw
        case measure => first | (simp [intOf]; done) | (simp [intOf]; omega)
        case rel => exact ⟨k + 1, by go_num, by omega, ⟨OW.step 2 hO.out (by unfold oneW; rw [if_neg g0, if_neg g1, if_pos rfl]; exact hR1.out) hc1.out (by unfold oneW; rw [if_neg g0, if_neg g1, if_pos rfl]; exact hW2.out) hc2.out⟩⟩
      have t2 : (r == 2) = false := by simpa using g2
      by_cases g3 : r = 3
      · subst g3
        go_wp2_with (first | (go_at_call 37; go_must (refine (rd_Word _ _ gr i bs err hRd.out).mono ?_); go_must (rintro e w1 ⟨rfl, hR1, hc1⟩); go_must (have hW1 := Aside0.mk (hWr.out.chg hc1 (fun j _ hj e => (hap.out j hj).2 (e ▸ hgr.out)))); go_must (replace hR1 := Aside0.mk hR1); go_must (replace hc1 := Aside0.mk hc1)) | (go_at_call 36; go_must (refine (wr_word _ FW gw l _ hW1.out (rr_word hbs.out i err).1 hl1.out).mono ?_); go_must (rintro e w2 ⟨rfl, hW2, hc2⟩); go_must (replace hW2 := Aside0.mk hW2); go_must (replace hc2 := Aside0.mk hc2)))
        go_roundw
        case measure => first | (simp [intOf]; done) | (simp [intOf]; omega)
        case rel => exact ⟨k + 1, by go_num, by omega, ⟨OW.step 3 hO.out (by unfold oneW; rw [if_neg g0, if_neg g1, if_neg g2, if_pos rfl]; exact hR1.out) hc1.out (by unfold oneW; rw [if_neg g0, if_neg g1, if_neg g2, if_pos rfl]; exact hW2.out) hc2.out⟩⟩
      have t3 : (r == 3) = false := by simpa using g3
      go_wp2_with (first | (go_at_call 27; go_must (refine (rd_Text _ _ gr i bs err (bs.length : Int) (by omega) (by have := hbl.out; omega) hRd.out).mono ?_); go_must (rintro e w1 ⟨rfl, hR1, hc1⟩); go_must (have hW1 := Aside0.mk (hWr.out.chg hc1 (fun j _ hj e => (hap.out j hj).2 (e ▸ hgr.out)))); go_must (replace hR1 := Aside0.mk hR1); go_must (replace hc1 := Aside0.mk hc1)) | (go_at_call 38; go_must (refine (wr_text _ FW gw l _ hW1.out (by rw [strOfNums_size]; have := (rr_text hbs.out bs.length i err).1; have := hbl.out; omega) (by rw [strOfNums_size]; have := (rr_text hbs.out bs.length i err).1; have := hbl.out; have := hl0.out; omega)).mono ?_); go_must (rintro e w2 ⟨rfl, hW2, hc2⟩); go_must (rw [bytesOf_strOfNums (rr_text hbs.out bs.length i err).2, strOfNums_size, List.append_assoc] at hW2); go_must (replace hW2 := Aside0.mk hW2); go_must (replace hc2 := Aside0.mk hc2)))
      go_roundw
      case measure => first | (simp [intOf]; done) | (simp [intOf]; omega)
      case rel => exact ⟨k + 1, by go_num, by omega, ⟨OW.step r hO.out (by unfold oneW; rw [if_neg g0, if_neg g1, if_neg g2, if_neg g3]; exact hR1.out) hc1.out (by unfold oneW; rw [if_neg g0, if_neg g1, if_neg g2, if_neg g3]; exact hW2.out) hc2.out⟩⟩
    · obtain rfl : k = nr := by omega
      by_cases hE : rEnd bs i err = 0
      · have hE0 : err = 0 := by unfold rEnd at hE; split at hE <;> omega
        have hE1 : l = bs := by
          have h1 := hO.out.1.same hE0
          have h2 : ¬ i < bs.length := by unfold rEnd at hE; split at hE <;> omega
          rw [h1, List.take_of_length_le (by omega)]
        subst hE1
        go_wp2_with (first | (go_at_call 26; go_must (refine (rd_End _ _ gr i l err hRd.out).mono ?_); go_must (rintro e w1 ⟨rfl, nd, rfl⟩); go_must (rw [hE])) | (go_at_call 39; go_must (refine (wr_done _ FW gw l (hWr.out.chg ((Chg.refl (fun _ => False) _).drewN _) (fun _ _ _ h => h)) (by have := hbl.out; omega)).mono ?_); go_must (rintro e w4 ⟨v4, rfl, hr4, hc4⟩); go_must (obtain ⟨A4, n4, cap4, rfl⟩ := R_sl hr4); go_must (obtain ⟨q4, _, qC4⟩ := Kd.R_reads' hr4); go_must (rw [← q4] at qC4); go_must (replace q4 := Aside0.mk q4); go_must (replace qC4 := Aside0.mk qC4); go_must (replace hr4 := Aside0.mk hr4); go_must (have hch4 := Aside0.mk ((hO.out.1.ch.drewN nd).trans hc4 (fun _ _ h => h))); go_must (replace hc4 := Aside0.mk hc4)) | (go_at_call 14; go_must (refine (same_bytes w4 A4 A n4 l.length cap4 cap l l qC4.out (C_chg hCA.out (hch4.out.below (fun _ _ h => h)))).mono ?_); go_must (rintro e w5 ⟨rfl, nd5, rfl⟩)))
        go_ret
        exact ⟨by simp, by have h := hch4.out.below (fun _ _ h => h); repeat (first | exact h | apply pw_below_drewN)⟩
      · have hE0 : (rEnd bs i err != 0) = true := by simpa using hE
        go_wp2_with (go_at_call 26; go_must (refine (rd_End _ _ gr i bs err hRd.out).mono ?_); go_must (rintro e w1 ⟨rfl, nd, rfl⟩))
        go_ret
        exact ⟨by simp, by have h := hO.out.1.ch.below (fun _ _ h => h); repeat (first | exact h | apply pw_below_drewN)⟩

end Go.Proofs.Ytbheebcjbolboaa.K

namespace Go.Proofs.Ytbheebcjbolboaa.K
open Go.RowKit Go.Proofs.YtbheebcjbolboaaW.PrintWords Go.Proofs.YtbheebcjbolboaaW.PrintLast Go.Proofs.YtbheebcjbolboaaW.PrintMore
set_option linter.unusedVariables false
set_option linter.unusedSimpArgs false
set_option maxRecDepth 100000

/-- What one call of a reader answers, and where it stands then: the number, the text, the rest; what Raw hands out. -/
structure GotA where
  x : Int
  s : List Int
  e : Int
  l : List Int
  i : Nat
  err : Int
def pgetA (bs : List Int) (i : Nat) (err kind n : Int) : GotA :=
  if kind = 0 then let r := rrun (pNext bs) 0 i err; ⟨r.1, [], 0, [], r.2.1, r.2.2⟩
  else if kind = 1 then let r := rrun (pNum bs) 0 i err; ⟨r.1, [], 0, [], r.2.1, r.2.2⟩
  else if kind = 2 then let r := rrun (pNum bs) 0 i err; ⟨IntKind.u64.wrap (unfoldI r.1), [], 0, [], r.2.1, r.2.2⟩
  else if kind = 3 then let r := rrun (pWord bs) 0 i err; ⟨r.1, [], 0, [], r.2.1, r.2.2⟩
  else if kind = 4 then let r := rrun (pText bs n) [] i err; ⟨0, r.1, 0, [], r.2.1, r.2.2⟩
  else if kind = 5 then let r := rrun (pRaw bs n) [] i err; ⟨0, r.1, 0, r.1, r.2.1, r.2.2⟩
  else if kind = 6 then let r := rrun (pCount bs n) 0 i err; ⟨r.1, [], 0, [], r.2.1, r.2.2⟩
  else if kind = 7 then ⟨(bs.length : Int) - i, [], 0, [], i, err⟩
  else if kind = 8 then ⟨0, [], err, [], i, err⟩
  else ⟨0, [], rEnd bs i err, [], i, err⟩
theorem rr_count {bs : List Int} (hb : ∀ c ∈ bs, 0 ≤ c ∧ c < 256) (m : Int) (hm : m ≤ 9223372036854775807) (i : Nat) (err : Int) : 0 ≤ (rrun (pCount bs m) 0 i err).1 ∧ (rrun (pCount bs m) 0 i err).1 ≤ 9223372036854775807 := by
  rcases rrun_cases (pCount bs m) 0 i err with ⟨x, j, _, h2, h3⟩ | ⟨c, h1, _⟩
  · rw [h3]
    obtain ⟨h4, h5⟩ := pCount_num h2
    have := pNum_range hb h4
    simp only
    omega
  · rw [h1]; simp
theorem wrap_id {x : Int} (h0 : 0 ≤ x) (h1 : x ≤ 18446744073709551615) : IntKind.u64.wrap x = x := by
  show x % 18446744073709551616 = x
  omega
theorem strOfNums_nil' : strOfNums [] = ⟨#[]⟩ := rfl
theorem chg_drawn0 {S : Nat → Prop} {w w' : World} (h : Drawn0 w w') : Chg S w w' := by obtain ⟨_, rfl⟩ := h; exact (Chg.refl _ _).drewN _
theorem chg_eq {S : Nat → Prop} {w w' : World} (h : w = w') : Chg S w w' := by subst h; exact Chg.refl _ _
theorem cells3 {w : World} {g : Nat} {a b c : Value} {t : TypeId} (h : w.heap[g]? = some (.cells #[a, b, c] t (0, 0))) :
    w.cell? ⟨g, 0, none⟩ = some a ∧ w.cell? ⟨g, 1, none⟩ = some b ∧ w.cell? ⟨g, 2, none⟩ = some c ∧ w.frozen? ⟨g, 0, none⟩ = false ∧ w.frozen? ⟨g, 1, none⟩ = false ∧ w.frozen? ⟨g, 2, none⟩ = false :=
  ⟨blk_cell h 0, blk_cell h 1, blk_cell h 2, blk_frozen h 0, blk_frozen h 1, blk_frozen h 2⟩
theorem set3 {w : World} {g : Nat} {a b c x y z : Value} {t : TypeId} (h : w.heap[g]? = some (.cells #[a, b, c] t (0, 0))) :
    (((w.setCell ⟨g, 0, none⟩ x).setCell ⟨g, 1, none⟩ y).setCell ⟨g, 2, none⟩ z).heap[g]? = some (.cells #[x, y, z] t (0, 0)) ∧
      Chg (fun k => k = g) w (((w.setCell ⟨g, 0, none⟩ x).setCell ⟨g, 1, none⟩ y).setCell ⟨g, 2, none⟩ z) := by
  have h1 := blk_set h 0 x
  have h2 := blk_set h1 1 y
  have h3 := blk_set h2 2 z
  exact ⟨by simpa using h3, (((Chg.refl (fun k => k = g) w).setCell (p := ⟨g, 0, none⟩) (fun _ => rfl) x).setCell (p := ⟨g, 1, none⟩) (fun _ => rfl) y).setCell (p := ⟨g, 2, none⟩) (fun _ => rfl) z⟩
theorem results_cell2 {fn : Func} {c u : Tmp} {t : TypeId} (h : fn.results = #[.cell c t, .tmp u]) (tmps : Array Value) (P : Program) (w : World) (g : Nat) (hp : tmps.getD c undef = .pointer (some ⟨g, 0, none⟩)) (v : Value) (hl : (loadVar t ⟨g, 0, none⟩).run P w = .ok v w) :
    (results fn tmps).run P w = .ok (.tuple #[v, tmps.getD u undef]) w := by
  simp only [results, h]
  rw [Array.getD_eq_getD_getElem?] at hp
  simp [hp, asAddr, hl, Result.andThen]
theorem kit_num (w : World) (x : Int) : Calls Try.prog 56 #[.int .i64 x] w fun e w' => e = .returned (.int .i64 x) ∧ w' = w := by
  go_enter Try.func56, Try.ntmps56
  go_wp2
  go_ret
  exact ⟨rfl, rfl⟩
set_option maxHeartbeats 4000000
theorem law_get (w : World) (F : Nat → Prop) (gr i : Nat) (bs : List Int) (err on kind n : Int) (hw : Rd w F gr bs i err) (hn0 : -9223372036854775808 ≤ n) (hn1 : n ≤ 9223372036854775807) (hF0 : ∀ k, F k → k < w.heap.size) :
    Calls Try.prog 19 #[.pointer (some ⟨gr, 0, none⟩), .agg #[.int .i64 on, .int .i64 kind, .int .i64 n]] w fun e w' =>
      ∃ v, e = .returned (.tuple #[.agg #[.int .u64 (pgetA bs i err kind n).x, .string (strOfNums (pgetA bs i err kind n).s), .int .i64 (pgetA bs i err kind n).e], v]) ∧ Kd.R (Kd.int .u8) 5 w' 0 (New (fun _ => False) w w') v (pgetA bs i err kind n).l ∧
        Rd w' F gr bs (pgetA bs i err kind n).i (pgetA bs i err kind n).err ∧ Chg (fun k => k = gr) w w' := by
  have hby : ∀ c ∈ bs, 0 ≤ c ∧ c < 256 := by obtain ⟨_, _, _, _, _, _, h, _⟩ := hw; exact h
  replace hby := Aside0.mk hby
  have hF := Aside0.mk hF0
  clear hF0
  have hgl := hw.lt
  have hc0 := Aside0.mk (((Chg.refl (fun _ => False) w).alloc (.cells #[.int .i64 on, .int .i64 kind, .int .i64 n] 40)).alloc (.cells #[.int .u64 0, .string ⟨#[]⟩, .int .i64 0] 43))
  have hbox := Aside0.mk (heap_alloc_new2 w (.cells #[.int .i64 on, .int .i64 kind, .int .i64 n] 40) (.cells #[.int .u64 0, .string ⟨#[]⟩, .int .i64 0] 43))
  have hbox1 := Aside0.mk (heap_alloc_old2 w (.cells #[.int .i64 on, .int .i64 kind, .int .i64 n] 40) (.cells #[.int .u64 0, .string ⟨#[]⟩, .int .i64 0] 43))
  have hRd := Aside0.mk (hw.chg hc0.out (fun _ _ _ h => h))
  have hwA := Aside0.mk hw
  clear hw
  have hi : i ≤ bs.length ∧ bs.length ≤ 140737488355328 := by obtain ⟨_, _, _, _, h1, h2, _⟩ := hwA.out; exact ⟨h1, h2⟩
  obtain ⟨hi1, hi2⟩ := hi
  by_cases g0 : kind = 0
  · subst g0
    have hx : IntKind.u64.wrap (rrun (pNext bs) 0 i err).1 = (rrun (pNext bs) 0 i err).1 := by have := rr_next hby.out i err; exact wrap_id this.1 (by omega)
    go_enter Try.func19, Try.ntmps19
    go_wp2_with (go_at_call 28; go_must (refine (rd_Byte _ _ gr i bs err hRd.out).mono ?_); go_must (rintro e w1 ⟨rfl, hR1, hc1⟩); go_must (obtain ⟨b0, b1, b2, f0, f1, f2⟩ := cells3 (hc1.blk hbox.out (by omega))); go_must (replace hR1 := Aside0.mk hR1); go_must (replace hc1 := Aside0.mk hc1))
    have hA : pgetA bs i err 0 n = ⟨(rrun (pNext bs) 0 i err).1, [], 0, [], (rrun (pNext bs) 0 i err).2.1, (rrun (pNext bs) 0 i err).2.2⟩ := by unfold pgetA; rw [if_pos rfl]
    have h5 := set3 (x := .int .u64 (rrun (pNext bs) 0 i err).1) (y := .string (⟨#[]⟩)) (z := .int .i64 0) (hc1.out.blk hbox.out (by omega))
    generalize hw5 : World.setCell (World.setCell (World.setCell _ _ _) _ _) _ _ = w5 at h5
    replace h5 := Aside0.mk h5
    clear hw5
    (try simp only [Exit.inBlock, Exit.then])
    refine bodyPost_ret (results_cell2 rfl _ _ _ _ rfl _ (run_loadVar_row _ _ _ _ _ _ _ h5.out.1 Try.underlying43 rfl (by kernel_rfl))) rfl ?_
    rw [hA]
    refine ⟨.slice none 0 0, rfl, Kd.R_nil _ _ _ _ _, ?_, ?_⟩
    · exact hR1.out.chg h5.out.2 (fun j hj hFj e => by have := hF.out j hFj; omega)
    · exact ((hc0.out.mono (fun _ _ h => h.elim)).trans hc1.out (fun _ _ h => h)).trans h5.out.2 (fun j hj e => by omega)
  have t0 : (kind == 0) = false := by simpa using g0
  by_cases g1 : kind = 1
  · subst g1
    go_enter Try.func19, Try.ntmps19
    go_wp2_with (go_at_call 29; go_must (refine (rd_Uint _ _ gr i bs err hRd.out).mono ?_); go_must (rintro e w1 ⟨rfl, hR1, hc1⟩); go_must (obtain ⟨b0, b1, b2, f0, f1, f2⟩ := cells3 (hc1.blk hbox.out (by omega))); go_must (replace hR1 := Aside0.mk hR1); go_must (replace hc1 := Aside0.mk hc1))
    have hA : pgetA bs i err 1 n = ⟨(rrun (pNum bs) 0 i err).1, [], 0, [], (rrun (pNum bs) 0 i err).2.1, (rrun (pNum bs) 0 i err).2.2⟩ := by unfold pgetA; rw [if_neg (by decide), if_pos rfl]
    have h5 := set3 (x := .int .u64 (rrun (pNum bs) 0 i err).1) (y := .string (⟨#[]⟩)) (z := .int .i64 0) (hc1.out.blk hbox.out (by omega))
    generalize hw5 : World.setCell (World.setCell (World.setCell _ _ _) _ _) _ _ = w5 at h5
    replace h5 := Aside0.mk h5
    clear hw5
    (try simp only [Exit.inBlock, Exit.then])
    refine bodyPost_ret (results_cell2 rfl _ _ _ _ rfl _ (run_loadVar_row _ _ _ _ _ _ _ h5.out.1 Try.underlying43 rfl (by kernel_rfl))) rfl ?_
    rw [hA]
    refine ⟨.slice none 0 0, rfl, Kd.R_nil _ _ _ _ _, ?_, ?_⟩
    · exact hR1.out.chg h5.out.2 (fun j hj hFj e => by have := hF.out j hFj; omega)
    · exact ((hc0.out.mono (fun _ _ h => h.elim)).trans hc1.out (fun _ _ h => h)).trans h5.out.2 (fun j hj e => by omega)
  have t1 : (kind == 1) = false := by simpa using g1
  by_cases g2 : kind = 2
  · subst g2
    go_enter Try.func19, Try.ntmps19
    go_wp2_with (go_at_call 35; go_must (refine (rd_Int _ _ gr i bs err hRd.out).mono ?_); go_must (rintro e w1 ⟨rfl, hR1, hc1⟩); go_must (obtain ⟨b0, b1, b2, f0, f1, f2⟩ := cells3 (hc1.blk hbox.out (by omega))); go_must (replace hR1 := Aside0.mk hR1); go_must (replace hc1 := Aside0.mk hc1))
    have hA : pgetA bs i err 2 n = ⟨(IntKind.u64.wrap (unfoldI (rrun (pNum bs) 0 i err).1)), [], 0, [], (rrun (pNum bs) 0 i err).2.1, (rrun (pNum bs) 0 i err).2.2⟩ := by unfold pgetA; rw [if_neg (by decide), if_neg (by decide), if_pos rfl]
    have h5 := set3 (x := .int .u64 (IntKind.u64.wrap (unfoldI (rrun (pNum bs) 0 i err).1))) (y := .string (⟨#[]⟩)) (z := .int .i64 0) (hc1.out.blk hbox.out (by omega))
    generalize hw5 : World.setCell (World.setCell (World.setCell _ _ _) _ _) _ _ = w5 at h5
    replace h5 := Aside0.mk h5
    clear hw5
    (try simp only [Exit.inBlock, Exit.then])
    refine bodyPost_ret (results_cell2 rfl _ _ _ _ rfl _ (run_loadVar_row _ _ _ _ _ _ _ h5.out.1 Try.underlying43 rfl (by kernel_rfl))) rfl ?_
    rw [hA]
    refine ⟨.slice none 0 0, rfl, Kd.R_nil _ _ _ _ _, ?_, ?_⟩
    · exact hR1.out.chg h5.out.2 (fun j hj hFj e => by have := hF.out j hFj; omega)
    · exact ((hc0.out.mono (fun _ _ h => h.elim)).trans hc1.out (fun _ _ h => h)).trans h5.out.2 (fun j hj e => by omega)
  have t2 : (kind == 2) = false := by simpa using g2
  by_cases g3 : kind = 3
  · subst g3
    go_enter Try.func19, Try.ntmps19
    go_wp2_with (go_at_call 37; go_must (refine (rd_Word _ _ gr i bs err hRd.out).mono ?_); go_must (rintro e w1 ⟨rfl, hR1, hc1⟩); go_must (obtain ⟨b0, b1, b2, f0, f1, f2⟩ := cells3 (hc1.blk hbox.out (by omega))); go_must (replace hR1 := Aside0.mk hR1); go_must (replace hc1 := Aside0.mk hc1))
    have hA : pgetA bs i err 3 n = ⟨(rrun (pWord bs) 0 i err).1, [], 0, [], (rrun (pWord bs) 0 i err).2.1, (rrun (pWord bs) 0 i err).2.2⟩ := by unfold pgetA; rw [if_neg (by decide), if_neg (by decide), if_neg (by decide), if_pos rfl]
    have h5 := set3 (x := .int .u64 (rrun (pWord bs) 0 i err).1) (y := .string (⟨#[]⟩)) (z := .int .i64 0) (hc1.out.blk hbox.out (by omega))
    generalize hw5 : World.setCell (World.setCell (World.setCell _ _ _) _ _) _ _ = w5 at h5
    replace h5 := Aside0.mk h5
    clear hw5
    (try simp only [Exit.inBlock, Exit.then])
    refine bodyPost_ret (results_cell2 rfl _ _ _ _ rfl _ (run_loadVar_row _ _ _ _ _ _ _ h5.out.1 Try.underlying43 rfl (by kernel_rfl))) rfl ?_
    rw [hA]
    refine ⟨.slice none 0 0, rfl, Kd.R_nil _ _ _ _ _, ?_, ?_⟩
    · exact hR1.out.chg h5.out.2 (fun j hj hFj e => by have := hF.out j hFj; omega)
    · exact ((hc0.out.mono (fun _ _ h => h.elim)).trans hc1.out (fun _ _ h => h)).trans h5.out.2 (fun j hj e => by omega)
  have t3 : (kind == 3) = false := by simpa using g3
  by_cases g4 : kind = 4
  · subst g4
    go_enter Try.func19, Try.ntmps19
    go_wp2_with (go_at_call 27; go_must (refine (rd_Text _ _ gr i bs err n hn0 hn1 hRd.out).mono ?_); go_must (rintro e w1 ⟨rfl, hR1, hc1⟩); go_must (obtain ⟨b0, b1, b2, f0, f1, f2⟩ := cells3 (hc1.blk hbox.out (by omega))); go_must (replace hR1 := Aside0.mk hR1); go_must (replace hc1 := Aside0.mk hc1))
    have hA : pgetA bs i err 4 n = ⟨0, (rrun (pText bs n) [] i err).1, 0, [], (rrun (pText bs n) [] i err).2.1, (rrun (pText bs n) [] i err).2.2⟩ := by unfold pgetA; rw [if_neg (by decide), if_neg (by decide), if_neg (by decide), if_neg (by decide), if_pos rfl]
    have h5 := set3 (x := .int .u64 0) (y := .string (strOfNums (rrun (pText bs n) [] i err).1)) (z := .int .i64 0) (hc1.out.blk hbox.out (by omega))
    generalize hw5 : World.setCell (World.setCell (World.setCell _ _ _) _ _) _ _ = w5 at h5
    replace h5 := Aside0.mk h5
    clear hw5
    (try simp only [Exit.inBlock, Exit.then])
    refine bodyPost_ret (results_cell2 rfl _ _ _ _ rfl _ (run_loadVar_row _ _ _ _ _ _ _ h5.out.1 Try.underlying43 rfl (by kernel_rfl))) rfl ?_
    rw [hA]
    refine ⟨.slice none 0 0, rfl, Kd.R_nil _ _ _ _ _, ?_, ?_⟩
    · exact hR1.out.chg h5.out.2 (fun j hj hFj e => by have := hF.out j hFj; omega)
    · exact ((hc0.out.mono (fun _ _ h => h.elim)).trans hc1.out (fun _ _ h => h)).trans h5.out.2 (fun j hj e => by omega)
  have t4 : (kind == 4) = false := by simpa using g4
  by_cases g5 : kind = 5
  · subst g5
    go_enter Try.func19, Try.ntmps19
    go_wp2_with (go_at_call 23; go_must (refine (rd_Raw _ _ gr i bs err n hn1 hRd.out).mono ?_); go_must (rintro e w1 ⟨v1, rfl, hr1, hR1, hc1⟩); go_must (obtain ⟨A1, n1, cap1, rfl⟩ := R_sl hr1); go_must (obtain ⟨q1, _, qC1⟩ := Kd.R_reads' hr1); go_must (rw [← q1] at qC1); go_must (have hcv := Kd.C_string (P := Try.prog) (c := cap1) Try.underlying25 Try.underlying5 Try.underlying9 qC1); go_must (replace qC1 := Aside0.mk qC1); go_must (replace q1 := Aside0.mk q1); go_must (replace hr1 := Aside0.mk hr1); go_must (obtain ⟨b0, b1, b2, f0, f1, f2⟩ := cells3 (hc1.blk hbox.out (by omega))); go_must (replace hR1 := Aside0.mk hR1); go_must (replace hc1 := Aside0.mk hc1))
    have hA : pgetA bs i err 5 n = ⟨0, (rrun (pRaw bs n) [] i err).1, 0, (rrun (pRaw bs n) [] i err).1, (rrun (pRaw bs n) [] i err).2.1, (rrun (pRaw bs n) [] i err).2.2⟩ := by unfold pgetA; rw [if_neg (by decide), if_neg (by decide), if_neg (by decide), if_neg (by decide), if_neg (by decide), if_pos rfl]
    have h5 := set3 (x := .int .u64 0) (y := .string (strOfNums (rrun (pRaw bs n) [] i err).1)) (z := .int .i64 0) (hc1.out.blk hbox.out (by omega))
    generalize hw5 : World.setCell (World.setCell (World.setCell _ _ _) _ _) _ _ = w5 at h5
    replace h5 := Aside0.mk h5
    clear hw5
    (try simp only [Exit.inBlock, Exit.then])
    refine bodyPost_ret (results_cell2 rfl _ _ _ _ rfl _ (run_loadVar_row _ _ _ _ _ _ _ h5.out.1 Try.underlying43 rfl (by kernel_rfl))) rfl ?_
    rw [hA]
    refine ⟨.slice A1 n1 cap1, rfl, Kd.R_mono (R_chg hr1.out h5.out.2 (fun j hj ho e => by rcases ho with h | h; exact h.elim; have := hc0.out.size; simp at this hj; subst e; have := h.1; simp at this; omega)) (fun j hj => hj.imp id (fun h => ⟨by have := hc0.out.size; omega, by have := h5.out.2.size; omega⟩)), ?_, ?_⟩
    · exact hR1.out.chg h5.out.2 (fun j hj hFj e => by have := hF.out j hFj; omega)
    · exact ((hc0.out.mono (fun _ _ h => h.elim)).trans hc1.out (fun _ _ h => h)).trans h5.out.2 (fun j hj e => by omega)
  have t5 : (kind == 5) = false := by simpa using g5
  by_cases g6 : kind = 6
  · subst g6
    have hx : IntKind.u64.wrap (rrun (pCount bs n) 0 i err).1 = (rrun (pCount bs n) 0 i err).1 := by have := rr_count hby.out n hn1 i err; exact wrap_id this.1 (by omega)
    go_enter Try.func19, Try.ntmps19
    go_wp2_with (go_at_call 55; go_must (refine (rd_Count _ _ gr i bs err n hn0 hn1 hRd.out).mono ?_); go_must (rintro e w1 ⟨rfl, hR1, hc1⟩); go_must (obtain ⟨b0, b1, b2, f0, f1, f2⟩ := cells3 (hc1.blk hbox.out (by omega))); go_must (replace hR1 := Aside0.mk hR1); go_must (replace hc1 := Aside0.mk hc1))
    have hA : pgetA bs i err 6 n = ⟨(rrun (pCount bs n) 0 i err).1, [], 0, [], (rrun (pCount bs n) 0 i err).2.1, (rrun (pCount bs n) 0 i err).2.2⟩ := by unfold pgetA; rw [if_neg (by decide), if_neg (by decide), if_neg (by decide), if_neg (by decide), if_neg (by decide), if_neg (by decide), if_pos rfl]
    have h5 := set3 (x := .int .u64 (rrun (pCount bs n) 0 i err).1) (y := .string (⟨#[]⟩)) (z := .int .i64 0) (hc1.out.blk hbox.out (by omega))
    generalize hw5 : World.setCell (World.setCell (World.setCell _ _ _) _ _) _ _ = w5 at h5
    replace h5 := Aside0.mk h5
    clear hw5
    (try simp only [Exit.inBlock, Exit.then])
    refine bodyPost_ret (results_cell2 rfl _ _ _ _ rfl _ (run_loadVar_row _ _ _ _ _ _ _ h5.out.1 Try.underlying43 rfl (by kernel_rfl))) rfl ?_
    rw [hA]
    refine ⟨.slice none 0 0, rfl, Kd.R_nil _ _ _ _ _, ?_, ?_⟩
    · exact hR1.out.chg h5.out.2 (fun j hj hFj e => by have := hF.out j hFj; omega)
    · exact ((hc0.out.mono (fun _ _ h => h.elim)).trans hc1.out (fun _ _ h => h)).trans h5.out.2 (fun j hj e => by omega)
  have t6 : (kind == 6) = false := by simpa using g6
  by_cases g7 : kind = 7
  · subst g7
    have hx : IntKind.u64.wrap ((bs.length : Int) - i) = ((bs.length : Int) - i) := wrap_id (by omega) (by omega)
    go_enter Try.func19, Try.ntmps19
    go_wp2_with (go_at_call 25; go_must (refine (rd_Left _ _ gr i bs err hRd.out).mono ?_); go_must (rintro e w1 ⟨rfl, hd1⟩); go_must (have hc1 := chg_drawn0 (S := fun k => k = gr) hd1); go_must (have hR1 := hRd.out.chg (chg_drawn0 (S := fun _ => False) hd1) (fun _ _ _ h => h)); go_must (clear hd1); go_must (obtain ⟨b0, b1, b2, f0, f1, f2⟩ := cells3 (hc1.blk hbox.out (by omega))); go_must (replace hR1 := Aside0.mk hR1); go_must (replace hc1 := Aside0.mk hc1))
    have hA : pgetA bs i err 7 n = ⟨((bs.length : Int) - i), [], 0, [], i, err⟩ := by unfold pgetA; rw [if_neg (by decide), if_neg (by decide), if_neg (by decide), if_neg (by decide), if_neg (by decide), if_neg (by decide), if_neg (by decide), if_pos rfl]
    have h5 := set3 (x := .int .u64 ((bs.length : Int) - i)) (y := .string (⟨#[]⟩)) (z := .int .i64 0) (hc1.out.blk hbox.out (by omega))
    generalize hw5 : World.setCell (World.setCell (World.setCell _ _ _) _ _) _ _ = w5 at h5
    replace h5 := Aside0.mk h5
    clear hw5
    (try simp only [Exit.inBlock, Exit.then])
    refine bodyPost_ret (results_cell2 rfl _ _ _ _ rfl _ (run_loadVar_row _ _ _ _ _ _ _ h5.out.1 Try.underlying43 rfl (by kernel_rfl))) rfl ?_
    rw [hA]
    refine ⟨.slice none 0 0, rfl, Kd.R_nil _ _ _ _ _, ?_, ?_⟩
    · exact hR1.out.chg h5.out.2 (fun j hj hFj e => by have := hF.out j hFj; omega)
    · exact ((hc0.out.mono (fun _ _ h => h.elim)).trans hc1.out (fun _ _ h => h)).trans h5.out.2 (fun j hj e => by omega)
  have t7 : (kind == 7) = false := by simpa using g7
  by_cases g8 : kind = 8
  · subst g8
    go_enter Try.func19, Try.ntmps19
    go_wp2_with (first | (go_at_call 24; go_must (refine (rd_Err _ _ gr i bs err hRd.out).mono ?_); go_must (rintro e w1 ⟨rfl, hd1⟩); go_must (have hc1 := chg_eq (S := fun k => k = gr) hd1); go_must (have hR1 := hRd.out.chg (chg_eq (S := fun _ => False) hd1) (fun _ _ _ h => h)); go_must (clear hd1); go_must (obtain ⟨b0, b1, b2, f0, f1, f2⟩ := cells3 (hc1.blk hbox.out (by omega))); go_must (replace hR1 := Aside0.mk hR1); go_must (replace hc1 := Aside0.mk hc1)) | (go_at_call 56; go_must (refine (kit_num _ _).mono ?_); go_must (rintro e w2 ⟨rfl, rfl⟩)))
    have hA : pgetA bs i err 8 n = ⟨0, [], err, [], i, err⟩ := by unfold pgetA; rw [if_neg (by decide), if_neg (by decide), if_neg (by decide), if_neg (by decide), if_neg (by decide), if_neg (by decide), if_neg (by decide), if_neg (by decide), if_pos rfl]
    have h5 := set3 (x := .int .u64 0) (y := .string (⟨#[]⟩)) (z := .int .i64 err) (hc1.out.blk hbox.out (by omega))
    generalize hw5 : World.setCell (World.setCell (World.setCell _ _ _) _ _) _ _ = w5 at h5
    replace h5 := Aside0.mk h5
    clear hw5
    (try simp only [Exit.inBlock, Exit.then])
    refine bodyPost_ret (results_cell2 rfl _ _ _ _ rfl _ (run_loadVar_row _ _ _ _ _ _ _ h5.out.1 Try.underlying43 rfl (by kernel_rfl))) rfl ?_
    rw [hA]
    refine ⟨.slice none 0 0, rfl, Kd.R_nil _ _ _ _ _, ?_, ?_⟩
    · exact hR1.out.chg h5.out.2 (fun j hj hFj e => by have := hF.out j hFj; omega)
    · exact ((hc0.out.mono (fun _ _ h => h.elim)).trans hc1.out (fun _ _ h => h)).trans h5.out.2 (fun j hj e => by omega)
  have t8 : (kind == 8) = false := by simpa using g8
  go_enter Try.func19, Try.ntmps19
  go_wp2_with (first | (go_at_call 26; go_must (refine (rd_End _ _ gr i bs err hRd.out).mono ?_); go_must (rintro e w1 ⟨rfl, hd1⟩); go_must (have hc1 := chg_drawn0 (S := fun k => k = gr) hd1); go_must (have hR1 := hRd.out.chg (chg_drawn0 (S := fun _ => False) hd1) (fun _ _ _ h => h)); go_must (clear hd1); go_must (obtain ⟨b0, b1, b2, f0, f1, f2⟩ := cells3 (hc1.blk hbox.out (by omega))); go_must (replace hR1 := Aside0.mk hR1); go_must (replace hc1 := Aside0.mk hc1)) | (go_at_call 56; go_must (refine (kit_num _ _).mono ?_); go_must (rintro e w2 ⟨rfl, rfl⟩)))
  have hA : pgetA bs i err kind n = ⟨0, [], (rEnd bs i err), [], i, err⟩ := by unfold pgetA; rw [if_neg g0, if_neg g1, if_neg g2, if_neg g3, if_neg g4, if_neg g5, if_neg g6, if_neg g7, if_neg g8]
  have h5 := set3 (x := .int .u64 0) (y := .string (⟨#[]⟩)) (z := .int .i64 (rEnd bs i err)) (hc1.out.blk hbox.out (by omega))
  generalize hw5 : World.setCell (World.setCell (World.setCell _ _ _) _ _) _ _ = w5 at h5
  replace h5 := Aside0.mk h5
  clear hw5
  (try simp only [Exit.inBlock, Exit.then])
  refine bodyPost_ret (results_cell2 rfl _ _ _ _ rfl _ (run_loadVar_row _ _ _ _ _ _ _ h5.out.1 Try.underlying43 rfl (by kernel_rfl))) rfl ?_
  rw [hA]
  refine ⟨.slice none 0 0, rfl, Kd.R_nil _ _ _ _ _, ?_, ?_⟩
  · exact hR1.out.chg h5.out.2 (fun j hj hFj e => by have := hF.out j hFj; omega)
  · exact ((hc0.out.mono (fun _ _ h => h.elim)).trans hc1.out (fun _ _ h => h)).trans h5.out.2 (fun j hj e => by omega)

end Go.Proofs.Ytbheebcjbolboaa.K
