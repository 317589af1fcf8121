import Derived.Test.YtbheebcjbolboaaKa
namespace Go.Proofs.Ytbheebcjbolboaa.K
open Go.RowKit Go.Proofs.YtbheebcjbolboaaW.PrintWords Go.Proofs.YtbheebcjbolboaaW.PrintLast Go.Proofs.YtbheebcjbolboaaW.PrintMore
set_option linter.unusedVariables false
set_option linter.unusedSimpArgs false
set_option maxRecDepth 100000

theorem infoU8 : (Try.prog.info? 5).map (fun i => (i.zero, i.size, i.bytes)) = some (some (.int .u8 0), 1, 1) := by kernel_rfl

-- slices.Clone of bytes: nil of nil; else new memory.
theorem clone_bytes (w : World) (A : Option Addr) (n c : Nat) (l : List Int) (hc0 : Kd.C (Kd.int .u8) w A n l) (hn0 : n ≤ 140737488355328) :
    Calls Try.prog 57 #[.slice A n c] w fun e w' => ∃ v, e = .returned v ∧ Kd.R (Kd.int .u8) 5 w' 0 (New (fun _ => False) w w') v l ∧ Chg (fun _ => False) w w' := by
  have hc := Aside0.mk hc0
  have hn := Aside0.mk hn0
  clear hc0 hn0
  have heq := fun (w : World) (a : Option Addr) (n c : Nat) => Go.Lib.run_eql_slice_nil (P := Try.prog) w 25 5 a n c 0 0 Try.underlying25
  rcases A with _ | ad
  · go_enter Try.func57, Try.ntmps57
    go_wp2
    go_ret
    refine ⟨_, rfl, ?_, Chg.refl _ _⟩
    obtain ⟨rfl, rfl⟩ := C_nil_eq hc.out
    exact Kd.R_nil _ _ _ _ _
  · have hl : Aside0 ((([] : List Int).length + n) * 1 ≤ 140737488355328) := ⟨by have := hn.out; simp; omega⟩
    go_enter Try.func57, Try.ntmps57
    go_wp2_with (at_builtin; go_must (refine appN (Kd.int .u8) rfl (.tmp 5) (.tmp 6) rfl Try.underlying25 infoU8 rfl (by decide) (by decide) rfl rfl ⟨made0 (Kd.int .u8) w 5⟩ ⟨Kd.C_alloc hc.out _⟩ (fun _ _ h => h) ⟨(Chg.refl _ w).alloc _⟩ hl ?_); go_must (intro v1 w1 hr1 hc1))
    go_ret
    exact ⟨_, rfl, hr1.out, hc1.out⟩

theorem bytesOf8 (w : World) (F : Nat → Prop) (v : Value) (l : List Int) (x n : Int) (hr0 : Kd.R (Kd.int .u8) 5 w 0 F v l) (h0 : 0 ≤ x) (h1 : x < 256) (n0 : 0 ≤ n) (n1 : n ≤ 1) (hl0 : l.length < 140737488355000) :
    Calls Try.prog 68 #[v, .int .u8 x, .int .i64 n] w fun e w' => ∃ v', e = .returned v' ∧ Kd.R (Kd.int .u8) 5 w' 0 (New F w w') v' (l ++ be x n.toNat) ∧ Chg F w w' := by
  have hr := Aside0.mk hr0
  have hl := Aside0.mk hl0
  clear hr0 hl0
  go_enter Try.func68, Try.ntmps68
  go_wp2
  go_loopw [0, 7] (fun v0 i wr => ∃ (j : Int) (cur : List Int), i = .int .i64 j ∧ -1 ≤ j ∧ j < n ∧ Aside0 (Kd.R (Kd.int .u8) 5 wr 0 (New F w wr) v0 cur) ∧ Aside0 (cur ++ be x (j + 1).toNat = l ++ be x n.toNat) ∧ Aside0 (Chg F w wr)) (fun _ i _ => (intOf i + 1).toNat)
  case atStart => exact ⟨n - 1, l, by go_num, by omega, by omega, ⟨Kd.R_mono hr.out (fun k hk => .inl hk)⟩, ⟨by rw [show n - 1 + 1 = n from by omega]⟩, ⟨Chg.refl _ _⟩⟩
  case round =>
    obtain ⟨j, cur, rfl, hj0, hj1, hR, hE, hC⟩ := hrel
    by_cases hj : 0 ≤ j
    · have hlen : Aside0 ((cur.length + 1) * 1 ≤ 140737488355328) := ⟨by
        have := congrArg List.length hE.out
        simp only [List.length_append, be_length] at this
        have := hl.out
        omega⟩
      go_wp2_with (at_builtin; go_must (refine app1 (Kd.int .u8) rfl (.tmp 14) (.tmp 19) rfl Try.underlying25 infoU8 rfl (by decide) (by decide) (x / 2 ^ (8 * j).toNat) rfl rfl rfl hR hC hlen ?_); go_must (intro v1 w1 hr1 hc1))
      go_roundw
      case measure => simp [intOf]; omega
      case rel =>
        refine ⟨j - 1, _, by go_num, by omega, by omega, hr1, ⟨?_⟩, hc1⟩
        rw [← hE.out, List.append_assoc]
        congr 1
        have e1 : (j + 1).toNat = j.toNat + 1 := by omega
        have e2 : (j - 1 + 1).toNat = j.toNat := by omega
        have e3 : (8 * j).toNat = 8 * j.toNat := by omega
        rw [e1, e2, be, e3]
        have e4 : x / 2 ^ (8 * j.toNat) % 256 = x / 2 ^ (8 * j.toNat) := by
          obtain rfl : j = 0 := by omega
          simp; omega
        rw [e4]; rfl
    · go_wp2
      go_ret
      obtain rfl : j = -1 := by omega
      have e := hE.out
      simp [be] at e
      subst e
      exact ⟨_, rfl, hR.out, hC.out⟩

theorem bytesOf64 (w : World) (F : Nat → Prop) (v : Value) (l : List Int) (x n : Int) (hr0 : Kd.R (Kd.int .u8) 5 w 0 F v l) (h0 : 0 ≤ x) (n0 : 0 ≤ n) (n1 : n ≤ 8) (hl0 : l.length < 140737488355000) :
    Calls Try.prog 69 #[v, .int .u64 x, .int .i64 n] w fun e w' => ∃ v', e = .returned v' ∧ Kd.R (Kd.int .u8) 5 w' 0 (New F w w') v' (l ++ be x n.toNat) ∧ Chg F w w' := by
  have hr := Aside0.mk hr0
  have hl := Aside0.mk hl0
  clear hr0 hl0
  go_enter Try.func69, Try.ntmps69
  go_wp2
  go_loopw [0, 7] (fun v0 i wr => ∃ (j : Int) (cur : List Int), i = .int .i64 j ∧ -1 ≤ j ∧ j < n ∧ Aside0 (Kd.R (Kd.int .u8) 5 wr 0 (New F w wr) v0 cur) ∧ Aside0 (cur ++ be x (j + 1).toNat = l ++ be x n.toNat) ∧ Aside0 (Chg F w wr)) (fun _ i _ => (intOf i + 1).toNat)
  case atStart => exact ⟨n - 1, l, by go_num, by omega, by omega, ⟨Kd.R_mono hr.out (fun k hk => .inl hk)⟩, ⟨by rw [show n - 1 + 1 = n from by omega]⟩, ⟨Chg.refl _ _⟩⟩
  case round =>
    obtain ⟨j, cur, rfl, hj0, hj1, hR, hE, hC⟩ := hrel
    by_cases hj : 0 ≤ j
    · have hlen : Aside0 ((cur.length + 1) * 1 ≤ 140737488355328) := ⟨by
        have := congrArg List.length hE.out
        simp only [List.length_append, be_length] at this
        have := hl.out
        omega⟩
      go_wp2_with (at_builtin; go_must (refine app1 (Kd.int .u8) rfl (.tmp 14) (.tmp 20) rfl Try.underlying25 infoU8 rfl (by decide) (by decide) (x / 2 ^ (8 * j).toNat % 256) rfl rfl rfl hR hC hlen ?_); go_must (intro v1 w1 hr1 hc1))
      go_roundw
      case measure => simp [intOf]; omega
      case rel =>
        refine ⟨j - 1, _, by go_num, by omega, by omega, hr1, ⟨?_⟩, hc1⟩
        rw [← hE.out, List.append_assoc]
        congr 1
        have e1 : (j + 1).toNat = j.toNat + 1 := by omega
        have e2 : (j - 1 + 1).toNat = j.toNat := by omega
        have e3 : (8 * j).toNat = 8 * j.toNat := by omega
        rw [e1, e2, be, e3]
        rfl
    · go_wp2
      go_ret
      obtain rfl : j = -1 := by omega
      have e := hE.out
      simp [be] at e
      subst e
      exact ⟨_, rfl, hR.out, hC.out⟩

/-- The digits to the base 128, at most k of them. -/
def digs (x : Int) : Nat → List Int
  | 0 => []
  | k + 1 => if x < 128 then [x] else (x % 128 + 128) :: digs (x / 128) k
theorem digs_length (k : Nat) : ∀ x, (digs x k).length ≤ k := by
  induction k with
  | zero => intro x; simp [digs]
  | succ k ih => intro x; unfold digs; split
                 · simp
                 · have := ih (x / 128); simp; omega
theorem or128 (y : Int) (h0 : 0 ≤ y) (h1 : y < 256) : Go.bits .or .u8 y 128 = y % 128 + 128 := by
  have h : ∀ z : Fin 256, Go.bits .or .u8 (z.val : Int) 128 = (z.val : Int) % 128 + 128 := by decide +kernel
  have e := h ⟨y.toNat, by omega⟩
  simpa [Int.toNat_of_nonneg h0] using e

theorem digits64 (w : World) (F : Nat → Prop) (v : Value) (l : List Int) (x : Int) (hr0 : Kd.R (Kd.int .u8) 5 w 0 F v l) (h0 : 0 ≤ x) (h1 : x ≤ 18446744073709551615) (hl0 : l.length < 140737488355000) :
    Calls Try.prog 40 #[v, .int .u64 x] w fun e w' => ∃ v', e = .returned v' ∧ Kd.R (Kd.int .u8) 5 w' 0 (New F w w') v' (l ++ digs x 10) ∧ Chg F w w' := by
  have hr := Aside0.mk hr0
  have hl := Aside0.mk hl0
  have hx := Aside0.mk h1
  clear hr0 hl0 h1
  go_enter Try.func40, Try.ntmps40
  go_wp2
  go_loopw [0, 1] (fun v0 i wr => ∃ (y : Int) (m : Nat) (cur : List Int), i = .int .u64 y ∧ 0 ≤ y ∧ m ≤ 9 ∧ Aside0 (y < 128 ^ (m + 1) ∧ y ≤ 18446744073709551615) ∧ Aside0 (Kd.R (Kd.int .u8) 5 wr 0 (New F w wr) v0 cur) ∧ Aside0 (cur ++ digs y (m + 1) = l ++ digs x 10) ∧ Aside0 (Chg F w wr)) (fun _ i _ => (intOf i).toNat)
  case atStart => exact ⟨x, 9, l, rfl, by omega, by omega, ⟨by have := hx.out; omega, hx.out⟩, ⟨Kd.R_mono hr.out (fun k hk => .inl hk)⟩, ⟨rfl⟩, ⟨Chg.refl _ _⟩⟩
  case round =>
    obtain ⟨y, m, cur, rfl, hy0, hm, hy, hR, hE, hC⟩ := hrel
    have hlen : Aside0 ((cur.length + 1) * 1 ≤ 140737488355328) := ⟨by
      have := congrArg List.length hE.out
      have h10 := digs_length 10 x
      simp only [List.length_append] at this
      have := hl.out
      omega⟩
    by_cases hj : 128 ≤ y
    · have hor := Aside0.mk (or128 (y % 256) (by omega) (by omega))
      go_wp2_with (at_builtin; go_must (refine app1 (Kd.int .u8) rfl (.tmp 7) (.tmp 11) rfl Try.underlying25 infoU8 rfl (by decide) (by decide) (Go.bits .or .u8 (y % 256) 128) rfl rfl rfl hR hC hlen ?_); go_must (intro v1 w1 hr1 hc1))
      go_roundw
      case measure => simp [intOf]; omega
      case rel =>
        have hy' := hy.out
        obtain ⟨m', rfl⟩ : ∃ m', m = m' + 1 := by
          rcases m with _ | m'
          · simp at hy'; omega
          · exact ⟨m', rfl⟩
        refine ⟨y / 128, m', _, by go_num, by omega, by omega, ⟨?_, by omega⟩, hr1, ⟨?_⟩, hc1⟩
        · have hp : (128 : Int) ^ (m' + 1 + 1) = 128 * 128 ^ (m' + 1) := by rw [Int.pow_succ, Int.mul_comm]
          rw [hp] at hy'; omega
        · rw [← hE.out, List.append_assoc, hor.out]
          congr 1
          rw [digs.eq_2 y, if_neg (by omega)]
          have : y % 256 % 128 = y % 128 := by omega
          rw [this]; rfl
    · have hy2 : y < 128 := by omega
      go_wp2_with (at_builtin; go_must (refine app1 (Kd.int .u8) rfl (.tmp 15) (.tmp 18) rfl Try.underlying25 infoU8 rfl (by decide) (by decide) y rfl rfl rfl hR hC hlen ?_); go_must (intro v1 w1 hr1 hc1))
      go_ret
      have h := hr1.out
      refine ⟨_, rfl, ?_, hc1.out⟩
      rw [← hE.out, digs.eq_2, if_pos hy2]
      exact h

/-- A writer: the pointer's block, the bytes that it holds, in blocks of F. -/
def Wr (w : World) (F : Nat → Prop) (g : Nat) (l : List Int) : Prop := ∃ v, w.heap[g]? = some (.cells #[v] 88 (0, 0)) ∧ F g ∧ Kd.R (Kd.int .u8) 5 w 0 (fun k => F k ∧ k ≠ g) v l
theorem Wr.chg {w w' : World} {F S : Nat → Prop} {g : Nat} {l : List Int} (h : Wr w F g l) (hc : Chg S w w') (hd : ∀ k, k < w.heap.size → F k → ¬ S k) : Wr w' F g l := by
  obtain ⟨v, hb, hg, hr⟩ := h
  exact ⟨v, hc.blk hb (hd g (blk_lt hb) hg), hg, R_chg hr hc (fun k hk ho => hd k hk ho.1)⟩
theorem Wr.mono {w : World} {F F' : Nat → Prop} {g : Nat} {l : List Int} (h : Wr w F g l) (hf : ∀ k, k < w.heap.size → F k → F' k) : Wr w F' g l := by
  obtain ⟨v, hb, hg, hr⟩ := h
  exact ⟨v, hb, hf g (blk_lt hb) hg, Kd.R_mono (Kd.R_bound hr) (fun k hk => ⟨hf k hk.2.2.1 hk.1.1, hk.1.2⟩)⟩
theorem Wr.put {w w1 : World} {F : Nat → Prop} {g : Nat} {l' : List Int} {v v1 : Value} (hb : w.heap[g]? = some (.cells #[v] 88 (0, 0))) (hg : F g)
    (hr : Kd.R (Kd.int .u8) 5 w1 0 (New (fun k => F k ∧ k ≠ g) w w1) v1 l') (hc : Chg (fun k => F k ∧ k ≠ g) w w1) :
    Wr (w1.setCell ⟨g, 0, none⟩ v1) (New F w (w1.setCell ⟨g, 0, none⟩ v1)) g l' ∧ Chg F w (w1.setCell ⟨g, 0, none⟩ v1) := by
  have hb1 := hc.blk hb (fun h => h.2 rfl)
  have hlt := blk_lt hb
  refine ⟨⟨v1, ?_, .inl hg, ?_⟩, (hc.mono (fun _ _ h => h.1)).setCell (fun _ => hg) _⟩
  · have := blk_set hb1 0 v1
    simpa using this
  · refine Kd.R_mono (Kd.R_far hr (p := ⟨g, 0, none⟩) (fun k hk => ?_) v1) (fun k hk => ⟨?_, ?_⟩)
    · rcases hk with h | h
      · exact h.2
      · simp; omega
    · rcases hk with h | h
      · exact .inl h.1
      · exact .inr ⟨h.1, by simpa [World.setCell] using h.2⟩
    · rcases hk with h | h
      · exact h.2
      · omega
theorem Wr.cell {w : World} {g : Nat} {v : Value} (hb : w.heap[g]? = some (.cells #[v] 88 (0, 0))) : w.cell? ⟨g, 0, none⟩ = some v ∧ w.frozen? ⟨g, 0, none⟩ = false := ⟨blk_cell hb 0, blk_frozen hb 0⟩

theorem wr_byte (w : World) (F : Nat → Prop) (g : Nat) (l : List Int) (x : Int) (hw : Wr w F g l) (h0 : 0 ≤ x) (h1 : x < 256) (hl : l.length < 140737488355000) :
    Calls Try.prog 32 #[.pointer (some ⟨g, 0, none⟩), .int .u8 x] w fun e w' => e = .returned (.tuple #[]) ∧ Wr w' (New F w w') g (l ++ be x 1) ∧ Chg F w w' := by
  obtain ⟨v, hb0, hg, hr0⟩ := hw
  obtain ⟨hc0, hf0⟩ := Wr.cell hb0
  have hb := Aside0.mk hb0
  have hr := Aside0.mk hr0
  have hgF := Aside0.mk hg
  have hlA := Aside0.mk hl
  clear hb0 hg hr0 hl
  go_enter Try.func32, Try.ntmps32
  go_wp2_with (go_at_call 68; go_must (refine (bytesOf8 _ (fun k => F k ∧ k ≠ g) v l x 1 hr.out h0 h1 (by omega) (by omega) hlA.out).mono ?_); go_must (rintro e w1 ⟨v1, rfl, hr1, hc1⟩); go_must (obtain ⟨A1, n1, cap1, rfl⟩ := R_sl hr1); go_must (replace hr1 := Aside0.mk hr1); go_must (replace hc1 := Aside0.mk hc1); go_must (obtain ⟨hcell1, hfr1⟩ := Wr.cell (hc1.out.blk hb.out (fun h => h.2 rfl))))
  go_end0
  exact ⟨rfl, Wr.put hb.out hgF.out hr1.out hc1.out⟩

theorem wr_word (w : World) (F : Nat → Prop) (g : Nat) (l : List Int) (x : Int) (hw : Wr w F g l) (h0 : 0 ≤ x) (hl : l.length < 140737488355000) :
    Calls Try.prog 36 #[.pointer (some ⟨g, 0, none⟩), .int .u64 x] w fun e w' => e = .returned (.tuple #[]) ∧ Wr w' (New F w w') g (l ++ be x 8) ∧ Chg F w w' := by
  obtain ⟨v, hb0, hg, hr0⟩ := hw
  obtain ⟨hc0, hf0⟩ := Wr.cell hb0
  have hb := Aside0.mk hb0
  have hr := Aside0.mk hr0
  have hgF := Aside0.mk hg
  have hlA := Aside0.mk hl
  clear hb0 hg hr0 hl
  go_enter Try.func36, Try.ntmps36
  go_wp2_with (go_at_call 69; go_must (refine (bytesOf64 _ (fun k => F k ∧ k ≠ g) v l x 8 hr.out h0 (by omega) (by omega) hlA.out).mono ?_); go_must (rintro e w1 ⟨v1, rfl, hr1, hc1⟩); go_must (obtain ⟨A1, n1, cap1, rfl⟩ := R_sl hr1); go_must (replace hr1 := Aside0.mk hr1); go_must (replace hc1 := Aside0.mk hc1); go_must (obtain ⟨hcell1, hfr1⟩ := Wr.cell (hc1.out.blk hb.out (fun h => h.2 rfl))))
  go_end0
  exact ⟨rfl, Wr.put hb.out hgF.out hr1.out hc1.out⟩

theorem wr_uint (w : World) (F : Nat → Prop) (g : Nat) (l : List Int) (x : Int) (hw : Wr w F g l) (h0 : 0 ≤ x) (h1 : x ≤ 18446744073709551615) (hl : l.length < 140737488355000) :
    Calls Try.prog 33 #[.pointer (some ⟨g, 0, none⟩), .int .u64 x] w fun e w' => e = .returned (.tuple #[]) ∧ Wr w' (New F w w') g (l ++ digs x 10) ∧ Chg F w w' := by
  obtain ⟨v, hb0, hg, hr0⟩ := hw
  obtain ⟨hc0, hf0⟩ := Wr.cell hb0
  have hb := Aside0.mk hb0
  have hr := Aside0.mk hr0
  have hgF := Aside0.mk hg
  have hlA := Aside0.mk hl
  clear hb0 hg hr0 hl
  have hx1 := Aside0.mk h1
  clear h1
  go_enter Try.func33, Try.ntmps33
  go_wp2_with (go_at_call 40; go_must (refine (digits64 _ (fun k => F k ∧ k ≠ g) v l x hr.out h0 hx1.out hlA.out).mono ?_); go_must (rintro e w1 ⟨v1, rfl, hr1, hc1⟩); go_must (obtain ⟨A1, n1, cap1, rfl⟩ := R_sl hr1); go_must (replace hr1 := Aside0.mk hr1); go_must (replace hc1 := Aside0.mk hc1); go_must (obtain ⟨hcell1, hfr1⟩ := Wr.cell (hc1.out.blk hb.out (fun h => h.2 rfl))))
  go_end0
  exact ⟨rfl, Wr.put hb.out hgF.out hr1.out hc1.out⟩

/-- A number with a sign, folded. -/
def fold (x : Int) : Int := if 0 ≤ x then 2 * x else -2 * x - 1
theorem fold_range (x : Int) (h0 : -9223372036854775808 ≤ x) (h1 : x ≤ 9223372036854775807) : 0 ≤ fold x ∧ fold x ≤ 18446744073709551615 := by unfold fold; split <;> omega
theorem zig (x : Int) (h0 : -9223372036854775808 ≤ x) (h1 : x ≤ 9223372036854775807) : bits .xor .u64 (IntKind.u64.wrap (IntKind.u64.wrap x * 2)) (IntKind.u64.wrap (x / 9223372036854775808)) = fold x := by
  have w64 : ∀ n : Int, IntKind.u64.wrap n = n % 18446744073709551616 := fun n => by simp [IntKind.wrap, IntKind.bits, IntKind.signed]
  rw [w64, w64, w64]
  by_cases h : 0 ≤ x
  · have e1 : x % 18446744073709551616 * 2 % 18446744073709551616 = 2 * x := by omega
    have e2 : x / 9223372036854775808 % 18446744073709551616 = 0 := by omega
    rw [e1, e2, fold, if_pos h]
    show IntKind.u64.wrap ((BitVec.ofInt 64 (2 * x) ^^^ BitVec.ofInt 64 0).toNat : Int) = _
    rw [w64]
    simp
    omega
  · have e1 : x % 18446744073709551616 * 2 % 18446744073709551616 = 2 * x + 18446744073709551616 := by omega
    have e2 : x / 9223372036854775808 % 18446744073709551616 = 18446744073709551615 := by omega
    rw [e1, e2, fold, if_neg h]
    show IntKind.u64.wrap ((BitVec.ofInt 64 (2 * x + 18446744073709551616) ^^^ BitVec.ofInt 64 18446744073709551615).toNat : Int) = _
    rw [w64, show BitVec.ofInt 64 18446744073709551615 = BitVec.allOnes 64 from by decide, BitVec.xor_allOnes, BitVec.toNat_not]
    simp
    omega
theorem wr_int (w : World) (F : Nat → Prop) (g : Nat) (l : List Int) (x : Int) (hw : Wr w F g l) (h0 : -9223372036854775808 ≤ x) (h1 : x ≤ 9223372036854775807) (hl : l.length < 140737488355000) :
    Calls Try.prog 34 #[.pointer (some ⟨g, 0, none⟩), .int .i64 x] w fun e w' => e = .returned (.tuple #[]) ∧ Wr w' (New F w w') g (l ++ digs (fold x) 10) ∧ Chg F w w' := by
  obtain ⟨v, hb0, hg, hr0⟩ := hw
  obtain ⟨hc0, hf0⟩ := Wr.cell hb0
  have hb := Aside0.mk hb0
  have hr := Aside0.mk hr0
  have hgF := Aside0.mk hg
  have hlA := Aside0.mk hl
  clear hb0 hg hr0 hl
  have hz := Aside0.mk (zig x h0 h1)
  have hfo := Aside0.mk (fold_range x h0 h1)
  clear h0 h1
  go_enter Try.func34, Try.ntmps34
  go_wp2_with (go_at_call 40; go_must (refine (digits64 _ (fun k => F k ∧ k ≠ g) v l _ hr.out (by rw [hz.out]; exact hfo.out.1) (by rw [hz.out]; exact hfo.out.2) hlA.out).mono ?_); go_must (rintro e w1 ⟨v1, rfl, hr1, hc1⟩); go_must (obtain ⟨A1, n1, cap1, rfl⟩ := R_sl hr1); go_must (replace hr1 := Aside0.mk hr1); go_must (replace hc1 := Aside0.mk hc1); go_must (obtain ⟨hcell1, hfr1⟩ := Wr.cell (hc1.out.blk hb.out (fun h => h.2 rfl))))
  go_end0
  have h1 := hr1.out
  rw [hz.out] at h1
  exact ⟨rfl, Wr.put hb.out hgF.out h1 hc1.out⟩

theorem wr_text (w : World) (F : Nat → Prop) (g : Nat) (l : List Int) (s : ByteArray) (hw : Wr w F g l) (hs : s.size ≤ 140737488355328) (hl : l.length + s.size < 140737488355000) :
    Calls Try.prog 38 #[.pointer (some ⟨g, 0, none⟩), .string s] w fun e w' => e = .returned (.tuple #[]) ∧ Wr w' (New F w w') g (l ++ digs s.size 10 ++ bytesOf s) ∧ Chg F w w' := by
  obtain ⟨v, hb0, hg, hr0⟩ := hw
  obtain ⟨hc0, hf0⟩ := Wr.cell hb0
  have hb := Aside0.mk hb0
  have hr := Aside0.mk hr0
  have hgF := Aside0.mk hg
  have hlA := Aside0.mk hl
  clear hb0 hg hr0 hl
  have hsA := Aside0.mk hs
  have hlen : Aside0 ((l ++ digs s.size 10).length + s.size ≤ 140737488355328) := ⟨by have := hlA.out; have := digs_length 10 s.size; simp; omega⟩
  have hle : Aside0 (l.length < 140737488355000) := ⟨by have := hlA.out; omega⟩
  have hsz : Aside0 ((s.size : Int) ≤ 18446744073709551615) := ⟨by have := hsA.out; omega⟩
  go_enter Try.func38, Try.ntmps38
  go_wp2_with (first | (go_at_call 40; go_must (refine (digits64 _ (fun k => F k ∧ k ≠ g) v l _ hr.out (by omega) hsz.out hle.out).mono ?_); go_must (rintro e w1 ⟨v1, rfl, hr1, hc1⟩); go_must (obtain ⟨A1, n1, cap1, rfl⟩ := R_sl hr1); go_must (replace hr1 := Aside0.mk hr1); go_must (replace hc1 := Aside0.mk hc1); go_must (obtain ⟨hcell1, hfr1⟩ := Wr.cell (hc1.out.blk hb.out (fun h => h.2 rfl)))) | (at_builtin; go_must (refine appS rfl (.tmp 12) (.tmp 13) rfl Try.underlying25 Try.underlying9 infoU8 rfl rfl hr1 hc1 hlen ?_); go_must (intro v2 w2 hr2 hc2; obtain ⟨A2, n2, cap2, rfl⟩ := R_sl hr2.out; obtain ⟨hcell2, hfr2⟩ := Wr.cell (hc2.out.blk hb.out (fun h => h.2 rfl)))))
  go_end0
  exact ⟨rfl, Wr.put hb.out hgF.out hr2.out hc2.out⟩

theorem wr_raw (w : World) (F : Nat → Prop) (g : Nat) (l : List Int) (A : Option Addr) (n c : Nat) (ys : List Int) (hw : Wr w F g l) (hy : Kd.C (Kd.int .u8) w A n ys) (hl : l.length + n < 140737488355000) :
    Calls Try.prog 41 #[.pointer (some ⟨g, 0, none⟩), .slice A n c] w fun e w' => e = .returned (.tuple #[]) ∧ Wr w' (New F w w') g (l ++ ys) ∧ Chg F w w' := by
  obtain ⟨v, hb0, hg, hr0⟩ := hw
  obtain ⟨hc0, hf0⟩ := Wr.cell hb0
  have hb := Aside0.mk hb0
  have hr := Aside0.mk hr0
  have hgF := Aside0.mk hg
  have hlA := Aside0.mk hl
  clear hb0 hg hr0 hl
  have hyA := Aside0.mk hy
  clear hy
  have hlen : Aside0 ((l.length + n) * 1 ≤ 140737488355328) := ⟨by have := hlA.out; omega⟩
  have hr' : Aside0 (Kd.R (Kd.int .u8) 5 w 0 (New (fun k => F k ∧ k ≠ g) w w) v l) := ⟨Kd.R_mono hr.out (fun k hk => .inl hk)⟩
  have hc' : Aside0 (Chg (fun k => F k ∧ k ≠ g) w w) := ⟨Chg.refl _ _⟩
  go_enter Try.func41, Try.ntmps41
  go_wp2_with (at_builtin; go_must (refine appN (Kd.int .u8) rfl (.tmp 8) (.tmp 9) rfl Try.underlying25 infoU8 rfl (by decide) (by decide) rfl rfl hr' hyA (fun _ _ h => h) hc' hlen ?_); go_must (intro v1 w1 hr1 hc1; obtain ⟨A1, n1, cap1, rfl⟩ := R_sl hr1.out; obtain ⟨hcell1, hfr1⟩ := Wr.cell (hc1.out.blk hb.out (fun h => h.2 rfl))))
  go_end0
  exact ⟨rfl, Wr.put hb.out hgF.out hr1.out hc1.out⟩

theorem wr_done (w : World) (F : Nat → Prop) (g : Nat) (l : List Int) (hw : Wr w F g l) (hl : l.length ≤ 140737488355328) :
    Calls Try.prog 39 #[.pointer (some ⟨g, 0, none⟩)] w fun e w' => ∃ v, e = .returned v ∧ Kd.R (Kd.int .u8) 5 w' 0 (New (fun _ => False) w w') v l ∧ Chg (fun _ => False) w w' := by
  obtain ⟨v, hb0, hg, hr0⟩ := hw
  obtain ⟨hc0, hf0⟩ := Wr.cell hb0
  obtain ⟨A1, n1, cap1, rfl⟩ := R_sl hr0
  obtain ⟨hn, _, hC⟩ := Kd.R_reads' hr0
  have hCA : Aside0 (Kd.C (Kd.int .u8) w A1 n1 l) := ⟨by rw [hn]; exact hC⟩
  have hlA : Aside0 (n1 ≤ 140737488355328) := ⟨by omega⟩
  clear hb0 hr0 hn hC hl
  go_enter Try.func39, Try.ntmps39
  go_wp2_with (go_at_call 57; go_must (refine (clone_bytes _ A1 n1 cap1 l hCA.out hlA.out).mono ?_); go_must (rintro e w1 ⟨v1, rfl, hr1, hc1⟩); go_must (replace hr1 := Aside0.mk hr1); go_must (replace hc1 := Aside0.mk hc1))
  go_ret
  exact ⟨_, rfl, hr1.out, hc1.out⟩

theorem wr_new (w : World) :
    Calls Try.prog 31 #[] w fun e w' => e = .returned (.pointer (some ⟨w.heap.size, 0, none⟩)) ∧ Wr w' (fun k => k = w.heap.size) w.heap.size [] ∧ w' = w.alloc (.cells #[.slice none 0 0] 88) := by
  go_enter Try.func31, Try.ntmps31
  go_wp2
  go_ret
  refine ⟨rfl, ⟨_, heap_alloc_new w _, rfl, Kd.R_nil _ _ _ _ _⟩, rfl⟩

end Go.Proofs.Ytbheebcjbolboaa.K
