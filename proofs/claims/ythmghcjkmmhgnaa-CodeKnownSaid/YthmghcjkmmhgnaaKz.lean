import Derived.Test.YthmghcjkmmhgnaaFd
import Derived.Test.YthmghcjkmmhgnaaFy
import Derived.Test.YthmghcjkmmhgnaaCz
import Derived.Test.YthmghcjkmmhgnaaCk
import Derived.BigQuiet
import Derived.IntWalk
import Derived.Deep.RegionHeld3
import Derived.Test.YthmghcjkmmhgnaaNz
import Derived.Lib.SlBytesConst
namespace Go.Proofs.Ythmghcjkmmhgnaa.K
open Go.RowKit Go.Proofs.YthmghcjkmmhgnaaW.PrintWords Go.Proofs.YthmghcjkmmhgnaaW.PrintLast Go.Proofs.YthmghcjkmmhgnaaW.PrintMore
set_option linter.unusedVariables false
set_option linter.unusedSimpArgs false
set_option maxRecDepth 100000

theorem kc_num (w : World) (x : Int) : Calls Try.prog 32 #[.int .i64 x] w fun e w' => e = .returned (.int .i64 x) ∧ w = w' := by
  go_enter Try.func32, Try.ntmps32
  go_wp2
  go_ret
  exact ⟨rfl, rfl⟩
theorem law_reads (w : World) (A : Option Addr) (n cap : Nat) (bs : List Int) (hC : Kd.C (Kd.int .u8) w A n bs) (hby : ∀ c ∈ bs, 0 ≤ c ∧ c < 256) (hn : bs.length ≤ 140737488355328) :
    Calls Try.prog 65 #[.slice A n cap] w fun e w' => e = .returned (.bool true) ∧ Chg (fun _ => False) w w' := by
  have e0 := hC.1
  subst e0
  have hCA := Aside0.mk hC
  have hbyA := Aside0.mk hby
  clear hC hby
  go_enter Try.func65, Try.ntmps65
  go_wp2_with (first | (go_at_call 35; go_must (refine (ref_Decode _ A bs.length cap bs hCA.out hbyA.out (by omega)).mono ?_); go_must (rintro e w1 ⟨v1, rfl, hr1, hc1⟩); go_must (obtain ⟨A1, n1, cap1, rfl⟩ := R_sl hr1); go_must (replace hr1 := Aside0.mk hr1); go_must (replace hc1 := Aside0.mk hc1)) | (go_at_call 37; go_must (refine (code_Decode _ A bs.length cap bs (C_chg hCA.out (hc1.out.below (fun _ _ h => h))) hbyA.out (by omega)).mono ?_); go_must (rintro e w2 ⟨v2, rfl, hr2, hc2⟩); go_must (obtain ⟨A2, n2, cap2, rfl⟩ := R_sl hr2); go_must (have p1 := Aside0.mk (R_C (R_chg hr1.out hc2 (fun _ _ _ h => h)))); go_must (have p2 := Aside0.mk (R_C hr2)); go_must (clear hr2 hr1); go_must (replace hc2 := Aside0.mk hc2)) | (go_at_call 32; go_must (refine (kc_num _ _).mono ?_); go_must (rintro e w9 ⟨rfl, rfl⟩)) | (go_at_call 38; go_must (refine (same_code _ A2 A1 n2 n1 cap2 cap1 _ p2.out p1.out).mono ?_); go_must (rintro e w3 ⟨rfl, hc3⟩); go_must (replace hc3 := Aside0.mk hc3)))
  go_ret
  exact ⟨rfl, (hc1.out.trans hc2.out (fun _ _ h => h)).trans hc3.out (fun _ _ h => h)⟩
def edgesL : List Int := [-9223372036854775808, -1, 0, 1, 2, 7, 8, 9, 15, 16, 17, 24, 31, 32, 33, 63, 64, 65, 127, 128, 129, 511, 512, 513, 1999, 2000, 2001, 1099511627776, 9223372036854775807]
theorem edges_range : ∀ x ∈ edgesL, -9223372036854775808 ≤ x ∧ x ≤ 9223372036854775807 := by decide
theorem C_i64 {w : World} {g : Nat} {t : TypeId} {l : List Int} (h : w.heap[g]? = some (.cells (l.map (Value.int .i64)).toArray t (0, 0))) (hl : l.length ≤ 9223372036854775807) : Kd.C (Kd.int .i64) w (some ⟨g, 0, none⟩) l.length l := by
  refine ⟨rfl, hl, fun _ => ⟨⟨g, 0, none⟩, rfl, fun j x hx => ?_⟩⟩
  refine ⟨[.int .i64 x], rfl, rfl, fun i u hu => ?_⟩
  have hadd : ∀ m, (⟨g, 0, none⟩ : Addr).add m = ⟨g, m, none⟩ := fun m => by unfold Addr.add; split <;> simp_all
  rw [hadd]
  match i, hu with
  | 0, hu =>
    simp at hu
    subst hu
    have e1 : (Kd.int .i64).sz = 1 := rfl
    simp [World.cell?, h, e1, hx]
theorem code_edges (w : World) : Calls Try.prog 64 #[] w fun e w' => ∃ g, e = .returned (.slice (some ⟨g, 0, none⟩) 29 29) ∧ Kd.C (Kd.int .i64) w' (some ⟨g, 0, none⟩) 29 edgesL ∧ Chg (fun _ => False) w w' := by
  go_enter Try.func64, Try.ntmps64
  go_wp2
  go_ret
  exact ⟨_, rfl, C_i64 (l := edgesL) (heap_alloc_new w _) (by decide), (Chg.refl _ w).alloc _⟩
theorem num_at {w : World} {A : Option Addr} {n : Nat} {l : List Int} (h : Kd.C (Kd.int .i64) w A n l) (i : Nat) (h1 : i < n) : ∃ ad x, A = some ad ∧ x ∈ l ∧ w.cell? (ad.add i) = some (.int .i64 x) := by
  have hl : i < l.length := by have := h.1; omega
  obtain ⟨ad, c, e, _, hK, hc0⟩ := Kd.C_get h 0 (i : Int) (by omega) (by omega)
  refine ⟨ad, l.getD i 0, e, ?_, ?_⟩
  · rw [List.getD_eq_getElem?_getD, List.getElem?_eq_getElem hl]; exact List.getElem_mem hl
  · have hk : c = [Value.int .i64 (l.getD i 0)] := hK
    have := hc0 0 _ (by rw [hk]; rfl)
    have e1 : (Kd.int .i64).sz = 1 := rfl
    simpa [e1] using this
theorem blk_al {W : World} {g : Nat} {x : Obj} (h : W.heap[g]? = some x) (o : Obj) : (W.alloc o).heap[g]? = some x := by
  exact ((Chg.refl (fun _ => False) W).alloc o).blk h (fun h => h)
theorem chgK0 {w w' : World} (h : Drawn0 w w') : Chg (fun _ => False) w w' := chg_drawn0 h
theorem wrapU_range (a : Int) : 0 ≤ IntKind.u64.wrap a ∧ IntKind.u64.wrap a ≤ 18446744073709551615 := by
  simp [IntKind.wrap, IntKind.bits, IntKind.signed]; omega
def putW (op a : Int) : List Int := op :: (if (rowP op).kind = 1 then digs (fold a) 10 else if (rowP op).kind = 0 then [] else digs (IntKind.u64.wrap a) 10)
theorem ref_PutW (w : World) (F : Nat → Prop) (v : Value) (l : List Int) (op a : Int) (hr0 : Kd.R (Kd.int .u8) 5 w 0 F v l) (hop0 : 0 ≤ op) (hop1 : op < 256) (a0 : -9223372036854775808 ≤ a) (a1 : a ≤ 9223372036854775807) (hl0 : l.length < 140737488354000) :
    Calls Try.prog 60 #[v, .agg #[.int .i64 op, .int .i64 a]] w fun e w' => ∃ v', e = .returned v' ∧ Kd.R (Kd.int .u8) 5 w' 0 (New F w w') v' (l ++ putW op a) ∧ Chg F w w' := by
  obtain ⟨F', hF', hrn, hsub⟩ : ∃ F' : Nat → Prop, (∀ k, F' k → k < w.heap.size) ∧ Kd.R (Kd.int .u8) 5 w 0 F' v l ∧ ∀ k, F' k → F k := ⟨fun k => F k ∧ k < w.heap.size, fun _ h => h.2, Kd.R_mono (Kd.R_bound hr0) (fun k hk => ⟨hk.1, hk.2.2.1⟩), fun _ h => h.1⟩
  suffices h : Calls Try.prog 60 #[v, .agg #[.int .i64 op, .int .i64 a]] w fun e w' => ∃ v', e = .returned v' ∧ Kd.R (Kd.int .u8) 5 w' 0 (New F' w w') v' (l ++ putW op a) ∧ Chg F' w w' from
    h.mono (fun e w' ⟨v', e1, e2, e3⟩ => ⟨v', e1, Kd.R_mono e2 (fun k hk => hk.imp (hsub k) id), e3.mono (fun k _ => hsub k)⟩)
  clear hsub hr0
  have hr0 := hrn
  clear hrn
  obtain ⟨A, n, cap, rfl⟩ := R_sl hr0
  obtain ⟨b0, b1, _, _, _, _⟩ := rowP_bounds op
  have hopc : Aside0 (∀ W, Calls Try.prog 20 #[.int .i64 op] W _) := ⟨fun W => ref_Operand W op⟩
  have hE : Aside0 (putW op a = op :: (if (rowP op).kind = 1 then digs (fold a) 10 else if (rowP op).kind = 0 then [] else digs (IntKind.u64.wrap a) 10)) := ⟨rfl⟩
  generalize putW op a = pp at hE ⊢
  generalize (rowP op).kind = kd at hopc hE b0 b1
  generalize okP op = ok at hopc
  have hr : Aside0 (Kd.R (Kd.int .u8) 5 (w.alloc (.cells #[.int .i64 op, .int .i64 a] 35)) 0 (New F' w (w.alloc (.cells #[.int .i64 op, .int .i64 a] 35))) (.slice A n cap) l) := ⟨Kd.R_mono (R_chg hr0 ((Chg.refl (fun _ => False) w).alloc _) (fun _ _ _ h => h)) (fun k hk => .inl hk)⟩
  have hr2 : Aside0 (Kd.R (Kd.int .u8) 5 (w.alloc (.cells #[.int .i64 op, .int .i64 a] 35)) 0 (New F' (w.alloc (.cells #[.int .i64 op, .int .i64 a] 35)) (w.alloc (.cells #[.int .i64 op, .int .i64 a] 35))) (.slice A n cap) l) := ⟨Kd.R_mono (R_chg hr0 ((Chg.refl (fun _ => False) w).alloc _) (fun _ _ _ h => h)) (fun k hk => .inl hk)⟩
  have hc2 := Aside0.mk (Chg.refl F' (w.alloc (.cells #[.int .i64 op, .int .i64 a] 35)))
  have hc0 := Aside0.mk ((Chg.refl F' w).alloc (.cells #[.int .i64 op, .int .i64 a] 35))
  have hlen : Aside0 ((l.length + 1) * 1 ≤ 140737488355328) := ⟨by omega⟩
  have hlen2 : Aside0 ((l ++ [op]).length < 140737488355000) := ⟨by simp; omega⟩
  have hbx := Aside0.mk (heap_alloc_new w (.cells #[.int .i64 op, .int .i64 a] 35))
  have hFA := Aside0.mk hF'
  have u0 : IntKind.u8.wrap op = op := by simp [IntKind.wrap, IntKind.bits, IntKind.signed]; omega
  clear hr0 hF'
  have fin : ∀ {w1 w2 : World} {v2 : Value} {ys : List Int}, Chg F' (w.alloc (.cells #[.int .i64 op, .int .i64 a] 35)) w1 → Kd.R (Kd.int .u8) 5 w2 0 (New (New F' (w.alloc (.cells #[.int .i64 op, .int .i64 a] 35)) w1) w1 w2) v2 ys → Chg (New F' (w.alloc (.cells #[.int .i64 op, .int .i64 a] 35)) w1) w1 w2 → Kd.R (Kd.int .u8) 5 w2 0 (New F' w w2) v2 ys ∧ Chg F' w w2 := by
    intro w1 w2 v2 ys h1 h2 h3
    have z1 := h1.size
    have z3 := h3.size
    simp at z1
    refine ⟨Kd.R_mono h2 (fun k hk => ?_), (((Chg.refl F' w).alloc _).trans h1 (fun _ _ h => h)).trans h3 (fun i hi h => ?_)⟩
    · rcases hk with (h | h) | h
      · exact .inl h
      · simp at h; exact .inr ⟨by omega, by omega⟩
      · exact .inr ⟨by omega, by omega⟩
    · rcases h with h | h
      · exact h
      · simp at h; omega
  replace fin := Aside0.mk @fin
  by_cases k1 : kd = 1
  · subst k1
    go_enter Try.func60, Try.ntmps60
    go_wp2_with (first | (go_at_call 20; go_must (refine (hopc.out _).mono ?_); go_must (rintro e w0 ⟨rfl, rfl⟩)) | (at_builtin; go_must (refine app1 (Kd.int .u8) rfl (.tmp 13) (.tmp 17) rfl Try.underlying43 infoU8 rfl (by decide) (by decide) (op) rfl (by rw [sz1]; rfl) rfl hr2 hc2 hlen ?_); go_must (intro v1 w1 hr1 hc1); go_must (obtain ⟨A1, n1, cap1, rfl⟩ := R_sl hr1.out); go_must (have hb1 := hc1.out.blk hbx.out (fun h => Nat.lt_irrefl _ (hFA.out _ h))); go_must (have x1 : w1.cell? ⟨w.heap.size, 1, none⟩ = some (.int .i64 a) := blk_cell hb1 1); go_must (clear hb1)) | (go_at_call 87; go_must (refine (ref_PutInt _ _ _ _ a hr1.out a0 a1 hlen2.out).mono ?_); go_must (rintro e w2 ⟨v2, rfl, hr3, hc3⟩); go_must (obtain ⟨A2, n2, cap2, rfl⟩ := R_sl hr3); go_must (replace hr3 := Aside0.mk hr3); go_must (replace hc3 := Aside0.mk hc3)))
    go_ret
    rw [hE.out]
    obtain ⟨g1, g2⟩ := fin.out hc1.out hr3.out hc3.out
    exact ⟨_, rfl, by simpa using g1, g2⟩
  · have d1 : (kd == 1) = false := by simpa using k1
    by_cases k0 : kd = 0
    · subst k0
      go_enter Try.func60, Try.ntmps60
      go_wp2_with (first | (go_at_call 20; go_must (refine (hopc.out _).mono ?_); go_must (rintro e w0 ⟨rfl, rfl⟩)) | (at_builtin; go_must (refine app1 (Kd.int .u8) rfl (.tmp 13) (.tmp 17) rfl Try.underlying43 infoU8 rfl (by decide) (by decide) (op) rfl (by rw [sz1]; rfl) rfl hr2 hc2 hlen ?_); go_must (intro v1 w1 hr1 hc1); go_must (obtain ⟨A1, n1, cap1, rfl⟩ := R_sl hr1.out); go_must (have hb1 := hc1.out.blk hbx.out (fun h => Nat.lt_irrefl _ (hFA.out _ h))); go_must (have x1 : w1.cell? ⟨w.heap.size, 1, none⟩ = some (.int .i64 a) := blk_cell hb1 1); go_must (clear hb1)))
      go_ret
      rw [hE.out]
      obtain ⟨g1, g2⟩ := fin.out hc1.out (Kd.R_mono hr1.out (fun k hk => .inl hk)) (Chg.refl _ _)
      exact ⟨_, rfl, g1, g2⟩
    · have d0 : (kd == 0) = false := by simpa using k0
      have d2 : (kd != 0) = true := by simpa using k0
      have hw0 : 0 ≤ IntKind.u64.wrap a ∧ IntKind.u64.wrap a ≤ 18446744073709551615 := wrapU_range a
      have hE2 : Aside0 (pp = op :: digs (IntKind.u64.wrap a) 10) := ⟨by rw [hE.out, if_neg k1, if_neg k0]⟩
      clear k1 k0
      go_enter Try.func60, Try.ntmps60
      go_wp2_with (first | (go_at_call 20; go_must (refine (hopc.out _).mono ?_); go_must (rintro e w0 ⟨rfl, rfl⟩)) | (at_builtin; go_must (refine app1 (Kd.int .u8) rfl (.tmp 13) (.tmp 17) rfl Try.underlying43 infoU8 rfl (by decide) (by decide) (op) rfl (by rw [sz1]; rfl) rfl hr2 hc2 hlen ?_); go_must (intro v1 w1 hr1 hc1); go_must (obtain ⟨A1, n1, cap1, rfl⟩ := R_sl hr1.out); go_must (have hb1 := hc1.out.blk hbx.out (fun h => Nat.lt_irrefl _ (hFA.out _ h))); go_must (have x1 : w1.cell? ⟨w.heap.size, 1, none⟩ = some (.int .i64 a) := blk_cell hb1 1); go_must (clear hb1)) | (go_at_call 88; go_must (refine (ref_PutUint _ _ _ _ (IntKind.u64.wrap a) hr1.out hw0.1 hw0.2 hlen2.out).mono ?_); go_must (rintro e w2 ⟨v2, rfl, hr3, hc3⟩); go_must (obtain ⟨A2, n2, cap2, rfl⟩ := R_sl hr3); go_must (replace hr3 := Aside0.mk hr3); go_must (replace hc3 := Aside0.mk hc3)))
      go_ret
      rw [hE2.out]
      obtain ⟨g1, g2⟩ := fin.out hc1.out hr3.out hc3.out
      exact ⟨_, rfl, by simpa using g1, g2⟩


theorem putW_byte {op : Int} (h0 : 0 ≤ op) (h1 : op < 256) (a : Int) (a0 : -9223372036854775808 ≤ a) (a1 : a ≤ 9223372036854775807) : ∀ c ∈ putW op a, 0 ≤ c ∧ c < 256 := by
  intro c hc
  unfold putW at hc
  rcases List.mem_cons.1 hc with rfl | hc
  · exact ⟨h0, h1⟩
  · split at hc
    · exact digs_byte 10 _ (fold_range a a0 a1).1 c hc
    · split at hc
      · cases hc
      · exact digs_byte 10 _ (wrapU_range a).1 c hc
theorem putW_len (op a : Int) : ([] ++ putW op a).length ≤ 140737488355328 := by
  have h : ∀ x, (digs x 10).length ≤ 10 := fun x => digs_length 10 x
  simp only [List.nil_append, putW, List.length_cons]
  split
  · have := h (fold a); omega
  · split
    · simp
    · have := h (IntKind.u64.wrap a); omega
theorem encP_zeros (n : Nat) (hn : n ≤ 2000) : (encP (List.replicate n (⟨0, 0⟩ : Instr))).2 = 0 := by
  rw [encP_of (by simpa using hn) ?_]
  induction n with
  | zero => rfl
  | succ n ih =>
    rw [List.replicate_succ', okL_snoc, ih (by omega)]
    decide +kernel
theorem encP_spoilt : (encP (List.replicate 1999 (⟨0, 0⟩ : Instr) ++ [⟨99, 0⟩])).2 = 7 := by
  rw [encP_eq, if_neg (by simp), if_neg ?_]
  · rw [okL_snoc]
    have : efP 99 0 = false := by decide +kernel
    rw [this, Bool.and_false]
    decide
theorem encP_many (l : List Instr) (h : 2000 < l.length) : (encP l).2 = 5 := by rw [encP_eq, if_pos h]

end Go.Proofs.Ythmghcjkmmhgnaa.K

namespace Go.Proofs.Ythmghcjkmmhgnaa.K
open Go.RowKit Go.Proofs.YthmghcjkmmhgnaaW.PrintWords Go.Proofs.YthmghcjkmmhgnaaW.PrintLast Go.Proofs.YthmghcjkmmhgnaaW.PrintMore
set_option linter.unusedVariables false
set_option linter.unusedSimpArgs false
set_option maxRecDepth 100000

theorem put1_list {l : List Value} {i : Nat} {a b : Value} (h : i * 2 + 2 ≤ l.length) (hb : l[i * 2 + 1]? = some b) : l.set (i * 2) a = l.take (i * 2) ++ [a, b] ++ l.drop (i * 2 + 2) := by
  rw [← put2_list h]
  apply List.ext_getElem?
  intro q
  rw [List.getElem?_set (l := l.set (i * 2) a)]
  by_cases hq : i * 2 + 1 = q
  · subst hq
    rw [if_pos rfl, if_pos (by simp; omega), List.getElem?_set_ne (by omega), hb]
  · rw [if_neg hq]
theorem RowI.put1 {W : World} {g n c i : Nat} {xs : List Instr} {op a : Int} (x : Int) (h : RowI W (some ⟨g, 0, none⟩, n, c) xs) (hi : i < n) (hx : xs[i]? = some ⟨op, a⟩) : RowI (W.setCell ⟨g, i * 2, none⟩ (.int .i64 x)) (some ⟨g, 0, none⟩, n, c) (xs.set i ⟨x, a⟩) := by
  obtain ⟨cur, hg, hcs, hnc, hcm, hr, hn⟩ := h.block
  have hc1 := (RowI.cell h rfl hx).2
  rw [blk_cell hg] at hc1
  have hb := blk_set hg (i * 2) (.int .i64 x)
  refine ⟨fun k hk => hk.symm, ((cur.toList.take (n * 2)).set (i * 2) (.int .i64 x)), ⟨?_, ?_⟩, ?_⟩
  · have := hr.1
    rw [List.length_set, List.length_set, this]
    rfl
  · right
    refine ⟨g, c, _, by rw [List.length_set, ← hn]; rfl, Nat.zero_le _, hb, by rw [List.length_set, ← hn]; exact hnc, hcm, by rw [Array.size_setIfInBounds]; exact hcs, ?_⟩
    rw [List.length_set, ← hn]
    show (List.take (n * 2) _) = _
    simp only [Array.toList_setIfInBounds, List.take_set]
  · have hl : n * 2 ≤ cur.toList.length := by rw [Array.length_toList, hcs]; omega
    rw [put1_list (b := .int .i64 a) (by rw [List.length_take]; omega) (by rw [List.getElem?_take, if_pos (by omega), Array.getElem?_toList]; exact hc1)]
    have h2 := Kd.reps_set hr (i := i) (by omega) (x := (⟨x, a⟩ : Instr)) (seg := [.int .i64 x, .int .i64 a]) rfl rfl
    exact h2.imp_ (fun p cs hp => by subst hp; exact kInstr_M _ _ _ _)
theorem long_facts : ∃ L : List Instr, List.replicate 2000 (⟨0, 0⟩ : Instr) = L ∧ L.length = 2000 ∧ (encP L).2 = 0 ∧ (∀ i ∈ L, -9223372036854775808 ≤ i.a ∧ i.a ≤ 9223372036854775807) ∧ L[1999]? = some ⟨0, 0⟩ ∧ (encP (L.set 1999 ⟨99, 0⟩)).2 = 7 ∧
    (∀ i ∈ L.set 1999 ⟨99, 0⟩, -9223372036854775808 ≤ i.a ∧ i.a ≤ 9223372036854775807) ∧ (L.set 1999 ⟨99, 0⟩).length = 2000 ∧ (encP (L.set 1999 ⟨99, 0⟩ ++ [⟨0, 0⟩])).2 = 5 ∧ (∀ i ∈ L.set 1999 ⟨99, 0⟩ ++ [⟨0, 0⟩], -9223372036854775808 ≤ i.a ∧ i.a ≤ 9223372036854775807) := by
  have key : ∀ n : Nat, n ≤ 2000 → 1999 < n → n = 1999 + 1 → ∃ L : List Instr, List.replicate n (⟨0, 0⟩ : Instr) = L ∧ L.length = n ∧ (encP L).2 = 0 ∧ (∀ i ∈ L, i = ⟨0, 0⟩) ∧ L[1999]? = some ⟨0, 0⟩ ∧ L.set 1999 ⟨99, 0⟩ = List.replicate 1999 ⟨0, 0⟩ ++ [⟨99, 0⟩] := by
    intro n hn h1 h2
    refine ⟨_, rfl, List.length_replicate, encP_zeros n hn, fun i hi => List.eq_of_mem_replicate hi, by rw [List.getElem?_replicate, if_pos h1], ?_⟩
    rw [h2, List.replicate_succ', List.set_append_right _ _ (by rw [List.length_replicate]; exact Nat.le_refl _), List.length_replicate, Nat.sub_self]
    rfl
  obtain ⟨L, h1, h2, h3, h4, h5, h6⟩ := key 2000 (Nat.le_refl _) (by decide) rfl
  have hm : ∀ x ∈ L.set 1999 (⟨99, 0⟩ : Instr), x = ⟨0, 0⟩ ∨ x = ⟨99, 0⟩ := fun x hx => (List.mem_or_eq_of_mem_set hx).imp (h4 x) id
  have hz : -9223372036854775808 ≤ (0 : Int) ∧ (0 : Int) ≤ 9223372036854775807 := by decide
  have hl : (L.set 1999 (⟨99, 0⟩ : Instr)).length = 2000 := by rw [List.length_set, h2]
  have hma : ∀ i ∈ L.set 1999 (⟨99, 0⟩ : Instr), -9223372036854775808 ≤ i.a ∧ i.a ≤ 9223372036854775807 := fun i hi => by rcases hm i hi with h | h <;> rw [h] <;> exact hz
  refine ⟨L, h1, h2, h3, fun i hi => by rw [h4 i hi]; exact hz, h5, by rw [h6]; exact encP_spoilt, hma, hl, encP_many _ (by rw [List.length_append, hl]; decide), fun i hi => ?_⟩
  rcases List.mem_append.1 hi with h | h
  · exact hma i h
  · rw [List.mem_singleton.1 h]; exact hz
set_option maxHeartbeats 4000000
theorem law_long (w : World) : Calls Try.prog 66 #[] w fun e w' => e = .returned (.bool true) ∧ Chg (fun _ => False) w w' := by
  go_enter Try.func66, Try.ntmps66
  go_wp2
  go_loopw [1, 2] (fun v i wr => ∃ k : Nat, i = .int .i64 k ∧ k ≤ 2000 ∧ Aside0 (Kd.R kInstr 35 wr 0 (New (fun _ => False) w wr) v (List.replicate k ⟨0, 0⟩)) ∧ Aside0 (Chg (fun _ => False) w wr)) (fun _ i _ => 2000 - (intOf i).toNat)
  case atStart => exact ⟨0, rfl, by omega, ⟨Kd.R_nil _ _ _ _ _⟩, ⟨Chg.refl _ _⟩⟩
  case round =>
    obtain ⟨k, rfl, hk, hR, hCh⟩ := hrel
    by_cases hlt : k < 2000
    · have hk0 : (0 : Int) ≤ k := by omega
      have hk1 : (k : Int) < 2000 := by omega
      have hl : Aside0 (((List.replicate k (⟨0, 0⟩ : Instr)).length + 1) * 16 ≤ 140737488355328) := ⟨by rw [List.length_replicate]; omega⟩
      have ht : Aside0 (List.replicate (k + 1) (⟨0, 0⟩ : Instr) = List.replicate k ⟨0, 0⟩ ++ [⟨0, 0⟩]) := ⟨List.replicate_succ'⟩
      generalize List.replicate k (⟨0, 0⟩ : Instr) = L at hR hl ht
      go_wp2_with (at_builtin; go_must (refine app1 kInstr rfl (.tmp 13) (.tmp 15) rfl Try.underlying22 infoInstr rfl (by decide) (by decide) ⟨0, 0⟩ rfl rfl (kInstr_M _ _ _ _) hR hCh hl ?_); go_must (intro v1 w1 hr1 hc1))
      go_roundw
      case measure => first | (simp [intOf]; done) | (simp [intOf]; omega)
      case rel => exact ⟨k + 1, by go_num, by omega, ⟨by rw [ht.out]; exact hr1.out⟩, hc1⟩
    · obtain rfl : k = 2000 := by omega
      obtain ⟨L, hLL, hLn, hL0, hLa, hL9, hS7, hSa, hSn, hM5, hMa⟩ := long_facts
      rw [hLL] at hR
      replace hLn := Aside0.mk hLn
      replace hL0 := Aside0.mk hL0
      replace hLa := Aside0.mk hLa
      replace hL9 := Aside0.mk hL9
      replace hS7 := Aside0.mk hS7
      replace hSa := Aside0.mk hSa
      replace hSn := Aside0.mk hSn
      replace hM5 := Aside0.mk hM5
      replace hMa := Aside0.mk hMa
      have hl3 : Aside0 (((L.set 1999 ⟨99, 0⟩).length + 1) * 16 ≤ 140737488355328) := ⟨by rw [hSn.out]; decide⟩
      have hMn : Aside0 ((L.set 1999 (⟨99, 0⟩ : Instr) ++ [(⟨0, 0⟩ : Instr)]).length = 2001) := ⟨by rw [List.length_append, hSn.out]; rfl⟩
      have hLb : Aside0 (L.length ≤ 8796093022208) := ⟨by rw [hLn.out]; decide⟩
      have hSb : Aside0 ((L.set 1999 ⟨99, 0⟩).length ≤ 8796093022208) := ⟨by rw [hSn.out]; decide⟩
      have hMb : Aside0 ((L.set 1999 (⟨99, 0⟩ : Instr) ++ [(⟨0, 0⟩ : Instr)]).length ≤ 8796093022208) := ⟨by rw [hMn.out]; decide⟩
      clear hLL
      have hsz := hCh.out.size
      obtain ⟨A0, n0, c0, rfl⟩ := R_sl hR.out
      have p0 : Aside0 (RowI wr (A0, n0, c0) L) := ⟨Kd.R_tight rfl hR.out⟩
      have hN := p0.out.len
      obtain ⟨gx, e1, e2⟩ := p0.out.head (by have := hLn.out; omega)
      have hgx : w.heap.size ≤ gx := (hR.out.1 gx e2).elim False.elim And.left
      simp only at hN e1
      rw [hLn.out] at hN
      have hlt9 : (1999 : Int) < (n0 : Int) := by omega
      have hn0 := Aside0.mk hN
      clear hN
      subst e1
      replace hgx := Aside0.mk hgx
      clear e2 hR hsz
      go_wp2_with (first | (go_at_call 43; refine (code_Encode _ _ n0 c0 L (R_CI p0.out) hLa.out hLb.out).mono ?_; go_must (rintro e w1 ⟨v1, rfl, hr1, hc1⟩); go_must (rw [hL0.out]); go_must (obtain ⟨A1, n1, cap1, rfl⟩ := R_sl hr1); go_must (have p1 := Aside0.mk (row_chgI p0.out hc1 (fun _ _ h => h))); go_must (obtain ⟨q0, _⟩ := RowI.cell p1.out rfl hL9.out); go_must (obtain ⟨_, _, _, _, z0, _⟩ := RowI.cells p1.out (i := 1999) (by have := hn0.out; omega)); go_must (have p2 := Aside0.mk (RowI.put1 99 p1.out (i := 1999) (by have := hn0.out; omega) hL9.out)); go_must (have hc2 := Aside0.mk ((hCh.out.mono (fun _ _ h => h.elim)).trans ((hc1.mono (fun _ _ h => h.elim)).trans ((Chg.refl (fun b => b = gx) w1).setCell (p := ⟨gx, 1999 * 2, none⟩) (fun _ => rfl) (.int .i64 99)) (fun _ _ h => h)) (fun _ _ h => h))); go_must (clear hr1 hc1 p0 p1)) | (go_at_call 43; refine (code_Encode _ _ n0 c0 _ (R_CI p2.out) hSa.out hSb.out).mono ?_; go_must (rintro e w3 ⟨v3, rfl, hr3, hc3⟩); go_must (rw [hS7.out]); go_must (obtain ⟨A3, n3, cap3, rfl⟩ := R_sl hr3); go_must (have p3 := Aside0.mk (row_chgI p2.out hc3 (fun _ _ h => h))); go_must (have hc4 := Aside0.mk (hc2.out.trans hc3 (fun _ _ h => h.elim))); go_must (have hO3 : Aside0 (Kd.R kInstr 35 w3 0 (New (fun b => b = gx) w3 w3) (.slice (some ⟨gx, 0, none⟩) n0 c0) (L.set 1999 ⟨99, 0⟩)) := ⟨Kd.R_mono p3.out (fun k hk => .inl (by unfold slv at hk; simpa [Value.ownBlock] using hk))⟩); go_must (have hF3 := Aside0.mk (Chg.refl (fun b => b = gx) w3)); go_must (clear hr3 hc3 p2 p3)) | (go_at_call 43; refine (code_Encode _ A4 n4 cap4 _ (R_CI hr4.out) hMa.out hMb.out).mono ?_; go_must (rintro e w6 ⟨v6, rfl, hr6, hc6⟩); go_must (rw [hM5.out]); go_must (obtain ⟨A6, n6, cap6, rfl⟩ := R_sl hr6); go_must (have hc7 := Aside0.mk ((hc4.out.trans hc5.out (fun _ _ h => h)).trans hc6 (fun _ _ h => h.elim))); go_must (clear hr6 hc6)) | (at_builtin; go_must (refine app1 kInstr rfl (.tmp 30) (.tmp 32) rfl Try.underlying22 infoInstr rfl (by decide) (by decide) ⟨0, 0⟩ rfl rfl (kInstr_M _ _ _ _) hO3 hF3 hl3 ?_); go_must (intro v4 w4 hr4 hc5); go_must (obtain ⟨A4, n4, cap4, rfl⟩ := R_sl hr4.out)))
      go_ret
      exact ⟨rfl, hc7.out.trans (Chg.refl _ _) (fun _ _ h => h) |>.mono (fun b hb h => by have := hgx.out; omega)⟩

theorem name_size (op : Int) : (rowP op).name.size ≤ 100 := tab_all (fun r => r.name.size ≤ 100) (by decide) (by decide +kernel) op
set_option maxHeartbeats 4000000
theorem law_edged (w : World) : Calls Try.prog 48 #[] w fun e w' => e = .returned (.bool true) ∧ Below w.heap.size w w' := by
  go_enter Try.func48, Try.ntmps48
  go_wp2_with (go_at_call 64; go_must (refine (code_edges _).mono ?_); go_must (rintro e w1 ⟨gl, rfl, hE1, hc1⟩); go_must (replace hE1 := Aside0.mk hE1); go_must (replace hc1 := Aside0.mk hc1))
  go_loopw [2, 3, 4, 5, 6, 7, 8, 9, 10, 11, 12, 13, 14, 15, 16] (fun s2 _ _ _ _ _ _ _ _ _ _ _ _ _ _ wr => ∃ op : Int, s2 = .int .i64 op ∧ -1 ≤ op ∧ op ≤ 70 ∧ Aside0 (Below w1.heap.size w1 wr)) (fun s2 _ _ _ _ _ _ _ _ _ _ _ _ _ _ _ => (70 - intOf s2).toNat)
  case atStart => exact ⟨-1, rfl, by omega, by omega, ⟨Below.refl _ _⟩⟩
  case round =>
    obtain ⟨op, rfl, hm1, h70, hBe⟩ := hrel
    by_cases hlt : op < 70
    · have hE := hE1
      by_cases hop0 : 0 ≤ op
      · have hd : decide (0 ≤ op) = true := by simp; omega
        have hd2 : decide (op ≥ 0) = true := by simp; omega
        have hnm : Aside0 (∀ W, Calls Try.prog 26 #[.int .i64 op] W _) := ⟨fun W => ref_Name W op⟩
        have hn9 : (rowP op).name.size ≤ 100 := name_size op
        generalize (rowP op).name = nm at hnm hn9
        generalize okP op = ok at hnm
        by_cases hsz : 0 < nm.size
        · have hs1 : decide ((0 : Int) < (nm.size : Int)) = true := decide_eq_true (by omega)
          have hs2 : decide ((nm.size : Int) > 0) = true := decide_eq_true (by omega)
          have hs3 : (1 : Int) ≤ nm.size := by omega
          go_wp2_with (first | (go_at_call 4; go_must (refine (law_codeKinds _ op).mono ?_); go_must (rintro e w7 ⟨rfl, hb1⟩); go_must (replace hBe := Aside0.mk (below_then hBe.out hBe.out.size hb1)); go_must (clear hb1)) | (go_at_call 26; go_must (refine (hnm.out _).mono ?_); go_must (rintro e w2 ⟨rfl, rfl⟩)) | (go_at_call 5; go_must (refine (law_codeNames _ op _).mono ?_); go_must (rintro e w3 ⟨rfl, hb3⟩); go_must (replace hBe := Aside0.mk (below_then hBe.out hBe.out.size hb3)); go_must (clear hb3)))
          go_loopw [5, 6, 7, 8, 9, 10, 11, 12, 13, 14, 15, 16] (fun j _ _ _ _ _ _ _ _ _ _ _ wr => ∃ k : Nat, j = .int .i64 k ∧ k ≤ 29 ∧ Aside0 (Below w1.heap.size w1 wr)) (fun j _ _ _ _ _ _ _ _ _ _ _ _ => 29 - (intOf j).toNat)
          case atStart => exact ⟨0, rfl, by omega, hBe⟩
          case round =>
            obtain ⟨k, rfl, hk, hBi⟩ := hrel
            by_cases hlt2 : k < 29
            · have hk0 : (0 : Int) ≤ k := by omega
              have hk1 : (k : Int) < 29 := by omega
              obtain ⟨ad, a, e1, hain, xa⟩ := num_at (Kd.C_below hE.out hBi.out) k hlt2
              injection e1 with e1
              subst e1
              rw [add_plain] at xa
              have ha : Aside0 (-9223372036854775808 ≤ a ∧ a ≤ 9223372036854775807) := ⟨edges_range a hain⟩
              clear hain
              have h1 : Aside0 (∀ W, Calls Try.prog 30 #[.agg #[.int .i64 op, .int .i64 a]] W _) := ⟨fun W => ref_Effect W op a ha.out.1 ha.out.2⟩
              have h2 : Aside0 (∀ W, Calls Try.prog 31 #[.agg #[.int .i64 op, .int .i64 a]] W _) := ⟨fun W => code_Effect W op a⟩
              have h3 : Aside0 (∀ W, Calls Try.prog 33 #[.agg #[.int .i64 op, .int .i64 a]] W _) := ⟨fun W => code_Check W op a⟩
              have h4 : Aside0 (∀ W, Calls Try.prog 34 #[.agg #[.int .i64 op, .int .i64 a]] W _) := ⟨fun W => ref_Check W op a⟩
              generalize chkP op a = ck at h3 h4
              generalize efP op a = ef at h1 h2
              generalize tkP op a = tk at h1 h2
              generalize ptP op a = pt at h1 h2
              have hz0 := Aside0.mk ((Chg.refl (fun _ => False) wr).alloc (.cells #[.int .i64 op, .int .i64 a] 35))
              have hb0 := Aside0.mk (heap_alloc_new wr (.cells #[.int .i64 op, .int .i64 a] 35))
              have one_instr : ∀ j x, [(⟨op, a⟩ : Instr)][j]? = some x → (#[Value.int .i64 op, .int .i64 a])[j * 2]? = some (.int .i64 x.op) ∧ (#[Value.int .i64 op, .int .i64 a])[j * 2 + 1]? = some (.int .i64 x.a) := fun j x hx => by
                match j, hx with
                | 0, hx => simp at hx; subst hx; exact ⟨rfl, rfl⟩
              have one_range : Aside0 (∀ i ∈ [(⟨op, a⟩ : Instr)], -9223372036854775808 ≤ i.a ∧ i.a ≤ 9223372036854775807) := ⟨fun i hi => by simp at hi; subst hi; exact ha.out⟩
              go_wp2_with (first | (go_at_call 30; (refine (h1.out _).mono ?_); (rintro e w1 ⟨rfl, hc1⟩); (have hb1 : Aside0 (w1.heap[wr.heap.size]? = some (.cells #[.int .i64 op, .int .i64 a] 35 (0, 0))) := ⟨by first | exact hc1.blk hb0.out (fun h => h)⟩); (have x10 : w1.cell? ⟨wr.heap.size, 0, none⟩ = some (.int .i64 op) := blk_cell hb1.out 0); (have x11 : w1.cell? ⟨wr.heap.size, 1, none⟩ = some (.int .i64 a) := blk_cell hb1.out 1); (have hz1 : Aside0 (Chg (fun _ => False) wr w1) := ⟨by first | exact hz0.out.trans hc1 (fun _ _ h => h)⟩); clear hc1) | (go_at_call 31; (refine (h2.out _).mono ?_); (rintro e w2 ⟨rfl, hc2⟩); (have hb2 : Aside0 (w2.heap[wr.heap.size]? = some (.cells #[.int .i64 op, .int .i64 a] 35 (0, 0))) := ⟨by first | exact hc2.blk hb1.out (fun h => h)⟩); (have x20 : w2.cell? ⟨wr.heap.size, 0, none⟩ = some (.int .i64 op) := blk_cell hb2.out 0); (have x21 : w2.cell? ⟨wr.heap.size, 1, none⟩ = some (.int .i64 a) := blk_cell hb2.out 1); (have hz2 : Aside0 (Chg (fun _ => False) wr w2) := ⟨by first | exact hz1.out.trans hc2 (fun _ _ h => h)⟩); clear hc2))
              clear h1 h2
              go_region_held3 (fun w' => w'.cell? ⟨wr.heap.size, 0, none⟩ = some (.int .i64 op) ∧ w'.cell? ⟨wr.heap.size, 1, none⟩ = some (.int .i64 a)) (first | exact ⟨x40, x41⟩ | exact ⟨x30, x31⟩ | go_keep) (first | (go_at_call 33; (refine (h3.out _).mono ?_); (rintro e w3 ⟨rfl, hc3⟩); (have hb3 : Aside0 (w3.heap[wr.heap.size]? = some (.cells #[.int .i64 op, .int .i64 a] 35 (0, 0))) := ⟨by first | exact hc3.blk hb2.out (fun h => h) | exact hc3.blk hb4.out (fun h => h)⟩); (have x30 : w3.cell? ⟨wr.heap.size, 0, none⟩ = some (.int .i64 op) := blk_cell hb3.out 0); (have x31 : w3.cell? ⟨wr.heap.size, 1, none⟩ = some (.int .i64 a) := blk_cell hb3.out 1); (have hz3 : Aside0 (Chg (fun _ => False) wr w3) := ⟨by first | exact hz2.out.trans hc3 (fun _ _ h => h) | exact hz2.out.drew.trans hc3 (fun _ _ h => h) | exact hz4.out.trans hc3 (fun _ _ h => h) | exact hz4.out.drew.trans hc3 (fun _ _ h => h)⟩); clear hc3) | (go_at_call 34; (refine (h4.out _).mono ?_); (rintro e w4 ⟨rfl, hc4⟩); (have hb4 : Aside0 (w4.heap[wr.heap.size]? = some (.cells #[.int .i64 op, .int .i64 a] 35 (0, 0))) := ⟨by first | exact hc4.blk hb2.out (fun h => h) | exact hc4.blk hb3.out (fun h => h)⟩); (have x40 : w4.cell? ⟨wr.heap.size, 0, none⟩ = some (.int .i64 op) := blk_cell hb4.out 0); (have x41 : w4.cell? ⟨wr.heap.size, 1, none⟩ = some (.int .i64 a) := blk_cell hb4.out 1); (have hz4 : Aside0 (Chg (fun _ => False) wr w4) := ⟨by first | exact hz2.out.trans hc4 (fun _ _ h => h) | exact hz2.out.drew.trans hc4 (fun _ _ h => h) | exact hz3.out.trans hc4 (fun _ _ h => h) | exact hz3.out.drew.trans hc4 (fun _ _ h => h)⟩); clear hc4) | (go_at_call 32; (refine (kit_Num _ _).mono ?_); (rintro e w9 ⟨rfl, rfl⟩)))
              all_goals (
                go_wp2_with (first | (go_at_call 42; go_must (refine (ref_Encode _ _ 1 1 [⟨op, a⟩] (C_instrs (l := [⟨op, a⟩]) (heap_alloc_new _ _) (by simp) one_instr) one_range.out (by simp)).mono ?_); go_must (rintro e w5 ⟨v5, rfl, hr5, hc5⟩); go_must (obtain ⟨A5, n5, cap5, rfl⟩ := R_sl hr5); (have hb5 : Aside0 (w5.heap[wr.heap.size]? = some (.cells #[.int .i64 op, .int .i64 a] 35 (0, 0))) := ⟨by first | exact hc5.blk (blk_al hb4.out _) (fun h => h) | exact hc5.blk (blk_al hb3.out _) (fun h => h)⟩); (have x50 : w5.cell? ⟨wr.heap.size, 0, none⟩ = some (.int .i64 op) := blk_cell hb5.out 0); (have x51 : w5.cell? ⟨wr.heap.size, 1, none⟩ = some (.int .i64 a) := blk_cell hb5.out 1); (have hz5 : Aside0 (Chg (fun _ => False) wr w5) := ⟨by first | exact (hz4.out.alloc _).trans hc5 (fun _ _ h => h) | exact (hz4.out.drew.alloc _).trans hc5 (fun _ _ h => h) | exact (hz3.out.alloc _).trans hc5 (fun _ _ h => h) | exact (hz3.out.drew.alloc _).trans hc5 (fun _ _ h => h)⟩); go_must (replace hr5 := Aside0.mk hr5); clear hc5) | (go_at_call 43; go_must (refine (code_Encode _ _ 1 1 [⟨op, a⟩] (C_instrs (l := [⟨op, a⟩]) (heap_alloc_new _ _) (by simp) one_instr) one_range.out (by simp)).mono ?_); go_must (rintro e w6 ⟨v6, rfl, hr6, hc6⟩); go_must (obtain ⟨A6, n6, cap6, rfl⟩ := R_sl hr6); (have hb6 : Aside0 (w6.heap[wr.heap.size]? = some (.cells #[.int .i64 op, .int .i64 a] 35 (0, 0))) := ⟨by first | exact hc6.blk (blk_al hb5.out _) (fun h => h)⟩); (have x60 : w6.cell? ⟨wr.heap.size, 0, none⟩ = some (.int .i64 op) := blk_cell hb6.out 0); (have x61 : w6.cell? ⟨wr.heap.size, 1, none⟩ = some (.int .i64 a) := blk_cell hb6.out 1); (have hz6 : Aside0 (Chg (fun _ => False) wr w6) := ⟨by first | exact (hz5.out.alloc _).trans hc6 (fun _ _ h => h) | exact (hz5.out.drew.alloc _).trans hc6 (fun _ _ h => h)⟩); go_must (have p5 := Aside0.mk (R_C (R_chg hr5.out (((Chg.refl (fun _ => False) _).alloc _).trans hc6 (fun _ _ h => h)) (fun _ _ _ h => h)))); go_must (have p6 := Aside0.mk (R_C hr6)); clear hc6 hr6) | (go_at_call 32; go_must (refine (kc_num _ _).mono ?_); go_must (rintro e w9 ⟨rfl, rfl⟩)) | (go_at_call 44; go_must (refine (same_bytes _ A6 A5 n6 n5 cap6 cap5 _ _ p6.out p5.out).mono ?_); go_must (rintro e w7 ⟨rfl, hd7⟩); go_must (have hc7 := chgK0 hd7); go_must (rw [decide_eq_true (rfl : (encP [⟨op, a⟩]).1 = (encP [⟨op, a⟩]).1)]); (have hb7 : Aside0 (w7.heap[wr.heap.size]? = some (.cells #[.int .i64 op, .int .i64 a] 35 (0, 0))) := ⟨by first | exact hc7.blk hb6.out (fun h => h)⟩); (have x70 : w7.cell? ⟨wr.heap.size, 0, none⟩ = some (.int .i64 op) := blk_cell hb7.out 0); (have x71 : w7.cell? ⟨wr.heap.size, 1, none⟩ = some (.int .i64 a) := blk_cell hb7.out 1); (have hz7 : Aside0 (Chg (fun _ => False) wr w7) := ⟨by first | exact hz6.out.trans hc7 (fun _ _ h => h)⟩); clear hd7 hc7) | (go_at_call 60; go_must (refine (ref_PutW _ (fun _ => False) _ [] op a (Kd.R_nil _ _ _ _ _) hop0 (by omega) ha.out.1 ha.out.2 (by decide)).mono ?_); go_must (rintro e w8 ⟨v8, rfl, hr8, hc8⟩); go_must (obtain ⟨A8, n8, cap8, rfl⟩ := R_sl hr8); go_must (have p8 := Aside0.mk (R_C hr8)); go_must (have z8 := Aside0.mk (hz7.out.trans hc8 (fun _ _ h => h))); go_must (clear hr8 hc8)) | (go_at_call 65; go_must (refine (law_reads _ A8 n8 cap8 _ p8.out (by simpa using putW_byte hop0 (by omega) a ha.out.1 ha.out.2) (putW_len op a)).mono ?_); go_must (rintro e wa ⟨rfl, hca⟩); go_must (have za := Aside0.mk (z8.out.trans hca (fun _ _ h => h))); go_must (clear hca)))
                go_roundw
                case measure => first | (simp [intOf]; done) | (simp [intOf]; omega)
                case rel => exact ⟨k + 1, by go_num, by omega, ⟨below_then hBi.out hBi.out.size (za.out.below (fun _ _ h => h))⟩⟩)
            · obtain rfl : k = 29 := by omega
              go_wp2
              go_roundw
              case measure => first | (simp [intOf]; done) | (simp [intOf]; omega)
              case rel => exact ⟨op + 1, by go_num, by omega, by omega, hBi⟩
        · have hs1 : decide ((0 : Int) < (nm.size : Int)) = false := decide_eq_false (by omega)
          have hs2 : decide ((nm.size : Int) > 0) = false := decide_eq_false (by omega)
          have hs3 : nm.size = 0 := by omega
          go_wp2_with (first | (go_at_call 4; go_must (refine (law_codeKinds _ op).mono ?_); go_must (rintro e w7 ⟨rfl, hb1⟩); go_must (replace hBe := Aside0.mk (below_then hBe.out hBe.out.size hb1)); go_must (clear hb1)) | (go_at_call 26; go_must (refine (hnm.out _).mono ?_); go_must (rintro e w2 ⟨rfl, rfl⟩)) | (go_at_call 5; go_must (refine (law_codeNames _ op _).mono ?_); go_must (rintro e w3 ⟨rfl, hb3⟩); go_must (replace hBe := Aside0.mk (below_then hBe.out hBe.out.size hb3)); go_must (clear hb3)))
          go_loopw [5, 6, 7, 8, 9, 10, 11, 12, 13, 14, 15, 16] (fun j _ _ _ _ _ _ _ _ _ _ _ wr => ∃ k : Nat, j = .int .i64 k ∧ k ≤ 29 ∧ Aside0 (Below w1.heap.size w1 wr)) (fun j _ _ _ _ _ _ _ _ _ _ _ _ => 29 - (intOf j).toNat)
          case atStart => exact ⟨0, rfl, by omega, hBe⟩
          case round =>
            obtain ⟨k, rfl, hk, hBi⟩ := hrel
            by_cases hlt2 : k < 29
            · have hk0 : (0 : Int) ≤ k := by omega
              have hk1 : (k : Int) < 29 := by omega
              obtain ⟨ad, a, e1, hain, xa⟩ := num_at (Kd.C_below hE.out hBi.out) k hlt2
              injection e1 with e1
              subst e1
              rw [add_plain] at xa
              have ha : Aside0 (-9223372036854775808 ≤ a ∧ a ≤ 9223372036854775807) := ⟨edges_range a hain⟩
              clear hain
              have h1 : Aside0 (∀ W, Calls Try.prog 30 #[.agg #[.int .i64 op, .int .i64 a]] W _) := ⟨fun W => ref_Effect W op a ha.out.1 ha.out.2⟩
              have h2 : Aside0 (∀ W, Calls Try.prog 31 #[.agg #[.int .i64 op, .int .i64 a]] W _) := ⟨fun W => code_Effect W op a⟩
              have h3 : Aside0 (∀ W, Calls Try.prog 33 #[.agg #[.int .i64 op, .int .i64 a]] W _) := ⟨fun W => code_Check W op a⟩
              have h4 : Aside0 (∀ W, Calls Try.prog 34 #[.agg #[.int .i64 op, .int .i64 a]] W _) := ⟨fun W => ref_Check W op a⟩
              generalize chkP op a = ck at h3 h4
              generalize efP op a = ef at h1 h2
              generalize tkP op a = tk at h1 h2
              generalize ptP op a = pt at h1 h2
              have hz0 := Aside0.mk ((Chg.refl (fun _ => False) wr).alloc (.cells #[.int .i64 op, .int .i64 a] 35))
              have hb0 := Aside0.mk (heap_alloc_new wr (.cells #[.int .i64 op, .int .i64 a] 35))
              have one_instr : ∀ j x, [(⟨op, a⟩ : Instr)][j]? = some x → (#[Value.int .i64 op, .int .i64 a])[j * 2]? = some (.int .i64 x.op) ∧ (#[Value.int .i64 op, .int .i64 a])[j * 2 + 1]? = some (.int .i64 x.a) := fun j x hx => by
                match j, hx with
                | 0, hx => simp at hx; subst hx; exact ⟨rfl, rfl⟩
              have one_range : Aside0 (∀ i ∈ [(⟨op, a⟩ : Instr)], -9223372036854775808 ≤ i.a ∧ i.a ≤ 9223372036854775807) := ⟨fun i hi => by simp at hi; subst hi; exact ha.out⟩
              go_wp2_with (first | (go_at_call 30; (refine (h1.out _).mono ?_); (rintro e w1 ⟨rfl, hc1⟩); (have hb1 : Aside0 (w1.heap[wr.heap.size]? = some (.cells #[.int .i64 op, .int .i64 a] 35 (0, 0))) := ⟨by first | exact hc1.blk hb0.out (fun h => h)⟩); (have x10 : w1.cell? ⟨wr.heap.size, 0, none⟩ = some (.int .i64 op) := blk_cell hb1.out 0); (have x11 : w1.cell? ⟨wr.heap.size, 1, none⟩ = some (.int .i64 a) := blk_cell hb1.out 1); (have hz1 : Aside0 (Chg (fun _ => False) wr w1) := ⟨by first | exact hz0.out.trans hc1 (fun _ _ h => h)⟩); clear hc1) | (go_at_call 31; (refine (h2.out _).mono ?_); (rintro e w2 ⟨rfl, hc2⟩); (have hb2 : Aside0 (w2.heap[wr.heap.size]? = some (.cells #[.int .i64 op, .int .i64 a] 35 (0, 0))) := ⟨by first | exact hc2.blk hb1.out (fun h => h)⟩); (have x20 : w2.cell? ⟨wr.heap.size, 0, none⟩ = some (.int .i64 op) := blk_cell hb2.out 0); (have x21 : w2.cell? ⟨wr.heap.size, 1, none⟩ = some (.int .i64 a) := blk_cell hb2.out 1); (have hz2 : Aside0 (Chg (fun _ => False) wr w2) := ⟨by first | exact hz1.out.trans hc2 (fun _ _ h => h)⟩); clear hc2))
              clear h1 h2
              go_region_held3 (fun w' => w'.cell? ⟨wr.heap.size, 0, none⟩ = some (.int .i64 op) ∧ w'.cell? ⟨wr.heap.size, 1, none⟩ = some (.int .i64 a)) (first | exact ⟨x40, x41⟩ | exact ⟨x30, x31⟩ | go_keep) (first | (go_at_call 33; (refine (h3.out _).mono ?_); (rintro e w3 ⟨rfl, hc3⟩); (have hb3 : Aside0 (w3.heap[wr.heap.size]? = some (.cells #[.int .i64 op, .int .i64 a] 35 (0, 0))) := ⟨by first | exact hc3.blk hb2.out (fun h => h) | exact hc3.blk hb4.out (fun h => h)⟩); (have x30 : w3.cell? ⟨wr.heap.size, 0, none⟩ = some (.int .i64 op) := blk_cell hb3.out 0); (have x31 : w3.cell? ⟨wr.heap.size, 1, none⟩ = some (.int .i64 a) := blk_cell hb3.out 1); (have hz3 : Aside0 (Chg (fun _ => False) wr w3) := ⟨by first | exact hz2.out.trans hc3 (fun _ _ h => h) | exact hz2.out.drew.trans hc3 (fun _ _ h => h) | exact hz4.out.trans hc3 (fun _ _ h => h) | exact hz4.out.drew.trans hc3 (fun _ _ h => h)⟩); clear hc3) | (go_at_call 34; (refine (h4.out _).mono ?_); (rintro e w4 ⟨rfl, hc4⟩); (have hb4 : Aside0 (w4.heap[wr.heap.size]? = some (.cells #[.int .i64 op, .int .i64 a] 35 (0, 0))) := ⟨by first | exact hc4.blk hb2.out (fun h => h) | exact hc4.blk hb3.out (fun h => h)⟩); (have x40 : w4.cell? ⟨wr.heap.size, 0, none⟩ = some (.int .i64 op) := blk_cell hb4.out 0); (have x41 : w4.cell? ⟨wr.heap.size, 1, none⟩ = some (.int .i64 a) := blk_cell hb4.out 1); (have hz4 : Aside0 (Chg (fun _ => False) wr w4) := ⟨by first | exact hz2.out.trans hc4 (fun _ _ h => h) | exact hz2.out.drew.trans hc4 (fun _ _ h => h) | exact hz3.out.trans hc4 (fun _ _ h => h) | exact hz3.out.drew.trans hc4 (fun _ _ h => h)⟩); clear hc4) | (go_at_call 32; (refine (kit_Num _ _).mono ?_); (rintro e w9 ⟨rfl, rfl⟩)))
              all_goals (
                go_wp2_with (first | (go_at_call 42; go_must (refine (ref_Encode _ _ 1 1 [⟨op, a⟩] (C_instrs (l := [⟨op, a⟩]) (heap_alloc_new _ _) (by simp) one_instr) one_range.out (by simp)).mono ?_); go_must (rintro e w5 ⟨v5, rfl, hr5, hc5⟩); go_must (obtain ⟨A5, n5, cap5, rfl⟩ := R_sl hr5); (have hb5 : Aside0 (w5.heap[wr.heap.size]? = some (.cells #[.int .i64 op, .int .i64 a] 35 (0, 0))) := ⟨by first | exact hc5.blk (blk_al hb4.out _) (fun h => h) | exact hc5.blk (blk_al hb3.out _) (fun h => h)⟩); (have x50 : w5.cell? ⟨wr.heap.size, 0, none⟩ = some (.int .i64 op) := blk_cell hb5.out 0); (have x51 : w5.cell? ⟨wr.heap.size, 1, none⟩ = some (.int .i64 a) := blk_cell hb5.out 1); (have hz5 : Aside0 (Chg (fun _ => False) wr w5) := ⟨by first | exact (hz4.out.alloc _).trans hc5 (fun _ _ h => h) | exact (hz4.out.drew.alloc _).trans hc5 (fun _ _ h => h) | exact (hz3.out.alloc _).trans hc5 (fun _ _ h => h) | exact (hz3.out.drew.alloc _).trans hc5 (fun _ _ h => h)⟩); go_must (replace hr5 := Aside0.mk hr5); clear hc5) | (go_at_call 43; go_must (refine (code_Encode _ _ 1 1 [⟨op, a⟩] (C_instrs (l := [⟨op, a⟩]) (heap_alloc_new _ _) (by simp) one_instr) one_range.out (by simp)).mono ?_); go_must (rintro e w6 ⟨v6, rfl, hr6, hc6⟩); go_must (obtain ⟨A6, n6, cap6, rfl⟩ := R_sl hr6); (have hb6 : Aside0 (w6.heap[wr.heap.size]? = some (.cells #[.int .i64 op, .int .i64 a] 35 (0, 0))) := ⟨by first | exact hc6.blk (blk_al hb5.out _) (fun h => h)⟩); (have x60 : w6.cell? ⟨wr.heap.size, 0, none⟩ = some (.int .i64 op) := blk_cell hb6.out 0); (have x61 : w6.cell? ⟨wr.heap.size, 1, none⟩ = some (.int .i64 a) := blk_cell hb6.out 1); (have hz6 : Aside0 (Chg (fun _ => False) wr w6) := ⟨by first | exact (hz5.out.alloc _).trans hc6 (fun _ _ h => h) | exact (hz5.out.drew.alloc _).trans hc6 (fun _ _ h => h)⟩); go_must (have p5 := Aside0.mk (R_C (R_chg hr5.out (((Chg.refl (fun _ => False) _).alloc _).trans hc6 (fun _ _ h => h)) (fun _ _ _ h => h)))); go_must (have p6 := Aside0.mk (R_C hr6)); clear hc6 hr6) | (go_at_call 32; go_must (refine (kc_num _ _).mono ?_); go_must (rintro e w9 ⟨rfl, rfl⟩)) | (go_at_call 44; go_must (refine (same_bytes _ A6 A5 n6 n5 cap6 cap5 _ _ p6.out p5.out).mono ?_); go_must (rintro e w7 ⟨rfl, hd7⟩); go_must (have hc7 := chgK0 hd7); go_must (rw [decide_eq_true (rfl : (encP [⟨op, a⟩]).1 = (encP [⟨op, a⟩]).1)]); (have hb7 : Aside0 (w7.heap[wr.heap.size]? = some (.cells #[.int .i64 op, .int .i64 a] 35 (0, 0))) := ⟨by first | exact hc7.blk hb6.out (fun h => h)⟩); (have x70 : w7.cell? ⟨wr.heap.size, 0, none⟩ = some (.int .i64 op) := blk_cell hb7.out 0); (have x71 : w7.cell? ⟨wr.heap.size, 1, none⟩ = some (.int .i64 a) := blk_cell hb7.out 1); (have hz7 : Aside0 (Chg (fun _ => False) wr w7) := ⟨by first | exact hz6.out.trans hc7 (fun _ _ h => h)⟩); clear hd7 hc7) | (go_at_call 60; go_must (refine (ref_PutW _ (fun _ => False) _ [] op a (Kd.R_nil _ _ _ _ _) hop0 (by omega) ha.out.1 ha.out.2 (by decide)).mono ?_); go_must (rintro e w8 ⟨v8, rfl, hr8, hc8⟩); go_must (obtain ⟨A8, n8, cap8, rfl⟩ := R_sl hr8); go_must (have p8 := Aside0.mk (R_C hr8)); go_must (have z8 := Aside0.mk (hz7.out.trans hc8 (fun _ _ h => h))); go_must (clear hr8 hc8)) | (go_at_call 65; go_must (refine (law_reads _ A8 n8 cap8 _ p8.out (by simpa using putW_byte hop0 (by omega) a ha.out.1 ha.out.2) (putW_len op a)).mono ?_); go_must (rintro e wa ⟨rfl, hca⟩); go_must (have za := Aside0.mk (z8.out.trans hca (fun _ _ h => h))); go_must (clear hca)))
                go_roundw
                case measure => first | (simp [intOf]; done) | (simp [intOf]; omega)
                case rel => exact ⟨k + 1, by go_num, by omega, ⟨below_then hBi.out hBi.out.size (za.out.below (fun _ _ h => h))⟩⟩)
            · obtain rfl : k = 29 := by omega
              go_wp2
              go_roundw
              case measure => first | (simp [intOf]; done) | (simp [intOf]; omega)
              case rel => exact ⟨op + 1, by go_num, by omega, by omega, hBi⟩
      · have hd : decide (0 ≤ op) = false := by simp; omega
        have hd2 : decide (op ≥ 0) = false := by simp; omega
        have hnm : Aside0 (∀ W, Calls Try.prog 26 #[.int .i64 op] W _) := ⟨fun W => ref_Name W op⟩
        have hn9 : (rowP op).name.size ≤ 100 := name_size op
        generalize (rowP op).name = nm at hnm hn9
        generalize okP op = ok at hnm
        by_cases hsz : 0 < nm.size
        · have hs1 : decide ((0 : Int) < (nm.size : Int)) = true := decide_eq_true (by omega)
          have hs2 : decide ((nm.size : Int) > 0) = true := decide_eq_true (by omega)
          have hs3 : (1 : Int) ≤ nm.size := by omega
          go_wp2_with (first | (go_at_call 4; go_must (refine (law_codeKinds _ op).mono ?_); go_must (rintro e w7 ⟨rfl, hb1⟩); go_must (replace hBe := Aside0.mk (below_then hBe.out hBe.out.size hb1)); go_must (clear hb1)) | (go_at_call 26; go_must (refine (hnm.out _).mono ?_); go_must (rintro e w2 ⟨rfl, rfl⟩)) | (go_at_call 5; go_must (refine (law_codeNames _ op _).mono ?_); go_must (rintro e w3 ⟨rfl, hb3⟩); go_must (replace hBe := Aside0.mk (below_then hBe.out hBe.out.size hb3)); go_must (clear hb3)))
          go_loopw [5, 6, 7, 8, 9, 10, 11, 12, 13, 14, 15, 16] (fun j _ _ _ _ _ _ _ _ _ _ _ wr => ∃ k : Nat, j = .int .i64 k ∧ k ≤ 29 ∧ Aside0 (Below w1.heap.size w1 wr)) (fun j _ _ _ _ _ _ _ _ _ _ _ _ => 29 - (intOf j).toNat)
          case atStart => exact ⟨0, rfl, by omega, hBe⟩
          case round =>
            obtain ⟨k, rfl, hk, hBi⟩ := hrel
            by_cases hlt2 : k < 29
            · have hk0 : (0 : Int) ≤ k := by omega
              have hk1 : (k : Int) < 29 := by omega
              obtain ⟨ad, a, e1, hain, xa⟩ := num_at (Kd.C_below hE.out hBi.out) k hlt2
              injection e1 with e1
              subst e1
              rw [add_plain] at xa
              have ha : Aside0 (-9223372036854775808 ≤ a ∧ a ≤ 9223372036854775807) := ⟨edges_range a hain⟩
              clear hain
              have h1 : Aside0 (∀ W, Calls Try.prog 30 #[.agg #[.int .i64 op, .int .i64 a]] W _) := ⟨fun W => ref_Effect W op a ha.out.1 ha.out.2⟩
              have h2 : Aside0 (∀ W, Calls Try.prog 31 #[.agg #[.int .i64 op, .int .i64 a]] W _) := ⟨fun W => code_Effect W op a⟩
              have h3 : Aside0 (∀ W, Calls Try.prog 33 #[.agg #[.int .i64 op, .int .i64 a]] W _) := ⟨fun W => code_Check W op a⟩
              have h4 : Aside0 (∀ W, Calls Try.prog 34 #[.agg #[.int .i64 op, .int .i64 a]] W _) := ⟨fun W => ref_Check W op a⟩
              generalize chkP op a = ck at h3 h4
              generalize efP op a = ef at h1 h2
              generalize tkP op a = tk at h1 h2
              generalize ptP op a = pt at h1 h2
              have hz0 := Aside0.mk ((Chg.refl (fun _ => False) wr).alloc (.cells #[.int .i64 op, .int .i64 a] 35))
              have hb0 := Aside0.mk (heap_alloc_new wr (.cells #[.int .i64 op, .int .i64 a] 35))
              have one_instr : ∀ j x, [(⟨op, a⟩ : Instr)][j]? = some x → (#[Value.int .i64 op, .int .i64 a])[j * 2]? = some (.int .i64 x.op) ∧ (#[Value.int .i64 op, .int .i64 a])[j * 2 + 1]? = some (.int .i64 x.a) := fun j x hx => by
                match j, hx with
                | 0, hx => simp at hx; subst hx; exact ⟨rfl, rfl⟩
              have one_range : Aside0 (∀ i ∈ [(⟨op, a⟩ : Instr)], -9223372036854775808 ≤ i.a ∧ i.a ≤ 9223372036854775807) := ⟨fun i hi => by simp at hi; subst hi; exact ha.out⟩
              go_wp2_with (first | (go_at_call 30; (refine (h1.out _).mono ?_); (rintro e w1 ⟨rfl, hc1⟩); (have hb1 : Aside0 (w1.heap[wr.heap.size]? = some (.cells #[.int .i64 op, .int .i64 a] 35 (0, 0))) := ⟨by first | exact hc1.blk hb0.out (fun h => h)⟩); (have x10 : w1.cell? ⟨wr.heap.size, 0, none⟩ = some (.int .i64 op) := blk_cell hb1.out 0); (have x11 : w1.cell? ⟨wr.heap.size, 1, none⟩ = some (.int .i64 a) := blk_cell hb1.out 1); (have hz1 : Aside0 (Chg (fun _ => False) wr w1) := ⟨by first | exact hz0.out.trans hc1 (fun _ _ h => h)⟩); clear hc1) | (go_at_call 31; (refine (h2.out _).mono ?_); (rintro e w2 ⟨rfl, hc2⟩); (have hb2 : Aside0 (w2.heap[wr.heap.size]? = some (.cells #[.int .i64 op, .int .i64 a] 35 (0, 0))) := ⟨by first | exact hc2.blk hb1.out (fun h => h)⟩); (have x20 : w2.cell? ⟨wr.heap.size, 0, none⟩ = some (.int .i64 op) := blk_cell hb2.out 0); (have x21 : w2.cell? ⟨wr.heap.size, 1, none⟩ = some (.int .i64 a) := blk_cell hb2.out 1); (have hz2 : Aside0 (Chg (fun _ => False) wr w2) := ⟨by first | exact hz1.out.trans hc2 (fun _ _ h => h)⟩); clear hc2))
              clear h1 h2
              go_region_held3 (fun w' => w'.cell? ⟨wr.heap.size, 0, none⟩ = some (.int .i64 op) ∧ w'.cell? ⟨wr.heap.size, 1, none⟩ = some (.int .i64 a)) (first | exact ⟨x40, x41⟩ | exact ⟨x30, x31⟩ | go_keep) (first | (go_at_call 33; (refine (h3.out _).mono ?_); (rintro e w3 ⟨rfl, hc3⟩); (have hb3 : Aside0 (w3.heap[wr.heap.size]? = some (.cells #[.int .i64 op, .int .i64 a] 35 (0, 0))) := ⟨by first | exact hc3.blk hb2.out (fun h => h) | exact hc3.blk hb4.out (fun h => h)⟩); (have x30 : w3.cell? ⟨wr.heap.size, 0, none⟩ = some (.int .i64 op) := blk_cell hb3.out 0); (have x31 : w3.cell? ⟨wr.heap.size, 1, none⟩ = some (.int .i64 a) := blk_cell hb3.out 1); (have hz3 : Aside0 (Chg (fun _ => False) wr w3) := ⟨by first | exact hz2.out.trans hc3 (fun _ _ h => h) | exact hz2.out.drew.trans hc3 (fun _ _ h => h) | exact hz4.out.trans hc3 (fun _ _ h => h) | exact hz4.out.drew.trans hc3 (fun _ _ h => h)⟩); clear hc3) | (go_at_call 34; (refine (h4.out _).mono ?_); (rintro e w4 ⟨rfl, hc4⟩); (have hb4 : Aside0 (w4.heap[wr.heap.size]? = some (.cells #[.int .i64 op, .int .i64 a] 35 (0, 0))) := ⟨by first | exact hc4.blk hb2.out (fun h => h) | exact hc4.blk hb3.out (fun h => h)⟩); (have x40 : w4.cell? ⟨wr.heap.size, 0, none⟩ = some (.int .i64 op) := blk_cell hb4.out 0); (have x41 : w4.cell? ⟨wr.heap.size, 1, none⟩ = some (.int .i64 a) := blk_cell hb4.out 1); (have hz4 : Aside0 (Chg (fun _ => False) wr w4) := ⟨by first | exact hz2.out.trans hc4 (fun _ _ h => h) | exact hz2.out.drew.trans hc4 (fun _ _ h => h) | exact hz3.out.trans hc4 (fun _ _ h => h) | exact hz3.out.drew.trans hc4 (fun _ _ h => h)⟩); clear hc4) | (go_at_call 32; (refine (kit_Num _ _).mono ?_); (rintro e w9 ⟨rfl, rfl⟩)))
              all_goals (
                go_wp2_with (first | (go_at_call 42; go_must (refine (ref_Encode _ _ 1 1 [⟨op, a⟩] (C_instrs (l := [⟨op, a⟩]) (heap_alloc_new _ _) (by simp) one_instr) one_range.out (by simp)).mono ?_); go_must (rintro e w5 ⟨v5, rfl, hr5, hc5⟩); go_must (obtain ⟨A5, n5, cap5, rfl⟩ := R_sl hr5); (have hb5 : Aside0 (w5.heap[wr.heap.size]? = some (.cells #[.int .i64 op, .int .i64 a] 35 (0, 0))) := ⟨by first | exact hc5.blk (blk_al hb4.out _) (fun h => h) | exact hc5.blk (blk_al hb3.out _) (fun h => h)⟩); (have x50 : w5.cell? ⟨wr.heap.size, 0, none⟩ = some (.int .i64 op) := blk_cell hb5.out 0); (have x51 : w5.cell? ⟨wr.heap.size, 1, none⟩ = some (.int .i64 a) := blk_cell hb5.out 1); (have hz5 : Aside0 (Chg (fun _ => False) wr w5) := ⟨by first | exact (hz4.out.alloc _).trans hc5 (fun _ _ h => h) | exact (hz4.out.drew.alloc _).trans hc5 (fun _ _ h => h) | exact (hz3.out.alloc _).trans hc5 (fun _ _ h => h) | exact (hz3.out.drew.alloc _).trans hc5 (fun _ _ h => h)⟩); go_must (replace hr5 := Aside0.mk hr5); clear hc5) | (go_at_call 43; go_must (refine (code_Encode _ _ 1 1 [⟨op, a⟩] (C_instrs (l := [⟨op, a⟩]) (heap_alloc_new _ _) (by simp) one_instr) one_range.out (by simp)).mono ?_); go_must (rintro e w6 ⟨v6, rfl, hr6, hc6⟩); go_must (obtain ⟨A6, n6, cap6, rfl⟩ := R_sl hr6); (have hb6 : Aside0 (w6.heap[wr.heap.size]? = some (.cells #[.int .i64 op, .int .i64 a] 35 (0, 0))) := ⟨by first | exact hc6.blk (blk_al hb5.out _) (fun h => h)⟩); (have x60 : w6.cell? ⟨wr.heap.size, 0, none⟩ = some (.int .i64 op) := blk_cell hb6.out 0); (have x61 : w6.cell? ⟨wr.heap.size, 1, none⟩ = some (.int .i64 a) := blk_cell hb6.out 1); (have hz6 : Aside0 (Chg (fun _ => False) wr w6) := ⟨by first | exact (hz5.out.alloc _).trans hc6 (fun _ _ h => h) | exact (hz5.out.drew.alloc _).trans hc6 (fun _ _ h => h)⟩); go_must (have p5 := Aside0.mk (R_C (R_chg hr5.out (((Chg.refl (fun _ => False) _).alloc _).trans hc6 (fun _ _ h => h)) (fun _ _ _ h => h)))); go_must (have p6 := Aside0.mk (R_C hr6)); clear hc6 hr6) | (go_at_call 32; go_must (refine (kc_num _ _).mono ?_); go_must (rintro e w9 ⟨rfl, rfl⟩)) | (go_at_call 44; go_must (refine (same_bytes _ A6 A5 n6 n5 cap6 cap5 _ _ p6.out p5.out).mono ?_); go_must (rintro e w7 ⟨rfl, hd7⟩); go_must (have hc7 := chgK0 hd7); go_must (rw [decide_eq_true (rfl : (encP [⟨op, a⟩]).1 = (encP [⟨op, a⟩]).1)]); (have hb7 : Aside0 (w7.heap[wr.heap.size]? = some (.cells #[.int .i64 op, .int .i64 a] 35 (0, 0))) := ⟨by first | exact hc7.blk hb6.out (fun h => h)⟩); (have x70 : w7.cell? ⟨wr.heap.size, 0, none⟩ = some (.int .i64 op) := blk_cell hb7.out 0); (have x71 : w7.cell? ⟨wr.heap.size, 1, none⟩ = some (.int .i64 a) := blk_cell hb7.out 1); (have hz7 : Aside0 (Chg (fun _ => False) wr w7) := ⟨by first | exact hz6.out.trans hc7 (fun _ _ h => h)⟩); clear hd7 hc7) | (go_at_call 60; go_must (refine (ref_PutW _ (fun _ => False) _ [] op a (Kd.R_nil _ _ _ _ _) hop0 (by omega) ha.out.1 ha.out.2 (by decide)).mono ?_); go_must (rintro e w8 ⟨v8, rfl, hr8, hc8⟩); go_must (obtain ⟨A8, n8, cap8, rfl⟩ := R_sl hr8); go_must (have p8 := Aside0.mk (R_C hr8)); go_must (have z8 := Aside0.mk (hz7.out.trans hc8 (fun _ _ h => h))); go_must (clear hr8 hc8)) | (go_at_call 65; go_must (refine (law_reads _ A8 n8 cap8 _ p8.out (by simpa using putW_byte hop0 (by omega) a ha.out.1 ha.out.2) (putW_len op a)).mono ?_); go_must (rintro e wa ⟨rfl, hca⟩); go_must (have za := Aside0.mk (z8.out.trans hca (fun _ _ h => h))); go_must (clear hca)))
                go_roundw
                case measure => first | (simp [intOf]; done) | (simp [intOf]; omega)
                case rel => exact ⟨k + 1, by go_num, by omega, ⟨below_then hBi.out hBi.out.size (hz7.out.below (fun _ _ h => h))⟩⟩)
            · obtain rfl : k = 29 := by omega
              go_wp2
              go_roundw
              case measure => first | (simp [intOf]; done) | (simp [intOf]; omega)
              case rel => exact ⟨op + 1, by go_num, by omega, by omega, hBi⟩
        · have hs1 : decide ((0 : Int) < (nm.size : Int)) = false := decide_eq_false (by omega)
          have hs2 : decide ((nm.size : Int) > 0) = false := decide_eq_false (by omega)
          have hs3 : nm.size = 0 := by omega
          go_wp2_with (first | (go_at_call 4; go_must (refine (law_codeKinds _ op).mono ?_); go_must (rintro e w7 ⟨rfl, hb1⟩); go_must (replace hBe := Aside0.mk (below_then hBe.out hBe.out.size hb1)); go_must (clear hb1)) | (go_at_call 26; go_must (refine (hnm.out _).mono ?_); go_must (rintro e w2 ⟨rfl, rfl⟩)) | (go_at_call 5; go_must (refine (law_codeNames _ op _).mono ?_); go_must (rintro e w3 ⟨rfl, hb3⟩); go_must (replace hBe := Aside0.mk (below_then hBe.out hBe.out.size hb3)); go_must (clear hb3)))
          go_loopw [5, 6, 7, 8, 9, 10, 11, 12, 13, 14, 15, 16] (fun j _ _ _ _ _ _ _ _ _ _ _ wr => ∃ k : Nat, j = .int .i64 k ∧ k ≤ 29 ∧ Aside0 (Below w1.heap.size w1 wr)) (fun j _ _ _ _ _ _ _ _ _ _ _ _ => 29 - (intOf j).toNat)
          case atStart => exact ⟨0, rfl, by omega, hBe⟩
          case round =>
            obtain ⟨k, rfl, hk, hBi⟩ := hrel
            by_cases hlt2 : k < 29
            · have hk0 : (0 : Int) ≤ k := by omega
              have hk1 : (k : Int) < 29 := by omega
              obtain ⟨ad, a, e1, hain, xa⟩ := num_at (Kd.C_below hE.out hBi.out) k hlt2
              injection e1 with e1
              subst e1
              rw [add_plain] at xa
              have ha : Aside0 (-9223372036854775808 ≤ a ∧ a ≤ 9223372036854775807) := ⟨edges_range a hain⟩
              clear hain
              have h1 : Aside0 (∀ W, Calls Try.prog 30 #[.agg #[.int .i64 op, .int .i64 a]] W _) := ⟨fun W => ref_Effect W op a ha.out.1 ha.out.2⟩
              have h2 : Aside0 (∀ W, Calls Try.prog 31 #[.agg #[.int .i64 op, .int .i64 a]] W _) := ⟨fun W => code_Effect W op a⟩
              have h3 : Aside0 (∀ W, Calls Try.prog 33 #[.agg #[.int .i64 op, .int .i64 a]] W _) := ⟨fun W => code_Check W op a⟩
              have h4 : Aside0 (∀ W, Calls Try.prog 34 #[.agg #[.int .i64 op, .int .i64 a]] W _) := ⟨fun W => ref_Check W op a⟩
              generalize chkP op a = ck at h3 h4
              generalize efP op a = ef at h1 h2
              generalize tkP op a = tk at h1 h2
              generalize ptP op a = pt at h1 h2
              have hz0 := Aside0.mk ((Chg.refl (fun _ => False) wr).alloc (.cells #[.int .i64 op, .int .i64 a] 35))
              have hb0 := Aside0.mk (heap_alloc_new wr (.cells #[.int .i64 op, .int .i64 a] 35))
              have one_instr : ∀ j x, [(⟨op, a⟩ : Instr)][j]? = some x → (#[Value.int .i64 op, .int .i64 a])[j * 2]? = some (.int .i64 x.op) ∧ (#[Value.int .i64 op, .int .i64 a])[j * 2 + 1]? = some (.int .i64 x.a) := fun j x hx => by
                match j, hx with
                | 0, hx => simp at hx; subst hx; exact ⟨rfl, rfl⟩
              have one_range : Aside0 (∀ i ∈ [(⟨op, a⟩ : Instr)], -9223372036854775808 ≤ i.a ∧ i.a ≤ 9223372036854775807) := ⟨fun i hi => by simp at hi; subst hi; exact ha.out⟩
              go_wp2_with (first | (go_at_call 30; (refine (h1.out _).mono ?_); (rintro e w1 ⟨rfl, hc1⟩); (have hb1 : Aside0 (w1.heap[wr.heap.size]? = some (.cells #[.int .i64 op, .int .i64 a] 35 (0, 0))) := ⟨by first | exact hc1.blk hb0.out (fun h => h)⟩); (have x10 : w1.cell? ⟨wr.heap.size, 0, none⟩ = some (.int .i64 op) := blk_cell hb1.out 0); (have x11 : w1.cell? ⟨wr.heap.size, 1, none⟩ = some (.int .i64 a) := blk_cell hb1.out 1); (have hz1 : Aside0 (Chg (fun _ => False) wr w1) := ⟨by first | exact hz0.out.trans hc1 (fun _ _ h => h)⟩); clear hc1) | (go_at_call 31; (refine (h2.out _).mono ?_); (rintro e w2 ⟨rfl, hc2⟩); (have hb2 : Aside0 (w2.heap[wr.heap.size]? = some (.cells #[.int .i64 op, .int .i64 a] 35 (0, 0))) := ⟨by first | exact hc2.blk hb1.out (fun h => h)⟩); (have x20 : w2.cell? ⟨wr.heap.size, 0, none⟩ = some (.int .i64 op) := blk_cell hb2.out 0); (have x21 : w2.cell? ⟨wr.heap.size, 1, none⟩ = some (.int .i64 a) := blk_cell hb2.out 1); (have hz2 : Aside0 (Chg (fun _ => False) wr w2) := ⟨by first | exact hz1.out.trans hc2 (fun _ _ h => h)⟩); clear hc2))
              clear h1 h2
              go_region_held3 (fun w' => w'.cell? ⟨wr.heap.size, 0, none⟩ = some (.int .i64 op) ∧ w'.cell? ⟨wr.heap.size, 1, none⟩ = some (.int .i64 a)) (first | exact ⟨x40, x41⟩ | exact ⟨x30, x31⟩ | go_keep) (first | (go_at_call 33; (refine (h3.out _).mono ?_); (rintro e w3 ⟨rfl, hc3⟩); (have hb3 : Aside0 (w3.heap[wr.heap.size]? = some (.cells #[.int .i64 op, .int .i64 a] 35 (0, 0))) := ⟨by first | exact hc3.blk hb2.out (fun h => h) | exact hc3.blk hb4.out (fun h => h)⟩); (have x30 : w3.cell? ⟨wr.heap.size, 0, none⟩ = some (.int .i64 op) := blk_cell hb3.out 0); (have x31 : w3.cell? ⟨wr.heap.size, 1, none⟩ = some (.int .i64 a) := blk_cell hb3.out 1); (have hz3 : Aside0 (Chg (fun _ => False) wr w3) := ⟨by first | exact hz2.out.trans hc3 (fun _ _ h => h) | exact hz2.out.drew.trans hc3 (fun _ _ h => h) | exact hz4.out.trans hc3 (fun _ _ h => h) | exact hz4.out.drew.trans hc3 (fun _ _ h => h)⟩); clear hc3) | (go_at_call 34; (refine (h4.out _).mono ?_); (rintro e w4 ⟨rfl, hc4⟩); (have hb4 : Aside0 (w4.heap[wr.heap.size]? = some (.cells #[.int .i64 op, .int .i64 a] 35 (0, 0))) := ⟨by first | exact hc4.blk hb2.out (fun h => h) | exact hc4.blk hb3.out (fun h => h)⟩); (have x40 : w4.cell? ⟨wr.heap.size, 0, none⟩ = some (.int .i64 op) := blk_cell hb4.out 0); (have x41 : w4.cell? ⟨wr.heap.size, 1, none⟩ = some (.int .i64 a) := blk_cell hb4.out 1); (have hz4 : Aside0 (Chg (fun _ => False) wr w4) := ⟨by first | exact hz2.out.trans hc4 (fun _ _ h => h) | exact hz2.out.drew.trans hc4 (fun _ _ h => h) | exact hz3.out.trans hc4 (fun _ _ h => h) | exact hz3.out.drew.trans hc4 (fun _ _ h => h)⟩); clear hc4) | (go_at_call 32; (refine (kit_Num _ _).mono ?_); (rintro e w9 ⟨rfl, rfl⟩)))
              all_goals (
                go_wp2_with (first | (go_at_call 42; go_must (refine (ref_Encode _ _ 1 1 [⟨op, a⟩] (C_instrs (l := [⟨op, a⟩]) (heap_alloc_new _ _) (by simp) one_instr) one_range.out (by simp)).mono ?_); go_must (rintro e w5 ⟨v5, rfl, hr5, hc5⟩); go_must (obtain ⟨A5, n5, cap5, rfl⟩ := R_sl hr5); (have hb5 : Aside0 (w5.heap[wr.heap.size]? = some (.cells #[.int .i64 op, .int .i64 a] 35 (0, 0))) := ⟨by first | exact hc5.blk (blk_al hb4.out _) (fun h => h) | exact hc5.blk (blk_al hb3.out _) (fun h => h)⟩); (have x50 : w5.cell? ⟨wr.heap.size, 0, none⟩ = some (.int .i64 op) := blk_cell hb5.out 0); (have x51 : w5.cell? ⟨wr.heap.size, 1, none⟩ = some (.int .i64 a) := blk_cell hb5.out 1); (have hz5 : Aside0 (Chg (fun _ => False) wr w5) := ⟨by first | exact (hz4.out.alloc _).trans hc5 (fun _ _ h => h) | exact (hz4.out.drew.alloc _).trans hc5 (fun _ _ h => h) | exact (hz3.out.alloc _).trans hc5 (fun _ _ h => h) | exact (hz3.out.drew.alloc _).trans hc5 (fun _ _ h => h)⟩); go_must (replace hr5 := Aside0.mk hr5); clear hc5) | (go_at_call 43; go_must (refine (code_Encode _ _ 1 1 [⟨op, a⟩] (C_instrs (l := [⟨op, a⟩]) (heap_alloc_new _ _) (by simp) one_instr) one_range.out (by simp)).mono ?_); go_must (rintro e w6 ⟨v6, rfl, hr6, hc6⟩); go_must (obtain ⟨A6, n6, cap6, rfl⟩ := R_sl hr6); (have hb6 : Aside0 (w6.heap[wr.heap.size]? = some (.cells #[.int .i64 op, .int .i64 a] 35 (0, 0))) := ⟨by first | exact hc6.blk (blk_al hb5.out _) (fun h => h)⟩); (have x60 : w6.cell? ⟨wr.heap.size, 0, none⟩ = some (.int .i64 op) := blk_cell hb6.out 0); (have x61 : w6.cell? ⟨wr.heap.size, 1, none⟩ = some (.int .i64 a) := blk_cell hb6.out 1); (have hz6 : Aside0 (Chg (fun _ => False) wr w6) := ⟨by first | exact (hz5.out.alloc _).trans hc6 (fun _ _ h => h) | exact (hz5.out.drew.alloc _).trans hc6 (fun _ _ h => h)⟩); go_must (have p5 := Aside0.mk (R_C (R_chg hr5.out (((Chg.refl (fun _ => False) _).alloc _).trans hc6 (fun _ _ h => h)) (fun _ _ _ h => h)))); go_must (have p6 := Aside0.mk (R_C hr6)); clear hc6 hr6) | (go_at_call 32; go_must (refine (kc_num _ _).mono ?_); go_must (rintro e w9 ⟨rfl, rfl⟩)) | (go_at_call 44; go_must (refine (same_bytes _ A6 A5 n6 n5 cap6 cap5 _ _ p6.out p5.out).mono ?_); go_must (rintro e w7 ⟨rfl, hd7⟩); go_must (have hc7 := chgK0 hd7); go_must (rw [decide_eq_true (rfl : (encP [⟨op, a⟩]).1 = (encP [⟨op, a⟩]).1)]); (have hb7 : Aside0 (w7.heap[wr.heap.size]? = some (.cells #[.int .i64 op, .int .i64 a] 35 (0, 0))) := ⟨by first | exact hc7.blk hb6.out (fun h => h)⟩); (have x70 : w7.cell? ⟨wr.heap.size, 0, none⟩ = some (.int .i64 op) := blk_cell hb7.out 0); (have x71 : w7.cell? ⟨wr.heap.size, 1, none⟩ = some (.int .i64 a) := blk_cell hb7.out 1); (have hz7 : Aside0 (Chg (fun _ => False) wr w7) := ⟨by first | exact hz6.out.trans hc7 (fun _ _ h => h)⟩); clear hd7 hc7) | (go_at_call 60; go_must (refine (ref_PutW _ (fun _ => False) _ [] op a (Kd.R_nil _ _ _ _ _) hop0 (by omega) ha.out.1 ha.out.2 (by decide)).mono ?_); go_must (rintro e w8 ⟨v8, rfl, hr8, hc8⟩); go_must (obtain ⟨A8, n8, cap8, rfl⟩ := R_sl hr8); go_must (have p8 := Aside0.mk (R_C hr8)); go_must (have z8 := Aside0.mk (hz7.out.trans hc8 (fun _ _ h => h))); go_must (clear hr8 hc8)) | (go_at_call 65; go_must (refine (law_reads _ A8 n8 cap8 _ p8.out (by simpa using putW_byte hop0 (by omega) a ha.out.1 ha.out.2) (putW_len op a)).mono ?_); go_must (rintro e wa ⟨rfl, hca⟩); go_must (have za := Aside0.mk (z8.out.trans hca (fun _ _ h => h))); go_must (clear hca)))
                go_roundw
                case measure => first | (simp [intOf]; done) | (simp [intOf]; omega)
                case rel => exact ⟨k + 1, by go_num, by omega, ⟨below_then hBi.out hBi.out.size (hz7.out.below (fun _ _ h => h))⟩⟩)
            · obtain rfl : k = 29 := by omega
              go_wp2
              go_roundw
              case measure => first | (simp [intOf]; done) | (simp [intOf]; omega)
              case rel => exact ⟨op + 1, by go_num, by omega, by omega, hBi⟩
    · obtain rfl : op = 70 := by omega
      go_wp2_with (go_at_call 66; go_must (refine (law_long _).mono ?_); go_must (rintro e w9 ⟨rfl, hc9⟩); go_must (replace hc9 := Aside0.mk hc9))
      go_ret
      exact ⟨rfl, below_then (hc1.out.below (fun _ _ h => h)) hc1.out.size (below_then hBe.out hBe.out.size (hc9.out.below (fun _ _ h => h)))⟩

end Go.Proofs.Ythmghcjkmmhgnaa.K

namespace Go.Proofs.Ythmghcjkmmhgnaa.K
open Go.RowKit Go.Proofs.YthmghcjkmmhgnaaW.PrintWords Go.Proofs.YthmghcjkmmhgnaaW.PrintLast Go.Proofs.YthmghcjkmmhgnaaW.PrintMore
set_option linter.unusedVariables false
set_option linter.unusedSimpArgs false
set_option maxRecDepth 100000

theorem C_u8 {w : World} {g : Nat} {t : TypeId} {fr : Nat × Nat} {l : List Int} (h : w.heap[g]? = some (.cells (l.map (Value.int .u8)).toArray t fr)) (hl : l.length ≤ 9223372036854775807) : Kd.C (Kd.int .u8) w (some ⟨g, 0, none⟩) l.length l := by
  refine ⟨rfl, hl, fun _ => ⟨⟨g, 0, none⟩, rfl, fun j x hx => ?_⟩⟩
  refine ⟨[.int .u8 x], rfl, rfl, fun i u hu => ?_⟩
  have hadd : ∀ m, (⟨g, 0, none⟩ : Addr).add m = ⟨g, m, none⟩ := fun m => by unfold Addr.add; split <;> simp_all
  rw [hadd]
  match i, hu with
  | 0, hu =>
    simp at hu
    subst hu
    have e1 : (Kd.int .u8).sz = 1 := rfl
    simp [World.cell?, h, e1, hx]
abbrev C3 : Array Value := #[.int .i64 40, .int .i64 0, .int .i64 41, .int .i64 2, .int .i64 43, .int .i64 99]
theorem three_cells : ∀ j x, ([⟨40, 0⟩, ⟨41, 2⟩, ⟨43, 99⟩] : List Instr)[j]? = some x → (#[Value.int .i64 40, .int .i64 0, .int .i64 41, .int .i64 2, .int .i64 43, .int .i64 99])[j * 2]? = some (.int .i64 x.op) ∧ (#[Value.int .i64 40, .int .i64 0, .int .i64 41, .int .i64 2, .int .i64 43, .int .i64 99])[j * 2 + 1]? = some (.int .i64 x.a) := by
  intro j x hx
  match j, hx with
  | 0, hx => simp at hx; subst hx; exact ⟨rfl, rfl⟩
  | 1, hx => simp at hx; subst hx; exact ⟨rfl, rfl⟩
  | 2, hx => simp at hx; subst hx; exact ⟨rfl, rfl⟩
set_option maxHeartbeats 4000000
theorem law_codeKnown (w : World) : Calls Try.prog 15 #[] w fun e w' => e = .returned (.bool true) ∧ Below w.heap.size w w' := by
  have hd5 : Aside0 (∀ W : World, Calls Try.prog 37 #[.slice (some ⟨W.heap.size, 0, none⟩) 1 1] (W.alloc (.cells #[.int .u8 4] 5 (1, 2))) fun e w' => ∃ A n c, e = .returned (.tuple #[.slice A n c, .int .i64 2]) ∧ Chg (fun _ => False) W w') := ⟨fun W => by
    have h := code_Decode _ _ 1 1 [4] (C_u8 (l := [4]) (heap_alloc_new W (.cells #[.int .u8 4] 5 (1, 2))) (by decide)) (by decide) (by decide)
    rw [show (decP [4]).2 = 2 from by decide +kernel] at h
    refine h.mono ?_
    rintro e w' ⟨v, rfl, hr, hc⟩
    obtain ⟨A, n, c, rfl⟩ := R_sl hr
    exact ⟨A, n, c, rfl, ((Chg.refl (fun _ => False) W).alloc _).trans hc (fun _ _ h => h)⟩⟩
  have hd6 : Aside0 (∀ W : World, Calls Try.prog 37 #[.slice (some ⟨W.heap.size, 0, none⟩) 3 3] (W.alloc (.cells #[.int .u8 40, .int .u8 128, .int .u8 0] 5 (3, 4))) fun e w' => ∃ A n c, e = .returned (.tuple #[.slice A n c, .int .i64 4]) ∧ Chg (fun _ => False) W w') := ⟨fun W => by
    have h := code_Decode _ _ 3 3 [40, 128, 0] (C_u8 (l := [40, 128, 0]) (heap_alloc_new W (.cells #[.int .u8 40, .int .u8 128, .int .u8 0] 5 (3, 4))) (by decide)) (by decide) (by decide)
    rw [show (decP [40, 128, 0]).2 = 4 from by decide +kernel] at h
    refine h.mono ?_
    rintro e w' ⟨v, rfl, hr, hc⟩
    obtain ⟨A, n, c, rfl⟩ := R_sl hr
    exact ⟨A, n, c, rfl, ((Chg.refl (fun _ => False) W).alloc _).trans hc (fun _ _ h => h)⟩⟩
  have hd7 : Aside0 (∀ W : World, Calls Try.prog 37 #[.slice (some ⟨W.heap.size, 0, none⟩) 1 1] (W.alloc (.cells #[.int .u8 67] 5 (1, 2))) fun e w' => ∃ A n c, e = .returned (.tuple #[.slice A n c, .int .i64 7]) ∧ Chg (fun _ => False) W w') := ⟨fun W => by
    have h := code_Decode _ _ 1 1 [67] (C_u8 (l := [67]) (heap_alloc_new W (.cells #[.int .u8 67] 5 (1, 2))) (by decide)) (by decide) (by decide)
    rw [show (decP [67]).2 = 7 from by decide +kernel] at h
    refine h.mono ?_
    rintro e w' ⟨v, rfl, hr, hc⟩
    obtain ⟨A, n, c, rfl⟩ := R_sl hr
    exact ⟨A, n, c, rfl, ((Chg.refl (fun _ => False) W).alloc _).trans hc (fun _ _ h => h)⟩⟩
  have hd8 : Aside0 (∀ W : World, Calls Try.prog 37 #[.slice (some ⟨W.heap.size, 0, none⟩) 2 2] (W.alloc (.cells #[.int .u8 24, .int .u8 24] 5 (2, 3))) fun e w' => ∃ A n c, e = .returned (.tuple #[.slice A n c, .int .i64 7]) ∧ Chg (fun _ => False) W w') := ⟨fun W => by
    have h := code_Decode _ _ 2 2 [24, 24] (C_u8 (l := [24, 24]) (heap_alloc_new W (.cells #[.int .u8 24, .int .u8 24] 5 (2, 3))) (by decide)) (by decide) (by decide)
    rw [show (decP [24, 24]).2 = 7 from by decide +kernel] at h
    refine h.mono ?_
    rintro e w' ⟨v, rfl, hr, hc⟩
    obtain ⟨A, n, c, rfl⟩ := R_sl hr
    exact ⟨A, n, c, rfl, ((Chg.refl (fun _ => False) W).alloc _).trans hc (fun _ _ h => h)⟩⟩
  have hsf0 : Aside0 (∀ W W' : World, Chg (fun _ => False) (W.alloc (.cells C3 35)) W' → Calls Try.prog 18 #[.slice (some ⟨W.heap.size, 0, none⟩) 3 3, .int .i64 (0)] W' fun e w' => e = .returned (.bool true) ∧ w' = W') := ⟨fun W W' hc => by
    have h := code_Safe W' (some ⟨W.heap.size, 0, none⟩) 3 3 [⟨40, 0⟩, ⟨41, 2⟩, ⟨43, 99⟩] (0) (C_chg (C_instrs (l := [⟨40, 0⟩, ⟨41, 2⟩, ⟨43, 99⟩]) (heap_alloc_new W (.cells C3 35)) (by decide) three_cells) (hc.below (fun _ _ h => h))) (by decide)
    rw [show safeP [⟨40, 0⟩, ⟨41, 2⟩, ⟨43, 99⟩] (0) = true from by decide] at h
    exact h⟩
  have hsf1 : Aside0 (∀ W W' : World, Chg (fun _ => False) (W.alloc (.cells C3 35)) W' → Calls Try.prog 18 #[.slice (some ⟨W.heap.size, 0, none⟩) 3 3, .int .i64 (1)] W' fun e w' => e = .returned (.bool false) ∧ w' = W') := ⟨fun W W' hc => by
    have h := code_Safe W' (some ⟨W.heap.size, 0, none⟩) 3 3 [⟨40, 0⟩, ⟨41, 2⟩, ⟨43, 99⟩] (1) (C_chg (C_instrs (l := [⟨40, 0⟩, ⟨41, 2⟩, ⟨43, 99⟩]) (heap_alloc_new W (.cells C3 35)) (by decide) three_cells) (hc.below (fun _ _ h => h))) (by decide)
    rw [show safeP [⟨40, 0⟩, ⟨41, 2⟩, ⟨43, 99⟩] (1) = false from by decide] at h
    exact h⟩
  have hsf2 : Aside0 (∀ W W' : World, Chg (fun _ => False) (W.alloc (.cells C3 35)) W' → Calls Try.prog 18 #[.slice (some ⟨W.heap.size, 0, none⟩) 3 3, .int .i64 (2)] W' fun e w' => e = .returned (.bool true) ∧ w' = W') := ⟨fun W W' hc => by
    have h := code_Safe W' (some ⟨W.heap.size, 0, none⟩) 3 3 [⟨40, 0⟩, ⟨41, 2⟩, ⟨43, 99⟩] (2) (C_chg (C_instrs (l := [⟨40, 0⟩, ⟨41, 2⟩, ⟨43, 99⟩]) (heap_alloc_new W (.cells C3 35)) (by decide) three_cells) (hc.below (fun _ _ h => h))) (by decide)
    rw [show safeP [⟨40, 0⟩, ⟨41, 2⟩, ⟨43, 99⟩] (2) = true from by decide] at h
    exact h⟩
  have hsf3 : Aside0 (∀ W W' : World, Chg (fun _ => False) (W.alloc (.cells C3 35)) W' → Calls Try.prog 18 #[.slice (some ⟨W.heap.size, 0, none⟩) 3 3, .int .i64 (3)] W' fun e w' => e = .returned (.bool false) ∧ w' = W') := ⟨fun W W' hc => by
    have h := code_Safe W' (some ⟨W.heap.size, 0, none⟩) 3 3 [⟨40, 0⟩, ⟨41, 2⟩, ⟨43, 99⟩] (3) (C_chg (C_instrs (l := [⟨40, 0⟩, ⟨41, 2⟩, ⟨43, 99⟩]) (heap_alloc_new W (.cells C3 35)) (by decide) three_cells) (hc.below (fun _ _ h => h))) (by decide)
    rw [show safeP [⟨40, 0⟩, ⟨41, 2⟩, ⟨43, 99⟩] (3) = false from by decide] at h
    exact h⟩
  have hsf4 : Aside0 (∀ W W' : World, Chg (fun _ => False) (W.alloc (.cells C3 35)) W' → Calls Try.prog 18 #[.slice (some ⟨W.heap.size, 0, none⟩) 3 3, .int .i64 (-1)] W' fun e w' => e = .returned (.bool false) ∧ w' = W') := ⟨fun W W' hc => by
    have h := code_Safe W' (some ⟨W.heap.size, 0, none⟩) 3 3 [⟨40, 0⟩, ⟨41, 2⟩, ⟨43, 99⟩] (-1) (C_chg (C_instrs (l := [⟨40, 0⟩, ⟨41, 2⟩, ⟨43, 99⟩]) (heap_alloc_new W (.cells C3 35)) (by decide) three_cells) (hc.below (fun _ _ h => h))) (by decide)
    rw [show safeP [⟨40, 0⟩, ⟨41, 2⟩, ⟨43, 99⟩] (-1) = false from by decide] at h
    exact h⟩
  have he1 : Aside0 (∀ W, Calls Try.prog 31 #[.agg #[.int .i64 43, .int .i64 2]] W fun e w' => e = .returned (.tuple #[.int .i64 3, .int .i64 1, .bool true]) ∧ Chg (fun _ => False) W w') := ⟨fun W => by
    have h := code_Effect W 43 2
    rw [show tkP 43 2 = 3 from by decide +kernel, show ptP 43 2 = 1 from by decide +kernel, show efP 43 2 = true from by decide +kernel] at h
    exact h⟩
  have he2 : Aside0 (∀ W, Calls Try.prog 31 #[.agg #[.int .i64 43, .int .i64 64]] W fun e w' => e = .returned (.tuple #[.int .i64 0, .int .i64 0, .bool false]) ∧ Chg (fun _ => False) W w') := ⟨fun W => by
    have h := code_Effect W 43 64
    rw [show tkP 43 64 = 0 from by decide +kernel, show ptP 43 64 = 0 from by decide +kernel, show efP 43 64 = false from by decide +kernel] at h
    exact h⟩
  have kc := fun (w : World) (C : Array Value) (n c : Nat) => Lib.run_convert_bytes_const (P := Try.prog) w 43 5 C n c Try.underlying43 Try.underlying5
  go_enter Try.func15, Try.ntmps15
  go_wp2_with (first | (go_at_call 48; go_must (refine (law_edged _).mono ?_); go_must (rintro e w1 ⟨rfl, hb1⟩); go_must (replace hb1 := Aside0.mk hb1); go_must (have z0 := Aside0.mk (Chg.refl (fun _ => False) w1))) | (go_at_call 18; first | (refine (hsf0.out w1 _ (Chg.refl _ _)).mono ?_; go_must (rintro e w2 ⟨rfl, rfl⟩); go_must (clear hsf0)) | (refine (hsf1.out w1 _ (Chg.refl _ _)).mono ?_; go_must (rintro e w2 ⟨rfl, rfl⟩); go_must (clear hsf1)) | (refine (hsf2.out w1 _ (Chg.refl _ _)).mono ?_; go_must (rintro e w2 ⟨rfl, rfl⟩); go_must (clear hsf2)) | (refine (hsf3.out w1 _ (Chg.refl _ _)).mono ?_; go_must (rintro e w2 ⟨rfl, rfl⟩); go_must (clear hsf3)) | (refine (hsf4.out w1 _ (Chg.refl _ _)).mono ?_; go_must (rintro e w2 ⟨rfl, rfl⟩); go_must (clear hsf4))) | (go_at_call 31; (refine (he1.out _).mono ?_); go_must (rintro e w3 ⟨rfl, hc3⟩); go_must (have z3 := Aside0.mk ((z0.out.alloc _).trans hc3 (fun _ _ h => h))); go_must (clear hc3 he1)) | (go_at_call 31; (refine (he2.out _).mono ?_); go_must (rintro e w4 ⟨rfl, hc4⟩); go_must (have z4 := Aside0.mk (z3.out.trans hc4 (fun _ _ h => h))); go_must (clear hc4 he2)) | (go_at_call 37; (refine (hd5.out _).mono ?_); go_must (rintro e w5 ⟨A5, n5, cap5, rfl, hc5⟩); go_must (have z5 := Aside0.mk (z4.out.trans hc5 (fun _ _ h => h))); go_must (clear hc5 hd5)) | (go_at_call 37; (refine (hd6.out _).mono ?_); go_must (rintro e w6 ⟨A6, n6, cap6, rfl, hc6⟩); go_must (have z6 := Aside0.mk (z5.out.trans hc6 (fun _ _ h => h))); go_must (clear hc6 hd6)) | (go_at_call 37; (refine (hd7.out _).mono ?_); go_must (rintro e w7 ⟨A7, n7, cap7, rfl, hc7⟩); go_must (have z7 := Aside0.mk (z6.out.trans hc7 (fun _ _ h => h))); go_must (clear hc7 hd7)) | (go_at_call 37; (refine (hd8.out _).mono ?_); go_must (rintro e w8 ⟨A8, n8, cap8, rfl, hc8⟩); go_must (have z8 := Aside0.mk (z7.out.trans hc8 (fun _ _ h => h))); go_must (clear hc8 hd8)) | (go_at_call 47; go_must (refine (law_works _).mono ?_); go_must (rintro e w9 ⟨rfl, hc9⟩); go_must (have z9 := Aside0.mk (z8.out.trans hc9 (fun _ _ h => h)))))
  go_ret
  exact ⟨rfl, below_then hb1.out hb1.out.size (z9.out.below (fun _ _ h => h))⟩

end Go.Proofs.Ythmghcjkmmhgnaa.K
