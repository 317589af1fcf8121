import Derived.Test.YtbheebcjbolboaaRc
namespace Go.Proofs.Ytbheebcjbolboaa.K
open Go.RowKit Go.Proofs.YtbheebcjbolboaaW.PrintWords Go.Proofs.YtbheebcjbolboaaW.PrintLast Go.Proofs.YtbheebcjbolboaaW.PrintMore
set_option linter.unusedVariables false
set_option linter.unusedSimpArgs false
set_option maxRecDepth 100000

theorem rd_count1 (w : World) (F : Nat → Prop) (g i br bm : Nat) (tr tm : TypeId) (bs : List Int) (most : Int) (hm0 : -9223372036854775808 ≤ most) (hm1 : most ≤ 9223372036854775807) (hw : Rd w F g bs i 0)
    (hr : w.heap[br]? = some (.cells #[.pointer (some ⟨g, 0, none⟩)] tr (0, 0))) (hm : w.heap[bm]? = some (.cells #[.int .i64 most] tm (0, 0))) :
    Calls Try.prog 75 #[.pointer (some ⟨br, 0, none⟩), .pointer (some ⟨bm, 0, none⟩)] w (Res (Value.int .i64) w F g bs (pCount bs most i)) := by
  have cr : w.cell? ⟨br, 0, none⟩ = some (.pointer (some ⟨g, 0, none⟩)) := blk_cell hr 0
  have cm : w.cell? ⟨bm, 0, none⟩ = some (.int .i64 most) := blk_cell hm 0
  have hW := Aside0.mk hw
  replace hm0 := Aside0.mk hm0
  replace hm1 := Aside0.mk hm1
  clear hw hr hm
  rcases hp : pCount bs most i with c | ⟨x, j⟩
  · replace hp := Aside0.mk hp
    go_enter Try.func75, Try.ntmps75
    go_wp2_with (go_at_call 63; go_must (refine (rd_count _ F g i bs most hm0.out hm1.out hW.out).mono ?_); go_must (rintro e w1 ⟨hc1, hm⟩); go_must (rw [hp.out] at hm); go_must (obtain ⟨rfl, j1, hR1⟩ := hm); go_must (replace hc1 := Aside0.mk hc1); go_must (replace hR1 := Aside0.mk hR1))
    exact ⟨rfl, Res.no rfl hc1.out hR1.out⟩
  · replace hp := Aside0.mk hp
    go_enter Try.func75, Try.ntmps75
    go_wp2_with (go_at_call 63; go_must (refine (rd_count _ F g i bs most hm0.out hm1.out hW.out).mono ?_); go_must (rintro e w1 ⟨hc1, hm⟩); go_must (rw [hp.out] at hm); go_must (obtain ⟨rfl, hR1⟩ := hm); go_must (replace hc1 := Aside0.mk hc1); go_must (replace hR1 := Aside0.mk hR1))
    go_ret
    exact Res.yes rfl hc1.out hR1.out
theorem rd_Count (w : World) (F : Nat → Prop) (g i : Nat) (bs : List Int) (err most : Int) (hm0 : -9223372036854775808 ≤ most) (hm1 : most ≤ 9223372036854775807) (hw : Rd w F g bs i err) :
    Calls Try.prog 55 #[.pointer (some ⟨g, 0, none⟩), .int .i64 most] w (ResM (Value.int .i64) w F g bs (rrun (pCount bs most) 0 i err)) := by
  have hW := Aside0.mk hw
  have hgl := hw.lt
  have hmf := mkfunc
  replace hm0 := Aside0.mk hm0
  replace hm1 := Aside0.mk hm1
  clear hw
  go_enter Try.func55, Try.ntmps55
  go_wp2_with (go_at_call 74; go_must (refine (reading_count _ F g i bs err w.heap.size (w.heap.size + 1) most (hW.out.chg (((Chg.refl (fun _ => False) w).alloc _).alloc _) (fun _ _ _ h => h)) (fun w' hc hR => rd_count1 w' F g i _ _ _ _ bs most hm0.out hm1.out hR (hc.blk (heap_alloc_old2 w _ _) (fun h => h)) (hc.blk (heap_alloc_new2 w _ _) (fun h => h)))).mono ?_); go_must (rintro e w1 ⟨rfl, hR1, hc1⟩); go_must (replace hc1 := Aside0.mk hc1); go_must (replace hR1 := Aside0.mk hR1))
  go_ret
  exact ⟨rfl, hR1.out, (((Chg.refl (fun k => k = g) w).alloc _).alloc _).trans hc1.out (fun _ _ h => h)⟩
theorem rd_Byte (w : World) (F : Nat → Prop) (g i : Nat) (bs : List Int) (err : Int) (hw : Rd w F g bs i err) :
    Calls Try.prog 28 #[.pointer (some ⟨g, 0, none⟩)] w (ResM (Value.int .u8) w F g bs (rrun (pNext bs) 0 i err)) := by
  have hW := Aside0.mk hw
  have hmf := mkfunc
  clear hw
  go_enter Try.func28, Try.ntmps28
  go_wp2_with (go_at_call 64; go_must (refine (reading_next _ F g i bs err hW.out (fun w' _ hR => rd_next w' F g i bs hR)).mono ?_); go_must (rintro e w1 ⟨rfl, hR1, hc1⟩); go_must (replace hc1 := Aside0.mk hc1); go_must (replace hR1 := Aside0.mk hR1))
  go_ret
  exact ⟨rfl, hR1.out, hc1.out⟩
theorem rd_Uint (w : World) (F : Nat → Prop) (g i : Nat) (bs : List Int) (err : Int) (hw : Rd w F g bs i err) :
    Calls Try.prog 29 #[.pointer (some ⟨g, 0, none⟩)] w (ResM (Value.int .u64) w F g bs (rrun (pNum bs) 0 i err)) := by
  have hW := Aside0.mk hw
  have hmf := mkfunc
  clear hw
  go_enter Try.func29, Try.ntmps29
  go_wp2_with (go_at_call 66; go_must (refine (reading_number _ F g i bs err hW.out (fun w' _ hR => rd_number w' F g i bs hR)).mono ?_); go_must (rintro e w1 ⟨rfl, hR1, hc1⟩); go_must (replace hc1 := Aside0.mk hc1); go_must (replace hR1 := Aside0.mk hR1))
  go_ret
  exact ⟨rfl, hR1.out, hc1.out⟩
theorem rrun_num_range {bs : List Int} (hb : ∀ c ∈ bs, 0 ≤ c ∧ c < 256) (i : Nat) (err : Int) : 0 ≤ (rrun (pNum bs) 0 i err).1 ∧ (rrun (pNum bs) 0 i err).1 ≤ 18446744073709551615 := by
  unfold rrun
  split
  · split
    · rename_i h
      exact pNum_range hb h
    · simp
  · simp
theorem unfold_walk (x : Int) (h0 : 0 ≤ x) (h1 : x ≤ 18446744073709551615) : bits .xor .i64 (wrap64 (x / 2)) (wrap64 (-wrap64 (bits .and .u64 x 1))) = unfoldI x := by
  have e1 : bits .and .u64 x 1 = x % 2 := by
    rw [u64_and x 1 h0 (by omega) (by decide) (by decide)]
    obtain ⟨X, rfl⟩ := Int.eq_ofNat_of_zero_le h0
    simp only [Int.toNat_natCast]
    rw [show (1 : Int).toNat = 1 from rfl, Nat.and_one_is_mod]
    omega
  have e2 : wrap64 (x / 2) = x / 2 := by unfold wrap64; omega
  have e3 : wrap64 (x % 2) = x % 2 := by unfold wrap64; omega
  have i64w : ∀ n : Int, IntKind.i64.wrap n = (n + 9223372036854775808) % 18446744073709551616 - 9223372036854775808 := IntKind.wrap_i64
  rw [e1, e2, e3]
  by_cases h : x % 2 = 0
  · rw [h, unfoldI, if_pos h, show wrap64 (-0) = 0 from by unfold wrap64; omega]
    show IntKind.i64.wrap ((BitVec.ofInt 64 (x / 2) ^^^ BitVec.ofInt 64 0).toNat : Int) = _
    rw [i64w]
    simp
    omega
  · have h' : x % 2 = 1 := by omega
    rw [h', unfoldI, if_neg h, show wrap64 (-1) = -1 from by unfold wrap64; omega]
    show IntKind.i64.wrap ((BitVec.ofInt 64 (x / 2) ^^^ BitVec.ofInt 64 (-1)).toNat : Int) = _
    rw [i64w, show BitVec.ofInt 64 (-1) = BitVec.allOnes 64 from by decide, BitVec.xor_allOnes, BitVec.toNat_not]
    simp
    omega
theorem rd_Int (w : World) (F : Nat → Prop) (g i : Nat) (bs : List Int) (err : Int) (hw : Rd w F g bs i err) :
    Calls Try.prog 35 #[.pointer (some ⟨g, 0, none⟩)] w fun e w' => e = .returned (.int .i64 (unfoldI (rrun (pNum bs) 0 i err).1)) ∧ Rd w' F g bs (rrun (pNum bs) 0 i err).2.1 (rrun (pNum bs) 0 i err).2.2 ∧ Chg (fun k => k = g) w w' := by
  have hW := Aside0.mk hw
  have hby : ∀ c ∈ bs, 0 ≤ c ∧ c < 256 := by obtain ⟨_, _, _, _, _, _, h, _⟩ := hw; exact h
  have hun := Aside0.mk (unfold_walk _ (rrun_num_range hby i err).1 (rrun_num_range hby i err).2)
  have hmf := mkfunc
  clear hw hby
  go_enter Try.func35, Try.ntmps35
  go_wp2_with (go_at_call 66; go_must (refine (reading_number _ F g i bs err hW.out (fun w' _ hR => rd_number w' F g i bs hR)).mono ?_); go_must (rintro e w1 ⟨rfl, hR1, hc1⟩); go_must (replace hc1 := Aside0.mk hc1); go_must (replace hR1 := Aside0.mk hR1))
  go_ret
  exact ⟨by rw [← hun.out]; rfl, hR1.out, hc1.out⟩
theorem rd_Left (w : World) (F : Nat → Prop) (g i : Nat) (bs : List Int) (err : Int) (hw : Rd w F g bs i err) :
    Calls Try.prog 25 #[.pointer (some ⟨g, 0, none⟩)] w fun e w' => e = .returned (.int .i64 ((bs.length : Int) - i)) ∧ Drawn0 w w' := by
  obtain ⟨A, c, hb0, hg, hi, hl, hby, hr0⟩ := hw
  obtain ⟨c0, c1, c2, f0, f1, f2⟩ := Rd.cells hb0
  clear hb0 hr0 hby hg
  go_enter Try.func25, Try.ntmps25
  go_wp2
  go_quiet (fail)
  go_wp2
  go_ret
  exact ⟨rfl, ⟨_, rfl⟩⟩
theorem rd_Err (w : World) (F : Nat → Prop) (g i : Nat) (bs : List Int) (err : Int) (hw : Rd w F g bs i err) :
    Calls Try.prog 24 #[.pointer (some ⟨g, 0, none⟩)] w fun e w' => e = .returned (.int .i64 err) ∧ w = w' := by
  obtain ⟨A, c, hb0, hg, hi, hl, hby, hr0⟩ := hw
  obtain ⟨c0, c1, c2, f0, f1, f2⟩ := Rd.cells hb0
  clear hb0 hr0 hby hg
  go_enter Try.func24, Try.ntmps24
  go_wp2
  go_ret
  exact ⟨rfl, rfl⟩
theorem rd_End (w : World) (F : Nat → Prop) (g i : Nat) (bs : List Int) (err : Int) (hw : Rd w F g bs i err) :
    Calls Try.prog 26 #[.pointer (some ⟨g, 0, none⟩)] w fun e w' => e = .returned (.int .i64 (rEnd bs i err)) ∧ Drawn0 w w' := by
  have hW := Aside0.mk hw
  obtain ⟨A, c, hb0, hg, hi, hl, hby, hr0⟩ := hw
  obtain ⟨c0, c1, c2, f0, f1, f2⟩ := Rd.cells hb0
  clear hb0 hr0 hby hg
  by_cases he : err = 0
  · subst he
    by_cases h : i < bs.length
    · go_enter Try.func26, Try.ntmps26
      have h1 : (0 : Int) < (bs.length : Int) - i := by omega
      go_wp2_with (go_at_call 25; go_must (refine (rd_Left _ F g i bs 0 hW.out).mono ?_); go_must (rintro e w1 ⟨rfl, ⟨nd, rfl⟩⟩))
      go_ret
      exact ⟨by simp [rEnd, h], ⟨_, rfl⟩⟩
    · go_enter Try.func26, Try.ntmps26
      have h1 : ¬ (0 : Int) < (bs.length : Int) - i := by omega
      go_wp2_with (go_at_call 25; go_must (refine (rd_Left _ F g i bs 0 hW.out).mono ?_); go_must (rintro e w1 ⟨rfl, ⟨nd, rfl⟩⟩))
      go_ret
      exact ⟨by simp [rEnd, h], ⟨_, rfl⟩⟩
  · have he1 : (err == 0) = false := by simpa using he
    replace he := Aside0.mk he
    go_enter Try.func26, Try.ntmps26
    go_wp2
    go_ret
    exact ⟨by simp [rEnd, he.out], ⟨0, rfl⟩⟩
theorem rd_new (w : World) (A : Option Addr) (n c : Nat) (bs : List Int) (hC : Kd.C (Kd.int .u8) w A n bs) (hn : n ≤ 140737488355328) (hby : ∀ c ∈ bs, 0 ≤ c ∧ c < 256) :
    Calls Try.prog 22 #[.slice A n c] w fun e w' => ∃ g, e = .returned (.pointer (some ⟨g, 0, none⟩)) ∧ w.heap.size ≤ g ∧ Rd w' (New (fun _ => False) w w') g bs 0 0 ∧ Chg (fun _ => False) w w' := by
  have hCA := Aside0.mk hC
  have hCl := Aside0.mk hC
  have hnA := Aside0.mk hn
  have hbyA := Aside0.mk hby
  clear hC hn hby
  go_enter Try.func22, Try.ntmps22
  go_wp2_with (go_at_call 57; go_must (refine (clone_bytes _ A n c bs hCA.out hnA.out).mono ?_); go_must (rintro e w1 ⟨v1, rfl, hr1, hc1⟩); go_must (obtain ⟨A1, n1, cap1, rfl⟩ := R_sl hr1); go_must (replace hr1 := Aside0.mk hr1); go_must (replace hc1 := Aside0.mk hc1))
  go_ret
  have hlt := hc1.out.size
  refine ⟨_, rfl, hlt, ⟨A1, cap1, ?_, .inr ⟨hlt, by simp⟩, by omega, ?_, hbyA.out, ?_⟩, hc1.out.alloc _⟩
  · have e := (Kd.R_reads' hr1.out).1
    have := heap_alloc_new w1 (.cells #[.slice A1 n1 cap1, .int .i64 0, .int .i64 0] 79)
    rw [e] at this ⊢
    exact this
  · have := (hCl.out).1
    have := hnA.out
    omega
  · have e := (Kd.R_reads' hr1.out).1
    have h2 := R_chg (hr1.out) ((Chg.refl (fun _ => False) w1).alloc (.cells #[.slice A1 n1 cap1, .int .i64 0, .int .i64 0] 79)) (fun _ _ _ h => h)
    rw [e] at h2
    rw [e]
    refine Kd.R_mono (Kd.R_bound h2) (fun k hk => ⟨?_, ?_⟩)
    · rcases hk.1 with h | h
      · exact h.elim
      · exact .inr ⟨h.1, hk.2.2.1⟩
    · rcases hk.1 with h | h
      · exact h.elim
      · omega

end Go.Proofs.Ytbheebcjbolboaa.K
