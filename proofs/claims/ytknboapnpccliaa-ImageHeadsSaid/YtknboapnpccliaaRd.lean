import Derived.Test.YtknboapnpccliaaRc
namespace Go.Proofs.Ytknboapnpccliaa.K
open Go.RowKit Go.Proofs.YtknboapnpccliaaW.PrintWords Go.Proofs.YtknboapnpccliaaW.PrintLast Go.Proofs.YtknboapnpccliaaW.PrintMore
set_option linter.unusedVariables false
set_option linter.unusedSimpArgs false
set_option maxRecDepth 100000

theorem rrun_num_range {bs : List Int} (hb : ∀ c ∈ bs, 0 ≤ c ∧ c < 256) (i : Nat) (err : Int) : 0 ≤ (rrun (pNum bs) 0 i err).1 ∧ (rrun (pNum bs) 0 i err).1 ≤ 18446744073709551615 := by
  unfold rrun
  split
  · split
    · rename_i h
      exact pNum_range hb h
    · simp
  · simp
theorem unfold_walk (x : Int) (h0 : 0 ≤ x) (h1 : x ≤ 18446744073709551615) : bits .xor .i64 (wrap64 (x / 2)) (wrap64 (-wrap64 (bits .and .u64 x 1))) = unfoldI x := by
  have e1 : bits .and .u64 x 1 = x % 2 := by
    rw [u64_and x 1 h0 (by omega) (by decide) (by decide)]
    obtain ⟨X, rfl⟩ := Int.eq_ofNat_of_zero_le h0
    simp only [Int.toNat_natCast]
    rw [show (1 : Int).toNat = 1 from rfl, Nat.and_one_is_mod]
    omega
  have e2 : wrap64 (x / 2) = x / 2 := by unfold wrap64; omega
  have e3 : wrap64 (x % 2) = x % 2 := by unfold wrap64; omega
  have i64w : ∀ n : Int, IntKind.i64.wrap n = (n + 9223372036854775808) % 18446744073709551616 - 9223372036854775808 := IntKind.wrap_i64
  rw [e1, e2, e3]
  by_cases h : x % 2 = 0
  · rw [h, unfoldI, if_pos h, show wrap64 (-0) = 0 from by unfold wrap64; omega]
    show IntKind.i64.wrap ((BitVec.ofInt 64 (x / 2) ^^^ BitVec.ofInt 64 0).toNat : Int) = _
    rw [i64w]
    simp
    omega
  · have h' : x % 2 = 1 := by omega
    rw [h', unfoldI, if_neg h, show wrap64 (-1) = -1 from by unfold wrap64; omega]
    show IntKind.i64.wrap ((BitVec.ofInt 64 (x / 2) ^^^ BitVec.ofInt 64 (-1)).toNat : Int) = _
    rw [i64w, show BitVec.ofInt 64 (-1) = BitVec.allOnes 64 from by decide, BitVec.xor_allOnes, BitVec.toNat_not]
    simp
    omega
theorem rd_Err (w : World) (F : Nat → Prop) (g i : Nat) (bs : List Int) (err : Int) (hw : Rd w F g bs i err) :
    Calls Try.prog 82 #[.pointer (some ⟨g, 0, none⟩)] w fun e w' => e = .returned (.int .i64 err) ∧ w = w' := by
  obtain ⟨A, c, hb0, hg, hi, hl, hby, hr0⟩ := hw
  obtain ⟨c0, c1, c2, f0, f1, f2⟩ := Rd.cells hb0
  clear hb0 hr0 hby hg
  go_enter Try.func82, Try.ntmps82
  go_wp2
  go_ret
  exact ⟨rfl, rfl⟩
theorem rd_new (w : World) (A : Option Addr) (n c : Nat) (bs : List Int) (hC : Kd.C (Kd.int .u8) w A n bs) (hn : n ≤ 140737488355328) (hby : ∀ c ∈ bs, 0 ≤ c ∧ c < 256) :
    Calls Try.prog 80 #[.slice A n c] w fun e w' => ∃ g, e = .returned (.pointer (some ⟨g, 0, none⟩)) ∧ w.heap.size ≤ g ∧ Rd w' (New (fun _ => False) w w') g bs 0 0 ∧ Chg (fun _ => False) w w' := by
  have hCA := Aside0.mk hC
  have hCl := Aside0.mk hC
  have hnA := Aside0.mk hn
  have hbyA := Aside0.mk hby
  clear hC hn hby
  go_enter Try.func80, Try.ntmps80
  go_wp2_with (go_at_call 95; go_must (refine (clone_bytes _ A n c bs hCA.out hnA.out).mono ?_); go_must (rintro e w1 ⟨v1, rfl, hr1, hc1⟩); go_must (obtain ⟨A1, n1, cap1, rfl⟩ := R_sl hr1); go_must (replace hr1 := Aside0.mk hr1); go_must (replace hc1 := Aside0.mk hc1))
  go_ret
  have hlt := hc1.out.size
  refine ⟨_, rfl, hlt, ⟨A1, cap1, ?_, .inr ⟨hlt, by simp⟩, by omega, ?_, hbyA.out, ?_⟩, hc1.out.alloc _⟩
  · have e := (Kd.R_reads' hr1.out).1
    have := heap_alloc_new w1 (.cells #[.slice A1 n1 cap1, .int .i64 0, .int .i64 0] 149)
    rw [e] at this ⊢
    exact this
  · have := (hCl.out).1
    have := hnA.out
    omega
  · have e := (Kd.R_reads' hr1.out).1
    have h2 := R_chg (hr1.out) ((Chg.refl (fun _ => False) w1).alloc (.cells #[.slice A1 n1 cap1, .int .i64 0, .int .i64 0] 149)) (fun _ _ _ h => h)
    rw [e] at h2
    rw [e]
    refine Kd.R_mono (Kd.R_bound h2) (fun k hk => ⟨?_, ?_⟩)
    · rcases hk.1 with h | h
      · exact h.elim
      · exact .inr ⟨h.1, hk.2.2.1⟩
    · rcases hk.1 with h | h
      · exact h.elim
      · omega

end Go.Proofs.Ytknboapnpccliaa.K
