import Derived.Test.YtbheebcjbolboaaRd
namespace Go.Proofs.Ytbheebcjbolboaa.K
open Go.RowKit Go.Proofs.YtbheebcjbolboaaW.PrintWords Go.Proofs.YtbheebcjbolboaaW.PrintLast Go.Proofs.YtbheebcjbolboaaW.PrintMore
set_option linter.unusedVariables false
set_option linter.unusedSimpArgs false
set_option maxRecDepth 100000

theorem or_byte (x c : Int) (h0 : 0 ≤ x) (h1 : x < 72057594037927936) (hc0 : 0 ≤ c) (hc1 : c < 256) : bits .or .u64 (IntKind.u64.wrap (x * 256)) c = x * 256 + c := by
  have w64 : ∀ n : Int, IntKind.u64.wrap n = n % 18446744073709551616 := fun n => by simp [IntKind.wrap, IntKind.bits, IntKind.signed]
  rw [w64, Int.emod_eq_of_lt (by omega) (by omega), u64_or _ _ (by omega) (by omega) hc0 (by omega)]
  obtain ⟨X, rfl⟩ := Int.eq_ofNat_of_zero_le h0
  obtain ⟨D, rfl⟩ := Int.eq_ofNat_of_zero_le hc0
  have e : ((X : Int) * 256).toNat = 2 ^ 8 * X := by omega
  rw [e, Int.toNat_natCast, ← Nat.two_pow_add_eq_or_of_lt (show D < 2 ^ 8 by omega)]
  push_cast
  omega
theorem add_0 (a : Addr) : a.add 0 = a := by simp [Addr.add]
theorem add_pos (a : Addr) (j : Nat) (hj : 0 < j) : a.add j = ⟨a.block, a.off + j, none⟩ := by
  have := add_field a 0 j hj
  rw [add_0] at this
  simpa using this
theorem eight {w : World} {A : Option Addr} {b0 b1 b2 b3 b4 b5 b6 b7 : Int} (h : Kd.C (Kd.int .u8) w A [b0, b1, b2, b3, b4, b5, b6, b7].length [b0, b1, b2, b3, b4, b5, b6, b7]) : ∃ ad : Addr, A = some ad ∧ w.cell? ad = some (.int .u8 b0) ∧ w.cell? ⟨ad.block, ad.off + 1, none⟩ = some (.int .u8 b1) ∧ w.cell? ⟨ad.block, ad.off + 2, none⟩ = some (.int .u8 b2) ∧ w.cell? ⟨ad.block, ad.off + 3, none⟩ = some (.int .u8 b3) ∧ w.cell? ⟨ad.block, ad.off + 4, none⟩ = some (.int .u8 b4) ∧ w.cell? ⟨ad.block, ad.off + 5, none⟩ = some (.int .u8 b5) ∧ w.cell? ⟨ad.block, ad.off + 6, none⟩ = some (.int .u8 b6) ∧ w.cell? ⟨ad.block, ad.off + 7, none⟩ = some (.int .u8 b7) := by
  obtain ⟨ad, rfl, x0⟩ := byte_at h 0 (by simp)
  refine ⟨ad, rfl, by simpa [add_0] using x0, by obtain ⟨ad1, e, x⟩ := byte_at h 1 (by simp); injection e with e; subst e; rw [← add_pos _ _ (by decide)]; simpa using x, by obtain ⟨ad1, e, x⟩ := byte_at h 2 (by simp); injection e with e; subst e; rw [← add_pos _ _ (by decide)]; simpa using x, by obtain ⟨ad1, e, x⟩ := byte_at h 3 (by simp); injection e with e; subst e; rw [← add_pos _ _ (by decide)]; simpa using x, by obtain ⟨ad1, e, x⟩ := byte_at h 4 (by simp); injection e with e; subst e; rw [← add_pos _ _ (by decide)]; simpa using x, by obtain ⟨ad1, e, x⟩ := byte_at h 5 (by simp); injection e with e; subst e; rw [← add_pos _ _ (by decide)]; simpa using x, by obtain ⟨ad1, e, x⟩ := byte_at h 6 (by simp); injection e with e; subst e; rw [← add_pos _ _ (by decide)]; simpa using x, by obtain ⟨ad1, e, x⟩ := byte_at h 7 (by simp); injection e with e; subst e; rw [← add_pos _ _ (by decide)]; simpa using x⟩
theorem rd_word1 (w : World) (F : Nat → Prop) (g i br : Nat) (tr : TypeId) (bs : List Int) (hw : Rd w F g bs i 0)
    (hr : w.heap[br]? = some (.cells #[.pointer (some ⟨g, 0, none⟩)] tr (0, 0))) :
    Calls Try.prog 70 #[.pointer (some ⟨br, 0, none⟩)] w (Res (Value.int .u64) w F g bs (pWord bs i)) := by
  have cr : w.cell? ⟨br, 0, none⟩ = some (.pointer (some ⟨g, 0, none⟩)) := blk_cell hr 0
  have hW := Aside0.mk hw
  have hby : ∀ c ∈ bs, 0 ≤ c ∧ c < 256 := by obtain ⟨_, _, _, _, _, _, h, _⟩ := hw; exact h
  replace hby := Aside0.mk hby
  clear hw hr
  rcases hp : pTake bs 8 i with c | ⟨l, j⟩
  · replace hp := Aside0.mk hp
    go_enter Try.func70, Try.ntmps70
    go_wp2_with (go_at_call 60; go_must (refine (rd_take _ F g i bs 8 (by decide) (by decide) hW.out).mono ?_); go_must (rintro e w1 ⟨hc1, hm⟩); go_must (rw [show (8 : Int).toNat = 8 from rfl, hp.out] at hm); go_must (obtain ⟨rfl, j1, hR1⟩ := hm); go_must (replace hc1 := Aside0.mk hc1); go_must (replace hR1 := Aside0.mk hR1))
    exact ⟨rfl, Res.no (by rw [pWord, hp.out]) hc1.out hR1.out⟩
  · have hl8 : l.length = 8 := (pTake_le (by obtain ⟨_, _, _, _, h, _⟩ := hW.out; exact h) hp).2
    have hlb : ∀ c ∈ l, 0 ≤ c ∧ c < 256 := by
      intro c hc
      refine hby.out c ?_
      unfold pTake at hp
      split at hp
      · simp only [Except.ok.injEq, Prod.mk.injEq] at hp
        rw [← hp.1] at hc
        exact List.mem_of_mem_drop (List.mem_of_mem_take hc)
      · cases hp
    obtain ⟨b0, b1, b2, b3, b4, b5, b6, b7, rfl⟩ : ∃ b0 b1 b2 b3 b4 b5 b6 b7, l = [b0, b1, b2, b3, b4, b5, b6, b7] := by
      match l, hl8 with
      | [b0, b1, b2, b3, b4, b5, b6, b7], _ => exact ⟨b0, b1, b2, b3, b4, b5, b6, b7, rfl⟩
    obtain ⟨p0, q0⟩ := hlb b0 (by simp)
    obtain ⟨p1, q1⟩ := hlb b1 (by simp)
    obtain ⟨p2, q2⟩ := hlb b2 (by simp)
    obtain ⟨p3, q3⟩ := hlb b3 (by simp)
    obtain ⟨p4, q4⟩ := hlb b4 (by simp)
    obtain ⟨p5, q5⟩ := hlb b5 (by simp)
    obtain ⟨p6, q6⟩ := hlb b6 (by simp)
    obtain ⟨p7, q7⟩ := hlb b7 (by simp)
    clear hlb hl8
    replace hp := Aside0.mk hp
    have hap := fun (a : Addr) (c : Nat) (w : World) => (by kernel_rfl : (Instr.arrayAt 92 (.slice (some a) 8 c)).run Try.prog w = .ok (.pointer (some a)) w)
    go_enter Try.func70, Try.ntmps70
    go_wp2_with (go_at_call 60; go_must (refine (rd_take _ F g i bs 8 (by decide) (by decide) hW.out).mono ?_); go_must (rintro e w1 ⟨hc1, hm⟩); go_must (rw [show (8 : Int).toNat = 8 from rfl, hp.out] at hm); go_must (obtain ⟨A1, cap1, rfl, hC1, hle1, hR1⟩ := hm); go_must (obtain ⟨ad, rfl, x0, x1, x2, x3, x4, x5, x6, x7⟩ := eight hC1); go_must (clear hC1); go_must (replace hc1 := Aside0.mk hc1); go_must (replace hR1 := Aside0.mk hR1); go_must (simp only [List.length_cons, List.length_nil, Nat.reduceAdd]))
    have i0 := fun (w : World) => (by kernel_rfl : (Instr.index 92 (.agg #[.int .u8 b0, .int .u8 b1, .int .u8 b2, .int .u8 b3, .int .u8 b4, .int .u8 b5, .int .u8 b6, .int .u8 b7]) (.int .i64 0)).run Try.prog w = .ok (.int .u8 b0) w)
    have i1 := fun (w : World) => (by kernel_rfl : (Instr.index 92 (.agg #[.int .u8 b0, .int .u8 b1, .int .u8 b2, .int .u8 b3, .int .u8 b4, .int .u8 b5, .int .u8 b6, .int .u8 b7]) (.int .i64 1)).run Try.prog w = .ok (.int .u8 b1) w)
    have i2 := fun (w : World) => (by kernel_rfl : (Instr.index 92 (.agg #[.int .u8 b0, .int .u8 b1, .int .u8 b2, .int .u8 b3, .int .u8 b4, .int .u8 b5, .int .u8 b6, .int .u8 b7]) (.int .i64 2)).run Try.prog w = .ok (.int .u8 b2) w)
    have i3 := fun (w : World) => (by kernel_rfl : (Instr.index 92 (.agg #[.int .u8 b0, .int .u8 b1, .int .u8 b2, .int .u8 b3, .int .u8 b4, .int .u8 b5, .int .u8 b6, .int .u8 b7]) (.int .i64 3)).run Try.prog w = .ok (.int .u8 b3) w)
    have i4 := fun (w : World) => (by kernel_rfl : (Instr.index 92 (.agg #[.int .u8 b0, .int .u8 b1, .int .u8 b2, .int .u8 b3, .int .u8 b4, .int .u8 b5, .int .u8 b6, .int .u8 b7]) (.int .i64 4)).run Try.prog w = .ok (.int .u8 b4) w)
    have i5 := fun (w : World) => (by kernel_rfl : (Instr.index 92 (.agg #[.int .u8 b0, .int .u8 b1, .int .u8 b2, .int .u8 b3, .int .u8 b4, .int .u8 b5, .int .u8 b6, .int .u8 b7]) (.int .i64 5)).run Try.prog w = .ok (.int .u8 b5) w)
    have i6 := fun (w : World) => (by kernel_rfl : (Instr.index 92 (.agg #[.int .u8 b0, .int .u8 b1, .int .u8 b2, .int .u8 b3, .int .u8 b4, .int .u8 b5, .int .u8 b6, .int .u8 b7]) (.int .i64 6)).run Try.prog w = .ok (.int .u8 b6) w)
    have i7 := fun (w : World) => (by kernel_rfl : (Instr.index 92 (.agg #[.int .u8 b0, .int .u8 b1, .int .u8 b2, .int .u8 b3, .int .u8 b4, .int .u8 b5, .int .u8 b6, .int .u8 b7]) (.int .i64 7)).run Try.prog w = .ok (.int .u8 b7) w)
    clear hap x0 x1 x2 x3 x4 x5 x6 x7 hle1
    go_loop [2, 9] (fun vx vk => ∃ (k : Nat) (x : Int), vx = .int .u64 x ∧ vk = .int .i64 k ∧ k ≤ 8 ∧ 0 ≤ x ∧ Aside0 (x < 256 ^ k) ∧ Aside0 (([b0, b1, b2, b3, b4, b5, b6, b7].drop k).foldl (fun x c => x * 256 + c) x = unbe [b0, b1, b2, b3, b4, b5, b6, b7])) (fun _ vk => (8 - intOf vk).toNat)
    case atStart => exact ⟨0, 0, rfl, rfl, by omega, by omega, ⟨by decide⟩, ⟨rfl⟩⟩
    case round =>
      obtain ⟨k, x, rfl, rfl, hk, hx0, hx1, hE⟩ := hrel
      rcases (by omega : k = 0 ∨ k = 1 ∨ k = 2 ∨ k = 3 ∨ k = 4 ∨ k = 5 ∨ k = 6 ∨ k = 7 ∨ k = 8) with rfl | rfl | rfl | rfl | rfl | rfl | rfl | rfl | rfl
      · have hor := Aside0.mk (or_byte x b0 hx0 (by have := hx1.out; omega) p0 q0)
        go_wp2
        go_round
        case measure => simp [intOf]
        case rel => exact ⟨1, x * 256 + b0, by rw [hor.out], by simp, by omega, by omega, ⟨by have := hx1.out; omega⟩, ⟨by have := hE.out; simp only [List.drop, List.foldl] at this ⊢; exact this⟩⟩
      · have hor := Aside0.mk (or_byte x b1 hx0 (by have := hx1.out; omega) p1 q1)
        go_wp2
        go_round
        case measure => simp [intOf]
        case rel => exact ⟨2, x * 256 + b1, by rw [hor.out], by simp, by omega, by omega, ⟨by have := hx1.out; omega⟩, ⟨by have := hE.out; simp only [List.drop, List.foldl] at this ⊢; exact this⟩⟩
      · have hor := Aside0.mk (or_byte x b2 hx0 (by have := hx1.out; omega) p2 q2)
        go_wp2
        go_round
        case measure => simp [intOf]
        case rel => exact ⟨3, x * 256 + b2, by rw [hor.out], by simp, by omega, by omega, ⟨by have := hx1.out; omega⟩, ⟨by have := hE.out; simp only [List.drop, List.foldl] at this ⊢; exact this⟩⟩
      · have hor := Aside0.mk (or_byte x b3 hx0 (by have := hx1.out; omega) p3 q3)
        go_wp2
        go_round
        case measure => simp [intOf]
        case rel => exact ⟨4, x * 256 + b3, by rw [hor.out], by simp, by omega, by omega, ⟨by have := hx1.out; omega⟩, ⟨by have := hE.out; simp only [List.drop, List.foldl] at this ⊢; exact this⟩⟩
      · have hor := Aside0.mk (or_byte x b4 hx0 (by have := hx1.out; omega) p4 q4)
        go_wp2
        go_round
        case measure => simp [intOf]
        case rel => exact ⟨5, x * 256 + b4, by rw [hor.out], by simp, by omega, by omega, ⟨by have := hx1.out; omega⟩, ⟨by have := hE.out; simp only [List.drop, List.foldl] at this ⊢; exact this⟩⟩
      · have hor := Aside0.mk (or_byte x b5 hx0 (by have := hx1.out; omega) p5 q5)
        go_wp2
        go_round
        case measure => simp [intOf]
        case rel => exact ⟨6, x * 256 + b5, by rw [hor.out], by simp, by omega, by omega, ⟨by have := hx1.out; omega⟩, ⟨by have := hE.out; simp only [List.drop, List.foldl] at this ⊢; exact this⟩⟩
      · have hor := Aside0.mk (or_byte x b6 hx0 (by have := hx1.out; omega) p6 q6)
        go_wp2
        go_round
        case measure => simp [intOf]
        case rel => exact ⟨7, x * 256 + b6, by rw [hor.out], by simp, by omega, by omega, ⟨by have := hx1.out; omega⟩, ⟨by have := hE.out; simp only [List.drop, List.foldl] at this ⊢; exact this⟩⟩
      · have hor := Aside0.mk (or_byte x b7 hx0 (by have := hx1.out; omega) p7 q7)
        go_wp2
        go_round
        case measure => simp [intOf]
        case rel => exact ⟨8, x * 256 + b7, by rw [hor.out], by simp, by omega, by omega, ⟨by have := hx1.out; omega⟩, ⟨by have := hE.out; simp only [List.drop, List.foldl] at this ⊢; exact this⟩⟩
      · have e := hE.out
        simp only [List.drop, List.foldl] at e
        go_wp2
        go_ret
        exact Res.yes (by rw [pWord, hp.out]) hc1.out hR1.out

end Go.Proofs.Ytbheebcjbolboaa.K
