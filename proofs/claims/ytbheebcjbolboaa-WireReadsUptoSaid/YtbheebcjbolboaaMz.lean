import Derived.Test.YtbheebcjbolboaaLz
import Derived.Test.YtbheebcjbolboaaRa
import Derived.IntWalk
import Derived.Deep.RegionHeld3
namespace Go.Proofs.Ytbheebcjbolboaa.K
open Go.RowKit Go.Proofs.YtbheebcjbolboaaW.PrintWords Go.Proofs.YtbheebcjbolboaaW.PrintLast Go.Proofs.YtbheebcjbolboaaW.PrintMore
set_option linter.unusedVariables false
set_option linter.unusedSimpArgs false
set_option maxRecDepth 100000

/-- What the document's reader of a number answers: the number, how many bytes, the error. -/
def numR (r : Except Int (Int × Nat)) (i : Nat) : Int × Int × Int := match r with | .ok (x, j) => (x, (j : Int) - i, 0) | .error c => (0, 0, c)
theorem dig_lt (x c : Int) (k : Nat) (hx0 : 0 ≤ x) (hx1 : x < 2 ^ (7 * k)) (hc0 : 0 ≤ c) : 0 ≤ x + c % 128 * 2 ^ (7 * k) ∧ x + c % 128 * 2 ^ (7 * k) < 2 ^ (7 * (k + 1)) := by
  have hp : (0 : Int) < 2 ^ (7 * k) := Int.pow_pos (by decide)
  have h1 : c % 128 * 2 ^ (7 * k) ≤ 127 * 2 ^ (7 * k) := Int.mul_le_mul_of_nonneg_right (by omega) (by omega)
  have h0 : 0 ≤ c % 128 * 2 ^ (7 * k) := Int.mul_nonneg (by omega) (by omega)
  have h2 : (2 : Int) ^ (7 * (k + 1)) = 128 * 2 ^ (7 * k) := by rw [show 7 * (k + 1) = 7 * k + 7 from by omega, Int.pow_add]; omega
  omega
theorem dig_add (x c : Int) (k : Nat) (hx0 : 0 ≤ x) (hx1 : x < 2 ^ (7 * k)) (hc0 : 0 ≤ c) (hc1 : c < 256) (hk : k ≤ 8) : IntKind.u64.wrap (x + IntKind.u64.wrap (c % 128 * 2 ^ (7 * k))) = x + c % 128 * 2 ^ (7 * k) := by
  have hl := dig_lt x c k hx0 hx1 hc0
  have h3 : (2 : Int) ^ (7 * (k + 1)) ≤ 2 ^ 63 := by exact_mod_cast Nat.pow_le_pow_right (by decide) (show 7 * (k + 1) ≤ 63 by omega)
  have h0 : 0 ≤ c % 128 * 2 ^ (7 * k) := Int.mul_nonneg (by omega) (Int.le_of_lt (Int.pow_pos (by decide)))
  rw [wrap_id h0 (by omega), wrap_id hl.1 (by omega)]
set_option maxHeartbeats 4000000
theorem ref_number (w : World) (A : Option Addr) (n cap i : Nat) (bs : List Int) (hC : Kd.C (Kd.int .u8) w A n bs) (hby0 : ∀ c ∈ bs, 0 ≤ c ∧ c < 256) (hi : i ≤ bs.length) (hn : bs.length ≤ 140737488355328) :
    Calls Try.prog 71 #[.slice A n cap, .int .i64 i] w fun e w' => e = .returned (.tuple #[.int .u64 (numR (pNum bs i) i).1, .int .i64 (numR (pNum bs i) i).2.1, .int .i64 (numR (pNum bs i) i).2.2]) ∧ Drawn0 w w' := by
  have e0 := hC.1
  subst e0
  have hCA := Aside0.mk hC
  have hby := Aside0.mk hby0
  clear hC hby0
  go_enter Try.func71, Try.ntmps71
  go_wp2
  go_loopw [7, 8, 9] (fun vx vk _ wr => ∃ (k : Nat) (x : Int), vx = .int .u64 x ∧ vk = .int .i64 k ∧ k ≤ 10 ∧ 0 ≤ x ∧ Aside0 (x < 2 ^ (7 * k)) ∧ Aside0 (pNumGo bs (10 - k) (i + k) (7 * k) x = pNum bs i) ∧ Drawn0 w wr) (fun _ k _ _ => 10 - (intOf k).toNat)
  case atStart => exact ⟨0, 0, rfl, rfl, by omega, by omega, ⟨by decide⟩, ⟨rfl⟩, Drawn0.refl _⟩
  case round =>
    obtain ⟨k, x, rfl, rfl, hk, hx0, hx1, hP, ⟨nd, rfl⟩⟩ := hrel
    by_cases hlt : k < 10
    · obtain ⟨j, hj⟩ : ∃ j, j = i + k := ⟨_, rfl⟩
      have hjI : (i : Int) + (k : Int) = (j : Int) := by omega
      rw [← hj] at hP
      by_cases hin : j < bs.length
      · obtain ⟨ad, e1, x1⟩ := byte_at hCA.out j hin
        subst e1
        have hc : 0 ≤ bs.getD j 0 ∧ bs.getD j 0 < 256 := by
          rw [List.getD_eq_getElem?_getD, List.getElem?_eq_getElem hin]
          exact hby.out _ (List.getElem_mem hin)
        have hst : ∀ e, bs.getD j 0 = e → pNum bs i = (if (e = 0 ∧ 0 < 7 * k) ∨ (7 * k = 63 ∧ 1 < e) then .error 4 else if e < 128 then .ok (x + e % 128 * 2 ^ (7 * k), j + 1) else pNumGo bs (9 - k) (j + 1) (7 * k + 7) (x + e % 128 * 2 ^ (7 * k))) := by
          intro e he
          rw [← hP.out, show 10 - k = (9 - k) + 1 from by omega, pNumGo, if_pos hin, he]
        generalize bs.getD j 0 = c at x1 hc hst
        have hst' := Aside0.mk (hst c rfl)
        clear hst
        obtain ⟨hc0, hc1⟩ := hc
        have hjA := Aside0.mk hj
        have hin0 : (0 : Int) ≤ (j : Int) := by omega
        have hin1 : (j : Int) < bs.length := by omega
        have d1 : decide (bs.length ≤ j) = false := by simp; omega
        clear hj
        by_cases h9 : k = 9
        · subst h9
          have hj9 : (i : Int) + 9 = j := by omega
          clear hjI
          by_cases hc1' : c = 1
          · subst hc1'
            have hE : Aside0 (pNum bs i = .ok (x + 9223372036854775808, j + 1)) := ⟨by rw [hst'.out, if_neg (by omega), if_pos (by decide)]; rfl⟩
            go_wp2
            go_ret3
            rw [hE.out]
            exact ⟨by show Ending.returned (.tuple #[.int .u64 (IntKind.u64.wrap (x + 9223372036854775808)), .int .i64 10, .int .i64 0]) = Ending.returned (.tuple #[.int .u64 (x + 9223372036854775808), .int .i64 (((j + 1 : Nat) : Int) - i), .int .i64 0]); rw [wrap_id (by omega) (by have := hx1.out; omega), show (((j + 1 : Nat) : Int) - i) = 10 from by omega], ⟨_, rfl⟩⟩
          · have t1 : (c != 1) = true := by simpa using hc1'
            have hE : Aside0 (pNum bs i = .error 4) := ⟨by rw [hst'.out, if_pos (by omega)]⟩
            clear hc1'
            go_wp2
            go_ret3
            rw [hE.out]
            exact ⟨rfl, ⟨_, rfl⟩⟩
        · have t9 : ((k : Int) == 9) = false := by simp; omega
          by_cases hk0 : k = 0
          · subst hk0
            obtain rfl : i = j := by omega
            clear hjI
            have hx00 : x = 0 := by have := hx1.out; omega
            subst hx00
            by_cases hlt' : c < 128
            · have t2 : decide (c < 128) = true := by simpa using hlt'
              have hE : Aside0 (pNum bs i = .ok (c, i + 1)) := ⟨by rw [hst'.out, if_neg (by omega), if_pos hlt', show (0 : Int) + c % 128 * 2 ^ (7 * 0) = c from by omega]⟩
              go_wp2
              go_ret3
              rw [hE.out]
              exact ⟨by show Ending.returned (.tuple #[.int .u64 (c % 128), .int .i64 1, .int .i64 0]) = Ending.returned (.tuple #[.int .u64 c, .int .i64 (((i + 1 : Nat) : Int) - i), .int .i64 0]); rw [show c % 128 = c from by omega, show (((i + 1 : Nat) : Int) - i) = 1 from by omega], ⟨_, rfl⟩⟩
            · have t2 : decide (c < 128) = false := by simpa using hlt'
              have hM := Aside0.mk (hst'.out.trans ((if_neg (by omega)).trans (if_neg hlt')))
              go_wp2
              go_roundw
              case measure => first | (simp [intOf]; done) | (simp [intOf]; omega)
              case rel => exact ⟨1, c % 128, rfl, rfl, by omega, by omega, ⟨by omega⟩, ⟨by rw [hM.out]; simp⟩, ⟨_, rfl⟩⟩
          · have t3 : decide ((k : Int) > 0) = true := by simp; omega
            by_cases hz : c = 0
            · have t4 : (c == 0) = true := by simpa using hz
              have hE : pNum bs i = .error 4 := by rw [hst'.out, if_pos (by omega)]
              clear hz
              go_wp2
              go_ret3
              rw [hE]
              exact ⟨rfl, ⟨_, rfl⟩⟩
            · have t4 : (c == 0) = false := by simpa using hz
              by_cases hlt' : c < 128
              · have t2 : decide (c < 128) = true := by simpa using hlt'
                have hE : pNum bs i = .ok (x + c % 128 * 2 ^ (7 * k), j + 1) := by rw [hst'.out, if_neg (by omega), if_pos hlt']
                have e1 := Aside0.mk (dig_add x c k hx0 hx1.out hc0 hc1 (by omega))
                replace hE := Aside0.mk hE
                go_wp2
                go_ret3
                replace hE := hE.out
                replace e1 := e1.out
                rw [hE]
                exact ⟨by show Ending.returned (.tuple #[.int .u64 (IntKind.u64.wrap (x + IntKind.u64.wrap (c % 128 * 2 ^ (7 * k)))), .int .i64 ((k : Int) + 1), .int .i64 0]) = Ending.returned (.tuple #[.int .u64 (x + c % 128 * 2 ^ (7 * k)), .int .i64 (((j + 1 : Nat) : Int) - i), .int .i64 0]); rw [e1, show (((j + 1 : Nat) : Int) - i) = (k : Int) + 1 from by have := hjA.out; omega], ⟨_, rfl⟩⟩
              · have t2 : decide (c < 128) = false := by simpa using hlt'
                have hM := Aside0.mk (hst'.out.trans ((if_neg (by omega)).trans (if_neg hlt')))
                have e1 := Aside0.mk (dig_add x c k hx0 hx1.out hc0 hc1 (by omega))
                have e3 := Aside0.mk (dig_lt x c k hx0 hx1.out hc0)
                go_wp2
                go_roundw
                case measure => first | (simp [intOf]; done) | (simp [intOf]; omega)
                case rel => exact ⟨k + 1, x + c % 128 * 2 ^ (7 * k), by rw [e1.out], by go_num, by omega, e3.out.1, ⟨e3.out.2⟩, ⟨by rw [hM.out, show 10 - (k + 1) = 9 - k from by omega, show i + (k + 1) = j + 1 from by have := hjA.out; omega, show 7 * (k + 1) = 7 * k + 7 from by omega]⟩, ⟨_, rfl⟩⟩
      · have d1 : decide (bs.length ≤ j) = true := by simp; omega
        have hj0 : (0 : Int) ≤ j := by omega
        have hjb : (j : Int) ≤ 140737488355338 := by omega
        have hE : pNum bs i = .error 2 := by rw [← hP.out, show 10 - k = (9 - k) + 1 from by omega, pNumGo, if_neg hin]
        replace hE := Aside0.mk hE
        clear hj
        go_wp2
        go_ret3
        rw [hE.out]
        exact ⟨rfl, ⟨_, rfl⟩⟩
    · obtain rfl : k = 10 := by omega
      have hE : pNum bs i = .error 4 := by rw [← hP.out]; rfl
      go_wp2
      go_ret3
      rw [hE]
      exact ⟨rfl, ⟨_, rfl⟩⟩

end Go.Proofs.Ytbheebcjbolboaa.K

namespace Go.Proofs.Ytbheebcjbolboaa.K
open Go.RowKit Go.Proofs.YtbheebcjbolboaaW.PrintWords Go.Proofs.YtbheebcjbolboaaW.PrintLast Go.Proofs.YtbheebcjbolboaaW.PrintMore
set_option linter.unusedVariables false
set_option linter.unusedSimpArgs false
set_option maxRecDepth 100000

theorem ref_copy (w : World) (A : Option Addr) (n cap : Nat) (bs : List Int) (hC : Kd.C (Kd.int .u8) w A n bs) (hn : bs.length ≤ 140737488355328) :
    Calls Try.prog 45 #[.slice A n cap] w fun e w' => ∃ v, e = .returned v ∧ Kd.R (Kd.int .u8) 5 w' 0 (New (fun _ => False) w w') v bs ∧ Chg (fun _ => False) w w' := by
  have e0 := hC.1
  subst e0
  have hCA := Aside0.mk hC
  clear hC
  go_enter Try.func45, Try.ntmps45
  go_wp2
  go_loopw [3, 4] (fun v i wr => ∃ k : Nat, i = .int .i64 k ∧ k ≤ bs.length ∧ Aside0 (Kd.R (Kd.int .u8) 5 wr 0 (New (fun _ => False) w wr) v (bs.take k)) ∧ Aside0 (Chg (fun _ => False) w wr)) (fun _ i _ => bs.length - (intOf i).toNat)
  case atStart => exact ⟨0, rfl, by omega, ⟨Kd.R_nil _ _ _ _ _⟩, ⟨Chg.refl _ _⟩⟩
  case round =>
    obtain ⟨k, rfl, hk, hR, hCh⟩ := hrel
    by_cases hlt : k < bs.length
    · obtain ⟨ad, e1, x1⟩ := byte_at (C_chg hCA.out (hCh.out.below (fun _ _ h => h))) k hlt
      subst e1
      have hk0 : (0 : Int) ≤ k := by omega
      have hk1 : (k : Int) < bs.length := by omega
      have ht : Aside0 (bs.take (k + 1) = bs.take k ++ [bs.getD k 0]) := ⟨by rw [List.take_succ_eq_append_getElem hlt, List.getD_eq_getElem?_getD, List.getElem?_eq_getElem hlt]; rfl⟩
      generalize bs.getD k 0 = b at x1 ht
      have hl : Aside0 (((bs.take k).length + 1) * 1 ≤ 140737488355328) := ⟨by rw [List.length_take]; omega⟩
      go_wp2_with (at_builtin; go_must (refine app1 (Kd.int .u8) rfl (.tmp 11) (.tmp 16) rfl Try.underlying25 infoU8 rfl (by decide) (by decide) b rfl rfl rfl hR hCh hl ?_); go_must (intro v1 w1 hr1 hc1))
      go_roundw
      case measure => first | (simp [intOf]; done) | (simp [intOf]; omega)
      case rel => exact ⟨k + 1, by go_num, by omega, ⟨by rw [ht.out]; exact hr1.out⟩, hc1⟩
    · obtain rfl : k = bs.length := by omega
      go_wp2
      go_ret
      have h := hR.out
      rw [List.take_length] at h
      exact ⟨_, rfl, h, hCh.out⟩

end Go.Proofs.Ytbheebcjbolboaa.K

namespace Go.Proofs.Ytbheebcjbolboaa.K
open Go.RowKit Go.Proofs.YtbheebcjbolboaaW.PrintWords Go.Proofs.YtbheebcjbolboaaW.PrintLast Go.Proofs.YtbheebcjbolboaaW.PrintMore
set_option linter.unusedVariables false
set_option linter.unusedSimpArgs false
set_option maxRecDepth 100000

/-- The document's reader: its block, what of the memory is its own, the bytes, the place, the error. -/
def RR (w : World) (F : Nat → Prop) (g : Nat) (bs : List Int) (i : Nat) (err : Int) : Prop :=
  ∃ A c, w.heap[g]? = some (.cells #[.slice A bs.length c, .int .i64 i, .int .i64 err] 75 (0, 0)) ∧ F g ∧ i ≤ bs.length ∧ bs.length ≤ 140737488355328 ∧ (∀ c ∈ bs, 0 ≤ c ∧ c < 256) ∧
    Kd.R (Kd.int .u8) 5 w 0 (fun k => F k ∧ k ≠ g) (.slice A bs.length c) bs
theorem RR.chg {w w' : World} {F S : Nat → Prop} {g i : Nat} {bs : List Int} {err : Int} (h : RR w F g bs i err) (hc : Chg S w w') (hd : ∀ k, k < w.heap.size → F k → ¬ S k) : RR w' F g bs i err := by
  obtain ⟨A, c, hb, hg, h1, h2, h3, hr⟩ := h
  exact ⟨A, c, hc.blk hb (hd g (blk_lt hb) hg), hg, h1, h2, h3, R_chg hr hc (fun k hk ho => hd k hk ho.1)⟩
theorem RR.mono {w : World} {F F' : Nat → Prop} {g i : Nat} {bs : List Int} {err : Int} (h : RR w F g bs i err) (hf : ∀ k, k < w.heap.size → F k → F' k) : RR w F' g bs i err := by
  obtain ⟨A, c, hb, hg, h1, h2, h3, hr⟩ := h
  exact ⟨A, c, hb, hf g (blk_lt hb) hg, h1, h2, h3, Kd.R_mono (Kd.R_bound hr) (fun k hk => ⟨hf k hk.2.2.1 hk.1.1, hk.1.2⟩)⟩
theorem RR.put {w w1 : World} {F : Nat → Prop} {g i j : Nat} {bs : List Int} {err err' : Int} (h : RR w F g bs i err) (hc : Chg (fun k => k = g) w w1)
    (hb : ∀ A c, w.heap[g]? = some (.cells #[.slice A bs.length c, .int .i64 i, .int .i64 err] 75 (0, 0)) → w1.heap[g]? = some (.cells #[.slice A bs.length c, .int .i64 j, .int .i64 err'] 75 (0, 0))) (hj : j ≤ bs.length) : RR w1 F g bs j err' := by
  obtain ⟨A, c, h0, hg, h1, h2, h3, hr⟩ := h
  exact ⟨A, c, hb A c h0, hg, hj, h2, h3, R_chg hr hc (fun k hk ho e => ho.2 e)⟩
theorem ref_read (w : World) (A : Option Addr) (n cap : Nat) (bs : List Int) (hC : Kd.C (Kd.int .u8) w A n bs) (hby : ∀ c ∈ bs, 0 ≤ c ∧ c < 256) (hn : bs.length ≤ 140737488355328) :
    Calls Try.prog 16 #[.slice A n cap] w fun e w' => ∃ g, e = .returned (.pointer (some ⟨g, 0, none⟩)) ∧ RR w' (New (fun _ => False) w w') g bs 0 0 ∧ Chg (fun _ => False) w w' := by
  have hCA := Aside0.mk hC
  have hbyA := Aside0.mk hby
  clear hC hby
  go_enter Try.func16, Try.ntmps16
  go_wp2_with (go_at_call 45; go_must (refine (ref_copy _ A n cap bs hCA.out hn).mono ?_); go_must (rintro e w1 ⟨v1, rfl, hr1, hc1⟩); go_must (obtain ⟨A1, n1, cap1, rfl⟩ := R_sl hr1); go_must (replace hr1 := Aside0.mk hr1); go_must (replace hc1 := Aside0.mk hc1))
  go_ret
  obtain ⟨q1, _, _⟩ := Kd.R_reads' hr1.out
  subst q1
  refine ⟨w1.heap.size, rfl, ⟨A1, cap1, heap_alloc_new w1 _, .inr ⟨hc1.out.size, by simp⟩, by omega, hn, hbyA.out, ?_⟩, hc1.out.alloc _⟩
  exact Kd.R_mono (Kd.R_bound (R_chg hr1.out ((Chg.refl (fun _ => False) w1).alloc _) (fun _ _ _ h => h))) (fun k hk => ⟨hk.1.imp id (fun h => ⟨h.1, by simp; omega⟩), by
    rcases hk.1 with h | h
    · exact h.elim
    · omega⟩)
theorem ref_Left (w : World) (F : Nat → Prop) (g i : Nat) (bs : List Int) (err : Int) (hw : RR w F g bs i err) :
    Calls Try.prog 53 #[.pointer (some ⟨g, 0, none⟩)] w fun e w' => e = .returned (.int .i64 ((bs.length : Int) - i)) ∧ Drawn0 w w' := by
  obtain ⟨A, c, hb0, hg, hi, hl, hby, hr0⟩ := hw
  obtain ⟨c0, c1, c2, f0, f1, f2⟩ := cells3 hb0
  clear hby hr0 hb0
  go_enter Try.func53, Try.ntmps53
  go_wp2
  go_quiet (fail)
  go_wp2
  go_ret
  exact ⟨rfl, ⟨_, rfl⟩⟩
theorem ref_End (w : World) (F : Nat → Prop) (g i : Nat) (bs : List Int) (err : Int) (hw : RR w F g bs i err) :
    Calls Try.prog 54 #[.pointer (some ⟨g, 0, none⟩)] w fun e w' => e = .returned (.int .i64 (rEnd bs i err)) ∧ Drawn0 w w' := by
  obtain ⟨A, c, hb0, hg, hi, hl, hby, hr0⟩ := hw
  obtain ⟨c0, c1, c2, f0, f1, f2⟩ := cells3 hb0
  clear hby hr0 hb0
  by_cases h0 : err = 0
  · subst h0
    by_cases h1 : i < bs.length
    · have d1 : decide (i < bs.length) = true := by simpa using h1
      have hE : Aside0 (rEnd bs i 0 = 3) := ⟨by unfold rEnd; rw [if_pos ⟨rfl, h1⟩]⟩
      clear h1
      go_enter Try.func54, Try.ntmps54
      go_wp2
      go_quiet (fail)
      go_wp2
      go_ret
      exact ⟨by rw [hE.out]; rfl, by first | exact ⟨⟨_, rfl⟩⟩ | exact ⟨_, rfl⟩⟩
    · have d1 : decide (i < bs.length) = false := by simpa using h1
      have hE : Aside0 (rEnd bs i 0 = 0) := ⟨by unfold rEnd; rw [if_neg (fun h => h1 h.2)]⟩
      clear h1
      go_enter Try.func54, Try.ntmps54
      go_wp2
      go_quiet (fail)
      go_wp2
      go_ret
      exact ⟨by rw [hE.out]; rfl, by first | exact ⟨⟨_, rfl⟩⟩ | exact ⟨_, rfl⟩⟩
  · have d0 : (err == 0) = false := by simpa using h0
    have hE : Aside0 (rEnd bs i err = err) := ⟨by unfold rEnd; rw [if_neg (fun h => h0 h.1)]⟩
    clear h0
    go_enter Try.func54, Try.ntmps54
    go_wp2
    go_quiet (fail)
    go_wp2
    go_ret
    exact ⟨by rw [hE.out]; rfl, by first | exact ⟨⟨_, rfl⟩⟩ | exact ⟨_, rfl⟩⟩

end Go.Proofs.Ytbheebcjbolboaa.K

namespace Go.Proofs.Ytbheebcjbolboaa.K
open Go.RowKit Go.Proofs.YtbheebcjbolboaaW.PrintWords Go.Proofs.YtbheebcjbolboaaW.PrintLast Go.Proofs.YtbheebcjbolboaaW.PrintMore
set_option linter.unusedVariables false
set_option linter.unusedSimpArgs false
set_option maxRecDepth 100000

theorem RR.set1 {w : World} {F : Nat → Prop} {g i : Nat} {bs : List Int} {err : Int} (h : RR w F g bs i err) (m : Nat) (x : Int) (j : Nat) (hx : x = j) (hj : j ≤ bs.length) :
    RR ((w.drewN m).setCell ⟨g, 1, none⟩ (.int .i64 x)) F g bs j err ∧ Chg (fun k => k = g) w ((w.drewN m).setCell ⟨g, 1, none⟩ (.int .i64 x)) := by
  subst hx
  have hc := ((Chg.refl (fun k => k = g) w).drewN m).setCell (p := ⟨g, 1, none⟩) (fun _ => rfl) (.int .i64 (j : Int))
  exact ⟨h.put hc (fun A c hb => by
    have := blk_set (w := w.drewN m) hb 1 (.int .i64 (j : Int))
    simpa using this) hj, hc⟩
theorem RR.set2 {w : World} {F : Nat → Prop} {g i : Nat} {bs : List Int} {err : Int} (h : RR w F g bs i err) (m : Nat) (x : Int) :
    RR ((w.drewN m).setCell ⟨g, 2, none⟩ (.int .i64 x)) F g bs i x ∧ Chg (fun k => k = g) w ((w.drewN m).setCell ⟨g, 2, none⟩ (.int .i64 x)) := by
  have hc := ((Chg.refl (fun k => k = g) w).drewN m).setCell (p := ⟨g, 2, none⟩) (fun _ => rfl) (.int .i64 x)
  have hi : i ≤ bs.length := by obtain ⟨_, _, _, _, h, _⟩ := h; exact h
  exact ⟨h.put hc (fun A c hb => by
    have := blk_set (w := w.drewN m) hb 2 (.int .i64 x)
    simpa using this) hi, hc⟩
set_option maxHeartbeats 4000000
theorem ref_Byte (w : World) (F : Nat → Prop) (g i : Nat) (bs : List Int) (err : Int) (hw : RR w F g bs i err) :
    Calls Try.prog 46 #[.pointer (some ⟨g, 0, none⟩)] w fun e w' => e = .returned (.int .u8 (rrun (pNext bs) 0 i err).1) ∧ RR w' F g bs (rrun (pNext bs) 0 i err).2.1 (rrun (pNext bs) 0 i err).2.2 ∧ Chg (fun k => k = g) w w' := by
  have hW := Aside0.mk hw
  obtain ⟨A, c, hb0, hg, hi, hl, hby, hr0⟩ := hw
  obtain ⟨c0, c1, c2, f0, f1, f2⟩ := cells3 hb0
  have hb := Aside0.mk hb0
  have hbyA := Aside0.mk hby
  obtain ⟨_, hcap0, hC0⟩ := Kd.R_reads' hr0
  have hC := Aside0.mk hC0
  clear hby hr0 hb0 hC0 hg
  by_cases h0 : err = 0
  case neg =>
    have d0 : (err != 0) = true := by simpa using h0
    have hE : Aside0 (rrun (pNext bs) 0 i err = (0, i, err)) := ⟨by unfold rrun; rw [if_neg h0]⟩
    clear h0
    go_enter Try.func46, Try.ntmps46
    go_wp2
    go_ret
    rw [hE.out]
    exact ⟨rfl, hW.out, Chg.refl _ _⟩
  subst h0
  by_cases h1 : i < bs.length
  · obtain ⟨ad, e1, x1⟩ := byte_at hC.out i h1
    subst e1
    have d1 : decide (bs.length ≤ i) = false := by simp; omega
    have hE : Aside0 (rrun (pNext bs) 0 i 0 = (bs.getD i 0, i + 1, 0)) := ⟨by simp [rrun, pNext, h1]⟩
    have hi0 : (0 : Int) ≤ i := by omega
    have hi1 : (i : Int) < bs.length := by omega
    generalize bs.getD i 0 = b at x1 hE
    go_enter Try.func46, Try.ntmps46
    go_wp2
    go_quiet (fail)
    go_wp2
    go_quiet (fail)
    go_wp2
    go_ret
    rw [hE.out]
    obtain ⟨e1, e2⟩ := hW.out.set1 _ ((i : Int) + 1) (i + 1) (by omega) (by omega)
    exact ⟨rfl, e1, e2⟩
  · have d1 : decide (bs.length ≤ i) = true := by simp; omega
    have hE : Aside0 (rrun (pNext bs) 0 i 0 = (0, i, 2)) := ⟨by simp [rrun, pNext, h1]⟩
    clear h1
    go_enter Try.func46, Try.ntmps46
    go_wp2
    go_quiet (fail)
    go_wp2
    go_ret
    rw [hE.out]
    obtain ⟨e1, e2⟩ := hW.out.set2 _ 2
    exact ⟨rfl, e1, e2⟩

set_option maxHeartbeats 4000000
theorem ref_Uint (w : World) (F : Nat → Prop) (g i : Nat) (bs : List Int) (err : Int) (hw : RR w F g bs i err) :
    Calls Try.prog 47 #[.pointer (some ⟨g, 0, none⟩)] w fun e w' => e = .returned (.int .u64 (rrun (pNum bs) 0 i err).1) ∧ RR w' F g bs (rrun (pNum bs) 0 i err).2.1 (rrun (pNum bs) 0 i err).2.2 ∧ Chg (fun k => k = g) w w' := by
  have hW := Aside0.mk hw
  obtain ⟨A, c, hb0, hg, hi, hl, hby, hr0⟩ := hw
  obtain ⟨c0, c1, c2, f0, f1, f2⟩ := cells3 hb0
  have hb := Aside0.mk hb0
  have hbyA := Aside0.mk hby
  obtain ⟨_, hcap0, hC0⟩ := Kd.R_reads' hr0
  have hC := Aside0.mk hC0
  clear hby hr0 hb0 hC0 hg
  by_cases h0 : err = 0
  case neg =>
    have d0 : (err != 0) = true := by simpa using h0
    have hE : Aside0 (rrun (pNum bs) 0 i err = (0, i, err)) := ⟨by unfold rrun; rw [if_neg h0]⟩
    clear h0
    go_enter Try.func47, Try.ntmps47
    go_wp2
    go_ret
    rw [hE.out]
    exact ⟨rfl, hW.out, Chg.refl _ _⟩
  subst h0
  have hnum := fun m => Calls.quiet_of ((ref_number (w.drewN m) A bs.length c i bs (Kd.C_drewN hC.out m) hbyA.out hi hl).mono (fun e w' h => ⟨h.1, by obtain ⟨k, rfl⟩ := h.2; exact ⟨k, rfl⟩⟩))
  rcases hP : pNum bs i with er | ⟨x, j⟩
  · have her : (er != 0) = true := by simpa using pNum_err hP
    have hE : Aside0 (rrun (pNum bs) 0 i 0 = (0, i, er)) := ⟨by simp [rrun, hP]⟩
    rw [hP] at hnum
    dsimp only [numR] at hnum
    replace hnum := Aside0.mk hnum
    clear hP
    go_enter Try.func47, Try.ntmps47
    go_wp2
    go_quiet ((go_at_call 71; exact hnum.out _))
    go_wp2
    go_ret
    rw [hE.out]
    obtain ⟨e1, e2⟩ := hW.out.set2 _ er
    exact ⟨rfl, e1, e2⟩
  · have hE : Aside0 (rrun (pNum bs) 0 i 0 = (x, j, 0)) := ⟨by simp [rrun, hP]⟩
    have hj := pNum_le hP
    have hji := Int.ofNat_le.2 (Nat.le_of_lt (pNum_form hbyA.out hP).1)
    rw [hP] at hnum
    dsimp only [numR] at hnum
    replace hnum := Aside0.mk hnum
    clear hP
    have hsum : (i : Int) + ((j : Int) - i) = j := by omega
    have hj0 : (0 : Int) ≤ j := by omega
    have hj1 : (j : Int) ≤ 140737488355328 := by omega
    go_enter Try.func47, Try.ntmps47
    go_wp2
    go_quiet ((go_at_call 71; exact hnum.out _))
    go_wp2
    go_ret
    rw [hE.out]
    obtain ⟨e1, e2⟩ := hW.out.set1 _ (j : Int) j rfl hj
    exact ⟨rfl, e1, e2⟩

end Go.Proofs.Ytbheebcjbolboaa.K

namespace Go.Proofs.Ytbheebcjbolboaa.K
open Go.RowKit Go.Proofs.YtbheebcjbolboaaW.PrintWords Go.Proofs.YtbheebcjbolboaaW.PrintLast Go.Proofs.YtbheebcjbolboaaW.PrintMore
set_option linter.unusedVariables false
set_option linter.unusedSimpArgs false
set_option maxRecDepth 100000

theorem ref_unfolded (w : World) (x : Int) (h0 : 0 ≤ x) (h1 : x ≤ 18446744073709551615) : Calls Try.prog 72 #[.int .u64 x] w fun e w' => e = .returned (.int .i64 (unfoldI x)) ∧ w' = w := by
  by_cases h : x % 2 = 0
  · have d : (x % 2 == 0) = true := by simpa using h
    have hE : Aside0 (unfoldI x = x / 2) := ⟨by unfold unfoldI; rw [if_pos h]⟩
    clear h
    go_enter Try.func72, Try.ntmps72
    go_wp2
    go_ret
    exact ⟨by rw [hE.out]; rfl, rfl⟩
  · have d : (x % 2 == 0) = false := by simpa using h
    have hE : Aside0 (unfoldI x = -(x / 2) - 1) := ⟨by unfold unfoldI; rw [if_neg h]⟩
    clear h
    go_enter Try.func72, Try.ntmps72
    go_wp2
    go_ret
    exact ⟨by rw [hE.out]; rfl, rfl⟩
theorem ref_Int (w : World) (F : Nat → Prop) (g i : Nat) (bs : List Int) (err : Int) (hw : RR w F g bs i err) :
    Calls Try.prog 48 #[.pointer (some ⟨g, 0, none⟩)] w fun e w' => e = .returned (.int .i64 (unfoldI (rrun (pNum bs) 0 i err).1)) ∧ RR w' F g bs (rrun (pNum bs) 0 i err).2.1 (rrun (pNum bs) 0 i err).2.2 ∧ Chg (fun k => k = g) w w' := by
  have hW := Aside0.mk hw
  have hby : Aside0 (∀ c ∈ bs, 0 ≤ c ∧ c < 256) := ⟨by obtain ⟨_, _, _, _, _, _, h, _⟩ := hw; exact h⟩
  clear hw
  go_enter Try.func48, Try.ntmps48
  go_wp2_with (first | (go_at_call 47; go_must (refine (ref_Uint _ _ g i bs err hW.out).mono ?_); go_must (rintro e w1 ⟨rfl, hR1, hc1⟩); go_must (replace hR1 := Aside0.mk hR1); go_must (replace hc1 := Aside0.mk hc1)) | (go_at_call 72; go_must (refine (ref_unfolded _ _ (rr_num hby.out i err).1 (rr_num hby.out i err).2).mono ?_); go_must (rintro e w2 ⟨rfl, rfl⟩)))
  go_ret
  exact ⟨rfl, hR1.out, hc1.out⟩
theorem ref_above (w : World) (x m : Int) (h0 : 0 ≤ x) (h1 : x ≤ 18446744073709551615) (hm0 : -9223372036854775808 ≤ m) (hm1 : m ≤ 9223372036854775807) : Calls Try.prog 73 #[.int .u64 x, .int .i64 m] w fun e w' => e = .returned (.bool (decide (x > max m 0))) ∧ w' = w := by
  by_cases h : m < 0
  · have d : decide (m < 0) = true := by simpa using h
    have hE : Aside0 (max m 0 = 0) := ⟨by omega⟩
    clear h
    go_enter Try.func73, Try.ntmps73
    go_wp2
    go_ret
    exact ⟨by rw [hE.out]; rfl, rfl⟩
  · have d : decide (m < 0) = false := by simpa using h
    have hE : Aside0 (max m 0 = m) := ⟨by omega⟩
    have hm : 0 ≤ m := by omega
    clear h
    go_enter Try.func73, Try.ntmps73
    go_wp2
    go_ret
    exact ⟨by rw [hE.out]; rfl, rfl⟩

set_option maxHeartbeats 4000000
theorem ref_Count (w : World) (F : Nat → Prop) (g i : Nat) (bs : List Int) (err most : Int) (hm0 : -9223372036854775808 ≤ most) (hm1 : most ≤ 9223372036854775807) (hw : RR w F g bs i err) :
    Calls Try.prog 52 #[.pointer (some ⟨g, 0, none⟩), .int .i64 most] w fun e w' => e = .returned (.int .i64 (rrun (pCount bs most) 0 i err).1) ∧ RR w' F g bs (rrun (pCount bs most) 0 i err).2.1 (rrun (pCount bs most) 0 i err).2.2 ∧ Chg (fun k => k = g) w w' := by
  have hW := Aside0.mk hw
  obtain ⟨A, c, hb0, hg, hi, hl, hby, hr0⟩ := hw
  obtain ⟨c0, c1, c2, f0, f1, f2⟩ := cells3 hb0
  have hb := Aside0.mk hb0
  have hbyA := Aside0.mk hby
  obtain ⟨_, hcap0, hC0⟩ := Kd.R_reads' hr0
  have hC := Aside0.mk hC0
  clear hby hr0 hb0 hC0 hg
  by_cases h0 : err = 0
  case neg =>
    have d0 : (err != 0) = true := by simpa using h0
    have hE : Aside0 (rrun (pCount bs most) 0 i err = (0, i, err)) := ⟨by unfold rrun; rw [if_neg h0]⟩
    clear h0
    go_enter Try.func52, Try.ntmps52
    go_wp2
    go_ret
    rw [hE.out]
    exact ⟨rfl, hW.out, Chg.refl _ _⟩
  subst h0
  have hnum := fun m => Calls.quiet_of ((ref_number (w.drewN m) A bs.length c i bs (Kd.C_drewN hC.out m) hbyA.out hi hl).mono (fun e w' h => ⟨h.1, by obtain ⟨k, rfl⟩ := h.2; exact ⟨k, rfl⟩⟩))
  rcases hP : pNum bs i with er | ⟨x, j⟩
  · have her : (er != 0) = true := by simpa using pNum_err hP
    have hE : Aside0 (rrun (pCount bs most) 0 i 0 = (0, i, er)) := ⟨by simp [rrun, pCount, hP]⟩
    rw [hP] at hnum
    dsimp only [numR] at hnum
    replace hnum := Aside0.mk hnum
    clear hP
    go_enter Try.func52, Try.ntmps52
    go_wp2
    go_quiet ((go_at_call 71; exact hnum.out _))
    go_wp2
    go_ret
    rw [hE.out]
    obtain ⟨e1, e2⟩ := hW.out.set2 _ er
    exact ⟨rfl, e1, e2⟩
  · have hj := pNum_le hP
    obtain ⟨hx0, hx1⟩ := pNum_range hbyA.out hP
    have hji := Int.ofNat_le.2 (Nat.le_of_lt (pNum_form hbyA.out hP).1)
    rw [hP] at hnum
    dsimp only [numR] at hnum
    replace hnum := Aside0.mk hnum
    have hsum : (i : Int) + ((j : Int) - i) = j := by omega
    have hj0 : (0 : Int) ≤ j := by omega
    have hj1 : (j : Int) ≤ 140737488355328 := by omega
    by_cases hab : x > max most 0
    · have hE : Aside0 (rrun (pCount bs most) 0 i 0 = (0, i, 5)) := ⟨by simp only [rrun, pCount, hP]; rw [if_pos hab]; rfl⟩
      have d : Aside0 (decide (x > max most 0) = true) := ⟨by simpa using hab⟩
      clear hP hab
      go_enter Try.func52, Try.ntmps52
      go_wp2
      go_quiet ((go_at_call 71; exact hnum.out _))
      go_wp2_with (go_at_call 73; go_must (refine (ref_above _ x most hx0 hx1 hm0 hm1).mono ?_); go_must (rintro e w2 ⟨rfl, rfl⟩); go_must (rw [d.out]))
      go_ret
      rw [hE.out]
      obtain ⟨e1, e2⟩ := hW.out.set2 _ 5
      exact ⟨rfl, e1, e2⟩
    · have hE : Aside0 (rrun (pCount bs most) 0 i 0 = (x, j, 0)) := ⟨by simp only [rrun, pCount, hP]; rw [if_neg hab]; rfl⟩
      have d : Aside0 (decide (x > max most 0) = false) := ⟨by simpa using hab⟩
      have hx2 : x ≤ 9223372036854775807 := by omega
      clear hP hab
      go_enter Try.func52, Try.ntmps52
      go_wp2
      go_quiet ((go_at_call 71; exact hnum.out _))
      go_wp2_with (go_at_call 73; go_must (refine (ref_above _ x most hx0 hx1 hm0 hm1).mono ?_); go_must (rintro e w2 ⟨rfl, rfl⟩); go_must (rw [d.out]))
      go_ret
      rw [hE.out]
      obtain ⟨e1, e2⟩ := hW.out.set1 _ (j : Int) j rfl hj
      exact ⟨rfl, e1, e2⟩

end Go.Proofs.Ytbheebcjbolboaa.K

namespace Go.Proofs.Ytbheebcjbolboaa.K
open Go.RowKit Go.Proofs.YtbheebcjbolboaaW.PrintWords Go.Proofs.YtbheebcjbolboaaW.PrintLast Go.Proofs.YtbheebcjbolboaaW.PrintMore
set_option linter.unusedVariables false
set_option linter.unusedSimpArgs false
set_option maxRecDepth 100000

set_option maxHeartbeats 4000000
theorem ref_Text (w : World) (F : Nat → Prop) (g i : Nat) (bs : List Int) (err most : Int) (hm0 : -9223372036854775808 ≤ most) (hm1 : most ≤ 9223372036854775807) (hw : RR w F g bs i err) :
    Calls Try.prog 50 #[.pointer (some ⟨g, 0, none⟩), .int .i64 most] w fun e w' => e = .returned ((fun l => .string (strOfNums l)) (rrun (pText bs most) [] i err).1) ∧ RR w' F g bs (rrun (pText bs most) [] i err).2.1 (rrun (pText bs most) [] i err).2.2 ∧ Chg (fun k => k = g) w w' := by
  have hW := Aside0.mk hw
  obtain ⟨A, c, hb0, hg, hi, hl, hby, hr0⟩ := hw
  obtain ⟨c0, c1, c2, f0, f1, f2⟩ := cells3 hb0
  have hb := Aside0.mk hb0
  have hbyA := Aside0.mk hby
  obtain ⟨_, hcap0, hC0⟩ := Kd.R_reads' hr0
  have hC := Aside0.mk hC0
  clear hby hr0 hb0 hC0 hg
  by_cases h0 : err = 0
  case neg =>
    have d0 : (err != 0) = true := by simpa using h0
    have hE : Aside0 (rrun (pText bs most) [] i err = ([], i, err)) := ⟨by unfold rrun; rw [if_neg h0]⟩
    clear h0
    go_enter Try.func50, Try.ntmps50
    go_wp2
    go_ret
    rw [hE.out]
    exact ⟨by rw [show strOfNums [] = ⟨#[]⟩ from rfl]; rfl, hW.out, Chg.refl _ _⟩
  subst h0
  have hnum := fun m => Calls.quiet_of ((ref_number (w.drewN m) A bs.length c i bs (Kd.C_drewN hC.out m) hbyA.out hi hl).mono (fun e w' h => ⟨h.1, by obtain ⟨k, rfl⟩ := h.2; exact ⟨k, rfl⟩⟩))
  rcases hP : pNum bs i with er | ⟨x, j⟩
  · have her : (er != 0) = true := by simpa using pNum_err hP
    have hE : Aside0 (rrun (pText bs most) [] i 0 = ([], i, er)) := ⟨by simp [rrun, pText, pCount, hP]⟩
    rw [hP] at hnum
    dsimp only [numR] at hnum
    replace hnum := Aside0.mk hnum
    clear hP
    go_enter Try.func50, Try.ntmps50
    go_wp2
    go_quiet ((go_at_call 71; exact hnum.out _))
    go_wp2
    go_ret
    rw [hE.out]
    obtain ⟨e1, e2⟩ := hW.out.set2 _ er
    exact ⟨rfl, e1, e2⟩
  · have hj := pNum_le hP
    obtain ⟨hx0, hx1⟩ := pNum_range hbyA.out hP
    have hji := Int.ofNat_le.2 (Nat.le_of_lt (pNum_form hbyA.out hP).1)
    rw [hP] at hnum
    dsimp only [numR] at hnum
    replace hnum := Aside0.mk hnum
    have hsum : (i : Int) + ((j : Int) - i) = j := by omega
    have hj0 : (0 : Int) ≤ j := by omega
    have hj1 : (j : Int) ≤ 140737488355328 := by omega
    have hlj : (0 : Int) ≤ (bs.length : Int) - j := by omega
    by_cases hab : x > max most 0
    · have hE : Aside0 (rrun (pText bs most) [] i 0 = ([], i, 5)) := ⟨by simp only [rrun, pText, pCount, hP]; rw [if_pos hab]; rfl⟩
      have d : Aside0 (decide (x > max most 0) = true) := ⟨by simpa using hab⟩
      clear hP hab
      go_enter Try.func50, Try.ntmps50
      go_wp2
      go_quiet ((go_at_call 71; exact hnum.out _))
      go_wp2_with (go_at_call 73; go_must (refine (ref_above _ x most hx0 hx1 hm0 hm1).mono ?_); go_must (rintro e w2 ⟨rfl, rfl⟩); go_must (rw [d.out]))
      go_ret
      rw [hE.out]
      obtain ⟨e1, e2⟩ := hW.out.set2 _ 5
      exact ⟨rfl, e1, e2⟩
    · have d : Aside0 (decide (x > max most 0) = false) := ⟨by simpa using hab⟩
      have hx2 : x ≤ 9223372036854775807 := by omega
      by_cases hlong : x > (bs.length : Int) - j
      · have hE : Aside0 (rrun (pText bs most) [] i 0 = ([], i, 2)) := ⟨by simp only [rrun, pText, pCount, hP]; rw [if_neg hab]; simp only [pTake]; rw [if_neg (show ¬ x.toNat ≤ bs.length - j from by omega)]; rfl⟩
        have d2 : decide (x > (bs.length : Int) - j) = true := by simpa using hlong
        clear hP hab hlong
        go_enter Try.func50, Try.ntmps50
        go_wp2
        go_quiet ((go_at_call 71; exact hnum.out _))
        go_wp2_with (go_at_call 73; go_must (refine (ref_above _ x most hx0 hx1 hm0 hm1).mono ?_); go_must (rintro e w2 ⟨rfl, rfl⟩); go_must (rw [d.out]))
        go_ret
        rw [hE.out]
        obtain ⟨e1, e2⟩ := hW.out.set2 _ 2
        exact ⟨rfl, e1, e2⟩
      · obtain ⟨n, rfl⟩ := Int.eq_ofNat_of_zero_le hx0
        have hjn : j + n ≤ bs.length := by omega
        have hE : Aside0 (rrun (pText bs most) [] i 0 = ((bs.drop j).take n, j + n, 0)) := ⟨by simp only [rrun, pText, pCount, hP]; rw [if_neg hab]; simp only [pTake]; rw [Int.toNat_natCast, if_pos (show n ≤ bs.length - j from by omega)]; rfl⟩
        have d2 : decide ((n : Int) > (bs.length : Int) - j) = false := by simpa using hlong
        clear hP hab hlong
        have hs2 : (j : Int) + (n : Int) ≤ 140737488355328 := by omega
        have hs0 : (0 : Int) ≤ (j : Int) + (n : Int) := by omega
        obtain ⟨i8, hi8, hz8, hs8, hy8⟩ := info_parts infoU8
        obtain ⟨A', hrun, hread, hle⟩ := print_mid_int (P := Try.prog) (k := .u8) 25 5 Try.underlying25 hi8 hs8 A c bs (j : Int) ((j : Int) + (n : Int)) (by omega) (by omega) (by omega) hcap0
        have hlist : (bs.take ((j : Int) + (n : Int)).toNat).drop ((j : Int).toNat) = (bs.drop j).take n := by
          have e1 : ((j : Int) + (n : Int)).toNat = j + n := by omega
          rw [e1, Int.toNat_natCast, List.drop_take]
          congr 1
          omega
        rw [hlist] at hrun hread hle
        generalize hL : (bs.drop j).take n = L at hrun hread hle hE
        have hcv := fun m => Kd.C_string (P := Try.prog) (c := c - j) Try.underlying25 Try.underlying5 Try.underlying9 (Kd.C_drewN (Kd.C_of_reads (hread w (Kd.reads_of_C hC.out))) m)
        replace hL := Aside0.mk hL
        clear hread hlist hi8 hz8 hs8 hy8 hle
        go_enter Try.func50, Try.ntmps50
        go_wp2
        go_quiet ((go_at_call 71; exact hnum.out _))
        go_wp2_with (go_at_call 73; go_must (refine (ref_above _ (n : Int) most hx0 hx1 hm0 hm1).mono ?_); go_must (rintro e w2 ⟨rfl, rfl⟩); go_must (rw [d.out]))
        go_ret
        rw [hE.out]
        obtain ⟨e1, e2⟩ := hW.out.set1 _ ((j : Int) + n) (j + n) (by omega) hjn
        exact ⟨rfl, e1, e2⟩

end Go.Proofs.Ytbheebcjbolboaa.K

namespace Go.Proofs.Ytbheebcjbolboaa.K
open Go.RowKit Go.Proofs.YtbheebcjbolboaaW.PrintWords Go.Proofs.YtbheebcjbolboaaW.PrintLast Go.Proofs.YtbheebcjbolboaaW.PrintMore
set_option linter.unusedVariables false
set_option linter.unusedSimpArgs false
set_option maxRecDepth 100000

theorem unbe_snoc (l : List Int) (c : Int) : unbe (l ++ [c]) = unbe l * 256 + c := by simp [unbe]
set_option maxHeartbeats 4000000
theorem ref_Word (w : World) (F : Nat → Prop) (g i : Nat) (bs : List Int) (err : Int) (hw : RR w F g bs i err) :
    Calls Try.prog 49 #[.pointer (some ⟨g, 0, none⟩)] w fun e w' => e = .returned (.int .u64 (rrun (pWord bs) 0 i err).1) ∧ RR w' F g bs (rrun (pWord bs) 0 i err).2.1 (rrun (pWord bs) 0 i err).2.2 ∧ Chg (fun k => k = g) w w' := by
  have hW := Aside0.mk hw
  obtain ⟨A, c, hb0, hg, hi, hl, hby, hr0⟩ := hw
  obtain ⟨c0, c1, c2, f0, f1, f2⟩ := cells3 hb0
  have hb := Aside0.mk hb0
  have hbyA := Aside0.mk hby
  obtain ⟨_, hcap0, hC0⟩ := Kd.R_reads' hr0
  have hC := Aside0.mk hC0
  clear hby hr0 hb0 hC0 hg
  by_cases h0 : err = 0
  case neg =>
    have d0 : (err != 0) = true := by simpa using h0
    have hE : Aside0 (rrun (pWord bs) 0 i err = (0, i, err)) := ⟨by unfold rrun; rw [if_neg h0]⟩
    clear h0
    go_enter Try.func49, Try.ntmps49
    go_wp2
    go_ret
    rw [hE.out]
    exact ⟨rfl, hW.out, Chg.refl _ _⟩
  subst h0
  by_cases h8 : bs.length - i < 8
  · have d1 : decide ((bs.length : Int) - i < 8) = true := by simp; omega
    have hE : Aside0 (rrun (pWord bs) 0 i 0 = (0, i, 2)) := ⟨by simp only [rrun, pWord, pTake]; rw [if_neg (show ¬ 8 ≤ bs.length - i from by omega)]; rfl⟩
    have hs0 : (0 : Int) ≤ (bs.length : Int) - i := by omega
    clear h8
    go_enter Try.func49, Try.ntmps49
    go_wp2
    go_quiet (fail)
    go_wp2
    go_ret
    rw [hE.out]
    obtain ⟨e1, e2⟩ := hW.out.set2 _ 2
    exact ⟨rfl, e1, e2⟩
  · have d1 : decide ((bs.length : Int) - i < 8) = false := by simp; omega
    have hE : Aside0 (rrun (pWord bs) 0 i 0 = (unbe ((bs.drop i).take 8), i + 8, 0)) := ⟨by simp only [rrun, pWord, pTake]; rw [if_pos (show 8 ≤ bs.length - i from by omega)]; rfl⟩
    have hs0 : (0 : Int) ≤ (bs.length : Int) - i := by omega
    have hi8 : i + 8 ≤ bs.length := by omega
    clear h8
    go_enter Try.func49, Try.ntmps49
    go_wp2
    go_quiet (fail)
    go_wp2
    go_loopw [3, 4] (fun vx vk wr => ∃ k : Nat, vk = .int .i64 k ∧ vx = .int .u64 (unbe ((bs.drop i).take k)) ∧ k ≤ 8 ∧ ∃ nd, wr = w.drewN nd) (fun _ k _ => 8 - (intOf k).toNat)
    case atStart => exact ⟨0, rfl, rfl, by omega, _, rfl⟩
    case round =>
      obtain ⟨k, rfl, rfl, hk, nd, rfl⟩ := hrel
      by_cases hlt : k < 8
      · obtain ⟨j, hj⟩ : ∃ j, j = i + k := ⟨_, rfl⟩
        obtain ⟨ad, e1, x1⟩ := byte_at hC.out j (by omega)
        subst e1
        have hcb : 0 ≤ bs.getD j 0 ∧ bs.getD j 0 < 256 := by
          rw [List.getD_eq_getElem?_getD, List.getElem?_eq_getElem (by omega)]
          exact hbyA.out _ (List.getElem_mem (by omega))
        have hr := unbe_range ((bs.drop i).take k) (fun c hc => hbyA.out c (List.mem_of_mem_drop (List.mem_of_mem_take hc)))
        have hlen : ((bs.drop i).take k).length = k := by simp; omega
        rw [hlen] at hr
        have h7 : (256 : Int) ^ k ≤ 256 ^ 7 := by exact_mod_cast Nat.pow_le_pow_right (by decide) (show k ≤ 7 by omega)
        have hnext : Aside0 (unbe ((bs.drop i).take (k + 1)) = unbe ((bs.drop i).take k) * 256 + bs.getD j 0) := ⟨by
          rw [List.take_succ_eq_append_getElem (by simp; omega), unbe_snoc, List.getElem_drop, List.getD_eq_getElem?_getD, List.getElem?_eq_getElem (by omega)]
          subst hj; rfl⟩
        generalize unbe ((bs.drop i).take k) = x at hr hnext
        generalize bs.getD j 0 = b at x1 hcb hnext
        obtain ⟨hx0, hx1⟩ := hr
        have hx2 : x ≤ 72057594037927935 := by omega
        obtain ⟨hb0, hb1⟩ := hcb
        have hs1 : IntKind.i64.wrap ((i : Int) + (k : Int)) = (j : Int) := by rw [show (i : Int) + k = j from by omega]; exact IntWalk.i64_in _ (by omega)
        have hjI : (i : Int) + (k : Int) = (j : Int) := by omega
        have hj0 : (0 : Int) ≤ j := by omega
        have hj1 : (j : Int) < bs.length := by omega
        have hm : Aside0 (IntKind.u64.wrap (IntKind.u64.wrap (x * 256) + IntKind.u64.wrap b) = x * 256 + b) := ⟨by rw [wrap_id (x := b) (by omega) (by omega), wrap_id (x := x * 256) (by omega) (by omega), wrap_id (by omega) (by omega)]⟩
        clear hx1 h7 hlen hj
        go_wp2
        go_quiet (fail)
        go_wp2
        go_roundw
        case measure => first | (simp [intOf]; done) | (simp [intOf]; omega)
        case rel => exact ⟨k + 1, by go_num, by first | rw [hnext.out] | (rw [hnext.out, ← hm.out]), by omega, _, rfl⟩
      · obtain rfl : k = 8 := by omega
        go_wp2
        go_ret
        rw [hE.out]
        obtain ⟨e1, e2⟩ := hW.out.set1 _ ((i : Int) + 8) (i + 8) (by omega) hi8
        exact ⟨rfl, e1, e2⟩

end Go.Proofs.Ytbheebcjbolboaa.K

namespace Go.Proofs.Ytbheebcjbolboaa.K
open Go.RowKit Go.Proofs.YtbheebcjbolboaaW.PrintWords Go.Proofs.YtbheebcjbolboaaW.PrintLast Go.Proofs.YtbheebcjbolboaaW.PrintMore
set_option linter.unusedVariables false
set_option linter.unusedSimpArgs false
set_option maxRecDepth 100000

section
variable {P : Program} {ops : Array Oper} {o : Oper} {a : Act} {Q : Exit → Act → World → Prop} {Kc : Act → World → Prop} {α : Type}
/-- append(v, p), one operation of a region that draws its order. -/
theorem app1S (d : Kd α) {w W : World} {F : Nat → Prop} (hw : Region.wanted o (yielded ops a.tmps) = true) (s x : Operand) {t e : TypeId} {z : Value} {bytes : Nat}
    (ho : o.op = .call { callee := .builtin .append, args := #[s, x], argTypes := #[t, t] })
    (ht : P.underlying t = some (.slice e)) (hinfo : (P.info? e).map (fun i => (i.zero, i.size, i.bytes)) = some (some z, d.sz, bytes)) (hz : z.cells.size = d.sz) (hs0 : 0 < d.sz) (hb0 : 0 < bytes)
    {v : Value} {xs : List α} (p : α) {cs : List Value} (hs : a.eval s = v) (hx : a.eval x = .slice (some ⟨W.heap.size, 0, none⟩) 1 1) (hp : d.M W 0 (fun _ => False) p cs)
    (HO : Aside0 (d.R e W 0 (New F w W) v xs)) (HC : Aside0 (Chg F w W)) (hl : Aside0 ((xs.length + 1) * bytes ≤ 140737488355328))
    (h : ∀ v1 w1, Aside0 (d.R e w1 0 (New F w w1) v1 (xs ++ [p])) → Aside0 (Chg F w w1) → Kc (a.put o.dst v1) w1) :
    if Region.wanted o (yielded ops a.tmps) = true then Oper.wp P o a (W.alloc (.cells cs.toArray e)) Kc Q else Kc (a.put o.dst undef) (W.alloc (.cells cs.toArray e)) := by
  refine Kd.R_append_step d (w0 := w) 0 hw s x t e z bytes ho ht hinfo hz hs0 hb0 v xs p cs (fun k => F k ∨ w.heap.size ≤ k) (fun _ => False) hs hx hp (fun _ hk => hk.elim) (fun k hk => .inr (Nat.le_trans HC.out.size hk)) (Kd.R_mono HO.out (fun k hk => hk.imp id And.left)) HC.out.zero (Nat.zero_le _) hl.out ?_
  intro v1 w1 hr1 _ hg1 _
  refine h v1 w1 ⟨Kd.R_mono (Kd.R_bound hr1) (fun k hk => hk.1.imp id (fun h => ⟨h, hk.2.2.1⟩))⟩ ⟨HC.out.grown hg1 (fun k hk hr => ?_)⟩
  rcases HO.out.1 k hr with h1 | h1
  · exact h1
  · omega
end

set_option maxHeartbeats 4000000
theorem ref_Raw (w : World) (F : Nat → Prop) (g i : Nat) (bs : List Int) (err n : Int) (hn0 : -9223372036854775808 ≤ n) (hn1 : n ≤ 9223372036854775807) (hw : RR w F g bs i err) :
    Calls Try.prog 51 #[.pointer (some ⟨g, 0, none⟩), .int .i64 n] w fun e w' => ∃ v, e = .returned v ∧ Kd.R (Kd.int .u8) 5 w' 0 (New (fun _ => False) w w') v (rrun (pRaw bs n) [] i err).1 ∧ RR w' F g bs (rrun (pRaw bs n) [] i err).2.1 (rrun (pRaw bs n) [] i err).2.2 ∧ Chg (fun k => k = g) w w' := by
  have hW := Aside0.mk hw
  obtain ⟨A, c, hb0, hg, hi, hl, hby, hr0⟩ := hw
  obtain ⟨c0, c1, c2, f0, f1, f2⟩ := cells3 hb0
  have hb := Aside0.mk hb0
  have hbyA := Aside0.mk hby
  obtain ⟨_, hcap0, hC0⟩ := Kd.R_reads' hr0
  have hC := Aside0.mk hC0
  clear hby hr0 hb0 hC0 hg
  by_cases h0 : err = 0
  case neg =>
    have d0 : (err != 0) = true := by simpa using h0
    have hE : Aside0 (rrun (pRaw bs n) [] i err = ([], i, err)) := ⟨by unfold rrun; rw [if_neg h0]⟩
    clear h0
    go_enter Try.func51, Try.ntmps51
    go_wp2
    go_ret
    rw [hE.out]
    exact ⟨_, rfl, Kd.R_nil _ _ _ _ _, hW.out, Chg.refl _ _⟩
  subst h0
  by_cases hneg : n < 0
  · have d1 : decide (n < 0) = true := by simpa using hneg
    have hE : Aside0 (rrun (pRaw bs n) [] i 0 = ([], i, 1)) := ⟨by simp only [rrun, pRaw]; rw [if_pos hneg]; rfl⟩
    clear hneg
    go_enter Try.func51, Try.ntmps51
    go_wp2
    go_ret
    rw [hE.out]
    obtain ⟨e1, e2⟩ := hW.out.set2 0 1
    exact ⟨_, rfl, Kd.R_nil _ _ _ _ _, e1, e2⟩
  · have d1 : decide (n < 0) = false := by simpa using hneg
    have hs0 : (0 : Int) ≤ (bs.length : Int) - i := by omega
    by_cases hlong : (bs.length : Int) - i < n
    · have d2 : decide ((bs.length : Int) - i < n) = true := by simpa using hlong
      have hE : Aside0 (rrun (pRaw bs n) [] i 0 = ([], i, 2)) := ⟨by simp only [rrun, pRaw]; rw [if_neg hneg]; simp only [pTake]; rw [if_neg (show ¬ n.toNat ≤ bs.length - i from by omega)]; rfl⟩
      clear hneg hlong
      go_enter Try.func51, Try.ntmps51
      go_wp2
      go_quiet (fail)
      go_wp2
      go_ret
      rw [hE.out]
      obtain ⟨e1, e2⟩ := hW.out.set2 _ 2
      exact ⟨_, rfl, Kd.R_nil _ _ _ _ _, e1, e2⟩
    · obtain ⟨m, rfl⟩ := Int.eq_ofNat_of_zero_le (show 0 ≤ n by omega)
      have d2 : decide ((bs.length : Int) - i < m) = false := by simp; omega
      have hm : i + m ≤ bs.length := by omega
      have hE : Aside0 (rrun (pRaw bs m) [] i 0 = ((bs.drop i).take m, i + m, 0)) := ⟨by simp only [rrun, pRaw]; rw [if_neg hneg]; simp only [pTake, Int.toNat_natCast]; rw [if_pos (show m ≤ bs.length - i from by omega)]; rfl⟩
      have hbl : Aside0 (bs.length ≤ 140737488355328) := ⟨hl⟩
      replace hm := Aside0.mk hm
      clear hneg hlong
      go_enter Try.func51, Try.ntmps51
      go_wp2
      go_quiet (fail)
      go_wp2
      generalize hw0 : World.drewN _ _ = w0
      have hW0 : Aside0 (RR w0 F g bs i 0) := ⟨by rw [← hw0]; exact hW.out.chg ((Chg.refl (fun _ => False) w).drewN _) (fun _ _ _ h => h)⟩
      have hC0 : Aside0 (Chg (fun _ => False) w w0) := ⟨by rw [← hw0]; exact (Chg.refl _ w).drewN _⟩
      clear hw0 hl
      go_loopw [5, 6] (fun v q wr => ∃ k : Nat, q = .int .i64 k ∧ k ≤ m ∧ Aside0 (Kd.R (Kd.int .u8) 5 wr 0 (New (fun _ => False) w wr) v ((bs.drop i).take k)) ∧ Aside0 (Chg (fun _ => False) w wr)) (fun _ q _ => m - (intOf q).toNat)
      case atStart => exact ⟨0, rfl, by omega, ⟨Kd.R_nil _ _ _ _ _⟩, hC0⟩
      case round =>
        obtain ⟨k, rfl, hk, hR, hCh⟩ := hrel
        have x0 := pw_cell_below (hCh.out.below (fun _ _ h => h)) c0
        have x1 := pw_cell_below (hCh.out.below (fun _ _ h => h)) c1
        by_cases hlt : k < m
        · obtain ⟨ad, e1, x3w⟩ := byte_at hC.out (i + k) (by have := hm.out; omega)
          subst e1
          have ht : Aside0 ((bs.drop i).take (k + 1) = (bs.drop i).take k ++ [bs.getD (i + k) 0]) := ⟨by
            have h1 := hm.out
            rw [List.take_succ_eq_append_getElem (by rw [List.length_drop]; omega), List.getElem_drop, List.getD_eq_getElem?_getD, List.getElem?_eq_getElem (by omega)]; rfl⟩
          generalize bs.getD (i + k) 0 = b at x3w ht
          have hlA : Aside0 ((((bs.drop i).take k).length + 1) * 1 ≤ 140737488355328) := ⟨by have h1 := hbl.out; have h2 := hm.out; have h3 : ((bs.drop i).take k).length ≤ k := List.length_take_le _ _; omega⟩
          obtain ⟨j, hj⟩ : ∃ j, j = i + k := ⟨_, rfl⟩
          rw [← hj] at x3w
          have x3 := pw_cell_below (hCh.out.below (fun _ _ h => h)) x3w
          have hs : (i : Int) + (k : Int) = (j : Int) := by omega
          have hj0 : (0 : Int) ≤ (j : Int) := by omega
          have hjm : (j : Int) ≤ 140737488355328 := by have := hm.out; have := hbl.out; omega
          have hwq : IntKind.i64.wrap (j : Int) = j := by simp [IntKind.wrap, IntKind.bits, IntKind.signed]; omega
          have hj1 : (j : Int) < bs.length := by have := hm.out; omega
          have hwj : IntKind.i64.wrap ((i : Int) + (k : Int)) = (j : Int) := by (rw [hs]; have := hbl.out; simp [IntKind.wrap, IntKind.bits, IntKind.signed]; omega)
          replace hj := Aside0.mk hj
          have hRd : Aside0 (Kd.R (Kd.int .u8) 5 wr.drew 0 (New (fun _ => False) w wr.drew) u5 ((bs.drop i).take k)) := ⟨hR.out⟩
          have hCd : Aside0 (Chg (fun _ => False) w wr.drew) := ⟨hCh.out.drew⟩
          go_wp2
          go_region_held3 (fun w' => w'.cell? ⟨g, 0, none⟩ = some (.slice (some ad) bs.length c) ∧ w'.cell? ⟨g, 1, none⟩ = some (.int .i64 i) ∧ w'.cell? (ad.add j) = some (.int .u8 b)) (first | exact ⟨x0, x1, x3⟩ | go_keep | exact ⟨pw_cell_below (hc2.out.below (fun _ _ h => h)) c0, pw_cell_below (hc2.out.below (fun _ _ h => h)) c1, pw_cell_below (hc2.out.below (fun _ _ h => h)) x3w⟩) ((refine app1S (Kd.int .u8) (by rfl) (.tmp 37) (.tmp 50) (by rfl) Try.underlying25 infoU8 rfl (by decide) (by decide) b (by rfl) (by rfl) rfl hRd hCd hlA ?_; intro v1 w1 hr2 hc2))
          go_wp2
          go_roundw
          case measure => first | (simp [intOf]; done) | (simp [intOf]; omega)
          case rel => exact ⟨k + 1, by go_num, by omega, ⟨by rw [ht.out]; exact hr2.out⟩, hc2⟩
        · obtain rfl : k = m := by omega
          have hgl : Aside0 (g < w.heap.size) := ⟨by obtain ⟨_, _, h, _⟩ := hW.out; exact blk_lt h⟩
          have hsum : IntKind.i64.wrap ((i : Int) + (k : Int)) = (i : Int) + (k : Int) := by have := hbl.out; have := hm.out; simp [IntKind.wrap, IntKind.bits, IntKind.signed]; omega
          have fz := blk_frozen (hCh.out.blk hb.out (fun h => h)) 1
          obtain ⟨e1, e2⟩ := (hW.out.chg hCh.out (fun _ _ _ h => h)).set1 0 ((i : Int) + (k : Int)) (i + k) (by omega) hm.out
          replace e1 := Aside0.mk e1
          replace e2 := Aside0.mk e2
          go_wp2
          go_ret
          rw [hE.out]
          refine ⟨_, rfl, ?_, e1.out, (hCh.out.mono (fun _ _ h => h.elim)).trans e2.out (fun _ _ h => h)⟩
          have := hgl.out
          refine Kd.R_mono (R_chg hR.out e2.out (fun j hj hN e => ?_)) (fun j hj => ?_)
          · rcases hN with h | h
            · exact h
            · omega
          · rcases hj with h | h
            · exact .inl h
            · exact .inr ⟨h.1, by have := e2.out.size; simp at this ⊢; omega⟩

end Go.Proofs.Ytbheebcjbolboaa.K
