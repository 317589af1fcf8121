import Derived.Test.YthmghcjkmmhgnaaLg
namespace Go.Proofs.Ythmghcjkmmhgnaa.K
open Go.RowKit Go.Proofs.YthmghcjkmmhgnaaW.PrintWords Go.Proofs.YthmghcjkmmhgnaaW.PrintLast Go.Proofs.YthmghcjkmmhgnaaW.PrintMore
set_option linter.unusedVariables false
set_option linter.unusedSimpArgs false
set_option maxRecDepth 100000

/-- What the document's reader of a number answers: the number, how many bytes, the error. -/
def numR (r : Except Int (Int × Nat)) (i : Nat) : Int × Int × Int := match r with | .ok (x, j) => (x, (j : Int) - i, 0) | .error c => (0, 0, c)
theorem dig_lt (x c : Int) (k : Nat) (hx0 : 0 ≤ x) (hx1 : x < 2 ^ (7 * k)) (hc0 : 0 ≤ c) : 0 ≤ x + c % 128 * 2 ^ (7 * k) ∧ x + c % 128 * 2 ^ (7 * k) < 2 ^ (7 * (k + 1)) := by
  have hp : (0 : Int) < 2 ^ (7 * k) := Int.pow_pos (by decide)
  have h1 : c % 128 * 2 ^ (7 * k) ≤ 127 * 2 ^ (7 * k) := Int.mul_le_mul_of_nonneg_right (by omega) (by omega)
  have h0 : 0 ≤ c % 128 * 2 ^ (7 * k) := Int.mul_nonneg (by omega) (by omega)
  have h2 : (2 : Int) ^ (7 * (k + 1)) = 128 * 2 ^ (7 * k) := by rw [show 7 * (k + 1) = 7 * k + 7 from by omega, Int.pow_add]; omega
  omega
theorem dig_add (x c : Int) (k : Nat) (hx0 : 0 ≤ x) (hx1 : x < 2 ^ (7 * k)) (hc0 : 0 ≤ c) (hc1 : c < 256) (hk : k ≤ 8) : IntKind.u64.wrap (x + IntKind.u64.wrap (c % 128 * 2 ^ (7 * k))) = x + c % 128 * 2 ^ (7 * k) := by
  have hl := dig_lt x c k hx0 hx1 hc0
  have h3 : (2 : Int) ^ (7 * (k + 1)) ≤ 2 ^ 63 := by exact_mod_cast Nat.pow_le_pow_right (by decide) (show 7 * (k + 1) ≤ 63 by omega)
  have h0 : 0 ≤ c % 128 * 2 ^ (7 * k) := Int.mul_nonneg (by omega) (Int.le_of_lt (Int.pow_pos (by decide)))
  rw [wrap_id h0 (by omega), wrap_id hl.1 (by omega)]
set_option maxHeartbeats 4000000
theorem ref_number (w : World) (A : Option Addr) (n cap i : Nat) (bs : List Int) (hC : Kd.C (Kd.int .u8) w A n bs) (hby0 : ∀ c ∈ bs, 0 ≤ c ∧ c < 256) (hi : i ≤ bs.length) (hn : bs.length ≤ 140737488355328) :
    Calls Try.prog 95 #[.slice A n cap, .int .i64 i] w fun e w' => e = .returned (.tuple #[.int .u64 (numR (pNum bs i) i).1, .int .i64 (numR (pNum bs i) i).2.1, .int .i64 (numR (pNum bs i) i).2.2]) ∧ Drawn0 w w' := by
  have e0 := hC.1
  subst e0
  have hCA := Aside0.mk hC
  have hby := Aside0.mk hby0
  clear hC hby0
  go_enter Try.func95, Try.ntmps95
  go_wp2
  go_loopw [7, 8, 9] (fun vx vk _ wr => ∃ (k : Nat) (x : Int), vx = .int .u64 x ∧ vk = .int .i64 k ∧ k ≤ 10 ∧ 0 ≤ x ∧ Aside0 (x < 2 ^ (7 * k)) ∧ Aside0 (pNumGo bs (10 - k) (i + k) (7 * k) x = pNum bs i) ∧ Drawn0 w wr) (fun _ k _ _ => 10 - (intOf k).toNat)
  case atStart => exact ⟨0, 0, rfl, rfl, by omega, by omega, ⟨by decide⟩, ⟨rfl⟩, Drawn0.refl _⟩
  case round =>
    obtain ⟨k, x, rfl, rfl, hk, hx0, hx1, hP, ⟨nd, rfl⟩⟩ := hrel
    by_cases hlt : k < 10
    · obtain ⟨j, hj⟩ : ∃ j, j = i + k := ⟨_, rfl⟩
      have hjI : (i : Int) + (k : Int) = (j : Int) := by omega
      rw [← hj] at hP
      by_cases hin : j < bs.length
      · obtain ⟨ad, e1, x1⟩ := byte_at hCA.out j hin
        subst e1
        have hc : 0 ≤ bs.getD j 0 ∧ bs.getD j 0 < 256 := by
          rw [List.getD_eq_getElem?_getD, List.getElem?_eq_getElem hin]
          exact hby.out _ (List.getElem_mem hin)
        have hst : ∀ e, bs.getD j 0 = e → pNum bs i = (if (e = 0 ∧ 0 < 7 * k) ∨ (7 * k = 63 ∧ 1 < e) then .error 4 else if e < 128 then .ok (x + e % 128 * 2 ^ (7 * k), j + 1) else pNumGo bs (9 - k) (j + 1) (7 * k + 7) (x + e % 128 * 2 ^ (7 * k))) := by
          intro e he
          rw [← hP.out, show 10 - k = (9 - k) + 1 from by omega, pNumGo, if_pos hin, he]
        generalize bs.getD j 0 = c at x1 hc hst
        have hst' := Aside0.mk (hst c rfl)
        clear hst
        obtain ⟨hc0, hc1⟩ := hc
        have hjA := Aside0.mk hj
        have hin0 : (0 : Int) ≤ (j : Int) := by omega
        have hin1 : (j : Int) < bs.length := by omega
        have d1 : decide (bs.length ≤ j) = false := by simp; omega
        clear hj
        by_cases h9 : k = 9
        · subst h9
          have hj9 : (i : Int) + 9 = j := by omega
          clear hjI
          by_cases hc1' : c = 1
          · subst hc1'
            have hE : Aside0 (pNum bs i = .ok (x + 9223372036854775808, j + 1)) := ⟨by rw [hst'.out, if_neg (by omega), if_pos (by decide)]; rfl⟩
            go_wp2
            go_ret3
            rw [hE.out]
            exact ⟨by show Ending.returned (.tuple #[.int .u64 (IntKind.u64.wrap (x + 9223372036854775808)), .int .i64 10, .int .i64 0]) = Ending.returned (.tuple #[.int .u64 (x + 9223372036854775808), .int .i64 (((j + 1 : Nat) : Int) - i), .int .i64 0]); rw [wrap_id (by omega) (by have := hx1.out; omega), show (((j + 1 : Nat) : Int) - i) = 10 from by omega], ⟨_, rfl⟩⟩
          · have t1 : (c != 1) = true := by simpa using hc1'
            have hE : Aside0 (pNum bs i = .error 4) := ⟨by rw [hst'.out, if_pos (by omega)]⟩
            clear hc1'
            go_wp2
            go_ret3
            rw [hE.out]
            exact ⟨rfl, ⟨_, rfl⟩⟩
        · have t9 : ((k : Int) == 9) = false := by simp; omega
          by_cases hk0 : k = 0
          · subst hk0
            obtain rfl : i = j := by omega
            clear hjI
            have hx00 : x = 0 := by have := hx1.out; omega
            subst hx00
            by_cases hlt' : c < 128
            · have t2 : decide (c < 128) = true := by simpa using hlt'
              have hE : Aside0 (pNum bs i = .ok (c, i + 1)) := ⟨by rw [hst'.out, if_neg (by omega), if_pos hlt', show (0 : Int) + c % 128 * 2 ^ (7 * 0) = c from by omega]⟩
              go_wp2
              go_ret3
              rw [hE.out]
              exact ⟨by show Ending.returned (.tuple #[.int .u64 (c % 128), .int .i64 1, .int .i64 0]) = Ending.returned (.tuple #[.int .u64 c, .int .i64 (((i + 1 : Nat) : Int) - i), .int .i64 0]); rw [show c % 128 = c from by omega, show (((i + 1 : Nat) : Int) - i) = 1 from by omega], ⟨_, rfl⟩⟩
            · have t2 : decide (c < 128) = false := by simpa using hlt'
              have hM := Aside0.mk (hst'.out.trans ((if_neg (by omega)).trans (if_neg hlt')))
              go_wp2
              go_roundw
              case measure => first | (simp [intOf]; done) | (simp [intOf]; omega)
              case rel => exact ⟨1, c % 128, rfl, rfl, by omega, by omega, ⟨by omega⟩, ⟨by rw [hM.out]; simp⟩, ⟨_, rfl⟩⟩
          · have t3 : decide ((k : Int) > 0) = true := by simp; omega
            by_cases hz : c = 0
            · have t4 : (c == 0) = true := by simpa using hz
              have hE : pNum bs i = .error 4 := by rw [hst'.out, if_pos (by omega)]
              clear hz
              go_wp2
              go_ret3
              rw [hE]
              exact ⟨rfl, ⟨_, rfl⟩⟩
            · have t4 : (c == 0) = false := by simpa using hz
              by_cases hlt' : c < 128
              · have t2 : decide (c < 128) = true := by simpa using hlt'
                have hE : pNum bs i = .ok (x + c % 128 * 2 ^ (7 * k), j + 1) := by rw [hst'.out, if_neg (by omega), if_pos hlt']
                have e1 := Aside0.mk (dig_add x c k hx0 hx1.out hc0 hc1 (by omega))
                replace hE := Aside0.mk hE
                go_wp2
                go_ret3
                replace hE := hE.out
                replace e1 := e1.out
                rw [hE]
                exact ⟨by show Ending.returned (.tuple #[.int .u64 (IntKind.u64.wrap (x + IntKind.u64.wrap (c % 128 * 2 ^ (7 * k)))), .int .i64 ((k : Int) + 1), .int .i64 0]) = Ending.returned (.tuple #[.int .u64 (x + c % 128 * 2 ^ (7 * k)), .int .i64 (((j + 1 : Nat) : Int) - i), .int .i64 0]); rw [e1, show (((j + 1 : Nat) : Int) - i) = (k : Int) + 1 from by have := hjA.out; omega], ⟨_, rfl⟩⟩
              · have t2 : decide (c < 128) = false := by simpa using hlt'
                have hM := Aside0.mk (hst'.out.trans ((if_neg (by omega)).trans (if_neg hlt')))
                have e1 := Aside0.mk (dig_add x c k hx0 hx1.out hc0 hc1 (by omega))
                have e3 := Aside0.mk (dig_lt x c k hx0 hx1.out hc0)
                go_wp2
                go_roundw
                case measure => first | (simp [intOf]; done) | (simp [intOf]; omega)
                case rel => exact ⟨k + 1, x + c % 128 * 2 ^ (7 * k), by rw [e1.out], by go_num, by omega, e3.out.1, ⟨e3.out.2⟩, ⟨by rw [hM.out, show 10 - (k + 1) = 9 - k from by omega, show i + (k + 1) = j + 1 from by have := hjA.out; omega, show 7 * (k + 1) = 7 * k + 7 from by omega]⟩, ⟨_, rfl⟩⟩
      · have d1 : decide (bs.length ≤ j) = true := by simp; omega
        have hj0 : (0 : Int) ≤ j := by omega
        have hjb : (j : Int) ≤ 140737488355338 := by omega
        have hE : pNum bs i = .error 2 := by rw [← hP.out, show 10 - k = (9 - k) + 1 from by omega, pNumGo, if_neg hin]
        replace hE := Aside0.mk hE
        clear hj
        go_wp2
        go_ret3
        rw [hE.out]
        exact ⟨rfl, ⟨_, rfl⟩⟩
    · obtain rfl : k = 10 := by omega
      have hE : pNum bs i = .error 4 := by rw [← hP.out]; rfl
      go_wp2
      go_ret3
      rw [hE]
      exact ⟨rfl, ⟨_, rfl⟩⟩

end Go.Proofs.Ythmghcjkmmhgnaa.K
