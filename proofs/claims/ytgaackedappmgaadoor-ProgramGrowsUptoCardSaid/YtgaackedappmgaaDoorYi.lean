import Derived.Test.YtgaackedappmgaaDoorYg
import Derived.IntWalk
import Derived.BigQuiet
import Derived.WalkLawsBesides
namespace Go.Proofs.YtgaackedappmgaaDoor.K
open Go.RowKit Go.Proofs.YtgaackedappmgaaDoorW.PrintWords Go.Proofs.YtgaackedappmgaaDoorW.PrintLast Go.Proofs.YtgaackedappmgaaDoorW.PrintMore
set_option linter.unusedVariables false
set_option linter.unusedSimpArgs false
set_option maxRecDepth 100000
abbrev isNan (u : Nat) : Prop := 9218868437227405312 < u % 9223372036854775808
theorem cmpI (a : Int) : compare a a = Ordering.eq := by simp [compare, compareOfLessAndEq]
theorem cmpN (a : Nat) : compare a a = Ordering.eq := by simp [compare, compareOfLessAndEq]
theorem order_self (u : Nat) : (Ieee.double.order u u != some .eq) = true ↔ isNan u := by
  have key : Ieee.double.read u = (if u % 9223372036854775808 < 4503599627370496 then .number (u / 9223372036854775808 % 2 == 1) (u % 9223372036854775808) Ieee.double.leastPlace
      else if u % 9223372036854775808 < 9218868437227405312 then .number (u / 9223372036854775808 % 2 == 1) (4503599627370496 + u % 9223372036854775808 % 4503599627370496) (Ieee.double.leastPlace + (u % 9223372036854775808 / 4503599627370496 - 1 : Nat))
      else if u % 9223372036854775808 = 9218868437227405312 then .infinity (u / 9223372036854775808 % 2 == 1) else .nan (u / 9223372036854775808 % 2 == 1) (u % 9223372036854775808 - 9218868437227405312)) := rfl
  unfold Ieee.Format.order isNan
  rw [key]
  by_cases h1 : u % 9223372036854775808 < 4503599627370496
  · rw [if_pos h1]
    simp [Ieee.Datum.order, cmpI, cmpN]
    omega
  rw [if_neg h1]
  by_cases h2 : u % 9223372036854775808 < 9218868437227405312
  · rw [if_pos h2]
    simp [Ieee.Datum.order, cmpI, cmpN]
    omega
  rw [if_neg h2]
  by_cases h3 : u % 9223372036854775808 = 9218868437227405312
  · rw [if_pos h3]
    simp [Ieee.Datum.order, cmpI, cmpN]
    omega
  rw [if_neg h3]
  simp [Ieee.Datum.order]
  omega
def canonU (u : Int) : Int := if 9218868437227405312 < u % 9223372036854775808 then 9221120237041090560 else u
theorem prog_Canon (w : World) (u : Int) (h0 : 0 ≤ u) (h1 : u < 18446744073709551616) : Calls Tryd.prog 53 #[.int .u64 u] w fun e w' => e = .returned (.int .u64 (canonU u)) ∧ w' = w := by
  obtain ⟨k, rfl⟩ := Int.eq_ofNat_of_zero_le h0
  have hfb := @run_callFunc_extern Tryd.prog 62 _ Extern.MathFloatBits.float64bits Tryd.func62 (by kernel_rfl) (by kernel_rfl) (by kernel_rfl) (by kernel_rfl)
  have hff := @run_callFunc_extern Tryd.prog 63 _ Extern.MathFloatBits.float64frombits Tryd.func63 (by kernel_rfl) (by kernel_rfl) (by kernel_rfl) (by kernel_rfl)
  have e1 : ∀ (W : World), (Extern.MathFloatBits.float64frombits #[.int .u64 (k : Int)]).run Tryd.prog W = .ok (.float .f64 k) W := fun _ => rfl
  have e2 : ∀ (W : World), (Extern.MathFloatBits.float64bits #[.float .f64 k]).run Tryd.prog W = .ok (.int .u64 (k : Int)) W := fun _ => rfl
  have hE : Aside0 (canonU k = if isNan k then 9221120237041090560 else (k : Int)) := ⟨by
    unfold canonU isNan
    by_cases h : 9218868437227405312 < k % 9223372036854775808
    · rw [if_pos h, if_pos (by omega)]
    · rw [if_neg h, if_neg (by omega)]⟩
  have ho := order_self k
  by_cases h : isNan k
  · have hb := ho.2 h
    have he : Aside0 (canonU k = 9221120237041090560) := ⟨by rw [hE.out, if_pos h]⟩
    clear ho h
    have hfm : FloatKind.f64.format = Ieee.double := rfl
    go_enter Tryd.func53, Tryd.ntmps53
    go_wp2
    go_ret
    exact ⟨by first | (rw [he.out]; done) | (rw [he.out]; rfl), rfl⟩
  · have hb : (Ieee.double.order k k != some .eq) = false := by
      cases hh : (Ieee.double.order k k != some .eq) with
      | true => exact absurd (ho.1 hh) h
      | false => rfl
    have he : Aside0 (canonU k = k) := ⟨by rw [hE.out, if_neg h]⟩
    clear ho h
    have hfm : FloatKind.f64.format = Ieee.double := rfl
    go_enter Tryd.func53, Tryd.ntmps53
    go_wp2
    go_ret
    exact ⟨by first | (rw [he.out]; done) | (rw [he.out]; rfl), rfl⟩
def nameE (s : ByteArray) : Int := if nameBad s = true then 6 else if s.size = 0 then 6 else if 32 < s.size then 5 else 0
set_option maxHeartbeats 4000000
theorem prog_checkName (w : World) (s : ByteArray) (hz : s.size ≤ 140737488351232) : Calls Tryd.prog 44 #[.string s] w fun e w' => e = .returned (.int .i64 (nameE s)) ∧ w' = w := by
  by_cases hz2 : s.size = 0
  · have hte : s.toList = [] := by rw [ByteArray.toList_eq]; exact List.eq_nil_of_length_eq_zero (by simpa using hz2)
    have he : Aside0 (nameE s = 6) := ⟨by unfold nameE; by_cases h : nameBad s = true; (rw [if_pos h]); (rw [if_neg h, if_pos hz2])⟩
    clear hz2
    go_enter Tryd.func44, Tryd.ntmps44
    go_wp2
    go_ret
    exact ⟨by first | (rw [he.out]; done) | (rw [he.out]; rfl), rfl⟩
  have hte : s.toList.isEmpty = false := by
    cases h : s.toList with
    | nil => exact absurd (by rw [ByteArray.toList_eq] at h; simpa using congrArg List.length h) hz2
    | cons a l => rfl
  have hz2A := Aside0.mk hz2
  clear hz2
  go_enter Tryd.func44, Tryd.ntmps44
  go_wp2
  clear hte
  go_loopw [9] (fun i9 wr => ∃ n : Nat, i9 = .int .i64 n ∧ n ≤ s.size ∧ Aside0 (∀ (j : Nat) (h : j < s.size), j < n → letterB ((s[j]'h).toNat : Int) = true) ∧ wr = w) (fun i9 _ => s.size - (intOf i9).toNat)
  case atStart => exact ⟨0, rfl, by omega, ⟨fun j h hj => by omega⟩, rfl⟩
  case round =>
    obtain ⟨n, rfl, hnn, hN, rfl⟩ := hrel
    by_cases hlt : n < s.size
    · have hn0 : (0 : Int) ≤ n := by omega
      have hn1 : (n : Int) < s.size := by omega
      have hN2 : Aside0 (letterB ((s[n]'hlt).toNat : Int) = true → Aside0 (∀ (j : Nat) (h : j < s.size), j < n + 1 → letterB ((s[j]'h).toNat : Int) = true) ∧ wr = wr) := ⟨fun hl => ⟨⟨fun j h hj => by
          rcases Nat.lt_or_ge j n with h1 | h1
          · exact hN.out j h h1
          · obtain rfl : j = n := by omega
            exact hl⟩, rfl⟩⟩
      have hbad : Aside0 (letterB ((s[n]'hlt).toNat : Int) = false → nameE s = 6) := ⟨fun hl => by unfold nameE; rw [if_pos (nameBad_hit hlt hl)]⟩
      have hcs : (((s[n]'hlt).toNat : Int) < 48) ∨ (48 ≤ ((s[n]'hlt).toNat : Int) ∧ ((s[n]'hlt).toNat : Int) ≤ 57) ∨ (58 ≤ ((s[n]'hlt).toNat : Int) ∧ ((s[n]'hlt).toNat : Int) ≤ 64) ∨ (65 ≤ ((s[n]'hlt).toNat : Int) ∧ ((s[n]'hlt).toNat : Int) ≤ 90) ∨ (91 ≤ ((s[n]'hlt).toNat : Int) ∧ ((s[n]'hlt).toNat : Int) ≤ 94) ∨ (((s[n]'hlt).toNat : Int) = 95) ∨ (((s[n]'hlt).toNat : Int) = 96) ∨ (97 ≤ ((s[n]'hlt).toNat : Int) ∧ ((s[n]'hlt).toNat : Int) ≤ 122) ∨ (123 ≤ ((s[n]'hlt).toNat : Int)) := by omega
      rcases hcs with h | h | h | h | h | h | h | h | h
      · have c0 : ¬ ((97 : Int) ≤ ((s[n]'hlt).toNat : Int)) := by omega
        have c1 : (((s[n]'hlt).toNat : Int) ≤ 122) := by omega
        have c2 : ¬ ((65 : Int) ≤ ((s[n]'hlt).toNat : Int)) := by omega
        have c3 : (((s[n]'hlt).toNat : Int) ≤ 90) := by omega
        have c4 : ¬ ((48 : Int) ≤ ((s[n]'hlt).toNat : Int)) := by omega
        have c5 : (((s[n]'hlt).toNat : Int) ≤ 57) := by omega
        have c6 : ¬ (((s[n]'hlt).toNat : Int) = 95) := by omega
        have he : letterB ((s[n]'hlt).toNat : Int) = false := by simp [letterB, c0, c1, c2, c3, c4, c5, c6]
        have c7 : (((s[n]'hlt).toNat : Int) == 95) = false := by simpa using c6
        clear h
        have he := Aside0.mk (hbad.out he)
        clear hN2 hbad
        go_wp2
        go_ret
        exact ⟨by first | (rw [he.out]; done) | (rw [he.out]; rfl), rfl⟩
      · have c0 : ¬ ((97 : Int) ≤ ((s[n]'hlt).toNat : Int)) := by omega
        have c1 : (((s[n]'hlt).toNat : Int) ≤ 122) := by omega
        have c2 : ¬ ((65 : Int) ≤ ((s[n]'hlt).toNat : Int)) := by omega
        have c3 : (((s[n]'hlt).toNat : Int) ≤ 90) := by omega
        have c4 : ((48 : Int) ≤ ((s[n]'hlt).toNat : Int)) := by omega
        have c5 : (((s[n]'hlt).toNat : Int) ≤ 57) := by omega
        have c6 : ¬ (((s[n]'hlt).toNat : Int) = 95) := by omega
        have he : letterB ((s[n]'hlt).toNat : Int) = true := by simp [letterB, c0, c1, c2, c3, c4, c5, c6]
        have c7 : (((s[n]'hlt).toNat : Int) == 95) = false := by simpa using c6
        clear h
        replace hN2 := Aside0.mk (hN2.out he)
        clear he
        go_wp2
        go_roundw
        case measure => first | (simp [intOf]; done) | (simp [intOf]; omega)
        case rel => exact ⟨n + 1, by go_num, by omega, hN2.out.1, by first | trivial | rfl⟩
      · have c0 : ¬ ((97 : Int) ≤ ((s[n]'hlt).toNat : Int)) := by omega
        have c1 : (((s[n]'hlt).toNat : Int) ≤ 122) := by omega
        have c2 : ¬ ((65 : Int) ≤ ((s[n]'hlt).toNat : Int)) := by omega
        have c3 : (((s[n]'hlt).toNat : Int) ≤ 90) := by omega
        have c4 : ((48 : Int) ≤ ((s[n]'hlt).toNat : Int)) := by omega
        have c5 : ¬ (((s[n]'hlt).toNat : Int) ≤ 57) := by omega
        have c6 : ¬ (((s[n]'hlt).toNat : Int) = 95) := by omega
        have he : letterB ((s[n]'hlt).toNat : Int) = false := by simp [letterB, c0, c1, c2, c3, c4, c5, c6]
        have c7 : (((s[n]'hlt).toNat : Int) == 95) = false := by simpa using c6
        clear h
        have he := Aside0.mk (hbad.out he)
        clear hN2 hbad
        go_wp2
        go_ret
        exact ⟨by first | (rw [he.out]; done) | (rw [he.out]; rfl), rfl⟩
      · have c0 : ¬ ((97 : Int) ≤ ((s[n]'hlt).toNat : Int)) := by omega
        have c1 : (((s[n]'hlt).toNat : Int) ≤ 122) := by omega
        have c2 : ((65 : Int) ≤ ((s[n]'hlt).toNat : Int)) := by omega
        have c3 : (((s[n]'hlt).toNat : Int) ≤ 90) := by omega
        have c4 : ((48 : Int) ≤ ((s[n]'hlt).toNat : Int)) := by omega
        have c5 : ¬ (((s[n]'hlt).toNat : Int) ≤ 57) := by omega
        have c6 : ¬ (((s[n]'hlt).toNat : Int) = 95) := by omega
        have he : letterB ((s[n]'hlt).toNat : Int) = true := by simp [letterB, c0, c1, c2, c3, c4, c5, c6]
        have c7 : (((s[n]'hlt).toNat : Int) == 95) = false := by simpa using c6
        clear h
        replace hN2 := Aside0.mk (hN2.out he)
        clear he
        go_wp2
        go_roundw
        case measure => first | (simp [intOf]; done) | (simp [intOf]; omega)
        case rel => exact ⟨n + 1, by go_num, by omega, hN2.out.1, by first | trivial | rfl⟩
      · have c0 : ¬ ((97 : Int) ≤ ((s[n]'hlt).toNat : Int)) := by omega
        have c1 : (((s[n]'hlt).toNat : Int) ≤ 122) := by omega
        have c2 : ((65 : Int) ≤ ((s[n]'hlt).toNat : Int)) := by omega
        have c3 : ¬ (((s[n]'hlt).toNat : Int) ≤ 90) := by omega
        have c4 : ((48 : Int) ≤ ((s[n]'hlt).toNat : Int)) := by omega
        have c5 : ¬ (((s[n]'hlt).toNat : Int) ≤ 57) := by omega
        have c6 : ¬ (((s[n]'hlt).toNat : Int) = 95) := by omega
        have he : letterB ((s[n]'hlt).toNat : Int) = false := by simp [letterB, c0, c1, c2, c3, c4, c5, c6]
        have c7 : (((s[n]'hlt).toNat : Int) == 95) = false := by simpa using c6
        clear h
        have he := Aside0.mk (hbad.out he)
        clear hN2 hbad
        go_wp2
        go_ret
        exact ⟨by first | (rw [he.out]; done) | (rw [he.out]; rfl), rfl⟩
      · have c0 : ¬ ((97 : Int) ≤ ((s[n]'hlt).toNat : Int)) := by omega
        have c1 : (((s[n]'hlt).toNat : Int) ≤ 122) := by omega
        have c2 : ((65 : Int) ≤ ((s[n]'hlt).toNat : Int)) := by omega
        have c3 : ¬ (((s[n]'hlt).toNat : Int) ≤ 90) := by omega
        have c4 : ((48 : Int) ≤ ((s[n]'hlt).toNat : Int)) := by omega
        have c5 : ¬ (((s[n]'hlt).toNat : Int) ≤ 57) := by omega
        have c6 : (((s[n]'hlt).toNat : Int) = 95) := by omega
        have he : letterB ((s[n]'hlt).toNat : Int) = true := by simp [letterB, c0, c1, c2, c3, c4, c5, c6]
        have c7 : (((s[n]'hlt).toNat : Int) == 95) = true := by simpa using c6
        clear h
        replace hN2 := Aside0.mk (hN2.out he)
        clear he
        go_wp2
        go_roundw
        case measure => first | (simp [intOf]; done) | (simp [intOf]; omega)
        case rel => exact ⟨n + 1, by go_num, by omega, hN2.out.1, by first | trivial | rfl⟩
      · have c0 : ¬ ((97 : Int) ≤ ((s[n]'hlt).toNat : Int)) := by omega
        have c1 : (((s[n]'hlt).toNat : Int) ≤ 122) := by omega
        have c2 : ((65 : Int) ≤ ((s[n]'hlt).toNat : Int)) := by omega
        have c3 : ¬ (((s[n]'hlt).toNat : Int) ≤ 90) := by omega
        have c4 : ((48 : Int) ≤ ((s[n]'hlt).toNat : Int)) := by omega
        have c5 : ¬ (((s[n]'hlt).toNat : Int) ≤ 57) := by omega
        have c6 : ¬ (((s[n]'hlt).toNat : Int) = 95) := by omega
        have he : letterB ((s[n]'hlt).toNat : Int) = false := by simp [letterB, c0, c1, c2, c3, c4, c5, c6]
        have c7 : (((s[n]'hlt).toNat : Int) == 95) = false := by simpa using c6
        clear h
        have he := Aside0.mk (hbad.out he)
        clear hN2 hbad
        go_wp2
        go_ret
        exact ⟨by first | (rw [he.out]; done) | (rw [he.out]; rfl), rfl⟩
      · have c0 : ((97 : Int) ≤ ((s[n]'hlt).toNat : Int)) := by omega
        have c1 : (((s[n]'hlt).toNat : Int) ≤ 122) := by omega
        have c2 : ((65 : Int) ≤ ((s[n]'hlt).toNat : Int)) := by omega
        have c3 : ¬ (((s[n]'hlt).toNat : Int) ≤ 90) := by omega
        have c4 : ((48 : Int) ≤ ((s[n]'hlt).toNat : Int)) := by omega
        have c5 : ¬ (((s[n]'hlt).toNat : Int) ≤ 57) := by omega
        have c6 : ¬ (((s[n]'hlt).toNat : Int) = 95) := by omega
        have he : letterB ((s[n]'hlt).toNat : Int) = true := by simp [letterB, c0, c1, c2, c3, c4, c5, c6]
        have c7 : (((s[n]'hlt).toNat : Int) == 95) = false := by simpa using c6
        clear h
        replace hN2 := Aside0.mk (hN2.out he)
        clear he
        go_wp2
        go_roundw
        case measure => first | (simp [intOf]; done) | (simp [intOf]; omega)
        case rel => exact ⟨n + 1, by go_num, by omega, hN2.out.1, by first | trivial | rfl⟩
      · have c0 : ((97 : Int) ≤ ((s[n]'hlt).toNat : Int)) := by omega
        have c1 : ¬ (((s[n]'hlt).toNat : Int) ≤ 122) := by omega
        have c2 : ((65 : Int) ≤ ((s[n]'hlt).toNat : Int)) := by omega
        have c3 : ¬ (((s[n]'hlt).toNat : Int) ≤ 90) := by omega
        have c4 : ((48 : Int) ≤ ((s[n]'hlt).toNat : Int)) := by omega
        have c5 : ¬ (((s[n]'hlt).toNat : Int) ≤ 57) := by omega
        have c6 : ¬ (((s[n]'hlt).toNat : Int) = 95) := by omega
        have he : letterB ((s[n]'hlt).toNat : Int) = false := by simp [letterB, c0, c1, c2, c3, c4, c5, c6]
        have c7 : (((s[n]'hlt).toNat : Int) == 95) = false := by simpa using c6
        clear h
        have he := Aside0.mk (hbad.out he)
        clear hN2 hbad
        go_wp2
        go_ret
        exact ⟨by first | (rw [he.out]; done) | (rw [he.out]; rfl), rfl⟩
    · have hB : Aside0 (nameBad s = false) := ⟨nameBad_none (fun j h => hN.out j h (by omega))⟩
      obtain rfl : n = s.size := by omega
      have hn1 : ¬ ((s.size : Int) < s.size) := by omega
      clear hlt
      by_cases hz3 : 32 < s.size
      · have he : Aside0 (nameE s = 5) := ⟨by unfold nameE; rw [if_neg (by rw [hB.out]; decide), if_neg hz2A.out, if_pos hz3]⟩
        have hz4 : (32 : Int) < s.size := by omega
        clear hz3
        go_wp2
        go_ret
        exact ⟨by first | (rw [he.out]; done) | (rw [he.out]; rfl), rfl⟩
      · have he : Aside0 (nameE s = 0) := ⟨by unfold nameE; rw [if_neg (by rw [hB.out]; decide), if_neg hz2A.out, if_neg hz3]⟩
        have hz4 : ¬ (32 : Int) < s.size := by omega
        clear hz3
        go_wp2
        go_ret
        exact ⟨by first | (rw [he.out]; done) | (rw [he.out]; rfl), rfl⟩
theorem prog_at0 (w : World) (pc : Int) : Calls Tryd.prog 43 #[.int .i64 pc, .int .i64 0] w fun e w' => e = .returned .nilIface ∧ w' = w := by
  go_enter Tryd.func43, Tryd.ntmps43
  go_wp2
  go_ret
  exact ⟨rfl, rfl⟩
theorem prog_at (w : World) (pc why : Int) (h : why ≠ 0) : Calls Tryd.prog 43 #[.int .i64 pc, .int .i64 why] w fun e w' => e = .returned (.iface 80 (.pointer (some ⟨w.heap.size, 0, none⟩))) ∧ w' = w.alloc (.cells #[.int .i64 pc, .int .i64 why] 87) := by
  have hb : (why == 0) = false := by simpa using h
  clear h
  go_enter Tryd.func43, Tryd.ntmps43
  go_wp2
  go_ret
  exact ⟨rfl, rfl⟩
theorem prog_in0 (w : World) (fn : Int) : Calls Tryd.prog 41 #[.int .i64 fn, .nilIface] w fun e w' => e = .returned .nilIface ∧ w' = w := by
  go_enter Tryd.func41, Tryd.ntmps41
  go_wp2
  go_ret
  exact ⟨rfl, rfl⟩
theorem prog_in (w : World) (fn : Int) (t : TypeId) (v : Value) : Calls Tryd.prog 41 #[.int .i64 fn, .iface t v] w fun e w' => e = .returned (.iface 79 (.pointer (some ⟨w.heap.size, 0, none⟩))) ∧ w' = w.alloc (.cells #[.int .i64 fn, .iface t v] 85) := by
  go_enter Tryd.func41, Tryd.ntmps41
  go_wp2
  go_ret
  exact ⟨rfl, rfl⟩
end Go.Proofs.YtgaackedappmgaaDoor.K
