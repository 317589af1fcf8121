/- For every unsigned 64-bit number the program's UintLen (the length of the digits to the base 128 that it lays down) is the document's UintLen, which counts divisions by 128. No condition. -/
import Derived.Test.YtbheebcjbolboaaPWireLenx1
namespace Go.Proofs.Ytbheebcjbolboaa.Pure
open Go.RowKit Go.Proofs.Ytbheebcjbolboaa.PWireLen Go.Proofs.YtbheebcjbolboaaW.PrintWords Go.Proofs.YtbheebcjbolboaaW.PrintLast

theorem div_plain (x : Int) (h0 : 0 ≤ x) (h1 : x < 18446744073709551616) : IntKind.u64.wrap (Int.tdiv x 128) = x / 128 := by
  rw [Int.tdiv_eq_ediv_of_nonneg h0]
  have e : IntKind.u64.wrap (x / 128) = (x / 128) % 18446744073709551616 := by simp [IntKind.wrap, IntKind.bits, IntKind.signed]
  rw [e]
  omega

theorem both (d : Nat) : ∀ (x n : Int) (l : List Int), 0 ≤ x → x < 18446744073709551616 → x < 128 ^ (d + 1) → l.length + d < 140737488355328 → 0 ≤ n → n + d < 4611686018427387904 →
    ∃ r m, wire_digits_uint64.l0 (d + 1) l x = some r ∧ portageref01_UintLen.l0 (d + 1) x n = some m ∧ (r.length : Int) - l.length = m - n + 1 := by
  induction d with
  | zero =>
    intro x n l h0 h1 h2 hl hn hm
    simp at h2
    refine ⟨l ++ [x % 256], n, ?_, ?_, ?_⟩
    · simp only [wire_digits_uint64.l0]; rw [if_neg (by omega), if_pos (by omega)]
    · simp only [portageref01_UintLen.l0]; rw [if_neg (by omega)]
    · simp; omega
  | succ d ih =>
    intro x n l h0 h1 h2 hl hn hm
    by_cases hx : x ≥ 128
    · have hp : (128 : Int) ^ (d + 1 + 1) = 128 * 128 ^ (d + 1) := by rw [Int.pow_succ, Int.mul_comm]
      have hw : wrap64 (n + 1) = n + 1 := by unfold wrap64; omega
      obtain ⟨r, m, hr, hm', he⟩ := ih (x / 128) (n + 1) (l ++ [Go.bits .or .u8 (x % 256) 128]) (by omega) (by omega) (by rw [hp] at h2; omega) (by simp; omega) (by omega) (by omega)
      refine ⟨r, m, ?_, ?_, ?_⟩
      · rw [wire_digits_uint64.l0.eq_2, if_pos hx, if_pos (by omega)]; exact hr
      · rw [portageref01_UintLen.l0.eq_2, if_pos hx, div_plain x h0 h1, hw]; exact hm'
      · simp at he; omega
    · refine ⟨l ++ [x % 256], n, ?_, ?_, ?_⟩
      · rw [wire_digits_uint64.l0.eq_2, if_neg hx, if_pos (by omega)]
      · rw [portageref01_UintLen.l0.eq_2, if_neg hx]
      · simp; omega

theorem WireLen : portagelaw01_WireLen.Pure := by
  intro x hx
  have hb : 0 ≤ x ∧ x < 18446744073709551616 := by
    simp [Lit.wf, IntKind.min, IntKind.max, IntKind.signed, IntKind.bits] at hx
    omega
  obtain ⟨r, m, hr, hm, he⟩ := both 9 x 1 [] hb.1 hb.2 (by omega) (by simp) (by omega) (by omega)
  refine ⟨10, ?_⟩
  unfold portagelaw01_WireLen.f wire_UintLen.f wire_digits_uint64.f portageref01_UintLen.f
  rw [hr, hm]
  simp at he ⊢
  omega

end Go.Proofs.Ytbheebcjbolboaa.Pure
