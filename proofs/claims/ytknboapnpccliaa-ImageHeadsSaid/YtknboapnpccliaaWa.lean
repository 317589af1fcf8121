import Derived.Test.YtknboapnpccliaaKa
namespace Go.Proofs.Ytknboapnpccliaa.K
open Go.RowKit Go.Proofs.YtknboapnpccliaaW.PrintWords Go.Proofs.YtknboapnpccliaaW.PrintLast Go.Proofs.YtknboapnpccliaaW.PrintMore
set_option linter.unusedVariables false
set_option linter.unusedSimpArgs false
set_option maxRecDepth 100000

theorem infoU8 : (Try.prog.info? 5).map (fun i => (i.zero, i.size, i.bytes)) = some (some (.int .u8 0), 1, 1) := by kernel_rfl

-- slices.Clone of bytes: nil of nil; else new memory.
theorem clone_bytes (w : World) (A : Option Addr) (n c : Nat) (l : List Int) (hc0 : Kd.C (Kd.int .u8) w A n l) (hn0 : n ≤ 140737488355328) :
    Calls Try.prog 95 #[.slice A n c] w fun e w' => ∃ v, e = .returned v ∧ Kd.R (Kd.int .u8) 5 w' 0 (New (fun _ => False) w w') v l ∧ Chg (fun _ => False) w w' := by
  have hc := Aside0.mk hc0
  have hn := Aside0.mk hn0
  clear hc0 hn0
  have heq := fun (w : World) (a : Option Addr) (n c : Nat) => Go.Lib.run_eql_slice_nil (P := Try.prog) w 73 5 a n c 0 0 Try.underlying73
  rcases A with _ | ad
  · go_enter Try.func95, Try.ntmps95
    go_wp2
    go_ret
    refine ⟨_, rfl, ?_, Chg.refl _ _⟩
    obtain ⟨rfl, rfl⟩ := C_nil_eq hc.out
    exact Kd.R_nil _ _ _ _ _
  · have hl : Aside0 ((([] : List Int).length + n) * 1 ≤ 140737488355328) := ⟨by have := hn.out; simp; omega⟩
    go_enter Try.func95, Try.ntmps95
    go_wp2_with (at_builtin; go_must (refine appN (Kd.int .u8) rfl (.tmp 5) (.tmp 6) rfl Try.underlying73 infoU8 rfl (by decide) (by decide) rfl rfl ⟨made0 (Kd.int .u8) w 5⟩ ⟨Kd.C_alloc hc.out _⟩ (fun _ _ h => h) ⟨(Chg.refl _ w).alloc _⟩ hl ?_); go_must (intro v1 w1 hr1 hc1))
    go_ret
    exact ⟨_, rfl, hr1.out, hc1.out⟩

/-- The digits to the base 128, at most k of them. -/
def digs (x : Int) : Nat → List Int
  | 0 => []
  | k + 1 => if x < 128 then [x] else (x % 128 + 128) :: digs (x / 128) k
theorem digs_length (k : Nat) : ∀ x, (digs x k).length ≤ k := by
  induction k with
  | zero => intro x; simp [digs]
  | succ k ih => intro x; unfold digs; split
                 · simp
                 · have := ih (x / 128); simp; omega
theorem or128 (y : Int) (h0 : 0 ≤ y) (h1 : y < 256) : Go.bits .or .u8 y 128 = y % 128 + 128 := by
  have h : ∀ z : Fin 256, Go.bits .or .u8 (z.val : Int) 128 = (z.val : Int) % 128 + 128 := by decide +kernel
  have e := h ⟨y.toNat, by omega⟩
  simpa [Int.toNat_of_nonneg h0] using e

/-- A number with a sign, folded. -/
def fold (x : Int) : Int := if 0 ≤ x then 2 * x else -2 * x - 1
theorem fold_range (x : Int) (h0 : -9223372036854775808 ≤ x) (h1 : x ≤ 9223372036854775807) : 0 ≤ fold x ∧ fold x ≤ 18446744073709551615 := by unfold fold; split <;> omega
theorem zig (x : Int) (h0 : -9223372036854775808 ≤ x) (h1 : x ≤ 9223372036854775807) : bits .xor .u64 (IntKind.u64.wrap (IntKind.u64.wrap x * 2)) (IntKind.u64.wrap (x / 9223372036854775808)) = fold x := by
  have w64 : ∀ n : Int, IntKind.u64.wrap n = n % 18446744073709551616 := fun n => by simp [IntKind.wrap, IntKind.bits, IntKind.signed]
  rw [w64, w64, w64]
  by_cases h : 0 ≤ x
  · have e1 : x % 18446744073709551616 * 2 % 18446744073709551616 = 2 * x := by omega
    have e2 : x / 9223372036854775808 % 18446744073709551616 = 0 := by omega
    rw [e1, e2, fold, if_pos h]
    show IntKind.u64.wrap ((BitVec.ofInt 64 (2 * x) ^^^ BitVec.ofInt 64 0).toNat : Int) = _
    rw [w64]
    simp
    omega
  · have e1 : x % 18446744073709551616 * 2 % 18446744073709551616 = 2 * x + 18446744073709551616 := by omega
    have e2 : x / 9223372036854775808 % 18446744073709551616 = 18446744073709551615 := by omega
    rw [e1, e2, fold, if_neg h]
    show IntKind.u64.wrap ((BitVec.ofInt 64 (2 * x + 18446744073709551616) ^^^ BitVec.ofInt 64 18446744073709551615).toNat : Int) = _
    rw [w64, show BitVec.ofInt 64 18446744073709551615 = BitVec.allOnes 64 from by decide, BitVec.xor_allOnes, BitVec.toNat_not]
    simp
    omega