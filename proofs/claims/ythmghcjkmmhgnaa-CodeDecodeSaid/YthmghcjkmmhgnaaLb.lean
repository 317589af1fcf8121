import Derived.Test.YthmghcjkmmhgnaaLa
namespace Go.Proofs.Ythmghcjkmmhgnaa.K
open Go.RowKit Go.Proofs.YthmghcjkmmhgnaaW.PrintWords Go.Proofs.YthmghcjkmmhgnaaW.PrintLast Go.Proofs.YthmghcjkmmhgnaaW.PrintMore
set_option linter.unusedVariables false
set_option linter.unusedSimpArgs false
set_option maxRecDepth 100000

theorem be_getD (x : Int) : ∀ (n k : Nat), k < n → (be x n).getD k 0 = x / 2 ^ (8 * (n - 1 - k)) % 256
  | 0, k, h => by omega
  | n + 1, 0, _ => by simp [be]
  | n + 1, k + 1, h => by
    have := be_getD x n k (by omega)
    simp only [be, List.getD_cons_succ, this]
    congr 3
    omega
theorem pow_step (m : Nat) : (2 : Int) ^ (8 * (m + 1)) = 2 ^ (8 * m) * 256 := by rw [show 8 * (m + 1) = 8 * m + 8 from by omega, Int.pow_add]; rfl
/-- The first byte that parts two words tells which is less. -/
theorem word_order (x y : Int) (k : Nat) (hk : k < 8) (hE : x / 2 ^ (8 * (8 - k)) = y / 2 ^ (8 * (8 - k))) :
    ((be x 8).getD k 0 = (be y 8).getD k 0 → x / 2 ^ (8 * (8 - (k + 1))) = y / 2 ^ (8 * (8 - (k + 1)))) ∧
    ((be x 8).getD k 0 ≠ (be y 8).getD k 0 → ((be x 8).getD k 0 < (be y 8).getD k 0 ↔ x < y) ∧ x ≠ y) := by
  rw [be_getD x 8 k hk, be_getD y 8 k hk]
  have e1 : 8 - 1 - k = 7 - k := by omega
  have e2 : 8 - (k + 1) = 7 - k := by omega
  have e3 : 8 - k = (7 - k) + 1 := by omega
  rw [e3, pow_step, ← Int.ediv_ediv_of_nonneg (Int.le_of_lt (Int.pow_pos (by decide))), ← Int.ediv_ediv_of_nonneg (Int.le_of_lt (Int.pow_pos (by decide)))] at hE
  rw [e1, e2]
  have hp : (0 : Int) < 2 ^ (8 * (7 - k)) := Int.pow_pos (by decide)
  generalize (2 : Int) ^ (8 * (7 - k)) = P at *
  have hx : x / P < y / P → x < y := fun h => by
    rcases Int.lt_or_le x y with h1 | h1
    · exact h1
    · have := Int.ediv_le_ediv hp h1; omega
  have hy : y / P < x / P → y < x := fun h => by
    rcases Int.lt_or_le y x with h1 | h1
    · exact h1
    · have := Int.ediv_le_ediv hp h1; omega
  generalize x / P = X at *
  generalize y / P = Y at *
  refine ⟨fun h => by omega, fun h => ⟨⟨fun h1 => hx (by omega), fun h1 => ?_⟩, fun h1 => ?_⟩⟩
  · rcases Int.lt_or_le X Y with h2 | h2
    · omega
    · have := hy (by omega); omega
  · rcases Int.lt_or_le X Y with h2 | h2
    · have := hx h2; omega
    · have := hy (by omega); omega