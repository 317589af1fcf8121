import Derived.Test.YthmghcjkmmhgnaaLb
namespace Go.Proofs.Ythmghcjkmmhgnaa.K
open Go.RowKit Go.Proofs.YthmghcjkmmhgnaaW.PrintWords Go.Proofs.YthmghcjkmmhgnaaW.PrintLast Go.Proofs.YthmghcjkmmhgnaaW.PrintMore
set_option linter.unusedVariables false
set_option linter.unusedSimpArgs false
set_option maxRecDepth 100000

/-- Where a reader of a number's form stands behind k digits. -/
structure FormAt (x : Int) (k : Nat) (y : Int) : Prop where
  lo : 0 ≤ y
  hi : y ≤ 18446744073709551615
  few : y < 128 ^ (10 - k)
  k10 : k < 10
  rest : (digs x 10).drop k = digs y (10 - k)
  top : 0 < k → 1 ≤ y
theorem FormAt.start {x : Int} (h0 : 0 ≤ x) (h1 : x ≤ 18446744073709551615) : FormAt x 0 x := ⟨h0, h1, by show x < 1180591620717411303424; omega, by omega, rfl, fun h => absurd h (by omega)⟩
theorem FormAt.step {x : Int} {k : Nat} {y : Int} (h : FormAt x k y) :
    k < (digs x 10).length ∧ ((y < 128 ∧ (digs x 10).getD k 0 = y ∧ (digs x 10).length = k + 1) ∨ (128 ≤ y ∧ (digs x 10).getD k 0 = y % 128 + 128 ∧ k + 1 < (digs x 10).length ∧ FormAt x (k + 1) (y / 128))) := by
  obtain ⟨h0, h1, h2, h3, h4, h5⟩ := h
  obtain ⟨m, hm⟩ : ∃ m, 10 - k = m + 1 := ⟨9 - k, by omega⟩
  rw [hm] at h2 h4
  have hlen : (digs x 10).length - k = (digs y (m + 1)).length := by rw [← h4, List.length_drop]
  have hget : (digs x 10).getD k 0 = (digs y (m + 1)).getD 0 0 := by rw [← h4]; simp [List.getD_eq_getElem?_getD]
  rw [digs.eq_2 y] at hlen hget h4
  split at hlen
  · rename_i hy
    rw [if_pos hy] at hget
    simp at hlen hget
    exact ⟨by omega, .inl ⟨hy, by simpa using hget, by omega⟩⟩
  · rename_i hy
    rw [if_neg hy] at hget h4
    simp at hlen hget
    have hd : (digs x 10).drop (k + 1) = digs (y / 128) m := by rw [← List.drop_drop, h4]; rfl
    cases m with
    | zero => exact absurd h2 (by show ¬ y < 128; omega)
    | succ m =>
      have hk1 : k + 1 < (digs x 10).length := by
        have : (digs (y / 128) (m + 1)).length ≠ 0 := by rw [digs.eq_2]; split <;> simp
        omega
      refine ⟨by omega, .inr ⟨by omega, by simpa using hget, hk1, ⟨by omega, by omega, ?_, by omega, by rw [hd]; (have e : 10 - (k + 1) = m + 1 := by omega); rw [e], fun _ => by omega⟩⟩⟩
      rw [show 10 - (k + 1) = m + 1 from by omega]
      rw [Int.pow_succ] at h2
      generalize (128 : Int) ^ (m + 1) = P at *
      omega