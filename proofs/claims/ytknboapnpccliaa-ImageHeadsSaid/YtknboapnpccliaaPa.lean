/- Plain: what a reader of bytes does, without Go and memory. -/
namespace Go.Proofs.Ytknboapnpccliaa.K

/-- The next byte, and the place behind it. -/
def pNext (bs : List Int) (i : Nat) : Except Int (Int × Nat) := if i < bs.length then .ok (bs.getD i 0, i + 1) else .error 2
/-- The form of a number, f digits at most; s: the shift. -/
def pNumGo (bs : List Int) : Nat → Nat → Nat → Int → Except Int (Int × Nat)
  | 0, _, _, _ => .error 4
  | f + 1, i, s, x =>
    if i < bs.length then
      if (bs.getD i 0 = 0 ∧ 0 < s) ∨ (s = 63 ∧ 1 < bs.getD i 0) then .error 4
      else if bs.getD i 0 < 128 then .ok (x + bs.getD i 0 % 128 * 2 ^ s, i + 1)
      else pNumGo bs f (i + 1) (s + 7) (x + bs.getD i 0 % 128 * 2 ^ s)
    else .error 2
def pNum (bs : List Int) (i : Nat) : Except Int (Int × Nat) := pNumGo bs 10 i 0 0
def pTake (bs : List Int) (n : Nat) (i : Nat) : Except Int (List Int × Nat) := if n ≤ bs.length - i then .ok ((bs.drop i).take n, i + n) else .error 2
def pCount (bs : List Int) (most : Int) (i : Nat) : Except Int (Int × Nat) :=
  match pNum bs i with
  | .error c => .error c
  | .ok (x, j) => if x > max most 0 then .error 5 else .ok (x, j)
def pRaw (bs : List Int) (n : Int) (i : Nat) : Except Int (List Int × Nat) := if n < 0 then .error 1 else pTake bs n.toNat i
def pText (bs : List Int) (most : Int) (i : Nat) : Except Int (List Int × Nat) :=
  match pCount bs most i with
  | .error c => .error c
  | .ok (x, j) => pTake bs x.toNat j
/-- Eight bytes as a number, the highest first. -/
def unbe (l : List Int) : Int := l.foldl (fun x c => x * 256 + c) 0
def pWord (bs : List Int) (i : Nat) : Except Int (Int × Nat) :=
  match pTake bs 8 i with
  | .error c => .error c
  | .ok (l, j) => .ok (unbe l, j)
/-- One call's reading: behind an error nothing; where it gives up, the place stays. -/
def rrun {α : Type} (p : Nat → Except Int (α × Nat)) (z : α) (i : Nat) (err : Int) : α × Nat × Int :=
  if err = 0 then
    match p i with
    | .ok (x, j) => (x, j, 0)
    | .error c => (z, i, c)
  else (z, i, err)

def rEnd (bs : List Int) (i : Nat) (err : Int) : Int := if err = 0 ∧ i < bs.length then 3 else err
/-- The number with a sign that a number without one stands for. -/
def unfoldI (x : Int) : Int := if x % 2 = 0 then x / 2 else -(x / 2) - 1

theorem pNext_le {bs : List Int} {i j : Nat} {x : Int} (h : pNext bs i = .ok (x, j)) : j ≤ bs.length := by
  unfold pNext at h
  split at h
  · simp only [Except.ok.injEq, Prod.mk.injEq] at h; omega
  · cases h
theorem pNumGo_le {bs : List Int} : ∀ f {i s : Nat} {x y : Int} {j : Nat}, pNumGo bs f i s x = .ok (y, j) → j ≤ bs.length
  | 0, _, _, _, _, _, h => by simp [pNumGo] at h
  | f + 1, i, s, x, y, j, h => by
    unfold pNumGo at h
    split at h
    · split at h
      · cases h
      · split at h
        · simp only [Except.ok.injEq, Prod.mk.injEq] at h; omega
        · exact pNumGo_le f h
    · cases h
theorem pNum_le {bs : List Int} {i j : Nat} {x : Int} (h : pNum bs i = .ok (x, j)) : j ≤ bs.length := pNumGo_le 10 h
theorem pTake_le {bs : List Int} {n i j : Nat} {l : List Int} (hi : i ≤ bs.length) (h : pTake bs n i = .ok (l, j)) : j ≤ bs.length ∧ l.length = n := by
  unfold pTake at h
  split at h
  · simp only [Except.ok.injEq, Prod.mk.injEq] at h
    obtain ⟨rfl, rfl⟩ := h
    simp
    omega
  · cases h
theorem pCount_num {bs : List Int} {m : Int} {i j : Nat} {x : Int} (h : pCount bs m i = .ok (x, j)) : pNum bs i = .ok (x, j) ∧ x ≤ max m 0 := by
  unfold pCount at h
  split at h
  · cases h
  · split at h
    · cases h
    · rename_i h1 h2
      simp only [Except.ok.injEq, Prod.mk.injEq] at h
      obtain ⟨rfl, rfl⟩ := h
      exact ⟨h1, by omega⟩
/-- A number that is read fits 64 bits. -/
theorem pNumGo_range {bs : List Int} (hb : ∀ c ∈ bs, 0 ≤ c ∧ c < 256) : ∀ f {i s : Nat} {x y : Int} {j : Nat}, s + 7 * f = 70 → 0 ≤ x → x < 2 ^ s → pNumGo bs f i s x = .ok (y, j) → 0 ≤ y ∧ y ≤ 18446744073709551615
  | 0, _, _, _, _, _, _, _, _, h => by simp [pNumGo] at h
  | f + 1, i, s, x, y, j, hs, h0, h1, h => by
    unfold pNumGo at h
    split at h
    · rename_i hi
      have hc : 0 ≤ bs.getD i 0 ∧ bs.getD i 0 < 256 := by
        rw [List.getD_eq_getElem?_getD, List.getElem?_eq_getElem hi]
        exact hb _ (List.getElem_mem hi)
      generalize bs.getD i 0 = c at h hc
      have hpos : (0 : Int) < 2 ^ s := Int.pow_pos (by decide)
      split at h
      · cases h
      · rename_i hn
        have hm : 0 ≤ c % 128 * 2 ^ s := Int.mul_nonneg (by omega) (by omega)
        split at h
        · rename_i hlt
          simp only [Except.ok.injEq, Prod.mk.injEq] at h
          obtain ⟨rfl, rfl⟩ := h
          refine ⟨by omega, ?_⟩
          rcases Nat.lt_or_ge s 63 with hs' | hs'
          · have h2 : c % 128 * 2 ^ s ≤ 127 * 2 ^ s := Int.mul_le_mul_of_nonneg_right (by omega) (by omega)
            have h3 : (2 : Int) ^ s ≤ 2 ^ 56 := by
              exact_mod_cast Nat.pow_le_pow_right (by decide) (show s ≤ 56 by omega)
            omega
          · obtain rfl : s = 63 := by omega
            have h2 : c % 128 * 2 ^ 63 ≤ 1 * 2 ^ 63 := Int.mul_le_mul_of_nonneg_right (by omega) (by omega)
            omega
        · refine pNumGo_range hb f (by omega) (by omega) ?_ h
          have h2 : c % 128 * 2 ^ s ≤ 127 * 2 ^ s := Int.mul_le_mul_of_nonneg_right (by omega) (by omega)
          have h3 : (2 : Int) ^ (s + 7) = 128 * 2 ^ s := by rw [Int.pow_add]; omega
          omega
    · cases h
theorem pNum_range {bs : List Int} (hb : ∀ c ∈ bs, 0 ≤ c ∧ c < 256) {i j : Nat} {x : Int} (h : pNum bs i = .ok (x, j)) : 0 ≤ x ∧ x ≤ 18446744073709551615 :=
  pNumGo_range hb 10 (by omega) (by omega) (by omega) h
end Go.Proofs.Ytknboapnpccliaa.K
