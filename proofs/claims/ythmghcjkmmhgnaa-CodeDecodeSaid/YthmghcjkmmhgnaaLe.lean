import Derived.Test.YthmghcjkmmhgnaaLd
namespace Go.Proofs.Ythmghcjkmmhgnaa.K
open Go.RowKit Go.Proofs.YthmghcjkmmhgnaaW.PrintWords Go.Proofs.YthmghcjkmmhgnaaW.PrintLast Go.Proofs.YthmghcjkmmhgnaaW.PrintMore
set_option linter.unusedVariables false
set_option linter.unusedSimpArgs false
set_option maxRecDepth 100000

theorem int_at {k : IntKind} {w : World} {A : Option Addr} {n : Nat} {l : List Int} (h : Kd.C (Kd.int k) w A n l) (i : Nat) (h1 : i < n) : ∃ ad, A = some ad ∧ w.cell? (ad.add i) = some (.int k (l.getD i 0)) := by
  obtain ⟨ad, c, e, _, hK, hc0⟩ := Kd.C_get h 0 (i : Int) (by omega) (by omega)
  refine ⟨ad, e, ?_⟩
  have hk : c = [Value.int k (l.getD i 0)] := hK
  have := hc0 0 _ (by rw [hk]; rfl)
  simpa [Kd.int, Kd.scalar] using this
theorem bytesOf_strOfNums {l : List Int} (h : ∀ c ∈ l, 0 ≤ c ∧ c < 256) : bytesOf (strOfNums l) = l := by
  unfold bytesOf
  rw [strOfNums_data, List.map_map]
  conv => rhs; rw [← List.map_id l]
  refine List.map_congr_left (fun c hc => ?_)
  have := h c hc
  simp only [Function.comp, UInt8.toNat_ofNat', id]
  omega
/-- What a round of the law writes: the form of what it read. -/
def oneW (bs : List Int) (i : Nat) (err : Int) (r : Int) : List Int × Nat × Int :=
  if r = 0 then let x := rrun (pNext bs) 0 i err; (be x.1 1, x.2)
  else if r = 1 then let x := rrun (pNum bs) 0 i err; (digs x.1 10, x.2)
  else if r = 2 then let x := rrun (pNum bs) 0 i err; (digs x.1 10, x.2)
  else if r = 3 then let x := rrun (pWord bs) 0 i err; (be x.1 8, x.2)
  else let x := rrun (pText bs bs.length) [] i err; (digs x.1.length 10 ++ x.1, x.2)
theorem rrun_cases {α : Type} (p : Nat → Except Int (α × Nat)) (z : α) (i : Nat) (err : Int) : (∃ x j, err = 0 ∧ p i = .ok (x, j) ∧ rrun p z i err = (x, j, 0)) ∨ (∃ c, rrun p z i err = (z, i, c) ∧ (err = 0 → p i = .error c) ∧ (err ≠ 0 → c = err)) := by
  unfold rrun
  split
  · rename_i h
    split
    · rename_i x j h1; exact .inl ⟨x, j, h, h1, rfl⟩
    · rename_i c h1; exact .inr ⟨c, rfl, fun _ => h1, fun h2 => absurd h h2⟩
  · rename_i h; exact .inr ⟨err, rfl, fun h1 => absurd h1 h, fun _ => rfl⟩
/-- No reading gives up with 'no error'. -/
theorem pNumGo_err {bs : List Int} : ∀ f {i s : Nat} {x c : Int}, pNumGo bs f i s x = .error c → c ≠ 0
  | 0, _, _, _, _, h => by simp [pNumGo] at h; omega
  | f + 1, i, s, x, c, h => by
    unfold pNumGo at h
    split at h
    · split at h
      · cases h; decide
      · split at h
        · cases h
        · exact pNumGo_err f h
    · cases h; decide
theorem pNext_err {bs : List Int} {i : Nat} {c : Int} (h : pNext bs i = .error c) : c ≠ 0 := by
  unfold pNext at h; split at h <;> cases h; decide
theorem pNum_err {bs : List Int} {i : Nat} {c : Int} (h : pNum bs i = .error c) : c ≠ 0 := pNumGo_err 10 h
theorem pTake_err {bs : List Int} {n i : Nat} {c : Int} (h : pTake bs n i = .error c) : c ≠ 0 := by
  unfold pTake at h; split at h <;> cases h; decide
theorem pCount_err {bs : List Int} {m : Int} {i : Nat} {c : Int} (h : pCount bs m i = .error c) : c ≠ 0 := by
  unfold pCount at h
  split at h
  · rename_i h1; cases h; exact pNum_err h1
  · split at h <;> cases h; decide
theorem pWord_err {bs : List Int} {i : Nat} {c : Int} (h : pWord bs i = .error c) : c ≠ 0 := by
  unfold pWord at h
  split at h
  · rename_i h1; cases h; exact pTake_err h1
  · cases h
theorem pText_err {bs : List Int} {m : Int} {i : Nat} {c : Int} (h : pText bs m i = .error c) : c ≠ 0 := by
  unfold pText at h
  split at h
  · rename_i h1; cases h; exact pCount_err h1
  · exact pTake_err h
theorem pRaw_err {bs : List Int} {n : Int} {i : Nat} {c : Int} (h : pRaw bs n i = .error c) : c ≠ 0 := by
  unfold pRaw at h
  split at h
  · cases h; decide
  · exact pTake_err h
theorem take_on {bs e : List Int} {i j : Nat} (h : bs.drop i = e ++ bs.drop j) : bs.take i ++ e = bs.take j := by
  have h1 : bs = (bs.take i ++ e) ++ bs.drop j := by rw [List.append_assoc, ← h, List.take_append_drop]
  have h2 : bs = bs.take j ++ bs.drop j := (List.take_append_drop j bs).symm
  exact List.append_cancel_right (h1.symm.trans h2)
theorem oneW_len (bs : List Int) (i : Nat) (err r : Int) (hi : i ≤ bs.length) : (oneW bs i err r).1.length ≤ bs.length + 10 := by
  unfold oneW
  have hd := digs_length 10
  split
  · simp [be_length]
  split
  · have := hd (rrun (pNum bs) 0 i err).1; simp only; omega
  split
  · have := hd (rrun (pNum bs) 0 i err).1; simp only; omega
  split
  · simp [be_length]
  · rcases rrun_cases (pText bs bs.length) [] i err with ⟨x, j, _, h1, h2⟩ | ⟨c, h1, _⟩
    · rw [h2]
      have h3 : x.length ≤ bs.length := by
        unfold pText at h1
        split at h1
        · cases h1
        · rename_i h4
          unfold pTake at h1
          split at h1
          · cases h1; simp; omega
          · cases h1
      have := hd x.length
      simp only [List.length_append]; omega
    · rw [h1]
      have := hd ([] : List Int).length
      simp only [List.length_append, List.length_nil]; simp only [List.length_nil] at this; omega
/-- As long as there is no error, what is written is what was read. -/
theorem oneW_ok {bs : List Int} (hb : ∀ c ∈ bs, 0 ≤ c ∧ c < 256) {i : Nat} {err r : Int} (hi : i ≤ bs.length) (h0 : (oneW bs i err r).2.2 = 0) : err = 0 ∧ bs.take i ++ (oneW bs i err r).1 = bs.take (oneW bs i err r).2.1 := by
  have key : ∀ {α : Type} (p : Nat → Except Int (α × Nat)) (z : α) (en : α → List Int), (∀ c, p i = .error c → c ≠ 0) → (∀ x j, p i = .ok (x, j) → bs.drop i = en x ++ bs.drop j) → (rrun p z i err).2.2 = 0 → err = 0 ∧ bs.take i ++ en (rrun p z i err).1 = bs.take (rrun p z i err).2.1 := by
    intro α p z en he ho h
    rcases rrun_cases p z i err with ⟨x, j, h1, h2, h3⟩ | ⟨c, h1, h2, h3⟩
    · rw [h3]; exact ⟨h1, take_on (ho x j h2)⟩
    · rw [h1] at h
      by_cases h4 : err = 0
      · exact absurd h (he c (h2 h4))
      · exact absurd (h3 h4 ▸ h) h4
  unfold oneW at h0 ⊢
  split at h0
  · rename_i h; rw [if_pos h]; exact key (pNext bs) 0 (fun x => be x 1) (fun c => pNext_err) (fun x j h => (pNext_form hb h).2) h0
  rename_i g0; rw [if_neg g0]
  split at h0
  · rename_i h; rw [if_pos h]; exact key (pNum bs) 0 (fun x => digs x 10) (fun c => pNum_err) (fun x j h => (pNum_form hb h).2.2) h0
  rename_i g1; rw [if_neg g1]
  split at h0
  · rename_i h; rw [if_pos h]; exact key (pNum bs) 0 (fun x => digs x 10) (fun c => pNum_err) (fun x j h => (pNum_form hb h).2.2) h0
  rename_i g2; rw [if_neg g2]
  split at h0
  · rename_i h; rw [if_pos h]; exact key (pWord bs) 0 (fun x => be x 8) (fun c => pWord_err) (fun x j h => (pWord_form hb hi h).2) h0
  rename_i g3; rw [if_neg g3]
  exact key (pText bs bs.length) [] (fun x => digs x.length 10 ++ x) (fun c => pText_err) (fun x j h => by rw [(pText_form hb hi h).2.1]) h0
theorem rr_num {bs : List Int} (hb : ∀ c ∈ bs, 0 ≤ c ∧ c < 256) (i : Nat) (err : Int) : 0 ≤ (rrun (pNum bs) 0 i err).1 ∧ (rrun (pNum bs) 0 i err).1 ≤ 18446744073709551615 := by
  rcases rrun_cases (pNum bs) 0 i err with ⟨x, j, _, h2, h3⟩ | ⟨c, h1, _⟩
  · rw [h3]; exact pNum_range hb h2
  · rw [h1]; simp
theorem rr_next {bs : List Int} (hb : ∀ c ∈ bs, 0 ≤ c ∧ c < 256) (i : Nat) (err : Int) : 0 ≤ (rrun (pNext bs) 0 i err).1 ∧ (rrun (pNext bs) 0 i err).1 < 256 := by
  rcases rrun_cases (pNext bs) 0 i err with ⟨x, j, _, h2, h3⟩ | ⟨c, h1, _⟩
  · rw [h3]
    unfold pNext at h2
    split at h2
    · rename_i hi
      simp only [Except.ok.injEq, Prod.mk.injEq] at h2
      rw [← h2.1, List.getD_eq_getElem?_getD, List.getElem?_eq_getElem hi]
      exact hb _ (List.getElem_mem hi)
    · cases h2
  · rw [h1]; simp
theorem rr_word {bs : List Int} (hb : ∀ c ∈ bs, 0 ≤ c ∧ c < 256) (i : Nat) (err : Int) : 0 ≤ (rrun (pWord bs) 0 i err).1 ∧ (rrun (pWord bs) 0 i err).1 ≤ 18446744073709551615 := by
  rcases rrun_cases (pWord bs) 0 i err with ⟨x, j, _, h2, h3⟩ | ⟨c, h1, _⟩
  · rw [h3]
    simp only [pWord, pTake] at h2
    split at h2
    · cases h2
    · rename_i l j' h4
      split at h4
      · cases h4
        cases h2
        have := unbe_range ((bs.drop i).take 8) (fun c hc => hb c (List.mem_of_mem_drop (List.mem_of_mem_take hc)))
        have hl : ((bs.drop i).take 8).length ≤ 8 := by simp; omega
        have : (256 : Int) ^ ((bs.drop i).take 8).length ≤ 256 ^ 8 := by exact_mod_cast Nat.pow_le_pow_right (by decide) hl
        omega
      · cases h4
  · rw [h1]; simp
theorem rr_text {bs : List Int} (hb : ∀ c ∈ bs, 0 ≤ c ∧ c < 256) (m : Int) (i : Nat) (err : Int) : (rrun (pText bs m) [] i err).1.length ≤ bs.length ∧ ∀ c ∈ (rrun (pText bs m) [] i err).1, 0 ≤ c ∧ c < 256 := by
  rcases rrun_cases (pText bs m) [] i err with ⟨x, j, _, h2, h3⟩ | ⟨c, h1, _⟩
  · rw [h3]
    unfold pText at h2
    split at h2
    · cases h2
    · unfold pTake at h2
      split at h2
      · cases h2
        exact ⟨by simp; omega, fun c hc => hb c (List.mem_of_mem_drop (List.mem_of_mem_take hc))⟩
      · cases h2
  · rw [h1]; simp
theorem rr_le {α : Type} {bs : List Int} {p : Nat → Except Int (α × Nat)} {z : α} {i : Nat} {err : Int} (hi : i ≤ bs.length) (h : ∀ x j, p i = .ok (x, j) → j ≤ bs.length) : (rrun p z i err).2.1 ≤ bs.length := by
  rcases rrun_cases p z i err with ⟨x, j, _, h2, h3⟩ | ⟨c, h1, _⟩
  · rw [h3]; exact h x j h2
  · rw [h1]; exact hi

end Go.Proofs.Ythmghcjkmmhgnaa.K
