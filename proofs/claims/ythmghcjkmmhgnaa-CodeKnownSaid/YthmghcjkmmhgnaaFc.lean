import Derived.Test.YthmghcjkmmhgnaaFa
namespace Go.Proofs.Ythmghcjkmmhgnaa.K
open Go.RowKit Go.Proofs.YthmghcjkmmhgnaaW.PrintWords Go.Proofs.YthmghcjkmmhgnaaW.PrintLast Go.Proofs.YthmghcjkmmhgnaaW.PrintMore
set_option linter.unusedVariables false
set_option linter.unusedSimpArgs false
set_option maxRecDepth 100000

theorem flatL_cons (x : Instr) (l : List Instr) : flatL (x :: l) = putP x.op x.a ++ flatL l := by simp [flatL]
theorem okL_cons (x : Instr) (l : List Instr) : okL (x :: l) = (efP x.op x.a && okL l) := by simp [okL]
theorem right_small {kd a : Int} (h0 : 0 ≤ kd) (h8 : kd ≤ 8) (h1 : kd ≠ 1) (h : rightP kd a = true) : 0 ≤ a ∧ a ≤ 2000 := by
  unfold rightP at h
  rw [if_neg h1] at h
  split at h
  · simp at h; omega
  split at h
  · simp at h; omega
  · simp at h
    unfold limP at h
    split at h <;> (try split at h) <;> (try split at h) <;> (try split at h) <;> (try split at h) <;> omega
/-- A whole form is read back. -/
theorem next_whole {bs rest : List Int} {i : Nat} {op a : Int} (hd : bs.drop i = putP op a ++ rest) (he : efP op a = true) (a0 : -9223372036854775808 ≤ a) (a1 : a ≤ 9223372036854775807) : nextP bs i = .ok (⟨op, a⟩, i + (putP op a).length) := by
  obtain ⟨b0, b1, _⟩ := rowP_bounds op
  have he' := he
  unfold efP at he'
  rw [Bool.and_eq_true] at he'
  obtain ⟨ho, hr⟩ := he'
  have hi : i < bs.length := by
    rcases Nat.lt_or_ge i bs.length with h | h
    · exact h
    · rw [List.drop_eq_nil_of_le h] at hd; simp [putP] at hd
  have hput : putP op a = op :: (putP op a).tail := by simp [putP]
  rw [drop_at hi, hput, List.cons_append] at hd
  injection hd with h1 h2
  unfold nextP
  rw [h1, if_pos ho]
  by_cases k0 : (rowP op).kind = 0
  · rw [if_pos k0]
    obtain ⟨_, _, g⟩ := ef_facts he
    have : (putP op a).length = 1 := by unfold putP; rw [k0]; simp
    rw [g k0, ← g k0, this, g k0]
  · rw [if_neg k0]
    by_cases k1 : (rowP op).kind = 1
    · have ht : (putP op a).tail = digs (fold a) 10 := by unfold putP; rw [if_pos k1]; rfl
      obtain ⟨f0, f1⟩ := fold_range a a0 a1
      have hp := pNum_digs f0 f1 (by rw [h2, ht])
      rw [hp]
      have hx : aOf (rowP op).kind (fold a) = a := by unfold aOf; rw [if_pos k1, unfold_fold]
      have hl : (putP op a).length = 1 + (digs (fold a) 10).length := by rw [hput, List.length_cons, ht]; omega
      simp only [hx, hr, if_true, hl]
      congr 2
      omega
    · have ht : (putP op a).tail = digs a 10 := by unfold putP; rw [if_neg k1, if_neg k0]; rfl
      obtain ⟨s0, s1⟩ := right_small b0 b1 k1 hr
      have hp := pNum_digs s0 (by omega) (by rw [h2, ht])
      rw [hp]
      have hx : aOf (rowP op).kind a = a := by unfold aOf; rw [if_neg k1]; omega
      have hl : (putP op a).length = 1 + (digs a 10).length := by rw [hput, List.length_cons, ht]; omega
      simp only [hx, hr, if_true, hl]
      congr 2
      omega
theorem putP_pos (op a : Int) : 0 < (putP op a).length := by simp [putP]
theorem dec_fwd {bs : List Int} : ∀ (l : List Instr) (rest : List Int) (i f : Nat) (acc : List Instr), bs.drop i = flatL l ++ rest → okL l = true → (∀ x ∈ l, -9223372036854775808 ≤ x.a ∧ x.a ≤ 9223372036854775807) → acc.length + l.length ≤ 2000 → bs.length < f + i → i ≤ bs.length →
    ∃ f', bs.length < f' + (i + (flatL l).length) ∧ i + (flatL l).length ≤ bs.length ∧ bs.drop (i + (flatL l).length) = rest ∧ decGo bs f i acc = decGo bs f' (i + (flatL l).length) (acc ++ l)
  | [], rest, i, f, acc, hd, _, _, _, hf, hi => ⟨f, by simpa [flatL] using hf, by simpa [flatL] using hi, by simpa [flatL] using hd, by simp [flatL]⟩
  | x :: l, rest, i, f, acc, hd, ho, hr, hl, hf, hi => by
    rw [okL_cons, Bool.and_eq_true] at ho
    obtain ⟨hx, ho⟩ := ho
    rw [flatL_cons, List.append_assoc] at hd
    obtain ⟨r0, r1⟩ := hr x List.mem_cons_self
    have hn := next_whole hd hx r0 r1
    have hlen := congrArg List.length hd
    have hp := putP_pos x.op x.a
    simp only [List.length_drop, List.length_append] at hlen
    obtain ⟨f, rfl⟩ : ∃ f', f = f' + 1 := ⟨f - 1, by omega⟩
    have hd2 : bs.drop (i + (putP x.op x.a).length) = flatL l ++ rest := by
      rw [← List.drop_drop, hd, List.drop_left]
    simp only [List.length_cons] at hl
    obtain ⟨f', g1, g2, g3, g4⟩ := dec_fwd l rest (i + (putP x.op x.a).length) f (acc ++ [x]) hd2 ho (fun y hy => hr y (List.mem_cons_of_mem _ hy)) (by rw [List.length_append]; simp; omega) (by omega) (by omega)
    have e : i + (flatL (x :: l)).length = i + (putP x.op x.a).length + (flatL l).length := by rw [flatL_cons, List.length_append]; omega
    rw [e]
    refine ⟨f', g1, g2, g3, ?_⟩
    rw [decGo, if_pos (by omega), if_neg (by omega), hn]
    simp only
    rw [g4, List.append_assoc]
    rfl
theorem decGo_end {bs : List Int} {f i : Nat} {acc : List Instr} (h : bs.length ≤ i) : decGo bs f i acc = (acc, 0) := by
  cases f with
  | zero => rfl
  | succ f => rw [decGo, if_neg (by omega)]
/-- What is written is read back. -/
theorem dec_back {l : List Instr} (ho : okL l = true) (hr : ∀ x ∈ l, -9223372036854775808 ≤ x.a ∧ x.a ≤ 9223372036854775807) (hl : l.length ≤ 2000) : decP (flatL l) = (l, 0) := by
  obtain ⟨f', g1, g2, g3, g4⟩ := dec_fwd (bs := flatL l) l [] 0 ((flatL l).length + 1) [] (by simp) ho hr (by simpa using hl) (by omega) (by omega)
  unfold decP
  rw [g4, decGo_end (by omega)]
  simp
theorem nextP_form {bs : List Int} (hb : ∀ c ∈ bs, 0 ≤ c ∧ c < 256) {i j : Nat} {x : Instr} (hi : i < bs.length) (h : nextP bs i = .ok (x, j)) : i < j ∧ j ≤ bs.length ∧ bs.drop i = putP x.op x.a ++ bs.drop j ∧ efP x.op x.a = true ∧ -9223372036854775808 ≤ x.a ∧ x.a ≤ 9223372036854775807 := by
  unfold nextP at h
  generalize hop : bs.getD i 0 = op at h
  obtain ⟨b0, b1, _⟩ := rowP_bounds op
  split at h
  · rename_i ho
    split at h
    · rename_i k0
      simp only [Except.ok.injEq, Prod.mk.injEq] at h
      obtain ⟨rfl, rfl⟩ := h
      refine ⟨by omega, by omega, ?_, ?_, by simp, by simp⟩
      · have : putP op 0 = [op] := by unfold putP; rw [k0]; simp
        rw [drop_at hi, hop, this]; rfl
      · unfold efP; rw [ho, k0]; rfl
    · rename_i k0
      split at h
      · cases h
      · rename_i x' j' hp
        split at h
        · rename_i hr
          simp only [Except.ok.injEq, Prod.mk.injEq] at h
          obtain ⟨rfl, rfl⟩ := h
          obtain ⟨f1, f2, f3⟩ := pNum_form hb hp
          obtain ⟨y0, y1⟩ := pNum_range hb hp
          obtain ⟨v0, v1⟩ := aOf_range (kind := (rowP op).kind) y0 y1
          refine ⟨by omega, f2, ?_, ?_, v0, v1⟩
          · have : putP op (aOf (rowP op).kind x') = op :: digs x' 10 := by
              unfold putP
              by_cases k1 : (rowP op).kind = 1
              · rw [if_pos k1]; unfold aOf; rw [if_pos k1, fold_unfold y0]
              · rw [if_neg k1, if_neg k0]
                have := right_small b0 b1 k1 hr
                have e : aOf (rowP op).kind x' = x' := by unfold aOf at this ⊢; rw [if_neg k1] at this ⊢; omega
                rw [e]
            simp only [this]
            rw [drop_at hi, hop, f3]; rfl
          · simp only [efP]; rw [ho, hr]; rfl
        · cases h
  · cases h
theorem nextP_err {bs : List Int} {i : Nat} {c : Int} (h : nextP bs i = .error c) : c ≠ 0 := by
  unfold nextP at h
  split at h
  · split at h
    · cases h
    · split at h
      · rename_i hp
        cases h
        exact pNum_err hp
      · split at h
        · cases h
        · cases h; decide
  · cases h; decide
theorem flatL_snoc (l : List Instr) (x : Instr) : flatL (l ++ [x]) = flatL l ++ putP x.op x.a := by simp [flatL]
theorem okL_snoc (l : List Instr) (x : Instr) : okL (l ++ [x]) = (okL l && efP x.op x.a) := by simp [okL]
theorem dec_bwd {bs : List Int} (hb : ∀ c ∈ bs, 0 ≤ c ∧ c < 256) : ∀ (f i : Nat) (acc : List Instr), bs.length < f + i → i ≤ bs.length → flatL acc = bs.take i → okL acc = true → acc.length ≤ 2000 → (∀ x ∈ acc, -9223372036854775808 ≤ x.a ∧ x.a ≤ 9223372036854775807) →
    ((decGo bs f i acc).2 = 0 → flatL (decGo bs f i acc).1 = bs ∧ okL (decGo bs f i acc).1 = true ∧ (decGo bs f i acc).1.length ≤ 2000 ∧ ∀ x ∈ (decGo bs f i acc).1, -9223372036854775808 ≤ x.a ∧ x.a ≤ 9223372036854775807) ∧ ((decGo bs f i acc).2 ≠ 0 → (decGo bs f i acc).1 = [])
  | 0, i, acc, hf, hi, _, _, _, _ => absurd hf (by omega)
  | f + 1, i, acc, hf, hi, hfl, ho, hl, hr => by
    rw [decGo]
    split
    · rename_i hlt
      split
      · exact ⟨fun h => absurd h (by decide), fun _ => rfl⟩
      · rename_i hne
        split
        · rename_i c hc
          exact ⟨fun h => absurd h (nextP_err hc), fun _ => rfl⟩
        · rename_i x j hx
          obtain ⟨g1, g2, g3, g4, g5, g6⟩ := nextP_form hb hlt hx
          refine dec_bwd hb f j (acc ++ [x]) (by omega) g2 ?_ (by rw [okL_snoc, ho, g4]; rfl) (by simp; omega) (fun y hy => ?_)
          · rw [flatL_snoc, hfl]; exact take_on g3
          · rcases List.mem_append.1 hy with h | h
            · exact hr y h
            · simp at h; subst h; exact ⟨g5, g6⟩
    · have e : i = bs.length := by omega
      subst e
      rw [List.take_length] at hfl
      exact ⟨fun _ => ⟨hfl, ho, hl, hr⟩, fun h => absurd rfl h⟩
theorem dec_form {bs : List Int} (hb : ∀ c ∈ bs, 0 ≤ c ∧ c < 256) : ((decP bs).2 = 0 → flatL (decP bs).1 = bs ∧ okL (decP bs).1 = true ∧ (decP bs).1.length ≤ 2000 ∧ ∀ x ∈ (decP bs).1, -9223372036854775808 ≤ x.a ∧ x.a ≤ 9223372036854775807) ∧ ((decP bs).2 ≠ 0 → (decP bs).1 = []) :=
  dec_bwd hb (bs.length + 1) 0 [] (by omega) (by omega) (by simp [flatL]) rfl (by simp) (fun x hx => by cases hx)
theorem digs_byte : ∀ (k : Nat) (x : Int), 0 ≤ x → ∀ c ∈ digs x k, 0 ≤ c ∧ c < 256
  | 0, _, _, c, hc => by cases hc
  | k + 1, x, h0, c, hc => by
    unfold digs at hc
    split at hc
    · simp at hc; omega
    · rcases List.mem_cons.1 hc with h | h
      · omega
      · exact digs_byte k (x / 128) (by omega) c h
theorem flatL_byte {l : List Instr} (ho : okL l = true) : ∀ c ∈ flatL l, 0 ≤ c ∧ c < 256 := by
  intro c hc
  unfold flatL at hc
  obtain ⟨x, hx, hc⟩ := List.mem_flatMap.1 hc
  have he : efP x.op x.a = true := List.all_eq_true.1 ho x hx
  obtain ⟨g1, g2, g3⟩ := ef_facts he
  unfold putP at hc
  rcases List.mem_cons.1 hc with h | h
  · omega
  · split at h
    · exact digs_byte 10 _ (by unfold fold; split <;> omega) c h
    · rename_i k1
      split at h
      · cases h
      · exact digs_byte 10 _ (g2 k1) c h

end Go.Proofs.Ythmghcjkmmhgnaa.K
