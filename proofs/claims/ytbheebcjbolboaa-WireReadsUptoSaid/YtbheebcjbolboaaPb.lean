/- Plain: what is written is read, what is read was written, and a beginning is not read. -/
import Derived.Test.YtbheebcjbolboaaPa
import Derived.Test.YtbheebcjbolboaaWa
namespace Go.Proofs.Ytbheebcjbolboaa.K
theorem drop_cons {bs : List Int} {i : Nat} {e : Int} {t : List Int} (h : bs.drop i = e :: t) : i < bs.length ∧ bs.getD i 0 = e ∧ bs.drop (i + 1) = t := by
  have hl : i < bs.length := by
    rcases Nat.lt_or_ge i bs.length with h1 | h1
    · exact h1
    · rw [List.drop_eq_nil_of_le h1] at h; cases h
  rw [List.drop_eq_getElem_cons hl] at h
  injection h with h1 h2
  exact ⟨hl, by rw [List.getD_eq_getElem?_getD, List.getElem?_eq_getElem hl]; exact h1, h2⟩
theorem drop_nil {bs : List Int} {i : Nat} (h : bs.drop i = []) : ¬ i < bs.length := by
  have := List.drop_eq_nil_iff.1 h
  omega
theorem drop_at {bs : List Int} {i : Nat} (h : i < bs.length) : bs.drop i = bs.getD i 0 :: bs.drop (i + 1) := by
  rw [List.drop_eq_getElem_cons h, List.getD_eq_getElem?_getD, List.getElem?_eq_getElem h]; rfl
theorem num_step {bs : List Int} {f i s : Nat} {x e : Int} (hi : i < bs.length) (he : bs.getD i 0 = e) (h1 : ¬ ((e = 0 ∧ 0 < s) ∨ (s = 63 ∧ 1 < e))) :
    pNumGo bs (f + 1) i s x = if e < 128 then .ok (x + e % 128 * 2 ^ s, i + 1) else pNumGo bs f (i + 1) (s + 7) (x + e % 128 * 2 ^ s) := by
  rw [pNumGo, if_pos hi, he, if_neg h1]
theorem pow128 (y : Int) (s : Nat) : y % 128 * 2 ^ s + y / 128 * 2 ^ (s + 7) = y * 2 ^ s := by
  rw [Int.pow_add, show (2 : Int) ^ 7 = 128 from rfl, Int.mul_comm (2 ^ s) 128, ← Int.mul_assoc, ← Int.add_mul]
  congr 1
  omega
/-- The sides that the form of a number keeps at each digit. -/
theorem num_side {f s : Nat} {x y : Int} (hs : s + 7 * (f + 1) = 70) (h0 : 0 ≤ y) (hx : 0 ≤ x) (hm : x + y * 2 ^ s ≤ 18446744073709551615) (hp : 0 < s → 0 < y) :
    (y < 128 → ¬ ((y = 0 ∧ 0 < s) ∨ (s = 63 ∧ 1 < y))) ∧ (128 ≤ y → ¬ ((y % 128 + 128 = 0 ∧ 0 < s) ∨ (s = 63 ∧ 1 < y % 128 + 128)) ∧ s ≠ 63 ∧ (y % 128 + 128) % 128 = y % 128 ∧ ¬ y % 128 + 128 < 128) := by
  have h63 : s = 63 → y ≤ 1 := by
    rintro rfl
    rcases Int.lt_or_le 1 y with h | h
    · have : (2 : Int) * 2 ^ 63 ≤ y * 2 ^ 63 := Int.mul_le_mul_of_nonneg_right (by omega) (by decide)
      omega
    · exact h
  refine ⟨fun h => ?_, fun h => ⟨?_, ?_, by omega, by omega⟩⟩
  · rintro (⟨h1, h2⟩ | ⟨h1, h2⟩)
    · have := hp h2; omega
    · have := h63 h1; omega
  · rintro (⟨h1, h2⟩ | ⟨h1, h2⟩)
    · omega
    · have := h63 h1; omega
  · intro h1; have := h63 h1; omega
theorem num_whole {bs rest : List Int} : ∀ (f i s : Nat) (x y : Int), s + 7 * f = 70 → bs.drop i = digs y f ++ rest → 0 ≤ y → y < 128 ^ f → 0 ≤ x → x + y * 2 ^ s ≤ 18446744073709551615 → (0 < s → 0 < y) → 0 < f →
    pNumGo bs f i s x = .ok (x + y * 2 ^ s, i + (digs y f).length)
  | 0, _, _, _, _, _, _, _, _, _, _, _, h => absurd h (by decide)
  | f + 1, i, s, x, y, hs, hd, h0, hf, hx, hm, hp, _ => by
    obtain ⟨s1, s2⟩ := num_side hs h0 hx hm hp
    rw [digs.eq_2] at hd ⊢
    by_cases hy : y < 128
    · rw [if_pos hy] at hd ⊢
      obtain ⟨hi, he, _⟩ := drop_cons hd
      rw [num_step hi he (s1 hy), if_pos hy]
      have : y % 128 = y := by omega
      rw [this]; rfl
    · rw [if_neg hy] at hd ⊢
      obtain ⟨s3, s4, s5, s6⟩ := s2 (by omega)
      obtain ⟨hi, he, ht⟩ := drop_cons hd
      have hpos : (0 : Int) < 2 ^ s := Int.pow_pos (by decide)
      have h8 := pow128 y s
      have hf1 : 0 < f := by
        rcases Nat.eq_zero_or_pos f with rfl | h
        · exact absurd (by omega) s4
        · exact h
      have hnn : 0 ≤ y % 128 * 2 ^ s := Int.mul_nonneg (by omega) (by omega)
      rw [num_step hi he s3, if_neg s6, s5, num_whole f (i + 1) (s + 7) _ (y / 128) (by omega) ht (by omega) (by rw [Int.pow_succ] at hf; generalize (128 : Int) ^ f = P at *; omega) (by omega) (by omega) (fun _ => by omega) hf1]
      simp only [List.length_cons]
      congr 2
      · omega
      · omega
theorem num_cut {bs : List Int} : ∀ (f i s m : Nat) (x y : Int), s + 7 * f = 70 → bs.drop i = (digs y f).take m → m < (digs y f).length → 0 ≤ y → y < 128 ^ f → 0 ≤ x → x + y * 2 ^ s ≤ 18446744073709551615 → (0 < s → 0 < y) → 0 < f →
    pNumGo bs f i s x = .error 2
  | 0, _, _, _, _, _, _, _, _, _, _, _, _, _, h => absurd h (by decide)
  | f + 1, i, s, 0, x, y, hs, hd, hlen, h0, hf, hx, hm, hp, _ => by
    rw [pNumGo, if_neg (drop_nil (by simpa using hd))]
  | f + 1, i, s, m + 1, x, y, hs, hd, hlen, h0, hf, hx, hm, hp, _ => by
    obtain ⟨s1, s2⟩ := num_side hs h0 hx hm hp
    rw [digs.eq_2] at hd hlen
    by_cases hy : y < 128
    · rw [if_pos hy] at hlen
      simp at hlen
    · rw [if_neg hy] at hd hlen
      obtain ⟨s3, s4, s5, s6⟩ := s2 (by omega)
      rw [List.take_succ_cons] at hd
      obtain ⟨hi, he, ht⟩ := drop_cons hd
      have hpos : (0 : Int) < 2 ^ s := Int.pow_pos (by decide)
      have h8 := pow128 y s
      have hf1 : 0 < f := by
        rcases Nat.eq_zero_or_pos f with rfl | h
        · exact absurd (by omega) s4
        · exact h
      have hnn : 0 ≤ y % 128 * 2 ^ s := Int.mul_nonneg (by omega) (by omega)
      rw [num_step hi he s3, if_neg s6, s5]
      exact num_cut f (i + 1) (s + 7) m _ (y / 128) (by omega) ht (by simpa using hlen) (by omega) (by rw [Int.pow_succ] at hf; generalize (128 : Int) ^ f = P at *; omega) (by omega) (by omega) (fun _ => by omega) hf1
theorem num_form {bs : List Int} (hb : ∀ c ∈ bs, 0 ≤ c ∧ c < 256) : ∀ (f i s : Nat) (x y : Int) (j : Nat), s + 7 * f = 70 → pNumGo bs f i s x = .ok (y, j) →
    ∃ z, y = x + z * 2 ^ s ∧ 0 ≤ z ∧ (0 < s → 0 < z) ∧ i < j ∧ j ≤ bs.length ∧ bs.drop i = digs z f ++ bs.drop j
  | 0, _, _, _, _, _, _, h => by simp [pNumGo] at h
  | f + 1, i, s, x, y, j, hs, h => by
    unfold pNumGo at h
    split at h
    · rename_i hi
      have hc : 0 ≤ bs.getD i 0 ∧ bs.getD i 0 < 256 := by
        rw [List.getD_eq_getElem?_getD, List.getElem?_eq_getElem hi]
        exact hb _ (List.getElem_mem hi)
      have hd := drop_at hi
      generalize bs.getD i 0 = c at h hc hd
      split at h
      · cases h
      · rename_i hn
        split at h
        · rename_i hlt
          simp only [Except.ok.injEq, Prod.mk.injEq] at h
          obtain ⟨rfl, rfl⟩ := h
          have e : c % 128 = c := by omega
          exact ⟨c, by rw [e], hc.1, fun h => by omega, by omega, by omega, by rw [hd, digs.eq_2, if_pos hlt]; rfl⟩
        · obtain ⟨z, h1, h2, h3, h4, h5, h6⟩ := num_form hb f (i + 1) (s + 7) _ y j (by omega) h
          have hz := h3 (by omega)
          have h8 := pow128 (c % 128 + 128 * z) s
          have e1 : (c % 128 + 128 * z) % 128 = c % 128 := by omega
          have e2 : (c % 128 + 128 * z) / 128 = z := by omega
          rw [e1, e2] at h8
          refine ⟨c % 128 + 128 * z, by omega, by omega, fun _ => by omega, by omega, h5, ?_⟩
          rw [hd, digs.eq_2, if_neg (by omega), e1, e2, h6]
          have : c % 128 + 128 = c := by omega
          rw [this]; rfl
    · cases h
/-- The form of a number is read as this number. -/
theorem pNum_digs {bs rest : List Int} {i : Nat} {y : Int} (h0 : 0 ≤ y) (h1 : y ≤ 18446744073709551615) (hd : bs.drop i = digs y 10 ++ rest) : pNum bs i = .ok (y, i + (digs y 10).length) := by
  have := num_whole 10 i 0 0 y (by omega) hd h0 (by show y < 1180591620717411303424; omega) (by omega) (by simpa using h1) (fun h => absurd h (by decide)) (by decide)
  unfold pNum
  simpa using this
theorem pNum_cut {bs : List Int} {i m : Nat} {y : Int} (h0 : 0 ≤ y) (h1 : y ≤ 18446744073709551615) (hd : bs.drop i = (digs y 10).take m) (hm : m < (digs y 10).length) : pNum bs i = .error 2 :=
  num_cut 10 i 0 m 0 y (by omega) hd hm h0 (by show y < 1180591620717411303424; omega) (by omega) (by simpa using h1) (fun h => absurd h (by decide)) (by decide)
theorem pNum_form {bs : List Int} (hb : ∀ c ∈ bs, 0 ≤ c ∧ c < 256) {i j : Nat} {y : Int} (h : pNum bs i = .ok (y, j)) : i < j ∧ j ≤ bs.length ∧ bs.drop i = digs y 10 ++ bs.drop j := by
  obtain ⟨z, h1, h2, h3, h4, h5, h6⟩ := num_form hb 10 i 0 0 y j (by omega) h
  have : y = z := by simpa using h1
  subst this
  exact ⟨h4, h5, h6⟩
theorem digs_pos (y : Int) (f : Nat) : 0 < (digs y (f + 1)).length := by rw [digs.eq_2]; split <;> simp
theorem digs_bytes : ∀ (f : Nat) (y : Int), 0 ≤ y → ∀ c ∈ digs y f, 0 ≤ c ∧ c < 256
  | 0, _, _, _, h => by simp [digs] at h
  | f + 1, y, h0, c, h => by
    rw [digs.eq_2] at h
    split at h
    · simp at h; omega
    · rcases List.mem_cons.1 h with rfl | h
      · omega
      · exact digs_bytes f (y / 128) (by omega) c h
theorem be_bytes (x : Int) : ∀ (n : Nat), ∀ c ∈ be x n, 0 ≤ c ∧ c < 256
  | 0, _, h => by simp [be] at h
  | n + 1, c, h => by
    rw [be] at h
    rcases List.mem_cons.1 h with rfl | h
    · omega
    · exact be_bytes x n c h
theorem unbe_go (l : List Int) : ∀ a : Int, l.foldl (fun x c => x * 256 + c) a = a * 256 ^ l.length + unbe l := by
  induction l with
  | nil => intro a; simp [unbe]
  | cons c l ih =>
    intro a
    simp only [unbe, List.foldl_cons, List.length_cons]
    rw [ih, ih (0 * 256 + c), Int.pow_succ]
    generalize (256 : Int) ^ l.length = P
    rw [Int.add_mul, Int.add_mul, Int.mul_assoc, Int.mul_comm 256 P]
    omega
theorem unbe_cons (c : Int) (l : List Int) : unbe (c :: l) = c * 256 ^ l.length + unbe l := by
  have := unbe_go l (0 * 256 + c)
  simpa [unbe] using this
theorem unbe_range : ∀ (l : List Int), (∀ c ∈ l, 0 ≤ c ∧ c < 256) → 0 ≤ unbe l ∧ unbe l < 256 ^ l.length
  | [], _ => by simp [unbe]
  | c :: l, h => by
    have h1 := unbe_range l (fun d hd => h d (by simp [hd]))
    have h2 := h c (by simp)
    rw [unbe_cons, List.length_cons, Int.pow_succ]
    generalize (256 : Int) ^ l.length = P at *
    have h3 : 0 ≤ c * P := Int.mul_nonneg h2.1 (by omega)
    have h4 : c * P ≤ 255 * P := Int.mul_le_mul_of_nonneg_right (by omega) (by omega)
    omega
theorem pow256 (n : Nat) : (2 : Int) ^ (8 * n) = 256 ^ n := by rw [Int.pow_mul]; rfl
theorem be_step (x y : Int) : ∀ n : Nat, (∃ q, x = q * 256 ^ n + y) → be x n = be y n
  | 0, _ => rfl
  | n + 1, ⟨q, h⟩ => by
    simp only [be]
    rw [be_step x y n ⟨q * 256, by rw [h, Int.pow_succ, Int.mul_comm (256 ^ n) 256, Int.mul_assoc]⟩]
    congr 1
    rw [pow256, h, Int.pow_succ]
    have hp : (0 : Int) < 256 ^ n := Int.pow_pos (by decide)
    generalize (256 : Int) ^ n = P at *
    rw [show q * (P * 256) + y = y + q * 256 * P from by rw [Int.mul_comm P 256, ← Int.mul_assoc]; omega, Int.add_mul_ediv_right _ _ (by omega)]
    omega
theorem be_unbe : ∀ (l : List Int), (∀ c ∈ l, 0 ≤ c ∧ c < 256) → be (unbe l) l.length = l
  | [], _ => rfl
  | c :: l, h => by
    have h2 := h c (by simp)
    have h3 := unbe_range l (fun d hd => h d (by simp [hd]))
    have h4 := be_unbe l (fun d hd => h d (by simp [hd]))
    rw [List.length_cons, be, unbe_cons, be_step _ (unbe l) l.length ⟨c, rfl⟩, h4, pow256]
    congr 1
    have hp : (0 : Int) < 256 ^ l.length := Int.pow_pos (by decide)
    generalize (256 : Int) ^ l.length = P at *
    rw [Int.add_comm, Int.add_mul_ediv_right _ _ (by omega), Int.ediv_eq_zero_of_lt h3.1 h3.2]
    omega
theorem unbe_be (x : Int) : ∀ n : Nat, unbe (be x n) = x % 256 ^ n
  | 0 => by simp [be, unbe]
  | n + 1 => by
    rw [be, unbe_cons, unbe_be x n, be_length, pow256, Int.pow_succ]
    have hp : (0 : Int) < 256 ^ n := Int.pow_pos (by decide)
    generalize (256 : Int) ^ n = P at *
    have e1 := Int.mul_ediv_add_emod x P
    have e2 := Int.mul_ediv_add_emod (x / P) 256
    have e3 := Int.emod_nonneg x (show P ≠ 0 by omega)
    have e4 := Int.emod_lt_of_pos x hp
    have e5 := Int.emod_nonneg (x / P) (show (256 : Int) ≠ 0 by omega)
    have e6 := Int.emod_lt_of_pos (x / P) (show (0 : Int) < 256 by omega)
    generalize x % P = r at *
    generalize x / P % 256 = c at *
    generalize x / P / 256 = q at *
    have h3 : 0 ≤ c * P := Int.mul_nonneg e5 (by omega)
    have h4 : c * P ≤ 255 * P := Int.mul_le_mul_of_nonneg_right (by omega) (by omega)
    have : x = (c * P + r) + P * 256 * q := by
      rw [← e1, ← e2, Int.mul_add, Int.mul_comm P c, ← Int.mul_assoc]
      omega
    rw [this, Int.add_mul_emod_self_left, Int.emod_eq_of_lt (by omega) (by omega)]
theorem pWord_be {bs rest : List Int} {i : Nat} {x : Int} (h0 : 0 ≤ x) (h1 : x ≤ 18446744073709551615) (hd : bs.drop i = be x 8 ++ rest) : pWord bs i = .ok (x, i + 8) := by
  have hl : bs.length - i = 8 + rest.length := by have := congrArg List.length hd; simpa [be_length] using this
  simp only [pWord, pTake]
  rw [if_pos (by omega), hd, List.take_append_of_le_length (by simp [be_length]), List.take_of_length_le (by simp [be_length])]
  simp only [unbe_be]
  congr 2
  show x % 18446744073709551616 = x
  omega
theorem pWord_form {bs : List Int} (hb : ∀ c ∈ bs, 0 ≤ c ∧ c < 256) {i j : Nat} {x : Int} (hi : i ≤ bs.length) (h : pWord bs i = .ok (x, j)) : j ≤ bs.length ∧ bs.drop i = be x 8 ++ bs.drop j := by
  simp only [pWord, pTake] at h
  split at h
  · exact absurd h (by simp)
  · rename_i l j' h1
    split at h1
    · rename_i h2
      simp only [Except.ok.injEq, Prod.mk.injEq] at h h1
      obtain ⟨rfl, rfl⟩ := h
      obtain ⟨rfl, rfl⟩ := h1
      have e := be_unbe ((bs.drop i).take 8) (fun c hc => hb c (List.mem_of_mem_drop (List.mem_of_mem_take hc)))
      rw [show ((bs.drop i).take 8).length = 8 from by simp; omega] at e
      exact ⟨by omega, by rw [e, ← List.drop_drop, List.take_append_drop]⟩
    · cases h1
theorem be1 (x : Int) : be x 1 = [x % 256] := by simp [be]
theorem pNext_form {bs : List Int} (hb : ∀ c ∈ bs, 0 ≤ c ∧ c < 256) {i j : Nat} {x : Int} (h : pNext bs i = .ok (x, j)) : j ≤ bs.length ∧ bs.drop i = be x 1 ++ bs.drop j := by
  unfold pNext at h
  split at h
  · rename_i hi
    simp only [Except.ok.injEq, Prod.mk.injEq] at h
    obtain ⟨rfl, rfl⟩ := h
    have hc : 0 ≤ bs.getD i 0 ∧ bs.getD i 0 < 256 := by
      rw [List.getD_eq_getElem?_getD, List.getElem?_eq_getElem hi]
      exact hb _ (List.getElem_mem hi)
    exact ⟨by omega, by rw [drop_at hi, be1]; generalize bs.getD i 0 = c at *; rw [show c % 256 = c from by omega]; rfl⟩
  · cases h
theorem pText_form {bs : List Int} (hb : ∀ c ∈ bs, 0 ≤ c ∧ c < 256) {i j : Nat} {m : Int} {l : List Int} (hi : i ≤ bs.length) (h : pText bs m i = .ok (l, j)) : j ≤ bs.length ∧ bs.drop i = digs l.length 10 ++ l ++ bs.drop j ∧ (l.length : Int) ≤ max m 0 := by
  unfold pText at h
  split at h
  · cases h
  · rename_i x k h1
    obtain ⟨h2, h3⟩ := pCount_num h1
    obtain ⟨h4, h5, h6⟩ := pNum_form hb h2
    have h7 := (pNum_range hb h2).1
    obtain ⟨h8, h9⟩ := pTake_le h5 h
    unfold pTake at h
    split at h
    · simp only [Except.ok.injEq, Prod.mk.injEq] at h
      obtain ⟨hl, rfl⟩ := h
      have e : ((l.length : Nat) : Int) = x := by rw [h9]; omega
      refine ⟨h8, ?_, by omega⟩
      rw [h6, e, List.append_assoc]
      congr 1
      rw [← hl, ← List.drop_drop, List.take_append_drop]
    · cases h
theorem unfold_fold (x : Int) : unfoldI (fold x) = x := by unfold unfoldI fold; split <;> split <;> omega
theorem fold_unfold {x : Int} (h : 0 ≤ x) : fold (unfoldI x) = x := by unfold unfoldI fold; split <;> split <;> omega

end Go.Proofs.Ytbheebcjbolboaa.K
