import Derived.Test.YthmghcjkmmhgnaaLc
import Derived.Test.YthmghcjkmmhgnaaPb
namespace Go.Proofs.Ythmghcjkmmhgnaa.K
open Go.RowKit Go.Proofs.YthmghcjkmmhgnaaW.PrintWords Go.Proofs.YthmghcjkmmhgnaaW.PrintLast Go.Proofs.YthmghcjkmmhgnaaW.PrintMore
set_option linter.unusedVariables false
set_option linter.unusedSimpArgs false
set_option maxRecDepth 100000

theorem putL_pos {kind x : Int} {s : ByteArray} (h0 : 0 ≤ kind) (h4 : kind ≤ 4) : 0 < (putL kind x s).length := by
  unfold putL
  repeat' split
  · simp [be_length]
  · exact digs_pos _ 9
  · exact digs_pos _ 9
  · simp [be_length]
  · rw [List.length_append]; have : 0 < (digs (s.size : Int) 10).length := digs_pos s.size 9; omega
  · omega
theorem digs_in (f : Nat) (y : Int) (h : 0 ≤ y) : ∀ c ∈ digs y f, 0 ≤ c ∧ c < 256 := digs_bytes f y h
theorem bytesOf_in (s : ByteArray) : ∀ c ∈ bytesOf s, 0 ≤ c ∧ c < 256 := by
  intro c hc
  obtain ⟨b, _, rfl⟩ := List.mem_map.1 hc
  have := UInt8.toNat_lt b
  omega
theorem putL_in {kind x : Int} {s : ByteArray} (hx0 : 0 ≤ x) : ∀ c ∈ putL kind x s, 0 ≤ c ∧ c < 256 := by
  have hw : -9223372036854775808 ≤ wrap64 x ∧ wrap64 x ≤ 9223372036854775807 := by unfold wrap64; omega
  unfold putL
  repeat' split
  · exact be_bytes _ _
  · exact digs_in _ _ hx0
  · exact digs_in _ _ (fold_range _ hw.1 hw.2).1
  · exact be_bytes _ _
  · intro c hc
    rcases List.mem_append.1 hc with h | h
    · exact digs_in _ _ (by omega) c h
    · exact bytesOf_in s c h
  · simp
theorem begins_0 {x : Int} {s : ByteArray} {m : Nat} (hm : m < (putL 0 x s).length) : rrun (pNext ((putL 0 x s).take m)) 0 0 0 = (0, 0, 2) := by
  have h : m = 0 := by simp [putL, be_length] at hm; omega
  subst h
  simp [rrun, pNext]
theorem begins_1 {x : Int} {s : ByteArray} {m : Nat} (h0 : 0 ≤ x) (h1 : x ≤ 18446744073709551615) (hm : m < (putL 1 x s).length) : rrun (pNum ((putL 1 x s).take m)) 0 0 0 = (0, 0, 2) := by
  have e : putL 1 x s = digs x 10 := by simp [putL]
  rw [e] at hm ⊢
  simp [rrun, pNum_cut h0 h1 (i := 0) (bs := (digs x 10).take m) rfl hm]
theorem begins_2 {x : Int} {s : ByteArray} {m : Nat} (hm : m < (putL 2 x s).length) : rrun (pNum ((putL 2 x s).take m)) 0 0 0 = (0, 0, 2) := by
  have hw : -9223372036854775808 ≤ wrap64 x ∧ wrap64 x ≤ 9223372036854775807 := by unfold wrap64; omega
  have hf := fold_range _ hw.1 hw.2
  have e : putL 2 x s = digs (fold (wrap64 x)) 10 := by simp [putL]
  rw [e] at hm ⊢
  simp [rrun, pNum_cut hf.1 hf.2 (i := 0) (bs := (digs (fold (wrap64 x)) 10).take m) rfl hm]
theorem begins_3 {x : Int} {s : ByteArray} {m : Nat} (hm : m < (putL 3 x s).length) : rrun (pWord ((putL 3 x s).take m)) 0 0 0 = (0, 0, 2) := by
  have e : putL 3 x s = be x 8 := by simp [putL]
  rw [e] at hm ⊢
  rw [be_length] at hm
  have : pWord ((be x 8).take m) 0 = .error 2 := by
    simp only [pWord, pTake]
    rw [if_neg (by simp [be_length]; omega)]
  simp [rrun, this]
theorem begins_4 {x : Int} {s : ByteArray} {m : Nat} (hs : s.size ≤ 140737488351232) (hm : m < (putL 4 x s).length) : rrun (pText ((putL 4 x s).take m) s.size) ([] : List Int) 0 0 = ([], 0, 2) := by
  have e : putL 4 x s = digs s.size 10 ++ bytesOf s := by simp [putL]
  rw [e] at hm ⊢
  have hp : pText ((digs s.size 10 ++ bytesOf s).take m) s.size 0 = .error 2 := by
    rcases Nat.lt_or_ge m (digs s.size 10).length with h | h
    · have : (digs s.size 10 ++ bytesOf s).take m = (digs s.size 10).take m := List.take_append_of_le_length (by omega)
      rw [this]
      simp [pText, pCount, pNum_cut (y := s.size) (by omega) (by omega) (i := 0) (bs := (digs s.size 10).take m) rfl h]
    · have h2 : (digs s.size 10 ++ bytesOf s).take m = digs s.size 10 ++ (bytesOf s).take (m - (digs s.size 10).length) := by
        rw [List.take_append, List.take_of_length_le h]
      rw [h2]
      have h3 := pNum_digs (y := s.size) (bs := digs s.size 10 ++ (bytesOf s).take (m - (digs s.size 10).length)) (i := 0) (by omega) (by omega) rfl
      simp only [pText, pCount, h3]
      rw [if_neg (by omega)]
      simp only [pTake]
      rw [List.length_append, bytesOf_length] at hm
      rw [if_neg (by simp [bytesOf_length]; omega)]
  simp [rrun, hp]
theorem strOfNums_nil : (strOfNums []).toList.isEmpty = true := by
  rw [show strOfNums [] = ⟨#[]⟩ from by rfl, ByteArray.toList, ByteArray.toList.loop]; rfl
theorem rem_range (n m : Int) (hm : 0 < m) : -m < n.tmod m ∧ n.tmod m < m := by
  rcases Int.le_total 0 n with h | h
  · rw [Int.tmod_eq_emod_of_nonneg h]
    have := Int.emod_nonneg n (show m ≠ 0 by omega)
    have := Int.emod_lt_of_pos n hm
    omega
  · obtain ⟨k, rfl⟩ : ∃ k, n = -k := ⟨-n, by omega⟩
    rw [Int.neg_tmod, Int.tmod_eq_emod_of_nonneg (by omega)]
    have := Int.emod_nonneg k (show m ≠ 0 by omega)
    have := Int.emod_lt_of_pos k hm
    omega
