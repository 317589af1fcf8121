import Derived.Test.YthmghcjkmmhgnaaRf
import Derived.Test.YthmghcjkmmhgnaaPb
namespace Go.Proofs.Ythmghcjkmmhgnaa.K
open Go.RowKit Go.Proofs.YthmghcjkmmhgnaaW.PrintWords Go.Proofs.YthmghcjkmmhgnaaW.PrintLast Go.Proofs.YthmghcjkmmhgnaaW.PrintMore
set_option linter.unusedVariables false
set_option linter.unusedSimpArgs false
set_option maxRecDepth 100000

theorem same_bytes (w : World) (A B : Option Addr) (n m ca cb : Nat) (l1 l2 : List Int) (h1 : Kd.C (Kd.int .u8) w A n l1) (h2 : Kd.C (Kd.int .u8) w B m l2) :
    Calls Try.prog 44 #[.slice A n ca, .slice B m cb] w fun e w' => e = .returned (.bool (decide (l1 = l2))) ∧ Drawn0 w w' := by
  have hn : l1.length = n := h1.1
  have hm : l2.length = m := h2.1
  have hb := h1.2.1
  replace h1 := Aside0.mk h1
  replace h2 := Aside0.mk h2
  by_cases he : n = m
  · subst he
    have hnA := Aside0.mk hn
    have hmA := Aside0.mk hm
    clear hn hm
    have hne : ((n : Int) != (n : Int)) = false := by simp
    go_enter Try.func44, Try.ntmps44
    go_wp2
    go_loopw [5] (fun i wr => ∃ k : Nat, i = .int .i64 k ∧ k ≤ n ∧ Aside0 (l1.take k = l2.take k) ∧ Drawn0 w wr) (fun i _ => n - (intOf i).toNat)
    case atStart => exact ⟨0, rfl, by omega, ⟨by simp⟩, Drawn0.refl _⟩
    case round =>
      obtain ⟨k, rfl, hk, hE, ⟨nd, rfl⟩⟩ := hrel
      by_cases hlt : k < n
      · obtain ⟨a1, e1, x1⟩ := byte_at h1.out k hlt
        obtain ⟨a2, e2, x2⟩ := byte_at h2.out k hlt
        have hk0 : (0 : Int) ≤ k := by omega
        have hk1 : (k : Int) < n := by omega
        subst e1 e2
        have t1 : l1.take (k + 1) = l1.take k ++ [l1.getD k 0] := by
          rw [List.take_succ_eq_append_getElem (by have := hnA.out; omega), List.getD_eq_getElem?_getD, List.getElem?_eq_getElem (by have := hnA.out; omega)]; rfl
        have t2 : l2.take (k + 1) = l2.take k ++ [l2.getD k 0] := by
          rw [List.take_succ_eq_append_getElem (by have := hmA.out; omega), List.getD_eq_getElem?_getD, List.getElem?_eq_getElem (by have := hmA.out; omega)]; rfl
        replace t1 := Aside0.mk t1
        replace t2 := Aside0.mk t2
        generalize l1.getD k 0 = y1 at x1 t1
        generalize l2.getD k 0 = y2 at x2 t2
        by_cases hy : y1 = y2
        · have hy1 : (y1 != y2) = false := by simpa using hy
          replace hy := Aside0.mk hy
          go_wp2
          go_quiet (fail)
          go_wp2
          go_roundw
          case measure => simp [intOf]; omega
          case rel => exact ⟨k + 1, by go_num, by omega, ⟨by rw [t1.out, t2.out, hE.out, hy.out]⟩, by first | exact ⟨⟨_, rfl⟩⟩ | exact Drawn0.step ⟨⟨_, rfl⟩⟩ _⟩
        · have hy1 : (y1 != y2) = true := by simpa using hy
          replace hy := Aside0.mk hy
          go_wp2
          go_quiet (fail)
          go_wp2
          go_ret
          refine ⟨?_, by first | exact ⟨⟨_, rfl⟩⟩ | exact Drawn0.step ⟨⟨_, rfl⟩⟩ _⟩
          have : ¬ l1 = l2 := by
            intro h
            have := t1.out.symm.trans ((congrArg (List.take (k + 1)) h).trans t2.out)
            rw [hE.out] at this
            exact hy.out (by simpa using this)
          simp [this]
      · go_wp2
        go_ret
        refine ⟨?_, ⟨_, rfl⟩⟩
        have hkn : k = n := by omega
        have := hE.out
        rw [List.take_of_length_le (by have := hnA.out; omega), List.take_of_length_le (by have := hmA.out; omega)] at this
        simp [this]
  · have hne : ((n : Int) != (m : Int)) = true := by simp; omega
    have hll : ¬ l1 = l2 := fun h => he (by rw [← hn, ← hm, h])
    replace hll := Aside0.mk hll
    clear hn hm he
    go_enter Try.func44, Try.ntmps44
    go_wp2
    go_ret
    exact ⟨by simp [hll.out], ⟨0, rfl⟩⟩
/-- What one call of a writer writes. -/
def putL (kind x : Int) (s : ByteArray) : List Int :=
  if kind = 0 then be (x % 256) 1 else if kind = 1 then digs x 10 else if kind = 2 then digs (fold (wrap64 x)) 10 else if kind = 3 then be x 8 else if kind = 4 then digs s.size 10 ++ bytesOf s else []
/-- What a new writer writes of one call. -/
def wrL (kind x : Int) (s : ByteArray) : List Int := if kind = 5 then bytesOf s else putL kind x s
theorem C_bytesWorld (W : World) (s : ByteArray) (e : TypeId) (hs : s.size ≤ 140737488355328) : Kd.C (Kd.int .u8) (Lib.bytesWorld W e s) (some ⟨W.heap.size, 0, none⟩) s.size (bytesOf s) :=
  Kd.C_of_reads (bytes_reads W e s (by omega))
theorem chg_bytesWorld (W : World) (s : ByteArray) (e : TypeId) : Chg (fun _ => False) W (Lib.bytesWorld W e s) := Chg.of_below (bytes_below (Below.refl _ _) (Nat.le_refl _) e s)
theorem putL_length (kind x : Int) (s : ByteArray) : (putL kind x s).length ≤ s.size + 18 := by
  unfold putL
  repeat' split
  all_goals (try simp [be_length, bytesOf_length])
  all_goals (first | (have := digs_length 10 x; omega) | (have := digs_length 10 (fold (wrap64 x)); omega) | (have := digs_length 10 s.size; omega) | omega)
theorem Put.cells {w : World} {b : Nat} {v0 v1 v2 v3 : Value} {t : TypeId} (h : w.heap[b]? = some (.cells #[v0, v1, v2, v3] t (0, 0))) : w.cell? ⟨b, 0, none⟩ = some v0 ∧ w.cell? ⟨b, 1, none⟩ = some v1 ∧ w.cell? ⟨b, 2, none⟩ = some v2 ∧ w.cell? ⟨b, 3, none⟩ = some v3 :=
  ⟨blk_cell h 0, blk_cell h 1, blk_cell h 2, blk_cell h 3⟩
end Go.Proofs.Ythmghcjkmmhgnaa.K

namespace Go.Proofs.Ythmghcjkmmhgnaa.K
open Go.RowKit Go.Proofs.YthmghcjkmmhgnaaW.PrintWords Go.Proofs.YthmghcjkmmhgnaaW.PrintLast Go.Proofs.YthmghcjkmmhgnaaW.PrintMore
set_option linter.unusedVariables false
set_option linter.unusedSimpArgs false
set_option maxRecDepth 100000

theorem be_getD (x : Int) : ∀ (n k : Nat), k < n → (be x n).getD k 0 = x / 2 ^ (8 * (n - 1 - k)) % 256
  | 0, k, h => by omega
  | n + 1, 0, _ => by simp [be]
  | n + 1, k + 1, h => by
    have := be_getD x n k (by omega)
    simp only [be, List.getD_cons_succ, this]
    congr 3
    omega
theorem pow_step (m : Nat) : (2 : Int) ^ (8 * (m + 1)) = 2 ^ (8 * m) * 256 := by rw [show 8 * (m + 1) = 8 * m + 8 from by omega, Int.pow_add]; rfl
/-- The first byte that parts two words tells which is less. -/
theorem word_order (x y : Int) (k : Nat) (hk : k < 8) (hE : x / 2 ^ (8 * (8 - k)) = y / 2 ^ (8 * (8 - k))) :
    ((be x 8).getD k 0 = (be y 8).getD k 0 → x / 2 ^ (8 * (8 - (k + 1))) = y / 2 ^ (8 * (8 - (k + 1)))) ∧
    ((be x 8).getD k 0 ≠ (be y 8).getD k 0 → ((be x 8).getD k 0 < (be y 8).getD k 0 ↔ x < y) ∧ x ≠ y) := by
  rw [be_getD x 8 k hk, be_getD y 8 k hk]
  have e1 : 8 - 1 - k = 7 - k := by omega
  have e2 : 8 - (k + 1) = 7 - k := by omega
  have e3 : 8 - k = (7 - k) + 1 := by omega
  rw [e3, pow_step, ← Int.ediv_ediv_of_nonneg (Int.le_of_lt (Int.pow_pos (by decide))), ← Int.ediv_ediv_of_nonneg (Int.le_of_lt (Int.pow_pos (by decide)))] at hE
  rw [e1, e2]
  have hp : (0 : Int) < 2 ^ (8 * (7 - k)) := Int.pow_pos (by decide)
  generalize (2 : Int) ^ (8 * (7 - k)) = P at *
  have hx : x / P < y / P → x < y := fun h => by
    rcases Int.lt_or_le x y with h1 | h1
    · exact h1
    · have := Int.ediv_le_ediv hp h1; omega
  have hy : y / P < x / P → y < x := fun h => by
    rcases Int.lt_or_le y x with h1 | h1
    · exact h1
    · have := Int.ediv_le_ediv hp h1; omega
  generalize x / P = X at *
  generalize y / P = Y at *
  refine ⟨fun h => by omega, fun h => ⟨⟨fun h1 => hx (by omega), fun h1 => ?_⟩, fun h1 => ?_⟩⟩
  · rcases Int.lt_or_le X Y with h2 | h2
    · omega
    · have := hy (by omega); omega
  · rcases Int.lt_or_le X Y with h2 | h2
    · have := hx h2; omega
    · have := hy (by omega); omega
end Go.Proofs.Ythmghcjkmmhgnaa.K

namespace Go.Proofs.Ythmghcjkmmhgnaa.K
open Go.RowKit Go.Proofs.YthmghcjkmmhgnaaW.PrintWords Go.Proofs.YthmghcjkmmhgnaaW.PrintLast Go.Proofs.YthmghcjkmmhgnaaW.PrintMore
set_option linter.unusedVariables false
set_option linter.unusedSimpArgs false
set_option maxRecDepth 100000

/-- Where a reader of a number's form stands behind k digits. -/
structure FormAt (x : Int) (k : Nat) (y : Int) : Prop where
  lo : 0 ≤ y
  hi : y ≤ 18446744073709551615
  few : y < 128 ^ (10 - k)
  k10 : k < 10
  rest : (digs x 10).drop k = digs y (10 - k)
  top : 0 < k → 1 ≤ y
theorem FormAt.start {x : Int} (h0 : 0 ≤ x) (h1 : x ≤ 18446744073709551615) : FormAt x 0 x := ⟨h0, h1, by show x < 1180591620717411303424; omega, by omega, rfl, fun h => absurd h (by omega)⟩
theorem FormAt.step {x : Int} {k : Nat} {y : Int} (h : FormAt x k y) :
    k < (digs x 10).length ∧ ((y < 128 ∧ (digs x 10).getD k 0 = y ∧ (digs x 10).length = k + 1) ∨ (128 ≤ y ∧ (digs x 10).getD k 0 = y % 128 + 128 ∧ k + 1 < (digs x 10).length ∧ FormAt x (k + 1) (y / 128))) := by
  obtain ⟨h0, h1, h2, h3, h4, h5⟩ := h
  obtain ⟨m, hm⟩ : ∃ m, 10 - k = m + 1 := ⟨9 - k, by omega⟩
  rw [hm] at h2 h4
  have hlen : (digs x 10).length - k = (digs y (m + 1)).length := by rw [← h4, List.length_drop]
  have hget : (digs x 10).getD k 0 = (digs y (m + 1)).getD 0 0 := by rw [← h4]; simp [List.getD_eq_getElem?_getD]
  rw [digs.eq_2 y] at hlen hget h4
  split at hlen
  · rename_i hy
    rw [if_pos hy] at hget
    simp at hlen hget
    exact ⟨by omega, .inl ⟨hy, by simpa using hget, by omega⟩⟩
  · rename_i hy
    rw [if_neg hy] at hget h4
    simp at hlen hget
    have hd : (digs x 10).drop (k + 1) = digs (y / 128) m := by rw [← List.drop_drop, h4]; rfl
    cases m with
    | zero => exact absurd h2 (by show ¬ y < 128; omega)
    | succ m =>
      have hk1 : k + 1 < (digs x 10).length := by
        have : (digs (y / 128) (m + 1)).length ≠ 0 := by rw [digs.eq_2]; split <;> simp
        omega
      refine ⟨by omega, .inr ⟨by omega, by simpa using hget, hk1, ⟨by omega, by omega, ?_, by omega, by rw [hd]; (have e : 10 - (k + 1) = m + 1 := by omega); rw [e], fun _ => by omega⟩⟩⟩
      rw [show 10 - (k + 1) = m + 1 from by omega]
      rw [Int.pow_succ] at h2
      generalize (128 : Int) ^ (m + 1) = P at *
      omega
end Go.Proofs.Ythmghcjkmmhgnaa.K

namespace Go.Proofs.Ythmghcjkmmhgnaa.K
open Go.RowKit Go.Proofs.YthmghcjkmmhgnaaW.PrintWords Go.Proofs.YthmghcjkmmhgnaaW.PrintLast Go.Proofs.YthmghcjkmmhgnaaW.PrintMore
set_option linter.unusedVariables false
set_option linter.unusedSimpArgs false
set_option maxRecDepth 100000

theorem putL_pos {kind x : Int} {s : ByteArray} (h0 : 0 ≤ kind) (h4 : kind ≤ 4) : 0 < (putL kind x s).length := by
  unfold putL
  repeat' split
  · simp [be_length]
  · exact digs_pos _ 9
  · exact digs_pos _ 9
  · simp [be_length]
  · rw [List.length_append]; have : 0 < (digs (s.size : Int) 10).length := digs_pos s.size 9; omega
  · omega
theorem digs_in (f : Nat) (y : Int) (h : 0 ≤ y) : ∀ c ∈ digs y f, 0 ≤ c ∧ c < 256 := digs_bytes f y h
theorem bytesOf_in (s : ByteArray) : ∀ c ∈ bytesOf s, 0 ≤ c ∧ c < 256 := by
  intro c hc
  obtain ⟨b, _, rfl⟩ := List.mem_map.1 hc
  have := UInt8.toNat_lt b
  omega
theorem putL_in {kind x : Int} {s : ByteArray} (hx0 : 0 ≤ x) : ∀ c ∈ putL kind x s, 0 ≤ c ∧ c < 256 := by
  have hw : -9223372036854775808 ≤ wrap64 x ∧ wrap64 x ≤ 9223372036854775807 := by unfold wrap64; omega
  unfold putL
  repeat' split
  · exact be_bytes _ _
  · exact digs_in _ _ hx0
  · exact digs_in _ _ (fold_range _ hw.1 hw.2).1
  · exact be_bytes _ _
  · intro c hc
    rcases List.mem_append.1 hc with h | h
    · exact digs_in _ _ (by omega) c h
    · exact bytesOf_in s c h
  · simp
theorem begins_0 {x : Int} {s : ByteArray} {m : Nat} (hm : m < (putL 0 x s).length) : rrun (pNext ((putL 0 x s).take m)) 0 0 0 = (0, 0, 2) := by
  have h : m = 0 := by simp [putL, be_length] at hm; omega
  subst h
  simp [rrun, pNext]
theorem begins_1 {x : Int} {s : ByteArray} {m : Nat} (h0 : 0 ≤ x) (h1 : x ≤ 18446744073709551615) (hm : m < (putL 1 x s).length) : rrun (pNum ((putL 1 x s).take m)) 0 0 0 = (0, 0, 2) := by
  have e : putL 1 x s = digs x 10 := by simp [putL]
  rw [e] at hm ⊢
  simp [rrun, pNum_cut h0 h1 (i := 0) (bs := (digs x 10).take m) rfl hm]
theorem begins_2 {x : Int} {s : ByteArray} {m : Nat} (hm : m < (putL 2 x s).length) : rrun (pNum ((putL 2 x s).take m)) 0 0 0 = (0, 0, 2) := by
  have hw : -9223372036854775808 ≤ wrap64 x ∧ wrap64 x ≤ 9223372036854775807 := by unfold wrap64; omega
  have hf := fold_range _ hw.1 hw.2
  have e : putL 2 x s = digs (fold (wrap64 x)) 10 := by simp [putL]
  rw [e] at hm ⊢
  simp [rrun, pNum_cut hf.1 hf.2 (i := 0) (bs := (digs (fold (wrap64 x)) 10).take m) rfl hm]
theorem begins_3 {x : Int} {s : ByteArray} {m : Nat} (hm : m < (putL 3 x s).length) : rrun (pWord ((putL 3 x s).take m)) 0 0 0 = (0, 0, 2) := by
  have e : putL 3 x s = be x 8 := by simp [putL]
  rw [e] at hm ⊢
  rw [be_length] at hm
  have : pWord ((be x 8).take m) 0 = .error 2 := by
    simp only [pWord, pTake]
    rw [if_neg (by simp [be_length]; omega)]
  simp [rrun, this]
theorem begins_4 {x : Int} {s : ByteArray} {m : Nat} (hs : s.size ≤ 140737488351232) (hm : m < (putL 4 x s).length) : rrun (pText ((putL 4 x s).take m) s.size) ([] : List Int) 0 0 = ([], 0, 2) := by
  have e : putL 4 x s = digs s.size 10 ++ bytesOf s := by simp [putL]
  rw [e] at hm ⊢
  have hp : pText ((digs s.size 10 ++ bytesOf s).take m) s.size 0 = .error 2 := by
    rcases Nat.lt_or_ge m (digs s.size 10).length with h | h
    · have : (digs s.size 10 ++ bytesOf s).take m = (digs s.size 10).take m := List.take_append_of_le_length (by omega)
      rw [this]
      simp [pText, pCount, pNum_cut (y := s.size) (by omega) (by omega) (i := 0) (bs := (digs s.size 10).take m) rfl h]
    · have h2 : (digs s.size 10 ++ bytesOf s).take m = digs s.size 10 ++ (bytesOf s).take (m - (digs s.size 10).length) := by
        rw [List.take_append, List.take_of_length_le h]
      rw [h2]
      have h3 := pNum_digs (y := s.size) (bs := digs s.size 10 ++ (bytesOf s).take (m - (digs s.size 10).length)) (i := 0) (by omega) (by omega) rfl
      simp only [pText, pCount, h3]
      rw [if_neg (by omega)]
      simp only [pTake]
      rw [List.length_append, bytesOf_length] at hm
      rw [if_neg (by simp [bytesOf_length]; omega)]
  simp [rrun, hp]
theorem strOfNums_nil : (strOfNums []).toList.isEmpty = true := by
  rw [show strOfNums [] = ⟨#[]⟩ from by rfl, ByteArray.toList, ByteArray.toList.loop]; rfl
theorem rem_range (n m : Int) (hm : 0 < m) : -m < n.tmod m ∧ n.tmod m < m := by
  rcases Int.le_total 0 n with h | h
  · rw [Int.tmod_eq_emod_of_nonneg h]
    have := Int.emod_nonneg n (show m ≠ 0 by omega)
    have := Int.emod_lt_of_pos n hm
    omega
  · obtain ⟨k, rfl⟩ : ∃ k, n = -k := ⟨-n, by omega⟩
    rw [Int.neg_tmod, Int.tmod_eq_emod_of_nonneg (by omega)]
    have := Int.emod_nonneg k (show m ≠ 0 by omega)
    have := Int.emod_lt_of_pos k hm
    omega

end Go.Proofs.Ythmghcjkmmhgnaa.K

namespace Go.Proofs.Ythmghcjkmmhgnaa.K
open Go.RowKit Go.Proofs.YthmghcjkmmhgnaaW.PrintWords Go.Proofs.YthmghcjkmmhgnaaW.PrintLast Go.Proofs.YthmghcjkmmhgnaaW.PrintMore
set_option linter.unusedVariables false
set_option linter.unusedSimpArgs false
set_option maxRecDepth 100000

theorem int_at {k : IntKind} {w : World} {A : Option Addr} {n : Nat} {l : List Int} (h : Kd.C (Kd.int k) w A n l) (i : Nat) (h1 : i < n) : ∃ ad, A = some ad ∧ w.cell? (ad.add i) = some (.int k (l.getD i 0)) := by
  obtain ⟨ad, c, e, _, hK, hc0⟩ := Kd.C_get h 0 (i : Int) (by omega) (by omega)
  refine ⟨ad, e, ?_⟩
  have hk : c = [Value.int k (l.getD i 0)] := hK
  have := hc0 0 _ (by rw [hk]; rfl)
  simpa [Kd.int, Kd.scalar] using this
theorem bytesOf_strOfNums {l : List Int} (h : ∀ c ∈ l, 0 ≤ c ∧ c < 256) : bytesOf (strOfNums l) = l := by
  unfold bytesOf
  rw [strOfNums_data, List.map_map]
  conv => rhs; rw [← List.map_id l]
  refine List.map_congr_left (fun c hc => ?_)
  have := h c hc
  simp only [Function.comp, UInt8.toNat_ofNat', id]
  omega
/-- What a round of the law writes: the form of what it read. -/
def oneW (bs : List Int) (i : Nat) (err : Int) (r : Int) : List Int × Nat × Int :=
  if r = 0 then let x := rrun (pNext bs) 0 i err; (be x.1 1, x.2)
  else if r = 1 then let x := rrun (pNum bs) 0 i err; (digs x.1 10, x.2)
  else if r = 2 then let x := rrun (pNum bs) 0 i err; (digs x.1 10, x.2)
  else if r = 3 then let x := rrun (pWord bs) 0 i err; (be x.1 8, x.2)
  else let x := rrun (pText bs bs.length) [] i err; (digs x.1.length 10 ++ x.1, x.2)
theorem rrun_cases {α : Type} (p : Nat → Except Int (α × Nat)) (z : α) (i : Nat) (err : Int) : (∃ x j, err = 0 ∧ p i = .ok (x, j) ∧ rrun p z i err = (x, j, 0)) ∨ (∃ c, rrun p z i err = (z, i, c) ∧ (err = 0 → p i = .error c) ∧ (err ≠ 0 → c = err)) := by
  unfold rrun
  split
  · rename_i h
    split
    · rename_i x j h1; exact .inl ⟨x, j, h, h1, rfl⟩
    · rename_i c h1; exact .inr ⟨c, rfl, fun _ => h1, fun h2 => absurd h h2⟩
  · rename_i h; exact .inr ⟨err, rfl, fun h1 => absurd h1 h, fun _ => rfl⟩
/-- No reading gives up with 'no error'. -/
theorem pNumGo_err {bs : List Int} : ∀ f {i s : Nat} {x c : Int}, pNumGo bs f i s x = .error c → c ≠ 0
  | 0, _, _, _, _, h => by simp [pNumGo] at h; omega
  | f + 1, i, s, x, c, h => by
    unfold pNumGo at h
    split at h
    · split at h
      · cases h; decide
      · split at h
        · cases h
        · exact pNumGo_err f h
    · cases h; decide
theorem pNext_err {bs : List Int} {i : Nat} {c : Int} (h : pNext bs i = .error c) : c ≠ 0 := by
  unfold pNext at h; split at h <;> cases h; decide
theorem pNum_err {bs : List Int} {i : Nat} {c : Int} (h : pNum bs i = .error c) : c ≠ 0 := pNumGo_err 10 h
theorem pTake_err {bs : List Int} {n i : Nat} {c : Int} (h : pTake bs n i = .error c) : c ≠ 0 := by
  unfold pTake at h; split at h <;> cases h; decide
theorem pCount_err {bs : List Int} {m : Int} {i : Nat} {c : Int} (h : pCount bs m i = .error c) : c ≠ 0 := by
  unfold pCount at h
  split at h
  · rename_i h1; cases h; exact pNum_err h1
  · split at h <;> cases h; decide
theorem pWord_err {bs : List Int} {i : Nat} {c : Int} (h : pWord bs i = .error c) : c ≠ 0 := by
  unfold pWord at h
  split at h
  · rename_i h1; cases h; exact pTake_err h1
  · cases h
theorem pText_err {bs : List Int} {m : Int} {i : Nat} {c : Int} (h : pText bs m i = .error c) : c ≠ 0 := by
  unfold pText at h
  split at h
  · rename_i h1; cases h; exact pCount_err h1
  · exact pTake_err h
theorem pRaw_err {bs : List Int} {n : Int} {i : Nat} {c : Int} (h : pRaw bs n i = .error c) : c ≠ 0 := by
  unfold pRaw at h
  split at h
  · cases h; decide
  · exact pTake_err h
theorem take_on {bs e : List Int} {i j : Nat} (h : bs.drop i = e ++ bs.drop j) : bs.take i ++ e = bs.take j := by
  have h1 : bs = (bs.take i ++ e) ++ bs.drop j := by rw [List.append_assoc, ← h, List.take_append_drop]
  have h2 : bs = bs.take j ++ bs.drop j := (List.take_append_drop j bs).symm
  exact List.append_cancel_right (h1.symm.trans h2)
theorem oneW_len (bs : List Int) (i : Nat) (err r : Int) (hi : i ≤ bs.length) : (oneW bs i err r).1.length ≤ bs.length + 10 := by
  unfold oneW
  have hd := digs_length 10
  split
  · simp [be_length]
  split
  · have := hd (rrun (pNum bs) 0 i err).1; simp only; omega
  split
  · have := hd (rrun (pNum bs) 0 i err).1; simp only; omega
  split
  · simp [be_length]
  · rcases rrun_cases (pText bs bs.length) [] i err with ⟨x, j, _, h1, h2⟩ | ⟨c, h1, _⟩
    · rw [h2]
      have h3 : x.length ≤ bs.length := by
        unfold pText at h1
        split at h1
        · cases h1
        · rename_i h4
          unfold pTake at h1
          split at h1
          · cases h1; simp; omega
          · cases h1
      have := hd x.length
      simp only [List.length_append]; omega
    · rw [h1]
      have := hd ([] : List Int).length
      simp only [List.length_append, List.length_nil]; simp only [List.length_nil] at this; omega
/-- As long as there is no error, what is written is what was read. -/
theorem oneW_ok {bs : List Int} (hb : ∀ c ∈ bs, 0 ≤ c ∧ c < 256) {i : Nat} {err r : Int} (hi : i ≤ bs.length) (h0 : (oneW bs i err r).2.2 = 0) : err = 0 ∧ bs.take i ++ (oneW bs i err r).1 = bs.take (oneW bs i err r).2.1 := by
  have key : ∀ {α : Type} (p : Nat → Except Int (α × Nat)) (z : α) (en : α → List Int), (∀ c, p i = .error c → c ≠ 0) → (∀ x j, p i = .ok (x, j) → bs.drop i = en x ++ bs.drop j) → (rrun p z i err).2.2 = 0 → err = 0 ∧ bs.take i ++ en (rrun p z i err).1 = bs.take (rrun p z i err).2.1 := by
    intro α p z en he ho h
    rcases rrun_cases p z i err with ⟨x, j, h1, h2, h3⟩ | ⟨c, h1, h2, h3⟩
    · rw [h3]; exact ⟨h1, take_on (ho x j h2)⟩
    · rw [h1] at h
      by_cases h4 : err = 0
      · exact absurd h (he c (h2 h4))
      · exact absurd (h3 h4 ▸ h) h4
  unfold oneW at h0 ⊢
  split at h0
  · rename_i h; rw [if_pos h]; exact key (pNext bs) 0 (fun x => be x 1) (fun c => pNext_err) (fun x j h => (pNext_form hb h).2) h0
  rename_i g0; rw [if_neg g0]
  split at h0
  · rename_i h; rw [if_pos h]; exact key (pNum bs) 0 (fun x => digs x 10) (fun c => pNum_err) (fun x j h => (pNum_form hb h).2.2) h0
  rename_i g1; rw [if_neg g1]
  split at h0
  · rename_i h; rw [if_pos h]; exact key (pNum bs) 0 (fun x => digs x 10) (fun c => pNum_err) (fun x j h => (pNum_form hb h).2.2) h0
  rename_i g2; rw [if_neg g2]
  split at h0
  · rename_i h; rw [if_pos h]; exact key (pWord bs) 0 (fun x => be x 8) (fun c => pWord_err) (fun x j h => (pWord_form hb hi h).2) h0
  rename_i g3; rw [if_neg g3]
  exact key (pText bs bs.length) [] (fun x => digs x.length 10 ++ x) (fun c => pText_err) (fun x j h => by rw [(pText_form hb hi h).2.1]) h0
theorem rr_num {bs : List Int} (hb : ∀ c ∈ bs, 0 ≤ c ∧ c < 256) (i : Nat) (err : Int) : 0 ≤ (rrun (pNum bs) 0 i err).1 ∧ (rrun (pNum bs) 0 i err).1 ≤ 18446744073709551615 := by
  rcases rrun_cases (pNum bs) 0 i err with ⟨x, j, _, h2, h3⟩ | ⟨c, h1, _⟩
  · rw [h3]; exact pNum_range hb h2
  · rw [h1]; simp
theorem rr_next {bs : List Int} (hb : ∀ c ∈ bs, 0 ≤ c ∧ c < 256) (i : Nat) (err : Int) : 0 ≤ (rrun (pNext bs) 0 i err).1 ∧ (rrun (pNext bs) 0 i err).1 < 256 := by
  rcases rrun_cases (pNext bs) 0 i err with ⟨x, j, _, h2, h3⟩ | ⟨c, h1, _⟩
  · rw [h3]
    unfold pNext at h2
    split at h2
    · rename_i hi
      simp only [Except.ok.injEq, Prod.mk.injEq] at h2
      rw [← h2.1, List.getD_eq_getElem?_getD, List.getElem?_eq_getElem hi]
      exact hb _ (List.getElem_mem hi)
    · cases h2
  · rw [h1]; simp
theorem rr_word {bs : List Int} (hb : ∀ c ∈ bs, 0 ≤ c ∧ c < 256) (i : Nat) (err : Int) : 0 ≤ (rrun (pWord bs) 0 i err).1 ∧ (rrun (pWord bs) 0 i err).1 ≤ 18446744073709551615 := by
  rcases rrun_cases (pWord bs) 0 i err with ⟨x, j, _, h2, h3⟩ | ⟨c, h1, _⟩
  · rw [h3]
    simp only [pWord, pTake] at h2
    split at h2
    · cases h2
    · rename_i l j' h4
      split at h4
      · cases h4
        cases h2
        have := unbe_range ((bs.drop i).take 8) (fun c hc => hb c (List.mem_of_mem_drop (List.mem_of_mem_take hc)))
        have hl : ((bs.drop i).take 8).length ≤ 8 := by simp; omega
        have : (256 : Int) ^ ((bs.drop i).take 8).length ≤ 256 ^ 8 := by exact_mod_cast Nat.pow_le_pow_right (by decide) hl
        omega
      · cases h4
  · rw [h1]; simp
theorem rr_text {bs : List Int} (hb : ∀ c ∈ bs, 0 ≤ c ∧ c < 256) (m : Int) (i : Nat) (err : Int) : (rrun (pText bs m) [] i err).1.length ≤ bs.length ∧ ∀ c ∈ (rrun (pText bs m) [] i err).1, 0 ≤ c ∧ c < 256 := by
  rcases rrun_cases (pText bs m) [] i err with ⟨x, j, _, h2, h3⟩ | ⟨c, h1, _⟩
  · rw [h3]
    unfold pText at h2
    split at h2
    · cases h2
    · unfold pTake at h2
      split at h2
      · cases h2
        exact ⟨by simp; omega, fun c hc => hb c (List.mem_of_mem_drop (List.mem_of_mem_take hc))⟩
      · cases h2
  · rw [h1]; simp
theorem rr_le {α : Type} {bs : List Int} {p : Nat → Except Int (α × Nat)} {z : α} {i : Nat} {err : Int} (hi : i ≤ bs.length) (h : ∀ x j, p i = .ok (x, j) → j ≤ bs.length) : (rrun p z i err).2.1 ≤ bs.length := by
  rcases rrun_cases p z i err with ⟨x, j, _, h2, h3⟩ | ⟨c, h1, _⟩
  · rw [h3]; exact h x j h2
  · rw [h1]; exact hi

end Go.Proofs.Ythmghcjkmmhgnaa.K

namespace Go.Proofs.Ythmghcjkmmhgnaa.K
open Go.RowKit Go.Proofs.YthmghcjkmmhgnaaW.PrintWords Go.Proofs.YthmghcjkmmhgnaaW.PrintLast Go.Proofs.YthmghcjkmmhgnaaW.PrintMore
set_option linter.unusedVariables false
set_option linter.unusedSimpArgs false
set_option maxRecDepth 100000

theorem unfoldI_range {x : Int} (h : 0 ≤ x ∧ x ≤ 18446744073709551615) : -9223372036854775808 ≤ unfoldI x ∧ unfoldI x ≤ 9223372036854775807 := by unfold unfoldI; split <;> omega
end Go.Proofs.Ythmghcjkmmhgnaa.K

namespace Go.Proofs.Ythmghcjkmmhgnaa.K
open Go.RowKit Go.Proofs.YthmghcjkmmhgnaaW.PrintWords Go.Proofs.YthmghcjkmmhgnaaW.PrintLast Go.Proofs.YthmghcjkmmhgnaaW.PrintMore
set_option linter.unusedVariables false
set_option linter.unusedSimpArgs false
set_option maxRecDepth 100000

/-- What one call of a reader answers, and where it stands then: the number, the text, the rest; what Raw hands out. -/
structure GotA where
  x : Int
  s : List Int
  e : Int
  l : List Int
  i : Nat
  err : Int
def pgetA (bs : List Int) (i : Nat) (err kind n : Int) : GotA :=
  if kind = 0 then let r := rrun (pNext bs) 0 i err; ⟨r.1, [], 0, [], r.2.1, r.2.2⟩
  else if kind = 1 then let r := rrun (pNum bs) 0 i err; ⟨r.1, [], 0, [], r.2.1, r.2.2⟩
  else if kind = 2 then let r := rrun (pNum bs) 0 i err; ⟨IntKind.u64.wrap (unfoldI r.1), [], 0, [], r.2.1, r.2.2⟩
  else if kind = 3 then let r := rrun (pWord bs) 0 i err; ⟨r.1, [], 0, [], r.2.1, r.2.2⟩
  else if kind = 4 then let r := rrun (pText bs n) [] i err; ⟨0, r.1, 0, [], r.2.1, r.2.2⟩
  else if kind = 5 then let r := rrun (pRaw bs n) [] i err; ⟨0, r.1, 0, r.1, r.2.1, r.2.2⟩
  else if kind = 6 then let r := rrun (pCount bs n) 0 i err; ⟨r.1, [], 0, [], r.2.1, r.2.2⟩
  else if kind = 7 then ⟨(bs.length : Int) - i, [], 0, [], i, err⟩
  else if kind = 8 then ⟨0, [], err, [], i, err⟩
  else ⟨0, [], rEnd bs i err, [], i, err⟩
theorem rr_count {bs : List Int} (hb : ∀ c ∈ bs, 0 ≤ c ∧ c < 256) (m : Int) (hm : m ≤ 9223372036854775807) (i : Nat) (err : Int) : 0 ≤ (rrun (pCount bs m) 0 i err).1 ∧ (rrun (pCount bs m) 0 i err).1 ≤ 9223372036854775807 := by
  rcases rrun_cases (pCount bs m) 0 i err with ⟨x, j, _, h2, h3⟩ | ⟨c, h1, _⟩
  · rw [h3]
    obtain ⟨h4, h5⟩ := pCount_num h2
    have := pNum_range hb h4
    simp only
    omega
  · rw [h1]; simp
theorem wrap_id {x : Int} (h0 : 0 ≤ x) (h1 : x ≤ 18446744073709551615) : IntKind.u64.wrap x = x := by
  show x % 18446744073709551616 = x
  omega
theorem strOfNums_nil' : strOfNums [] = ⟨#[]⟩ := rfl
theorem chg_drawn0 {S : Nat → Prop} {w w' : World} (h : Drawn0 w w') : Chg S w w' := by obtain ⟨_, rfl⟩ := h; exact (Chg.refl _ _).drewN _
theorem chg_eq {S : Nat → Prop} {w w' : World} (h : w = w') : Chg S w w' := by subst h; exact Chg.refl _ _
theorem cells3 {w : World} {g : Nat} {a b c : Value} {t : TypeId} (h : w.heap[g]? = some (.cells #[a, b, c] t (0, 0))) :
    w.cell? ⟨g, 0, none⟩ = some a ∧ w.cell? ⟨g, 1, none⟩ = some b ∧ w.cell? ⟨g, 2, none⟩ = some c ∧ w.frozen? ⟨g, 0, none⟩ = false ∧ w.frozen? ⟨g, 1, none⟩ = false ∧ w.frozen? ⟨g, 2, none⟩ = false :=
  ⟨blk_cell h 0, blk_cell h 1, blk_cell h 2, blk_frozen h 0, blk_frozen h 1, blk_frozen h 2⟩
theorem set3 {w : World} {g : Nat} {a b c x y z : Value} {t : TypeId} (h : w.heap[g]? = some (.cells #[a, b, c] t (0, 0))) :
    (((w.setCell ⟨g, 0, none⟩ x).setCell ⟨g, 1, none⟩ y).setCell ⟨g, 2, none⟩ z).heap[g]? = some (.cells #[x, y, z] t (0, 0)) ∧
      Chg (fun k => k = g) w (((w.setCell ⟨g, 0, none⟩ x).setCell ⟨g, 1, none⟩ y).setCell ⟨g, 2, none⟩ z) := by
  have h1 := blk_set h 0 x
  have h2 := blk_set h1 1 y
  have h3 := blk_set h2 2 z
  exact ⟨by simpa using h3, (((Chg.refl (fun k => k = g) w).setCell (p := ⟨g, 0, none⟩) (fun _ => rfl) x).setCell (p := ⟨g, 1, none⟩) (fun _ => rfl) y).setCell (p := ⟨g, 2, none⟩) (fun _ => rfl) z⟩
theorem results_cell2 {fn : Func} {c u : Tmp} {t : TypeId} (h : fn.results = #[.cell c t, .tmp u]) (tmps : Array Value) (P : Program) (w : World) (g : Nat) (hp : tmps.getD c undef = .pointer (some ⟨g, 0, none⟩)) (v : Value) (hl : (loadVar t ⟨g, 0, none⟩).run P w = .ok v w) :
    (results fn tmps).run P w = .ok (.tuple #[v, tmps.getD u undef]) w := by
  simp only [results, h]
  rw [Array.getD_eq_getD_getElem?] at hp
  simp [hp, asAddr, hl, Result.andThen]
theorem kit_num (w : World) (x : Int) : Calls Try.prog 32 #[.int .i64 x] w fun e w' => e = .returned (.int .i64 x) ∧ w' = w := by
  go_enter Try.func32, Try.ntmps32
  go_wp2
  go_ret
  exact ⟨rfl, rfl⟩
end Go.Proofs.Ythmghcjkmmhgnaa.K
