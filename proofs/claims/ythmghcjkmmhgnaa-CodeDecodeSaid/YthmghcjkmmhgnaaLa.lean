import Derived.Test.YthmghcjkmmhgnaaRf
namespace Go.Proofs.Ythmghcjkmmhgnaa.K
open Go.RowKit Go.Proofs.YthmghcjkmmhgnaaW.PrintWords Go.Proofs.YthmghcjkmmhgnaaW.PrintLast Go.Proofs.YthmghcjkmmhgnaaW.PrintMore
set_option linter.unusedVariables false
set_option linter.unusedSimpArgs false
set_option maxRecDepth 100000

theorem same_bytes (w : World) (A B : Option Addr) (n m ca cb : Nat) (l1 l2 : List Int) (h1 : Kd.C (Kd.int .u8) w A n l1) (h2 : Kd.C (Kd.int .u8) w B m l2) :
    Calls Try.prog 44 #[.slice A n ca, .slice B m cb] w fun e w' => e = .returned (.bool (decide (l1 = l2))) ∧ Drawn0 w w' := by
  have hn : l1.length = n := h1.1
  have hm : l2.length = m := h2.1
  have hb := h1.2.1
  replace h1 := Aside0.mk h1
  replace h2 := Aside0.mk h2
  by_cases he : n = m
  · subst he
    have hnA := Aside0.mk hn
    have hmA := Aside0.mk hm
    clear hn hm
    have hne : ((n : Int) != (n : Int)) = false := by simp
    go_enter Try.func44, Try.ntmps44
    go_wp2
    go_loopw [5] (fun i wr => ∃ k : Nat, i = .int .i64 k ∧ k ≤ n ∧ Aside0 (l1.take k = l2.take k) ∧ Drawn0 w wr) (fun i _ => n - (intOf i).toNat)
    case atStart => exact ⟨0, rfl, by omega, ⟨by simp⟩, Drawn0.refl _⟩
    case round =>
      obtain ⟨k, rfl, hk, hE, ⟨nd, rfl⟩⟩ := hrel
      by_cases hlt : k < n
      · obtain ⟨a1, e1, x1⟩ := byte_at h1.out k hlt
        obtain ⟨a2, e2, x2⟩ := byte_at h2.out k hlt
        have hk0 : (0 : Int) ≤ k := by omega
        have hk1 : (k : Int) < n := by omega
        subst e1 e2
        have t1 : l1.take (k + 1) = l1.take k ++ [l1.getD k 0] := by
          rw [List.take_succ_eq_append_getElem (by have := hnA.out; omega), List.getD_eq_getElem?_getD, List.getElem?_eq_getElem (by have := hnA.out; omega)]; rfl
        have t2 : l2.take (k + 1) = l2.take k ++ [l2.getD k 0] := by
          rw [List.take_succ_eq_append_getElem (by have := hmA.out; omega), List.getD_eq_getElem?_getD, List.getElem?_eq_getElem (by have := hmA.out; omega)]; rfl
        replace t1 := Aside0.mk t1
        replace t2 := Aside0.mk t2
        generalize l1.getD k 0 = y1 at x1 t1
        generalize l2.getD k 0 = y2 at x2 t2
        by_cases hy : y1 = y2
        · have hy1 : (y1 != y2) = false := by simpa using hy
          replace hy := Aside0.mk hy
          go_wp2
          go_quiet (fail)
          go_wp2
          go_roundw
          case measure => simp [intOf]; omega
          case rel => exact ⟨k + 1, by go_num, by omega, ⟨by rw [t1.out, t2.out, hE.out, hy.out]⟩, by first | exact ⟨⟨_, rfl⟩⟩ | exact Drawn0.step ⟨⟨_, rfl⟩⟩ _⟩
        · have hy1 : (y1 != y2) = true := by simpa using hy
          replace hy := Aside0.mk hy
          go_wp2
          go_quiet (fail)
          go_wp2
          go_ret
          refine ⟨?_, by first | exact ⟨⟨_, rfl⟩⟩ | exact Drawn0.step ⟨⟨_, rfl⟩⟩ _⟩
          have : ¬ l1 = l2 := by
            intro h
            have := t1.out.symm.trans ((congrArg (List.take (k + 1)) h).trans t2.out)
            rw [hE.out] at this
            exact hy.out (by simpa using this)
          simp [this]
      · go_wp2
        go_ret
        refine ⟨?_, ⟨_, rfl⟩⟩
        have hkn : k = n := by omega
        have := hE.out
        rw [List.take_of_length_le (by have := hnA.out; omega), List.take_of_length_le (by have := hmA.out; omega)] at this
        simp [this]
  · have hne : ((n : Int) != (m : Int)) = true := by simp; omega
    have hll : ¬ l1 = l2 := fun h => he (by rw [← hn, ← hm, h])
    replace hll := Aside0.mk hll
    clear hn hm he
    go_enter Try.func44, Try.ntmps44
    go_wp2
    go_ret
    exact ⟨by simp [hll.out], ⟨0, rfl⟩⟩
/-- What one call of a writer writes. -/
def putL (kind x : Int) (s : ByteArray) : List Int :=
  if kind = 0 then be (x % 256) 1 else if kind = 1 then digs x 10 else if kind = 2 then digs (fold (wrap64 x)) 10 else if kind = 3 then be x 8 else if kind = 4 then digs s.size 10 ++ bytesOf s else []
/-- What a new writer writes of one call. -/
def wrL (kind x : Int) (s : ByteArray) : List Int := if kind = 5 then bytesOf s else putL kind x s
theorem C_bytesWorld (W : World) (s : ByteArray) (e : TypeId) (hs : s.size ≤ 140737488355328) : Kd.C (Kd.int .u8) (Lib.bytesWorld W e s) (some ⟨W.heap.size, 0, none⟩) s.size (bytesOf s) :=
  Kd.C_of_reads (bytes_reads W e s (by omega))
theorem chg_bytesWorld (W : World) (s : ByteArray) (e : TypeId) : Chg (fun _ => False) W (Lib.bytesWorld W e s) := Chg.of_below (bytes_below (Below.refl _ _) (Nat.le_refl _) e s)
theorem putL_length (kind x : Int) (s : ByteArray) : (putL kind x s).length ≤ s.size + 18 := by
  unfold putL
  repeat' split
  all_goals (try simp [be_length, bytesOf_length])
  all_goals (first | (have := digs_length 10 x; omega) | (have := digs_length 10 (fold (wrap64 x)); omega) | (have := digs_length 10 s.size; omega) | omega)
theorem Put.cells {w : World} {b : Nat} {v0 v1 v2 v3 : Value} {t : TypeId} (h : w.heap[b]? = some (.cells #[v0, v1, v2, v3] t (0, 0))) : w.cell? ⟨b, 0, none⟩ = some v0 ∧ w.cell? ⟨b, 1, none⟩ = some v1 ∧ w.cell? ⟨b, 2, none⟩ = some v2 ∧ w.cell? ⟨b, 3, none⟩ = some v3 :=
  ⟨blk_cell h 0, blk_cell h 1, blk_cell h 2, blk_cell h 3⟩