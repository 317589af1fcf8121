import Derived.Test.YtknboapnpccliaaWa
import Derived.Test.YtknboapnpccliaaPa
import Derived.BigQuiet
import Derived.Recover
import Derived.Defers
import Derived.Laws.BitsAllLaws
namespace Go.Proofs.Ytknboapnpccliaa.K
open Go.RowKit Go.Proofs.YtknboapnpccliaaW.PrintWords Go.Proofs.YtknboapnpccliaaW.PrintLast Go.Proofs.YtknboapnpccliaaW.PrintMore
set_option linter.unusedVariables false
set_option linter.unusedSimpArgs false
set_option maxRecDepth 100000

/-- A reader: its block, its bytes, its place, its error. -/
def Rd (w : World) (F : Nat → Prop) (g : Nat) (bs : List Int) (i : Nat) (err : Int) : Prop :=
  ∃ A c, w.heap[g]? = some (.cells #[.slice A bs.length c, .int .i64 i, .int .i64 err] 149 (0, 0)) ∧ F g ∧ i ≤ bs.length ∧ bs.length ≤ 140737488355328 ∧ (∀ c ∈ bs, 0 ≤ c ∧ c < 256) ∧
    Kd.R (Kd.int .u8) 5 w 0 (fun k => F k ∧ k ≠ g) (.slice A bs.length c) bs
theorem Rd.chg {w w' : World} {F S : Nat → Prop} {g i : Nat} {bs : List Int} {err : Int} (h : Rd w F g bs i err) (hc : Chg S w w') (hd : ∀ k, k < w.heap.size → F k → ¬ S k) : Rd w' F g bs i err := by
  obtain ⟨A, c, hb, hg, h1, h2, h3, hr⟩ := h
  exact ⟨A, c, hc.blk hb (hd g (blk_lt hb) hg), hg, h1, h2, h3, R_chg hr hc (fun k hk ho => hd k hk ho.1)⟩
theorem Rd.mono {w : World} {F F' : Nat → Prop} {g i : Nat} {bs : List Int} {err : Int} (h : Rd w F g bs i err) (hf : ∀ k, k < w.heap.size → F k → F' k) : Rd w F' g bs i err := by
  obtain ⟨A, c, hb, hg, h1, h2, h3, hr⟩ := h
  exact ⟨A, c, hb, hf g (blk_lt hb) hg, h1, h2, h3, Kd.R_mono (Kd.R_bound hr) (fun k hk => ⟨hf k hk.2.2.1 hk.1.1, hk.1.2⟩)⟩
/-- .. of which the block has been written anew. -/
theorem Rd.put {w w1 w2 : World} {F : Nat → Prop} {g i j : Nat} {bs : List Int} {err err' : Int} (h : Rd w F g bs i err) (hc : Chg (fun k => k = g) w w1)
    (hb : ∀ A c, w.heap[g]? = some (.cells #[.slice A bs.length c, .int .i64 i, .int .i64 err] 149 (0, 0)) → w1.heap[g]? = some (.cells #[.slice A bs.length c, .int .i64 j, .int .i64 err'] 149 (0, 0))) (hj : j ≤ bs.length) : Rd w1 F g bs j err' := by
  obtain ⟨A, c, h0, hg, h1, h2, h3, hr⟩ := h
  exact ⟨A, c, hb A c h0, hg, hj, h2, h3, R_chg hr hc (fun k hk ho e => ho.2 e)⟩
theorem Rd.lt {w : World} {F : Nat → Prop} {g i : Nat} {bs : List Int} {err : Int} (h : Rd w F g bs i err) : g < w.heap.size := by
  obtain ⟨A, c, h0, _⟩ := h
  exact blk_lt h0
/-- What a reader gives up with. -/
def flt (c : Int) : PanicEntry := { v := .iface 152 (.agg #[.int .i64 c]), recovered := false }
/-- How a call ends that reads: by the answer, or by giving up. -/
def Res {α : Type} (enc : α → Value) (w : World) (F : Nat → Prop) (g : Nat) (bs : List Int) (r : Except Int (α × Nat)) (e : Ending) (w' : World) : Prop :=
  Chg (fun k => k = g) w w' ∧ match r with
    | .ok (x, j) => e = .returned (enc x) ∧ Rd w' F g bs j 0
    | .error c => e = .panicked [flt c] ∧ ∃ j, Rd w' F g bs j 0
theorem Res.yes {α : Type} {enc : α → Value} {w w' : World} {F : Nat → Prop} {g : Nat} {bs : List Int} {r : Except Int (α × Nat)} {x : α} {j : Nat} (hr : r = .ok (x, j)) (hc : Chg (fun k => k = g) w w') (h : Rd w' F g bs j 0) : Res enc w F g bs r (.returned (enc x)) w' := by subst hr; exact ⟨hc, rfl, h⟩
theorem Res.no {α : Type} {enc : α → Value} {w w' : World} {F : Nat → Prop} {g : Nat} {bs : List Int} {r : Except Int (α × Nat)} {c : Int} {j : Nat} (hr : r = .error c) (hc : Chg (fun k => k = g) w w') (h : Rd w' F g bs j 0) : Res enc w F g bs r (.panicked [flt c]) w' := by subst hr; exact ⟨hc, rfl, j, h⟩

theorem byte_at {w : World} {A : Option Addr} {n : Nat} {l : List Int} (h : Kd.C (Kd.int .u8) w A n l) (i : Nat) (h1 : i < n) : ∃ ad, A = some ad ∧ w.cell? (ad.add i) = some (.int .u8 (l.getD i 0)) := by
  obtain ⟨ad, c, e, _, hK, hc0⟩ := Kd.C_get h 0 (i : Int) (by omega) (by omega)
  refine ⟨ad, e, ?_⟩
  have hk : c = [Value.int .u8 (l.getD i 0)] := hK
  have := hc0 0 _ (by rw [hk]; rfl)
  have e1 : (Kd.int .u8).sz = 1 := rfl
  simpa [e1] using this
/-- The three cells of a reader. -/
theorem Rd.cells {w : World} {g : Nat} {a b c : Value} (h : w.heap[g]? = some (.cells #[a, b, c] 149 (0, 0))) :
    w.cell? ⟨g, 0, none⟩ = some a ∧ w.cell? ⟨g, 1, none⟩ = some b ∧ w.cell? ⟨g, 2, none⟩ = some c ∧ w.frozen? ⟨g, 0, none⟩ = false ∧ w.frozen? ⟨g, 1, none⟩ = false ∧ w.frozen? ⟨g, 2, none⟩ = false :=
  ⟨blk_cell h 0, blk_cell h 1, blk_cell h 2, blk_frozen h 0, blk_frozen h 1, blk_frozen h 2⟩
theorem and127 (y : Int) (h0 : 0 ≤ y) (h1 : y < 256) : Go.bits .and .u8 y 127 = y % 128 := by
  have h : ∀ z : Fin 256, Go.bits .and .u8 (z.val : Int) 127 = (z.val : Int) % 128 := by decide +kernel
  have e := h ⟨y.toNat, by omega⟩
  simpa [Int.toNat_of_nonneg h0] using e
theorem or_digit (x cc : Int) (s : Nat) (h0 : 0 ≤ x) (h1 : x < 2 ^ s) (hc0 : 0 ≤ cc) (hc1 : cc < 256) (hs : s ≤ 56 ∨ (s = 63 ∧ cc ≤ 1)) :
    bits .or .u64 x (IntKind.u64.wrap (IntKind.u64.wrap (bits .and .u8 cc 127) * 2 ^ s)) = x + cc % 128 * 2 ^ s := by
  have w64 : ∀ n : Int, IntKind.u64.wrap n = n % 18446744073709551616 := fun n => by simp [IntKind.wrap, IntKind.bits, IntKind.signed]
  rw [and127 cc hc0 hc1, w64, w64]
  have e1 : cc % 128 % 18446744073709551616 = cc % 128 := by omega
  rw [e1]
  have hp : (0 : Int) < 2 ^ s := Int.pow_pos (by decide)
  have hm : 0 ≤ cc % 128 * 2 ^ s := Int.mul_nonneg (by omega) (by omega)
  have hfit : cc % 128 * 2 ^ s < 18446744073709551616 := by
    rcases hs with h | ⟨rfl, h⟩
    · have h2 : cc % 128 * 2 ^ s ≤ 127 * 2 ^ s := Int.mul_le_mul_of_nonneg_right (by omega) (by omega)
      have h3 : (2 : Int) ^ s ≤ 2 ^ 56 := by exact_mod_cast Nat.pow_le_pow_right (by decide) h
      omega
    · have h2 : cc % 128 * 2 ^ 63 ≤ 1 * 2 ^ 63 := Int.mul_le_mul_of_nonneg_right (by omega) (by omega)
      omega
  have e2 : cc % 128 * 2 ^ s % 18446744073709551616 = cc % 128 * 2 ^ s := Int.emod_eq_of_lt hm hfit
  have hx2 : x < 18446744073709551616 := by
    have h3 : (2 : Int) ^ s ≤ 2 ^ 63 := by exact_mod_cast Nat.pow_le_pow_right (by decide) (show s ≤ 63 by omega)
    omega
  rw [e2, u64_or x _ h0 hx2 hm hfit]
  obtain ⟨X, rfl⟩ := Int.eq_ofNat_of_zero_le h0
  obtain ⟨D, hD⟩ := Int.eq_ofNat_of_zero_le (show 0 ≤ cc % 128 by omega)
  rw [hD]
  have e3 : ((D : Int) * 2 ^ s).toNat = 2 ^ s * D := by
    have : (D : Int) * 2 ^ s = ((2 ^ s * D : Nat) : Int) := by push_cast; exact Int.mul_comm _ _
    rw [this, Int.toNat_natCast]
  have hXn : X < 2 ^ s := by exact_mod_cast h1
  rw [e3, Int.toNat_natCast, Nat.or_comm, ← Nat.two_pow_add_eq_or_of_lt hXn]
  push_cast
  rw [Int.mul_comm (2 ^ s) (D : Int), Int.add_comm]