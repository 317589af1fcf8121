import Derived.Test.YtbheebcjbolboaaWa
import Derived.Test.YtbheebcjbolboaaPa
import Derived.BigQuiet
import Derived.Recover
import Derived.Defers
import Derived.Laws.BitsAllLaws
namespace Go.Proofs.Ytbheebcjbolboaa.K
open Go.RowKit Go.Proofs.YtbheebcjbolboaaW.PrintWords Go.Proofs.YtbheebcjbolboaaW.PrintLast Go.Proofs.YtbheebcjbolboaaW.PrintMore
set_option linter.unusedVariables false
set_option linter.unusedSimpArgs false
set_option maxRecDepth 100000

/-- A reader: its block, its bytes, its place, its error. -/
def Rd (w : World) (F : Nat → Prop) (g : Nat) (bs : List Int) (i : Nat) (err : Int) : Prop :=
  ∃ A c, w.heap[g]? = some (.cells #[.slice A bs.length c, .int .i64 i, .int .i64 err] 79 (0, 0)) ∧ F g ∧ i ≤ bs.length ∧ bs.length ≤ 140737488355328 ∧ (∀ c ∈ bs, 0 ≤ c ∧ c < 256) ∧
    Kd.R (Kd.int .u8) 5 w 0 (fun k => F k ∧ k ≠ g) (.slice A bs.length c) bs
theorem Rd.chg {w w' : World} {F S : Nat → Prop} {g i : Nat} {bs : List Int} {err : Int} (h : Rd w F g bs i err) (hc : Chg S w w') (hd : ∀ k, k < w.heap.size → F k → ¬ S k) : Rd w' F g bs i err := by
  obtain ⟨A, c, hb, hg, h1, h2, h3, hr⟩ := h
  exact ⟨A, c, hc.blk hb (hd g (blk_lt hb) hg), hg, h1, h2, h3, R_chg hr hc (fun k hk ho => hd k hk ho.1)⟩
theorem Rd.mono {w : World} {F F' : Nat → Prop} {g i : Nat} {bs : List Int} {err : Int} (h : Rd w F g bs i err) (hf : ∀ k, k < w.heap.size → F k → F' k) : Rd w F' g bs i err := by
  obtain ⟨A, c, hb, hg, h1, h2, h3, hr⟩ := h
  exact ⟨A, c, hb, hf g (blk_lt hb) hg, h1, h2, h3, Kd.R_mono (Kd.R_bound hr) (fun k hk => ⟨hf k hk.2.2.1 hk.1.1, hk.1.2⟩)⟩
/-- .. of which the block has been written anew. -/
theorem Rd.put {w w1 w2 : World} {F : Nat → Prop} {g i j : Nat} {bs : List Int} {err err' : Int} (h : Rd w F g bs i err) (hc : Chg (fun k => k = g) w w1)
    (hb : ∀ A c, w.heap[g]? = some (.cells #[.slice A bs.length c, .int .i64 i, .int .i64 err] 79 (0, 0)) → w1.heap[g]? = some (.cells #[.slice A bs.length c, .int .i64 j, .int .i64 err'] 79 (0, 0))) (hj : j ≤ bs.length) : Rd w1 F g bs j err' := by
  obtain ⟨A, c, h0, hg, h1, h2, h3, hr⟩ := h
  exact ⟨A, c, hb A c h0, hg, hj, h2, h3, R_chg hr hc (fun k hk ho e => ho.2 e)⟩
theorem Rd.lt {w : World} {F : Nat → Prop} {g i : Nat} {bs : List Int} {err : Int} (h : Rd w F g bs i err) : g < w.heap.size := by
  obtain ⟨A, c, h0, _⟩ := h
  exact blk_lt h0
/-- What a reader gives up with. -/
def flt (c : Int) : PanicEntry := { v := .iface 82 (.agg #[.int .i64 c]), recovered := false }
/-- How a call ends that reads: by the answer, or by giving up. -/
def Res {α : Type} (enc : α → Value) (w : World) (F : Nat → Prop) (g : Nat) (bs : List Int) (r : Except Int (α × Nat)) (e : Ending) (w' : World) : Prop :=
  Chg (fun k => k = g) w w' ∧ match r with
    | .ok (x, j) => e = .returned (enc x) ∧ Rd w' F g bs j 0
    | .error c => e = .panicked [flt c] ∧ ∃ j, Rd w' F g bs j 0
theorem Res.yes {α : Type} {enc : α → Value} {w w' : World} {F : Nat → Prop} {g : Nat} {bs : List Int} {r : Except Int (α × Nat)} {x : α} {j : Nat} (hr : r = .ok (x, j)) (hc : Chg (fun k => k = g) w w') (h : Rd w' F g bs j 0) : Res enc w F g bs r (.returned (enc x)) w' := by subst hr; exact ⟨hc, rfl, h⟩
theorem Res.no {α : Type} {enc : α → Value} {w w' : World} {F : Nat → Prop} {g : Nat} {bs : List Int} {r : Except Int (α × Nat)} {c : Int} {j : Nat} (hr : r = .error c) (hc : Chg (fun k => k = g) w w') (h : Rd w' F g bs j 0) : Res enc w F g bs r (.panicked [flt c]) w' := by subst hr; exact ⟨hc, rfl, j, h⟩

theorem byte_at {w : World} {A : Option Addr} {n : Nat} {l : List Int} (h : Kd.C (Kd.int .u8) w A n l) (i : Nat) (h1 : i < n) : ∃ ad, A = some ad ∧ w.cell? (ad.add i) = some (.int .u8 (l.getD i 0)) := by
  obtain ⟨ad, c, e, _, hK, hc0⟩ := Kd.C_get h 0 (i : Int) (by omega) (by omega)
  refine ⟨ad, e, ?_⟩
  have hk : c = [Value.int .u8 (l.getD i 0)] := hK
  have := hc0 0 _ (by rw [hk]; rfl)
  have e1 : (Kd.int .u8).sz = 1 := rfl
  simpa [e1] using this
/-- The three cells of a reader. -/
theorem Rd.cells {w : World} {g : Nat} {a b c : Value} (h : w.heap[g]? = some (.cells #[a, b, c] 79 (0, 0))) :
    w.cell? ⟨g, 0, none⟩ = some a ∧ w.cell? ⟨g, 1, none⟩ = some b ∧ w.cell? ⟨g, 2, none⟩ = some c ∧ w.frozen? ⟨g, 0, none⟩ = false ∧ w.frozen? ⟨g, 1, none⟩ = false ∧ w.frozen? ⟨g, 2, none⟩ = false :=
  ⟨blk_cell h 0, blk_cell h 1, blk_cell h 2, blk_frozen h 0, blk_frozen h 1, blk_frozen h 2⟩
theorem rd_next (w : World) (F : Nat → Prop) (g i : Nat) (bs : List Int) (hw : Rd w F g bs i 0) :
    Calls Try.prog 65 #[.pointer (some ⟨g, 0, none⟩)] w (Res (Value.int .u8) w F g bs (pNext bs i)) := by
  have hW := Aside0.mk hw
  obtain ⟨A, c, hb0, hg, hi, hl, hby, hr0⟩ := hw
  obtain ⟨c0, c1, c2, f0, f1, f2⟩ := Rd.cells hb0
  have hb := Aside0.mk hb0
  have hr := Aside0.mk hr0
  have hgA := Aside0.mk hg
  have hbyA := Aside0.mk hby
  clear hb0 hr0 hby hg
  by_cases h : i < bs.length
  · obtain ⟨ad, eA, hat⟩ := byte_at (Kd.R_reads' hr.out).2.2 i h
    subst eA
    have h1 : decide ((bs.length : Int) ≤ (i : Int)) = false := by simp; omega
    go_enter Try.func65, Try.ntmps65
    go_wp2
    go_quiet (fail)
    go_wp2
    generalize hw1 : World.setCell _ _ _ = w1
    have hc1 : Chg (fun k => k = g) w w1 := by rw [← hw1]; exact ((Chg.refl (fun k => k = g) w).drewN _).setCell (p := ⟨g, 1, none⟩) (fun _ => rfl) _
    have b1 : w1.heap[g]? = some (.cells #[.slice (some ad) bs.length c, .int .i64 ((i + 1 : Nat) : Int), .int .i64 0] 79 (0, 0)) := by
      rw [← hw1]
      have := blk_set (w := w.drewN nq) hb.out 1 (.int .i64 ((i : Int) + 1))
      simpa using this
    have hRd : Aside0 (Rd w1 F g bs (i + 1) 0) := ⟨_, c, b1, hgA.out, by omega, hl, hbyA.out, R_chg hr.out hc1 (fun k hk ho e => ho.2 e)⟩
    have hat1 : w1.cell? (ad.add i) = some (.int .u8 (bs.getD i 0)) := by
      have hk := hc1.block (ad.add i).block (World.block_lt_of_cell? w _ hat) (by rw [add_block]; exact (hr.out.1 ad.block rfl).2)
      simpa [World.cell?, hk] using hat
    obtain ⟨d0, d1, d2, g0, g1, g2⟩ := Rd.cells b1
    replace hc1 := Aside0.mk hc1
    replace b1 := Aside0.mk b1
    clear hw1 c0 c1 c2 f0 f1 f2 hat
    have h2 : (0 : Int) ≤ i := by omega
    have h3 : (i : Int) < bs.length := by omega
    go_quiet (fail)
    go_wp2
    go_ret
    exact Res.yes (x := bs[i]) (by simp [pNext, h]) (hc1.out.drewN _) (hRd.out.chg ((Chg.refl (fun _ => False) w1).drewN _) (fun _ _ _ h => h))
  · go_enter Try.func65, Try.ntmps65
    have h1 : decide ((bs.length : Int) ≤ (i : Int)) = true := by simp; omega
    go_wp2
    go_quiet (fail)
    go_wp2
    exact ⟨rfl, Res.no (by simp [pNext, h]) ((Chg.refl _ w).drewN _) (hW.out.chg ((Chg.refl (fun _ => False) w).drewN _) (fun _ _ _ h => h))⟩
theorem and127 (y : Int) (h0 : 0 ≤ y) (h1 : y < 256) : Go.bits .and .u8 y 127 = y % 128 := by
  have h : ∀ z : Fin 256, Go.bits .and .u8 (z.val : Int) 127 = (z.val : Int) % 128 := by decide +kernel
  have e := h ⟨y.toNat, by omega⟩
  simpa [Int.toNat_of_nonneg h0] using e
theorem or_digit (x cc : Int) (s : Nat) (h0 : 0 ≤ x) (h1 : x < 2 ^ s) (hc0 : 0 ≤ cc) (hc1 : cc < 256) (hs : s ≤ 56 ∨ (s = 63 ∧ cc ≤ 1)) :
    bits .or .u64 x (IntKind.u64.wrap (IntKind.u64.wrap (bits .and .u8 cc 127) * 2 ^ s)) = x + cc % 128 * 2 ^ s := by
  have w64 : ∀ n : Int, IntKind.u64.wrap n = n % 18446744073709551616 := fun n => by simp [IntKind.wrap, IntKind.bits, IntKind.signed]
  rw [and127 cc hc0 hc1, w64, w64]
  have e1 : cc % 128 % 18446744073709551616 = cc % 128 := by omega
  rw [e1]
  have hp : (0 : Int) < 2 ^ s := Int.pow_pos (by decide)
  have hm : 0 ≤ cc % 128 * 2 ^ s := Int.mul_nonneg (by omega) (by omega)
  have hfit : cc % 128 * 2 ^ s < 18446744073709551616 := by
    rcases hs with h | ⟨rfl, h⟩
    · have h2 : cc % 128 * 2 ^ s ≤ 127 * 2 ^ s := Int.mul_le_mul_of_nonneg_right (by omega) (by omega)
      have h3 : (2 : Int) ^ s ≤ 2 ^ 56 := by exact_mod_cast Nat.pow_le_pow_right (by decide) h
      omega
    · have h2 : cc % 128 * 2 ^ 63 ≤ 1 * 2 ^ 63 := Int.mul_le_mul_of_nonneg_right (by omega) (by omega)
      omega
  have e2 : cc % 128 * 2 ^ s % 18446744073709551616 = cc % 128 * 2 ^ s := Int.emod_eq_of_lt hm hfit
  have hx2 : x < 18446744073709551616 := by
    have h3 : (2 : Int) ^ s ≤ 2 ^ 63 := by exact_mod_cast Nat.pow_le_pow_right (by decide) (show s ≤ 63 by omega)
    omega
  rw [e2, u64_or x _ h0 hx2 hm hfit]
  obtain ⟨X, rfl⟩ := Int.eq_ofNat_of_zero_le h0
  obtain ⟨D, hD⟩ := Int.eq_ofNat_of_zero_le (show 0 ≤ cc % 128 by omega)
  rw [hD]
  have e3 : ((D : Int) * 2 ^ s).toNat = 2 ^ s * D := by
    have : (D : Int) * 2 ^ s = ((2 ^ s * D : Nat) : Int) := by push_cast; exact Int.mul_comm _ _
    rw [this, Int.toNat_natCast]
  have hXn : X < 2 ^ s := by exact_mod_cast h1
  rw [e3, Int.toNat_natCast, Nat.or_comm, ← Nat.two_pow_add_eq_or_of_lt hXn]
  push_cast
  rw [Int.mul_comm (2 ^ s) (D : Int), Int.add_comm]
theorem rd_number (w : World) (F : Nat → Prop) (g i : Nat) (bs : List Int) (hw : Rd w F g bs i 0) :
    Calls Try.prog 67 #[.pointer (some ⟨g, 0, none⟩)] w (Res (Value.int .u64) w F g bs (pNum bs i)) := by
  have hW := Aside0.mk hw
  have hby : ∀ c ∈ bs, 0 ≤ c ∧ c < 256 := by obtain ⟨_, _, _, _, _, _, h, _⟩ := hw; exact h
  replace hby := Aside0.mk hby
  clear hw
  go_enter Try.func67, Try.ntmps67
  go_wp2
  go_loopw [3, 4] (fun vx vs wr => ∃ (f j s : Nat) (x : Int), vx = .int .u64 x ∧ vs = .int .i64 s ∧ Aside0 (s + 7 * f = 63) ∧ 0 ≤ x ∧ Aside0 (x < 2 ^ s) ∧ Aside0 (pNumGo bs (f + 1) j s x = pNum bs i) ∧ Aside0 (Rd wr F g bs j 0) ∧ Aside0 (Chg (fun k => k = g) w wr)) (fun _ s _ => (70 - intOf s).toNat)
  case atStart => exact ⟨9, i, 0, 0, rfl, rfl, ⟨rfl⟩, by omega, ⟨by decide⟩, ⟨rfl⟩, hW, ⟨Chg.refl _ _⟩⟩
  case round =>
    obtain ⟨f, j, s, x, rfl, rfl, hs, hx0, hx1, hP, hR, hC⟩ := hrel
    obtain ⟨cc, hcc⟩ : ∃ cc, cc = bs.getD j 0 := ⟨_, rfl⟩
    by_cases h : j < bs.length
    · have hp : Aside0 (pNext bs j = .ok (cc, j + 1)) := ⟨by rw [pNext, if_pos h, hcc]⟩
      have hce : 0 ≤ cc ∧ cc < 256 := by
        have := hby.out bs[j] (List.getElem_mem h)
        rw [hcc, List.getD_eq_getElem?_getD, List.getElem?_eq_getElem h]
        exact this
      obtain ⟨hce0, hce1⟩ := hce
      replace hcc := Aside0.mk hcc
      replace h := Aside0.mk h
      have hs' : s ≤ 56 ∨ s = 63 := by have := hs.out; omega
      have hs63 : (s : Int) ≤ 63 := by omega
      replace hs' := Aside0.mk hs'
      have hbad : ∀ c, (cc = 0 ∧ 0 < s) ∨ (s = 63 ∧ 1 < cc) → c = (4 : Int) → pNum bs i = .error c := by
        intro c hh e
        rw [← hP.out, pNumGo, if_pos h.out, ← hcc.out, if_pos hh, e]
      have hgood : ¬ ((cc = 0 ∧ 0 < s) ∨ (s = 63 ∧ 1 < cc)) → cc < 128 → pNum bs i = .ok (x + cc % 128 * 2 ^ s, j + 1) := by
        intro hh e
        rw [← hP.out, pNumGo, if_pos h.out, ← hcc.out, if_neg hh, if_pos e]
      have hmore : ¬ ((cc = 0 ∧ 0 < s) ∨ (s = 63 ∧ 1 < cc)) → ¬ cc < 128 → pNumGo bs f (j + 1) (s + 7) (x + cc % 128 * 2 ^ s) = pNum bs i := by
        intro hh e
        rw [← hP.out, pNumGo.eq_2, if_pos h.out, ← hcc.out, if_neg hh, if_neg e]
      have hor : s ≤ 56 ∨ (s = 63 ∧ cc ≤ 1) → bits .or .u64 x (IntKind.u64.wrap (IntKind.u64.wrap (bits .and .u8 cc 127) * 2 ^ s)) = x + cc % 128 * 2 ^ s := or_digit x cc s hx0 hx1.out hce0 hce1
      replace hbad := Aside0.mk hbad
      replace hgood := Aside0.mk hgood
      replace hmore := Aside0.mk hmore
      replace hor := Aside0.mk hor
      by_cases hz : cc = 0
      · have hz1 : (cc == 0) = true := by simpa using hz
        replace hz := Aside0.mk hz
        by_cases hs0 : s = 0
        · have hs1 : decide (0 < s) = false := by simp; omega
          have h631 : ((s : Int) == 63) = false := by simp; omega
          have hlt : cc < 128 := by have := hz.out; omega
          replace hs0 := Aside0.mk hs0
          go_wp2_with (go_at_call 65; go_must (refine (rd_next _ F g j bs hR.out).mono ?_); go_must (rintro e w1 ⟨hc1, hm⟩); go_must (rw [hp.out] at hm); go_must (obtain ⟨rfl, hR1⟩ := hm); go_must (replace hc1 := Aside0.mk hc1); go_must (replace hR1 := Aside0.mk hR1))
          go_ret
          have e1 := hor.out (.inl (by have := hs0.out; omega))
          have e2 := hgood.out (by have := hs0.out; omega) (by have := hz.out; omega)
          rw [e1]
          exact Res.yes e2 (hC.out.trans hc1.out (fun _ _ h => h)) hR1.out
        · have hs1 : decide (0 < s) = true := by simp; omega
          replace hs0 := Aside0.mk hs0
          go_wp2_with (go_at_call 65; go_must (refine (rd_next _ F g j bs hR.out).mono ?_); go_must (rintro e w1 ⟨hc1, hm⟩); go_must (rw [hp.out] at hm); go_must (obtain ⟨rfl, hR1⟩ := hm); go_must (replace hc1 := Aside0.mk hc1); go_must (replace hR1 := Aside0.mk hR1))
          exact ⟨rfl, Res.no (hbad.out 4 (.inl ⟨hz.out, by have := hs0.out; omega⟩) rfl) (hC.out.trans hc1.out (fun _ _ h => h)) hR1.out⟩
      · have hz1 : (cc == 0) = false := by simpa using hz
        replace hz := Aside0.mk hz
        by_cases h63 : s = 63
        · have h631 : ((s : Int) == 63) = true := by simp; omega
          replace h63 := Aside0.mk h63
          by_cases h1 : 1 < cc
          · have h11 : decide (1 < cc) = true := by simpa using h1
            go_wp2_with (go_at_call 65; go_must (refine (rd_next _ F g j bs hR.out).mono ?_); go_must (rintro e w1 ⟨hc1, hm⟩); go_must (rw [hp.out] at hm); go_must (obtain ⟨rfl, hR1⟩ := hm); go_must (replace hc1 := Aside0.mk hc1); go_must (replace hR1 := Aside0.mk hR1))
            exact ⟨rfl, Res.no (hbad.out 4 (.inr ⟨h63.out, h1⟩) rfl) (hC.out.trans hc1.out (fun _ _ h => h)) hR1.out⟩
          · have h11 : decide (1 < cc) = false := by simpa using h1
            have hlt : decide (cc < 128) = true := by simp; omega
            go_wp2_with (go_at_call 65; go_must (refine (rd_next _ F g j bs hR.out).mono ?_); go_must (rintro e w1 ⟨hc1, hm⟩); go_must (rw [hp.out] at hm); go_must (obtain ⟨rfl, hR1⟩ := hm); go_must (replace hc1 := Aside0.mk hc1); go_must (replace hR1 := Aside0.mk hR1))
            go_ret
            have e1 := hor.out (by have := hs'.out; first | (left; have := hs0.out; omega) | (right; have := h63.out; omega) | (left; have := h63.out; omega))
            have e2 := hgood.out (by first | (have := hs0.out; omega) | (have := h63.out; have := hz.out; omega)) (by have := hce1; first | assumption | (have := hz.out; omega) | omega)
            rw [e1]
            exact Res.yes e2 (hC.out.trans hc1.out (fun _ _ h => h)) hR1.out
        · have h631 : ((s : Int) == 63) = false := by simp; omega
          replace h63 := Aside0.mk h63
          by_cases hlt : cc < 128
          · have hlt1 : decide (cc < 128) = true := by simpa using hlt
            go_wp2_with (go_at_call 65; go_must (refine (rd_next _ F g j bs hR.out).mono ?_); go_must (rintro e w1 ⟨hc1, hm⟩); go_must (rw [hp.out] at hm); go_must (obtain ⟨rfl, hR1⟩ := hm); go_must (replace hc1 := Aside0.mk hc1); go_must (replace hR1 := Aside0.mk hR1))
            go_ret
            have e1 := hor.out (by have := hs'.out; first | (left; have := hs0.out; omega) | (right; have := h63.out; omega) | (left; have := h63.out; omega))
            have e2 := hgood.out (by first | (have := hs0.out; omega) | (have := h63.out; have := hz.out; omega)) (by have := hce1; first | assumption | (have := hz.out; omega) | omega)
            rw [e1]
            exact Res.yes e2 (hC.out.trans hc1.out (fun _ _ h => h)) hR1.out
          · have hlt1 : decide (cc < 128) = false := by simpa using hlt
            go_wp2_with (go_at_call 65; go_must (refine (rd_next _ F g j bs hR.out).mono ?_); go_must (rintro e w1 ⟨hc1, hm⟩); go_must (rw [hp.out] at hm); go_must (obtain ⟨rfl, hR1⟩ := hm); go_must (replace hc1 := Aside0.mk hc1); go_must (replace hR1 := Aside0.mk hR1))
            have e1 := hor.out (by have := hs'.out; have := h63.out; have := hz.out; omega)
            have e2 := hmore.out (by have := h63.out; have := hz.out; omega) (by omega)
            have hf : ∃ f', f = f' + 1 := ⟨f - 1, by have := hs.out; have := h63.out; have := hs'.out; omega⟩
            obtain ⟨f', rfl⟩ := hf
            have hpos : (0 : Int) < 2 ^ s := Int.pow_pos (by decide)
            have hm : 0 ≤ cc % 128 * 2 ^ s := Int.mul_nonneg (by omega) (by omega)
            have hlt2 : x + cc % 128 * 2 ^ s < 2 ^ (s + 7) := by
              have h2 : cc % 128 * 2 ^ s ≤ 127 * 2 ^ s := Int.mul_le_mul_of_nonneg_right (by omega) (by omega)
              have h3 : (2 : Int) ^ (s + 7) = 128 * 2 ^ s := by rw [Int.pow_add]; omega
              have := hx1.out
              omega
            go_roundw
            case measure => simp [intOf]; omega
            case rel => exact ⟨f', j + 1, s + 7, _, by rw [e1], by simp, ⟨by have := hs.out; omega⟩, by omega, ⟨hlt2⟩, ⟨e2⟩, hR1, ⟨hC.out.trans hc1.out (fun _ _ h => h)⟩⟩
    · have hp : Aside0 (pNext bs j = .error 2) := ⟨by rw [pNext, if_neg h]⟩
      replace h := Aside0.mk h
      go_wp2_with (go_at_call 65; go_must (refine (rd_next _ F g j bs hR.out).mono ?_); go_must (rintro e w1 ⟨hc1, hm⟩); go_must (rw [hp.out] at hm); go_must (obtain ⟨rfl, j1, hR1⟩ := hm); go_must (replace hc1 := Aside0.mk hc1); go_must (replace hR1 := Aside0.mk hR1))
      exact ⟨rfl, Res.no (by rw [← hP.out, pNumGo, if_neg h.out]) (hC.out.trans hc1.out (fun _ _ h => h)) hR1.out⟩

end Go.Proofs.Ytbheebcjbolboaa.K
