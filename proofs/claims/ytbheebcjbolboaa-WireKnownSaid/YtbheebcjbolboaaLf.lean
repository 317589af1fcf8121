import Derived.Test.YtbheebcjbolboaaLe
namespace Go.Proofs.Ytbheebcjbolboaa.K
open Go.RowKit Go.Proofs.YtbheebcjbolboaaW.PrintWords Go.Proofs.YtbheebcjbolboaaW.PrintLast Go.Proofs.YtbheebcjbolboaaW.PrintMore
set_option linter.unusedVariables false
set_option linter.unusedSimpArgs false
set_option maxRecDepth 100000

theorem unfoldI_range {x : Int} (h : 0 ≤ x ∧ x ≤ 18446744073709551615) : -9223372036854775808 ≤ unfoldI x ∧ unfoldI x ≤ 9223372036854775807 := by unfold unfoldI; split <;> omega
set_option maxHeartbeats 4000000
/-- The law's reader and writer behind k rounds. -/
structure OWs (w : World) (a b gw gr : Nat) (bs : List Int) (k : Nat) (wr : World) (FW : Nat → Prop) (l : List Int) (i : Nat) (err : Int) : Prop where
  wrt : Wr wr FW gw l
  rdr : Rd wr (fun j => a ≤ j ∧ j < b) gr bs i err
  ap : ∀ j, FW j → w.heap.size ≤ j ∧ ¬ (a ≤ j ∧ j < b)
  lo : w.heap.size ≤ a
  hi : b ≤ wr.heap.size
  ch : Chg (fun _ => False) w wr
  same : err = 0 → l = bs.take i
  len : l.length ≤ 1048600 * k
theorem OW.step {w : World} {a b gw gr : Nat} {bs : List Int} {k : Nat} {wr : World} {FW : Nat → Prop} {l : List Int} {i : Nat} {err : Int} (r : Int) (h : OWs w a b gw gr bs k wr FW l i err ∧ bs.length ≤ 1048576) {w1 w2 : World}
    (hR : Rd w1 (fun j => a ≤ j ∧ j < b) gr bs (oneW bs i err r).2.1 (oneW bs i err r).2.2) (hc1 : Chg (fun j => j = gr) wr w1) (hW : Wr w2 (New FW w1 w2) gw (l ++ (oneW bs i err r).1)) (hc2 : Chg FW w1 w2) :
    ∃ FW l i err, OWs w a b gw gr bs (k + 1) w2 FW l i err ∧ bs.length ≤ 1048576 := by
  obtain ⟨⟨hw, hr, hap, hlo, hhi, hch, hs, hl⟩, hbl⟩ := h
  obtain ⟨_, _, _, hg, hi', _, hb, _⟩ := hr
  have s1 := hc1.size
  have s2 := hc2.size
  have s0 := hch.size
  refine ⟨New FW w1 w2, _, _, _, ⟨hW, hR.chg hc2 (fun j _ hj hF => (hap j hF).2 hj), ?_, hlo, by omega, ?_, ?_, ?_⟩, hbl⟩
  · rintro j (h | h)
    · exact hap j h
    · omega
  · exact (hch.trans hc1 (fun j hj e => by subst e; have := hg.1; omega)).trans hc2 (fun j hj hF => by have := (hap j hF).1; omega)
  · intro h0
    obtain ⟨e0, e1⟩ := oneW_ok hb hi' h0
    rw [hs e0, e1]
  · have := oneW_len bs i err r hi'
    rw [List.length_append]
    omega
theorem law_oneway (w : World) (A B : Option Addr) (n cap nr capr : Nat) (bs row : List Int) (hC : Kd.C (Kd.int .u8) w A n bs) (hbs0 : ∀ c ∈ bs, 0 ≤ c ∧ c < 256) (hD : Kd.C (Kd.int .i64) w B nr row) (hrow : ∀ c ∈ row, -9223372036854775808 ≤ c ∧ c ≤ 9223372036854775807) (hn : bs.length ≤ 1048576) (hnr : row.length ≤ 1048576) :
    Calls Try.prog 9 #[.slice A n cap, .slice B nr capr] w fun e w' => e = .returned (.bool true) ∧ Below w.heap.size w w' := by
  have hbs := Aside0.mk hbs0
  have hCA := Aside0.mk hC
  have hDA := Aside0.mk hD
  have e0 := hC.1
  have e1 := hD.1
  subst e0
  have hnn : bs.length ≤ 1048576 := hn
  have hnr' : nr ≤ 1048576 := by omega
  have hbl := Aside0.mk hn
  have hrowA := Aside0.mk hrow
  clear hbs0 hC hD e1 hn hnr hrow
  go_enter Try.func9, Try.ntmps9
  go_wp2_with fail
  (refine (law_written _ 0 1 300 ⟨#[]⟩ (by decide) (by decide) (by decide)).mono ?_)
  (rintro e w1 ⟨v1, rfl, hr1, hc1⟩)
  (obtain ⟨A1, n1, cap1, rfl⟩ := R_sl hr1)
  (replace hr1 := Aside0.mk hr1)
  (replace hc1 := Aside0.mk hc1)
  have hL : wrL 1 300 ⟨#[]⟩ = [172, 2] := by decide
  rw [hL] at hr1
  obtain ⟨q1, _, qC1⟩ := Kd.R_reads' hr1.out
  obtain ⟨b1, f1, x1⟩ := byte_at qC1 0 (by decide)
  obtain ⟨b1', f2, x2⟩ := byte_at qC1 1 (by decide)
  have q1' : n1 = 2 := q1
  subst q1' f1
  obtain rfl : b1 = b1' := by injection f2
  have x1' : w1.cell? b1 = some (.int .u8 172) := x1
  have x2' : w1.cell? ⟨b1.block, b1.off + 1, none⟩ = some (.int .u8 2) := x2
  clear f2 qC1 q1 hL x1 x2 hr1
  have hch1 := Aside0.mk hc1.out
  go_wp2_with (first | (go_at_call 31; go_must (refine (wr_new _).mono ?_); go_must (rintro e w2 ⟨rfl, hW2, hw2⟩); go_must (have hc2 := Aside0.mk (show Chg (fun _ => False) w1 w2 by rw [hw2]; exact (Chg.refl _ _).alloc _)); go_must (have hs2 := Aside0.mk (show w2.heap.size = w1.heap.size + 1 by rw [hw2]; simp)); go_must (clear hw2); go_must (replace hW2 := Aside0.mk hW2)) | (go_at_call 22; go_must (refine (rd_new _ A bs.length cap bs (C_chg hCA.out ((hc1.out.trans hc2.out (fun _ _ h => h)).below (fun _ _ h => h))) (by omega) hbs.out).mono ?_); go_must (rintro e w3 ⟨gr, rfl, hgs, hR3, hc3⟩); go_must (replace hR3 := Aside0.mk hR3); go_must (replace hc3 := Aside0.mk hc3); go_must (replace hgs := Aside0.mk hgs)))
  have hO0 : ∃ FW l i err, OWs w w2.heap.size w3.heap.size w1.heap.size gr bs 0 w3 FW l i err ∧ bs.length ≤ 1048576 := by
    have s1 := hc1.out.size
    have s2 := hs2.out
    have s3 := hc3.out.size
    refine ⟨_, [], 0, 0, ⟨hW2.out.chg hc3.out (fun _ _ _ h => h), hR3.out.mono (fun j _ hj => ?_), ?_, by omega, Nat.le_refl _, (hc1.out.trans hc2.out (fun _ _ h => h)).trans hc3.out (fun _ _ h => h), fun _ => rfl, by simp⟩, hbl.out⟩
    · rcases hj with h | h
      · exact h.elim
      · exact h
    · intro j hj
      have hj' : j = w1.heap.size := hj
      omega
  replace hO0 := Aside0.mk hO0
  clear hR3 hc3 hgs hW2 hc2
  generalize w2.heap.size = a at hO0
  generalize hbz : w3.heap.size = b at hO0
  generalize w1.heap.size = gw at hO0
  clear hs2 hbz
  go_loopw [9] (fun i wr => ∃ k : Nat, i = .int .i64 k ∧ k ≤ nr ∧ Aside0 (∃ FW l i err, OWs w a b gw gr bs k wr FW l i err ∧ bs.length ≤ 1048576)) (fun i _ => nr - (intOf i).toNat)
  case atStart => exact ⟨0, rfl, by omega, hO0⟩
  case round =>
    obtain ⟨k, rfl, hk, hO⟩ := hrel
    obtain ⟨FW, l, i, err, hO⟩ := hO.out
    replace hO := Aside0.mk hO
    have hWr := Aside0.mk hO.out.1.wrt
    have hRd := Aside0.mk hO.out.1.rdr
    have hap := Aside0.mk hO.out.1.ap
    by_cases hlt : k < nr
    · obtain ⟨ad, e1, x1⟩ := int_at (C_chg hDA.out (hO.out.1.ch.below (fun _ _ h => h))) k hlt
      subst e1
      have hgr : Aside0 (a ≤ gr ∧ gr < b) := ⟨by obtain ⟨_, _, _, hg, _⟩ := hRd.out; exact hg⟩
      have hl0 : Aside0 (l.length ≤ 1048600 * 1048576) := ⟨by have := hO.out.1.len; omega⟩
      have hl1 : Aside0 (l.length < 140737488355000) := ⟨by have := hl0.out; omega⟩
      have hk0 : (0 : Int) ≤ k := by omega
      have hk1 : (k : Int) < nr := by omega
      generalize row.getD k 0 = r at x1
      by_cases g0 : r = 0
      · subst g0
        go_wp2_with (first | (go_at_call 28; go_must (refine (rd_Byte _ _ gr i bs err hRd.out).mono ?_); go_must (rintro e w1 ⟨rfl, hR1, hc1⟩); go_must (have hW1 := Aside0.mk (hWr.out.chg hc1 (fun j _ hj e => (hap.out j hj).2 (e ▸ hgr.out)))); go_must (replace hR1 := Aside0.mk hR1); go_must (replace hc1 := Aside0.mk hc1)) | (go_at_call 32; go_must (refine (wr_byte _ FW gw l _ hW1.out (rr_next hbs.out i err).1 (rr_next hbs.out i err).2 hl1.out).mono ?_); go_must (rintro e w2 ⟨rfl, hW2, hc2⟩); go_must (replace hW2 := Aside0.mk hW2); go_must (replace hc2 := Aside0.mk hc2)))
        go_roundw
        case measure => first | (simp [intOf]; done) | (simp [intOf]; omega)
        case rel => exact ⟨k + 1, by go_num, by omega, ⟨OW.step 0 hO.out (by unfold oneW; rw [if_pos rfl]; exact hR1.out) hc1.out (by unfold oneW; rw [if_pos rfl]; exact hW2.out) hc2.out⟩⟩
      have t0 : (r == 0) = false := by simpa using g0
      by_cases g1 : r = 1
      · subst g1
        go_wp2_with (first | (go_at_call 29; go_must (refine (rd_Uint _ _ gr i bs err hRd.out).mono ?_); go_must (rintro e w1 ⟨rfl, hR1, hc1⟩); go_must (have hW1 := Aside0.mk (hWr.out.chg hc1 (fun j _ hj e => (hap.out j hj).2 (e ▸ hgr.out)))); go_must (replace hR1 := Aside0.mk hR1); go_must (replace hc1 := Aside0.mk hc1)) | (go_at_call 33; go_must (refine (wr_uint _ FW gw l _ hW1.out (rr_num hbs.out i err).1 (rr_num hbs.out i err).2 hl1.out).mono ?_); go_must (rintro e w2 ⟨rfl, hW2, hc2⟩); go_must (replace hW2 := Aside0.mk hW2); go_must (replace hc2 := Aside0.mk hc2)))
        go_roundw
        case measure => first | (simp [intOf]; done) | (simp [intOf]; omega)
        case rel => exact ⟨k + 1, by go_num, by omega, ⟨OW.step 1 hO.out (by unfold oneW; rw [if_neg g0, if_pos rfl]; exact hR1.out) hc1.out (by unfold oneW; rw [if_neg g0, if_pos rfl]; exact hW2.out) hc2.out⟩⟩
      have t1 : (r == 1) = false := by simpa using g1
      by_cases g2 : r = 2
      · subst g2
        go_wp2_with (first | (go_at_call 35; go_must (refine (rd_Int _ _ gr i bs err hRd.out).mono ?_); go_must (rintro e w1 ⟨rfl, hR1, hc1⟩); go_must (have hW1 := Aside0.mk (hWr.out.chg hc1 (fun j _ hj e => (hap.out j hj).2 (e ▸ hgr.out)))); go_must (replace hR1 := Aside0.mk hR1); go_must (replace hc1 := Aside0.mk hc1)) | (go_at_call 34; go_must (refine (wr_int _ FW gw l _ hW1.out (unfoldI_range (rr_num hbs.out i err)).1 (unfoldI_range (rr_num hbs.out i err)).2 hl1.out).mono ?_); go_must (rintro e w2 ⟨rfl, hW2, hc2⟩); go_must (rw [fold_unfold (rr_num hbs.out i err).1] at hW2); go_must (replace hW2 := Aside0.mk hW2); go_must (replace hc2 := Aside0.mk hc2)))
        go_roundw
        case measure => first | (simp [intOf]; done) | (simp [intOf]; omega)
        case rel => exact ⟨k + 1, by go_num, by omega, ⟨OW.step 2 hO.out (by unfold oneW; rw [if_neg g0, if_neg g1, if_pos rfl]; exact hR1.out) hc1.out (by unfold oneW; rw [if_neg g0, if_neg g1, if_pos rfl]; exact hW2.out) hc2.out⟩⟩
      have t2 : (r == 2) = false := by simpa using g2
      by_cases g3 : r = 3
      · subst g3
        go_wp2_with (first | (go_at_call 37; go_must (refine (rd_Word _ _ gr i bs err hRd.out).mono ?_); go_must (rintro e w1 ⟨rfl, hR1, hc1⟩); go_must (have hW1 := Aside0.mk (hWr.out.chg hc1 (fun j _ hj e => (hap.out j hj).2 (e ▸ hgr.out)))); go_must (replace hR1 := Aside0.mk hR1); go_must (replace hc1 := Aside0.mk hc1)) | (go_at_call 36; go_must (refine (wr_word _ FW gw l _ hW1.out (rr_word hbs.out i err).1 hl1.out).mono ?_); go_must (rintro e w2 ⟨rfl, hW2, hc2⟩); go_must (replace hW2 := Aside0.mk hW2); go_must (replace hc2 := Aside0.mk hc2)))
        go_roundw
        case measure => first | (simp [intOf]; done) | (simp [intOf]; omega)
        case rel => exact ⟨k + 1, by go_num, by omega, ⟨OW.step 3 hO.out (by unfold oneW; rw [if_neg g0, if_neg g1, if_neg g2, if_pos rfl]; exact hR1.out) hc1.out (by unfold oneW; rw [if_neg g0, if_neg g1, if_neg g2, if_pos rfl]; exact hW2.out) hc2.out⟩⟩
      have t3 : (r == 3) = false := by simpa using g3
      go_wp2_with (first | (go_at_call 27; go_must (refine (rd_Text _ _ gr i bs err (bs.length : Int) (by omega) (by have := hbl.out; omega) hRd.out).mono ?_); go_must (rintro e w1 ⟨rfl, hR1, hc1⟩); go_must (have hW1 := Aside0.mk (hWr.out.chg hc1 (fun j _ hj e => (hap.out j hj).2 (e ▸ hgr.out)))); go_must (replace hR1 := Aside0.mk hR1); go_must (replace hc1 := Aside0.mk hc1)) | (go_at_call 38; go_must (refine (wr_text _ FW gw l _ hW1.out (by rw [strOfNums_size]; have := (rr_text hbs.out bs.length i err).1; have := hbl.out; omega) (by rw [strOfNums_size]; have := (rr_text hbs.out bs.length i err).1; have := hbl.out; have := hl0.out; omega)).mono ?_); go_must (rintro e w2 ⟨rfl, hW2, hc2⟩); go_must (rw [bytesOf_strOfNums (rr_text hbs.out bs.length i err).2, strOfNums_size, List.append_assoc] at hW2); go_must (replace hW2 := Aside0.mk hW2); go_must (replace hc2 := Aside0.mk hc2)))
      go_roundw
      case measure => first | (simp [intOf]; done) | (simp [intOf]; omega)
      case rel => exact ⟨k + 1, by go_num, by omega, ⟨OW.step r hO.out (by unfold oneW; rw [if_neg g0, if_neg g1, if_neg g2, if_neg g3]; exact hR1.out) hc1.out (by unfold oneW; rw [if_neg g0, if_neg g1, if_neg g2, if_neg g3]; exact hW2.out) hc2.out⟩⟩
    · obtain rfl : k = nr := by omega
      by_cases hE : rEnd bs i err = 0
      · have hE0 : err = 0 := by unfold rEnd at hE; split at hE <;> omega
        have hE1 : l = bs := by
          have h1 := hO.out.1.same hE0
          have h2 : ¬ i < bs.length := by unfold rEnd at hE; split at hE <;> omega
          rw [h1, List.take_of_length_le (by omega)]
        subst hE1
        go_wp2_with (first | (go_at_call 26; go_must (refine (rd_End _ _ gr i l err hRd.out).mono ?_); go_must (rintro e w1 ⟨rfl, nd, rfl⟩); go_must (rw [hE])) | (go_at_call 39; go_must (refine (wr_done _ FW gw l (hWr.out.chg ((Chg.refl (fun _ => False) _).drewN _) (fun _ _ _ h => h)) (by have := hbl.out; omega)).mono ?_); go_must (rintro e w4 ⟨v4, rfl, hr4, hc4⟩); go_must (obtain ⟨A4, n4, cap4, rfl⟩ := R_sl hr4); go_must (obtain ⟨q4, _, qC4⟩ := Kd.R_reads' hr4); go_must (rw [← q4] at qC4); go_must (replace q4 := Aside0.mk q4); go_must (replace qC4 := Aside0.mk qC4); go_must (replace hr4 := Aside0.mk hr4); go_must (have hch4 := Aside0.mk ((hO.out.1.ch.drewN nd).trans hc4 (fun _ _ h => h))); go_must (replace hc4 := Aside0.mk hc4)) | (go_at_call 14; go_must (refine (same_bytes w4 A4 A n4 l.length cap4 cap l l qC4.out (C_chg hCA.out (hch4.out.below (fun _ _ h => h)))).mono ?_); go_must (rintro e w5 ⟨rfl, nd5, rfl⟩)))
        go_ret
        exact ⟨by simp, by have h := hch4.out.below (fun _ _ h => h); repeat (first | exact h | apply pw_below_drewN)⟩
      · have hE0 : (rEnd bs i err != 0) = true := by simpa using hE
        go_wp2_with (go_at_call 26; go_must (refine (rd_End _ _ gr i bs err hRd.out).mono ?_); go_must (rintro e w1 ⟨rfl, nd, rfl⟩))
        go_ret
        exact ⟨by simp, by have h := hO.out.1.ch.below (fun _ _ h => h); repeat (first | exact h | apply pw_below_drewN)⟩

end Go.Proofs.Ytbheebcjbolboaa.K
