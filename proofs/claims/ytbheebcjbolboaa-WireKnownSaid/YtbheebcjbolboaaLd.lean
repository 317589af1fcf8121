import Derived.Test.YtbheebcjbolboaaLc
import Derived.Test.YtbheebcjbolboaaPb
namespace Go.Proofs.Ytbheebcjbolboaa.K
open Go.RowKit Go.Proofs.YtbheebcjbolboaaW.PrintWords Go.Proofs.YtbheebcjbolboaaW.PrintLast Go.Proofs.YtbheebcjbolboaaW.PrintMore
set_option linter.unusedVariables false
set_option linter.unusedSimpArgs false
set_option maxRecDepth 100000

theorem putL_pos {kind x : Int} {s : ByteArray} (h0 : 0 ≤ kind) (h4 : kind ≤ 4) : 0 < (putL kind x s).length := by
  unfold putL
  repeat' split
  · simp [be_length]
  · exact digs_pos _ 9
  · exact digs_pos _ 9
  · simp [be_length]
  · rw [List.length_append]; have : 0 < (digs (s.size : Int) 10).length := digs_pos s.size 9; omega
  · omega
theorem digs_in (f : Nat) (y : Int) (h : 0 ≤ y) : ∀ c ∈ digs y f, 0 ≤ c ∧ c < 256 := digs_bytes f y h
theorem bytesOf_in (s : ByteArray) : ∀ c ∈ bytesOf s, 0 ≤ c ∧ c < 256 := by
  intro c hc
  obtain ⟨b, _, rfl⟩ := List.mem_map.1 hc
  have := UInt8.toNat_lt b
  omega
theorem putL_in {kind x : Int} {s : ByteArray} (hx0 : 0 ≤ x) : ∀ c ∈ putL kind x s, 0 ≤ c ∧ c < 256 := by
  have hw : -9223372036854775808 ≤ wrap64 x ∧ wrap64 x ≤ 9223372036854775807 := by unfold wrap64; omega
  unfold putL
  repeat' split
  · exact be_bytes _ _
  · exact digs_in _ _ hx0
  · exact digs_in _ _ (fold_range _ hw.1 hw.2).1
  · exact be_bytes _ _
  · intro c hc
    rcases List.mem_append.1 hc with h | h
    · exact digs_in _ _ (by omega) c h
    · exact bytesOf_in s c h
  · simp
theorem begins_0 {x : Int} {s : ByteArray} {m : Nat} (hm : m < (putL 0 x s).length) : rrun (pNext ((putL 0 x s).take m)) 0 0 0 = (0, 0, 2) := by
  have h : m = 0 := by simp [putL, be_length] at hm; omega
  subst h
  simp [rrun, pNext]
theorem begins_1 {x : Int} {s : ByteArray} {m : Nat} (h0 : 0 ≤ x) (h1 : x ≤ 18446744073709551615) (hm : m < (putL 1 x s).length) : rrun (pNum ((putL 1 x s).take m)) 0 0 0 = (0, 0, 2) := by
  have e : putL 1 x s = digs x 10 := by simp [putL]
  rw [e] at hm ⊢
  simp [rrun, pNum_cut h0 h1 (i := 0) (bs := (digs x 10).take m) rfl hm]
theorem begins_2 {x : Int} {s : ByteArray} {m : Nat} (hm : m < (putL 2 x s).length) : rrun (pNum ((putL 2 x s).take m)) 0 0 0 = (0, 0, 2) := by
  have hw : -9223372036854775808 ≤ wrap64 x ∧ wrap64 x ≤ 9223372036854775807 := by unfold wrap64; omega
  have hf := fold_range _ hw.1 hw.2
  have e : putL 2 x s = digs (fold (wrap64 x)) 10 := by simp [putL]
  rw [e] at hm ⊢
  simp [rrun, pNum_cut hf.1 hf.2 (i := 0) (bs := (digs (fold (wrap64 x)) 10).take m) rfl hm]
theorem begins_3 {x : Int} {s : ByteArray} {m : Nat} (hm : m < (putL 3 x s).length) : rrun (pWord ((putL 3 x s).take m)) 0 0 0 = (0, 0, 2) := by
  have e : putL 3 x s = be x 8 := by simp [putL]
  rw [e] at hm ⊢
  rw [be_length] at hm
  have : pWord ((be x 8).take m) 0 = .error 2 := by
    simp only [pWord, pTake]
    rw [if_neg (by simp [be_length]; omega)]
  simp [rrun, this]
theorem begins_4 {x : Int} {s : ByteArray} {m : Nat} (hs : s.size ≤ 140737488351232) (hm : m < (putL 4 x s).length) : rrun (pText ((putL 4 x s).take m) s.size) ([] : List Int) 0 0 = ([], 0, 2) := by
  have e : putL 4 x s = digs s.size 10 ++ bytesOf s := by simp [putL]
  rw [e] at hm ⊢
  have hp : pText ((digs s.size 10 ++ bytesOf s).take m) s.size 0 = .error 2 := by
    rcases Nat.lt_or_ge m (digs s.size 10).length with h | h
    · have : (digs s.size 10 ++ bytesOf s).take m = (digs s.size 10).take m := List.take_append_of_le_length (by omega)
      rw [this]
      simp [pText, pCount, pNum_cut (y := s.size) (by omega) (by omega) (i := 0) (bs := (digs s.size 10).take m) rfl h]
    · have h2 : (digs s.size 10 ++ bytesOf s).take m = digs s.size 10 ++ (bytesOf s).take (m - (digs s.size 10).length) := by
        rw [List.take_append, List.take_of_length_le h]
      rw [h2]
      have h3 := pNum_digs (y := s.size) (bs := digs s.size 10 ++ (bytesOf s).take (m - (digs s.size 10).length)) (i := 0) (by omega) (by omega) rfl
      simp only [pText, pCount, h3]
      rw [if_neg (by omega)]
      simp only [pTake]
      rw [List.length_append, bytesOf_length] at hm
      rw [if_neg (by simp [bytesOf_length]; omega)]
  simp [rrun, hp]
theorem strOfNums_nil : (strOfNums []).toList.isEmpty = true := by
  rw [show strOfNums [] = ⟨#[]⟩ from by rfl, ByteArray.toList, ByteArray.toList.loop]; rfl
theorem rem_range (n m : Int) (hm : 0 < m) : -m < n.tmod m ∧ n.tmod m < m := by
  rcases Int.le_total 0 n with h | h
  · rw [Int.tmod_eq_emod_of_nonneg h]
    have := Int.emod_nonneg n (show m ≠ 0 by omega)
    have := Int.emod_lt_of_pos n hm
    omega
  · obtain ⟨k, rfl⟩ : ∃ k, n = -k := ⟨-n, by omega⟩
    rw [Int.neg_tmod, Int.tmod_eq_emod_of_nonneg (by omega)]
    have := Int.emod_nonneg k (show m ≠ 0 by omega)
    have := Int.emod_lt_of_pos k hm
    omega

set_option maxHeartbeats 4000000 in
theorem law_begins (w : World) (on kind x n : Int) (s : ByteArray) (hx0 : 0 ≤ x) (hx1 : x ≤ 18446744073709551615) (hs : s.size ≤ 140737488351232) (hn0 : -9223372036854775808 ≤ n) (hn1 : n ≤ 9223372036854775807) :
    Calls Try.prog 10 #[.agg #[.int .i64 on, .int .i64 kind, .int .u64 x, .string s], .int .i64 n] w fun e w' => e = .returned (.bool true) ∧ Below w.heap.size w w' := by
  have hx1A := Aside0.mk hx1
  have hsA := Aside0.mk hs
  clear hx1 hs
  have hch0 := Aside0.mk ((Chg.refl (fun _ => False) w).alloc (.cells #[.int .i64 on, .int .i64 kind, .int .u64 x, .string s] 29))
  have hbox0 := heap_alloc_new w (.cells #[.int .i64 on, .int .i64 kind, .int .u64 x, .string s] 29)
  by_cases h0 : kind = 0
  · subst h0
    have hbox := Aside0.mk hbox0
    go_enter Try.func10, Try.ntmps10
    go_wp2_with fail
    refine (law_written _ on 0 x s hx0 hx1A.out hsA.out).mono ?_
    rintro e w1 ⟨v1, rfl, hr1, hc1⟩
    obtain ⟨A1, n1, cap1, rfl⟩ := R_sl hr1
    have hbox1 := Aside0.mk (hc1.blk hbox.out (fun h => h))
    obtain ⟨p0, p1, p2, p3⟩ := Put.cells hbox1.out
    obtain ⟨q1, qcap, qC1⟩ := Kd.R_reads' hr1
    have hLw : wrL 0 x s = putL 0 x s := by simp [wrL]
    rw [hLw] at q1 qC1
    have hpos := putL_pos (x := x) (s := s) (show (0 : Int) ≤ 0 by decide) (by decide)
    have hl18 := putL_length 0 x s
    have hLin := Aside0.mk (putL_in (kind := 0) (s := s) hx0)
    obtain ⟨L, hL⟩ : ∃ L, putL 0 x s = L := ⟨_, rfl⟩
    rw [hL] at q1 qC1 hpos hl18 hLin
    subst q1
    replace hL := Aside0.mk hL
    have g1 : decide ((L.length : Int) < 1) = false := by simp; omega
    have g2 : ((L.length : Int) == 0) = false := beq_eq_false_iff_ne.2 (by omega)
    obtain ⟨c, hc⟩ : ∃ c, n.tmod (L.length : Int) = c := ⟨_, rfl⟩
    have hcr := rem_range n L.length (by omega)
    rw [hc] at hcr
    obtain ⟨i8, hi8, hz8, hs8, hy8⟩ := info_parts infoU8
    have hcap := Aside0.mk qcap
    have hlr : (L.length : Int) ≤ 9223372036854775807 := by have := hsA.out; omega
    replace hr1 := Aside0.mk hr1
    replace hc1 := Aside0.mk hc1
    have hl18A := Aside0.mk hl18
    replace hl18 := hl18A
    clear hl18A
    obtain ⟨hcr1, hcr2⟩ := hcr
    by_cases hneg : c < 0
    · have hcr : c ≤ 9223372036854775807 := by omega
      have hcl : c < 0 := hneg
      obtain ⟨m, hmc⟩ : ∃ m : Nat, -c = (m : Int) := ⟨(-c).toNat, by omega⟩
      have hml : m < L.length := by omega
      have hrun := cut_to (P := Try.prog) 25 5 .i64 Try.underlying25 hi8 A1 L.length cap1 (-c) (by omega) (by omega) hcap.out
      rw [show (-c : Int).toNat = m from by omega] at hrun
      have hm : Aside0 (m < (putL 0 x s).length) := ⟨by rw [hL.out]; exact hml⟩
      have hbeg := Aside0.mk (begins_0 hm.out)
      rw [hL.out] at hbeg
      have hlt := (show (L.take m).length = m from by simp; omega)
      have hCm : Aside0 (Kd.C (Kd.int .u8) w1 A1 m (L.take m)) := ⟨by have := Kd.C_take qC1 (m := m) (by omega); rwa [hlt] at this⟩
      have hltA := Aside0.mk hlt
      clear hml hlt
      go_wp2_with (first | (go_at_call 22; go_must (refine (rd_new w1 A1 m cap1 (L.take m) hCm.out (by have := hl18.out; have := hsA.out; have := hm.out; rw [hL.out] at this; omega) (fun c hc => hLin.out c (List.mem_of_mem_take hc))).mono ?_); go_must (rintro e w2 ⟨g, rfl, hgs, hR2, hc2⟩); go_must (obtain ⟨r0, r1, r2, r3⟩ := Put.cells (hc2.blk hbox1.out (fun h => h))); go_must (replace hR2 := Aside0.mk hR2); go_must (replace hc2 := Aside0.mk hc2); go_must (replace hgs := Aside0.mk hgs)) | (go_at_call 28; go_must (refine (rd_Byte w2 _ g 0 (L.take m) 0 hR2.out).mono ?_); go_must (rintro e w3 ⟨rfl, hR3, hc3⟩); go_must (rw [hbeg.out] at hR3 ⊢); go_must (replace hR3 := Aside0.mk hR3); go_must (replace hc3 := Aside0.mk hc3)) | (go_at_call 25; go_must (refine (rd_Left _ _ g 0 (L.take m) 2 hR3.out).mono ?_); go_must (rintro e w4 ⟨rfl, nd4, rfl⟩); go_must (rw [hltA.out])) | (go_at_call 24; go_must (refine (rd_Err _ _ g 0 (L.take m) 2 (hR3.out.chg ((Chg.refl (fun _ => False) w3).drewN _) (fun _ _ _ h => h))).mono ?_); go_must (rintro e w5 ⟨rfl, rfl⟩)) | (go_at_call 26; go_must (refine (rd_End _ _ g 0 (L.take m) 2 (hR3.out.chg ((Chg.refl (fun _ => False) w3).drewN _) (fun _ _ _ h => h))).mono ?_); go_must (rintro e w6 ⟨rfl, nd6, rfl⟩)))
      go_ret
      exact ⟨by simp [rEnd], by have hz := hch0.out.size; have hy := hc1.out.size; have hx := hgs.out; have h := (((hch0.out.trans hc1.out (fun _ _ h => h)).trans hc2.out (fun _ _ h => h)).trans hc3.out (fun k hk e => by omega)).below (fun _ _ h => h); repeat (first | exact h | apply pw_below_drewN)⟩
    · have hcr : c ≤ 9223372036854775807 := by omega
      have hcl : 0 ≤ c := by omega
      obtain ⟨m, hmc⟩ : ∃ m : Nat, c = (m : Int) := ⟨(c).toNat, by omega⟩
      have hml : m < L.length := by omega
      have hrun := cut_to (P := Try.prog) 25 5 .i64 Try.underlying25 hi8 A1 L.length cap1 (c) (by omega) (by omega) hcap.out
      rw [show (c : Int).toNat = m from by omega] at hrun
      have hm : Aside0 (m < (putL 0 x s).length) := ⟨by rw [hL.out]; exact hml⟩
      have hbeg := Aside0.mk (begins_0 hm.out)
      rw [hL.out] at hbeg
      have hlt := (show (L.take m).length = m from by simp; omega)
      have hCm : Aside0 (Kd.C (Kd.int .u8) w1 A1 m (L.take m)) := ⟨by have := Kd.C_take qC1 (m := m) (by omega); rwa [hlt] at this⟩
      have hltA := Aside0.mk hlt
      clear hml hlt
      go_wp2_with (first | (go_at_call 22; go_must (refine (rd_new w1 A1 m cap1 (L.take m) hCm.out (by have := hl18.out; have := hsA.out; have := hm.out; rw [hL.out] at this; omega) (fun c hc => hLin.out c (List.mem_of_mem_take hc))).mono ?_); go_must (rintro e w2 ⟨g, rfl, hgs, hR2, hc2⟩); go_must (obtain ⟨r0, r1, r2, r3⟩ := Put.cells (hc2.blk hbox1.out (fun h => h))); go_must (replace hR2 := Aside0.mk hR2); go_must (replace hc2 := Aside0.mk hc2); go_must (replace hgs := Aside0.mk hgs)) | (go_at_call 28; go_must (refine (rd_Byte w2 _ g 0 (L.take m) 0 hR2.out).mono ?_); go_must (rintro e w3 ⟨rfl, hR3, hc3⟩); go_must (rw [hbeg.out] at hR3 ⊢); go_must (replace hR3 := Aside0.mk hR3); go_must (replace hc3 := Aside0.mk hc3)) | (go_at_call 25; go_must (refine (rd_Left _ _ g 0 (L.take m) 2 hR3.out).mono ?_); go_must (rintro e w4 ⟨rfl, nd4, rfl⟩); go_must (rw [hltA.out])) | (go_at_call 24; go_must (refine (rd_Err _ _ g 0 (L.take m) 2 (hR3.out.chg ((Chg.refl (fun _ => False) w3).drewN _) (fun _ _ _ h => h))).mono ?_); go_must (rintro e w5 ⟨rfl, rfl⟩)) | (go_at_call 26; go_must (refine (rd_End _ _ g 0 (L.take m) 2 (hR3.out.chg ((Chg.refl (fun _ => False) w3).drewN _) (fun _ _ _ h => h))).mono ?_); go_must (rintro e w6 ⟨rfl, nd6, rfl⟩)))
      go_ret
      exact ⟨by simp [rEnd], by have hz := hch0.out.size; have hy := hc1.out.size; have hx := hgs.out; have h := (((hch0.out.trans hc1.out (fun _ _ h => h)).trans hc2.out (fun _ _ h => h)).trans hc3.out (fun k hk e => by omega)).below (fun _ _ h => h); repeat (first | exact h | apply pw_below_drewN)⟩
  by_cases h1 : kind = 1
  · subst h1
    have hbox := Aside0.mk hbox0
    go_enter Try.func10, Try.ntmps10
    go_wp2_with fail
    refine (law_written _ on 1 x s hx0 hx1A.out hsA.out).mono ?_
    rintro e w1 ⟨v1, rfl, hr1, hc1⟩
    obtain ⟨A1, n1, cap1, rfl⟩ := R_sl hr1
    have hbox1 := Aside0.mk (hc1.blk hbox.out (fun h => h))
    obtain ⟨p0, p1, p2, p3⟩ := Put.cells hbox1.out
    obtain ⟨q1, qcap, qC1⟩ := Kd.R_reads' hr1
    have hLw : wrL 1 x s = putL 1 x s := by simp [wrL]
    rw [hLw] at q1 qC1
    have hpos := putL_pos (x := x) (s := s) (show (0 : Int) ≤ 1 by decide) (by decide)
    have hl18 := putL_length 1 x s
    have hLin := Aside0.mk (putL_in (kind := 1) (s := s) hx0)
    obtain ⟨L, hL⟩ : ∃ L, putL 1 x s = L := ⟨_, rfl⟩
    rw [hL] at q1 qC1 hpos hl18 hLin
    subst q1
    replace hL := Aside0.mk hL
    have g1 : decide ((L.length : Int) < 1) = false := by simp; omega
    have g2 : ((L.length : Int) == 0) = false := beq_eq_false_iff_ne.2 (by omega)
    obtain ⟨c, hc⟩ : ∃ c, n.tmod (L.length : Int) = c := ⟨_, rfl⟩
    have hcr := rem_range n L.length (by omega)
    rw [hc] at hcr
    obtain ⟨i8, hi8, hz8, hs8, hy8⟩ := info_parts infoU8
    have hcap := Aside0.mk qcap
    have hlr : (L.length : Int) ≤ 9223372036854775807 := by have := hsA.out; omega
    replace hr1 := Aside0.mk hr1
    replace hc1 := Aside0.mk hc1
    have hl18A := Aside0.mk hl18
    replace hl18 := hl18A
    clear hl18A
    obtain ⟨hcr1, hcr2⟩ := hcr
    by_cases hneg : c < 0
    · have hcr : c ≤ 9223372036854775807 := by omega
      have hcl : c < 0 := hneg
      obtain ⟨m, hmc⟩ : ∃ m : Nat, -c = (m : Int) := ⟨(-c).toNat, by omega⟩
      have hml : m < L.length := by omega
      have hrun := cut_to (P := Try.prog) 25 5 .i64 Try.underlying25 hi8 A1 L.length cap1 (-c) (by omega) (by omega) hcap.out
      rw [show (-c : Int).toNat = m from by omega] at hrun
      have hm : Aside0 (m < (putL 1 x s).length) := ⟨by rw [hL.out]; exact hml⟩
      have hbeg := Aside0.mk (begins_1 hx0 hx1A.out hm.out)
      rw [hL.out] at hbeg
      have hlt := (show (L.take m).length = m from by simp; omega)
      have hCm : Aside0 (Kd.C (Kd.int .u8) w1 A1 m (L.take m)) := ⟨by have := Kd.C_take qC1 (m := m) (by omega); rwa [hlt] at this⟩
      have hltA := Aside0.mk hlt
      clear hml hlt
      go_wp2_with (first | (go_at_call 22; go_must (refine (rd_new w1 A1 m cap1 (L.take m) hCm.out (by have := hl18.out; have := hsA.out; have := hm.out; rw [hL.out] at this; omega) (fun c hc => hLin.out c (List.mem_of_mem_take hc))).mono ?_); go_must (rintro e w2 ⟨g, rfl, hgs, hR2, hc2⟩); go_must (obtain ⟨r0, r1, r2, r3⟩ := Put.cells (hc2.blk hbox1.out (fun h => h))); go_must (replace hR2 := Aside0.mk hR2); go_must (replace hc2 := Aside0.mk hc2); go_must (replace hgs := Aside0.mk hgs)) | (go_at_call 29; go_must (refine (rd_Uint w2 _ g 0 (L.take m) 0 hR2.out).mono ?_); go_must (rintro e w3 ⟨rfl, hR3, hc3⟩); go_must (rw [hbeg.out] at hR3 ⊢); go_must (replace hR3 := Aside0.mk hR3); go_must (replace hc3 := Aside0.mk hc3)) | (go_at_call 25; go_must (refine (rd_Left _ _ g 0 (L.take m) 2 hR3.out).mono ?_); go_must (rintro e w4 ⟨rfl, nd4, rfl⟩); go_must (rw [hltA.out])) | (go_at_call 24; go_must (refine (rd_Err _ _ g 0 (L.take m) 2 (hR3.out.chg ((Chg.refl (fun _ => False) w3).drewN _) (fun _ _ _ h => h))).mono ?_); go_must (rintro e w5 ⟨rfl, rfl⟩)) | (go_at_call 26; go_must (refine (rd_End _ _ g 0 (L.take m) 2 (hR3.out.chg ((Chg.refl (fun _ => False) w3).drewN _) (fun _ _ _ h => h))).mono ?_); go_must (rintro e w6 ⟨rfl, nd6, rfl⟩)))
      go_ret
      exact ⟨by simp [rEnd], by have hz := hch0.out.size; have hy := hc1.out.size; have hx := hgs.out; have h := (((hch0.out.trans hc1.out (fun _ _ h => h)).trans hc2.out (fun _ _ h => h)).trans hc3.out (fun k hk e => by omega)).below (fun _ _ h => h); repeat (first | exact h | apply pw_below_drewN)⟩
    · have hcr : c ≤ 9223372036854775807 := by omega
      have hcl : 0 ≤ c := by omega
      obtain ⟨m, hmc⟩ : ∃ m : Nat, c = (m : Int) := ⟨(c).toNat, by omega⟩
      have hml : m < L.length := by omega
      have hrun := cut_to (P := Try.prog) 25 5 .i64 Try.underlying25 hi8 A1 L.length cap1 (c) (by omega) (by omega) hcap.out
      rw [show (c : Int).toNat = m from by omega] at hrun
      have hm : Aside0 (m < (putL 1 x s).length) := ⟨by rw [hL.out]; exact hml⟩
      have hbeg := Aside0.mk (begins_1 hx0 hx1A.out hm.out)
      rw [hL.out] at hbeg
      have hlt := (show (L.take m).length = m from by simp; omega)
      have hCm : Aside0 (Kd.C (Kd.int .u8) w1 A1 m (L.take m)) := ⟨by have := Kd.C_take qC1 (m := m) (by omega); rwa [hlt] at this⟩
      have hltA := Aside0.mk hlt
      clear hml hlt
      go_wp2_with (first | (go_at_call 22; go_must (refine (rd_new w1 A1 m cap1 (L.take m) hCm.out (by have := hl18.out; have := hsA.out; have := hm.out; rw [hL.out] at this; omega) (fun c hc => hLin.out c (List.mem_of_mem_take hc))).mono ?_); go_must (rintro e w2 ⟨g, rfl, hgs, hR2, hc2⟩); go_must (obtain ⟨r0, r1, r2, r3⟩ := Put.cells (hc2.blk hbox1.out (fun h => h))); go_must (replace hR2 := Aside0.mk hR2); go_must (replace hc2 := Aside0.mk hc2); go_must (replace hgs := Aside0.mk hgs)) | (go_at_call 29; go_must (refine (rd_Uint w2 _ g 0 (L.take m) 0 hR2.out).mono ?_); go_must (rintro e w3 ⟨rfl, hR3, hc3⟩); go_must (rw [hbeg.out] at hR3 ⊢); go_must (replace hR3 := Aside0.mk hR3); go_must (replace hc3 := Aside0.mk hc3)) | (go_at_call 25; go_must (refine (rd_Left _ _ g 0 (L.take m) 2 hR3.out).mono ?_); go_must (rintro e w4 ⟨rfl, nd4, rfl⟩); go_must (rw [hltA.out])) | (go_at_call 24; go_must (refine (rd_Err _ _ g 0 (L.take m) 2 (hR3.out.chg ((Chg.refl (fun _ => False) w3).drewN _) (fun _ _ _ h => h))).mono ?_); go_must (rintro e w5 ⟨rfl, rfl⟩)) | (go_at_call 26; go_must (refine (rd_End _ _ g 0 (L.take m) 2 (hR3.out.chg ((Chg.refl (fun _ => False) w3).drewN _) (fun _ _ _ h => h))).mono ?_); go_must (rintro e w6 ⟨rfl, nd6, rfl⟩)))
      go_ret
      exact ⟨by simp [rEnd], by have hz := hch0.out.size; have hy := hc1.out.size; have hx := hgs.out; have h := (((hch0.out.trans hc1.out (fun _ _ h => h)).trans hc2.out (fun _ _ h => h)).trans hc3.out (fun k hk e => by omega)).below (fun _ _ h => h); repeat (first | exact h | apply pw_below_drewN)⟩
  by_cases h2 : kind = 2
  · subst h2
    have hbox := Aside0.mk hbox0
    go_enter Try.func10, Try.ntmps10
    go_wp2_with fail
    refine (law_written _ on 2 x s hx0 hx1A.out hsA.out).mono ?_
    rintro e w1 ⟨v1, rfl, hr1, hc1⟩
    obtain ⟨A1, n1, cap1, rfl⟩ := R_sl hr1
    have hbox1 := Aside0.mk (hc1.blk hbox.out (fun h => h))
    obtain ⟨p0, p1, p2, p3⟩ := Put.cells hbox1.out
    obtain ⟨q1, qcap, qC1⟩ := Kd.R_reads' hr1
    have hLw : wrL 2 x s = putL 2 x s := by simp [wrL]
    rw [hLw] at q1 qC1
    have hpos := putL_pos (x := x) (s := s) (show (0 : Int) ≤ 2 by decide) (by decide)
    have hl18 := putL_length 2 x s
    have hLin := Aside0.mk (putL_in (kind := 2) (s := s) hx0)
    obtain ⟨L, hL⟩ : ∃ L, putL 2 x s = L := ⟨_, rfl⟩
    rw [hL] at q1 qC1 hpos hl18 hLin
    subst q1
    replace hL := Aside0.mk hL
    have g1 : decide ((L.length : Int) < 1) = false := by simp; omega
    have g2 : ((L.length : Int) == 0) = false := beq_eq_false_iff_ne.2 (by omega)
    obtain ⟨c, hc⟩ : ∃ c, n.tmod (L.length : Int) = c := ⟨_, rfl⟩
    have hcr := rem_range n L.length (by omega)
    rw [hc] at hcr
    obtain ⟨i8, hi8, hz8, hs8, hy8⟩ := info_parts infoU8
    have hcap := Aside0.mk qcap
    have hlr : (L.length : Int) ≤ 9223372036854775807 := by have := hsA.out; omega
    replace hr1 := Aside0.mk hr1
    replace hc1 := Aside0.mk hc1
    have hl18A := Aside0.mk hl18
    replace hl18 := hl18A
    clear hl18A
    obtain ⟨hcr1, hcr2⟩ := hcr
    by_cases hneg : c < 0
    · have hcr : c ≤ 9223372036854775807 := by omega
      have hcl : c < 0 := hneg
      obtain ⟨m, hmc⟩ : ∃ m : Nat, -c = (m : Int) := ⟨(-c).toNat, by omega⟩
      have hml : m < L.length := by omega
      have hrun := cut_to (P := Try.prog) 25 5 .i64 Try.underlying25 hi8 A1 L.length cap1 (-c) (by omega) (by omega) hcap.out
      rw [show (-c : Int).toNat = m from by omega] at hrun
      have hm : Aside0 (m < (putL 2 x s).length) := ⟨by rw [hL.out]; exact hml⟩
      have hbeg := Aside0.mk (begins_2 hm.out)
      rw [hL.out] at hbeg
      have hlt := (show (L.take m).length = m from by simp; omega)
      have hCm : Aside0 (Kd.C (Kd.int .u8) w1 A1 m (L.take m)) := ⟨by have := Kd.C_take qC1 (m := m) (by omega); rwa [hlt] at this⟩
      have hltA := Aside0.mk hlt
      clear hml hlt
      go_wp2_with (first | (go_at_call 22; go_must (refine (rd_new w1 A1 m cap1 (L.take m) hCm.out (by have := hl18.out; have := hsA.out; have := hm.out; rw [hL.out] at this; omega) (fun c hc => hLin.out c (List.mem_of_mem_take hc))).mono ?_); go_must (rintro e w2 ⟨g, rfl, hgs, hR2, hc2⟩); go_must (obtain ⟨r0, r1, r2, r3⟩ := Put.cells (hc2.blk hbox1.out (fun h => h))); go_must (replace hR2 := Aside0.mk hR2); go_must (replace hc2 := Aside0.mk hc2); go_must (replace hgs := Aside0.mk hgs)) | (go_at_call 35; go_must (refine (rd_Int w2 _ g 0 (L.take m) 0 hR2.out).mono ?_); go_must (rintro e w3 ⟨rfl, hR3, hc3⟩); go_must (rw [hbeg.out] at hR3 ⊢); go_must (replace hR3 := Aside0.mk hR3); go_must (replace hc3 := Aside0.mk hc3)) | (go_at_call 25; go_must (refine (rd_Left _ _ g 0 (L.take m) 2 hR3.out).mono ?_); go_must (rintro e w4 ⟨rfl, nd4, rfl⟩); go_must (rw [hltA.out])) | (go_at_call 24; go_must (refine (rd_Err _ _ g 0 (L.take m) 2 (hR3.out.chg ((Chg.refl (fun _ => False) w3).drewN _) (fun _ _ _ h => h))).mono ?_); go_must (rintro e w5 ⟨rfl, rfl⟩)) | (go_at_call 26; go_must (refine (rd_End _ _ g 0 (L.take m) 2 (hR3.out.chg ((Chg.refl (fun _ => False) w3).drewN _) (fun _ _ _ h => h))).mono ?_); go_must (rintro e w6 ⟨rfl, nd6, rfl⟩)))
      go_ret
      exact ⟨by simp [rEnd], by have hz := hch0.out.size; have hy := hc1.out.size; have hx := hgs.out; have h := (((hch0.out.trans hc1.out (fun _ _ h => h)).trans hc2.out (fun _ _ h => h)).trans hc3.out (fun k hk e => by omega)).below (fun _ _ h => h); repeat (first | exact h | apply pw_below_drewN)⟩
    · have hcr : c ≤ 9223372036854775807 := by omega
      have hcl : 0 ≤ c := by omega
      obtain ⟨m, hmc⟩ : ∃ m : Nat, c = (m : Int) := ⟨(c).toNat, by omega⟩
      have hml : m < L.length := by omega
      have hrun := cut_to (P := Try.prog) 25 5 .i64 Try.underlying25 hi8 A1 L.length cap1 (c) (by omega) (by omega) hcap.out
      rw [show (c : Int).toNat = m from by omega] at hrun
      have hm : Aside0 (m < (putL 2 x s).length) := ⟨by rw [hL.out]; exact hml⟩
      have hbeg := Aside0.mk (begins_2 hm.out)
      rw [hL.out] at hbeg
      have hlt := (show (L.take m).length = m from by simp; omega)
      have hCm : Aside0 (Kd.C (Kd.int .u8) w1 A1 m (L.take m)) := ⟨by have := Kd.C_take qC1 (m := m) (by omega); rwa [hlt] at this⟩
      have hltA := Aside0.mk hlt
      clear hml hlt
      go_wp2_with (first | (go_at_call 22; go_must (refine (rd_new w1 A1 m cap1 (L.take m) hCm.out (by have := hl18.out; have := hsA.out; have := hm.out; rw [hL.out] at this; omega) (fun c hc => hLin.out c (List.mem_of_mem_take hc))).mono ?_); go_must (rintro e w2 ⟨g, rfl, hgs, hR2, hc2⟩); go_must (obtain ⟨r0, r1, r2, r3⟩ := Put.cells (hc2.blk hbox1.out (fun h => h))); go_must (replace hR2 := Aside0.mk hR2); go_must (replace hc2 := Aside0.mk hc2); go_must (replace hgs := Aside0.mk hgs)) | (go_at_call 35; go_must (refine (rd_Int w2 _ g 0 (L.take m) 0 hR2.out).mono ?_); go_must (rintro e w3 ⟨rfl, hR3, hc3⟩); go_must (rw [hbeg.out] at hR3 ⊢); go_must (replace hR3 := Aside0.mk hR3); go_must (replace hc3 := Aside0.mk hc3)) | (go_at_call 25; go_must (refine (rd_Left _ _ g 0 (L.take m) 2 hR3.out).mono ?_); go_must (rintro e w4 ⟨rfl, nd4, rfl⟩); go_must (rw [hltA.out])) | (go_at_call 24; go_must (refine (rd_Err _ _ g 0 (L.take m) 2 (hR3.out.chg ((Chg.refl (fun _ => False) w3).drewN _) (fun _ _ _ h => h))).mono ?_); go_must (rintro e w5 ⟨rfl, rfl⟩)) | (go_at_call 26; go_must (refine (rd_End _ _ g 0 (L.take m) 2 (hR3.out.chg ((Chg.refl (fun _ => False) w3).drewN _) (fun _ _ _ h => h))).mono ?_); go_must (rintro e w6 ⟨rfl, nd6, rfl⟩)))
      go_ret
      exact ⟨by simp [rEnd], by have hz := hch0.out.size; have hy := hc1.out.size; have hx := hgs.out; have h := (((hch0.out.trans hc1.out (fun _ _ h => h)).trans hc2.out (fun _ _ h => h)).trans hc3.out (fun k hk e => by omega)).below (fun _ _ h => h); repeat (first | exact h | apply pw_below_drewN)⟩
  by_cases h3 : kind = 3
  · subst h3
    have hbox := Aside0.mk hbox0
    go_enter Try.func10, Try.ntmps10
    go_wp2_with fail
    refine (law_written _ on 3 x s hx0 hx1A.out hsA.out).mono ?_
    rintro e w1 ⟨v1, rfl, hr1, hc1⟩
    obtain ⟨A1, n1, cap1, rfl⟩ := R_sl hr1
    have hbox1 := Aside0.mk (hc1.blk hbox.out (fun h => h))
    obtain ⟨p0, p1, p2, p3⟩ := Put.cells hbox1.out
    obtain ⟨q1, qcap, qC1⟩ := Kd.R_reads' hr1
    have hLw : wrL 3 x s = putL 3 x s := by simp [wrL]
    rw [hLw] at q1 qC1
    have hpos := putL_pos (x := x) (s := s) (show (0 : Int) ≤ 3 by decide) (by decide)
    have hl18 := putL_length 3 x s
    have hLin := Aside0.mk (putL_in (kind := 3) (s := s) hx0)
    obtain ⟨L, hL⟩ : ∃ L, putL 3 x s = L := ⟨_, rfl⟩
    rw [hL] at q1 qC1 hpos hl18 hLin
    subst q1
    replace hL := Aside0.mk hL
    have g1 : decide ((L.length : Int) < 1) = false := by simp; omega
    have g2 : ((L.length : Int) == 0) = false := beq_eq_false_iff_ne.2 (by omega)
    obtain ⟨c, hc⟩ : ∃ c, n.tmod (L.length : Int) = c := ⟨_, rfl⟩
    have hcr := rem_range n L.length (by omega)
    rw [hc] at hcr
    obtain ⟨i8, hi8, hz8, hs8, hy8⟩ := info_parts infoU8
    have hcap := Aside0.mk qcap
    have hlr : (L.length : Int) ≤ 9223372036854775807 := by have := hsA.out; omega
    replace hr1 := Aside0.mk hr1
    replace hc1 := Aside0.mk hc1
    have hl18A := Aside0.mk hl18
    replace hl18 := hl18A
    clear hl18A
    obtain ⟨hcr1, hcr2⟩ := hcr
    by_cases hneg : c < 0
    · have hcr : c ≤ 9223372036854775807 := by omega
      have hcl : c < 0 := hneg
      obtain ⟨m, hmc⟩ : ∃ m : Nat, -c = (m : Int) := ⟨(-c).toNat, by omega⟩
      have hml : m < L.length := by omega
      have hrun := cut_to (P := Try.prog) 25 5 .i64 Try.underlying25 hi8 A1 L.length cap1 (-c) (by omega) (by omega) hcap.out
      rw [show (-c : Int).toNat = m from by omega] at hrun
      have hm : Aside0 (m < (putL 3 x s).length) := ⟨by rw [hL.out]; exact hml⟩
      have hbeg := Aside0.mk (begins_3 hm.out)
      rw [hL.out] at hbeg
      have hlt := (show (L.take m).length = m from by simp; omega)
      have hCm : Aside0 (Kd.C (Kd.int .u8) w1 A1 m (L.take m)) := ⟨by have := Kd.C_take qC1 (m := m) (by omega); rwa [hlt] at this⟩
      have hltA := Aside0.mk hlt
      clear hml hlt
      go_wp2_with (first | (go_at_call 22; go_must (refine (rd_new w1 A1 m cap1 (L.take m) hCm.out (by have := hl18.out; have := hsA.out; have := hm.out; rw [hL.out] at this; omega) (fun c hc => hLin.out c (List.mem_of_mem_take hc))).mono ?_); go_must (rintro e w2 ⟨g, rfl, hgs, hR2, hc2⟩); go_must (obtain ⟨r0, r1, r2, r3⟩ := Put.cells (hc2.blk hbox1.out (fun h => h))); go_must (replace hR2 := Aside0.mk hR2); go_must (replace hc2 := Aside0.mk hc2); go_must (replace hgs := Aside0.mk hgs)) | (go_at_call 37; go_must (refine (rd_Word w2 _ g 0 (L.take m) 0 hR2.out).mono ?_); go_must (rintro e w3 ⟨rfl, hR3, hc3⟩); go_must (rw [hbeg.out] at hR3 ⊢); go_must (replace hR3 := Aside0.mk hR3); go_must (replace hc3 := Aside0.mk hc3)) | (go_at_call 25; go_must (refine (rd_Left _ _ g 0 (L.take m) 2 hR3.out).mono ?_); go_must (rintro e w4 ⟨rfl, nd4, rfl⟩); go_must (rw [hltA.out])) | (go_at_call 24; go_must (refine (rd_Err _ _ g 0 (L.take m) 2 (hR3.out.chg ((Chg.refl (fun _ => False) w3).drewN _) (fun _ _ _ h => h))).mono ?_); go_must (rintro e w5 ⟨rfl, rfl⟩)) | (go_at_call 26; go_must (refine (rd_End _ _ g 0 (L.take m) 2 (hR3.out.chg ((Chg.refl (fun _ => False) w3).drewN _) (fun _ _ _ h => h))).mono ?_); go_must (rintro e w6 ⟨rfl, nd6, rfl⟩)))
      go_ret
      exact ⟨by simp [rEnd], by have hz := hch0.out.size; have hy := hc1.out.size; have hx := hgs.out; have h := (((hch0.out.trans hc1.out (fun _ _ h => h)).trans hc2.out (fun _ _ h => h)).trans hc3.out (fun k hk e => by omega)).below (fun _ _ h => h); repeat (first | exact h | apply pw_below_drewN)⟩
    · have hcr : c ≤ 9223372036854775807 := by omega
      have hcl : 0 ≤ c := by omega
      obtain ⟨m, hmc⟩ : ∃ m : Nat, c = (m : Int) := ⟨(c).toNat, by omega⟩
      have hml : m < L.length := by omega
      have hrun := cut_to (P := Try.prog) 25 5 .i64 Try.underlying25 hi8 A1 L.length cap1 (c) (by omega) (by omega) hcap.out
      rw [show (c : Int).toNat = m from by omega] at hrun
      have hm : Aside0 (m < (putL 3 x s).length) := ⟨by rw [hL.out]; exact hml⟩
      have hbeg := Aside0.mk (begins_3 hm.out)
      rw [hL.out] at hbeg
      have hlt := (show (L.take m).length = m from by simp; omega)
      have hCm : Aside0 (Kd.C (Kd.int .u8) w1 A1 m (L.take m)) := ⟨by have := Kd.C_take qC1 (m := m) (by omega); rwa [hlt] at this⟩
      have hltA := Aside0.mk hlt
      clear hml hlt
      go_wp2_with (first | (go_at_call 22; go_must (refine (rd_new w1 A1 m cap1 (L.take m) hCm.out (by have := hl18.out; have := hsA.out; have := hm.out; rw [hL.out] at this; omega) (fun c hc => hLin.out c (List.mem_of_mem_take hc))).mono ?_); go_must (rintro e w2 ⟨g, rfl, hgs, hR2, hc2⟩); go_must (obtain ⟨r0, r1, r2, r3⟩ := Put.cells (hc2.blk hbox1.out (fun h => h))); go_must (replace hR2 := Aside0.mk hR2); go_must (replace hc2 := Aside0.mk hc2); go_must (replace hgs := Aside0.mk hgs)) | (go_at_call 37; go_must (refine (rd_Word w2 _ g 0 (L.take m) 0 hR2.out).mono ?_); go_must (rintro e w3 ⟨rfl, hR3, hc3⟩); go_must (rw [hbeg.out] at hR3 ⊢); go_must (replace hR3 := Aside0.mk hR3); go_must (replace hc3 := Aside0.mk hc3)) | (go_at_call 25; go_must (refine (rd_Left _ _ g 0 (L.take m) 2 hR3.out).mono ?_); go_must (rintro e w4 ⟨rfl, nd4, rfl⟩); go_must (rw [hltA.out])) | (go_at_call 24; go_must (refine (rd_Err _ _ g 0 (L.take m) 2 (hR3.out.chg ((Chg.refl (fun _ => False) w3).drewN _) (fun _ _ _ h => h))).mono ?_); go_must (rintro e w5 ⟨rfl, rfl⟩)) | (go_at_call 26; go_must (refine (rd_End _ _ g 0 (L.take m) 2 (hR3.out.chg ((Chg.refl (fun _ => False) w3).drewN _) (fun _ _ _ h => h))).mono ?_); go_must (rintro e w6 ⟨rfl, nd6, rfl⟩)))
      go_ret
      exact ⟨by simp [rEnd], by have hz := hch0.out.size; have hy := hc1.out.size; have hx := hgs.out; have h := (((hch0.out.trans hc1.out (fun _ _ h => h)).trans hc2.out (fun _ _ h => h)).trans hc3.out (fun k hk e => by omega)).below (fun _ _ h => h); repeat (first | exact h | apply pw_below_drewN)⟩
  by_cases h4 : kind = 4
  · subst h4
    have hbox := Aside0.mk hbox0
    go_enter Try.func10, Try.ntmps10
    go_wp2_with fail
    refine (law_written _ on 4 x s hx0 hx1A.out hsA.out).mono ?_
    rintro e w1 ⟨v1, rfl, hr1, hc1⟩
    obtain ⟨A1, n1, cap1, rfl⟩ := R_sl hr1
    have hbox1 := Aside0.mk (hc1.blk hbox.out (fun h => h))
    obtain ⟨p0, p1, p2, p3⟩ := Put.cells hbox1.out
    obtain ⟨q1, qcap, qC1⟩ := Kd.R_reads' hr1
    have hLw : wrL 4 x s = putL 4 x s := by simp [wrL]
    rw [hLw] at q1 qC1
    have hpos := putL_pos (x := x) (s := s) (show (0 : Int) ≤ 4 by decide) (by decide)
    have hl18 := putL_length 4 x s
    have hLin := Aside0.mk (putL_in (kind := 4) (s := s) hx0)
    obtain ⟨L, hL⟩ : ∃ L, putL 4 x s = L := ⟨_, rfl⟩
    rw [hL] at q1 qC1 hpos hl18 hLin
    subst q1
    replace hL := Aside0.mk hL
    have g1 : decide ((L.length : Int) < 1) = false := by simp; omega
    have g2 : ((L.length : Int) == 0) = false := beq_eq_false_iff_ne.2 (by omega)
    obtain ⟨c, hc⟩ : ∃ c, n.tmod (L.length : Int) = c := ⟨_, rfl⟩
    have hcr := rem_range n L.length (by omega)
    rw [hc] at hcr
    obtain ⟨i8, hi8, hz8, hs8, hy8⟩ := info_parts infoU8
    have hcap := Aside0.mk qcap
    have hlr : (L.length : Int) ≤ 9223372036854775807 := by have := hsA.out; omega
    replace hr1 := Aside0.mk hr1
    replace hc1 := Aside0.mk hc1
    have hl18A := Aside0.mk hl18
    replace hl18 := hl18A
    clear hl18A
    obtain ⟨hcr1, hcr2⟩ := hcr
    by_cases hneg : c < 0
    · have hcr : c ≤ 9223372036854775807 := by omega
      have hcl : c < 0 := hneg
      obtain ⟨m, hmc⟩ : ∃ m : Nat, -c = (m : Int) := ⟨(-c).toNat, by omega⟩
      have hml : m < L.length := by omega
      have hrun := cut_to (P := Try.prog) 25 5 .i64 Try.underlying25 hi8 A1 L.length cap1 (-c) (by omega) (by omega) hcap.out
      rw [show (-c : Int).toNat = m from by omega] at hrun
      have hm : Aside0 (m < (putL 4 x s).length) := ⟨by rw [hL.out]; exact hml⟩
      have hbeg := Aside0.mk (begins_4 hsA.out hm.out)
      rw [hL.out] at hbeg
      have hlt := (show (L.take m).length = m from by simp; omega)
      have hCm : Aside0 (Kd.C (Kd.int .u8) w1 A1 m (L.take m)) := ⟨by have := Kd.C_take qC1 (m := m) (by omega); rwa [hlt] at this⟩
      have hltA := Aside0.mk hlt
      clear hml hlt
      have hse : (strOfNums []).toList.isEmpty = true := strOfNums_nil
      go_wp2_with (first | (go_at_call 22; go_must (refine (rd_new w1 A1 m cap1 (L.take m) hCm.out (by have := hl18.out; have := hsA.out; have := hm.out; rw [hL.out] at this; omega) (fun c hc => hLin.out c (List.mem_of_mem_take hc))).mono ?_); go_must (rintro e w2 ⟨g, rfl, hgs, hR2, hc2⟩); go_must (obtain ⟨r0, r1, r2, r3⟩ := Put.cells (hc2.blk hbox1.out (fun h => h))); go_must (replace hR2 := Aside0.mk hR2); go_must (replace hc2 := Aside0.mk hc2); go_must (replace hgs := Aside0.mk hgs)) | (go_at_call 27; go_must (refine (rd_Text w2 _ g 0 (L.take m) 0 (s.size : Int) (by have := hsA.out; omega) (by have := hsA.out; omega) hR2.out).mono ?_); go_must (rintro e w3 ⟨rfl, hR3, hc3⟩); go_must (rw [hbeg.out] at hR3 ⊢); go_must (replace hR3 := Aside0.mk hR3); go_must (replace hc3 := Aside0.mk hc3)) | (go_at_call 25; go_must (refine (rd_Left _ _ g 0 (L.take m) 2 hR3.out).mono ?_); go_must (rintro e w4 ⟨rfl, nd4, rfl⟩); go_must (rw [hltA.out])) | (go_at_call 24; go_must (refine (rd_Err _ _ g 0 (L.take m) 2 (hR3.out.chg ((Chg.refl (fun _ => False) w3).drewN _) (fun _ _ _ h => h))).mono ?_); go_must (rintro e w5 ⟨rfl, rfl⟩)) | (go_at_call 26; go_must (refine (rd_End _ _ g 0 (L.take m) 2 (hR3.out.chg ((Chg.refl (fun _ => False) w3).drewN _) (fun _ _ _ h => h))).mono ?_); go_must (rintro e w6 ⟨rfl, nd6, rfl⟩)))
      go_ret
      exact ⟨by simp [rEnd], by have hz := hch0.out.size; have hy := hc1.out.size; have hx := hgs.out; have h := (((hch0.out.trans hc1.out (fun _ _ h => h)).trans hc2.out (fun _ _ h => h)).trans hc3.out (fun k hk e => by omega)).below (fun _ _ h => h); repeat (first | exact h | apply pw_below_drewN)⟩
    · have hcr : c ≤ 9223372036854775807 := by omega
      have hcl : 0 ≤ c := by omega
      obtain ⟨m, hmc⟩ : ∃ m : Nat, c = (m : Int) := ⟨(c).toNat, by omega⟩
      have hml : m < L.length := by omega
      have hrun := cut_to (P := Try.prog) 25 5 .i64 Try.underlying25 hi8 A1 L.length cap1 (c) (by omega) (by omega) hcap.out
      rw [show (c : Int).toNat = m from by omega] at hrun
      have hm : Aside0 (m < (putL 4 x s).length) := ⟨by rw [hL.out]; exact hml⟩
      have hbeg := Aside0.mk (begins_4 hsA.out hm.out)
      rw [hL.out] at hbeg
      have hlt := (show (L.take m).length = m from by simp; omega)
      have hCm : Aside0 (Kd.C (Kd.int .u8) w1 A1 m (L.take m)) := ⟨by have := Kd.C_take qC1 (m := m) (by omega); rwa [hlt] at this⟩
      have hltA := Aside0.mk hlt
      clear hml hlt
      have hse : (strOfNums []).toList.isEmpty = true := strOfNums_nil
      go_wp2_with (first | (go_at_call 22; go_must (refine (rd_new w1 A1 m cap1 (L.take m) hCm.out (by have := hl18.out; have := hsA.out; have := hm.out; rw [hL.out] at this; omega) (fun c hc => hLin.out c (List.mem_of_mem_take hc))).mono ?_); go_must (rintro e w2 ⟨g, rfl, hgs, hR2, hc2⟩); go_must (obtain ⟨r0, r1, r2, r3⟩ := Put.cells (hc2.blk hbox1.out (fun h => h))); go_must (replace hR2 := Aside0.mk hR2); go_must (replace hc2 := Aside0.mk hc2); go_must (replace hgs := Aside0.mk hgs)) | (go_at_call 27; go_must (refine (rd_Text w2 _ g 0 (L.take m) 0 (s.size : Int) (by have := hsA.out; omega) (by have := hsA.out; omega) hR2.out).mono ?_); go_must (rintro e w3 ⟨rfl, hR3, hc3⟩); go_must (rw [hbeg.out] at hR3 ⊢); go_must (replace hR3 := Aside0.mk hR3); go_must (replace hc3 := Aside0.mk hc3)) | (go_at_call 25; go_must (refine (rd_Left _ _ g 0 (L.take m) 2 hR3.out).mono ?_); go_must (rintro e w4 ⟨rfl, nd4, rfl⟩); go_must (rw [hltA.out])) | (go_at_call 24; go_must (refine (rd_Err _ _ g 0 (L.take m) 2 (hR3.out.chg ((Chg.refl (fun _ => False) w3).drewN _) (fun _ _ _ h => h))).mono ?_); go_must (rintro e w5 ⟨rfl, rfl⟩)) | (go_at_call 26; go_must (refine (rd_End _ _ g 0 (L.take m) 2 (hR3.out.chg ((Chg.refl (fun _ => False) w3).drewN _) (fun _ _ _ h => h))).mono ?_); go_must (rintro e w6 ⟨rfl, nd6, rfl⟩)))
      go_ret
      exact ⟨by simp [rEnd], by have hz := hch0.out.size; have hy := hc1.out.size; have hx := hgs.out; have h := (((hch0.out.trans hc1.out (fun _ _ h => h)).trans hc2.out (fun _ _ h => h)).trans hc3.out (fun k hk e => by omega)).below (fun _ _ h => h); repeat (first | exact h | apply pw_below_drewN)⟩
  have hch1 := Aside0.mk ((Chg.refl (fun _ => False) w).alloc (.cells #[.int .i64 on, .int .i64 1, .int .u64 x, .string s] 29))
  have hbox := Aside0.mk (heap_alloc_new w (.cells #[.int .i64 on, .int .i64 1, .int .u64 x, .string s] 29))
  replace hch0 := hch1
  clear hch1 hbox0
  by_cases hk : kind < 0
  · have d0 : decide (kind < 0) = true := by simpa using hk
    clear h0 h1 h2 h3 h4 hk
    go_enter Try.func10, Try.ntmps10
    go_wp2_with fail
    refine (law_written _ on 1 x s hx0 hx1A.out hsA.out).mono ?_
    rintro e w1 ⟨v1, rfl, hr1, hc1⟩
    obtain ⟨A1, n1, cap1, rfl⟩ := R_sl hr1
    have hbox1 := Aside0.mk (hc1.blk hbox.out (fun h => h))
    obtain ⟨p0, p1, p2, p3⟩ := Put.cells hbox1.out
    obtain ⟨q1, qcap, qC1⟩ := Kd.R_reads' hr1
    have hLw : wrL 1 x s = putL 1 x s := by simp [wrL]
    rw [hLw] at q1 qC1
    have hpos := putL_pos (x := x) (s := s) (show (0 : Int) ≤ 1 by decide) (by decide)
    have hl18 := putL_length 1 x s
    have hLin := Aside0.mk (putL_in (kind := 1) (s := s) hx0)
    obtain ⟨L, hL⟩ : ∃ L, putL 1 x s = L := ⟨_, rfl⟩
    rw [hL] at q1 qC1 hpos hl18 hLin
    subst q1
    replace hL := Aside0.mk hL
    have g1 : decide ((L.length : Int) < 1) = false := by simp; omega
    have g2 : ((L.length : Int) == 0) = false := beq_eq_false_iff_ne.2 (by omega)
    obtain ⟨c, hc⟩ : ∃ c, n.tmod (L.length : Int) = c := ⟨_, rfl⟩
    have hcr := rem_range n L.length (by omega)
    rw [hc] at hcr
    obtain ⟨i8, hi8, hz8, hs8, hy8⟩ := info_parts infoU8
    have hcap := Aside0.mk qcap
    have hlr : (L.length : Int) ≤ 9223372036854775807 := by have := hsA.out; omega
    replace hr1 := Aside0.mk hr1
    replace hc1 := Aside0.mk hc1
    have hl18A := Aside0.mk hl18
    replace hl18 := hl18A
    clear hl18A
    obtain ⟨hcr1, hcr2⟩ := hcr
    by_cases hneg : c < 0
    · have hcr : c ≤ 9223372036854775807 := by omega
      have hcl : c < 0 := hneg
      obtain ⟨m, hmc⟩ : ∃ m : Nat, -c = (m : Int) := ⟨(-c).toNat, by omega⟩
      have hml : m < L.length := by omega
      have hrun := cut_to (P := Try.prog) 25 5 .i64 Try.underlying25 hi8 A1 L.length cap1 (-c) (by omega) (by omega) hcap.out
      rw [show (-c : Int).toNat = m from by omega] at hrun
      have hm : Aside0 (m < (putL 1 x s).length) := ⟨by rw [hL.out]; exact hml⟩
      have hbeg := Aside0.mk (begins_1 hx0 hx1A.out hm.out)
      rw [hL.out] at hbeg
      have hlt := (show (L.take m).length = m from by simp; omega)
      have hCm : Aside0 (Kd.C (Kd.int .u8) w1 A1 m (L.take m)) := ⟨by have := Kd.C_take qC1 (m := m) (by omega); rwa [hlt] at this⟩
      have hltA := Aside0.mk hlt
      clear hml hlt
      go_wp2_with (first | (go_at_call 22; go_must (refine (rd_new w1 A1 m cap1 (L.take m) hCm.out (by have := hl18.out; have := hsA.out; have := hm.out; rw [hL.out] at this; omega) (fun c hc => hLin.out c (List.mem_of_mem_take hc))).mono ?_); go_must (rintro e w2 ⟨g, rfl, hgs, hR2, hc2⟩); go_must (obtain ⟨r0, r1, r2, r3⟩ := Put.cells (hc2.blk hbox1.out (fun h => h))); go_must (replace hR2 := Aside0.mk hR2); go_must (replace hc2 := Aside0.mk hc2); go_must (replace hgs := Aside0.mk hgs)) | (go_at_call 29; go_must (refine (rd_Uint w2 _ g 0 (L.take m) 0 hR2.out).mono ?_); go_must (rintro e w3 ⟨rfl, hR3, hc3⟩); go_must (rw [hbeg.out] at hR3 ⊢); go_must (replace hR3 := Aside0.mk hR3); go_must (replace hc3 := Aside0.mk hc3)) | (go_at_call 25; go_must (refine (rd_Left _ _ g 0 (L.take m) 2 hR3.out).mono ?_); go_must (rintro e w4 ⟨rfl, nd4, rfl⟩); go_must (rw [hltA.out])) | (go_at_call 24; go_must (refine (rd_Err _ _ g 0 (L.take m) 2 (hR3.out.chg ((Chg.refl (fun _ => False) w3).drewN _) (fun _ _ _ h => h))).mono ?_); go_must (rintro e w5 ⟨rfl, rfl⟩)) | (go_at_call 26; go_must (refine (rd_End _ _ g 0 (L.take m) 2 (hR3.out.chg ((Chg.refl (fun _ => False) w3).drewN _) (fun _ _ _ h => h))).mono ?_); go_must (rintro e w6 ⟨rfl, nd6, rfl⟩)))
      go_ret
      exact ⟨by simp [rEnd], by have hz := hch0.out.size; have hy := hc1.out.size; have hx := hgs.out; have h := (((hch0.out.trans hc1.out (fun _ _ h => h)).trans hc2.out (fun _ _ h => h)).trans hc3.out (fun k hk e => by omega)).below (fun _ _ h => h); repeat (first | exact h | apply pw_below_drewN)⟩
    · have hcr : c ≤ 9223372036854775807 := by omega
      have hcl : 0 ≤ c := by omega
      obtain ⟨m, hmc⟩ : ∃ m : Nat, c = (m : Int) := ⟨(c).toNat, by omega⟩
      have hml : m < L.length := by omega
      have hrun := cut_to (P := Try.prog) 25 5 .i64 Try.underlying25 hi8 A1 L.length cap1 (c) (by omega) (by omega) hcap.out
      rw [show (c : Int).toNat = m from by omega] at hrun
      have hm : Aside0 (m < (putL 1 x s).length) := ⟨by rw [hL.out]; exact hml⟩
      have hbeg := Aside0.mk (begins_1 hx0 hx1A.out hm.out)
      rw [hL.out] at hbeg
      have hlt := (show (L.take m).length = m from by simp; omega)
      have hCm : Aside0 (Kd.C (Kd.int .u8) w1 A1 m (L.take m)) := ⟨by have := Kd.C_take qC1 (m := m) (by omega); rwa [hlt] at this⟩
      have hltA := Aside0.mk hlt
      clear hml hlt
      go_wp2_with (first | (go_at_call 22; go_must (refine (rd_new w1 A1 m cap1 (L.take m) hCm.out (by have := hl18.out; have := hsA.out; have := hm.out; rw [hL.out] at this; omega) (fun c hc => hLin.out c (List.mem_of_mem_take hc))).mono ?_); go_must (rintro e w2 ⟨g, rfl, hgs, hR2, hc2⟩); go_must (obtain ⟨r0, r1, r2, r3⟩ := Put.cells (hc2.blk hbox1.out (fun h => h))); go_must (replace hR2 := Aside0.mk hR2); go_must (replace hc2 := Aside0.mk hc2); go_must (replace hgs := Aside0.mk hgs)) | (go_at_call 29; go_must (refine (rd_Uint w2 _ g 0 (L.take m) 0 hR2.out).mono ?_); go_must (rintro e w3 ⟨rfl, hR3, hc3⟩); go_must (rw [hbeg.out] at hR3 ⊢); go_must (replace hR3 := Aside0.mk hR3); go_must (replace hc3 := Aside0.mk hc3)) | (go_at_call 25; go_must (refine (rd_Left _ _ g 0 (L.take m) 2 hR3.out).mono ?_); go_must (rintro e w4 ⟨rfl, nd4, rfl⟩); go_must (rw [hltA.out])) | (go_at_call 24; go_must (refine (rd_Err _ _ g 0 (L.take m) 2 (hR3.out.chg ((Chg.refl (fun _ => False) w3).drewN _) (fun _ _ _ h => h))).mono ?_); go_must (rintro e w5 ⟨rfl, rfl⟩)) | (go_at_call 26; go_must (refine (rd_End _ _ g 0 (L.take m) 2 (hR3.out.chg ((Chg.refl (fun _ => False) w3).drewN _) (fun _ _ _ h => h))).mono ?_); go_must (rintro e w6 ⟨rfl, nd6, rfl⟩)))
      go_ret
      exact ⟨by simp [rEnd], by have hz := hch0.out.size; have hy := hc1.out.size; have hx := hgs.out; have h := (((hch0.out.trans hc1.out (fun _ _ h => h)).trans hc2.out (fun _ _ h => h)).trans hc3.out (fun k hk e => by omega)).below (fun _ _ h => h); repeat (first | exact h | apply pw_below_drewN)⟩
  · have d0 : decide (kind < 0) = false := by simpa using hk
    have d1 : decide (kind > 4) = true := by simp; omega
    clear h0 h1 h2 h3 h4 hk
    go_enter Try.func10, Try.ntmps10
    go_wp2_with fail
    refine (law_written _ on 1 x s hx0 hx1A.out hsA.out).mono ?_
    rintro e w1 ⟨v1, rfl, hr1, hc1⟩
    obtain ⟨A1, n1, cap1, rfl⟩ := R_sl hr1
    have hbox1 := Aside0.mk (hc1.blk hbox.out (fun h => h))
    obtain ⟨p0, p1, p2, p3⟩ := Put.cells hbox1.out
    obtain ⟨q1, qcap, qC1⟩ := Kd.R_reads' hr1
    have hLw : wrL 1 x s = putL 1 x s := by simp [wrL]
    rw [hLw] at q1 qC1
    have hpos := putL_pos (x := x) (s := s) (show (0 : Int) ≤ 1 by decide) (by decide)
    have hl18 := putL_length 1 x s
    have hLin := Aside0.mk (putL_in (kind := 1) (s := s) hx0)
    obtain ⟨L, hL⟩ : ∃ L, putL 1 x s = L := ⟨_, rfl⟩
    rw [hL] at q1 qC1 hpos hl18 hLin
    subst q1
    replace hL := Aside0.mk hL
    have g1 : decide ((L.length : Int) < 1) = false := by simp; omega
    have g2 : ((L.length : Int) == 0) = false := beq_eq_false_iff_ne.2 (by omega)
    obtain ⟨c, hc⟩ : ∃ c, n.tmod (L.length : Int) = c := ⟨_, rfl⟩
    have hcr := rem_range n L.length (by omega)
    rw [hc] at hcr
    obtain ⟨i8, hi8, hz8, hs8, hy8⟩ := info_parts infoU8
    have hcap := Aside0.mk qcap
    have hlr : (L.length : Int) ≤ 9223372036854775807 := by have := hsA.out; omega
    replace hr1 := Aside0.mk hr1
    replace hc1 := Aside0.mk hc1
    have hl18A := Aside0.mk hl18
    replace hl18 := hl18A
    clear hl18A
    obtain ⟨hcr1, hcr2⟩ := hcr
    by_cases hneg : c < 0
    · have hcr : c ≤ 9223372036854775807 := by omega
      have hcl : c < 0 := hneg
      obtain ⟨m, hmc⟩ : ∃ m : Nat, -c = (m : Int) := ⟨(-c).toNat, by omega⟩
      have hml : m < L.length := by omega
      have hrun := cut_to (P := Try.prog) 25 5 .i64 Try.underlying25 hi8 A1 L.length cap1 (-c) (by omega) (by omega) hcap.out
      rw [show (-c : Int).toNat = m from by omega] at hrun
      have hm : Aside0 (m < (putL 1 x s).length) := ⟨by rw [hL.out]; exact hml⟩
      have hbeg := Aside0.mk (begins_1 hx0 hx1A.out hm.out)
      rw [hL.out] at hbeg
      have hlt := (show (L.take m).length = m from by simp; omega)
      have hCm : Aside0 (Kd.C (Kd.int .u8) w1 A1 m (L.take m)) := ⟨by have := Kd.C_take qC1 (m := m) (by omega); rwa [hlt] at this⟩
      have hltA := Aside0.mk hlt
      clear hml hlt
      go_wp2_with (first | (go_at_call 22; go_must (refine (rd_new w1 A1 m cap1 (L.take m) hCm.out (by have := hl18.out; have := hsA.out; have := hm.out; rw [hL.out] at this; omega) (fun c hc => hLin.out c (List.mem_of_mem_take hc))).mono ?_); go_must (rintro e w2 ⟨g, rfl, hgs, hR2, hc2⟩); go_must (obtain ⟨r0, r1, r2, r3⟩ := Put.cells (hc2.blk hbox1.out (fun h => h))); go_must (replace hR2 := Aside0.mk hR2); go_must (replace hc2 := Aside0.mk hc2); go_must (replace hgs := Aside0.mk hgs)) | (go_at_call 29; go_must (refine (rd_Uint w2 _ g 0 (L.take m) 0 hR2.out).mono ?_); go_must (rintro e w3 ⟨rfl, hR3, hc3⟩); go_must (rw [hbeg.out] at hR3 ⊢); go_must (replace hR3 := Aside0.mk hR3); go_must (replace hc3 := Aside0.mk hc3)) | (go_at_call 25; go_must (refine (rd_Left _ _ g 0 (L.take m) 2 hR3.out).mono ?_); go_must (rintro e w4 ⟨rfl, nd4, rfl⟩); go_must (rw [hltA.out])) | (go_at_call 24; go_must (refine (rd_Err _ _ g 0 (L.take m) 2 (hR3.out.chg ((Chg.refl (fun _ => False) w3).drewN _) (fun _ _ _ h => h))).mono ?_); go_must (rintro e w5 ⟨rfl, rfl⟩)) | (go_at_call 26; go_must (refine (rd_End _ _ g 0 (L.take m) 2 (hR3.out.chg ((Chg.refl (fun _ => False) w3).drewN _) (fun _ _ _ h => h))).mono ?_); go_must (rintro e w6 ⟨rfl, nd6, rfl⟩)))
      go_ret
      exact ⟨by simp [rEnd], by have hz := hch0.out.size; have hy := hc1.out.size; have hx := hgs.out; have h := (((hch0.out.trans hc1.out (fun _ _ h => h)).trans hc2.out (fun _ _ h => h)).trans hc3.out (fun k hk e => by omega)).below (fun _ _ h => h); repeat (first | exact h | apply pw_below_drewN)⟩
    · have hcr : c ≤ 9223372036854775807 := by omega
      have hcl : 0 ≤ c := by omega
      obtain ⟨m, hmc⟩ : ∃ m : Nat, c = (m : Int) := ⟨(c).toNat, by omega⟩
      have hml : m < L.length := by omega
      have hrun := cut_to (P := Try.prog) 25 5 .i64 Try.underlying25 hi8 A1 L.length cap1 (c) (by omega) (by omega) hcap.out
      rw [show (c : Int).toNat = m from by omega] at hrun
      have hm : Aside0 (m < (putL 1 x s).length) := ⟨by rw [hL.out]; exact hml⟩
      have hbeg := Aside0.mk (begins_1 hx0 hx1A.out hm.out)
      rw [hL.out] at hbeg
      have hlt := (show (L.take m).length = m from by simp; omega)
      have hCm : Aside0 (Kd.C (Kd.int .u8) w1 A1 m (L.take m)) := ⟨by have := Kd.C_take qC1 (m := m) (by omega); rwa [hlt] at this⟩
      have hltA := Aside0.mk hlt
      clear hml hlt
      go_wp2_with (first | (go_at_call 22; go_must (refine (rd_new w1 A1 m cap1 (L.take m) hCm.out (by have := hl18.out; have := hsA.out; have := hm.out; rw [hL.out] at this; omega) (fun c hc => hLin.out c (List.mem_of_mem_take hc))).mono ?_); go_must (rintro e w2 ⟨g, rfl, hgs, hR2, hc2⟩); go_must (obtain ⟨r0, r1, r2, r3⟩ := Put.cells (hc2.blk hbox1.out (fun h => h))); go_must (replace hR2 := Aside0.mk hR2); go_must (replace hc2 := Aside0.mk hc2); go_must (replace hgs := Aside0.mk hgs)) | (go_at_call 29; go_must (refine (rd_Uint w2 _ g 0 (L.take m) 0 hR2.out).mono ?_); go_must (rintro e w3 ⟨rfl, hR3, hc3⟩); go_must (rw [hbeg.out] at hR3 ⊢); go_must (replace hR3 := Aside0.mk hR3); go_must (replace hc3 := Aside0.mk hc3)) | (go_at_call 25; go_must (refine (rd_Left _ _ g 0 (L.take m) 2 hR3.out).mono ?_); go_must (rintro e w4 ⟨rfl, nd4, rfl⟩); go_must (rw [hltA.out])) | (go_at_call 24; go_must (refine (rd_Err _ _ g 0 (L.take m) 2 (hR3.out.chg ((Chg.refl (fun _ => False) w3).drewN _) (fun _ _ _ h => h))).mono ?_); go_must (rintro e w5 ⟨rfl, rfl⟩)) | (go_at_call 26; go_must (refine (rd_End _ _ g 0 (L.take m) 2 (hR3.out.chg ((Chg.refl (fun _ => False) w3).drewN _) (fun _ _ _ h => h))).mono ?_); go_must (rintro e w6 ⟨rfl, nd6, rfl⟩)))
      go_ret
      exact ⟨by simp [rEnd], by have hz := hch0.out.size; have hy := hc1.out.size; have hx := hgs.out; have h := (((hch0.out.trans hc1.out (fun _ _ h => h)).trans hc2.out (fun _ _ h => h)).trans hc3.out (fun k hk e => by omega)).below (fun _ _ h => h); repeat (first | exact h | apply pw_below_drewN)⟩

end Go.Proofs.Ytbheebcjbolboaa.K
