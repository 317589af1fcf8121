import Derived.Test.YthmghcjkmmhgnaaFd
import Derived.BigQuiet
import Derived.IntWalk
import Derived.Deep.RegionWith
namespace Go.Proofs.Ythmghcjkmmhgnaa.K
open Go.RowKit Go.Proofs.YthmghcjkmmhgnaaW.PrintWords Go.Proofs.YthmghcjkmmhgnaaW.PrintLast Go.Proofs.YthmghcjkmmhgnaaW.PrintMore
set_option linter.unusedVariables false
set_option linter.unusedSimpArgs false
set_option maxRecDepth 100000

theorem next_cut {bs : List Int} {i m : Nat} {op a : Int} (hd : bs.drop i = (putP op a).take m) (hm0 : 0 < m) (hm : m < (putP op a).length) (he : efP op a = true) (a0 : -9223372036854775808 ≤ a) (a1 : a ≤ 9223372036854775807) : nextP bs i = .error 2 := by
  obtain ⟨b0, b1, _⟩ := rowP_bounds op
  have he' := he
  unfold efP at he'
  rw [Bool.and_eq_true] at he'
  obtain ⟨ho, hr⟩ := he'
  have hput : putP op a = op :: (putP op a).tail := by simp [putP]
  obtain ⟨m, rfl⟩ : ∃ m', m = m' + 1 := ⟨m - 1, by omega⟩
  rw [hput, List.take_succ_cons] at hd
  have hi : i < bs.length := by
    rcases Nat.lt_or_ge i bs.length with h | h
    · exact h
    · rw [List.drop_eq_nil_of_le h] at hd; cases hd
  rw [drop_at hi] at hd
  injection hd with h1 h2
  rw [hput, List.length_cons] at hm
  unfold nextP
  rw [h1, if_pos ho]
  by_cases k0 : (rowP op).kind = 0
  · have : (putP op a).tail = [] := by unfold putP; rw [k0]; rfl
    rw [this] at hm; simp at hm
  · rw [if_neg k0]
    by_cases k1 : (rowP op).kind = 1
    · have ht : (putP op a).tail = digs (fold a) 10 := by unfold putP; rw [if_pos k1]; rfl
      obtain ⟨f0, f1⟩ := fold_range a a0 a1
      rw [ht] at h2 hm
      rw [pNum_cut f0 f1 h2 (by omega)]
    · have ht : (putP op a).tail = digs a 10 := by unfold putP; rw [if_neg k1, if_neg k0]; rfl
      obtain ⟨s0, s1⟩ := right_small b0 b1 k1 hr
      rw [ht] at h2 hm
      rw [pNum_cut s0 (by omega) h2 (by omega)]
/-- A beginning of a list's bytes. -/
theorem dec_cut {l : List Instr} {n k : Nat} (ho : okL l = true) (hr : ∀ x ∈ l, -9223372036854775808 ≤ x.a ∧ x.a ≤ 9223372036854775807) (hl : l.length ≤ 2000) (hn : n ≤ (flatL l).length) (hk : k ≤ l.length) (hat : (flatL (l.take k)).length ≤ n)
    (hstop : ∀ x, l[k]? = some x → n < (flatL (l.take k)).length + (putP x.op x.a).length) : decP ((flatL l).take n) = if (flatL (l.take k)).length < n then ([], 2) else (l.take k, 0) := by
  have hsplit : flatL l = flatL (l.take k) ++ flatL (l.drop k) := by rw [← flatL_append, List.take_append_drop]
  have hd : ((flatL l).take n).drop 0 = flatL (l.take k) ++ (flatL (l.drop k)).take (n - (flatL (l.take k)).length) := by
    rw [List.drop_zero, hsplit, List.take_append, List.take_of_length_le hat]
  have hot : okL (l.take k) = true := by
    have h := ho
    rw [← List.take_append_drop k l, okL_append, Bool.and_eq_true] at h
    exact h.1
  have hlen : ((flatL l).take n).length = n := by rw [List.length_take]; omega
  obtain ⟨f', g1, g2, g3, g4⟩ := dec_fwd (l.take k) _ 0 (((flatL l).take n).length + 1) [] hd hot (fun x hx => hr x (List.mem_of_mem_take hx)) (by simp; omega) (by omega) (by omega)
  rw [Nat.zero_add] at g1 g2 g3 g4
  rw [hlen] at g1 g2
  unfold decP
  rw [g4, List.nil_append]
  split
  · rename_i hlt
    have hkl : k < l.length := by
      rcases Nat.lt_or_ge k l.length with h | h
      · exact h
      · rw [List.take_of_length_le h] at hlt; omega
    have hx : l[k]? = some l[k] := List.getElem?_eq_getElem hkl
    have hdrop : flatL (l.drop k) = putP l[k].op l[k].a ++ flatL (l.drop (k + 1)) := by rw [List.drop_eq_getElem_cons hkl, flatL_cons]
    have hst := hstop _ hx
    rw [hdrop, List.take_append_of_le_length (by omega)] at g3
    have hmem : l[k] ∈ l := List.getElem_mem hkl
    have hex : efP l[k].op l[k].a = true := List.all_eq_true.1 ho _ hmem
    have hc := next_cut g3 (by omega) (by omega) hex (hr _ hmem).1 (hr _ hmem).2
    obtain ⟨f, rfl⟩ : ∃ f, f' = f + 1 := ⟨f' - 1, by omega⟩
    rw [decGo, if_pos (by rw [hlen]; exact hlt), if_neg (by rw [List.length_take]; omega), hc]
  · rw [decGo_end (by rw [hlen]; omega)]
theorem flat_step {l : List Instr} {k : Nat} {x : Instr} (h : l[k]? = some x) : flatL (l.take (k + 1)) = flatL (l.take k) ++ putP x.op x.a := by
  obtain ⟨hk, e⟩ := List.getElem?_eq_some_iff.1 h
  rw [List.take_succ_eq_append_getElem hk, flatL_snoc, e]
theorem C_takeN {w w' : World} {A : Option Addr} {n : Nat} {bs : List Int} {m : Nat} (h : Kd.C (Kd.int .u8) w A n bs) (hm : m ≤ bs.length) (hc : Chg (fun _ => False) w w') : Kd.C (Kd.int .u8) w' A m (bs.take m) := by
  have h0 := h.1
  subst h0
  have := Kd.C_take (C_chg h (hc.below (fun _ _ h => h))) hm
  rwa [List.length_take, Nat.min_eq_left hm] at this
theorem C_takeK {w w' : World} {A : Option Addr} {l : List Instr} {k : Nat} (h : Kd.C kInstr w A l.length l) (hm : k ≤ l.length) (hc : Chg (fun _ => False) w w') : Kd.C kInstr w' A k (l.take k) := by
  have := Kd.C_take (C_chg h (hc.below (fun _ _ h => h))) hm
  rwa [List.length_take, Nat.min_eq_left hm] at this
theorem one_C {w : World} {A : Option Addr} {cap k : Nat} {l : List Instr} {ad : Addr} {x : Instr} (h : Kd.C kInstr w A l.length l) (hcap : l.length ≤ cap) (e1 : A = some ad) (e2 : l[k]? = some x) : Kd.C kInstr w (some (ad.add (k * 2))) 1 [x] := by
  obtain ⟨hk, e3⟩ := List.getElem?_eq_some_iff.1 e2
  have hm := Kd.C_mid (lo := k) (hi := k + 1) h (by omega) (by omega) hcap
  rw [if_neg (by omega), e1] at hm
  have : (l.take (k + 1)).drop k = [x] := by
    rw [List.take_succ_eq_append_getElem hk, e3, List.drop_append_of_le_length (by rw [List.length_take]; omega)]
    rw [List.drop_of_length_le (by rw [List.length_take]; omega)]; rfl
  rw [this] at hm
  exact hm
theorem enc_one {x : Instr} (h : efP x.op x.a = true) : encP [x] = (putP x.op x.a, 0) := by rw [encP_of (by simp) (by simp [okL, h])]; simp [flatL]

set_option maxHeartbeats 4000000
theorem law_codeCut (w : World) (A : Option Addr) (nn cap : Nat) (l : List Instr) (n : Int) (hC : Kd.C kInstr w A nn l) (hcap : nn ≤ cap) (hl : ∀ i ∈ l, -9223372036854775808 ≤ i.a ∧ i.a ≤ 9223372036854775807) (hn : l.length ≤ 8796093022100) :
    Calls Try.prog 14 #[.slice A nn cap, .int .i64 n] w fun e w' => e = .returned (.bool true) ∧ Below w.heap.size w w' := by
  have e0 := hC.1
  subst e0
  have hCA := Aside0.mk hC
  have hlA := Aside0.mk hl
  clear hC hl
  by_cases he : (encP l).2 = 0
  · obtain ⟨a1, a2, a3⟩ := encP_ok he
    have henc : Aside0 (encP l = (flatL l, 0)) := ⟨encP_of a1 a2⟩
    have hfl : Aside0 ((flatL l).length ≤ 22000) := ⟨by have := flatL_length l; omega⟩
    by_cases hneg : n < 0
    · have d0 : decide (n < 0) = true := by simpa using hneg
      clear hneg he a1 a2 a3
      generalize flatL l = bs at henc hfl
      go_enter Try.func14, Try.ntmps14
      go_wp2_with (first | (go_at_call 47; go_must (refine (law_works _).mono ?_); go_must (rintro e w1 ⟨rfl, hc1⟩); go_must (replace hc1 := Aside0.mk hc1)) | (go_at_call 43; go_must (refine (code_Encode _ A l.length cap l (C_chg hCA.out (hc1.out.below (fun _ _ h => h))) hlA.out (by omega)).mono ?_); go_must (rintro e w2 ⟨v2, rfl, hr2, hc2⟩); go_must (rw [henc.out] at hr2); go_must (rw [henc.out]); go_must (obtain ⟨A2, n2, cap2, rfl⟩ := R_sl hr2); go_must (obtain ⟨q2, q2c, _⟩ := Kd.R_reads' hr2); go_must (subst q2); go_must (have p2 := Aside0.mk (R_C hr2)); go_must (clear hr2); go_must (replace hc2 := Aside0.mk (hc1.out.trans hc2 (fun _ _ h => h)))))
      go_ret
      exact ⟨rfl, hc2.out.below (fun _ _ h => h)⟩
    · obtain ⟨m, rfl⟩ := Int.eq_ofNat_of_zero_le (show 0 ≤ n by omega)
      have d0 : decide ((m : Int) < 0) = false := by simp
      clear hneg he
      by_cases hbig : (flatL l).length < m
      · have d1 : decide ((flatL l).length < m) = true := by simpa using hbig
        have d2 : decide (((flatL l).length : Int) < (m : Int)) = true := by simp; omega
        clear hbig a1 a2 a3
        generalize flatL l = bs at henc hfl d1 d2
        go_enter Try.func14, Try.ntmps14
        go_wp2_with (first | (go_at_call 47; go_must (refine (law_works _).mono ?_); go_must (rintro e w1 ⟨rfl, hc1⟩); go_must (replace hc1 := Aside0.mk hc1)) | (go_at_call 43; go_must (refine (code_Encode _ A l.length cap l (C_chg hCA.out (hc1.out.below (fun _ _ h => h))) hlA.out (by omega)).mono ?_); go_must (rintro e w2 ⟨v2, rfl, hr2, hc2⟩); go_must (rw [henc.out] at hr2); go_must (rw [henc.out]); go_must (obtain ⟨A2, n2, cap2, rfl⟩ := R_sl hr2); go_must (obtain ⟨q2, q2c, _⟩ := Kd.R_reads' hr2); go_must (subst q2); go_must (have p2 := Aside0.mk (R_C hr2)); go_must (clear hr2); go_must (replace hc2 := Aside0.mk (hc1.out.trans hc2 (fun _ _ h => h)))))
        go_ret
        exact ⟨rfl, hc2.out.below (fun _ _ h => h)⟩
      · have d1 : decide ((flatL l).length < m) = false := by simpa using hbig
        have d2 : decide (((flatL l).length : Int) < (m : Int)) = false := by simp; omega
        have hcut : Aside0 (∀ k, k ≤ l.length → (flatL (l.take k)).length ≤ m → (∀ x, l[k]? = some x → m < (flatL (l.take k)).length + (putP x.op x.a).length) → decP ((flatL l).take m) = if (flatL (l.take k)).length < m then ([], 2) else (l.take k, 0)) := ⟨fun k h1 h2 h3 => dec_cut a2 hlA.out a1 (by omega) h1 h2 h3⟩
        have hone : Aside0 (∀ x ∈ l, efP x.op x.a = true) := ⟨fun x hx => List.all_eq_true.1 a2 x hx⟩
        have hbyt : Aside0 (∀ c ∈ (flatL l).take m, 0 ≤ c ∧ c < 256) := ⟨fun c hc => flatL_byte a2 c (List.mem_of_mem_take hc)⟩
        have hle : m ≤ (flatL l).length := by omega
        have h2000 := a1
        clear hbig a2 a3 a1
        generalize flatL l = bs at henc hfl d1 d2 hcut hbyt hle
        go_enter Try.func14, Try.ntmps14
        go_wp2_with (first | (go_at_call 47; go_must (refine (law_works _).mono ?_); go_must (rintro e w1 ⟨rfl, hc1⟩); go_must (replace hc1 := Aside0.mk hc1)) | (go_at_call 43; go_must (refine (code_Encode _ A l.length cap l (C_chg hCA.out (hc1.out.below (fun _ _ h => h))) hlA.out (by omega)).mono ?_); go_must (rintro e w2 ⟨v2, rfl, hr2, hc2⟩); go_must (rw [henc.out] at hr2); go_must (rw [henc.out]); go_must (obtain ⟨A2, n2, cap2, rfl⟩ := R_sl hr2); go_must (obtain ⟨q2, q2c, _⟩ := Kd.R_reads' hr2); go_must (subst q2); go_must (have p2 := Aside0.mk (R_C hr2)); go_must (clear hr2); go_must (replace hc2 := Aside0.mk (hc1.out.trans hc2 (fun _ _ h => h)))))
        go_loopw [7, 8, 9, 10] (fun i at_ _ _ wr => ∃ (k a : Nat), i = .int .i64 k ∧ at_ = .int .i64 a ∧ k ≤ l.length ∧ a ≤ m ∧ Aside0 (a = (flatL (l.take k)).length) ∧ Aside0 (Chg (fun _ => False) w wr) ∧ Aside0 (Chg (fun _ => False) w2 wr)) (fun i _ _ _ _ => l.length - (intOf i).toNat)
        case atStart => exact ⟨0, 0, rfl, rfl, by omega, by omega, ⟨by simp [flatL]⟩, hc2, ⟨Chg.refl _ _⟩⟩
        case round =>
          obtain ⟨k, a, rfl, rfl, hk, ham, haA, hCh, hC2⟩ := hrel
          by_cases hlt : k < l.length
          · obtain ⟨ad, op, aa, e1, e2, x0, x1⟩ := instr_at (C_chg hCA.out (hCh.out.below (fun _ _ h => h))) k hlt
            subst e1
            have h1C := Aside0.mk (one_C (C_chg hCA.out (hCh.out.below (fun _ _ h => h))) hcap rfl e2)
            have hr1 : Aside0 (∀ i ∈ [(⟨op, aa⟩ : Instr)], -9223372036854775808 ≤ i.a ∧ i.a ≤ 9223372036854775807) := ⟨fun i hi => by simp at hi; subst hi; exact hlA.out _ (instr_mem e2)⟩
            have he1 := Aside0.mk (enc_one (x := ⟨op, aa⟩) (hone.out _ (instr_mem e2)))
            have hstep := Aside0.mk (flat_step e2)
            have hk0 : (0 : Int) ≤ k := by omega
            have hk1 : (k : Int) < l.length := by omega
            have hkc : k + 1 ≤ cap := by omega
            have hkc2 : (k : Int) + 1 ≤ (cap : Int) := by omega
            obtain ⟨pl, hpl⟩ : ∃ pl, (putP op aa).length = pl := ⟨_, rfl⟩
            have hpb : pl ≤ 11 := by rw [← hpl]; exact putP_length op aa
            have hm2 : m ≤ 22000 := by have := hfl.out; omega
            have hstop0 : ∀ x, l[k]? = some x → m < a + pl → m < (flatL (l.take k)).length + (putP x.op x.a).length := fun x hx h => by
              rw [e2] at hx
              injection hx with hx
              subst hx
              rw [← haA.out, hpl]; exact h
            have haN : (flatL (l.take (k + 1))).length = a + pl := by rw [hstep.out, List.length_append, ← haA.out, hpl]
            replace hpl := Aside0.mk hpl
            clear e2 hstep
            by_cases hst : m < a + pl
            · have s0 : decide (m < a + pl) = true := by simpa using hst
              have s1 : decide ((m : Int) < (a : Int) + (pl : Int)) = true := by simp; omega
              have hstop : Aside0 (∀ x, l[k]? = some x → m < (flatL (l.take k)).length + (putP x.op x.a).length) := ⟨fun x hx => hstop0 x hx hst⟩
              clear hst hstop0 haN
              have hcd := hcut.out k hk (by rw [← haA.out]; exact ham) hstop.out
              rw [← haA.out] at hcd
              by_cases hl2 : a < m
              · rw [if_pos hl2] at hcd
                have hres := Aside0.mk hcd
                have t0 : decide (a < m) = true := by simpa using hl2
                have t1 : decide ((a : Int) < (m : Int)) = true := by simp; omega
                clear hcd hl2
                go_wp2_with (first | (go_at_call 43; go_must (refine (code_Encode _ _ 1 _ [⟨op, aa⟩] h1C.out hr1.out (by simp)).mono ?_); go_must (rintro e w3 ⟨v3, rfl, hr3, hc3⟩); go_must (rw [he1.out] at hr3); go_must (rw [he1.out]); go_must (obtain ⟨A3, n3, cap3, rfl⟩ := R_sl hr3); go_must (obtain ⟨q3, _, _⟩ := Kd.R_reads' hr3); go_must (rw [hpl.out] at q3); go_must (have q3s := q3.symm); go_must (clear q3); go_must (subst q3s); go_must (clear hr3); go_must (have hc23 := Aside0.mk (hC2.out.trans hc3 (fun _ _ h => h))); go_must (replace hc3 := Aside0.mk (hCh.out.trans hc3 (fun _ _ h => h)))) | (go_at_call 37; go_must (refine (code_Decode _ A2 m cap2 (bs.take m) (C_takeN p2.out hle (hc23.out)) hbyt.out (by have := hfl.out; simp; omega)).mono ?_); go_must (rintro e w5 ⟨v5, rfl, hr5, hc5⟩); go_must (rw [hres.out] at hr5); go_must (rw [hres.out]); go_must (obtain ⟨A5, n5, cap5, rfl⟩ := R_sl hr5); go_must (obtain ⟨q5, _, _⟩ := Kd.R_reads' hr5); go_must (obtain rfl : n5 = 0 := q5); go_must (clear hr5); go_must (replace hc5 := Aside0.mk (hc3.out.trans hc5 (fun _ _ h => h)))))
                go_ret
                exact ⟨rfl, hc5.out.below (fun _ _ h => h)⟩
              · rw [if_neg hl2] at hcd
                have hres := Aside0.mk hcd
                have t0 : decide (a < m) = false := by simpa using hl2
                have t1 : decide ((a : Int) < (m : Int)) = false := by simp; omega
                clear hcd hl2
                go_wp2_with (first | (go_at_call 43; go_must (refine (code_Encode _ _ 1 _ [⟨op, aa⟩] h1C.out hr1.out (by simp)).mono ?_); go_must (rintro e w3 ⟨v3, rfl, hr3, hc3⟩); go_must (rw [he1.out] at hr3); go_must (rw [he1.out]); go_must (obtain ⟨A3, n3, cap3, rfl⟩ := R_sl hr3); go_must (obtain ⟨q3, _, _⟩ := Kd.R_reads' hr3); go_must (rw [hpl.out] at q3); go_must (have q3s := q3.symm); go_must (clear q3); go_must (subst q3s); go_must (clear hr3); go_must (have hc23 := Aside0.mk (hC2.out.trans hc3 (fun _ _ h => h))); go_must (replace hc3 := Aside0.mk (hCh.out.trans hc3 (fun _ _ h => h)))) | (go_at_call 37; go_must (refine (code_Decode _ A2 m cap2 (bs.take m) (C_takeN p2.out hle (hc23.out)) hbyt.out (by have := hfl.out; simp; omega)).mono ?_); go_must (rintro e w5 ⟨v5, rfl, hr5, hc5⟩); go_must (rw [hres.out] at hr5); go_must (rw [hres.out]); go_must (obtain ⟨A5, n5, cap5, rfl⟩ := R_sl hr5); go_must (obtain ⟨q5, _, _⟩ := Kd.R_reads' hr5); go_must (have p5 := Aside0.mk (R_C hr5)); go_must (clear hr5 q5); go_must (replace hc5 := Aside0.mk (hc3.out.trans hc5 (fun _ _ h => h)))) | (go_at_call 38; go_must (refine (same_code _ A5 _ n5 k cap5 cap (l.take k) p5.out (C_takeK hCA.out hk hc5.out)).mono ?_); go_must (rintro e w6 ⟨rfl, hc6⟩); go_must (replace hc6 := Aside0.mk (hc5.out.trans hc6 (fun _ _ h => h)))))
                go_ret
                exact ⟨rfl, hc6.out.below (fun _ _ h => h)⟩
            · have s0 : decide (m < a + pl) = false := by simpa using hst
              have s1 : decide ((m : Int) < (a : Int) + (pl : Int)) = false := by simp; omega
              have haN2 : Aside0 (a + pl = (flatL (l.take (k + 1))).length) := ⟨haN.symm⟩
              have hap : a + pl ≤ m := by omega
              clear hst hstop0 haN
              go_wp2_with (go_at_call 43; go_must (refine (code_Encode _ _ 1 _ [⟨op, aa⟩] h1C.out hr1.out (by simp)).mono ?_); go_must (rintro e w3 ⟨v3, rfl, hr3, hc3⟩); go_must (rw [he1.out] at hr3); go_must (rw [he1.out]); go_must (obtain ⟨A3, n3, cap3, rfl⟩ := R_sl hr3); go_must (obtain ⟨q3, _, _⟩ := Kd.R_reads' hr3); go_must (rw [hpl.out] at q3); go_must (have q3s := q3.symm); go_must (clear q3); go_must (subst q3s); go_must (clear hr3); go_must (have hc23 := Aside0.mk (hC2.out.trans hc3 (fun _ _ h => h))); go_must (replace hc3 := Aside0.mk (hCh.out.trans hc3 (fun _ _ h => h))))
              go_roundw
              case measure => first | (simp [intOf]; done) | (simp [intOf]; omega)
              case rel => exact ⟨k + 1, a + pl, by go_num, by go_num, by omega, hap, haN2, hc3, hc23⟩
          · obtain rfl : k = l.length := by omega
            have hstop : Aside0 (∀ x, l[l.length]? = some x → m < (flatL (l.take l.length)).length + (putP x.op x.a).length) := ⟨fun x hx => by simp at hx⟩
            have hm2 : m ≤ 22000 := by have := hfl.out; omega
            have hkc3 : l.length ≤ cap := hcap
            have hk3 : (l.length : Int) ≤ (cap : Int) := by omega
            have hcd := hcut.out l.length hk (by rw [← haA.out]; exact ham) hstop.out
            rw [← haA.out] at hcd
            by_cases hl2 : a < m
            · rw [if_pos hl2] at hcd
              have hres := Aside0.mk hcd
              have t0 : decide (a < m) = true := by simpa using hl2
              have t1 : decide ((a : Int) < (m : Int)) = true := by simp; omega
              clear hcd hl2
              go_wp2_with (first | (go_at_call 37; go_must (refine (code_Decode _ A2 m cap2 (bs.take m) (C_takeN p2.out hle (hC2.out)) hbyt.out (by have := hfl.out; simp; omega)).mono ?_); go_must (rintro e w5 ⟨v5, rfl, hr5, hc5⟩); go_must (rw [hres.out] at hr5); go_must (rw [hres.out]); go_must (obtain ⟨A5, n5, cap5, rfl⟩ := R_sl hr5); go_must (obtain ⟨q5, _, _⟩ := Kd.R_reads' hr5); go_must (obtain rfl : n5 = 0 := q5); go_must (clear hr5); go_must (replace hc5 := Aside0.mk (hCh.out.trans hc5 (fun _ _ h => h)))))
              go_ret
              exact ⟨rfl, hc5.out.below (fun _ _ h => h)⟩
            · rw [if_neg hl2] at hcd
              have hres := Aside0.mk hcd
              have t0 : decide (a < m) = false := by simpa using hl2
              have t1 : decide ((a : Int) < (m : Int)) = false := by simp; omega
              clear hcd hl2
              go_wp2_with (first | (go_at_call 37; go_must (refine (code_Decode _ A2 m cap2 (bs.take m) (C_takeN p2.out hle (hC2.out)) hbyt.out (by have := hfl.out; simp; omega)).mono ?_); go_must (rintro e w5 ⟨v5, rfl, hr5, hc5⟩); go_must (rw [hres.out] at hr5); go_must (rw [hres.out]); go_must (obtain ⟨A5, n5, cap5, rfl⟩ := R_sl hr5); go_must (obtain ⟨q5, _, _⟩ := Kd.R_reads' hr5); go_must (have p5 := Aside0.mk (R_C hr5)); go_must (clear hr5 q5); go_must (replace hc5 := Aside0.mk (hCh.out.trans hc5 (fun _ _ h => h)))) | (go_at_call 38; go_must (refine (same_code _ A5 _ n5 l.length cap5 cap (l.take l.length) p5.out (C_takeK hCA.out hk hc5.out)).mono ?_); go_must (rintro e w6 ⟨rfl, hc6⟩); go_must (replace hc6 := Aside0.mk (hc5.out.trans hc6 (fun _ _ h => h)))))
              go_ret
              exact ⟨rfl, hc6.out.below (fun _ _ h => h)⟩
  · have d0 : ((encP l).2 == 0) = false := by simpa using he
    have d9 : ((encP l).2 != 0) = true := by simpa using he
    have henc : Aside0 (encP l = ((encP l).1, (encP l).2)) := ⟨rfl⟩
    have hfl := encP_length l
    clear he
    generalize (encP l).2 = er at henc d0 d9
    generalize (encP l).1 = bs at henc hfl
    go_enter Try.func14, Try.ntmps14
    go_wp2_with (first | (go_at_call 47; go_must (refine (law_works _).mono ?_); go_must (rintro e w1 ⟨rfl, hc1⟩); go_must (replace hc1 := Aside0.mk hc1)) | (go_at_call 43; go_must (refine (code_Encode _ A l.length cap l (C_chg hCA.out (hc1.out.below (fun _ _ h => h))) hlA.out (by omega)).mono ?_); go_must (rintro e w2 ⟨v2, rfl, hr2, hc2⟩); go_must (rw [henc.out] at hr2); go_must (rw [henc.out]); go_must (obtain ⟨A2, n2, cap2, rfl⟩ := R_sl hr2); go_must (obtain ⟨q2, q2c, _⟩ := Kd.R_reads' hr2); go_must (subst q2); go_must (have p2 := Aside0.mk (R_C hr2)); go_must (clear hr2); go_must (replace hc2 := Aside0.mk (hc1.out.trans hc2 (fun _ _ h => h)))))
    go_ret
    exact ⟨rfl, hc2.out.below (fun _ _ h => h)⟩

end Go.Proofs.Ythmghcjkmmhgnaa.K
