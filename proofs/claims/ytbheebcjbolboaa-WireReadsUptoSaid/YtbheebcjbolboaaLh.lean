import Derived.Test.YtbheebcjbolboaaLz
import Derived.Test.YtbheebcjbolboaaOb
namespace Go.Proofs.Ytbheebcjbolboaa.K
open Go.RowKit Go.Proofs.YtbheebcjbolboaaW.PrintWords Go.Proofs.YtbheebcjbolboaaW.PrintLast Go.Proofs.YtbheebcjbolboaaW.PrintMore
set_option linter.unusedVariables false
set_option linter.unusedSimpArgs false
set_option maxRecDepth 100000

theorem pTake_i {bs : List Int} {n i j : Nat} {l : List Int} (h : pTake bs n i = .ok (l, j)) : i ≤ j := by
  unfold pTake at h
  split at h
  · simp only [Except.ok.injEq, Prod.mk.injEq] at h; omega
  · cases h
theorem pgetA_num {bs : List Int} {i : Nat} {err kind n : Int} (hb : ∀ c ∈ bs, 0 ≤ c ∧ c < 256) (hi : i ≤ bs.length) (h0 : 0 ≤ kind) (h6 : kind ≤ 6) :
    ((pgetA bs i err kind n).err ≠ 0 → (pgetA bs i err kind n).x = 0 ∧ (pgetA bs i err kind n).s = [] ∧ (pgetA bs i err kind n).e = 0 ∧ (pgetA bs i err kind n).l = [] ∧ (pgetA bs i err kind n).i = i) ∧
    (err ≠ 0 → (pgetA bs i err kind n).err = err) ∧ i ≤ (pgetA bs i err kind n).i ∧ (pgetA bs i err kind n).i ≤ bs.length := by
  have key : ∀ {α : Type} (p : Nat → Except Int (α × Nat)) (z : α), (∀ x j, p i = .ok (x, j) → i ≤ j ∧ j ≤ bs.length) →
      ((rrun p z i err).2.2 ≠ 0 → (rrun p z i err).1 = z ∧ (rrun p z i err).2.1 = i) ∧ (err ≠ 0 → (rrun p z i err).2.2 = err) ∧ i ≤ (rrun p z i err).2.1 ∧ (rrun p z i err).2.1 ≤ bs.length := by
    intro α p z h
    rcases rrun_cases p z i err with ⟨x, j, h1, h2, h3⟩ | ⟨c, h1, h2, h3⟩
    · rw [h3]; exact ⟨fun h => absurd rfl h, fun h => absurd h1 h, h x j h2⟩
    · rw [h1]; exact ⟨fun _ => ⟨rfl, rfl⟩, h3, Nat.le_refl _, hi⟩
  have kN := key (pNum bs) 0 (fun x j h => by have := pNum_form hb h; omega)
  unfold pgetA
  split
  · obtain ⟨a1, a2, a3⟩ := key (pNext bs) 0 (fun x j h => by have := pNext_le h; unfold pNext at h; split at h <;> simp at h; omega)
    exact ⟨fun h => ⟨(a1 h).1, rfl, rfl, rfl, (a1 h).2⟩, a2, a3⟩
  split
  · obtain ⟨a1, a2, a3⟩ := kN
    exact ⟨fun h => ⟨(a1 h).1, rfl, rfl, rfl, (a1 h).2⟩, a2, a3⟩
  split
  · obtain ⟨a1, a2, a3⟩ := kN
    exact ⟨fun h => ⟨by show IntKind.u64.wrap (unfoldI (rrun (pNum bs) 0 i err).1) = 0; rw [(a1 h).1]; rfl, rfl, rfl, rfl, (a1 h).2⟩, a2, a3⟩
  split
  · obtain ⟨a1, a2, a3⟩ := key (pWord bs) 0 (fun x j h => by
      have h1 := (pWord_form hb hi h).1
      simp only [pWord] at h
      split at h
      · cases h
      · rename_i l j' h4
        cases h
        exact ⟨pTake_i h4, h1⟩)
    exact ⟨fun h => ⟨(a1 h).1, rfl, rfl, rfl, (a1 h).2⟩, a2, a3⟩
  split
  · obtain ⟨a1, a2, a3⟩ := key (pText bs n) [] (fun x j h => by
      have h1 := (pText_form hb hi h).1
      unfold pText at h
      split at h
      · cases h
      · rename_i x' k' h4
        have h5 := pNum_form hb (pCount_num h4).1
        have h6 := pTake_i h
        omega)
    exact ⟨fun h => ⟨rfl, (a1 h).1, rfl, rfl, (a1 h).2⟩, a2, a3⟩
  split
  · obtain ⟨a1, a2, a3⟩ := key (pRaw bs n) [] (fun x j h => by
      unfold pRaw at h
      split at h
      · cases h
      · exact ⟨pTake_i h, (pTake_le hi h).1⟩)
    exact ⟨fun h => ⟨rfl, (a1 h).1, rfl, (a1 h).1, (a1 h).2⟩, a2, a3⟩
  split
  · obtain ⟨a1, a2, a3⟩ := key (pCount bs n) 0 (fun x j h => by have := pNum_form hb (pCount_num h).1; omega)
    exact ⟨fun h => ⟨(a1 h).1, rfl, rfl, rfl, (a1 h).2⟩, a2, a3⟩
  · omega
/-- A call's cells, in a row of calls. -/
theorem get_at {w : World} {A : Option Addr} {n : Nat} {l : List Get} (h : Kd.C kGet w A n l) (i : Nat) (h1 : i < n) : ∃ ad on kd nn, A = some ad ∧ l[i]? = some ⟨on, kd, nn⟩ ∧ w.cell? (ad.add (i * 3)) = some (.int .i64 on) ∧
    w.cell? ⟨(ad.add (i * 3)).block, (ad.add (i * 3)).off + 1, none⟩ = some (.int .i64 kd) ∧ w.cell? ⟨(ad.add (i * 3)).block, (ad.add (i * 3)).off + 2, none⟩ = some (.int .i64 nn) := by
  have hl : i < l.length := by have := h.1; omega
  obtain ⟨ad, c, e, _, hK, hc0⟩ := Kd.C_get h ⟨0, 0, 0⟩ (i : Int) (by omega) (by omega)
  rw [kGet_K] at hK
  subst hK
  have e1 : l.getD (i : Int).toNat ⟨0, 0, 0⟩ = l[i] := by rw [Int.toNat_natCast, List.getD_eq_getElem?_getD, List.getElem?_eq_getElem hl]; rfl
  rw [e1] at hc0
  have f1 := hc0 1 _ rfl
  have f2 := hc0 2 _ rfl
  rw [← add_add] at f1 f2
  exact ⟨ad, l[i].on, l[i].kind, l[i].n, e, List.getElem?_eq_getElem hl, hc0 0 _ rfl, f1, f2⟩
theorem Rd.alloc_ {w : World} {F : Nat → Prop} {g i : Nat} {bs : List Int} {err : Int} (h : Rd w F g bs i err) (o : Obj) : Rd (w.alloc o) F g bs i err := h.chg ((Chg.refl (fun _ => False) w).alloc o) (fun _ _ _ h => h)
theorem Rd.drewN_ {w : World} {F : Nat → Prop} {g i : Nat} {bs : List Int} {err : Int} (h : Rd w F g bs i err) (n : Nat) : Rd (w.drewN n) F g bs i err := h.chg ((Chg.refl (fun _ => False) w).drewN n) (fun _ _ _ h => h)
set_option maxHeartbeats 4000000
theorem law_sticky (w : World) (A B : Option Addr) (n cap nr capr : Nat) (bs : List Int) (row : List Get) (hC : Kd.C (Kd.int .u8) w A n bs) (hbs0 : ∀ c ∈ bs, 0 ≤ c ∧ c < 256) (hD : Kd.C kGet w B nr row) (hrow : ∀ p ∈ row, -9223372036854775808 ≤ p.n ∧ p.n ≤ 9223372036854775807) (hn : bs.length ≤ 140737488355328) (hnr : row.length ≤ 140737488355328) :
    Calls Try.prog 7 #[.slice A n cap, .slice B nr capr] w fun e w' => e = .returned (.bool true) ∧ Below w.heap.size w w' := by
  have hbs := Aside0.mk hbs0
  have hCA := Aside0.mk hC
  have hDA := Aside0.mk hD
  have e0 := hC.1
  have e1 := hD.1
  subst e0 e1
  have hrowA := Aside0.mk hrow
  clear hbs0 hC hD hrow
  have hm1 : rrun (pRaw bs (-1)) [] 0 0 = ([], 0, 1) := rfl
  replace hm1 := Aside0.mk hm1
  go_enter Try.func7, Try.ntmps7
  go_wp2_with (first | (go_at_call 22; refine (rd_new w A bs.length cap bs hCA.out (by omega) hbs.out).mono ?_; go_must (rintro e w1 ⟨g1, rfl, hg1, hR1, hc1⟩); go_must (replace hR1 := Aside0.mk hR1); go_must (replace hc1 := Aside0.mk hc1); go_must (replace hg1 := Aside0.mk hg1)) | (go_at_call 22; go_must (have hch2 := Aside0.mk ((hc1.out.trans hc2.out (fun k hk e => by have := hg1.out; omega)).drewN nd4)); go_must (refine (rd_new _ A bs.length cap bs (C_chg hCA.out (hch2.out.below (fun _ _ h => h))) (by omega) hbs.out).mono ?_); go_must (rintro e w5 ⟨gr, rfl, hgs, hR5, hc5⟩); go_must (replace hR5 := Aside0.mk hR5); go_must (replace hc5 := Aside0.mk hc5); go_must (replace hgs := Aside0.mk hgs)) | (go_at_call 23; go_must (refine (rd_Raw _ _ g1 0 bs 0 (-1) (by decide) hR1.out).mono ?_); go_must (rintro e w2 ⟨v2, rfl, hr2, hR2, hc2⟩); go_must (obtain ⟨A2, n2, cap2, rfl⟩ := R_sl hr2); go_must (rw [hm1.out] at hR2 hr2); go_must (obtain ⟨q2, _, _⟩ := Kd.R_reads' hr2); go_must (obtain rfl : n2 = 0 := q2); go_must (clear hr2); go_must (replace hR2 := Aside0.mk hR2); go_must (replace hc2 := Aside0.mk hc2)) | (go_at_call 24; go_must (refine (rd_Err _ _ g1 0 bs 1 hR2.out).mono ?_); go_must (rintro e w3 ⟨rfl, rfl⟩)) | (go_at_call 25; go_must (refine (rd_Left _ _ g1 0 bs 1 hR2.out).mono ?_); go_must (rintro e w4 ⟨rfl, nd4, rfl⟩)))
  obtain ⟨a, ha⟩ : ∃ a, a = (w2.drewN nd4).heap.size := ⟨_, rfl⟩
  obtain ⟨b, hb⟩ : ∃ b, b = w5.heap.size := ⟨_, rfl⟩
  have hO1 : Aside0 (Rd w5 (fun j => a ≤ j ∧ j < b) gr bs 0 0 ∧ Chg (fun _ => False) w w5 ∧ w.heap.size ≤ a ∧ b ≤ w5.heap.size) := ⟨by
    refine ⟨hR5.out.mono (fun j _ hj => ?_), hch2.out.trans hc5.out (fun _ _ h => h), ha ▸ hch2.out.size, hb ▸ Nat.le_refl _⟩
    rcases hj with h | h
    · exact h.elim
    · subst ha hb; exact h⟩
  clear ha hb hR5 hc5 hgs hch2 hR1 hc1 hg1 hR2 hc2
  go_loopw [7, 8, 9, 10, 11, 12, 13, 14] (fun fi le ix _ _ _ _ _ wr => ∃ (k i : Nat) (err : Int), ix = .int .i64 k ∧ fi = .int .i64 err ∧ le = .int .i64 ((bs.length : Int) - i) ∧ k ≤ row.length ∧ Aside0 (Rd wr (fun j => a ≤ j ∧ j < b) gr bs i err ∧ Chg (fun _ => False) w wr ∧ w.heap.size ≤ a ∧ b ≤ wr.heap.size)) (fun _ _ ix _ _ _ _ _ _ => row.length - (intOf ix).toNat)
  case atStart => exact ⟨0, 0, 0, rfl, rfl, by simp, by omega, hO1⟩
  case round =>
    obtain ⟨k, i, err, rfl, rfl, rfl, hk, hO⟩ := hrel
    by_cases hlt : k < row.length
    · obtain ⟨ad, on, kd, nn, e1, e2, x0, x1, x2⟩ := get_at (C_chg hDA.out (hO.out.2.1.below (fun _ _ h => h))) k hlt
      subst e1
      have hgn : Aside0 (-9223372036854775808 ≤ nn ∧ nn ≤ 9223372036854775807) := ⟨hrowA.out _ (List.mem_of_getElem? e2)⟩
      clear e2
      have hi : i ≤ bs.length := by obtain ⟨_, _, _, _, h, _⟩ := hO.out.1; exact h
      have hgr : Aside0 (a ≤ gr) := ⟨by obtain ⟨_, _, _, hg, _⟩ := hO.out.1; exact hg.1⟩
      by_cases hbad : kd < 0
      · have d0 : decide (kd < 0) = true := by simpa using hbad
        clear hbad
        obtain ⟨hz, hkeep, hle1, hle2⟩ := pgetA_num (n := nn) (err := err) (kind := 1) hbs.out hi (by omega) (by omega)
        generalize hA : pgetA bs i err 1 nn = R at hz hkeep hle1 hle2
        obtain ⟨x, s, e, l, j, er⟩ := R
        dsimp only at hz hkeep hle1 hle2
        by_cases her : er = 0
        · subst her
          obtain rfl : err = 0 := by
            by_cases h : err = 0
            · exact h
            · exact (hkeep h).symm
          have hget : ∀ W, Rd W (fun j => a ≤ j ∧ j < b) gr bs i 0 → (∀ j, a ≤ j ∧ j < b → j < W.heap.size) → Calls Try.prog 19 #[.pointer (some ⟨gr, 0, none⟩), .agg #[.int .i64 on, .int .i64 1, .int .i64 nn]] W fun ev w' =>
              ∃ v, ev = .returned (.tuple #[.agg #[.int .u64 x, .string (strOfNums s), .int .i64 e], v]) ∧ Kd.R (Kd.int .u8) 5 w' 0 (New (fun _ => False) W w') v l ∧ Rd w' (fun j => a ≤ j ∧ j < b) gr bs j 0 ∧ Chg (fun k => k = gr) W w' := by
            intro W h1 h2
            have h := law_get W (fun j => a ≤ j ∧ j < b) gr _ bs _ on 1 nn h1 hgn.out.1 hgn.out.2 h2
            rw [hA] at h
            exact h
          clear hA hz hkeep
          have d1 : decide ((bs.length : Int) - j > (bs.length : Int) - i) = false := by simp; omega
          have d2 : decide ((bs.length : Int) - j < 0) = false := by simp; omega
          have hend : rEnd bs j 0 = rEnd bs j 0 := rfl
          go_wp2_with (first | (go_at_call 19; go_must (refine (hget _ (hO.out.1.alloc_ _) (fun j hj => by have := hO.out.2.2.2; simp; omega)).mono ?_); go_must (rintro e w6 ⟨v6, rfl, hr6, hR6, hc6⟩); go_must (obtain ⟨A6, n6, cap6, rfl⟩ := R_sl hr6); go_must (obtain ⟨q6, _, _⟩ := Kd.R_reads' hr6); go_must (skip); go_must (clear hr6); go_must (replace hR6 := Aside0.mk hR6); go_must (replace hc6 := Aside0.mk hc6)) | (go_at_call 24; go_must (refine (rd_Err _ _ gr j bs 0 (by repeat (first | exact hR6.out | apply Rd.alloc_ | apply Rd.drewN_))).mono ?_); go_must (rintro e w7 ⟨rfl, rfl⟩)) | (go_at_call 25; go_must (refine (rd_Left _ _ gr j bs 0 (by repeat (first | exact hR6.out | apply Rd.alloc_ | apply Rd.drewN_))).mono ?_); go_must (rintro e w8 ⟨rfl, nd8, rfl⟩)) | (go_at_call 26; go_must (refine (rd_End _ _ gr j bs 0 (by repeat (first | exact hR6.out | apply Rd.alloc_ | apply Rd.drewN_))).mono ?_); go_must (rintro e w9 ⟨rfl, nd9, rfl⟩); go_must (rw [hend])))
          have hch6 := (hO.out.2.1.alloc (.cells #[.int .i64 on, .int .i64 1, .int .i64 nn] 40)).trans hc6.out (fun q hq e => by have := hgr.out; have := hO.out.2.2.1; omega)
          have hsz6 := hc6.out.size
          go_roundw
          case measure => first | (simp [intOf]; done) | (simp [intOf]; omega)
          case rel => exact ⟨k + 1, j, 0, by go_num, rfl, rfl, by omega, ⟨(by repeat (first | exact hR6.out | apply Rd.alloc_ | apply Rd.drewN_)), by repeat (first | exact hch6 | apply Chg.drewN | apply Chg.alloc), hO.out.2.2.1, by have := hO.out.2.2.2; simp at hsz6 ⊢; omega⟩⟩
        · obtain ⟨rfl, rfl, rfl, rfl, rfl⟩ := hz her
          have d3 : (er != 0) = true := by simpa using her
          have hend : rEnd bs j er = er := by unfold rEnd; rw [if_neg (fun h => her h.1)]
          replace hend := hend
          by_cases he0 : err = 0
          · subst he0
            have hget : ∀ W, Rd W (fun j => a ≤ j ∧ j < b) gr bs j 0 → (∀ j, a ≤ j ∧ j < b → j < W.heap.size) → Calls Try.prog 19 #[.pointer (some ⟨gr, 0, none⟩), .agg #[.int .i64 on, .int .i64 1, .int .i64 nn]] W fun ev w' =>
                ∃ v, ev = .returned (.tuple #[.agg #[.int .u64 0, .string ⟨#[]⟩, .int .i64 0], v]) ∧ Kd.R (Kd.int .u8) 5 w' 0 (New (fun _ => False) W w') v [] ∧ Rd w' (fun j => a ≤ j ∧ j < b) gr bs j er ∧ Chg (fun k => k = gr) W w' := by
              intro W h1 h2
              have h := law_get W (fun j => a ≤ j ∧ j < b) gr _ bs _ on 1 nn h1 hgn.out.1 hgn.out.2 h2
              rw [hA] at h
              exact h
            clear hA hz hkeep
            go_wp2_with (first | (go_at_call 19; go_must (refine (hget _ (hO.out.1.alloc_ _) (fun j hj => by have := hO.out.2.2.2; simp; omega)).mono ?_); go_must (rintro e w6 ⟨v6, rfl, hr6, hR6, hc6⟩); go_must (obtain ⟨A6, n6, cap6, rfl⟩ := R_sl hr6); go_must (obtain ⟨q6, _, _⟩ := Kd.R_reads' hr6); go_must (obtain rfl : n6 = 0 := q6); go_must (clear hr6); go_must (replace hR6 := Aside0.mk hR6); go_must (replace hc6 := Aside0.mk hc6)) | (go_at_call 24; go_must (refine (rd_Err _ _ gr j bs er (by repeat (first | exact hR6.out | apply Rd.alloc_ | apply Rd.drewN_))).mono ?_); go_must (rintro e w7 ⟨rfl, rfl⟩)) | (go_at_call 25; go_must (refine (rd_Left _ _ gr j bs er (by repeat (first | exact hR6.out | apply Rd.alloc_ | apply Rd.drewN_))).mono ?_); go_must (rintro e w8 ⟨rfl, nd8, rfl⟩)) | (go_at_call 26; go_must (refine (rd_End _ _ gr j bs er (by repeat (first | exact hR6.out | apply Rd.alloc_ | apply Rd.drewN_))).mono ?_); go_must (rintro e w9 ⟨rfl, nd9, rfl⟩); go_must (rw [hend])))
            have hch6 := (hO.out.2.1.alloc (.cells #[.int .i64 on, .int .i64 1, .int .i64 nn] 40)).trans hc6.out (fun q hq e => by have := hgr.out; have := hO.out.2.2.1; omega)
            have hsz6 := hc6.out.size
            go_roundw
            case measure => first | (simp [intOf]; done) | (simp [intOf]; omega)
            case rel => exact ⟨k + 1, j, er, by go_num, rfl, rfl, by omega, ⟨(by repeat (first | exact hR6.out | apply Rd.alloc_ | apply Rd.drewN_)), by repeat (first | exact hch6 | apply Chg.drewN | apply Chg.alloc), hO.out.2.2.1, by have := hO.out.2.2.2; simp at hsz6 ⊢; omega⟩⟩
          · obtain rfl := hkeep he0
            have hget : ∀ W, Rd W (fun j => a ≤ j ∧ j < b) gr bs j er → (∀ j, a ≤ j ∧ j < b → j < W.heap.size) → Calls Try.prog 19 #[.pointer (some ⟨gr, 0, none⟩), .agg #[.int .i64 on, .int .i64 1, .int .i64 nn]] W fun ev w' =>
                ∃ v, ev = .returned (.tuple #[.agg #[.int .u64 0, .string ⟨#[]⟩, .int .i64 0], v]) ∧ Kd.R (Kd.int .u8) 5 w' 0 (New (fun _ => False) W w') v [] ∧ Rd w' (fun j => a ≤ j ∧ j < b) gr bs j er ∧ Chg (fun k => k = gr) W w' := by
              intro W h1 h2
              have h := law_get W (fun j => a ≤ j ∧ j < b) gr _ bs _ on 1 nn h1 hgn.out.1 hgn.out.2 h2
              rw [hA] at h
              exact h
            clear hA hz hkeep
            go_wp2_with (first | (go_at_call 19; go_must (refine (hget _ (hO.out.1.alloc_ _) (fun j hj => by have := hO.out.2.2.2; simp; omega)).mono ?_); go_must (rintro e w6 ⟨v6, rfl, hr6, hR6, hc6⟩); go_must (obtain ⟨A6, n6, cap6, rfl⟩ := R_sl hr6); go_must (obtain ⟨q6, _, _⟩ := Kd.R_reads' hr6); go_must (obtain rfl : n6 = 0 := q6); go_must (clear hr6); go_must (replace hR6 := Aside0.mk hR6); go_must (replace hc6 := Aside0.mk hc6)) | (go_at_call 24; go_must (refine (rd_Err _ _ gr j bs er (by repeat (first | exact hR6.out | apply Rd.alloc_ | apply Rd.drewN_))).mono ?_); go_must (rintro e w7 ⟨rfl, rfl⟩)) | (go_at_call 25; go_must (refine (rd_Left _ _ gr j bs er (by repeat (first | exact hR6.out | apply Rd.alloc_ | apply Rd.drewN_))).mono ?_); go_must (rintro e w8 ⟨rfl, nd8, rfl⟩)) | (go_at_call 26; go_must (refine (rd_End _ _ gr j bs er (by repeat (first | exact hR6.out | apply Rd.alloc_ | apply Rd.drewN_))).mono ?_); go_must (rintro e w9 ⟨rfl, nd9, rfl⟩); go_must (rw [hend])))
            have hch6 := (hO.out.2.1.alloc (.cells #[.int .i64 on, .int .i64 1, .int .i64 nn] 40)).trans hc6.out (fun q hq e => by have := hgr.out; have := hO.out.2.2.1; omega)
            have hsz6 := hc6.out.size
            go_roundw
            case measure => first | (simp [intOf]; done) | (simp [intOf]; omega)
            case rel => exact ⟨k + 1, j, er, by go_num, rfl, rfl, by omega, ⟨(by repeat (first | exact hR6.out | apply Rd.alloc_ | apply Rd.drewN_)), by repeat (first | exact hch6 | apply Chg.drewN | apply Chg.alloc), hO.out.2.2.1, by have := hO.out.2.2.2; simp at hsz6 ⊢; omega⟩⟩
      · have d0 : decide (kd < 0) = false := by simpa using hbad
        by_cases hbig : kd > 6
        · have d1 : decide (kd > 6) = true := by simpa using hbig
          clear hbad hbig
          obtain ⟨hz, hkeep, hle1, hle2⟩ := pgetA_num (n := nn) (err := err) (kind := 1) hbs.out hi (by omega) (by omega)
          generalize hA : pgetA bs i err 1 nn = R at hz hkeep hle1 hle2
          obtain ⟨x, s, e, l, j, er⟩ := R
          dsimp only at hz hkeep hle1 hle2
          by_cases her : er = 0
          · subst her
            obtain rfl : err = 0 := by
              by_cases h : err = 0
              · exact h
              · exact (hkeep h).symm
            have hget : ∀ W, Rd W (fun j => a ≤ j ∧ j < b) gr bs i 0 → (∀ j, a ≤ j ∧ j < b → j < W.heap.size) → Calls Try.prog 19 #[.pointer (some ⟨gr, 0, none⟩), .agg #[.int .i64 on, .int .i64 1, .int .i64 nn]] W fun ev w' =>
                ∃ v, ev = .returned (.tuple #[.agg #[.int .u64 x, .string (strOfNums s), .int .i64 e], v]) ∧ Kd.R (Kd.int .u8) 5 w' 0 (New (fun _ => False) W w') v l ∧ Rd w' (fun j => a ≤ j ∧ j < b) gr bs j 0 ∧ Chg (fun k => k = gr) W w' := by
              intro W h1 h2
              have h := law_get W (fun j => a ≤ j ∧ j < b) gr _ bs _ on 1 nn h1 hgn.out.1 hgn.out.2 h2
              rw [hA] at h
              exact h
            clear hA hz hkeep
            have d1 : decide ((bs.length : Int) - j > (bs.length : Int) - i) = false := by simp; omega
            have d2 : decide ((bs.length : Int) - j < 0) = false := by simp; omega
            have hend : rEnd bs j 0 = rEnd bs j 0 := rfl
            go_wp2_with (first | (go_at_call 19; go_must (refine (hget _ (hO.out.1.alloc_ _) (fun j hj => by have := hO.out.2.2.2; simp; omega)).mono ?_); go_must (rintro e w6 ⟨v6, rfl, hr6, hR6, hc6⟩); go_must (obtain ⟨A6, n6, cap6, rfl⟩ := R_sl hr6); go_must (obtain ⟨q6, _, _⟩ := Kd.R_reads' hr6); go_must (skip); go_must (clear hr6); go_must (replace hR6 := Aside0.mk hR6); go_must (replace hc6 := Aside0.mk hc6)) | (go_at_call 24; go_must (refine (rd_Err _ _ gr j bs 0 (by repeat (first | exact hR6.out | apply Rd.alloc_ | apply Rd.drewN_))).mono ?_); go_must (rintro e w7 ⟨rfl, rfl⟩)) | (go_at_call 25; go_must (refine (rd_Left _ _ gr j bs 0 (by repeat (first | exact hR6.out | apply Rd.alloc_ | apply Rd.drewN_))).mono ?_); go_must (rintro e w8 ⟨rfl, nd8, rfl⟩)) | (go_at_call 26; go_must (refine (rd_End _ _ gr j bs 0 (by repeat (first | exact hR6.out | apply Rd.alloc_ | apply Rd.drewN_))).mono ?_); go_must (rintro e w9 ⟨rfl, nd9, rfl⟩); go_must (rw [hend])))
            have hch6 := (hO.out.2.1.alloc (.cells #[.int .i64 on, .int .i64 1, .int .i64 nn] 40)).trans hc6.out (fun q hq e => by have := hgr.out; have := hO.out.2.2.1; omega)
            have hsz6 := hc6.out.size
            go_roundw
            case measure => first | (simp [intOf]; done) | (simp [intOf]; omega)
            case rel => exact ⟨k + 1, j, 0, by go_num, rfl, rfl, by omega, ⟨(by repeat (first | exact hR6.out | apply Rd.alloc_ | apply Rd.drewN_)), by repeat (first | exact hch6 | apply Chg.drewN | apply Chg.alloc), hO.out.2.2.1, by have := hO.out.2.2.2; simp at hsz6 ⊢; omega⟩⟩
          · obtain ⟨rfl, rfl, rfl, rfl, rfl⟩ := hz her
            have d3 : (er != 0) = true := by simpa using her
            have hend : rEnd bs j er = er := by unfold rEnd; rw [if_neg (fun h => her h.1)]
            replace hend := hend
            by_cases he0 : err = 0
            · subst he0
              have hget : ∀ W, Rd W (fun j => a ≤ j ∧ j < b) gr bs j 0 → (∀ j, a ≤ j ∧ j < b → j < W.heap.size) → Calls Try.prog 19 #[.pointer (some ⟨gr, 0, none⟩), .agg #[.int .i64 on, .int .i64 1, .int .i64 nn]] W fun ev w' =>
                  ∃ v, ev = .returned (.tuple #[.agg #[.int .u64 0, .string ⟨#[]⟩, .int .i64 0], v]) ∧ Kd.R (Kd.int .u8) 5 w' 0 (New (fun _ => False) W w') v [] ∧ Rd w' (fun j => a ≤ j ∧ j < b) gr bs j er ∧ Chg (fun k => k = gr) W w' := by
                intro W h1 h2
                have h := law_get W (fun j => a ≤ j ∧ j < b) gr _ bs _ on 1 nn h1 hgn.out.1 hgn.out.2 h2
                rw [hA] at h
                exact h
              clear hA hz hkeep
              go_wp2_with (first | (go_at_call 19; go_must (refine (hget _ (hO.out.1.alloc_ _) (fun j hj => by have := hO.out.2.2.2; simp; omega)).mono ?_); go_must (rintro e w6 ⟨v6, rfl, hr6, hR6, hc6⟩); go_must (obtain ⟨A6, n6, cap6, rfl⟩ := R_sl hr6); go_must (obtain ⟨q6, _, _⟩ := Kd.R_reads' hr6); go_must (obtain rfl : n6 = 0 := q6); go_must (clear hr6); go_must (replace hR6 := Aside0.mk hR6); go_must (replace hc6 := Aside0.mk hc6)) | (go_at_call 24; go_must (refine (rd_Err _ _ gr j bs er (by repeat (first | exact hR6.out | apply Rd.alloc_ | apply Rd.drewN_))).mono ?_); go_must (rintro e w7 ⟨rfl, rfl⟩)) | (go_at_call 25; go_must (refine (rd_Left _ _ gr j bs er (by repeat (first | exact hR6.out | apply Rd.alloc_ | apply Rd.drewN_))).mono ?_); go_must (rintro e w8 ⟨rfl, nd8, rfl⟩)) | (go_at_call 26; go_must (refine (rd_End _ _ gr j bs er (by repeat (first | exact hR6.out | apply Rd.alloc_ | apply Rd.drewN_))).mono ?_); go_must (rintro e w9 ⟨rfl, nd9, rfl⟩); go_must (rw [hend])))
              have hch6 := (hO.out.2.1.alloc (.cells #[.int .i64 on, .int .i64 1, .int .i64 nn] 40)).trans hc6.out (fun q hq e => by have := hgr.out; have := hO.out.2.2.1; omega)
              have hsz6 := hc6.out.size
              go_roundw
              case measure => first | (simp [intOf]; done) | (simp [intOf]; omega)
              case rel => exact ⟨k + 1, j, er, by go_num, rfl, rfl, by omega, ⟨(by repeat (first | exact hR6.out | apply Rd.alloc_ | apply Rd.drewN_)), by repeat (first | exact hch6 | apply Chg.drewN | apply Chg.alloc), hO.out.2.2.1, by have := hO.out.2.2.2; simp at hsz6 ⊢; omega⟩⟩
            · obtain rfl := hkeep he0
              have hget : ∀ W, Rd W (fun j => a ≤ j ∧ j < b) gr bs j er → (∀ j, a ≤ j ∧ j < b → j < W.heap.size) → Calls Try.prog 19 #[.pointer (some ⟨gr, 0, none⟩), .agg #[.int .i64 on, .int .i64 1, .int .i64 nn]] W fun ev w' =>
                  ∃ v, ev = .returned (.tuple #[.agg #[.int .u64 0, .string ⟨#[]⟩, .int .i64 0], v]) ∧ Kd.R (Kd.int .u8) 5 w' 0 (New (fun _ => False) W w') v [] ∧ Rd w' (fun j => a ≤ j ∧ j < b) gr bs j er ∧ Chg (fun k => k = gr) W w' := by
                intro W h1 h2
                have h := law_get W (fun j => a ≤ j ∧ j < b) gr _ bs _ on 1 nn h1 hgn.out.1 hgn.out.2 h2
                rw [hA] at h
                exact h
              clear hA hz hkeep
              go_wp2_with (first | (go_at_call 19; go_must (refine (hget _ (hO.out.1.alloc_ _) (fun j hj => by have := hO.out.2.2.2; simp; omega)).mono ?_); go_must (rintro e w6 ⟨v6, rfl, hr6, hR6, hc6⟩); go_must (obtain ⟨A6, n6, cap6, rfl⟩ := R_sl hr6); go_must (obtain ⟨q6, _, _⟩ := Kd.R_reads' hr6); go_must (obtain rfl : n6 = 0 := q6); go_must (clear hr6); go_must (replace hR6 := Aside0.mk hR6); go_must (replace hc6 := Aside0.mk hc6)) | (go_at_call 24; go_must (refine (rd_Err _ _ gr j bs er (by repeat (first | exact hR6.out | apply Rd.alloc_ | apply Rd.drewN_))).mono ?_); go_must (rintro e w7 ⟨rfl, rfl⟩)) | (go_at_call 25; go_must (refine (rd_Left _ _ gr j bs er (by repeat (first | exact hR6.out | apply Rd.alloc_ | apply Rd.drewN_))).mono ?_); go_must (rintro e w8 ⟨rfl, nd8, rfl⟩)) | (go_at_call 26; go_must (refine (rd_End _ _ gr j bs er (by repeat (first | exact hR6.out | apply Rd.alloc_ | apply Rd.drewN_))).mono ?_); go_must (rintro e w9 ⟨rfl, nd9, rfl⟩); go_must (rw [hend])))
              have hch6 := (hO.out.2.1.alloc (.cells #[.int .i64 on, .int .i64 1, .int .i64 nn] 40)).trans hc6.out (fun q hq e => by have := hgr.out; have := hO.out.2.2.1; omega)
              have hsz6 := hc6.out.size
              go_roundw
              case measure => first | (simp [intOf]; done) | (simp [intOf]; omega)
              case rel => exact ⟨k + 1, j, er, by go_num, rfl, rfl, by omega, ⟨(by repeat (first | exact hR6.out | apply Rd.alloc_ | apply Rd.drewN_)), by repeat (first | exact hch6 | apply Chg.drewN | apply Chg.alloc), hO.out.2.2.1, by have := hO.out.2.2.2; simp at hsz6 ⊢; omega⟩⟩
        · have d1 : decide (kd > 6) = false := by simpa using hbig
          obtain ⟨hz, hkeep, hle1, hle2⟩ := pgetA_num (n := nn) (err := err) (kind := kd) hbs.out hi (by omega) (by omega)
          generalize hA : pgetA bs i err kd nn = R at hz hkeep hle1 hle2
          obtain ⟨x, s, e, l, j, er⟩ := R
          dsimp only at hz hkeep hle1 hle2
          by_cases her : er = 0
          · subst her
            obtain rfl : err = 0 := by
              by_cases h : err = 0
              · exact h
              · exact (hkeep h).symm
            have hget : ∀ W, Rd W (fun j => a ≤ j ∧ j < b) gr bs i 0 → (∀ j, a ≤ j ∧ j < b → j < W.heap.size) → Calls Try.prog 19 #[.pointer (some ⟨gr, 0, none⟩), .agg #[.int .i64 on, .int .i64 kd, .int .i64 nn]] W fun ev w' =>
                ∃ v, ev = .returned (.tuple #[.agg #[.int .u64 x, .string (strOfNums s), .int .i64 e], v]) ∧ Kd.R (Kd.int .u8) 5 w' 0 (New (fun _ => False) W w') v l ∧ Rd w' (fun j => a ≤ j ∧ j < b) gr bs j 0 ∧ Chg (fun k => k = gr) W w' := by
              intro W h1 h2
              have h := law_get W (fun j => a ≤ j ∧ j < b) gr _ bs _ on kd nn h1 hgn.out.1 hgn.out.2 h2
              rw [hA] at h
              exact h
            clear hA hz hkeep
            have d1 : decide ((bs.length : Int) - j > (bs.length : Int) - i) = false := by simp; omega
            have d2 : decide ((bs.length : Int) - j < 0) = false := by simp; omega
            have hend : rEnd bs j 0 = rEnd bs j 0 := rfl
            go_wp2_with (first | (go_at_call 19; go_must (refine (hget _ (hO.out.1.alloc_ _) (fun j hj => by have := hO.out.2.2.2; simp; omega)).mono ?_); go_must (rintro e w6 ⟨v6, rfl, hr6, hR6, hc6⟩); go_must (obtain ⟨A6, n6, cap6, rfl⟩ := R_sl hr6); go_must (obtain ⟨q6, _, _⟩ := Kd.R_reads' hr6); go_must (skip); go_must (clear hr6); go_must (replace hR6 := Aside0.mk hR6); go_must (replace hc6 := Aside0.mk hc6)) | (go_at_call 24; go_must (refine (rd_Err _ _ gr j bs 0 (by repeat (first | exact hR6.out | apply Rd.alloc_ | apply Rd.drewN_))).mono ?_); go_must (rintro e w7 ⟨rfl, rfl⟩)) | (go_at_call 25; go_must (refine (rd_Left _ _ gr j bs 0 (by repeat (first | exact hR6.out | apply Rd.alloc_ | apply Rd.drewN_))).mono ?_); go_must (rintro e w8 ⟨rfl, nd8, rfl⟩)) | (go_at_call 26; go_must (refine (rd_End _ _ gr j bs 0 (by repeat (first | exact hR6.out | apply Rd.alloc_ | apply Rd.drewN_))).mono ?_); go_must (rintro e w9 ⟨rfl, nd9, rfl⟩); go_must (rw [hend])))
            have hch6 := (hO.out.2.1.alloc (.cells #[.int .i64 on, .int .i64 kd, .int .i64 nn] 40)).trans hc6.out (fun q hq e => by have := hgr.out; have := hO.out.2.2.1; omega)
            have hsz6 := hc6.out.size
            go_roundw
            case measure => first | (simp [intOf]; done) | (simp [intOf]; omega)
            case rel => exact ⟨k + 1, j, 0, by go_num, rfl, rfl, by omega, ⟨(by repeat (first | exact hR6.out | apply Rd.alloc_ | apply Rd.drewN_)), by repeat (first | exact hch6 | apply Chg.drewN | apply Chg.alloc), hO.out.2.2.1, by have := hO.out.2.2.2; simp at hsz6 ⊢; omega⟩⟩
          · obtain ⟨rfl, rfl, rfl, rfl, rfl⟩ := hz her
            have d3 : (er != 0) = true := by simpa using her
            have hend : rEnd bs j er = er := by unfold rEnd; rw [if_neg (fun h => her h.1)]
            replace hend := hend
            by_cases he0 : err = 0
            · subst he0
              have hget : ∀ W, Rd W (fun j => a ≤ j ∧ j < b) gr bs j 0 → (∀ j, a ≤ j ∧ j < b → j < W.heap.size) → Calls Try.prog 19 #[.pointer (some ⟨gr, 0, none⟩), .agg #[.int .i64 on, .int .i64 kd, .int .i64 nn]] W fun ev w' =>
                  ∃ v, ev = .returned (.tuple #[.agg #[.int .u64 0, .string ⟨#[]⟩, .int .i64 0], v]) ∧ Kd.R (Kd.int .u8) 5 w' 0 (New (fun _ => False) W w') v [] ∧ Rd w' (fun j => a ≤ j ∧ j < b) gr bs j er ∧ Chg (fun k => k = gr) W w' := by
                intro W h1 h2
                have h := law_get W (fun j => a ≤ j ∧ j < b) gr _ bs _ on kd nn h1 hgn.out.1 hgn.out.2 h2
                rw [hA] at h
                exact h
              clear hA hz hkeep
              go_wp2_with (first | (go_at_call 19; go_must (refine (hget _ (hO.out.1.alloc_ _) (fun j hj => by have := hO.out.2.2.2; simp; omega)).mono ?_); go_must (rintro e w6 ⟨v6, rfl, hr6, hR6, hc6⟩); go_must (obtain ⟨A6, n6, cap6, rfl⟩ := R_sl hr6); go_must (obtain ⟨q6, _, _⟩ := Kd.R_reads' hr6); go_must (obtain rfl : n6 = 0 := q6); go_must (clear hr6); go_must (replace hR6 := Aside0.mk hR6); go_must (replace hc6 := Aside0.mk hc6)) | (go_at_call 24; go_must (refine (rd_Err _ _ gr j bs er (by repeat (first | exact hR6.out | apply Rd.alloc_ | apply Rd.drewN_))).mono ?_); go_must (rintro e w7 ⟨rfl, rfl⟩)) | (go_at_call 25; go_must (refine (rd_Left _ _ gr j bs er (by repeat (first | exact hR6.out | apply Rd.alloc_ | apply Rd.drewN_))).mono ?_); go_must (rintro e w8 ⟨rfl, nd8, rfl⟩)) | (go_at_call 26; go_must (refine (rd_End _ _ gr j bs er (by repeat (first | exact hR6.out | apply Rd.alloc_ | apply Rd.drewN_))).mono ?_); go_must (rintro e w9 ⟨rfl, nd9, rfl⟩); go_must (rw [hend])))
              have hch6 := (hO.out.2.1.alloc (.cells #[.int .i64 on, .int .i64 kd, .int .i64 nn] 40)).trans hc6.out (fun q hq e => by have := hgr.out; have := hO.out.2.2.1; omega)
              have hsz6 := hc6.out.size
              go_roundw
              case measure => first | (simp [intOf]; done) | (simp [intOf]; omega)
              case rel => exact ⟨k + 1, j, er, by go_num, rfl, rfl, by omega, ⟨(by repeat (first | exact hR6.out | apply Rd.alloc_ | apply Rd.drewN_)), by repeat (first | exact hch6 | apply Chg.drewN | apply Chg.alloc), hO.out.2.2.1, by have := hO.out.2.2.2; simp at hsz6 ⊢; omega⟩⟩
            · obtain rfl := hkeep he0
              have hget : ∀ W, Rd W (fun j => a ≤ j ∧ j < b) gr bs j er → (∀ j, a ≤ j ∧ j < b → j < W.heap.size) → Calls Try.prog 19 #[.pointer (some ⟨gr, 0, none⟩), .agg #[.int .i64 on, .int .i64 kd, .int .i64 nn]] W fun ev w' =>
                  ∃ v, ev = .returned (.tuple #[.agg #[.int .u64 0, .string ⟨#[]⟩, .int .i64 0], v]) ∧ Kd.R (Kd.int .u8) 5 w' 0 (New (fun _ => False) W w') v [] ∧ Rd w' (fun j => a ≤ j ∧ j < b) gr bs j er ∧ Chg (fun k => k = gr) W w' := by
                intro W h1 h2
                have h := law_get W (fun j => a ≤ j ∧ j < b) gr _ bs _ on kd nn h1 hgn.out.1 hgn.out.2 h2
                rw [hA] at h
                exact h
              clear hA hz hkeep
              go_wp2_with (first | (go_at_call 19; go_must (refine (hget _ (hO.out.1.alloc_ _) (fun j hj => by have := hO.out.2.2.2; simp; omega)).mono ?_); go_must (rintro e w6 ⟨v6, rfl, hr6, hR6, hc6⟩); go_must (obtain ⟨A6, n6, cap6, rfl⟩ := R_sl hr6); go_must (obtain ⟨q6, _, _⟩ := Kd.R_reads' hr6); go_must (obtain rfl : n6 = 0 := q6); go_must (clear hr6); go_must (replace hR6 := Aside0.mk hR6); go_must (replace hc6 := Aside0.mk hc6)) | (go_at_call 24; go_must (refine (rd_Err _ _ gr j bs er (by repeat (first | exact hR6.out | apply Rd.alloc_ | apply Rd.drewN_))).mono ?_); go_must (rintro e w7 ⟨rfl, rfl⟩)) | (go_at_call 25; go_must (refine (rd_Left _ _ gr j bs er (by repeat (first | exact hR6.out | apply Rd.alloc_ | apply Rd.drewN_))).mono ?_); go_must (rintro e w8 ⟨rfl, nd8, rfl⟩)) | (go_at_call 26; go_must (refine (rd_End _ _ gr j bs er (by repeat (first | exact hR6.out | apply Rd.alloc_ | apply Rd.drewN_))).mono ?_); go_must (rintro e w9 ⟨rfl, nd9, rfl⟩); go_must (rw [hend])))
              have hch6 := (hO.out.2.1.alloc (.cells #[.int .i64 on, .int .i64 kd, .int .i64 nn] 40)).trans hc6.out (fun q hq e => by have := hgr.out; have := hO.out.2.2.1; omega)
              have hsz6 := hc6.out.size
              go_roundw
              case measure => first | (simp [intOf]; done) | (simp [intOf]; omega)
              case rel => exact ⟨k + 1, j, er, by go_num, rfl, rfl, by omega, ⟨(by repeat (first | exact hR6.out | apply Rd.alloc_ | apply Rd.drewN_)), by repeat (first | exact hch6 | apply Chg.drewN | apply Chg.alloc), hO.out.2.2.1, by have := hO.out.2.2.2; simp at hsz6 ⊢; omega⟩⟩
    · obtain rfl : k = row.length := by omega
      go_wp2
      go_ret
      exact ⟨rfl, hO.out.2.1.below (fun _ _ h => h)⟩

end Go.Proofs.Ytbheebcjbolboaa.K
