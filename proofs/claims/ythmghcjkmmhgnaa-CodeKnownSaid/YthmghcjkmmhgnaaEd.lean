import Derived.Test.YthmghcjkmmhgnaaEc
import Derived.Test.YthmghcjkmmhgnaaLz
import Derived.Test.YthmghcjkmmhgnaaMz
import Derived.BigQuiet
import Derived.IntWalk
import Derived.Deep.RegionWith
namespace Go.Proofs.Ythmghcjkmmhgnaa.K
open Go.RowKit Go.Proofs.YthmghcjkmmhgnaaW.PrintWords Go.Proofs.YthmghcjkmmhgnaaW.PrintLast Go.Proofs.YthmghcjkmmhgnaaW.PrintMore
set_option linter.unusedVariables false
set_option linter.unusedSimpArgs false
set_option maxRecDepth 100000

def okL (l : List Instr) : Bool := l.all (fun i => efP i.op i.a)
def flatL (l : List Instr) : List Int := l.flatMap (fun i => putP i.op i.a)
theorem encGo_eq : ∀ (l : List Instr) (acc : List Int), encGo l acc = if okL l = true then (acc ++ flatL l, 0) else ([], 7)
  | [], acc => by simp [encGo, okL, flatL]
  | i :: l, acc => by
    rw [encGo, encGo_eq l]
    cases h : efP i.op i.a
    · simp [okL, h]
    · simp [okL, flatL, h]
theorem encP_eq (l : List Instr) : encP l = if 2000 < l.length then ([], 5) else if okL l = true then (flatL l, 0) else ([], 7) := by
  unfold encP
  rw [encGo_eq]
  simp
theorem encP_ok {l : List Instr} (h : (encP l).2 = 0) : l.length ≤ 2000 ∧ okL l = true ∧ (encP l).1 = flatL l := by
  rw [encP_eq] at h ⊢
  split at h
  · cases h
  · rename_i hl
    rw [if_neg hl]
    split at h
    · rename_i ho
      exact ⟨by omega, ho, by rw [if_pos ho]⟩
    · cases h
theorem encP_of {l : List Instr} (h0 : l.length ≤ 2000) (h1 : okL l = true) : encP l = (flatL l, 0) := by rw [encP_eq, if_neg (by omega), if_pos h1]
theorem okL_append (a b : List Instr) : okL (a ++ b) = (okL a && okL b) := by simp [okL]
theorem flatL_append (a b : List Instr) : flatL (a ++ b) = flatL a ++ flatL b := by simp [flatL]
theorem flatL_length (l : List Instr) : (flatL l).length ≤ 11 * l.length := by
  induction l with
  | nil => simp [flatL]
  | cons i l ih =>
    have := putP_length i.op i.a
    have e : flatL (i :: l) = putP i.op i.a ++ flatL l := by simp [flatL]
    rw [e, List.length_append, List.length_cons]; omega
theorem encP_length (l : List Instr) : (encP l).1.length ≤ 22000 := by
  rw [encP_eq]
  split
  · simp
  · split
    · have := flatL_length l; simp only; omega
    · simp
theorem kInstr_KM (W : World) (x : Instr) (cs : List Value) (h : kInstr.K W x cs) : kInstr.M W 0 (fun _ => False) x cs := by
  rw [kInstr_K] at h
  subst h
  exact kInstr_M _ _ _ _
/-- A block of instructions. -/
theorem C_instrs {w : World} {g : Nat} {cs : Array Value} {t : TypeId} {l : List Instr} (h : w.heap[g]? = some (.cells cs t (0, 0))) (hl : l.length ≤ 9223372036854775807) (hcs : ∀ j x, l[j]? = some x → cs[j * 2]? = some (.int .i64 x.op) ∧ cs[j * 2 + 1]? = some (.int .i64 x.a)) : Kd.C kInstr w (some ⟨g, 0, none⟩) l.length l := by
  refine ⟨rfl, hl, fun _ => ⟨⟨g, 0, none⟩, rfl, fun j x hx => ?_⟩⟩
  obtain ⟨h0, h1⟩ := hcs j x hx
  refine ⟨_, rfl, (kInstr_K w x _).2 rfl, fun i u hu => ?_⟩
  have hadd : ∀ m, (⟨g, 0, none⟩ : Addr).add m = ⟨g, m, none⟩ := fun m => by unfold Addr.add; split <;> simp_all
  rw [hadd]
  match i, hu with
  | 0, hu => simp at hu; subst hu; simp [World.cell?, h]; exact h0
  | 1, hu => simp at hu; subst hu; simp [World.cell?, h]; exact h1
theorem R_C {α : Type} {d : Kd α} {e n c : Nat} {w : World} {ok : Nat → Prop} {A : Option Addr} {xs : List α} (h : d.R e w 0 ok (.slice A n c) xs) : d.C w A n xs := by
  obtain ⟨h1, _, h3⟩ := Kd.R_reads' h
  rw [← h1] at h3
  exact h3
theorem encP_works : encP [⟨4, -1⟩, ⟨12, 0⟩, ⟨40, 300⟩] = ([4, 1, 12, 40, 172, 2], 0) := by decide +kernel
theorem law_works (w : World) : Calls Try.prog 47 #[] w fun e w' => e = .returned (.bool true) ∧ Chg (fun _ => False) w w' := by
  have hC : Aside0 (Kd.C kInstr (w.alloc (.cells #[.int .i64 4, .int .i64 (-1), .int .i64 12, .int .i64 0, .int .i64 40, .int .i64 300] 35)) (some ⟨w.heap.size, 0, none⟩) 3 [⟨4, -1⟩, ⟨12, 0⟩, ⟨40, 300⟩]) :=
    ⟨C_instrs (l := [⟨4, -1⟩, ⟨12, 0⟩, ⟨40, 300⟩]) (heap_alloc_new w _) (by decide) (fun j x hx => by
      match j, hx with
      | 0, hx => simp at hx; subst hx; exact ⟨rfl, rfl⟩
      | 1, hx => simp at hx; subst hx; exact ⟨rfl, rfl⟩
      | 2, hx => simp at hx; subst hx; exact ⟨rfl, rfl⟩)⟩
  have hc0 := Aside0.mk ((Chg.refl (fun _ => False) w).alloc (.cells #[.int .i64 4, .int .i64 (-1), .int .i64 12, .int .i64 0, .int .i64 40, .int .i64 300] 35))
  go_enter Try.func47, Try.ntmps47
  go_wp2_with (go_at_call 43; go_must (refine (code_Encode _ _ 3 3 _ hC.out (by decide) (by decide)).mono ?_); go_must (rintro e w1 ⟨v1, rfl, hr1, hc1⟩); go_must (obtain ⟨A1, n1, cap1, rfl⟩ := R_sl hr1); go_must (rw [encP_works] at hr1); go_must (rw [encP_works]); go_must (obtain ⟨q1, _, qC1⟩ := Kd.R_reads' hr1); go_must (obtain rfl : n1 = 6 := q1); go_must (have hcv := Kd.C_string (P := Try.prog) (c := cap1) Try.underlying43 Try.underlying5 Try.underlying9 (show Kd.C (Kd.int .u8) w1 A1 6 [4, 1, 12, 40, 172, 2] from qC1)); go_must (rw [show strOfNums [4, 1, 12, 40, 172, 2] = ⟨#[4, 1, 12, 40, 172, 2]⟩ from rfl] at hcv); go_must (clear qC1 hr1); go_must (replace hc1 := Aside0.mk (hc0.out.trans hc1 (fun _ _ h => h))))
  go_ret
  exact ⟨rfl, hc1.out⟩

set_option maxHeartbeats 4000000
theorem law_codeJoins (w : World) (A B : Option Addr) (n capa m capb : Nat) (l1 l2 : List Instr) (hC : Kd.C kInstr w A n l1) (hD : Kd.C kInstr w B m l2) (hl1 : ∀ i ∈ l1, -9223372036854775808 ≤ i.a ∧ i.a ≤ 9223372036854775807) (hl2 : ∀ i ∈ l2, -9223372036854775808 ≤ i.a ∧ i.a ≤ 9223372036854775807) (hn1 : l1.length ≤ 8796093022100) (hn2 : l2.length ≤ 8796093022100) :
    Calls Try.prog 11 #[.slice A n capa, .slice B m capb] w fun e w' => e = .returned (.bool true) ∧ Below w.heap.size w w' := by
  have e0 := hC.1
  have e1 := hD.1
  subst e0 e1
  have hCA := Aside0.mk hC
  have hDA := Aside0.mk hD
  have hen1 : Aside0 (∀ c, Calls Try.prog 43 #[.slice A l1.length c] w fun e w' => ∃ v, e = .returned (.tuple #[v, .int .i64 (encP l1).2]) ∧ Kd.R (Kd.int .u8) 5 w' 0 (New (fun _ => False) w w') v (encP l1).1 ∧ Chg (fun _ => False) w w') := ⟨fun c => code_Encode w A l1.length c l1 hC hl1 (by omega)⟩
  have hen2 : Aside0 (∀ c W, Chg (fun _ => False) w W → Calls Try.prog 43 #[.slice B l2.length c] W fun e w' => ∃ v, e = .returned (.tuple #[v, .int .i64 (encP l2).2]) ∧ Kd.R (Kd.int .u8) 5 w' 0 (New (fun _ => False) W w') v (encP l2).1 ∧ Chg (fun _ => False) W w') := ⟨fun c W hW => code_Encode W B l2.length c l2 (C_chg hD (hW.below (fun _ _ h => h))) hl2 (by omega)⟩
  have hlA := Aside0.mk hl1
  have hlB := Aside0.mk hl2
  clear hC hD hl1 hl2
  by_cases h1 : (encP l1).2 = 0
  · by_cases h2 : (encP l2).2 = 0
    · by_cases hs : l1.length + l2.length ≤ 2000
      · obtain ⟨a1, a2, a3⟩ := encP_ok h1
        obtain ⟨b1, b2, b3⟩ := encP_ok h2
        have henc : Aside0 (encP (l1 ++ l2) = (flatL l1 ++ flatL l2, 0)) := ⟨by rw [encP_of (by rw [List.length_append]; omega) (by rw [okL_append, a2, b2]; rfl), flatL_append]⟩
        have hall : Aside0 (∀ i ∈ l1 ++ l2, -9223372036854775808 ≤ i.a ∧ i.a ≤ 9223372036854775807) := ⟨fun i hi => by
          rcases List.mem_append.1 hi with h | h
          · exact hlA.out i h
          · exact hlB.out i h⟩
        have hlong : Aside0 ((l1 ++ l2).length ≤ 8796093022208) := ⟨by rw [List.length_append]; omega⟩
        have f1 := Aside0.mk (flatL_length l1)
        have f2 := Aside0.mk (flatL_length l2)
        rw [h1, a3] at hen1
        rw [h2, b3] at hen2
        have d0 : decide (2000 < l1.length + l2.length) = false := by simp; omega
        have d1 : decide ((2000 : Int) < (l1.length : Int) + (l2.length : Int)) = false := by simp; omega
        replace hs := Aside0.mk hs
        clear h1 h2 a1 a2 a3 b1 b2 b3
        generalize flatL l1 = xs at henc hen1 f1
        generalize flatL l2 = ys at henc hen2 f2
        go_enter Try.func11, Try.ntmps11
        go_wp2_with (first | (go_at_call_of 43 capa; go_must (refine (hen1.out _).mono ?_); go_must (rintro e w1 ⟨v1, rfl, hr1, hc1⟩); go_must (obtain ⟨A1, n1, cap1, rfl⟩ := R_sl hr1); go_must (replace hr1 := Aside0.mk hr1); go_must (replace hc1 := Aside0.mk hc1)) | (go_at_call_of 43 capb; go_must (refine (hen2.out _ _ hc1.out).mono ?_); go_must (rintro e w2 ⟨v2, rfl, hr2, hc2⟩); go_must (obtain ⟨A2, n2, cap2, rfl⟩ := R_sl hr2); go_must (have hx2 := Aside0.mk (R_chg hr1.out hc2 (fun _ _ _ h => h))); go_must (replace hr2 := Aside0.mk hr2); go_must (replace hc2 := Aside0.mk (hc1.out.trans hc2 (fun _ _ h => h)))) | (go_at_call 47; go_must (refine (law_works _).mono ?_); go_must (rintro e w3 ⟨rfl, hc3⟩); go_must (have hx3 := Aside0.mk (R_chg hx2.out hc3 (fun _ _ _ h => h))); go_must (have hy3 := Aside0.mk (R_chg hr2.out hc3 (fun _ _ _ h => h))); go_must (replace hc3 := Aside0.mk (hc2.out.trans hc3 (fun _ _ h => h)))) | (go_at_call 45; go_must (refine (copyInstrs _ A l1.length capa l1 (C_chg hCA.out (hc3.out.below (fun _ _ h => h))) (by have := hs.out; omega)).mono ?_); go_must (rintro e w4 ⟨v4, rfl, hr4, hc4⟩); go_must (obtain ⟨A4, n4, cap4, rfl⟩ := R_sl hr4); go_must (have hD4 := Aside0.mk (C_chg hDA.out ((hc3.out.trans hc4 (fun _ _ h => h)).below (fun _ _ h => h)))); go_must (have hl4 : Aside0 ((l1.length + l2.length) * 16 ≤ 140737488355328) := ⟨by have := hs.out; omega⟩); go_must (replace hr4 := Aside0.mk hr4); go_must (replace hc4 := Aside0.mk hc4)) | (at_builtin; refine appN kInstr rfl (.tmp 41) (.tmp 42) rfl Try.underlying22 infoInstr rfl (by decide) (by decide) rfl rfl hr4 hD4 (fun x cs h => kInstr_KM _ x cs h) hc4 hl4 ?_; go_must (intro v5 w5 hr5 hc5); go_must (obtain ⟨A5, n5, cap5, rfl⟩ := R_sl hr5.out); go_must (have p5 := Aside0.mk (R_C hr5.out)); go_must (have hx5 := Aside0.mk (R_chg hx3.out hc5.out (fun _ _ _ h => h))); go_must (have hy5 := Aside0.mk (R_chg hy3.out hc5.out (fun _ _ _ h => h))); go_must (replace hc5 := Aside0.mk (hc3.out.trans hc5.out (fun _ _ h => h))); go_must (clear hr4 hD4 hc4 hl4)) | (go_at_call_of 43 cap5; go_must (refine (code_Encode _ A5 n5 cap5 (l1 ++ l2) p5.out hall.out hlong.out).mono ?_); go_must (rintro e w6 ⟨v6, rfl, hr6, hc6⟩); go_must (rw [henc.out] at hr6); go_must (rw [henc.out]); go_must (obtain ⟨A6, n6, cap6, rfl⟩ := R_sl hr6); go_must (have hx6 := Aside0.mk (R_C (R_chg hx5.out hc6 (fun _ _ _ h => h)))); go_must (have hy6 := Aside0.mk (R_chg hy5.out hc6 (fun _ _ _ h => h))); go_must (replace hr6 := Aside0.mk hr6); go_must (replace hc6 := Aside0.mk (hc5.out.trans hc6 (fun _ _ h => h)))) | (go_at_call 40; go_must (refine (ref_copy _ A1 n1 cap1 xs hx6.out (by have := f1.out; have := hs.out; omega)).mono ?_); go_must (rintro e w7 ⟨v7, rfl, hr7, hc7⟩); go_must (obtain ⟨A7, n7, cap7, rfl⟩ := R_sl hr7); go_must (have hy7 := Aside0.mk (R_C (R_chg hy6.out hc7 (fun _ _ _ h => h)))); go_must (have hl7 : Aside0 ((xs.length + n2) * 1 ≤ 140737488355328) := ⟨by have := f1.out; have := f2.out; have := hs.out; have := hy7.out.1; omega⟩); go_must (replace hr7 := Aside0.mk hr7); go_must (replace hc7 := Aside0.mk hc7)) | (at_builtin; refine appN (Kd.int .u8) rfl (.tmp 51) (.tmp 52) rfl Try.underlying43 infoU8 rfl (by decide) (by decide) rfl rfl hr7 hy7 (fun _ _ h => h) hc7 hl7 ?_; go_must (intro v8 w8 hr8 hc8); go_must (obtain ⟨A8, n8, cap8, rfl⟩ := R_sl hr8.out); go_must (have p8 := Aside0.mk (R_C hr8.out)); go_must (have z8 := Aside0.mk (R_C (R_chg hr6.out hc8.out (fun _ _ _ h => h)))); go_must (replace hc8 := Aside0.mk (hc6.out.trans hc8.out (fun _ _ h => h)))) | (go_at_call 44; go_must (refine (same_bytes _ A6 A8 n6 n8 cap6 cap8 _ _ z8.out p8.out).mono ?_); go_must (rintro e w9 ⟨rfl, hd9⟩); go_must (rw [decide_eq_true (rfl : xs ++ ys = xs ++ ys)]); go_must (have hfin := Aside0.mk (hc8.out.trans (chg_drawn0 (S := fun _ => False) hd9) (fun _ _ h => h))); go_must (clear hd9)))
        go_ret
        exact ⟨rfl, (by repeat (first | exact hfin.out.below (fun _ _ h => h)))⟩
      · have d0 : decide (2000 < l1.length + l2.length) = true := by simp; omega
        have d1 : decide ((2000 : Int) < (l1.length : Int) + (l2.length : Int)) = true := by simp; omega
        rw [h1] at hen1
        rw [h2] at hen2
        clear h1 h2 hs
        generalize (encP l1).1 = xs at hen1
        generalize (encP l2).1 = ys at hen2
        go_enter Try.func11, Try.ntmps11
        go_wp2_with (first | (go_at_call_of 43 capa; go_must (refine (hen1.out _).mono ?_); go_must (rintro e w1 ⟨v1, rfl, hr1, hc1⟩); go_must (obtain ⟨A1, n1, cap1, rfl⟩ := R_sl hr1); go_must (replace hr1 := Aside0.mk hr1); go_must (replace hc1 := Aside0.mk hc1)) | (go_at_call_of 43 capb; go_must (refine (hen2.out _ _ hc1.out).mono ?_); go_must (rintro e w2 ⟨v2, rfl, hr2, hc2⟩); go_must (obtain ⟨A2, n2, cap2, rfl⟩ := R_sl hr2); go_must (replace hr2 := Aside0.mk hr2); go_must (replace hc2 := Aside0.mk (hc1.out.trans hc2 (fun _ _ h => h)))) | (go_at_call 47; go_must (refine (law_works _).mono ?_); go_must (rintro e w3 ⟨rfl, hc3⟩); go_must (have hc23 := Aside0.mk hc3); go_must (replace hc3 := Aside0.mk (hc2.out.trans hc3 (fun _ _ h => h)))))
        go_ret
        exact ⟨rfl, hc3.out.below (fun _ _ h => h)⟩
    · have d0 : ((encP l2).2 == 0) = false := by simpa using h2
      have d9 : ((encP l2).2 != 0) = true := by simpa using h2
      rw [h1] at hen1
      clear h1 h2
      generalize (encP l2).2 = c2 at hen2 d0 d9
      generalize (encP l1).1 = xs at hen1
      generalize (encP l2).1 = ys at hen2
      go_enter Try.func11, Try.ntmps11
      go_wp2_with (first | (go_at_call_of 43 capa; go_must (refine (hen1.out _).mono ?_); go_must (rintro e w1 ⟨v1, rfl, hr1, hc1⟩); go_must (obtain ⟨A1, n1, cap1, rfl⟩ := R_sl hr1); go_must (replace hr1 := Aside0.mk hr1); go_must (replace hc1 := Aside0.mk hc1)) | (go_at_call_of 43 capb; go_must (refine (hen2.out _ _ hc1.out).mono ?_); go_must (rintro e w2 ⟨v2, rfl, hr2, hc2⟩); go_must (obtain ⟨A2, n2, cap2, rfl⟩ := R_sl hr2); go_must (replace hr2 := Aside0.mk hr2); go_must (replace hc2 := Aside0.mk (hc1.out.trans hc2 (fun _ _ h => h)))) | (go_at_call 47; go_must (refine (law_works _).mono ?_); go_must (rintro e w3 ⟨rfl, hc3⟩); go_must (have hc23 := Aside0.mk hc3); go_must (replace hc3 := Aside0.mk (hc2.out.trans hc3 (fun _ _ h => h)))))
      go_ret
      exact ⟨rfl, hc3.out.below (fun _ _ h => h)⟩
  · have d0 : ((encP l1).2 == 0) = false := by simpa using h1
    have d9 : ((encP l1).2 != 0) = true := by simpa using h1
    clear h1
    generalize (encP l1).2 = c1 at hen1 d0 d9
    generalize (encP l2).2 = c2 at hen2
    generalize (encP l1).1 = xs at hen1
    generalize (encP l2).1 = ys at hen2
    go_enter Try.func11, Try.ntmps11
    go_wp2_with (first | (go_at_call_of 43 capa; go_must (refine (hen1.out _).mono ?_); go_must (rintro e w1 ⟨v1, rfl, hr1, hc1⟩); go_must (obtain ⟨A1, n1, cap1, rfl⟩ := R_sl hr1); go_must (replace hr1 := Aside0.mk hr1); go_must (replace hc1 := Aside0.mk hc1)) | (go_at_call_of 43 capb; go_must (refine (hen2.out _ _ hc1.out).mono ?_); go_must (rintro e w2 ⟨v2, rfl, hr2, hc2⟩); go_must (obtain ⟨A2, n2, cap2, rfl⟩ := R_sl hr2); go_must (replace hr2 := Aside0.mk hr2); go_must (replace hc2 := Aside0.mk (hc1.out.trans hc2 (fun _ _ h => h)))) | (go_at_call 47; go_must (refine (law_works _).mono ?_); go_must (rintro e w3 ⟨rfl, hc3⟩); go_must (have hc23 := Aside0.mk hc3); go_must (replace hc3 := Aside0.mk (hc2.out.trans hc3 (fun _ _ h => h)))))
    go_ret
    exact ⟨rfl, hc3.out.below (fun _ _ h => h)⟩

end Go.Proofs.Ythmghcjkmmhgnaa.K
