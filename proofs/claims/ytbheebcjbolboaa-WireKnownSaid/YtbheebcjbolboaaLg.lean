import Derived.Test.YtbheebcjbolboaaLf
namespace Go.Proofs.Ytbheebcjbolboaa.K
open Go.RowKit Go.Proofs.YtbheebcjbolboaaW.PrintWords Go.Proofs.YtbheebcjbolboaaW.PrintLast Go.Proofs.YtbheebcjbolboaaW.PrintMore
set_option linter.unusedVariables false
set_option linter.unusedSimpArgs false
set_option maxRecDepth 100000

/-- What one call of a reader answers, and where it stands then: the number, the text, the rest; what Raw hands out. -/
structure GotA where
  x : Int
  s : List Int
  e : Int
  l : List Int
  i : Nat
  err : Int
def pgetA (bs : List Int) (i : Nat) (err kind n : Int) : GotA :=
  if kind = 0 then let r := rrun (pNext bs) 0 i err; ⟨r.1, [], 0, [], r.2.1, r.2.2⟩
  else if kind = 1 then let r := rrun (pNum bs) 0 i err; ⟨r.1, [], 0, [], r.2.1, r.2.2⟩
  else if kind = 2 then let r := rrun (pNum bs) 0 i err; ⟨IntKind.u64.wrap (unfoldI r.1), [], 0, [], r.2.1, r.2.2⟩
  else if kind = 3 then let r := rrun (pWord bs) 0 i err; ⟨r.1, [], 0, [], r.2.1, r.2.2⟩
  else if kind = 4 then let r := rrun (pText bs n) [] i err; ⟨0, r.1, 0, [], r.2.1, r.2.2⟩
  else if kind = 5 then let r := rrun (pRaw bs n) [] i err; ⟨0, r.1, 0, r.1, r.2.1, r.2.2⟩
  else if kind = 6 then let r := rrun (pCount bs n) 0 i err; ⟨r.1, [], 0, [], r.2.1, r.2.2⟩
  else if kind = 7 then ⟨(bs.length : Int) - i, [], 0, [], i, err⟩
  else if kind = 8 then ⟨0, [], err, [], i, err⟩
  else ⟨0, [], rEnd bs i err, [], i, err⟩
theorem rr_count {bs : List Int} (hb : ∀ c ∈ bs, 0 ≤ c ∧ c < 256) (m : Int) (hm : m ≤ 9223372036854775807) (i : Nat) (err : Int) : 0 ≤ (rrun (pCount bs m) 0 i err).1 ∧ (rrun (pCount bs m) 0 i err).1 ≤ 9223372036854775807 := by
  rcases rrun_cases (pCount bs m) 0 i err with ⟨x, j, _, h2, h3⟩ | ⟨c, h1, _⟩
  · rw [h3]
    obtain ⟨h4, h5⟩ := pCount_num h2
    have := pNum_range hb h4
    simp only
    omega
  · rw [h1]; simp
theorem wrap_id {x : Int} (h0 : 0 ≤ x) (h1 : x ≤ 18446744073709551615) : IntKind.u64.wrap x = x := by
  show x % 18446744073709551616 = x
  omega
theorem strOfNums_nil' : strOfNums [] = ⟨#[]⟩ := rfl
theorem chg_drawn0 {S : Nat → Prop} {w w' : World} (h : Drawn0 w w') : Chg S w w' := by obtain ⟨_, rfl⟩ := h; exact (Chg.refl _ _).drewN _
theorem chg_eq {S : Nat → Prop} {w w' : World} (h : w = w') : Chg S w w' := by subst h; exact Chg.refl _ _
theorem cells3 {w : World} {g : Nat} {a b c : Value} {t : TypeId} (h : w.heap[g]? = some (.cells #[a, b, c] t (0, 0))) :
    w.cell? ⟨g, 0, none⟩ = some a ∧ w.cell? ⟨g, 1, none⟩ = some b ∧ w.cell? ⟨g, 2, none⟩ = some c ∧ w.frozen? ⟨g, 0, none⟩ = false ∧ w.frozen? ⟨g, 1, none⟩ = false ∧ w.frozen? ⟨g, 2, none⟩ = false :=
  ⟨blk_cell h 0, blk_cell h 1, blk_cell h 2, blk_frozen h 0, blk_frozen h 1, blk_frozen h 2⟩
theorem set3 {w : World} {g : Nat} {a b c x y z : Value} {t : TypeId} (h : w.heap[g]? = some (.cells #[a, b, c] t (0, 0))) :
    (((w.setCell ⟨g, 0, none⟩ x).setCell ⟨g, 1, none⟩ y).setCell ⟨g, 2, none⟩ z).heap[g]? = some (.cells #[x, y, z] t (0, 0)) ∧
      Chg (fun k => k = g) w (((w.setCell ⟨g, 0, none⟩ x).setCell ⟨g, 1, none⟩ y).setCell ⟨g, 2, none⟩ z) := by
  have h1 := blk_set h 0 x
  have h2 := blk_set h1 1 y
  have h3 := blk_set h2 2 z
  exact ⟨by simpa using h3, (((Chg.refl (fun k => k = g) w).setCell (p := ⟨g, 0, none⟩) (fun _ => rfl) x).setCell (p := ⟨g, 1, none⟩) (fun _ => rfl) y).setCell (p := ⟨g, 2, none⟩) (fun _ => rfl) z⟩
theorem results_cell2 {fn : Func} {c u : Tmp} {t : TypeId} (h : fn.results = #[.cell c t, .tmp u]) (tmps : Array Value) (P : Program) (w : World) (g : Nat) (hp : tmps.getD c undef = .pointer (some ⟨g, 0, none⟩)) (v : Value) (hl : (loadVar t ⟨g, 0, none⟩).run P w = .ok v w) :
    (results fn tmps).run P w = .ok (.tuple #[v, tmps.getD u undef]) w := by
  simp only [results, h]
  rw [Array.getD_eq_getD_getElem?] at hp
  simp [hp, asAddr, hl, Result.andThen]
theorem kit_num (w : World) (x : Int) : Calls Try.prog 56 #[.int .i64 x] w fun e w' => e = .returned (.int .i64 x) ∧ w' = w := by
  go_enter Try.func56, Try.ntmps56
  go_wp2
  go_ret
  exact ⟨rfl, rfl⟩
set_option maxHeartbeats 4000000
theorem law_get (w : World) (F : Nat → Prop) (gr i : Nat) (bs : List Int) (err on kind n : Int) (hw : Rd w F gr bs i err) (hn0 : -9223372036854775808 ≤ n) (hn1 : n ≤ 9223372036854775807) (hF0 : ∀ k, F k → k < w.heap.size) :
    Calls Try.prog 19 #[.pointer (some ⟨gr, 0, none⟩), .agg #[.int .i64 on, .int .i64 kind, .int .i64 n]] w fun e w' =>
      ∃ v, e = .returned (.tuple #[.agg #[.int .u64 (pgetA bs i err kind n).x, .string (strOfNums (pgetA bs i err kind n).s), .int .i64 (pgetA bs i err kind n).e], v]) ∧ Kd.R (Kd.int .u8) 5 w' 0 (New (fun _ => False) w w') v (pgetA bs i err kind n).l ∧
        Rd w' F gr bs (pgetA bs i err kind n).i (pgetA bs i err kind n).err ∧ Chg (fun k => k = gr) w w' := by
  have hby : ∀ c ∈ bs, 0 ≤ c ∧ c < 256 := by obtain ⟨_, _, _, _, _, _, h, _⟩ := hw; exact h
  replace hby := Aside0.mk hby
  have hF := Aside0.mk hF0
  clear hF0
  have hgl := hw.lt
  have hc0 := Aside0.mk (((Chg.refl (fun _ => False) w).alloc (.cells #[.int .i64 on, .int .i64 kind, .int .i64 n] 40)).alloc (.cells #[.int .u64 0, .string ⟨#[]⟩, .int .i64 0] 43))
  have hbox := Aside0.mk (heap_alloc_new2 w (.cells #[.int .i64 on, .int .i64 kind, .int .i64 n] 40) (.cells #[.int .u64 0, .string ⟨#[]⟩, .int .i64 0] 43))
  have hbox1 := Aside0.mk (heap_alloc_old2 w (.cells #[.int .i64 on, .int .i64 kind, .int .i64 n] 40) (.cells #[.int .u64 0, .string ⟨#[]⟩, .int .i64 0] 43))
  have hRd := Aside0.mk (hw.chg hc0.out (fun _ _ _ h => h))
  have hwA := Aside0.mk hw
  clear hw
  have hi : i ≤ bs.length ∧ bs.length ≤ 140737488355328 := by obtain ⟨_, _, _, _, h1, h2, _⟩ := hwA.out; exact ⟨h1, h2⟩
  obtain ⟨hi1, hi2⟩ := hi
  by_cases g0 : kind = 0
  · subst g0
    have hx : IntKind.u64.wrap (rrun (pNext bs) 0 i err).1 = (rrun (pNext bs) 0 i err).1 := by have := rr_next hby.out i err; exact wrap_id this.1 (by omega)
    go_enter Try.func19, Try.ntmps19
    go_wp2_with (go_at_call 28; go_must (refine (rd_Byte _ _ gr i bs err hRd.out).mono ?_); go_must (rintro e w1 ⟨rfl, hR1, hc1⟩); go_must (obtain ⟨b0, b1, b2, f0, f1, f2⟩ := cells3 (hc1.blk hbox.out (by omega))); go_must (replace hR1 := Aside0.mk hR1); go_must (replace hc1 := Aside0.mk hc1))
    have hA : pgetA bs i err 0 n = ⟨(rrun (pNext bs) 0 i err).1, [], 0, [], (rrun (pNext bs) 0 i err).2.1, (rrun (pNext bs) 0 i err).2.2⟩ := by unfold pgetA; rw [if_pos rfl]
    have h5 := set3 (x := .int .u64 (rrun (pNext bs) 0 i err).1) (y := .string (⟨#[]⟩)) (z := .int .i64 0) (hc1.out.blk hbox.out (by omega))
    generalize hw5 : World.setCell (World.setCell (World.setCell _ _ _) _ _) _ _ = w5 at h5
    replace h5 := Aside0.mk h5
    clear hw5
    (try simp only [Exit.inBlock, Exit.then])
    refine bodyPost_ret (results_cell2 rfl _ _ _ _ rfl _ (run_loadVar_row _ _ _ _ _ _ _ h5.out.1 Try.underlying43 rfl (by kernel_rfl))) rfl ?_
    rw [hA]
    refine ⟨.slice none 0 0, rfl, Kd.R_nil _ _ _ _ _, ?_, ?_⟩
    · exact hR1.out.chg h5.out.2 (fun j hj hFj e => by have := hF.out j hFj; omega)
    · exact ((hc0.out.mono (fun _ _ h => h.elim)).trans hc1.out (fun _ _ h => h)).trans h5.out.2 (fun j hj e => by omega)
  have t0 : (kind == 0) = false := by simpa using g0
  by_cases g1 : kind = 1
  · subst g1
    go_enter Try.func19, Try.ntmps19
    go_wp2_with (go_at_call 29; go_must (refine (rd_Uint _ _ gr i bs err hRd.out).mono ?_); go_must (rintro e w1 ⟨rfl, hR1, hc1⟩); go_must (obtain ⟨b0, b1, b2, f0, f1, f2⟩ := cells3 (hc1.blk hbox.out (by omega))); go_must (replace hR1 := Aside0.mk hR1); go_must (replace hc1 := Aside0.mk hc1))
    have hA : pgetA bs i err 1 n = ⟨(rrun (pNum bs) 0 i err).1, [], 0, [], (rrun (pNum bs) 0 i err).2.1, (rrun (pNum bs) 0 i err).2.2⟩ := by unfold pgetA; rw [if_neg (by decide), if_pos rfl]
    have h5 := set3 (x := .int .u64 (rrun (pNum bs) 0 i err).1) (y := .string (⟨#[]⟩)) (z := .int .i64 0) (hc1.out.blk hbox.out (by omega))
    generalize hw5 : World.setCell (World.setCell (World.setCell _ _ _) _ _) _ _ = w5 at h5
    replace h5 := Aside0.mk h5
    clear hw5
    (try simp only [Exit.inBlock, Exit.then])
    refine bodyPost_ret (results_cell2 rfl _ _ _ _ rfl _ (run_loadVar_row _ _ _ _ _ _ _ h5.out.1 Try.underlying43 rfl (by kernel_rfl))) rfl ?_
    rw [hA]
    refine ⟨.slice none 0 0, rfl, Kd.R_nil _ _ _ _ _, ?_, ?_⟩
    · exact hR1.out.chg h5.out.2 (fun j hj hFj e => by have := hF.out j hFj; omega)
    · exact ((hc0.out.mono (fun _ _ h => h.elim)).trans hc1.out (fun _ _ h => h)).trans h5.out.2 (fun j hj e => by omega)
  have t1 : (kind == 1) = false := by simpa using g1
  by_cases g2 : kind = 2
  · subst g2
    go_enter Try.func19, Try.ntmps19
    go_wp2_with (go_at_call 35; go_must (refine (rd_Int _ _ gr i bs err hRd.out).mono ?_); go_must (rintro e w1 ⟨rfl, hR1, hc1⟩); go_must (obtain ⟨b0, b1, b2, f0, f1, f2⟩ := cells3 (hc1.blk hbox.out (by omega))); go_must (replace hR1 := Aside0.mk hR1); go_must (replace hc1 := Aside0.mk hc1))
    have hA : pgetA bs i err 2 n = ⟨(IntKind.u64.wrap (unfoldI (rrun (pNum bs) 0 i err).1)), [], 0, [], (rrun (pNum bs) 0 i err).2.1, (rrun (pNum bs) 0 i err).2.2⟩ := by unfold pgetA; rw [if_neg (by decide), if_neg (by decide), if_pos rfl]
    have h5 := set3 (x := .int .u64 (IntKind.u64.wrap (unfoldI (rrun (pNum bs) 0 i err).1))) (y := .string (⟨#[]⟩)) (z := .int .i64 0) (hc1.out.blk hbox.out (by omega))
    generalize hw5 : World.setCell (World.setCell (World.setCell _ _ _) _ _) _ _ = w5 at h5
    replace h5 := Aside0.mk h5
    clear hw5
    (try simp only [Exit.inBlock, Exit.then])
    refine bodyPost_ret (results_cell2 rfl _ _ _ _ rfl _ (run_loadVar_row _ _ _ _ _ _ _ h5.out.1 Try.underlying43 rfl (by kernel_rfl))) rfl ?_
    rw [hA]
    refine ⟨.slice none 0 0, rfl, Kd.R_nil _ _ _ _ _, ?_, ?_⟩
    · exact hR1.out.chg h5.out.2 (fun j hj hFj e => by have := hF.out j hFj; omega)
    · exact ((hc0.out.mono (fun _ _ h => h.elim)).trans hc1.out (fun _ _ h => h)).trans h5.out.2 (fun j hj e => by omega)
  have t2 : (kind == 2) = false := by simpa using g2
  by_cases g3 : kind = 3
  · subst g3
    go_enter Try.func19, Try.ntmps19
    go_wp2_with (go_at_call 37; go_must (refine (rd_Word _ _ gr i bs err hRd.out).mono ?_); go_must (rintro e w1 ⟨rfl, hR1, hc1⟩); go_must (obtain ⟨b0, b1, b2, f0, f1, f2⟩ := cells3 (hc1.blk hbox.out (by omega))); go_must (replace hR1 := Aside0.mk hR1); go_must (replace hc1 := Aside0.mk hc1))
    have hA : pgetA bs i err 3 n = ⟨(rrun (pWord bs) 0 i err).1, [], 0, [], (rrun (pWord bs) 0 i err).2.1, (rrun (pWord bs) 0 i err).2.2⟩ := by unfold pgetA; rw [if_neg (by decide), if_neg (by decide), if_neg (by decide), if_pos rfl]
    have h5 := set3 (x := .int .u64 (rrun (pWord bs) 0 i err).1) (y := .string (⟨#[]⟩)) (z := .int .i64 0) (hc1.out.blk hbox.out (by omega))
    generalize hw5 : World.setCell (World.setCell (World.setCell _ _ _) _ _) _ _ = w5 at h5
    replace h5 := Aside0.mk h5
    clear hw5
    (try simp only [Exit.inBlock, Exit.then])
    refine bodyPost_ret (results_cell2 rfl _ _ _ _ rfl _ (run_loadVar_row _ _ _ _ _ _ _ h5.out.1 Try.underlying43 rfl (by kernel_rfl))) rfl ?_
    rw [hA]
    refine ⟨.slice none 0 0, rfl, Kd.R_nil _ _ _ _ _, ?_, ?_⟩
    · exact hR1.out.chg h5.out.2 (fun j hj hFj e => by have := hF.out j hFj; omega)
    · exact ((hc0.out.mono (fun _ _ h => h.elim)).trans hc1.out (fun _ _ h => h)).trans h5.out.2 (fun j hj e => by omega)
  have t3 : (kind == 3) = false := by simpa using g3
  by_cases g4 : kind = 4
  · subst g4
    go_enter Try.func19, Try.ntmps19
    go_wp2_with (go_at_call 27; go_must (refine (rd_Text _ _ gr i bs err n hn0 hn1 hRd.out).mono ?_); go_must (rintro e w1 ⟨rfl, hR1, hc1⟩); go_must (obtain ⟨b0, b1, b2, f0, f1, f2⟩ := cells3 (hc1.blk hbox.out (by omega))); go_must (replace hR1 := Aside0.mk hR1); go_must (replace hc1 := Aside0.mk hc1))
    have hA : pgetA bs i err 4 n = ⟨0, (rrun (pText bs n) [] i err).1, 0, [], (rrun (pText bs n) [] i err).2.1, (rrun (pText bs n) [] i err).2.2⟩ := by unfold pgetA; rw [if_neg (by decide), if_neg (by decide), if_neg (by decide), if_neg (by decide), if_pos rfl]
    have h5 := set3 (x := .int .u64 0) (y := .string (strOfNums (rrun (pText bs n) [] i err).1)) (z := .int .i64 0) (hc1.out.blk hbox.out (by omega))
    generalize hw5 : World.setCell (World.setCell (World.setCell _ _ _) _ _) _ _ = w5 at h5
    replace h5 := Aside0.mk h5
    clear hw5
    (try simp only [Exit.inBlock, Exit.then])
    refine bodyPost_ret (results_cell2 rfl _ _ _ _ rfl _ (run_loadVar_row _ _ _ _ _ _ _ h5.out.1 Try.underlying43 rfl (by kernel_rfl))) rfl ?_
    rw [hA]
    refine ⟨.slice none 0 0, rfl, Kd.R_nil _ _ _ _ _, ?_, ?_⟩
    · exact hR1.out.chg h5.out.2 (fun j hj hFj e => by have := hF.out j hFj; omega)
    · exact ((hc0.out.mono (fun _ _ h => h.elim)).trans hc1.out (fun _ _ h => h)).trans h5.out.2 (fun j hj e => by omega)
  have t4 : (kind == 4) = false := by simpa using g4
  by_cases g5 : kind = 5
  · subst g5
    go_enter Try.func19, Try.ntmps19
    go_wp2_with (go_at_call 23; go_must (refine (rd_Raw _ _ gr i bs err n hn1 hRd.out).mono ?_); go_must (rintro e w1 ⟨v1, rfl, hr1, hR1, hc1⟩); go_must (obtain ⟨A1, n1, cap1, rfl⟩ := R_sl hr1); go_must (obtain ⟨q1, _, qC1⟩ := Kd.R_reads' hr1); go_must (rw [← q1] at qC1); go_must (have hcv := Kd.C_string (P := Try.prog) (c := cap1) Try.underlying25 Try.underlying5 Try.underlying9 qC1); go_must (replace qC1 := Aside0.mk qC1); go_must (replace q1 := Aside0.mk q1); go_must (replace hr1 := Aside0.mk hr1); go_must (obtain ⟨b0, b1, b2, f0, f1, f2⟩ := cells3 (hc1.blk hbox.out (by omega))); go_must (replace hR1 := Aside0.mk hR1); go_must (replace hc1 := Aside0.mk hc1))
    have hA : pgetA bs i err 5 n = ⟨0, (rrun (pRaw bs n) [] i err).1, 0, (rrun (pRaw bs n) [] i err).1, (rrun (pRaw bs n) [] i err).2.1, (rrun (pRaw bs n) [] i err).2.2⟩ := by unfold pgetA; rw [if_neg (by decide), if_neg (by decide), if_neg (by decide), if_neg (by decide), if_neg (by decide), if_pos rfl]
    have h5 := set3 (x := .int .u64 0) (y := .string (strOfNums (rrun (pRaw bs n) [] i err).1)) (z := .int .i64 0) (hc1.out.blk hbox.out (by omega))
    generalize hw5 : World.setCell (World.setCell (World.setCell _ _ _) _ _) _ _ = w5 at h5
    replace h5 := Aside0.mk h5
    clear hw5
    (try simp only [Exit.inBlock, Exit.then])
    refine bodyPost_ret (results_cell2 rfl _ _ _ _ rfl _ (run_loadVar_row _ _ _ _ _ _ _ h5.out.1 Try.underlying43 rfl (by kernel_rfl))) rfl ?_
    rw [hA]
    refine ⟨.slice A1 n1 cap1, rfl, Kd.R_mono (R_chg hr1.out h5.out.2 (fun j hj ho e => by rcases ho with h | h; exact h.elim; have := hc0.out.size; simp at this hj; subst e; have := h.1; simp at this; omega)) (fun j hj => hj.imp id (fun h => ⟨by have := hc0.out.size; omega, by have := h5.out.2.size; omega⟩)), ?_, ?_⟩
    · exact hR1.out.chg h5.out.2 (fun j hj hFj e => by have := hF.out j hFj; omega)
    · exact ((hc0.out.mono (fun _ _ h => h.elim)).trans hc1.out (fun _ _ h => h)).trans h5.out.2 (fun j hj e => by omega)
  have t5 : (kind == 5) = false := by simpa using g5
  by_cases g6 : kind = 6
  · subst g6
    have hx : IntKind.u64.wrap (rrun (pCount bs n) 0 i err).1 = (rrun (pCount bs n) 0 i err).1 := by have := rr_count hby.out n hn1 i err; exact wrap_id this.1 (by omega)
    go_enter Try.func19, Try.ntmps19
    go_wp2_with (go_at_call 55; go_must (refine (rd_Count _ _ gr i bs err n hn0 hn1 hRd.out).mono ?_); go_must (rintro e w1 ⟨rfl, hR1, hc1⟩); go_must (obtain ⟨b0, b1, b2, f0, f1, f2⟩ := cells3 (hc1.blk hbox.out (by omega))); go_must (replace hR1 := Aside0.mk hR1); go_must (replace hc1 := Aside0.mk hc1))
    have hA : pgetA bs i err 6 n = ⟨(rrun (pCount bs n) 0 i err).1, [], 0, [], (rrun (pCount bs n) 0 i err).2.1, (rrun (pCount bs n) 0 i err).2.2⟩ := by unfold pgetA; rw [if_neg (by decide), if_neg (by decide), if_neg (by decide), if_neg (by decide), if_neg (by decide), if_neg (by decide), if_pos rfl]
    have h5 := set3 (x := .int .u64 (rrun (pCount bs n) 0 i err).1) (y := .string (⟨#[]⟩)) (z := .int .i64 0) (hc1.out.blk hbox.out (by omega))
    generalize hw5 : World.setCell (World.setCell (World.setCell _ _ _) _ _) _ _ = w5 at h5
    replace h5 := Aside0.mk h5
    clear hw5
    (try simp only [Exit.inBlock, Exit.then])
    refine bodyPost_ret (results_cell2 rfl _ _ _ _ rfl _ (run_loadVar_row _ _ _ _ _ _ _ h5.out.1 Try.underlying43 rfl (by kernel_rfl))) rfl ?_
    rw [hA]
    refine ⟨.slice none 0 0, rfl, Kd.R_nil _ _ _ _ _, ?_, ?_⟩
    · exact hR1.out.chg h5.out.2 (fun j hj hFj e => by have := hF.out j hFj; omega)
    · exact ((hc0.out.mono (fun _ _ h => h.elim)).trans hc1.out (fun _ _ h => h)).trans h5.out.2 (fun j hj e => by omega)
  have t6 : (kind == 6) = false := by simpa using g6
  by_cases g7 : kind = 7
  · subst g7
    have hx : IntKind.u64.wrap ((bs.length : Int) - i) = ((bs.length : Int) - i) := wrap_id (by omega) (by omega)
    go_enter Try.func19, Try.ntmps19
    go_wp2_with (go_at_call 25; go_must (refine (rd_Left _ _ gr i bs err hRd.out).mono ?_); go_must (rintro e w1 ⟨rfl, hd1⟩); go_must (have hc1 := chg_drawn0 (S := fun k => k = gr) hd1); go_must (have hR1 := hRd.out.chg (chg_drawn0 (S := fun _ => False) hd1) (fun _ _ _ h => h)); go_must (clear hd1); go_must (obtain ⟨b0, b1, b2, f0, f1, f2⟩ := cells3 (hc1.blk hbox.out (by omega))); go_must (replace hR1 := Aside0.mk hR1); go_must (replace hc1 := Aside0.mk hc1))
    have hA : pgetA bs i err 7 n = ⟨((bs.length : Int) - i), [], 0, [], i, err⟩ := by unfold pgetA; rw [if_neg (by decide), if_neg (by decide), if_neg (by decide), if_neg (by decide), if_neg (by decide), if_neg (by decide), if_neg (by decide), if_pos rfl]
    have h5 := set3 (x := .int .u64 ((bs.length : Int) - i)) (y := .string (⟨#[]⟩)) (z := .int .i64 0) (hc1.out.blk hbox.out (by omega))
    generalize hw5 : World.setCell (World.setCell (World.setCell _ _ _) _ _) _ _ = w5 at h5
    replace h5 := Aside0.mk h5
    clear hw5
    (try simp only [Exit.inBlock, Exit.then])
    refine bodyPost_ret (results_cell2 rfl _ _ _ _ rfl _ (run_loadVar_row _ _ _ _ _ _ _ h5.out.1 Try.underlying43 rfl (by kernel_rfl))) rfl ?_
    rw [hA]
    refine ⟨.slice none 0 0, rfl, Kd.R_nil _ _ _ _ _, ?_, ?_⟩
    · exact hR1.out.chg h5.out.2 (fun j hj hFj e => by have := hF.out j hFj; omega)
    · exact ((hc0.out.mono (fun _ _ h => h.elim)).trans hc1.out (fun _ _ h => h)).trans h5.out.2 (fun j hj e => by omega)
  have t7 : (kind == 7) = false := by simpa using g7
  by_cases g8 : kind = 8
  · subst g8
    go_enter Try.func19, Try.ntmps19
    go_wp2_with (first | (go_at_call 24; go_must (refine (rd_Err _ _ gr i bs err hRd.out).mono ?_); go_must (rintro e w1 ⟨rfl, hd1⟩); go_must (have hc1 := chg_eq (S := fun k => k = gr) hd1); go_must (have hR1 := hRd.out.chg (chg_eq (S := fun _ => False) hd1) (fun _ _ _ h => h)); go_must (clear hd1); go_must (obtain ⟨b0, b1, b2, f0, f1, f2⟩ := cells3 (hc1.blk hbox.out (by omega))); go_must (replace hR1 := Aside0.mk hR1); go_must (replace hc1 := Aside0.mk hc1)) | (go_at_call 56; go_must (refine (kit_num _ _).mono ?_); go_must (rintro e w2 ⟨rfl, rfl⟩)))
    have hA : pgetA bs i err 8 n = ⟨0, [], err, [], i, err⟩ := by unfold pgetA; rw [if_neg (by decide), if_neg (by decide), if_neg (by decide), if_neg (by decide), if_neg (by decide), if_neg (by decide), if_neg (by decide), if_neg (by decide), if_pos rfl]
    have h5 := set3 (x := .int .u64 0) (y := .string (⟨#[]⟩)) (z := .int .i64 err) (hc1.out.blk hbox.out (by omega))
    generalize hw5 : World.setCell (World.setCell (World.setCell _ _ _) _ _) _ _ = w5 at h5
    replace h5 := Aside0.mk h5
    clear hw5
    (try simp only [Exit.inBlock, Exit.then])
    refine bodyPost_ret (results_cell2 rfl _ _ _ _ rfl _ (run_loadVar_row _ _ _ _ _ _ _ h5.out.1 Try.underlying43 rfl (by kernel_rfl))) rfl ?_
    rw [hA]
    refine ⟨.slice none 0 0, rfl, Kd.R_nil _ _ _ _ _, ?_, ?_⟩
    · exact hR1.out.chg h5.out.2 (fun j hj hFj e => by have := hF.out j hFj; omega)
    · exact ((hc0.out.mono (fun _ _ h => h.elim)).trans hc1.out (fun _ _ h => h)).trans h5.out.2 (fun j hj e => by omega)
  have t8 : (kind == 8) = false := by simpa using g8
  go_enter Try.func19, Try.ntmps19
  go_wp2_with (first | (go_at_call 26; go_must (refine (rd_End _ _ gr i bs err hRd.out).mono ?_); go_must (rintro e w1 ⟨rfl, hd1⟩); go_must (have hc1 := chg_drawn0 (S := fun k => k = gr) hd1); go_must (have hR1 := hRd.out.chg (chg_drawn0 (S := fun _ => False) hd1) (fun _ _ _ h => h)); go_must (clear hd1); go_must (obtain ⟨b0, b1, b2, f0, f1, f2⟩ := cells3 (hc1.blk hbox.out (by omega))); go_must (replace hR1 := Aside0.mk hR1); go_must (replace hc1 := Aside0.mk hc1)) | (go_at_call 56; go_must (refine (kit_num _ _).mono ?_); go_must (rintro e w2 ⟨rfl, rfl⟩)))
  have hA : pgetA bs i err kind n = ⟨0, [], (rEnd bs i err), [], i, err⟩ := by unfold pgetA; rw [if_neg g0, if_neg g1, if_neg g2, if_neg g3, if_neg g4, if_neg g5, if_neg g6, if_neg g7, if_neg g8]
  have h5 := set3 (x := .int .u64 0) (y := .string (⟨#[]⟩)) (z := .int .i64 (rEnd bs i err)) (hc1.out.blk hbox.out (by omega))
  generalize hw5 : World.setCell (World.setCell (World.setCell _ _ _) _ _) _ _ = w5 at h5
  replace h5 := Aside0.mk h5
  clear hw5
  (try simp only [Exit.inBlock, Exit.then])
  refine bodyPost_ret (results_cell2 rfl _ _ _ _ rfl _ (run_loadVar_row _ _ _ _ _ _ _ h5.out.1 Try.underlying43 rfl (by kernel_rfl))) rfl ?_
  rw [hA]
  refine ⟨.slice none 0 0, rfl, Kd.R_nil _ _ _ _ _, ?_, ?_⟩
  · exact hR1.out.chg h5.out.2 (fun j hj hFj e => by have := hF.out j hFj; omega)
  · exact ((hc0.out.mono (fun _ _ h => h.elim)).trans hc1.out (fun _ _ h => h)).trans h5.out.2 (fun j hj e => by omega)

end Go.Proofs.Ytbheebcjbolboaa.K
