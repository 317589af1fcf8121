import Derived.Test.YtknboapnpccliaaRa
namespace Go.Proofs.Ytknboapnpccliaa.K
open Go.RowKit Go.Proofs.YtknboapnpccliaaW.PrintWords Go.Proofs.YtknboapnpccliaaW.PrintLast Go.Proofs.YtknboapnpccliaaW.PrintMore
set_option linter.unusedVariables false
set_option linter.unusedSimpArgs false
attribute [local go_sem] max2_int min2_int max_two min_two max_three min_three max_four min_four
set_option maxRecDepth 100000

/-- How take ends: the row that is read lies in the reader's own. -/
def ResT (w : World) (F : Nat → Prop) (g : Nat) (bs : List Int) (r : Except Int (List Int × Nat)) (e : Ending) (w' : World) : Prop :=
  Chg (fun k => k = g) w w' ∧ match r with
    | .ok (l, j) => ∃ A c, e = .returned (.slice A l.length c) ∧ Kd.C (Kd.int .u8) w' A l.length l ∧ l.length ≤ c ∧ Rd w' F g bs j 0
    | .error c => e = .panicked [flt c] ∧ ∃ j, Rd w' F g bs j 0
theorem rd_take (w : World) (F : Nat → Prop) (g i : Nat) (bs : List Int) (n0 : Int) (hn0 : 0 ≤ n0) (hn1 : n0 ≤ 9223372036854775807) (hw : Rd w F g bs i 0) :
    Calls Try.prog 98 #[.pointer (some ⟨g, 0, none⟩), .int .i64 n0] w (ResT w F g bs (pTake bs n0.toNat i)) := by
  have hW := Aside0.mk hw
  obtain ⟨n, rfl⟩ := Int.eq_ofNat_of_zero_le hn0
  simp only [Int.toNat_natCast]
  obtain ⟨A, c, hb0, hg, hi, hl, hby, hr0⟩ := hw
  obtain ⟨c0, c1, c2, f0, f1, f2⟩ := Rd.cells hb0
  have hb := Aside0.mk hb0
  have hr := Aside0.mk hr0
  have hgA := Aside0.mk hg
  have hbyA := Aside0.mk hby
  have hcap := Aside0.mk (Kd.R_reads' hr0).2.1
  clear hb0 hr0 hby hg
  by_cases h : n ≤ bs.length - i
  · have h1 : decide (((bs.length : Int) - (i : Int)) < (n : Int)) = false := by simp; omega
    have hin : i + n ≤ bs.length := by omega
    go_enter Try.func98, Try.ntmps98
    go_wp2
    go_quiet (fail)
    go_wp2
    generalize hw1 : World.setCell _ _ _ = w1
    have hc1 : Chg (fun k => k = g) w w1 := by rw [← hw1]; exact ((Chg.refl (fun k => k = g) w).drewN _).setCell (p := ⟨g, 1, none⟩) (fun _ => rfl) _
    have b1 : w1.heap[g]? = some (.cells #[.slice A bs.length c, .int .i64 ((i : Int) + (n : Int)), .int .i64 0] 149 (0, 0)) := by
      rw [← hw1]
      have := blk_set (w := w.drewN nq) hb.out 1 (.int .i64 ((i : Int) + (n : Int)))
      simpa using this
    have hR1 := Aside0.mk (R_chg hr.out hc1 (fun k hk ho e => ho.2 e))
    have hRd : Aside0 (Rd w1 F g bs (i + n) 0) := ⟨_, c, by rw [b1]; simp, hgA.out, hin, hl, hbyA.out, hR1.out⟩
    obtain ⟨d0, d1, d2, g0, g1, g2⟩ := Rd.cells b1
    replace hc1 := Aside0.mk hc1
    clear hw1 b1 c0 c1 c2 f0 f1 f2
    obtain ⟨i8, hi8, hz8, hs8, hy8⟩ := info_parts infoU8
    obtain ⟨A', hrun, hread, hle⟩ := print_mid_int (P := Try.prog) (k := .u8) 73 5 Try.underlying73 hi8 hs8 A c bs (i : Int) ((i : Int) + (n : Int)) (by omega) (by omega) (by omega) hcap.out
    have hlist : (bs.take ((i : Int) + (n : Int)).toNat).drop ((i : Int).toNat) = (bs.drop i).take n := by
      have e1 : ((i : Int) + (n : Int)).toNat = i + n := by omega
      rw [e1, Int.toNat_natCast, List.drop_take]
      congr 1
      omega
    rw [hlist] at hrun hread hle
    generalize hL : (bs.drop i).take n = L at hrun hread hle
    have hLn : L.length = n := by rw [← hL]; simp; omega
    replace hL := Aside0.mk hL
    replace hLn := Aside0.mk hLn
    have hCC := Aside0.mk (hread w1 (Kd.reads_of_C (Kd.R_reads' hR1.out).2.2))
    clear hread hlist hi8 hz8 hs8 hy8
    replace hle := Aside0.mk hle
    go_quiet (fail)
    go_wp2
    go_ret
    refine ⟨hc1.out.drewN _, ?_⟩
    rw [pTake, if_pos h, hL.out]
    exact ⟨A', _, rfl, Kd.C_drewN (Kd.C_of_reads hCC.out) _, by simpa using hle.out, hRd.out.chg ((Chg.refl (fun _ => False) w1).drewN _) (fun _ _ _ h => h)⟩
  · go_enter Try.func98, Try.ntmps98
    have h1 : decide (((bs.length : Int) - (i : Int)) < (n : Int)) = true := by simp; omega
    go_wp2
    go_quiet (fail)
    go_wp2
    refine ⟨rfl, (Chg.refl _ w).drewN _, ?_⟩
    rw [pTake, if_neg h]
    exact ⟨rfl, i, hW.out.chg ((Chg.refl (fun _ => False) w).drewN _) (fun _ _ _ h => h)⟩

theorem assert_fault (c : Int) (w : World) : (Instr.typeAssert (.iface 152 (.agg #[.int .i64 c])) 20 152 true).run Try.prog w = .ok (.tuple #[.agg #[.int .i64 c], .bool true]) w := by kernel_rfl

theorem catchB (w : World) (g ba br : Nat) (at_ c err : Int) (ta tb : TypeId) (v0 v1 : Value) (older : List PanicEntry) (hba : w.heap[ba]? = some (.cells #[.int .i64 at_] ta (0, 0))) (hbr : w.heap[br]? = some (.cells #[.pointer (some ⟨g, 0, none⟩)] tb (0, 0)))
    (hb0 : w.heap[g]? = some (.cells #[v0, v1, .int .i64 err] 149 (0, 0))) :
    CallsD Try.prog 104 #[.pointer (some ⟨ba, 0, none⟩), .pointer (some ⟨br, 0, none⟩)] (.panicking (flt c :: older)) w fun e u' w' =>
      e = .returned (.tuple #[]) ∧ u' = .panicking ({ flt c with recovered := true } :: older) ∧ Chg (fun k => k = g) w w' ∧ w'.heap[g]? = some (.cells #[v0, .int .i64 at_, .int .i64 c] 149 (0, 0)) := by
  unfold flt
  refine callsD_of_wpS Try.func104 rfl fun c₀ cs hu => ?_
  simp only [Try.ntmps104, List.size_toArray, List.length_cons, List.length_nil, Nat.reduceAdd, Nat.reduceSub, Array.replicate_succ, Array.replicate_zero, List.push_toArray, List.append_toArray, List.nil_append, List.cons_append]
  apply wpS_seq
  apply wpS_region
  simp [wpOpsS, go_sem, recoverD, hu, Exit.thenS]
  refine wpS_of_wp ?_
  clear hu
  generalize hQ : (fun (e : Exit) (a' : Act) (w' : World) => bodyPostS _ _ _ _ _ e a' _ w') = Q
  obtain ⟨c0, c1, c2, f0, f1, f2⟩ := Rd.cells hb0
  have ca : w.cell? ⟨ba, 0, none⟩ = some (.int .i64 at_) := blk_cell hba 0
  have cb : w.cell? ⟨br, 0, none⟩ = some (.pointer (some ⟨g, 0, none⟩)) := blk_cell hbr 0
  have la := blk_lt hba
  have lb := blk_lt hbr
  have lg := blk_lt hb0
  replace hba := Aside0.mk hba
  replace hbr := Aside0.mk hbr
  replace hb0 := Aside0.mk hb0
  replace hQ := Aside0.mk hQ
  have hta := assert_fault c
  go_wp2
  go_region
  rw [← hQ.out]
  refine ⟨rfl, _, rfl, _, results_none rfl _ _ _, rfl, rfl, ?_, ?_⟩
  · exact (((((Chg.refl (fun k => k = g) w).setCell (p := ⟨g, 1, none⟩) (fun _ => rfl) _).setCell (p := ⟨g, 2, none⟩) (fun _ => rfl) _).alloc _).drew)
  · have e1 := blk_set hb0.out 1 (.int .i64 at_)
    have e2 := blk_set e1 2 (.int .i64 c)
    show (World.alloc _ _).heap[g]? = _
    rw [heap_alloc_old _ _ (by simpa [World.setCell] using lg), e2]
    simp
theorem idleB (w : World) (a b : Value) :
    CallsD Try.prog 104 #[a, b] .returning w fun e u' w' => e = .returned (.tuple #[]) ∧ u' = .returning ∧ w = w' := by
  refine callsD_of_wpS Try.func104 rfl fun c₀ cs hu => ?_
  simp only [Try.ntmps104, List.size_toArray, List.length_cons, List.length_nil, Nat.reduceAdd, Nat.reduceSub, Array.replicate_succ, Array.replicate_zero, List.push_toArray, List.append_toArray, List.nil_append, List.cons_append]
  apply wpS_seq
  apply wpS_region
  simp [wpOpsS, go_sem, recoverD, hu, Exit.thenS]
  refine wpS_of_wp ?_
  generalize hQ : (fun (e : Exit) (a' : Act) (w' : World) => bodyPostS _ _ _ _ _ e a' _ w') = Q
  replace hQ := Aside0.mk hQ
  go_wp2
  rw [← hQ.out]
  refine ⟨rfl, _, ?_, _, results_none rfl _ _ _, rfl, rfl, rfl⟩
  cases c₀
  simp_all

end Go.Proofs.Ytknboapnpccliaa.K
