import Derived.Test.YthmghcjkmmhgnaaRa
namespace Go.Proofs.Ythmghcjkmmhgnaa.K
open Go.RowKit Go.Proofs.YthmghcjkmmhgnaaW.PrintWords Go.Proofs.YthmghcjkmmhgnaaW.PrintLast Go.Proofs.YthmghcjkmmhgnaaW.PrintMore
set_option linter.unusedVariables false
set_option linter.unusedSimpArgs false
attribute [local go_sem] max2_int min2_int max_two min_two max_three min_three max_four min_four
set_option maxRecDepth 100000

theorem assert_fault (c : Int) (w : World) : (Instr.typeAssert (.iface 113 (.agg #[.int .i64 c])) 20 113 true).run Try.prog w = .ok (.tuple #[.agg #[.int .i64 c], .bool true]) w := by kernel_rfl

theorem catchY (w : World) (g ba br : Nat) (at_ c err : Int) (ta tb : TypeId) (v0 v1 : Value) (older : List PanicEntry) (hba : w.heap[ba]? = some (.cells #[.int .i64 at_] ta (0, 0))) (hbr : w.heap[br]? = some (.cells #[.pointer (some ⟨g, 0, none⟩)] tb (0, 0)))
    (hb0 : w.heap[g]? = some (.cells #[v0, v1, .int .i64 err] 98 (0, 0))) :
    CallsD Try.prog 96 #[.pointer (some ⟨ba, 0, none⟩), .pointer (some ⟨br, 0, none⟩)] (.panicking (flt c :: older)) w fun e u' w' =>
      e = .returned (.tuple #[]) ∧ u' = .panicking ({ flt c with recovered := true } :: older) ∧ Chg (fun k => k = g) w w' ∧ w'.heap[g]? = some (.cells #[v0, .int .i64 at_, .int .i64 c] 98 (0, 0)) := by
  unfold flt
  refine callsD_of_wpS Try.func96 rfl fun c₀ cs hu => ?_
  simp only [Try.ntmps96, List.size_toArray, List.length_cons, List.length_nil, Nat.reduceAdd, Nat.reduceSub, Array.replicate_succ, Array.replicate_zero, List.push_toArray, List.append_toArray, List.nil_append, List.cons_append]
  apply wpS_seq
  apply wpS_region
  simp [wpOpsS, go_sem, recoverD, hu, Exit.thenS]
  refine wpS_of_wp ?_
  clear hu
  generalize hQ : (fun (e : Exit) (a' : Act) (w' : World) => bodyPostS _ _ _ _ _ e a' _ w') = Q
  obtain ⟨c0, c1, c2, f0, f1, f2⟩ := Rd.cells hb0
  have ca : w.cell? ⟨ba, 0, none⟩ = some (.int .i64 at_) := blk_cell hba 0
  have cb : w.cell? ⟨br, 0, none⟩ = some (.pointer (some ⟨g, 0, none⟩)) := blk_cell hbr 0
  have la := blk_lt hba
  have lb := blk_lt hbr
  have lg := blk_lt hb0
  replace hba := Aside0.mk hba
  replace hbr := Aside0.mk hbr
  replace hb0 := Aside0.mk hb0
  replace hQ := Aside0.mk hQ
  have hta := assert_fault c
  go_wp2
  go_region
  rw [← hQ.out]
  refine ⟨rfl, _, rfl, _, results_none rfl _ _ _, rfl, rfl, ?_, ?_⟩
  · exact (((((Chg.refl (fun k => k = g) w).setCell (p := ⟨g, 1, none⟩) (fun _ => rfl) _).setCell (p := ⟨g, 2, none⟩) (fun _ => rfl) _).alloc _).drew)
  · have e1 := blk_set hb0.out 1 (.int .i64 at_)
    have e2 := blk_set e1 2 (.int .i64 c)
    show (World.alloc _ _).heap[g]? = _
    rw [heap_alloc_old _ _ (by simpa [World.setCell] using lg), e2]
    simp
theorem idleY (w : World) (a b : Value) :
    CallsD Try.prog 96 #[a, b] .returning w fun e u' w' => e = .returned (.tuple #[]) ∧ u' = .returning ∧ w = w' := by
  refine callsD_of_wpS Try.func96 rfl fun c₀ cs hu => ?_
  simp only [Try.ntmps96, List.size_toArray, List.length_cons, List.length_nil, Nat.reduceAdd, Nat.reduceSub, Array.replicate_succ, Array.replicate_zero, List.push_toArray, List.append_toArray, List.nil_append, List.cons_append]
  apply wpS_seq
  apply wpS_region
  simp [wpOpsS, go_sem, recoverD, hu, Exit.thenS]
  refine wpS_of_wp ?_
  generalize hQ : (fun (e : Exit) (a' : Act) (w' : World) => bodyPostS _ _ _ _ _ e a' _ w') = Q
  replace hQ := Aside0.mk hQ
  go_wp2
  rw [← hQ.out]
  refine ⟨rfl, _, ?_, _, results_none rfl _ _ _, rfl, rfl, rfl⟩
  cases c₀
  simp_all

theorem catchU (w : World) (g ba br : Nat) (at_ c err : Int) (ta tb : TypeId) (v0 v1 : Value) (older : List PanicEntry) (hba : w.heap[ba]? = some (.cells #[.int .i64 at_] ta (0, 0))) (hbr : w.heap[br]? = some (.cells #[.pointer (some ⟨g, 0, none⟩)] tb (0, 0)))
    (hb0 : w.heap[g]? = some (.cells #[v0, v1, .int .i64 err] 98 (0, 0))) :
    CallsD Try.prog 98 #[.pointer (some ⟨ba, 0, none⟩), .pointer (some ⟨br, 0, none⟩)] (.panicking (flt c :: older)) w fun e u' w' =>
      e = .returned (.tuple #[]) ∧ u' = .panicking ({ flt c with recovered := true } :: older) ∧ Chg (fun k => k = g) w w' ∧ w'.heap[g]? = some (.cells #[v0, .int .i64 at_, .int .i64 c] 98 (0, 0)) := by
  unfold flt
  refine callsD_of_wpS Try.func98 rfl fun c₀ cs hu => ?_
  simp only [Try.ntmps98, List.size_toArray, List.length_cons, List.length_nil, Nat.reduceAdd, Nat.reduceSub, Array.replicate_succ, Array.replicate_zero, List.push_toArray, List.append_toArray, List.nil_append, List.cons_append]
  apply wpS_seq
  apply wpS_region
  simp [wpOpsS, go_sem, recoverD, hu, Exit.thenS]
  refine wpS_of_wp ?_
  clear hu
  generalize hQ : (fun (e : Exit) (a' : Act) (w' : World) => bodyPostS _ _ _ _ _ e a' _ w') = Q
  obtain ⟨c0, c1, c2, f0, f1, f2⟩ := Rd.cells hb0
  have ca : w.cell? ⟨ba, 0, none⟩ = some (.int .i64 at_) := blk_cell hba 0
  have cb : w.cell? ⟨br, 0, none⟩ = some (.pointer (some ⟨g, 0, none⟩)) := blk_cell hbr 0
  have la := blk_lt hba
  have lb := blk_lt hbr
  have lg := blk_lt hb0
  replace hba := Aside0.mk hba
  replace hbr := Aside0.mk hbr
  replace hb0 := Aside0.mk hb0
  replace hQ := Aside0.mk hQ
  have hta := assert_fault c
  go_wp2
  go_region
  rw [← hQ.out]
  refine ⟨rfl, _, rfl, _, results_none rfl _ _ _, rfl, rfl, ?_, ?_⟩
  · exact (((((Chg.refl (fun k => k = g) w).setCell (p := ⟨g, 1, none⟩) (fun _ => rfl) _).setCell (p := ⟨g, 2, none⟩) (fun _ => rfl) _).alloc _).drew)
  · have e1 := blk_set hb0.out 1 (.int .i64 at_)
    have e2 := blk_set e1 2 (.int .i64 c)
    show (World.alloc _ _).heap[g]? = _
    rw [heap_alloc_old _ _ (by simpa [World.setCell] using lg), e2]
    simp
theorem idleU (w : World) (a b : Value) :
    CallsD Try.prog 98 #[a, b] .returning w fun e u' w' => e = .returned (.tuple #[]) ∧ u' = .returning ∧ w = w' := by
  refine callsD_of_wpS Try.func98 rfl fun c₀ cs hu => ?_
  simp only [Try.ntmps98, List.size_toArray, List.length_cons, List.length_nil, Nat.reduceAdd, Nat.reduceSub, Array.replicate_succ, Array.replicate_zero, List.push_toArray, List.append_toArray, List.nil_append, List.cons_append]
  apply wpS_seq
  apply wpS_region
  simp [wpOpsS, go_sem, recoverD, hu, Exit.thenS]
  refine wpS_of_wp ?_
  generalize hQ : (fun (e : Exit) (a' : Act) (w' : World) => bodyPostS _ _ _ _ _ e a' _ w') = Q
  replace hQ := Aside0.mk hQ
  go_wp2
  rw [← hQ.out]
  refine ⟨rfl, _, ?_, _, results_none rfl _ _ _, rfl, rfl, rfl⟩
  cases c₀
  simp_all

end Go.Proofs.Ythmghcjkmmhgnaa.K
