import Derived.Test.YtgaackedappmgaaDoorQa
import Derived.IntWalk
import Derived.BigQuiet
import Derived.WalkKit
import Derived.LaidEql
import Derived.Stop.Asserts
import Derived.RowKitTokens
import Derived.KernelRfl
namespace Go.Proofs.YtgaackedappmgaaDoor.K
open Go.RowKit Go.Proofs.YtgaackedappmgaaDoorW.PrintWords Go.Proofs.YtgaackedappmgaaDoorW.PrintLast Go.Proofs.YtgaackedappmgaaDoorW.PrintMore
set_option linter.unusedVariables false
set_option linter.unusedSimpArgs false
set_option maxRecDepth 100000
open Go.Extern.Stop Go.Stop Go.Extern
theorem rlmY (z : Sem Value) (f : TypeId → Addr → Nat → Nat → Sem Value) (v : Value) :
    ReflectliteValue.method z f #[v] = (do match ← ReflectliteValue.parts v with | none => z | some (t, a, fl) => f t a fl (fl % 32)) := rfl
theorem rlsY (v x : Value) : ReflectliteValue.set #[v, x] = (do
    let (some (dst, a, fl), some (src, b, _)) := (← ReflectliteValue.parts v, ← ReflectliteValue.parts x)
      | unsupported (.noEntry "extern/(internal/reflectlite.Value).Set.zeroValue")
    if fl / ReflectliteValue.flagAddr % 2 == 0 then unsupported (.noEntry "extern/(internal/reflectlite.Value).Set.unaddressable")
    let val ← loadVar src b
    if ← Rtype.directlyAssignable dst src then storeVar dst a val
    else if ← Rtype.implements dst src then
      if (← Rtype.kind src) == 20 then
        match val with
        | .nilIface => unsupported (.noEntry "extern/reflectlite: a nil value of one interface type handed on as a value of another")
        | _ => storeVar dst a val
      else storeVar dst a (.iface src val)
    else panicString ("reflectlite.Set: value of type " ++ (← Rtype.spelt src) ++ " is not assignable to type " ++ (← Rtype.spelt dst))
    pure (.tuple #[])) := rfl
theorem valueOfPI (t : Addr) (w : World) : (ReflectliteValue.unpack (.iface 82 (.pointer (some t)))).run Tryd.prog w = .ok (.agg #[.pointer (some ⟨2, 82, none⟩), .pointer (some ⟨w.heap.size, 0, none⟩), .int .u64 150]) (w.alloc (.cells #[.pointer (some t)] 82)) := by kernel_rfl
theorem typePI (a : Addr) (w : World) : (ReflectliteValue.methodAny (ReflectliteValue.valueError "reflectlite.Value.Type" 0) (fun t _ _ _ => ReflectliteType.toType t) #[.agg #[.pointer (some ⟨2, 82, none⟩), .pointer (some a), .int .u64 150]]).run Tryd.prog w = .ok (.iface 114 (.agg #[.pointer (some ⟨2, 82, none⟩)])) w := by kernel_rfl
theorem kindPI (w : World) : ((ReflectliteType.abiMethod fun t => (fun a : Nat => Value.int IntKind.u8 (a : Int)) <$> Rtype.kind t) #[.pointer (some ⟨2, 82, none⟩)]).run Tryd.prog w = .ok (.int .u8 22) w := by kernel_rfl
theorem kindTI (w : World) : ((ReflectliteType.abiMethod fun t => (fun a : Nat => Value.int IntKind.u8 (a : Int)) <$> Rtype.kind t) #[.pointer (some ⟨2, 79, none⟩)]).run Tryd.prog w = .ok (.int .u8 22) w := by kernel_rfl
theorem partsPI (a : Addr) (w : World) : (ReflectliteValue.parts (.agg #[.pointer (some ⟨2, 82, none⟩), .pointer (some a), .int .u64 150])).run Tryd.prog w = .ok (some (82, a, 150)) w := by kernel_rfl
theorem isNilPI (a p : Addr) (W : World) (ha : W.cell? a = some (.pointer (some p))) : (ReflectliteValue.method (ReflectliteValue.valueError "reflectlite.Value.IsNil" 0) ReflectliteValue.isNil #[.agg #[.pointer (some ⟨2, 82, none⟩), .pointer (some a), .int .u64 150]]).run Tryd.prog W = .ok (.bool false) W := by
  rw [rlmY]
  simp only [Sem.run_bind, partsPI, Result.andThen]
  simp [ReflectliteValue.isNil, loadVar, isAgg, underlying, Tryd.underlying82, ha, Result.andThen]
theorem elemPI (w : World) : (ReflectliteType.method ReflectliteType.elem #[.agg #[.pointer (some ⟨2, 82, none⟩)]]).run Tryd.prog w = .ok (.iface 114 (.agg #[.pointer (some ⟨2, 79, none⟩)])) w := by kernel_rfl
theorem implementsTI (w : World) : (ReflectliteType.relation "Implements" ReflectliteType.implements_ #[.agg #[.pointer (some ⟨2, 79, none⟩)], .iface 114 (.agg #[.pointer (some ⟨2, 68, none⟩)])]).run Tryd.prog w = .ok (.bool true) w := by kernel_rfl
theorem typeOfTI (v : Value) (w : World) : (ReflectliteType.typeOf #[.iface 79 v]).run Tryd.prog w = .ok (.iface 114 (.agg #[.pointer (some ⟨2, 79, none⟩)])) w := by kernel_rfl
theorem assignableTI (w : World) : (ReflectliteType.relation "AssignableTo" ReflectliteType.assignableTo #[.agg #[.pointer (some ⟨2, 79, none⟩)], .iface 114 (.agg #[.pointer (some ⟨2, 79, none⟩)])]).run Tryd.prog w = .ok (.bool true) w := by kernel_rfl
theorem valueOfTI (e : Addr) (w : World) : (ReflectliteValue.unpack (.iface 79 (.pointer (some e)))).run Tryd.prog w = .ok (.agg #[.pointer (some ⟨2, 79, none⟩), .pointer (some ⟨w.heap.size, 0, none⟩), .int .u64 150]) (w.alloc (.cells #[.pointer (some e)] 79)) := by kernel_rfl
theorem elemOfPI (w : World) : (Rtype.elem? 82).run Tryd.prog w = .ok (some 79) w := by kernel_rfl
theorem mkTI (p : Addr) (w : World) : (ReflectliteValue.mk 79 p ReflectliteValue.flagAddr).run Tryd.prog w = .ok (.agg #[.pointer (some ⟨2, 79, none⟩), .pointer (some p), .int .u64 406]) w := by kernel_rfl
theorem elemVPI (a p : Addr) (W : World) (ha : W.cell? a = some (.pointer (some p))) : (ReflectliteValue.method (ReflectliteValue.valueError "reflectlite.Value.Elem" 0) ReflectliteValue.elem #[.agg #[.pointer (some ⟨2, 82, none⟩), .pointer (some a), .int .u64 150]]).run Tryd.prog W = .ok (.agg #[.pointer (some ⟨2, 79, none⟩), .pointer (some p), .int .u64 406]) W := by
  rw [rlmY]
  simp only [Sem.run_bind, partsPI, Result.andThen]
  simp [ReflectliteValue.elem, loadVar, isAgg, underlying, Tryd.underlying82, ha, Result.andThen, elemOfPI, mkTI]
theorem partsTaI (a : Addr) (w : World) : (ReflectliteValue.parts (.agg #[.pointer (some ⟨2, 79, none⟩), .pointer (some a), .int .u64 406])).run Tryd.prog w = .ok (some (79, a, 406)) w := by kernel_rfl
theorem partsTI (a : Addr) (w : World) : (ReflectliteValue.parts (.agg #[.pointer (some ⟨2, 79, none⟩), .pointer (some a), .int .u64 150])).run Tryd.prog w = .ok (some (79, a, 150)) w := by kernel_rfl
theorem directTI (w : World) : (Rtype.directlyAssignable 79 79).run Tryd.prog w = .ok true w := by kernel_rfl
theorem setTI (ta b e : Addr) (old : Value) (W : World) (hb : W.cell? b = some (.pointer (some e))) (ht : W.cell? ta = some old) (hf : W.frozen? ta = false) :
    (ReflectliteValue.set #[.agg #[.pointer (some ⟨2, 79, none⟩), .pointer (some ta), .int .u64 406], .agg #[.pointer (some ⟨2, 79, none⟩), .pointer (some b), .int .u64 150]]).run Tryd.prog W = .ok (.tuple #[]) (W.setCell ta (.pointer (some e))) := by
  rw [rlsY]
  simp only [Sem.run_bind, partsTaI, partsTI, Result.andThen]
  simp [ReflectliteValue.flagAddr, loadVar, isAgg, underlying, Tryd.underlying79, hb, Result.andThen, directTI, storeVar, Value.cells, storeCells, Addr.add]
  rw [run_store Tryd.prog W ta _ _ (by rfl)]
  simp [ht, hf]
theorem valueOfPF (t : Addr) (w : World) : (ReflectliteValue.unpack (.iface 83 (.pointer (some t)))).run Tryd.prog w = .ok (.agg #[.pointer (some ⟨2, 83, none⟩), .pointer (some ⟨w.heap.size, 0, none⟩), .int .u64 150]) (w.alloc (.cells #[.pointer (some t)] 83)) := by kernel_rfl
theorem typePF (a : Addr) (w : World) : (ReflectliteValue.methodAny (ReflectliteValue.valueError "reflectlite.Value.Type" 0) (fun t _ _ _ => ReflectliteType.toType t) #[.agg #[.pointer (some ⟨2, 83, none⟩), .pointer (some a), .int .u64 150]]).run Tryd.prog w = .ok (.iface 114 (.agg #[.pointer (some ⟨2, 83, none⟩)])) w := by kernel_rfl
theorem kindPF (w : World) : ((ReflectliteType.abiMethod fun t => (fun a : Nat => Value.int IntKind.u8 (a : Int)) <$> Rtype.kind t) #[.pointer (some ⟨2, 83, none⟩)]).run Tryd.prog w = .ok (.int .u8 22) w := by kernel_rfl
theorem kindTF (w : World) : ((ReflectliteType.abiMethod fun t => (fun a : Nat => Value.int IntKind.u8 (a : Int)) <$> Rtype.kind t) #[.pointer (some ⟨2, 80, none⟩)]).run Tryd.prog w = .ok (.int .u8 22) w := by kernel_rfl
theorem partsPF (a : Addr) (w : World) : (ReflectliteValue.parts (.agg #[.pointer (some ⟨2, 83, none⟩), .pointer (some a), .int .u64 150])).run Tryd.prog w = .ok (some (83, a, 150)) w := by kernel_rfl
theorem isNilPF (a p : Addr) (W : World) (ha : W.cell? a = some (.pointer (some p))) : (ReflectliteValue.method (ReflectliteValue.valueError "reflectlite.Value.IsNil" 0) ReflectliteValue.isNil #[.agg #[.pointer (some ⟨2, 83, none⟩), .pointer (some a), .int .u64 150]]).run Tryd.prog W = .ok (.bool false) W := by
  rw [rlmY]
  simp only [Sem.run_bind, partsPF, Result.andThen]
  simp [ReflectliteValue.isNil, loadVar, isAgg, underlying, Tryd.underlying83, ha, Result.andThen]
theorem elemPF (w : World) : (ReflectliteType.method ReflectliteType.elem #[.agg #[.pointer (some ⟨2, 83, none⟩)]]).run Tryd.prog w = .ok (.iface 114 (.agg #[.pointer (some ⟨2, 80, none⟩)])) w := by kernel_rfl
theorem implementsTF (w : World) : (ReflectliteType.relation "Implements" ReflectliteType.implements_ #[.agg #[.pointer (some ⟨2, 80, none⟩)], .iface 114 (.agg #[.pointer (some ⟨2, 68, none⟩)])]).run Tryd.prog w = .ok (.bool true) w := by kernel_rfl
theorem typeOfTF (v : Value) (w : World) : (ReflectliteType.typeOf #[.iface 80 v]).run Tryd.prog w = .ok (.iface 114 (.agg #[.pointer (some ⟨2, 80, none⟩)])) w := by kernel_rfl
theorem assignableTF (w : World) : (ReflectliteType.relation "AssignableTo" ReflectliteType.assignableTo #[.agg #[.pointer (some ⟨2, 80, none⟩)], .iface 114 (.agg #[.pointer (some ⟨2, 80, none⟩)])]).run Tryd.prog w = .ok (.bool true) w := by kernel_rfl
theorem valueOfTF (e : Addr) (w : World) : (ReflectliteValue.unpack (.iface 80 (.pointer (some e)))).run Tryd.prog w = .ok (.agg #[.pointer (some ⟨2, 80, none⟩), .pointer (some ⟨w.heap.size, 0, none⟩), .int .u64 150]) (w.alloc (.cells #[.pointer (some e)] 80)) := by kernel_rfl
theorem elemOfPF (w : World) : (Rtype.elem? 83).run Tryd.prog w = .ok (some 80) w := by kernel_rfl
theorem mkTF (p : Addr) (w : World) : (ReflectliteValue.mk 80 p ReflectliteValue.flagAddr).run Tryd.prog w = .ok (.agg #[.pointer (some ⟨2, 80, none⟩), .pointer (some p), .int .u64 406]) w := by kernel_rfl
theorem elemVPF (a p : Addr) (W : World) (ha : W.cell? a = some (.pointer (some p))) : (ReflectliteValue.method (ReflectliteValue.valueError "reflectlite.Value.Elem" 0) ReflectliteValue.elem #[.agg #[.pointer (some ⟨2, 83, none⟩), .pointer (some a), .int .u64 150]]).run Tryd.prog W = .ok (.agg #[.pointer (some ⟨2, 80, none⟩), .pointer (some p), .int .u64 406]) W := by
  rw [rlmY]
  simp only [Sem.run_bind, partsPF, Result.andThen]
  simp [ReflectliteValue.elem, loadVar, isAgg, underlying, Tryd.underlying83, ha, Result.andThen, elemOfPF, mkTF]
theorem partsTaF (a : Addr) (w : World) : (ReflectliteValue.parts (.agg #[.pointer (some ⟨2, 80, none⟩), .pointer (some a), .int .u64 406])).run Tryd.prog w = .ok (some (80, a, 406)) w := by kernel_rfl
theorem partsTF (a : Addr) (w : World) : (ReflectliteValue.parts (.agg #[.pointer (some ⟨2, 80, none⟩), .pointer (some a), .int .u64 150])).run Tryd.prog w = .ok (some (80, a, 150)) w := by kernel_rfl
theorem directTF (w : World) : (Rtype.directlyAssignable 80 80).run Tryd.prog w = .ok true w := by kernel_rfl
theorem setTF (ta b e : Addr) (old : Value) (W : World) (hb : W.cell? b = some (.pointer (some e))) (ht : W.cell? ta = some old) (hf : W.frozen? ta = false) :
    (ReflectliteValue.set #[.agg #[.pointer (some ⟨2, 80, none⟩), .pointer (some ta), .int .u64 406], .agg #[.pointer (some ⟨2, 80, none⟩), .pointer (some b), .int .u64 150]]).run Tryd.prog W = .ok (.tuple #[]) (W.setCell ta (.pointer (some e))) := by
  rw [rlsY]
  simp only [Sem.run_bind, partsTaF, partsTF, Result.andThen]
  simp [ReflectliteValue.flagAddr, loadVar, isAgg, underlying, Tryd.underlying80, hb, Result.andThen, directTF, storeVar, Value.cells, storeCells, Addr.add]
  rw [run_store Tryd.prog W ta _ _ (by rfl)]
  simp [ht, hf]
theorem methodKindY (h : Value) (w : World) : (Go.method 294 114 (.agg #[h]) "Kind").run Tryd.prog w = .ok (101, h) w := by kernel_rfl
theorem methodElemY (h : Value) (w : World) : (Go.method 294 114 (.agg #[h]) "Elem").run Tryd.prog w = .ok (114, .agg #[h]) w := by kernel_rfl
theorem methodImplementsY (h : Value) (w : World) : (Go.method 294 114 (.agg #[h]) "Implements").run Tryd.prog w = .ok (115, .agg #[h]) w := by kernel_rfl
theorem methodAssignableY (h : Value) (w : World) : (Go.method 294 114 (.agg #[h]) "AssignableTo").run Tryd.prog w = .ok (112, .agg #[h]) w := by kernel_rfl
theorem assignableIF (w : World) : (ReflectliteType.relation "AssignableTo" ReflectliteType.assignableTo #[.agg #[.pointer (some ⟨2, 79, none⟩)], .iface 114 (.agg #[.pointer (some ⟨2, 80, none⟩)])]).run Tryd.prog w = .ok (.bool false) w := by kernel_rfl
theorem methodUnwrapY (v : Value) (w : World) : (Go.method 294 79 v "Unwrap").run Tryd.prog w = .ok (106, v) w := by kernel_rfl
theorem noAsI (v : Value) (xT : TypeId) (w : World) : (Instr.typeAssert (.iface 79 v) xT 119 true).run Tryd.prog w = .ok (.tuple #[.nilIface, .bool false]) w := run_typeAssert_lacksB Tryd.underlying119 (by kernel_rfl) (by kernel_rfl) v xT w
theorem hasUnI (v : Value) (xT : TypeId) (w : World) : (Instr.typeAssert (.iface 79 v) xT 122 true).run Tryd.prog w = .ok (.tuple #[.iface 79 v, .bool true]) w := run_typeAssert_hasB Tryd.underlying122 (by kernel_rfl) v xT w
set_option maxHeartbeats 4000000
theorem as_hitI (w : World) (e a : Addr) (tb : Nat) (old : Value) (ha : w.cell? a = some (.pointer (some ⟨tb, 0, none⟩))) (ht0 : w.heap[tb]? = some (.cells #[old] 79)) :
    Calls Tryd.prog 52 #[.iface 79 (.pointer (some e)), .iface 82 (.pointer (some ⟨tb, 0, none⟩)), .agg #[.pointer (some ⟨2, 82, none⟩), .pointer (some a), .int .u64 150], .iface 114 (.agg #[.pointer (some ⟨2, 79, none⟩)])] w fun ev w' => ev = .returned (.bool true) ∧ Chg (fun j => j = tb) w w' ∧ w'.heap[tb]? = some (.cells #[.pointer (some e)] 79) := by
  have h0 := @run_callFunc_extern Tryd.prog 49 _ (fun args => ReflectliteValue.unpack (args.getD 0 (.tuple #[]))) Tryd.func49 (by kernel_rfl) (by kernel_rfl) (by kernel_rfl) (by kernel_rfl)
  have h6 := @run_callFunc_extern Tryd.prog 55 _ ReflectliteType.typeOf Tryd.func55 (by kernel_rfl) (by kernel_rfl) (by kernel_rfl) (by kernel_rfl)
  have h7 := @run_callFunc_extern Tryd.prog 112 _ (ReflectliteType.relation "AssignableTo" ReflectliteType.assignableTo) Tryd.func112 (by kernel_rfl) (by kernel_rfl) (by kernel_rfl) (by kernel_rfl)
  have h8 := @run_callFunc_extern Tryd.prog 56 _ (ReflectliteValue.method (ReflectliteValue.valueError "reflectlite.Value.Elem" 0) ReflectliteValue.elem) Tryd.func56 (by kernel_rfl) (by kernel_rfl) (by kernel_rfl) (by kernel_rfl)
  have h9 := @run_callFunc_extern Tryd.prog 57 _ ReflectliteValue.set Tryd.func57 (by kernel_rfl) (by kernel_rfl) (by kernel_rfl) (by kernel_rfl)
  have htl : tb < w.heap.size := blk_lt ht0
  have hal := World.block_lt_of_cell? w a ha
  have tO := typeOfTI
  have mA := methodAssignableY
  have aT := assignableTI
  have vT := valueOfTI
  skip
  have el := elemVPI a ⟨tb, 0, none⟩ (w.alloc (.cells #[.pointer (some ⟨2, 82, none⟩), .pointer (some a), .int .u64 150] 100)) (by rw [World.cell?_alloc_lt _ _ a hal]; exact ha)
  have st := setTI ⟨tb, 0, none⟩ ⟨w.heap.size + 1, 0, none⟩ e old ((w.alloc (.cells #[.pointer (some ⟨2, 82, none⟩), .pointer (some a), .int .u64 150] 100)).alloc (.cells #[.pointer (some e)] 79))
    (by rw [World.cell?_alloc_at _ _ _ _ (by simp)]; rfl)
    (by rw [World.cell?_alloc_lt _ _ _ (by simp; omega), World.cell?_alloc_lt _ _ _ htl]; exact blk_cell ht0 0)
    (by rw [World.frozen?_alloc_old _ _ _ (by simp; omega), World.frozen?_alloc_old _ _ _ (Nat.ne_of_lt htl)]; exact blk_frozen ht0 0)
  replace ht0 := Aside0.mk ht0
  go_enter Tryd.func52, Tryd.ntmps52
  go_wp2
  refine wp_loop_rounds 1 ?_
  rw [rounds_succ]
  go_wp2
  skip
  go_ret
  exact ⟨rfl, ((((Chg.refl (fun j => j = tb) w).setCell (p := ⟨tb, 0, none⟩) (fun _ => rfl) (.pointer (some e))).alloc _).alloc _), (((Chg.refl (fun _ => False) (w.setCell ⟨tb, 0, none⟩ (.pointer (some e)))).alloc _).alloc _).blk (blk_set ht0.out 0 _) (fun h => h)⟩
theorem as_thruF (w : World) (e a : Addr) (tb : Nat) (old : Value) (ha : w.cell? a = some (.pointer (some ⟨tb, 0, none⟩))) (ht0 : w.heap[tb]? = some (.cells #[old] 80)) (g : Nat) (hg : w.cell? ⟨g, 1, none⟩ = some (.iface 80 (.pointer (some e)))) :
    Calls Tryd.prog 52 #[.iface 79 (.pointer (some ⟨g, 0, none⟩)), .iface 83 (.pointer (some ⟨tb, 0, none⟩)), .agg #[.pointer (some ⟨2, 83, none⟩), .pointer (some a), .int .u64 150], .iface 114 (.agg #[.pointer (some ⟨2, 80, none⟩)])] w fun ev w' => ev = .returned (.bool true) ∧ Chg (fun j => j = tb) w w' ∧ w'.heap[tb]? = some (.cells #[.pointer (some e)] 80) := by
  have h0 := @run_callFunc_extern Tryd.prog 49 _ (fun args => ReflectliteValue.unpack (args.getD 0 (.tuple #[]))) Tryd.func49 (by kernel_rfl) (by kernel_rfl) (by kernel_rfl) (by kernel_rfl)
  have h6 := @run_callFunc_extern Tryd.prog 55 _ ReflectliteType.typeOf Tryd.func55 (by kernel_rfl) (by kernel_rfl) (by kernel_rfl) (by kernel_rfl)
  have h7 := @run_callFunc_extern Tryd.prog 112 _ (ReflectliteType.relation "AssignableTo" ReflectliteType.assignableTo) Tryd.func112 (by kernel_rfl) (by kernel_rfl) (by kernel_rfl) (by kernel_rfl)
  have h8 := @run_callFunc_extern Tryd.prog 56 _ (ReflectliteValue.method (ReflectliteValue.valueError "reflectlite.Value.Elem" 0) ReflectliteValue.elem) Tryd.func56 (by kernel_rfl) (by kernel_rfl) (by kernel_rfl) (by kernel_rfl)
  have h9 := @run_callFunc_extern Tryd.prog 57 _ ReflectliteValue.set Tryd.func57 (by kernel_rfl) (by kernel_rfl) (by kernel_rfl) (by kernel_rfl)
  have htl : tb < w.heap.size := blk_lt ht0
  have hal := World.block_lt_of_cell? w a ha
  have tO := typeOfTF
  have mA := methodAssignableY
  have aT := assignableTF
  have vT := valueOfTF
  have tI := typeOfTI
  have aN := assignableIF
  have mU := methodUnwrapY
  have nA := noAsI
  have hU := hasUnI
  have hg2 : (w.alloc (.cells #[.pointer (some ⟨2, 83, none⟩), .pointer (some a), .int .u64 150] 100)).cell? ⟨g, 1, none⟩ = some (.iface 80 (.pointer (some e))) := by rw [World.cell?_alloc_lt _ _ _ (World.block_lt_of_cell? w _ hg)]; exact hg
  have el := elemVPF a ⟨tb, 0, none⟩ (w.alloc (.cells #[.pointer (some ⟨2, 83, none⟩), .pointer (some a), .int .u64 150] 100)) (by rw [World.cell?_alloc_lt _ _ a hal]; exact ha)
  have st := setTF ⟨tb, 0, none⟩ ⟨w.heap.size + 1, 0, none⟩ e old ((w.alloc (.cells #[.pointer (some ⟨2, 83, none⟩), .pointer (some a), .int .u64 150] 100)).alloc (.cells #[.pointer (some e)] 80))
    (by rw [World.cell?_alloc_at _ _ _ _ (by simp)]; rfl)
    (by rw [World.cell?_alloc_lt _ _ _ (by simp; omega), World.cell?_alloc_lt _ _ _ htl]; exact blk_cell ht0 0)
    (by rw [World.frozen?_alloc_old _ _ _ (by simp; omega), World.frozen?_alloc_old _ _ _ (Nat.ne_of_lt htl)]; exact blk_frozen ht0 0)
  replace ht0 := Aside0.mk ht0
  go_enter Tryd.func52, Tryd.ntmps52
  go_wp2
  refine wp_loop_rounds 2 ?_
  rw [rounds_succ]
  go_wp2
  rw [rounds_succ]
  go_wp2
  go_ret
  exact ⟨rfl, ((((Chg.refl (fun j => j = tb) w).setCell (p := ⟨tb, 0, none⟩) (fun _ => rfl) (.pointer (some e))).alloc _).alloc _), (((Chg.refl (fun _ => False) (w.setCell ⟨tb, 0, none⟩ (.pointer (some e)))).alloc _).alloc _).blk (blk_set ht0.out 0 _) (fun h => h)⟩
theorem As_I (w : World) (e : Addr) (tb : Nat) (old : Value) (hE : w.cell? ⟨0, 0, none⟩ = some (.iface 114 (.agg #[.pointer (some ⟨2, 68, none⟩)]))) (ht0 : w.heap[tb]? = some (.cells #[old] 79)) :
    Calls Tryd.prog 40 #[.iface 79 (.pointer (some e)), .iface 82 (.pointer (some ⟨tb, 0, none⟩))] w fun ev w' => ev = .returned (.bool true) ∧ Chg (fun j => j = tb) w w' ∧ w'.heap[tb]? = some (.cells #[.pointer (some e)] 79) := by
  have h0 := @run_callFunc_extern Tryd.prog 49 _ (fun args => ReflectliteValue.unpack (args.getD 0 (.tuple #[]))) Tryd.func49 (by kernel_rfl) (by kernel_rfl) (by kernel_rfl) (by kernel_rfl)
  have h1 := @run_callFunc_extern Tryd.prog 50 _ (ReflectliteValue.methodAny (ReflectliteValue.valueError "reflectlite.Value.Type" 0) (fun t _ _ _ => ReflectliteType.toType t)) Tryd.func50 (by kernel_rfl) (by kernel_rfl) (by kernel_rfl) (by kernel_rfl)
  have h2 := @run_callFunc_extern Tryd.prog 51 _ (ReflectliteValue.method (ReflectliteValue.valueError "reflectlite.Value.IsNil" 0) ReflectliteValue.isNil) Tryd.func51 (by kernel_rfl) (by kernel_rfl) (by kernel_rfl) (by kernel_rfl)
  have h3 := @run_callFunc_extern Tryd.prog 101 _ (ReflectliteType.abiMethod fun t => do pure (.int .u8 (← Rtype.kind t))) Tryd.func101 (by kernel_rfl) (by kernel_rfl) (by kernel_rfl) (by kernel_rfl)
  have h4 := @run_callFunc_extern Tryd.prog 114 _ (ReflectliteType.method ReflectliteType.elem) Tryd.func114 (by kernel_rfl) (by kernel_rfl) (by kernel_rfl) (by kernel_rfl)
  have h5 := @run_callFunc_extern Tryd.prog 115 _ (ReflectliteType.relation "Implements" ReflectliteType.implements_) Tryd.func115 (by kernel_rfl) (by kernel_rfl) (by kernel_rfl) (by kernel_rfl)
  have f6 := valueOfPI
  have f7 := typePI
  have mK := methodKindY
  have mE := methodElemY
  have mI := methodImplementsY
  have k1 := kindPI
  have k2 := kindTI
  have e1 := elemPI
  have i1 := implementsTI
  have htl : tb < w.heap.size := blk_lt ht0
  have n8 := isNilPI ⟨w.heap.size, 0, none⟩ ⟨tb, 0, none⟩ ((w.alloc (.cells #[.pointer (some ⟨tb, 0, none⟩)] 82)).alloc (.cells #[.pointer (some ⟨2, 82, none⟩), .pointer (some ⟨w.heap.size, 0, none⟩), .int .u64 150] 100)) (by simp)
  have hlt := World.block_lt_of_cell? w _ hE
  have hg9 : ((w.alloc (.cells #[.pointer (some ⟨tb, 0, none⟩)] 82)).alloc (.cells #[.pointer (some ⟨2, 82, none⟩), .pointer (some ⟨w.heap.size, 0, none⟩), .int .u64 150] 100)).cell? ⟨0, 0, none⟩ = some (.iface 114 (.agg #[.pointer (some ⟨2, 68, none⟩)])) := by
    rw [World.cell?_alloc_lt _ _ ⟨0, 0, none⟩ (by simp), World.cell?_alloc_lt _ _ ⟨0, 0, none⟩ hlt]; exact hE
  have hcall : Aside0 (Calls Tryd.prog 52 #[.iface 79 (.pointer (some e)), .iface 82 (.pointer (some ⟨tb, 0, none⟩)), .agg #[.pointer (some ⟨2, 82, none⟩), .pointer (some ⟨w.heap.size, 0, none⟩), .int .u64 150], .iface 114 (.agg #[.pointer (some ⟨2, 79, none⟩)])] ((w.alloc (.cells #[.pointer (some ⟨tb, 0, none⟩)] 82)).alloc (.cells #[.pointer (some ⟨2, 82, none⟩), .pointer (some ⟨w.heap.size, 0, none⟩), .int .u64 150] 100)) fun ev w' => ev = .returned (.bool true) ∧ Chg (fun j => j = tb) ((w.alloc (.cells #[.pointer (some ⟨tb, 0, none⟩)] 82)).alloc (.cells #[.pointer (some ⟨2, 82, none⟩), .pointer (some ⟨w.heap.size, 0, none⟩), .int .u64 150] 100)) w' ∧ w'.heap[tb]? = some (.cells #[.pointer (some e)] 79)) :=
    ⟨as_hitI _ e ⟨w.heap.size, 0, none⟩ tb old (by rw [World.cell?_alloc_lt _ _ _ (by simp)]; simp) ((((Chg.refl (fun _ => False) w).alloc _).alloc _).blk ht0 (fun h => h))⟩
  have hc1 := Aside0.mk (((Chg.refl (fun j => j = tb) w).alloc (.cells #[.pointer (some ⟨tb, 0, none⟩)] 82)).alloc (.cells #[.pointer (some ⟨2, 82, none⟩), .pointer (some ⟨w.heap.size, 0, none⟩), .int .u64 150] 100))
  go_enter Tryd.func40, Tryd.ntmps40
  go_wp2_with (go_at_call 52; go_must (refine (hcall.out).mono ?_); go_must (rintro ev w1 ⟨rfl, hc2, hb2⟩); go_must (replace hc2 := Aside0.mk hc2); go_must (replace hb2 := Aside0.mk hb2))
  go_ret
  exact ⟨rfl, hc1.out.trans hc2.out (fun _ _ h => h), hb2.out⟩
theorem As_F (w : World) (e : Addr) (tb : Nat) (old : Value) (hE : w.cell? ⟨0, 0, none⟩ = some (.iface 114 (.agg #[.pointer (some ⟨2, 68, none⟩)]))) (ht0 : w.heap[tb]? = some (.cells #[old] 80)) (g : Nat) (hg : w.cell? ⟨g, 1, none⟩ = some (.iface 80 (.pointer (some e)))) :
    Calls Tryd.prog 40 #[.iface 79 (.pointer (some ⟨g, 0, none⟩)), .iface 83 (.pointer (some ⟨tb, 0, none⟩))] w fun ev w' => ev = .returned (.bool true) ∧ Chg (fun j => j = tb) w w' ∧ w'.heap[tb]? = some (.cells #[.pointer (some e)] 80) := by
  have h0 := @run_callFunc_extern Tryd.prog 49 _ (fun args => ReflectliteValue.unpack (args.getD 0 (.tuple #[]))) Tryd.func49 (by kernel_rfl) (by kernel_rfl) (by kernel_rfl) (by kernel_rfl)
  have h1 := @run_callFunc_extern Tryd.prog 50 _ (ReflectliteValue.methodAny (ReflectliteValue.valueError "reflectlite.Value.Type" 0) (fun t _ _ _ => ReflectliteType.toType t)) Tryd.func50 (by kernel_rfl) (by kernel_rfl) (by kernel_rfl) (by kernel_rfl)
  have h2 := @run_callFunc_extern Tryd.prog 51 _ (ReflectliteValue.method (ReflectliteValue.valueError "reflectlite.Value.IsNil" 0) ReflectliteValue.isNil) Tryd.func51 (by kernel_rfl) (by kernel_rfl) (by kernel_rfl) (by kernel_rfl)
  have h3 := @run_callFunc_extern Tryd.prog 101 _ (ReflectliteType.abiMethod fun t => do pure (.int .u8 (← Rtype.kind t))) Tryd.func101 (by kernel_rfl) (by kernel_rfl) (by kernel_rfl) (by kernel_rfl)
  have h4 := @run_callFunc_extern Tryd.prog 114 _ (ReflectliteType.method ReflectliteType.elem) Tryd.func114 (by kernel_rfl) (by kernel_rfl) (by kernel_rfl) (by kernel_rfl)
  have h5 := @run_callFunc_extern Tryd.prog 115 _ (ReflectliteType.relation "Implements" ReflectliteType.implements_) Tryd.func115 (by kernel_rfl) (by kernel_rfl) (by kernel_rfl) (by kernel_rfl)
  have f6 := valueOfPF
  have f7 := typePF
  have mK := methodKindY
  have mE := methodElemY
  have mI := methodImplementsY
  have k1 := kindPF
  have k2 := kindTF
  have e1 := elemPF
  have i1 := implementsTF
  have htl : tb < w.heap.size := blk_lt ht0
  have n8 := isNilPF ⟨w.heap.size, 0, none⟩ ⟨tb, 0, none⟩ ((w.alloc (.cells #[.pointer (some ⟨tb, 0, none⟩)] 83)).alloc (.cells #[.pointer (some ⟨2, 83, none⟩), .pointer (some ⟨w.heap.size, 0, none⟩), .int .u64 150] 100)) (by simp)
  have hlt := World.block_lt_of_cell? w _ hE
  have hg9 : ((w.alloc (.cells #[.pointer (some ⟨tb, 0, none⟩)] 83)).alloc (.cells #[.pointer (some ⟨2, 83, none⟩), .pointer (some ⟨w.heap.size, 0, none⟩), .int .u64 150] 100)).cell? ⟨0, 0, none⟩ = some (.iface 114 (.agg #[.pointer (some ⟨2, 68, none⟩)])) := by
    rw [World.cell?_alloc_lt _ _ ⟨0, 0, none⟩ (by simp), World.cell?_alloc_lt _ _ ⟨0, 0, none⟩ hlt]; exact hE
  have hcall : Aside0 (Calls Tryd.prog 52 #[.iface 79 (.pointer (some ⟨g, 0, none⟩)), .iface 83 (.pointer (some ⟨tb, 0, none⟩)), .agg #[.pointer (some ⟨2, 83, none⟩), .pointer (some ⟨w.heap.size, 0, none⟩), .int .u64 150], .iface 114 (.agg #[.pointer (some ⟨2, 80, none⟩)])] ((w.alloc (.cells #[.pointer (some ⟨tb, 0, none⟩)] 83)).alloc (.cells #[.pointer (some ⟨2, 83, none⟩), .pointer (some ⟨w.heap.size, 0, none⟩), .int .u64 150] 100)) fun ev w' => ev = .returned (.bool true) ∧ Chg (fun j => j = tb) ((w.alloc (.cells #[.pointer (some ⟨tb, 0, none⟩)] 83)).alloc (.cells #[.pointer (some ⟨2, 83, none⟩), .pointer (some ⟨w.heap.size, 0, none⟩), .int .u64 150] 100)) w' ∧ w'.heap[tb]? = some (.cells #[.pointer (some e)] 80)) :=
    ⟨as_thruF _ e ⟨w.heap.size, 0, none⟩ tb old (by rw [World.cell?_alloc_lt _ _ _ (by simp)]; simp) ((((Chg.refl (fun _ => False) w).alloc _).alloc _).blk ht0 (fun h => h)) g (by rw [World.cell?_alloc_lt _ _ _ (by have h8 := World.block_lt_of_cell? w _ hg; have h9 : g < w.heap.size := h8; simp; omega), World.cell?_alloc_lt _ _ _ (World.block_lt_of_cell? w _ hg)]; exact hg)⟩
  have hc1 := Aside0.mk (((Chg.refl (fun j => j = tb) w).alloc (.cells #[.pointer (some ⟨tb, 0, none⟩)] 83)).alloc (.cells #[.pointer (some ⟨2, 83, none⟩), .pointer (some ⟨w.heap.size, 0, none⟩), .int .u64 150] 100))
  go_enter Tryd.func40, Tryd.ntmps40
  go_wp2_with (go_at_call 52; go_must (refine (hcall.out).mono ?_); go_must (rintro ev w1 ⟨rfl, hc2, hb2⟩); go_must (replace hc2 := Aside0.mk hc2); go_must (replace hb2 := Aside0.mk hb2))
  go_ret
  exact ⟨rfl, hc1.out.trans hc2.out (fun _ _ h => h), hb2.out⟩
theorem As_nil (w : World) (t : Value) : Calls Tryd.prog 40 #[.nilIface, t] w fun e w' => e = .returned (.bool false) ∧ w' = w := by
  go_enter Tryd.func40, Tryd.ntmps40
  go_wp2
  go_ret
  exact ⟨rfl, rfl⟩
end Go.Proofs.YtgaackedappmgaaDoor.K
