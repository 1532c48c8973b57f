/- errors.As at a target that is an api.Errno: a nil error, and an error that is an Errno itself. Condition: the library's variable errorType holds the type error; What an error tells: api.Tell of none, of an Errno, of an At. Condition: the library's variable errorType holds the type error; Parts in me. -/
import Derived.LaidEql
import Derived.Maps.AppendAt
import Derived.RowKitTokens
import Derived.Stop.Asserts
import Derived.Test.YtignjjnflcpiiaaGreatDoorQ13
namespace Go.Proofs.YtignjjnflcpiiaaGreatDoor
open Go.RowKit Go.Extern.Stop Go.Stop Go.Extern
theorem As.valueOf27 (t : Go.Addr) (w : World) : (ReflectliteValue.unpack (.iface 102 (.pointer (some t)))).run Tryz.prog w
    = .ok (.agg #[.pointer (some ⟨12, 102, none⟩), .pointer (some ⟨w.heap.size, 0, none⟩), .int .u64 150]) (w.alloc (.cells #[.pointer (some t)] 102)) := by kernel_rfl
theorem As.type27 (a : Go.Addr) (w : World) : (ReflectliteValue.methodAny (ReflectliteValue.valueError "reflectlite.Value.Type" 0) (fun t _ _ _ => ReflectliteType.toType t) #[.agg #[.pointer (some ⟨12, 102, none⟩), .pointer (some a), .int .u64 150]]).run Tryz.prog w
    = .ok (.iface 262 (.agg #[.pointer (some ⟨12, 102, none⟩)])) w := by kernel_rfl
theorem As.methodKind (h : Value) (w : World) : (Go.method 466 262 (.agg #[h]) "Kind").run Tryz.prog w = .ok (373, h) w := by kernel_rfl
theorem As.kind27 (w : World) : ((ReflectliteType.abiMethod fun t => (fun a : Nat => Value.int IntKind.u8 (a : Int)) <$> Rtype.kind t) #[.pointer (some ⟨12, 102, none⟩)]).run Tryz.prog w = .ok (.int .u8 22) w := by kernel_rfl
theorem As.kind25 (w : World) : ((ReflectliteType.abiMethod fun t => (fun a : Nat => Value.int IntKind.u8 (a : Int)) <$> Rtype.kind t) #[.pointer (some ⟨12, 30, none⟩)]).run Tryz.prog w = .ok (.int .u8 2) w := by kernel_rfl
theorem rlm (z : Sem Value) (f : TypeId → Go.Addr → Nat → Nat → Sem Value) (v : Value) :
    ReflectliteValue.method z f #[v] = (do match ← ReflectliteValue.parts v with | none => z | some (t, a, fl) => f t a fl (fl % 32)) := rfl
theorem As.parts27 (a : Go.Addr) (w : World) : (ReflectliteValue.parts (.agg #[.pointer (some ⟨12, 102, none⟩), .pointer (some a), .int .u64 150])).run Tryz.prog w = .ok (some (102, a, 150)) w := by kernel_rfl
theorem As.isNil27 (a p : Go.Addr) (W : World) (ha : W.cell? a = some (.pointer (some p))) :
    (ReflectliteValue.method (ReflectliteValue.valueError "reflectlite.Value.IsNil" 0) ReflectliteValue.isNil #[.agg #[.pointer (some ⟨12, 102, none⟩), .pointer (some a), .int .u64 150]]).run Tryz.prog W = .ok (.bool false) W := by
  rw [rlm]
  simp only [Sem.run_bind, As.parts27, Result.andThen]
  simp [ReflectliteValue.isNil, loadVar, isAgg, underlying, Tryz.underlying102, ha, Result.andThen]
theorem As.methodElem (h : Value) (w : World) : (Go.method 466 262 (.agg #[h]) "Elem").run Tryz.prog w = .ok (385, .agg #[h]) w := by kernel_rfl
theorem As.methodImplements (h : Value) (w : World) : (Go.method 466 262 (.agg #[h]) "Implements").run Tryz.prog w = .ok (386, .agg #[h]) w := by kernel_rfl
theorem As.methodAssignableTo (h : Value) (w : World) : (Go.method 466 262 (.agg #[h]) "AssignableTo").run Tryz.prog w = .ok (383, .agg #[h]) w := by kernel_rfl
theorem As.elem27 (w : World) : (ReflectliteType.method ReflectliteType.elem #[.agg #[.pointer (some ⟨12, 102, none⟩)]]).run Tryz.prog w = .ok (.iface 262 (.agg #[.pointer (some ⟨12, 30, none⟩)])) w := by kernel_rfl
theorem As.implements25 (w : World) : (ReflectliteType.relation "Implements" ReflectliteType.implements_ #[.agg #[.pointer (some ⟨12, 30, none⟩)], .iface 262 (.agg #[.pointer (some ⟨12, 25, none⟩)])]).run Tryz.prog w = .ok (.bool true) w := by kernel_rfl
theorem As.typeOf25 (v : Value) (w : World) : (ReflectliteType.typeOf #[.iface 30 v]).run Tryz.prog w = .ok (.iface 262 (.agg #[.pointer (some ⟨12, 30, none⟩)])) w := by kernel_rfl
theorem As.assignable25 (w : World) : (ReflectliteType.relation "AssignableTo" ReflectliteType.assignableTo #[.agg #[.pointer (some ⟨12, 30, none⟩)], .iface 262 (.agg #[.pointer (some ⟨12, 30, none⟩)])]).run Tryz.prog w = .ok (.bool true) w := by kernel_rfl
theorem As.valueOf25 (e : Int) (w : World) : (ReflectliteValue.unpack (.iface 30 (.int .i64 e))).run Tryz.prog w
    = .ok (.agg #[.pointer (some ⟨12, 30, none⟩), .pointer (some ⟨w.heap.size, 0, none⟩), .int .u64 130]) (w.alloc (.cells #[.int .i64 e] 30)) := by kernel_rfl
theorem As.elemOf27 (w : World) : (Rtype.elem? 102).run Tryz.prog w = .ok (some 30) w := by kernel_rfl
theorem As.mk25 (p : Go.Addr) (w : World) : (ReflectliteValue.mk 30 p ReflectliteValue.flagAddr).run Tryz.prog w = .ok (.agg #[.pointer (some ⟨12, 30, none⟩), .pointer (some p), .int .u64 386]) w := by kernel_rfl
theorem As.elemV27 (a p : Go.Addr) (W : World) (ha : W.cell? a = some (.pointer (some p))) :
    (ReflectliteValue.method (ReflectliteValue.valueError "reflectlite.Value.Elem" 0) ReflectliteValue.elem #[.agg #[.pointer (some ⟨12, 102, none⟩), .pointer (some a), .int .u64 150]]).run Tryz.prog W
      = .ok (.agg #[.pointer (some ⟨12, 30, none⟩), .pointer (some p), .int .u64 386]) W := by
  rw [rlm]
  simp only [Sem.run_bind, As.parts27, Result.andThen]
  simp [ReflectliteValue.elem, loadVar, isAgg, underlying, Tryz.underlying102, ha, Result.andThen, As.elemOf27, As.mk25]
theorem rls (v x : Value) : ReflectliteValue.set #[v, x] = (do
    let (some (dst, a, fl), some (src, b, _)) := (← ReflectliteValue.parts v, ← ReflectliteValue.parts x)
      | unsupported (.noEntry "extern/(internal/reflectlite.Value).Set.zeroValue")
    if fl / ReflectliteValue.flagAddr % 2 == 0 then unsupported (.noEntry "extern/(internal/reflectlite.Value).Set.unaddressable")
    let val ← loadVar src b
    if ← Rtype.directlyAssignable dst src then storeVar dst a val
    else if ← Rtype.implements dst src then
      if (← Rtype.kind src) == 20 then
        match val with
        | .nilIface => unsupported (.noEntry "extern/reflectlite: a nil value of one interface type handed on as a value of another")
        | _ => storeVar dst a val
      else storeVar dst a (.iface src val)
    else panicString ("reflectlite.Set: value of type " ++ (← Rtype.spelt src) ++ " is not assignable to type " ++ (← Rtype.spelt dst))
    pure (.tuple #[])) := rfl
theorem As.parts25a (a : Go.Addr) (w : World) : (ReflectliteValue.parts (.agg #[.pointer (some ⟨12, 30, none⟩), .pointer (some a), .int .u64 386])).run Tryz.prog w = .ok (some (30, a, 386)) w := by kernel_rfl
theorem As.parts25 (a : Go.Addr) (w : World) : (ReflectliteValue.parts (.agg #[.pointer (some ⟨12, 30, none⟩), .pointer (some a), .int .u64 130])).run Tryz.prog w = .ok (some (30, a, 130)) w := by kernel_rfl
theorem As.direct25 (w : World) : (Rtype.directlyAssignable 30 30).run Tryz.prog w = .ok true w := by kernel_rfl
theorem As.set25 (ta b : Go.Addr) (e : Int) (old : Value) (W : World) (hb : W.cell? b = some (.int .i64 e)) (ht : W.cell? ta = some old) (hf : W.frozen? ta = false) :
    (ReflectliteValue.set #[.agg #[.pointer (some ⟨12, 30, none⟩), .pointer (some ta), .int .u64 386], .agg #[.pointer (some ⟨12, 30, none⟩), .pointer (some b), .int .u64 130]]).run Tryz.prog W
      = .ok (.tuple #[]) (W.setCell ta (.int .i64 e)) := by
  rw [rls]
  simp only [Sem.run_bind, As.parts25a, As.parts25, Result.andThen]
  simp [ReflectliteValue.flagAddr, loadVar, isAgg, underlying, Tryz.underlying30, hb, Result.andThen, As.direct25, storeVar, Value.cells, storeCells, Go.Addr.add]
  rw [run_store Tryz.prog W ta _ _ (by rfl)]
  simp [ht, hf]
set_option maxHeartbeats 4000000 in
theorem as_hit (e : Int) (t : Go.Addr) (old : Value) (w : World) (hg : w.cell? ⟨0, 0, none⟩ = some (.iface 262 (.agg #[.pointer (some ⟨12, 25, none⟩)]))) (ht0 : w.cell? t = some old) (hf0 : w.frozen? t = false) :
    Calls Tryz.prog 48 #[.iface 30 (.int .i64 e), .iface 102 (.pointer (some t))] w fun ev w' => ev = .returned (.bool true) ∧ w' = ((((w.alloc (.cells #[.pointer (some t)] 102)).alloc (.cells #[.pointer (some ⟨12, 102, none⟩), .pointer (some ⟨w.heap.size, 0, none⟩), .int .u64 150] 177)).alloc (.cells #[.pointer (some ⟨12, 102, none⟩), .pointer (some ⟨w.heap.size, 0, none⟩), .int .u64 150] 177)).alloc (.cells #[.int .i64 e] 30)).setCell t (.int .i64 e) := by
  have h6 := @run_callFunc_extern Tryz.prog 107 _ (fun args => ReflectliteValue.unpack (args.getD 0 (.tuple #[]))) Tryz.func107 (by kernel_rfl) (by kernel_rfl) (by kernel_rfl) (by kernel_rfl)
  have h7 := @run_callFunc_extern Tryz.prog 108 _ (ReflectliteValue.methodAny (ReflectliteValue.valueError "reflectlite.Value.Type" 0) (fun t _ _ _ => ReflectliteType.toType t)) Tryz.func108 (by kernel_rfl) (by kernel_rfl) (by kernel_rfl) (by kernel_rfl)
  have h8 := @run_callFunc_extern Tryz.prog 109 _ (ReflectliteValue.method (ReflectliteValue.valueError "reflectlite.Value.IsNil" 0) ReflectliteValue.isNil) Tryz.func109 (by kernel_rfl) (by kernel_rfl) (by kernel_rfl) (by kernel_rfl)
  have h27 := @run_callFunc_extern Tryz.prog 373 _ (ReflectliteType.abiMethod fun t => do pure (.int .u8 (← Rtype.kind t))) Tryz.func373 (by kernel_rfl) (by kernel_rfl) (by kernel_rfl) (by kernel_rfl)
  have h37 := @run_callFunc_extern Tryz.prog 385 _ (ReflectliteType.method ReflectliteType.elem) Tryz.func385 (by kernel_rfl) (by kernel_rfl) (by kernel_rfl) (by kernel_rfl)
  have h38 := @run_callFunc_extern Tryz.prog 386 _ (ReflectliteType.relation "Implements" ReflectliteType.implements_) Tryz.func386 (by kernel_rfl) (by kernel_rfl) (by kernel_rfl) (by kernel_rfl)
  have h10 := @run_callFunc_extern Tryz.prog 200 _ ReflectliteType.typeOf Tryz.func200 (by kernel_rfl) (by kernel_rfl) (by kernel_rfl) (by kernel_rfl)
  have h35 := @run_callFunc_extern Tryz.prog 383 _ (ReflectliteType.relation "AssignableTo" ReflectliteType.assignableTo) Tryz.func383 (by kernel_rfl) (by kernel_rfl) (by kernel_rfl) (by kernel_rfl)
  have h11 := @run_callFunc_extern Tryz.prog 201 _ (ReflectliteValue.method (ReflectliteValue.valueError "reflectlite.Value.Elem" 0) ReflectliteValue.elem) Tryz.func201 (by kernel_rfl) (by kernel_rfl) (by kernel_rfl) (by kernel_rfl)
  have h12 := @run_callFunc_extern Tryz.prog 202 _ ReflectliteValue.set Tryz.func202 (by kernel_rfl) (by kernel_rfl) (by kernel_rfl) (by kernel_rfl)
  have tO := As.typeOf25
  have mA := As.methodAssignableTo
  have a25 := As.assignable25
  have v25 := As.valueOf25
  have f6 := As.valueOf27
  have f7 := As.type27
  have mK := As.methodKind
  have mE := As.methodElem
  have mI := As.methodImplements
  have k27 := As.kind27
  have k25 := As.kind25
  have e27 := As.elem27
  have i25 := As.implements25
  have n8 := As.isNil27 ⟨w.heap.size, 0, none⟩ t ((w.alloc (.cells #[.pointer (some t)] 102)).alloc (.cells #[.pointer (some ⟨12, 102, none⟩), .pointer (some ⟨w.heap.size, 0, none⟩), .int .u64 150] 177)) (by simp)
  have hlt : 0 < w.heap.size := World.block_lt_of_cell? w _ hg
  have hg2 : ((w.alloc (.cells #[.pointer (some t)] 102)).alloc (.cells #[.pointer (some ⟨12, 102, none⟩), .pointer (some ⟨w.heap.size, 0, none⟩), .int .u64 150] 177)).cell? ⟨0, 0, none⟩ = some (.iface 262 (.agg #[.pointer (some ⟨12, 25, none⟩)])) := by
    rw [World.cell?_alloc_lt _ _ ⟨0, 0, none⟩ (by simp <;> omega), World.cell?_alloc_lt _ _ ⟨0, 0, none⟩ hlt]; exact hg
  have htl : t.block < w.heap.size := by
    rcases Nat.lt_or_ge t.block w.heap.size with h | h
    · exact h
    · simp [World.cell?, Array.getElem?_eq_none h] at ht0
  have el := As.elemV27 ⟨w.heap.size, 0, none⟩ t (((w.alloc (.cells #[.pointer (some t)] 102)).alloc (.cells #[.pointer (some ⟨12, 102, none⟩), .pointer (some ⟨w.heap.size, 0, none⟩), .int .u64 150] 177)).alloc (.cells #[.pointer (some ⟨12, 102, none⟩), .pointer (some ⟨w.heap.size, 0, none⟩), .int .u64 150] 177)) (by rw [World.cell?_alloc_lt _ _ ⟨w.heap.size, 0, none⟩ (by simp; omega)]; simp)
  have st := As.set25 t ⟨w.heap.size + 1 + 1 + 1, 0, none⟩ e old ((((w.alloc (.cells #[.pointer (some t)] 102)).alloc (.cells #[.pointer (some ⟨12, 102, none⟩), .pointer (some ⟨w.heap.size, 0, none⟩), .int .u64 150] 177)).alloc (.cells #[.pointer (some ⟨12, 102, none⟩), .pointer (some ⟨w.heap.size, 0, none⟩), .int .u64 150] 177)).alloc (.cells #[.int .i64 e] 30))
    (by rw [World.cell?_alloc_at _ _ _ _ (by simp)]; rfl)
    (by rw [World.cell?_alloc_lt _ _ t (by simp; omega), World.cell?_alloc_lt _ _ t (by simp; omega), World.cell?_alloc_lt _ _ t (by simp; omega), World.cell?_alloc_lt _ _ t htl]; exact ht0)
    (by rw [World.frozen?_alloc_old _ _ t (by simp; omega), World.frozen?_alloc_old _ _ t (by simp; omega), World.frozen?_alloc_old _ _ t (by simp; omega), World.frozen?_alloc_old _ _ t (Nat.ne_of_lt htl)]; exact hf0)
  go_enter Tryz.func48, Tryz.ntmps48
  go_wp2
  refine wp_loop_rounds 1 ?_
  rw [rounds_succ]
  go_wp2
  go_ret
  exact ⟨rfl, rfl⟩
theorem As.typeOfAt (v : Value) (w : World) : (ReflectliteType.typeOf #[.iface 253 v]).run Tryz.prog w = .ok (.iface 262 (.agg #[.pointer (some ⟨12, 253, none⟩)])) w := by kernel_rfl
theorem As.assignableAt (w : World) : (ReflectliteType.relation "AssignableTo" ReflectliteType.assignableTo #[.agg #[.pointer (some ⟨12, 253, none⟩)], .iface 262 (.agg #[.pointer (some ⟨12, 30, none⟩)])]).run Tryz.prog w = .ok (.bool false) w := by kernel_rfl
theorem As.noAs (v : Value) (xT : TypeId) (w : World) : (Instr.typeAssert (.iface 253 v) xT 267 true).run Tryz.prog w = .ok (.tuple #[.nilIface, .bool false]) w := run_typeAssert_lacksB Tryz.underlying267 (by kernel_rfl) (by kernel_rfl) v xT w
theorem As.hasUnwrap (v : Value) (xT : TypeId) (w : World) : (Instr.typeAssert (.iface 253 v) xT 270 true).run Tryz.prog w = .ok (.tuple #[.iface 253 v, .bool true]) w := run_typeAssert_hasB Tryz.underlying270 (by kernel_rfl) v xT w
theorem As.methodUnwrap (p : Option Go.Addr) (w : World) : (Go.method 466 253 (.pointer p) "Unwrap").run Tryz.prog w = .ok (381, .pointer p) w := by kernel_rfl
set_option maxHeartbeats 4000000 in
theorem unwrap_any (b : Nat) (e : Int) (w : World) (hc : w.cell? ⟨b, 0, none⟩ = some (.int .i64 e)) :
    Calls Tryz.prog 381 #[.pointer (some ⟨b, 0, none⟩)] w fun ev w' => ev = .returned (.iface 30 (.int .i64 e)) ∧ w = w' := by
  go_enter Tryz.func381, Tryz.ntmps381
  go_wp2
  go_ret
  exact ⟨rfl, rfl⟩
set_option maxHeartbeats 4000000 in
theorem as_at (e : Int) (b : Nat) (t : Go.Addr) (old : Value) (w : World) (hg : w.cell? ⟨0, 0, none⟩ = some (.iface 262 (.agg #[.pointer (some ⟨12, 25, none⟩)]))) (ht0 : w.cell? t = some old) (hf0 : w.frozen? t = false) (hc : w.cell? ⟨b, 0, none⟩ = some (.int .i64 e)) :
    Calls Tryz.prog 48 #[.iface 253 (.pointer (some ⟨b, 0, none⟩)), .iface 102 (.pointer (some t))] w fun ev w' => ev = .returned (.bool true) ∧ w' = ((((w.alloc (.cells #[.pointer (some t)] 102)).alloc (.cells #[.pointer (some ⟨12, 102, none⟩), .pointer (some ⟨w.heap.size, 0, none⟩), .int .u64 150] 177)).alloc (.cells #[.pointer (some ⟨12, 102, none⟩), .pointer (some ⟨w.heap.size, 0, none⟩), .int .u64 150] 177)).alloc (.cells #[.int .i64 e] 30)).setCell t (.int .i64 e) := by
  have h6 := @run_callFunc_extern Tryz.prog 107 _ (fun args => ReflectliteValue.unpack (args.getD 0 (.tuple #[]))) Tryz.func107 (by kernel_rfl) (by kernel_rfl) (by kernel_rfl) (by kernel_rfl)
  have h7 := @run_callFunc_extern Tryz.prog 108 _ (ReflectliteValue.methodAny (ReflectliteValue.valueError "reflectlite.Value.Type" 0) (fun t _ _ _ => ReflectliteType.toType t)) Tryz.func108 (by kernel_rfl) (by kernel_rfl) (by kernel_rfl) (by kernel_rfl)
  have h8 := @run_callFunc_extern Tryz.prog 109 _ (ReflectliteValue.method (ReflectliteValue.valueError "reflectlite.Value.IsNil" 0) ReflectliteValue.isNil) Tryz.func109 (by kernel_rfl) (by kernel_rfl) (by kernel_rfl) (by kernel_rfl)
  have h27 := @run_callFunc_extern Tryz.prog 373 _ (ReflectliteType.abiMethod fun t => do pure (.int .u8 (← Rtype.kind t))) Tryz.func373 (by kernel_rfl) (by kernel_rfl) (by kernel_rfl) (by kernel_rfl)
  have h37 := @run_callFunc_extern Tryz.prog 385 _ (ReflectliteType.method ReflectliteType.elem) Tryz.func385 (by kernel_rfl) (by kernel_rfl) (by kernel_rfl) (by kernel_rfl)
  have h38 := @run_callFunc_extern Tryz.prog 386 _ (ReflectliteType.relation "Implements" ReflectliteType.implements_) Tryz.func386 (by kernel_rfl) (by kernel_rfl) (by kernel_rfl) (by kernel_rfl)
  have h10 := @run_callFunc_extern Tryz.prog 200 _ ReflectliteType.typeOf Tryz.func200 (by kernel_rfl) (by kernel_rfl) (by kernel_rfl) (by kernel_rfl)
  have h35 := @run_callFunc_extern Tryz.prog 383 _ (ReflectliteType.relation "AssignableTo" ReflectliteType.assignableTo) Tryz.func383 (by kernel_rfl) (by kernel_rfl) (by kernel_rfl) (by kernel_rfl)
  have h11 := @run_callFunc_extern Tryz.prog 201 _ (ReflectliteValue.method (ReflectliteValue.valueError "reflectlite.Value.Elem" 0) ReflectliteValue.elem) Tryz.func201 (by kernel_rfl) (by kernel_rfl) (by kernel_rfl) (by kernel_rfl)
  have h12 := @run_callFunc_extern Tryz.prog 202 _ ReflectliteValue.set Tryz.func202 (by kernel_rfl) (by kernel_rfl) (by kernel_rfl) (by kernel_rfl)
  have tO := As.typeOf25
  have mA := As.methodAssignableTo
  have a25 := As.assignable25
  have v25 := As.valueOf25
  have f6 := As.valueOf27
  have f7 := As.type27
  have mK := As.methodKind
  have mE := As.methodElem
  have mI := As.methodImplements
  have k27 := As.kind27
  have k25 := As.kind25
  have e27 := As.elem27
  have i25 := As.implements25
  have n8 := As.isNil27 ⟨w.heap.size, 0, none⟩ t ((w.alloc (.cells #[.pointer (some t)] 102)).alloc (.cells #[.pointer (some ⟨12, 102, none⟩), .pointer (some ⟨w.heap.size, 0, none⟩), .int .u64 150] 177)) (by simp)
  have hlt : 0 < w.heap.size := World.block_lt_of_cell? w _ hg
  have hg2 : ((w.alloc (.cells #[.pointer (some t)] 102)).alloc (.cells #[.pointer (some ⟨12, 102, none⟩), .pointer (some ⟨w.heap.size, 0, none⟩), .int .u64 150] 177)).cell? ⟨0, 0, none⟩ = some (.iface 262 (.agg #[.pointer (some ⟨12, 25, none⟩)])) := by
    rw [World.cell?_alloc_lt _ _ ⟨0, 0, none⟩ (by simp <;> omega), World.cell?_alloc_lt _ _ ⟨0, 0, none⟩ hlt]; exact hg
  have htl : t.block < w.heap.size := by
    rcases Nat.lt_or_ge t.block w.heap.size with h | h
    · exact h
    · simp [World.cell?, Array.getElem?_eq_none h] at ht0
  have el := As.elemV27 ⟨w.heap.size, 0, none⟩ t (((w.alloc (.cells #[.pointer (some t)] 102)).alloc (.cells #[.pointer (some ⟨12, 102, none⟩), .pointer (some ⟨w.heap.size, 0, none⟩), .int .u64 150] 177)).alloc (.cells #[.pointer (some ⟨12, 102, none⟩), .pointer (some ⟨w.heap.size, 0, none⟩), .int .u64 150] 177)) (by rw [World.cell?_alloc_lt _ _ ⟨w.heap.size, 0, none⟩ (by simp; omega)]; simp)
  have st := As.set25 t ⟨w.heap.size + 1 + 1 + 1, 0, none⟩ e old ((((w.alloc (.cells #[.pointer (some t)] 102)).alloc (.cells #[.pointer (some ⟨12, 102, none⟩), .pointer (some ⟨w.heap.size, 0, none⟩), .int .u64 150] 177)).alloc (.cells #[.pointer (some ⟨12, 102, none⟩), .pointer (some ⟨w.heap.size, 0, none⟩), .int .u64 150] 177)).alloc (.cells #[.int .i64 e] 30))
    (by rw [World.cell?_alloc_at _ _ _ _ (by simp)]; rfl)
    (by rw [World.cell?_alloc_lt _ _ t (by simp; omega), World.cell?_alloc_lt _ _ t (by simp; omega), World.cell?_alloc_lt _ _ t (by simp; omega), World.cell?_alloc_lt _ _ t htl]; exact ht0)
    (by rw [World.frozen?_alloc_old _ _ t (by simp; omega), World.frozen?_alloc_old _ _ t (by simp; omega), World.frozen?_alloc_old _ _ t (by simp; omega), World.frozen?_alloc_old _ _ t (Nat.ne_of_lt htl)]; exact hf0)
  have tA := As.typeOfAt
  have aA := As.assignableAt
  have nA := As.noAs
  have hU := As.hasUnwrap
  have mU := As.methodUnwrap
  have hbl : b < w.heap.size := World.block_lt_of_cell? w _ hc
  have hc2 : ((((w.alloc (.cells #[.pointer (some t)] 102)).alloc (.cells #[.pointer (some ⟨12, 102, none⟩), .pointer (some ⟨w.heap.size, 0, none⟩), .int .u64 150] 177)).alloc (.cells #[.pointer (some ⟨12, 102, none⟩), .pointer (some ⟨w.heap.size, 0, none⟩), .int .u64 150] 177))).cell? ⟨b, 0, none⟩ = some (.int .i64 e) := by
    rw [World.cell?_alloc_lt _ _ ⟨b, 0, none⟩ (by simp; omega), World.cell?_alloc_lt _ _ ⟨b, 0, none⟩ (by simp; omega), World.cell?_alloc_lt _ _ ⟨b, 0, none⟩ hbl]; exact hc
  go_enter Tryz.func48, Tryz.ntmps48
  go_wp2
  refine wp_loop_rounds 2 ?_
  rw [rounds_succ]
  go_wp2_with fail
  refine (unwrap_any b e _ hc2).mono ?_
  rintro ev w1 ⟨rfl, rfl⟩
  go_wp2_with fail
  rw [rounds_succ]
  go_wp2
  go_ret
  exact ⟨rfl, rfl⟩
end Go.Proofs.YtignjjnflcpiiaaGreatDoor
namespace Go.Proofs.YtignjjnflcpiiaaGreatDoor
open Go Go.RowKit Go.Extern.Stop Go.Stop Go.Extern
set_option maxHeartbeats 4000000 in
set_option maxRecDepth 100000 in
theorem tell_any (v : Value) (n : Int) (w : World) (hv : ErrV w v n) (h : Gr w) : Calls Tryz.prog 12 #[v] w fun e w' => e = .returned (.int .i64 n) ∧ Below w.heap.size w w' := by
  have hA := (h.next ((Below.refl _ w).alloc (Nat.le_refl _) (.cells #[.int .i64 0] 30))).et
  have hn := Blk.new w #[.int .i64 0] 30
  rcases hv with ⟨rfl, rfl⟩ | rfl | ⟨b, p, rfl, hc, _⟩
  · go_enter Tryz.func12, Tryz.ntmps12
    go_wp2
    go_ret
    exact ⟨rfl, Below.refl _ _⟩
  · have H := as_hit n ⟨w.heap.size, 0, none⟩ (.int .i64 0) (w.alloc (.cells #[.int .i64 0] 30)) hA (hn.cell 0) (hn.free 0)
    go_enter Tryz.func12, Tryz.ntmps12
    go_wp2_with fail
    refine H.mono ?_
    rintro e w1 ⟨rfl, rfl⟩
    go_wp2_with fail
    go_ret
    exact ⟨rfl, by go_grown⟩
  · have hlt : b < w.heap.size := World.block_lt_of_cell? w _ hc
    have H := as_at n b ⟨w.heap.size, 0, none⟩ (.int .i64 0) (w.alloc (.cells #[.int .i64 0] 30)) hA (hn.cell 0) (hn.free 0) (by rw [World.cell?_alloc_lt _ _ ⟨b, 0, none⟩ hlt]; exact hc)
    go_enter Tryz.func12, Tryz.ntmps12
    go_wp2_with fail
    refine H.mono ?_
    rintro e w1 ⟨rfl, rfl⟩
    go_wp2_with fail
    go_ret
    exact ⟨rfl, by go_grown⟩
end Go.Proofs.YtignjjnflcpiiaaGreatDoor
namespace Go.Proofs.YtignjjnflcpiiaaGreatDoor
open Go Go.RowKit
structure BelowO (lb B : Nat) (w w' : World) : Prop where
  os : w'.os = w.os
  tape : w'.tape = w.tape
  output : w'.output = w.output
  size : w.heap.size ≤ w'.heap.size
  block : ∀ k, k < B → k ≠ lb → w'.heap[k]? = w.heap[k]?
theorem BelowO.refl (lb B : Nat) (w : World) : BelowO lb B w w := ⟨rfl, rfl, rfl, Nat.le_refl _, fun _ _ _ => rfl⟩
theorem BelowO.of {lb B : Nat} {w w' : World} (h : Below B w w') : BelowO lb B w w' := ⟨h.os, h.tape, h.output, h.size, fun k hk _ => h.block k hk⟩
theorem BelowO.trans {lb B : Nat} {a b c : World} (h : BelowO lb B a b) (k : BelowO lb B b c) : BelowO lb B a c :=
  ⟨k.os.trans h.os, k.tape.trans h.tape, k.output.trans h.output, Nat.le_trans h.size k.size, fun i hi hn => (k.block i hi hn).trans (h.block i hi hn)⟩
theorem BelowO.mono {lb B B' : Nat} {w w' : World} (h : BelowO lb B w w') (hB : B' ≤ B) : BelowO lb B' w w' := ⟨h.os, h.tape, h.output, h.size, fun k hk hn => h.block k (Nat.lt_of_lt_of_le hk hB) hn⟩
theorem BelowO.set {lb B j : Nat} {a w : World} (h : BelowO lb B a w) (u : Value) : BelowO lb B a (w.setCell ⟨lb, j, none⟩ u) :=
  h.trans ⟨rfl, rfl, rfl, by simp [World.setCell], fun k _ hn => Below.heap_setCell _ _ _ _ (by simpa using hn)⟩
theorem BelowO.own {lb B : Nat} {a w : World} (h : BelowO lb B a w) {p : Go.Addr} (hp : B ≤ p.block) (u : Value) : BelowO lb B a (w.setCell p u) := h.trans (BelowO.of ((Below.refl B w).setCell hp u))
theorem BelowO.shut {lb B : Nat} {w w' : World} (h : BelowO lb B w w') (hl : B ≤ lb) : Below B w w' := ⟨h.os, h.tape, h.output, h.size, fun k hk => h.block k hk (by omega)⟩
theorem BelowO.cell {lb B : Nat} {w w' : World} (h : BelowO lb B w w') {p : Go.Addr} (hp : p.block < B) (hn : p.block ≠ lb) : w'.cell? p = w.cell? p := by
  unfold World.cell?; rw [h.block p.block hp hn]
theorem BelowO.next {lb B : Nat} {a b c : World} (h : BelowO lb B a b) (hb : Below b.heap.size b c) (hB : B ≤ b.heap.size) : BelowO lb B a c := h.trans (BelowO.of (hb.mono hB))
theorem Blk.nextO {w w' : World} {lb b : Nat} {c : Array Value} {t : TypeId} (h : Blk w b c t) (hb : BelowO lb w.heap.size w w') (hn : b ≠ lb) : Blk w' b c t := (hb.block b h.lt hn).trans h
theorem Gr.nextO {lb : Nat} {w w' : World} (h : Gr w) (hb : BelowO lb w.heap.size w w') (hl : 3 < lb) : Gr w' := by
  have hs := h.size
  obtain ⟨m, hm⟩ := h.g.maxLen
  refine ⟨⟨m, (hb.cell (p := ⟨_, 0, none⟩) hs (by simp only; omega)).trans hm⟩, fun k hk => ?_, fun k hk => ?_, ?_⟩
  · exact (hb.cell (p := ⟨1, k, none⟩) (by simp only; omega) (by simp only; omega)).trans (h.signs k hk)
  · exact (hb.cell (p := ⟨2, k, none⟩) (by simp only; omega) (by simp only; omega)).trans (h.ours k hk)
  · exact (hb.cell (p := ⟨0, 0, none⟩) (by simp only; omega) (by simp only; omega)).trans h.et
theorem Gr.keep {w w' : World} (h : Gr w) (hk : ∀ b, b ≤ 3 → w'.heap[b]? = w.heap[b]?) : Gr w' := by
  obtain ⟨m, hm⟩ := h.g.maxLen
  have go : ∀ b k, b ≤ 3 → w'.cell? ⟨b, k, none⟩ = w.cell? ⟨b, k, none⟩ := fun b k hb => by simp only [World.cell?]; rw [hk b hb]
  exact ⟨⟨m, (go _ _ (by decide)).trans hm⟩, fun k hk => (go _ _ (by decide)).trans (h.signs k hk), fun k hk => (go _ _ (by decide)).trans (h.ours k hk), (go _ _ (by decide)).trans h.et⟩
theorem OwnG.setO {α : Type} {e size : Nat} {cs : α → List Value} {w : World} {B : Nat} {v : Value} {xs : List α} (h : OwnG e size cs w B v xs) {a : Go.Addr} (ha : a.block < B) (u : Value) : OwnG e size cs (w.setCell a u) B v xs := by
  rcases h with ⟨h3, h4⟩
  refine ⟨h3, ?_⟩
  rcases h4 with h4 | ⟨g, cap, cur, hv, hg, hh, r⟩
  · exact Or.inl h4
  · exact Or.inr ⟨g, cap, cur, hv, hg, (Below.heap_setCell w a u g (by omega)).trans hh, r⟩
def RdB {α : Type} (size : Nat) (cs : α → List Value) (P : Nat → Prop) (w : World) (v : Value) (xs : List α) : Prop :=
  ∃ a cap, v = .slice a xs.length cap ∧ (0 < xs.length → ∃ b, a = some ⟨b, 0, none⟩ ∧ P b ∧ b < w.heap.size ∧ ∀ j, j < xs.length * size → w.cell? ⟨b, j, none⟩ = (xs.flatMap cs)[j]?)
theorem RdB.rd {α : Type} {size : Nat} {cs : α → List Value} {P : Nat → Prop} {w : World} {v : Value} {xs : List α} (h : RdB size cs P w v xs) : RdG size cs w v xs := by
  obtain ⟨a, cap, hv, hc⟩ := h
  exact ⟨a, cap, hv, fun h0 => by obtain ⟨b, h1, _, h2, h3⟩ := hc h0; exact ⟨b, h1, h2, h3⟩⟩
theorem RdB.weak {α : Type} {size : Nat} {cs : α → List Value} {P Q : Nat → Prop} {w : World} {v : Value} {xs : List α} (h : RdB size cs P w v xs) (hP : ∀ b, P b → b < w.heap.size → Q b) : RdB size cs Q w v xs := by
  obtain ⟨a, cap, hv, hc⟩ := h
  exact ⟨a, cap, hv, fun h0 => by obtain ⟨b, h1, hb, h2, h3⟩ := hc h0; exact ⟨b, h1, hP b hb h2, h2, h3⟩⟩
theorem RdB.keep {α : Type} {size : Nat} {cs : α → List Value} {P : Nat → Prop} {w w' : World} {v : Value} {xs : List α} (h : RdB size cs P w v xs) (hs : w.heap.size ≤ w'.heap.size) (hk : ∀ b, P b → b < w.heap.size → w'.heap[b]? = w.heap[b]?) : RdB size cs P w' v xs := by
  obtain ⟨a, cap, hv, hc⟩ := h
  refine ⟨a, cap, hv, fun h0 => ?_⟩
  obtain ⟨b, ha, hP, hlt, hcell⟩ := hc h0
  refine ⟨b, ha, hP, Nat.lt_of_lt_of_le hlt hs, fun j hj => ?_⟩
  rw [← hcell j hj]
  simp only [World.cell?]
  rw [hk b hP hlt]
theorem RdB.next {α : Type} {size : Nat} {cs : α → List Value} {P : Nat → Prop} {w w' : World} {v : Value} {xs : List α} (h : RdB size cs P w v xs) (hb : Below w.heap.size w w') : RdB size cs P w' v xs := h.keep hb.size fun b _ hlt => hb.block b hlt
theorem RdB.nextO {α : Type} {size : Nat} {cs : α → List Value} {P : Nat → Prop} {lb : Nat} {w w' : World} {v : Value} {xs : List α} (h : RdB size cs P w v xs) (hb : BelowO lb w.heap.size w w') (hl : ¬ P lb) : RdB size cs P w' v xs := h.keep hb.size fun b hP hlt => hb.block b hlt (fun e => hl (e ▸ hP))
theorem heap_set (w : World) (a : Go.Addr) (u : Value) (b : Nat) (h : b ≠ a.block) : (w.setCell a u).heap[b]? = w.heap[b]? := Below.heap_setCell w a u b h
theorem RdB.set {α : Type} {size : Nat} {cs : α → List Value} {P : Nat → Prop} {w : World} {v : Value} {xs : List α} (h : RdB size cs P w v xs) {a : Go.Addr} (u : Value) (hl : ¬ P a.block) : RdB size cs P (w.setCell a u) v xs := h.keep (by simp [World.setCell]) fun b hP _ => heap_set w a u b (fun e => hl (e ▸ hP))
theorem RdB.nil {α : Type} (size : Nat) (cs : α → List Value) (P : Nat → Prop) (w : World) (a : Option Go.Addr) (cap : Nat) : RdB size cs P w (.slice a 0 cap) ([] : List α) := ⟨a, cap, rfl, fun h => by simp at h⟩
theorem OwnG.rdB {α : Type} {e size : Nat} {cs : α → List Value} (hsz : 0 < size) (hcs : ∀ x, (cs x).length = size) {w : World} {B : Nat} {v : Value} {xs : List α} (h : OwnG e size cs w B v xs) : RdB size cs (fun b => B ≤ b ∧ v.ownBlock = some b) w v xs := by
  have h2 := h
  unfold OwnG at h2
  obtain ⟨a, cap, hv, hc⟩ := OwnG.rd hsz hcs h
  refine ⟨a, cap, hv, fun h0 => ?_⟩
  obtain ⟨b, ha, hlt, hcell⟩ := hc h0
  refine ⟨b, ha, ?_, hlt, hcell⟩
  rcases h2.2 with ⟨hv2, h3⟩ | ⟨g, cap2, cur, hv2, hg, _⟩
  · rw [hv2] at hv; injection hv with h4 h5; omega
  · have hv3 := hv2
    rw [hv2, ha] at hv; injection hv with h4 _ _; injection h4 with h4; injection h4 with h4
    subst h4
    exact ⟨hg, by rw [hv3]; rfl⟩
theorem OwnG.nextO {α : Type} {e size : Nat} {cs : α → List Value} {w w' : World} {B lb : Nat} {v : Value} {xs : List α} (h : OwnG e size cs w B v xs) (hb : BelowO lb w.heap.size w w') (hl : lb < B) : OwnG e size cs w' B v xs := by
  rcases h with ⟨h3, h4⟩
  refine ⟨h3, ?_⟩
  rcases h4 with h4 | ⟨g, cap, cur, hv, hg, hh, r⟩
  · exact Or.inl h4
  · have hlt : g < w.heap.size := by
      rcases Nat.lt_or_ge g w.heap.size with h' | h'
      · exact h'
      · rw [Array.getElem?_eq_none h'] at hh; cases hh
    exact Or.inr ⟨g, cap, cur, hv, hg, (hb.block g hlt (by omega)).trans hh, r⟩
theorem OwnG.mono {α : Type} {e size : Nat} {cs : α → List Value} {w : World} {B B' : Nat} {v : Value} {xs : List α} (h : OwnG e size cs w B v xs) (hB : B' ≤ B) : OwnG e size cs w B' v xs := by
  rcases h with ⟨h3, h4⟩
  refine ⟨h3, ?_⟩
  rcases h4 with h4 | ⟨g, cap, cur, hv, hg, r⟩
  · exact Or.inl h4
  · exact Or.inr ⟨g, cap, cur, hv, Nat.le_trans hB hg, r⟩
theorem OwnG.own_lt {α : Type} {e size : Nat} {cs : α → List Value} {w : World} {B : Nat} {v : Value} {xs : List α} (h : OwnG e size cs w B v xs) (g : Nat) (hg : v.ownBlock = some g) : g < w.heap.size := by
  rcases h.2 with ⟨hv, _⟩ | ⟨g', cap, cur, hv, _, hh, _⟩
  · rw [hv] at hg; cases hg
  · rw [hv] at hg; injection hg with hg
    simp only at hg
    subst hg
    rcases Nat.lt_or_ge g' w.heap.size with h' | h'
    · exact h'
    · rw [Array.getElem?_eq_none h'] at hh; cases hh
theorem OwnG.own_ge {α : Type} {e size : Nat} {cs : α → List Value} {w : World} {B : Nat} {v : Value} {xs : List α} (h : OwnG e size cs w B v xs) (g : Nat) (hg : v.ownBlock = some g) : B ≤ g := by
  rcases h.2 with ⟨hv, _⟩ | ⟨g', cap, cur, hv, hB, _⟩
  · rw [hv] at hg; cases hg
  · rw [hv] at hg; injection hg with hg
    simp only at hg
    omega
theorem appG2 {α : Type} {e size : Nat} {cs : α → List Value} {t bytes : Nat} {z : Value} (hcs : ∀ x, (cs x).length = size) (hone : ∀ x, ∀ u ∈ cs x, u.oneCell' = true)
    (hinfo : (Tryz.prog.info? e).map (fun i => (i.zero, i.size, i.bytes)) = some (some z, size, bytes)) (hzs : z.cells.size = size) (hsz : 0 < size) (ht : Tryz.prog.underlying t = some (.slice e))
    {Q : Exit → Act → World → Prop} {ops : Array Oper} {rest : List Oper} {o : Oper} {a : Act} {w : World} (hgd : o.guard = none) (s x : Operand)
    (ho : o.op = .call { callee := .builtin .append, args := #[s, x], argTypes := #[t, t] }) (B : Nat) (v : Value) (xs ys : List α) (ad : Go.Addr) (m c : Nat) (hm : m = ys.length)
    (hs : a.eval s = v) (hown : OwnG e size cs w B v xs) (hx : a.eval x = .slice (some ad) m c) (hc : ∀ j u, (ys.flatMap cs)[j]? = some u → w.cell? (ad.add j) = some u) (hn : (xs.length + ys.length) * bytes ≤ 140737488355328) (hn2 : xs.length + ys.length ≤ maxLen) (hbase : B ≤ w.heap.size)
    (h : ∀ v' w', OwnG e size cs w' B v' (xs ++ ys) → w.grownBy w' v.ownBlock → Below B w w' → (v'.ownBlock = v.ownBlock ∨ v'.ownBlock = some w.heap.size) → wpList Tryz.prog ops Q rest (a.put o.dst v') w') : wpList Tryz.prog ops Q (o :: rest) a w := by
  subst hm
  obtain ⟨i0, hi, hz0, hz1, hz2⟩ := info_parts hinfo
  refine wpList_append_own_at (w := w) hgd s x t ho B e i0 z size bytes ht hi hz0 hz1 hz2 hzs hsz v xs.length _ hs hown ad ys.length c (ys.flatMap cs) hx (flat_len hcs ys) hc ?_ hn2 hn hbase ?_
  · intro u hu
    obtain ⟨y, _, hy⟩ := List.mem_flatMap.1 hu
    exact hone y u hy
  · intro v' w' h1 h2 _ h4
    refine h v' w' ?_ h2 ((Below.refl B w).grown h2 hbase fun k hk => OwnG.own_ge hown k hk) h4
    unfold OwnG
    rw [List.flatMap_append, List.length_append]; exact h1
theorem RdB.grown {α : Type} {size : Nat} {cs : α → List Value} {P : Nat → Prop} {w w' : World} {v : Value} {xs : List α} {row : Option Nat} (h : RdB size cs P w v xs) (hg : w.grownBy w' row) (hP : ∀ b, P b → some b ≠ row) : RdB size cs P w' v xs := h.keep hg.size fun b hb hlt => hg.block b hlt (hP b hb)
theorem RdG.opens {α : Type} {size : Nat} {cs : α → List Value} (hcs : ∀ x, (cs x).length = size) {w : World} {v : Value} {xs : List α} (h : RdG size cs w v xs) : ∃ a cap, v = .slice a xs.length cap ∧ ∀ k (hk : k < xs.length), ∃ b, a = some ⟨b, 0, none⟩ ∧ b < w.heap.size ∧ ∀ i, i < size → w.cell? ⟨b, k * size + i, none⟩ = (cs xs[k])[i]? := by
  obtain ⟨a, cap, hv, hc⟩ := h
  refine ⟨a, cap, hv, fun k hk => ?_⟩
  obtain ⟨b, ha, hlt, hcell⟩ := hc (by omega)
  refine ⟨b, ha, hlt, fun i hi => ?_⟩
  have h1 : (k + 1) * size ≤ xs.length * size := Nat.mul_le_mul_right _ hk
  rw [Nat.succ_mul] at h1
  rw [hcell _ (by omega), flat_at hcs xs k hk i hi]
theorem RdB.at {α : Type} {size : Nat} {cs : α → List Value} {P : Nat → Prop} (hcs : ∀ x, (cs x).length = size) {w : World} {a : Option Go.Addr} {n cap : Nat} {xs : List α} (h : RdB size cs P w (.slice a n cap) xs) (k : Nat) (hk : k < xs.length) : ∃ b, a = some ⟨b, 0, none⟩ ∧ P b ∧ b < w.heap.size ∧ ∀ i, i < size → w.cell? ⟨b, k * size + i, none⟩ = (cs xs[k])[i]? := by
  obtain ⟨a', cap', hv, hc⟩ := h
  injection hv with e1 e2 e3
  subst e1
  obtain ⟨b, ha, hP, hlt, hcell⟩ := hc (by omega)
  refine ⟨b, ha, hP, hlt, fun i hi => ?_⟩
  have h1 : (k + 1) * size ≤ xs.length * size := Nat.mul_le_mul_right _ hk
  rw [Nat.succ_mul] at h1
  rw [hcell _ (by omega), flat_at hcs xs k hk i hi]
abbrev Slc := Option Go.Addr × Nat × Nat
def slv (s : Slc) : Value := .slice s.1 s.2.1 s.2.2
abbrev PRaw := Slc × Bs × Bool × Slc
def prtC (r : PRaw) : List Value := [slv r.1, .string ⟨r.2.1.toArray⟩, .bool r.2.2.1, slv r.2.2.2]
theorem prtC_len (r : PRaw) : (prtC r).length = 4 := rfl
theorem prtC_one (r : PRaw) : ∀ u ∈ prtC r, u.oneCell' = true := fun u hu => by
  simp [prtC, slv] at hu
  rcases hu with rfl | rfl | rfl | rfl <;> rfl
theorem infoPrt : (Tryz.prog.info? 44).map (fun i => (i.zero, i.size, i.bytes)) = some (some (.agg #[.slice none 0 0, .string ByteArray.empty, .bool false, .slice none 0 0]), 4, 72) := by kernel_rfl
def RdPrt (P : Nat → Prop) : Nat → World → PRaw → Prt → Prop
  | 0, _, _, _ => False
  | n + 1, w, r, .mk h b m ps => r.2.1 = b ∧ r.2.2.1 = m ∧ RdB 2 fldC P w (slv r.1) h ∧ ∃ raws : List PRaw, RdB 4 prtC P w (slv r.2.2.2) raws ∧ raws.length = ps.length ∧ ∀ k (h1 : k < raws.length) (h2 : k < ps.length), RdPrt P n w raws[k] ps[k]
theorem RdPrt.keep {P : Nat → Prop} {w w' : World} (hs : w.heap.size ≤ w'.heap.size) (hk : ∀ b, P b → b < w.heap.size → w'.heap[b]? = w.heap[b]?) : ∀ {n : Nat} {r : PRaw} {p : Prt}, RdPrt P n w r p → RdPrt P n w' r p
  | 0, _, _, h => h.elim
  | _ + 1, _, .mk _ _ _ _, ⟨h1, h2, h3, raws, h4, h5, h6⟩ => ⟨h1, h2, h3.keep hs hk, raws, h4.keep hs hk, h5, fun k k1 k2 => RdPrt.keep hs hk (h6 k k1 k2)⟩
theorem RdPrt.next {P : Nat → Prop} {n : Nat} {w w' : World} {r : PRaw} {p : Prt} (h : RdPrt P n w r p) (hb : Below w.heap.size w w') : RdPrt P n w' r p := RdPrt.keep hb.size (fun b _ hlt => hb.block b hlt) h
theorem RdPrt.nextO {P : Nat → Prop} {lb n : Nat} {w w' : World} {r : PRaw} {p : Prt} (h : RdPrt P n w r p) (hb : BelowO lb w.heap.size w w') (hl : ¬ P lb) : RdPrt P n w' r p := RdPrt.keep hb.size (fun b hP hlt => hb.block b hlt (fun e => hl (e ▸ hP))) h
theorem RdPrt.set {P : Nat → Prop} {n : Nat} {w : World} {r : PRaw} {p : Prt} (h : RdPrt P n w r p) {a : Go.Addr} (u : Value) (hl : ¬ P a.block) : RdPrt P n (w.setCell a u) r p := RdPrt.keep (by simp [World.setCell]) (fun b hP _ => heap_set w a u b (fun e => hl (e ▸ hP))) h
theorem RdPrt.weak {P Q : Nat → Prop} {w : World} (hP : ∀ b, P b → b < w.heap.size → Q b) : ∀ {n : Nat} {r : PRaw} {p : Prt}, RdPrt P n w r p → RdPrt Q n w r p
  | 0, _, _, h => h.elim
  | _ + 1, _, .mk _ _ _ _, ⟨h1, h2, h3, raws, h4, h5, h6⟩ => ⟨h1, h2, h3.weak hP, raws, h4.weak hP, h5, fun k k1 k2 => RdPrt.weak hP (h6 k k1 k2)⟩
theorem RdPrt.up {P : Nat → Prop} : ∀ {n : Nat} {w : World} {r : PRaw} {p : Prt}, RdPrt P n w r p → RdPrt P (n + 1) w r p
  | 0, _, _, _, h => h.elim
  | _ + 1, _, _, .mk _ _ _ _, ⟨h1, h2, h3, raws, h4, h5, h6⟩ => ⟨h1, h2, h3, raws, h4, h5, fun k k1 k2 => (h6 k k1 k2).up⟩
theorem RdPrt.grown {P : Nat → Prop} {n : Nat} {w w' : World} {r : PRaw} {p : Prt} {row : Option Nat} (h : RdPrt P n w r p) (hg : w.grownBy w' row) (hP : ∀ b, P b → some b ≠ row) : RdPrt P n w' r p := RdPrt.keep hg.size (fun b hb hlt => hg.block b hlt (hP b hb)) h
def ErrN (w : World) (v : Value) (n : Int) : Prop := v = .iface 30 (.int .i64 n) ∨ ∃ b p, v = .iface 253 (.pointer (some ⟨b, 0, none⟩)) ∧ w.cell? ⟨b, 0, none⟩ = some (.int .i64 n) ∧ w.cell? ⟨b, 1, none⟩ = some (.int .i64 p)
theorem ErrN.v {w : World} {v : Value} {n : Int} (h : ErrN w v n) : ErrV w v n := Or.inr h
theorem ErrV.n {w : World} {v : Value} {n : Int} (h : ErrV w v n) (hn : n ≠ 0) : ErrN w v n := by
  rcases h with ⟨_, h⟩ | h
  · exact absurd h hn
  · exact h
theorem ErrN.some {w : World} {v : Value} {n : Int} (h : ErrN w v n) : ∃ t x, v = .iface t x := by
  rcases h with h | ⟨b, p, h, _⟩
  · exact ⟨_, _, h⟩
  · exact ⟨_, _, h⟩
end Go.Proofs.YtignjjnflcpiiaaGreatDoor
