import Derived.Test.YtchekgnacodolaaGreatDoorM5C
import Derived.WalkKit
import Derived.LaidEql
import Derived.Stop.Asserts
import Derived.RowKitTokens
import Derived.Test.YtchekgnacodolaaGreatDoorM5A
import Derived.Test.YtchekgnacodolaaGreatDoorXparsenested
import Derived.Test.YtchekgnacodolaaGreatDoorXtermDepth
import Derived.Test.YtchekgnacodolaaGreatDoorXtermSize
import Derived.Test.YtchekgnacodolaaGreatDoorLexC
import Derived.Test.YtchekgnacodolaaGreatDoorM5B
/- chancel/parse.number: what errors.As and errors.Is tell of a fault. (The walks of errors.As, errors.Is: lines of the kit's worked examples, turned to this program.) -/
namespace Go.Proofs.YtchekgnacodolaaGreatDoor.X
open Go.RowKit Go.Extern.Stop Go.Stop Go.Extern
set_option linter.unusedSimpArgs false
set_option linter.unusedVariables false


theorem As.valueOf27 (t : Addr) (w : World) : (ReflectliteValue.unpack (.iface 147 (.pointer (some t)))).run Tryz.prog w
    = .ok (.agg #[.pointer (some ⟨12, 147, none⟩), .pointer (some ⟨w.heap.size, 0, none⟩), .int .u64 150]) (w.alloc (.cells #[.pointer (some t)] 147)) := by kernel_rfl
theorem As.type27 (a : Addr) (w : World) : (ReflectliteValue.methodAny (ReflectliteValue.valueError "reflectlite.Value.Type" 0) (fun t _ _ _ => ReflectliteType.toType t) #[.agg #[.pointer (some ⟨12, 147, none⟩), .pointer (some a), .int .u64 150]]).run Tryz.prog w
    = .ok (.iface 240 (.agg #[.pointer (some ⟨12, 147, none⟩)])) w := by kernel_rfl
theorem As.methodKind (h : Value) (w : World) : (Go.method 412 240 (.agg #[h]) "Kind").run Tryz.prog w = .ok (238, h) w := by kernel_rfl
theorem As.kind27 (w : World) : ((ReflectliteType.abiMethod fun t => (fun a : Nat => Value.int IntKind.u8 (a : Int)) <$> Rtype.kind t) #[.pointer (some ⟨12, 147, none⟩)]).run Tryz.prog w = .ok (.int .u8 22) w := by kernel_rfl
theorem As.kind25 (w : World) : ((ReflectliteType.abiMethod fun t => (fun a : Nat => Value.int IntKind.u8 (a : Int)) <$> Rtype.kind t) #[.pointer (some ⟨12, 140, none⟩)]).run Tryz.prog w = .ok (.int .u8 22) w := by kernel_rfl


theorem rlm (z : Sem Value) (f : TypeId → Addr → Nat → Nat → Sem Value) (v : Value) :
    ReflectliteValue.method z f #[v] = (do match ← ReflectliteValue.parts v with | none => z | some (t, a, fl) => f t a fl (fl % 32)) := rfl
theorem As.parts27 (a : Addr) (w : World) : (ReflectliteValue.parts (.agg #[.pointer (some ⟨12, 147, none⟩), .pointer (some a), .int .u64 150])).run Tryz.prog w = .ok (some (147, a, 150)) w := by kernel_rfl

theorem As.isNil27 (a p : Addr) (W : World) (ha : W.cell? a = some (.pointer (some p))) :
    (ReflectliteValue.method (ReflectliteValue.valueError "reflectlite.Value.IsNil" 0) ReflectliteValue.isNil #[.agg #[.pointer (some ⟨12, 147, none⟩), .pointer (some a), .int .u64 150]]).run Tryz.prog W = .ok (.bool false) W := by
  rw [rlm]
  simp only [Sem.run_bind, As.parts27, Result.andThen]
  simp [ReflectliteValue.isNil, loadVar, isAgg, underlying, Tryz.underlying147, ha, Result.andThen]

theorem As.methodElem (h : Value) (w : World) : (Go.method 412 240 (.agg #[h]) "Elem").run Tryz.prog w = .ok (254, .agg #[h]) w := by kernel_rfl
theorem As.methodImplements (h : Value) (w : World) : (Go.method 412 240 (.agg #[h]) "Implements").run Tryz.prog w = .ok (255, .agg #[h]) w := by kernel_rfl
theorem As.methodAssignableTo (h : Value) (w : World) : (Go.method 412 240 (.agg #[h]) "AssignableTo").run Tryz.prog w = .ok (252, .agg #[h]) w := by kernel_rfl
theorem As.elem27 (w : World) : (ReflectliteType.method ReflectliteType.elem #[.agg #[.pointer (some ⟨12, 147, none⟩)]]).run Tryz.prog w = .ok (.iface 240 (.agg #[.pointer (some ⟨12, 140, none⟩)])) w := by kernel_rfl
theorem As.implements25 (w : World) : (ReflectliteType.relation "Implements" ReflectliteType.implements_ #[.agg #[.pointer (some ⟨12, 140, none⟩)], .iface 240 (.agg #[.pointer (some ⟨12, 94, none⟩)])]).run Tryz.prog w = .ok (.bool true) w := by kernel_rfl
theorem As.typeOf25 (v : Value) (w : World) : (ReflectliteType.typeOf #[.iface 140 v]).run Tryz.prog w = .ok (.iface 240 (.agg #[.pointer (some ⟨12, 140, none⟩)])) w := by kernel_rfl
theorem As.assignable25 (w : World) : (ReflectliteType.relation "AssignableTo" ReflectliteType.assignableTo #[.agg #[.pointer (some ⟨12, 140, none⟩)], .iface 240 (.agg #[.pointer (some ⟨12, 140, none⟩)])]).run Tryz.prog w = .ok (.bool true) w := by kernel_rfl
theorem As.valueOf25 (e : Addr) (w : World) : (ReflectliteValue.unpack (.iface 140 (.pointer (some e)))).run Tryz.prog w
    = .ok (.agg #[.pointer (some ⟨12, 140, none⟩), .pointer (some ⟨w.heap.size, 0, none⟩), .int .u64 150]) (w.alloc (.cells #[.pointer (some e)] 140)) := by kernel_rfl

theorem As.elemOf27 (w : World) : (Rtype.elem? 147).run Tryz.prog w = .ok (some 140) w := by kernel_rfl
theorem As.mk25 (p : Addr) (w : World) : (ReflectliteValue.mk 140 p ReflectliteValue.flagAddr).run Tryz.prog w = .ok (.agg #[.pointer (some ⟨12, 140, none⟩), .pointer (some p), .int .u64 406]) w := by kernel_rfl

theorem As.elemV27 (a p : Addr) (W : World) (ha : W.cell? a = some (.pointer (some p))) :
    (ReflectliteValue.method (ReflectliteValue.valueError "reflectlite.Value.Elem" 0) ReflectliteValue.elem #[.agg #[.pointer (some ⟨12, 147, none⟩), .pointer (some a), .int .u64 150]]).run Tryz.prog W
      = .ok (.agg #[.pointer (some ⟨12, 140, none⟩), .pointer (some p), .int .u64 406]) W := by
  rw [rlm]
  simp only [Sem.run_bind, As.parts27, Result.andThen]
  simp [ReflectliteValue.elem, loadVar, isAgg, underlying, Tryz.underlying147, ha, Result.andThen, As.elemOf27, As.mk25]
theorem rls (v x : Value) : ReflectliteValue.set #[v, x] = (do
    let (some (dst, a, fl), some (src, b, _)) := (← ReflectliteValue.parts v, ← ReflectliteValue.parts x)
      | unsupported (.noEntry "extern/(internal/reflectlite.Value).Set.zeroValue")
    if fl / ReflectliteValue.flagAddr % 2 == 0 then unsupported (.noEntry "extern/(internal/reflectlite.Value).Set.unaddressable")
    let val ← loadVar src b
    if ← Rtype.directlyAssignable dst src then storeVar dst a val
    else if ← Rtype.implements dst src then
      if (← Rtype.kind src) == 20 then
        match val with
        | .nilIface => unsupported (.noEntry "extern/reflectlite: a nil value of one interface type handed on as a value of another")
        | _ => storeVar dst a val
      else storeVar dst a (.iface src val)
    else panicString ("reflectlite.Set: value of type " ++ (← Rtype.spelt src) ++ " is not assignable to type " ++ (← Rtype.spelt dst))
    pure (.tuple #[])) := rfl
theorem As.parts25a (a : Addr) (w : World) : (ReflectliteValue.parts (.agg #[.pointer (some ⟨12, 140, none⟩), .pointer (some a), .int .u64 406])).run Tryz.prog w = .ok (some (140, a, 406)) w := by kernel_rfl
theorem As.parts25 (a : Addr) (w : World) : (ReflectliteValue.parts (.agg #[.pointer (some ⟨12, 140, none⟩), .pointer (some a), .int .u64 150])).run Tryz.prog w = .ok (some (140, a, 150)) w := by kernel_rfl
theorem As.direct25 (w : World) : (Rtype.directlyAssignable 140 140).run Tryz.prog w = .ok true w := by kernel_rfl
theorem As.size25 (w : World) : (sizeOf 140).run Tryz.prog w = .ok 1 w := by kernel_rfl

theorem As.set25 (ta b e : Addr) (old : Value) (W : World) (hb : W.cell? b = some (.pointer (some e))) (ht : W.cell? ta = some old) (hf : W.frozen? ta = false) :
    (ReflectliteValue.set #[.agg #[.pointer (some ⟨12, 140, none⟩), .pointer (some ta), .int .u64 406], .agg #[.pointer (some ⟨12, 140, none⟩), .pointer (some b), .int .u64 150]]).run Tryz.prog W
      = .ok (.tuple #[]) (W.setCell ta (.pointer (some e))) := by
  rw [rls]
  simp only [Sem.run_bind, As.parts25a, As.parts25, Result.andThen]
  simp [ReflectliteValue.flagAddr, loadVar, isAgg, underlying, Tryz.underlying140, hb, Result.andThen, As.direct25, storeVar, Value.cells, storeCells, Addr.add]
  rw [run_store Tryz.prog W ta _ _ (by rfl)]
  simp [ht, hf]

set_option maxRecDepth 100000 in
set_option maxHeartbeats 4000000 in
theorem as_hit (e t : Addr) (old : Value) (w : World) (hg : w.cell? ⟨3, 0, none⟩ = some (.iface 240 (.agg #[.pointer (some ⟨12, 94, none⟩)]))) (ht0 : w.cell? t = some old) (hf0 : w.frozen? t = false) :
    Calls Tryz.prog 88 #[.iface 140 (.pointer (some e)), .iface 147 (.pointer (some t))] w fun ev w' => ev = .returned (.bool true) ∧ w' = ((((w.alloc (.cells #[.pointer (some t)] 147)).alloc (.cells #[.pointer (some ⟨12, 147, none⟩), .pointer (some ⟨w.heap.size, 0, none⟩), .int .u64 150] 192)).alloc (.cells #[.pointer (some ⟨12, 147, none⟩), .pointer (some ⟨w.heap.size, 0, none⟩), .int .u64 150] 192)).alloc (.cells #[.pointer (some e)] 140)).setCell t (.pointer (some e)) := by
  have h6 := @run_callFunc_extern Tryz.prog 133 _ (fun args => ReflectliteValue.unpack (args.getD 0 (.tuple #[]))) Tryz.func133 (by kernel_rfl) (by kernel_rfl) (by kernel_rfl) (by kernel_rfl)
  have h7 := @run_callFunc_extern Tryz.prog 134 _ (ReflectliteValue.methodAny (ReflectliteValue.valueError "reflectlite.Value.Type" 0) (fun t _ _ _ => ReflectliteType.toType t)) Tryz.func134 (by kernel_rfl) (by kernel_rfl) (by kernel_rfl) (by kernel_rfl)
  have h8 := @run_callFunc_extern Tryz.prog 135 _ (ReflectliteValue.method (ReflectliteValue.valueError "reflectlite.Value.IsNil" 0) ReflectliteValue.isNil) Tryz.func135 (by kernel_rfl) (by kernel_rfl) (by kernel_rfl) (by kernel_rfl)
  have h27 := @run_callFunc_extern Tryz.prog 238 _ (ReflectliteType.abiMethod fun t => do pure (.int .u8 (← Rtype.kind t))) Tryz.func238 (by kernel_rfl) (by kernel_rfl) (by kernel_rfl) (by kernel_rfl)
  have h37 := @run_callFunc_extern Tryz.prog 254 _ (ReflectliteType.method ReflectliteType.elem) Tryz.func254 (by kernel_rfl) (by kernel_rfl) (by kernel_rfl) (by kernel_rfl)
  have h38 := @run_callFunc_extern Tryz.prog 255 _ (ReflectliteType.relation "Implements" ReflectliteType.implements_) Tryz.func255 (by kernel_rfl) (by kernel_rfl) (by kernel_rfl) (by kernel_rfl)
  have h10 := @run_callFunc_extern Tryz.prog 137 _ ReflectliteType.typeOf Tryz.func137 (by kernel_rfl) (by kernel_rfl) (by kernel_rfl) (by kernel_rfl)
  have h35 := @run_callFunc_extern Tryz.prog 252 _ (ReflectliteType.relation "AssignableTo" ReflectliteType.assignableTo) Tryz.func252 (by kernel_rfl) (by kernel_rfl) (by kernel_rfl) (by kernel_rfl)
  have h11 := @run_callFunc_extern Tryz.prog 179 _ (ReflectliteValue.method (ReflectliteValue.valueError "reflectlite.Value.Elem" 0) ReflectliteValue.elem) Tryz.func179 (by kernel_rfl) (by kernel_rfl) (by kernel_rfl) (by kernel_rfl)
  have h12 := @run_callFunc_extern Tryz.prog 180 _ ReflectliteValue.set Tryz.func180 (by kernel_rfl) (by kernel_rfl) (by kernel_rfl) (by kernel_rfl)
  have tO := As.typeOf25
  have mA := As.methodAssignableTo
  have a25 := As.assignable25
  have v25 := As.valueOf25
  have f6 := As.valueOf27
  have f7 := As.type27
  have mK := As.methodKind
  have mE := As.methodElem
  have mI := As.methodImplements
  have k27 := As.kind27
  have k25 := As.kind25
  have e27 := As.elem27
  have i25 := As.implements25
  have n8 := As.isNil27 ⟨w.heap.size, 0, none⟩ t ((w.alloc (.cells #[.pointer (some t)] 147)).alloc (.cells #[.pointer (some ⟨12, 147, none⟩), .pointer (some ⟨w.heap.size, 0, none⟩), .int .u64 150] 192)) (by simp)
  have hlt : 3 < w.heap.size := cell_lt hg
  have hg2 : ((w.alloc (.cells #[.pointer (some t)] 147)).alloc (.cells #[.pointer (some ⟨12, 147, none⟩), .pointer (some ⟨w.heap.size, 0, none⟩), .int .u64 150] 192)).cell? ⟨3, 0, none⟩ = some (.iface 240 (.agg #[.pointer (some ⟨12, 94, none⟩)])) := by
    rw [World.cell?_alloc_lt _ _ ⟨3, 0, none⟩ (by simp; omega), World.cell?_alloc_lt _ _ ⟨3, 0, none⟩ hlt]; exact hg
  have htl : t.block < w.heap.size := cell_lt ht0
  have el := As.elemV27 ⟨w.heap.size, 0, none⟩ t (((w.alloc (.cells #[.pointer (some t)] 147)).alloc (.cells #[.pointer (some ⟨12, 147, none⟩), .pointer (some ⟨w.heap.size, 0, none⟩), .int .u64 150] 192)).alloc (.cells #[.pointer (some ⟨12, 147, none⟩), .pointer (some ⟨w.heap.size, 0, none⟩), .int .u64 150] 192)) (by rw [World.cell?_alloc_lt _ _ ⟨w.heap.size, 0, none⟩ (by simp; omega)]; simp)
  have st := As.set25 t ⟨w.heap.size + 1 + 1 + 1, 0, none⟩ e old ((((w.alloc (.cells #[.pointer (some t)] 147)).alloc (.cells #[.pointer (some ⟨12, 147, none⟩), .pointer (some ⟨w.heap.size, 0, none⟩), .int .u64 150] 192)).alloc (.cells #[.pointer (some ⟨12, 147, none⟩), .pointer (some ⟨w.heap.size, 0, none⟩), .int .u64 150] 192)).alloc (.cells #[.pointer (some e)] 140))
    (by rw [World.cell?_alloc_at _ _ _ _ (by simp)]; rfl)
    (by rw [World.cell?_alloc_lt _ _ t (by simp; omega), World.cell?_alloc_lt _ _ t (by simp; omega), World.cell?_alloc_lt _ _ t (by simp; omega), World.cell?_alloc_lt _ _ t htl]; exact ht0)
    (by rw [World.frozen?_alloc_old _ _ t (by simp; omega), World.frozen?_alloc_old _ _ t (by simp; omega), World.frozen?_alloc_old _ _ t (by simp; omega), World.frozen?_alloc_old _ _ t (Nat.ne_of_lt htl)]; exact hf0)
  go_enter Tryz.func88, Tryz.ntmps88
  go_wp2
  refine wp_loop_rounds 1 ?_
  rw [rounds_succ]
  go_wp2
  go_ret
  exact ⟨rfl, rfl⟩
end Go.Proofs.YtchekgnacodolaaGreatDoor.X
/- chancel/parse.number of a fault. (The walk of errors.Is: lines of the kit's worked example, turned to this program.) -/
namespace Go.Proofs.YtchekgnacodolaaGreatDoor.X
open Go.RowKit Go.Proofs.YtchekgnacodolaaGreatDoorW.PrintWords Go.Proofs.YtchekgnacodolaaGreatDoorW.PrintLast Go.Proofs.YtchekgnacodolaaGreatDoorW.PrintMore Go.Extern.Stop Go.Stop Go.Extern
set_option linter.unusedSimpArgs false
set_option linter.unusedVariables false

theorem Is.isTypeOf (v : Value) (w : World) : (Extern.ReflectliteType.typeOf #[.iface 283 v]).run Tryz.prog w = .ok (.iface 240 (.agg #[.pointer (some ⟨12, 283, none⟩)])) w := by kernel_rfl
theorem Is.comparable (w : World) : (callFunc 253 #[.agg #[.pointer (some ⟨12, 283, none⟩)]]).run Tryz.prog w = .ok (.value (.bool true)) w := by kernel_rfl
theorem Is.isMethodComparable (v : Value) (w : World) : (Go.method 412 240 v "Comparable").run Tryz.prog w = .ok (253, v) w := by kernel_rfl
theorem Is.isComp : (Tryz.prog.info? 283).map (·.comparable) = some true := by kernel_rfl
theorem Is.isSize : (Tryz.prog.info? 285).map (·.size) = some 1 := by kernel_rfl
theorem Is.noIsW (v : Value) (xT : TypeId) (w : World) : (Instr.typeAssert (.iface 140 v) xT 252 true).run Tryz.prog w = .ok (.tuple #[.nilIface, .bool false]) w := run_typeAssert_lacksB Tryz.underlying252 (by kernel_rfl) (by kernel_rfl) v xT w
theorem Is.hasUnwrapW (v : Value) (xT : TypeId) (w : World) : (Instr.typeAssert (.iface 140 v) xT 247 true).run Tryz.prog w = .ok (.tuple #[.iface 140 v, .bool true]) w := run_typeAssert_hasB Tryz.underlying247 (by kernel_rfl) v xT w
theorem Is.methodUnwrap (v : Value) (w : World) : (Go.method 412 140 v "Unwrap").run Tryz.prog w = .ok (242, v) w := by kernel_rfl
set_option maxRecDepth 100000 in
set_option maxHeartbeats 4000000 in
theorem is_fault (pb : Nat) (b : Addr) (w : World) (h1 : w.cell? ⟨pb, 1, none⟩ = some (.iface 283 (.pointer (some b)))) :
    Calls Tryz.prog 89 #[.iface 140 (.pointer (some ⟨pb, 0, none⟩)), .iface 283 (.pointer (some b))] w fun e w' => e = .returned (.bool true) ∧ w' = w := by
  obtain ⟨i, hi, hcmp⟩ := Option.map_eq_some_iff.1 Is.isComp
  obtain ⟨j, hj, hjs⟩ := Option.map_eq_some_iff.1 Is.isSize
  have h8 := @run_callFunc_extern Tryz.prog 137 _ Extern.ReflectliteType.typeOf Tryz.func137 (by kernel_rfl) (by kernel_rfl) (by kernel_rfl) (by kernel_rfl)
  have tT := Is.isTypeOf
  have cT := Is.comparable
  have mR := Is.isMethodComparable
  have nW := Is.noIsW
  have uW := Is.hasUnwrapW
  have mU := Is.methodUnwrap
  have heq := run_eql_iface_ptr_same (P := Tryz.prog) w b Tryz.underlying94 Tryz.underlying283 hi hcmp hj
  have hty := run_eql_iface_types (P := Tryz.prog) 140 283 (.pointer (some ⟨pb, 0, none⟩)) (.pointer (some b)) Tryz.underlying94 (by decide) w
  go_enter Tryz.func89, Tryz.ntmps89
  go_wp2
  refine wp_loop_rounds 2 ?_
  rw [rounds_succ]
  go_wp2
  rw [rounds_succ]
  go_wp2
  go_ret
  exact ⟨rfl, rfl⟩

set_option maxRecDepth 100000 in
set_option maxHeartbeats 4000000 in
/-- number: of a fault that wraps the grammar's error. -/
theorem numberC (b : Nat) (n : Int) (w : World) (hG : GL w) (E : Value) (hE : w.cell? ⟨0, 0, none⟩ = some E) (hb : Own w b #[.int .i64 n, E] 188) :
    Calls Tryz.prog 51 #[.iface 140 (.pointer (some ⟨b, 0, none⟩))] w fun e w' => e = .returned (.int .i64 2) ∧ Below w.heap.size w w' := by
  obtain ⟨a, ha⟩ := hG.gram
  rw [hE] at ha
  injection ha with ha
  subst ha
  have hW : Below w.heap.size w (w.alloc (.cells #[.pointer none] 140)) := below_alloc (Below.refl _ _) _
  have hg := (hG.below hW).etyp
  rw [show typeHandle Tryz.prog 94 = .pointer (some ⟨12, 94, none⟩) by kernel_rfl] at hg
  have KA := Lib.hid (as_hit ⟨b, 0, none⟩ ⟨w.heap.size, 0, none⟩ (.pointer none) _ hg ((Own.new w #[.pointer none] 140).cell 0) ((Own.new w #[.pointer none] 140).fz 0))
  have hlt := hb.lt
  have hbc : w.cell? ⟨b, 1, none⟩ = some (.iface 283 (.pointer (some a))) := hb.cell 1
  clear hg
  go_enter Tryz.func51, Tryz.ntmps51
  go_wp2_with fail
  refine KA.out.mono ?_
  rintro e w1 ⟨rfl, hw⟩
  have F1 : Own w1 w.heap.size #[.pointer (some ⟨b, 0, none⟩)] 140 := by
    rw [hw]
    exact blk_set (((((Own.new w #[.pointer none] 140).alloc _).alloc _).alloc _).alloc _) 0 _
  have B1 : Below w.heap.size w w1 := by
    rw [hw]
    exact (below_alloc (below_alloc (below_alloc (below_alloc (below_alloc (Below.refl _ _) _) _) _) _) _).setCell (Nat.le_refl _) _
  have c0 := F1.cell 0
  have e1 := pw_cell_below B1 hE
  have b1 := pw_cell_below B1 hbc
  have KI := Lib.hid (is_fault b a w1 b1)
  have HB := Lib.hid B1
  clear hw F1 B1 KA hG hW hb hE
  go_wp2_with fail
  refine KI.out.mono ?_
  rintro e w2 ⟨rfl, rfl⟩
  go_wp2_with fail
  go_ret
  exact ⟨rfl, HB.out⟩
end Go.Proofs.YtchekgnacodolaaGreatDoor.X
/- What chancel/parse.nested, chancel/term.Depth, chancel/term.Size compute, in plain words. -/
namespace Go.Proofs.YtchekgnacodolaaGreatDoor.X
open Go.RowKit Go.Proofs.YtchekgnacodolaaGreatDoorW.PrintWords
set_option linter.unusedSimpArgs false
set_option linter.unusedVariables false

theorem mx_eq (a b : Int) : mx a b = max a b := by unfold mx; omega
theorem rdTok_at (l : List TokT) (i : Nat) (h : i < l.length) : rd_T106 l (i : Int) = l[i] := by
  unfold rd_T106; simp [List.getD_eq_getElem?_getD, List.getElem?_eq_getElem h]
theorem rdTm_at (l : List Tm) (i : Nat) (h : i < l.length) : rd_T26 l (i : Int) = l[i] := by
  unfold rd_T26; simp [List.getD_eq_getElem?_getD, List.getElem?_eq_getElem h]

theorem nested_loop (l : List TokT) (hl : l.length ≤ 1099511627776) (d : Nat) : ∀ (k i : Nat) (n m : Int), i ≤ l.length → l.length - i = d → d < k → -(i : Int) ≤ n → n ≤ i → 
    parse_nested.l0 k n m l (l.length : Int) (i : Int) = some ((l.drop i).foldl nestStep (n, m)).2 := by
  induction d with
  | zero =>
    intro k i n m h1 h2 h3 h4 h5
    obtain ⟨k, rfl⟩ : ∃ j, k = j + 1 := ⟨k - 1, by omega⟩
    simp only [parse_nested.l0]
    rw [if_neg (by omega), List.drop_of_length_le (by omega)]; rfl
  | succ d ih =>
    intro k i n m h1 h2 h3 h4 h5
    obtain ⟨k, rfl⟩ : ∃ j, k = j + 1 := ⟨k - 1, by omega⟩
    have hlt : i < l.length := by omega
    simp only [parse_nested.l0]
    rw [if_pos (by omega), if_pos (by omega), if_pos (by omega), rdTok_at l i hlt, List.drop_eq_getElem_cons hlt, List.foldl_cons]
    have e1 : wrap64 ((i : Int) + 1) = ((i + 1 : Nat) : Int) := by rw [wrap_id (by omega) (by omega)]; rfl
    have e2 : wrap64 (n + 1) = n + 1 := wrap_id (by omega) (by omega)
    have e3 : wrap64 (n - 1) = n - 1 := wrap_id (by omega) (by omega)
    rw [e1, e2, e3, mx_eq, mx_eq, mx_eq]
    clear e1 e2 e3
    have ihn := fun (n m : Int) (h : -((i + 1 : Nat) : Int) ≤ n) (h' : n ≤ ((i + 1 : Nat) : Int)) => ih k (i + 1) n m (by omega) (by omega) (by omega) h h'
    generalize l[i] = t
    unfold nestStep
    by_cases h4' : t.f0 = 4
    · rw [if_pos h4', if_neg (show ¬ (t.f0 ≠ 4) from fun h => h h4')]
      rw [← ByteArray.toList_eq]
      by_cases h40 : t.f1.toList = [40]
      · rw [if_pos h40]; simp only [if_pos h40]
        exact ihn (n + 1) (max m (n + 1)) (by omega) (by omega)
      · rw [if_neg h40]; simp only [if_neg h40]
        by_cases h41 : t.f1.toList = [41]
        · rw [if_pos h41]; simp only [if_pos h41]
          exact ihn (n - 1) (max m (n - 1)) (by omega) (by omega)
        · rw [if_neg h41]; simp only [if_neg h41]
          exact ihn n (max m n) (by omega) (by omega)
    · rw [if_neg h4', if_pos h4']
      exact ihn n m (by omega) (by omega)
theorem nested_eq (k : Nat) (l : List TokT) (hl : l.length ≤ 1099511627776) (hk : l.length < k) : parse_nested.f k l = some (nestL l) := by
  unfold parse_nested.f nestL
  have := nested_loop l hl l.length k 0 0 0 (by omega) (by omega) hk (by omega) (by omega)
  simpa using this
theorem size_mem {l : List Tm} {t : Tm} (h : t ∈ l) : sizeT t ≤ sizesT l := by
  induction l with
  | nil => cases h
  | cons x r ih =>
    rw [sizesT]
    rcases List.mem_cons.1 h with rfl | h
    · omega
    · have := ih h; omega
theorem sizes_len (l : List Tm) : l.length ≤ sizesT l := by
  induction l with
  | nil => simp
  | cons x r ih => have := size_pos x; rw [sizesT, List.length_cons]; omega
theorem sizes_app (a b : List Tm) : sizesT (a ++ b) = sizesT a + sizesT b := by
  induction a with
  | nil => simp [sizesT]
  | cons x r ih => rw [List.cons_append, sizesT, sizesT, ih]; omega
theorem sizes_drop (l : List Tm) (i : Nat) : sizesT (l.drop i) ≤ sizesT l := by
  have := sizes_app (l.take i) (l.drop i)
  rw [List.take_append_drop] at this; omega
theorem depth_le_size (t : Tm) : depthT t ≤ sizeT t := by
  induction t using Tm.ind with
  | h a b c l ih =>
    rw [depthT, sizeT]
    have : depthsT l ≤ sizesT l := by
      induction l with
      | nil => simp [depthsT, sizesT]
      | cons x r ihr =>
        have h1 := ih x (by simp)
        have h2 := ihr fun t ht => ih t (by simp [ht])
        rw [depthsT, sizesT]; omega
    omega
theorem size_loop (l : List Tm) (hl : sizesT l ≤ 9223372036854775806) (ih : ∀ t ∈ l, ∀ k, 2 * sizeT t ≤ k → term_Size.f k t.f0 t.f1 t.f2 t.f3 = some (sizeT t : Int)) (d : Nat) : ∀ (k i : Nat) (a : Nat), i ≤ l.length → l.length - i = d → 2 * sizesT (l.drop i) + 1 ≤ k → a + sizesT (l.drop i) ≤ 9223372036854775807 →
    term_Size.l0 k (a : Int) l (l.length : Int) (i : Int) = some ((a + sizesT (l.drop i) : Nat) : Int) := by
  have hlen := sizes_len l
  induction d with
  | zero =>
    intro k i a h1 h2 h3 h4
    obtain ⟨k, rfl⟩ : ∃ j, k = j + 1 := ⟨k - 1, by omega⟩
    simp only [term_Size.l0]
    rw [if_neg (by omega), List.drop_of_length_le (by omega)]
    rfl
  | succ d ihd =>
    intro k i a h1 h2 h3 h4
    obtain ⟨k, rfl⟩ : ∃ j, k = j + 1 := ⟨k - 1, by omega⟩
    have hlt : i < l.length := by omega
    have hd := List.drop_eq_getElem_cons hlt
    rw [hd, sizesT] at h3 h4 ⊢
    have hp := size_pos (l[i]'hlt)
    simp only [term_Size.l0]
    rw [if_pos (by omega), if_pos (by omega), if_pos (by omega), rdTm_at l i hlt, ih (l[i]'hlt) (List.getElem_mem hlt) k (by omega)]
    simp only [Option.bind_some]
    have e1 : wrap64 ((i : Int) + 1) = ((i + 1 : Nat) : Int) := by rw [wrap_id (by omega) (by omega)]; rfl
    have e2 : wrap64 ((a : Int) + (sizeT (l[i]'hlt) : Int)) = ((a + sizeT (l[i]'hlt) : Nat) : Int) := by rw [wrap_id (by omega) (by omega)]; rfl
    rw [e1, e2]
    clear e1 e2
    rw [ihd k (i + 1) (a + sizeT (l[i]'hlt)) (by omega) (by omega) (by omega) (by omega), Nat.add_assoc]
/-- term.Size. -/
theorem size_eq (t : Tm) : sizeT t ≤ 9223372036854775807 → ∀ k, 2 * sizeT t ≤ k → term_Size.f k t.f0 t.f1 t.f2 t.f3 = some (sizeT t : Int) := by
  induction t using Tm.ind with
  | h a b c l ih =>
    intro hs k hk
    rw [sizeT] at hs hk ⊢
    obtain ⟨k, rfl⟩ : ∃ j, k = j + 1 := ⟨k - 1, by omega⟩
    have hloop := size_loop l (by omega) (fun t ht k hk => ih t ht (by have := size_mem ht; omega) k hk) l.length k 0 1 (by omega) (by omega) (by rw [List.drop_zero]; omega) (by rw [List.drop_zero]; omega)
    rw [List.drop_zero] at hloop
    rw [term_Size.f]
    exact hloop
theorem depth_loop (l : List Tm) (hl : sizesT l ≤ 9223372036854775806) (ih : ∀ t ∈ l, ∀ k, 2 * sizeT t ≤ k → term_Depth.f k t.f0 t.f1 t.f2 t.f3 = some (depthT t : Int)) (d : Nat) : ∀ (k i : Nat) (a : Nat), i ≤ l.length → l.length - i = d → 2 * sizesT (l.drop i) + 1 ≤ k → a ≤ 9223372036854775806 →
    term_Depth.l0 k (a : Int) l (l.length : Int) (i : Int) = some ((max a (depthsT (l.drop i)) + 1 : Nat) : Int) := by
  have hlen := sizes_len l
  induction d with
  | zero =>
    intro k i a h1 h2 h3 h4
    obtain ⟨k, rfl⟩ : ∃ j, k = j + 1 := ⟨k - 1, by omega⟩
    simp only [term_Depth.l0]
    rw [if_neg (by omega), List.drop_of_length_le (by omega), wrap_id (by omega) (by omega)]
    simp [depthsT]
  | succ d ihd =>
    intro k i a h1 h2 h3 h4
    obtain ⟨k, rfl⟩ : ∃ j, k = j + 1 := ⟨k - 1, by omega⟩
    have hlt : i < l.length := by omega
    have hd := List.drop_eq_getElem_cons hlt
    have hsd := sizes_drop l i
    rw [hd] at hsd ⊢
    rw [hd] at h3
    rw [sizesT] at h3 hsd
    rw [depthsT]
    have hp := size_pos (l[i]'hlt)
    have hds := depth_le_size (l[i]'hlt)
    simp only [term_Depth.l0]
    rw [if_pos (by omega), if_pos (by omega), if_pos (by omega), rdTm_at l i hlt, ih (l[i]'hlt) (List.getElem_mem hlt) k (by omega)]
    simp only [Option.bind_some]
    have e1 : wrap64 ((i : Int) + 1) = ((i + 1 : Nat) : Int) := by rw [wrap_id (by omega) (by omega)]; rfl
    have e2 : mx (a : Int) (depthT (l[i]'hlt) : Int) = ((max a (depthT (l[i]'hlt)) : Nat) : Int) := by rw [mx_eq]; omega
    rw [e1, e2]
    clear e1 e2
    rw [ihd k (i + 1) _ (by omega) (by omega) (by omega) (by omega), Nat.max_assoc]
/-- term.Depth. -/
theorem depth_eq (t : Tm) : sizeT t ≤ 9223372036854775807 → ∀ k, 2 * sizeT t ≤ k → term_Depth.f k t.f0 t.f1 t.f2 t.f3 = some (depthT t : Int) := by
  induction t using Tm.ind with
  | h a b c l ih =>
    intro hs k hk
    rw [sizeT] at hs hk
    rw [depthT]
    obtain ⟨k, rfl⟩ : ∃ j, k = j + 1 := ⟨k - 1, by omega⟩
    have hloop := depth_loop l (by omega) (fun t ht k hk => ih t ht (by have := size_mem ht; omega) k hk) l.length k 0 0 (by omega) (by omega) (by rw [List.drop_zero]; omega) (by omega)
    rw [List.drop_zero, Nat.zero_max] at hloop
    rw [term_Depth.f]
    exact hloop
/-- A right token is short. -/
theorem isKey_size {d : ByteArray} (h : isKey d = true) : d.size ≤ 16 := by
  have h1 := (isKey_iff d).1 h
  have : keyWords.all (fun m => decide (m.size ≤ 16)) = true := by decide +kernel
  simpa using List.all_eq_true.1 this _ h1
theorem right_size {t : TokT} (h : rightT t = true) : t.f1.size ≤ 16 := by
  have hc : t.f0 = 1 ∨ t.f0 = 3 ∨ t.f0 = 2 ∨ t.f0 = 4 := by
    unfold rightT at h
    by_cases h1 : t.f0 = 1 ∨ t.f0 = 3
    · rcases h1 with h1 | h1
      · exact .inl h1
      · exact .inr (.inl h1)
    · rw [if_neg h1] at h
      by_cases h2 : t.f0 = 2
      · exact .inr (.inr (.inl h2))
      · rw [if_neg h2] at h
        by_cases h4 : t.f0 = 4
        · exact .inr (.inr (.inr h4))
        · rw [if_neg h4] at h; cases h
  rcases hc with h1 | h1 | h1 | h1
  · have hw := (name_right h h1).1
    unfold wordB at hw
    rw [Bool.and_eq_true] at hw
    have hn := hw.1
    rw [size_len]
    cases hd : t.f1.data.toList with
    | nil => simp
    | cons b r => rw [hd] at hn; simp only [nameL, Bool.and_eq_true, decide_eq_true_eq] at hn; exact hn.2
  · unfold rightT at h
    rw [if_pos (Or.inr h1)] at h
    simp only [Bool.and_eq_true, beq_iff_eq] at h
    unfold wordTok at h
    rw [B_of] at h
    by_cases hk : isKey t.f1 = true
    · exact isKey_size hk
    · rw [if_neg hk] at h
      have := h.1.2
      rw [h1] at this
      simp only at this
      omega
  · obtain ⟨h0, h2, he⟩ := num_right2 h h1
    rw [he]
    have : (numTok t.f2).f1.size = (itoaF t.f2).length := B_size _
    rw [this, itoaF_dec h0 h2, dec_F _ (by omega)]
    exact Nat.le_trans (decF_len _ _) (by decide)
  · unfold rightT at h
    rw [if_neg (by omega), if_neg (by omega), if_pos h1] at h
    simp only [Bool.and_eq_true, beq_iff_eq] at h
    have hm := (markL_mem h.1).1
    have : (markWords.map (·.data.toList)).all (fun m => decide (m.length ≤ 16)) = true := by decide +kernel
    have := List.all_eq_true.1 this _ hm
    rw [size_len]
    simpa using this
theorem W_right {l : List TokT} (h : l.all rightT = true) : W l ≤ 17 * l.length := by
  induction l with
  | nil => simp [W]
  | cons x r ih =>
    rw [List.all_cons, Bool.and_eq_true] at h
    have := right_size h.1
    have := ih h.2
    rw [W, List.length_cons]; omega
theorem parse_size {l s : List TokT} {t : Tm} (hr : l.all rightT = true) (hp : parseL l = some (t, s)) : sizeT t ≤ 17 * l.length := by
  obtain ⟨_, _, hg⟩ := run_good _ .all l 0 hr rfl t s ((parseL_run l).trans (by rw [hp]))
  have := hg.n
  have := W_right hr
  omega
end Go.Proofs.YtchekgnacodolaaGreatDoor.X
/- chancel/parse.Toks and chancel/parse.Parse. -/
namespace Go.Proofs.YtchekgnacodolaaGreatDoor.X
open Go.RowKit Go.Proofs.YtchekgnacodolaaGreatDoorW.PrintWords Go.Proofs.YtchekgnacodolaaGreatDoorW.PrintLast Go.Proofs.YtchekgnacodolaaGreatDoorW.PrintMore
set_option linter.unusedSimpArgs false
set_option linter.unusedVariables false

theorem Own.keep {b : Nat} {w w1 : World} {cs : Array Value} {T : TypeId} (h : Own w b cs T) (hb : Below w.heap.size w w1) : Own w1 b cs T := blk_below h hb
theorem results_toks {fn : Func} (h : fn.results = #[.cell 2 26, .tmp 3]) {tmps : Array Value} {w : World} {N : Nat} {a b c d : Value} {r : Value} (hp : tmps.getD 2 undef = .pointer (some ⟨N, 0, none⟩)) (hq : tmps.getD 3 undef = r) (h2 : Own w N #[a, b, c, d] 26) :
    (results fn tmps).run Tryz.prog w = .ok (.tuple #[.agg #[a, b, c, d], r]) w := by
  have hp' : tmps[2]?.getD undef = .pointer (some ⟨N, 0, none⟩) := by simpa using hp
  have hq' : tmps[3]?.getD undef = r := by simpa using hq
  have d0 : w.cell? ⟨N, 0, none⟩ = some a := h2.cell 0
  have d1 : w.cell? ⟨N, 1, none⟩ = some b := h2.cell 1
  have d2 : w.cell? ⟨N, 2, none⟩ = some c := h2.cell 2
  have d3 : w.cell? ⟨N, 3, none⟩ = some d := h2.cell 3
  simp [results, h, hp', hq', go_sem, d0, d1, d2, d3]
theorem ret_toks {fn : Func} {N : Nat} {tmps : Array Value} {w : World} {a b c d r : Value} {R : Ending → World → Prop} (h : fn.results = #[.cell 2 26, .tmp 3]) (hp : tmps.getD 2 undef = .pointer (some ⟨N, 0, none⟩)) (hq : tmps.getD 3 undef = r) (h2 : Own w N #[a, b, c, d] 26) (hR : R (.returned (.tuple #[.agg #[a, b, c, d], r])) w) :
    bodyPost Tryz.prog fn R Exit.ret { tmps := tmps, defers := [] } w := bodyPost_ret (results_toks h hp hq h2) rfl hR
/-- What Toks tells. -/
def Told (w : World) (r : Tm × Int) (e : Ending) (w' : World) : Prop := ∃ v, e = .returned (.tuple #[v, .int .i64 r.2]) ∧ TmV w.heap.size w' r.1 v ∧ Below w.heap.size w w'
theorem told_zero {w w1 : World} (n : Int) (hb : Below w.heap.size w w1) : Told w (zTm, n) (.returned (.tuple #[.agg #[.int .i64 0, .string ⟨#[]⟩, .int .i64 0, .slice none 0 0], .int .i64 n])) w1 :=
  ⟨_, rfl, TmV.leaf _ _ _ _ _, hb⟩
set_option maxRecDepth 100000 in
set_option maxHeartbeats 4000000 in
theorem toksC (l : List TokT) (A : Option Addr) (c : Nat) (hl : l.length ≤ 1099511627776) (hs : ∀ t ∈ l, t.f1.size ≤ 281474976710656) (w : World) (hG : GL w) (hr : Reads w A c l) :
    Calls Tryz.prog 19 #[.slice A l.length c] w fun e w' => Told w (toksR l) e w' := by
  have hW := below_alloc (Below.refl w.heap.size w) (.cells zeroV 26)
  have hG := hG.below hW
  have hr := hr.below hW
  have K1 := Lib.hid (rightC l A c hs _ hG hr)
  have B2 := Own.new w zeroV 26
  have HW := Lib.hid hW
  clear hW
  cases h1 : l.all rightT with
  | false =>
    have ht : toksR l = (zTm, 2) := by unfold toksR; rw [if_pos h1]
    have HT := Lib.hid ht
    rw [h1] at K1
    clear hG hr h1 ht
    go_enter Tryz.func19, Tryz.ntmps19
    go_wp2_with fail
    refine K1.out.mono ?_
    rintro e w1 ⟨rfl, hb⟩
    have B2 := B2.keep hb
    have HB := Lib.hid (HW.out.trans (hb.mono (by simp)))
    have d0 := B2.cell 0
    have d1 := B2.cell 1
    have d2 := B2.cell 2
    have d3 := B2.cell 3
    have dz := fun i => B2.fz i
    clear hb
    go_wp2_with fail
    refine ret_toks rfl rfl rfl (Own.four B2) ?_
    rw [HT.out]
    exact told_zero _ (four_set (w3size := 0) HB.out)
  | true =>
    rw [h1] at K1
    by_cases h2 : 200 < nestL l
    · have hd : decide (200 < nestL l) = true := by simpa using h2
      have HT := Lib.hid (show toksR l = (zTm, 1) by unfold toksR; rw [if_neg (by rw [h1]; decide), if_pos h2])
      have HG := Lib.hid hG
      have HR := Lib.hid hr
      clear hG hr h1 h2
      go_enter Tryz.func19, Tryz.ntmps19
      go_wp2_with fail
      refine K1.out.mono ?_
      rintro e w1 ⟨rfl, hb⟩
      have B2 := B2.keep hb
      have hr := HR.out.below hb
      have K2 := Lib.hid (parse_nested.calls (l.length + 1) A c l (nestL l) w1 hr.1 hr.2 (nested_eq _ l hl (by omega)))
      have HB := Lib.hid (HW.out.trans (hb.mono (by simp)))
      clear hb hr
      go_wp2_with fail
      refine K2.out.mono ?_
      rintro e w2 ⟨rfl, hb⟩
      have B2 := B2.keep hb
      have HB := Lib.hid (HB.out.trans (hb.mono HB.out.size))
      have d0 := B2.cell 0
      have d1 := B2.cell 1
      have d2 := B2.cell 2
      have d3 := B2.cell 3
      have dz := fun i => B2.fz i
      clear hb
      go_wp2_with fail
      refine ret_toks rfl rfl rfl (Own.four B2) ?_
      rw [HT.out]
      exact told_zero _ (four_set (w3size := 0) HB.out)
    · have hd : decide (200 < nestL l) = false := by simpa using h2
      obtain ⟨Ea, hE⟩ := hG.gram
      have hne : (toksR l) = match parseL l with | none => (zTm, 2) | some (t, s) => if s ≠ [] then (zTm, 2) else if 200 < depthT t ∨ 10000 < sizeT t then (zTm, 1) else (t, 0) := by
        unfold toksR; rw [if_neg (by rw [h1]; decide), if_neg h2]; rcases parseL l with _ | ⟨t, s⟩ <;> rfl
      have HG := Lib.hid hG
      have HR := Lib.hid hr
      rcases hres : parseL l with _ | ⟨t, _ | ⟨x, s'⟩⟩
      all_goals rw [hres] at hne
      · skip
        have HNE := Lib.hid hne
        have HRES := Lib.hid hres
        have HE := Lib.hid hE
        clear hE hne hG hr h1 h2 hres
        go_enter Tryz.func19, Tryz.ntmps19
        go_wp2_with fail
        refine K1.out.mono ?_
        rintro e w1 ⟨rfl, hb⟩
        have B2 := B2.keep hb
        have hr := HR.out.below hb
        have hG := HG.out.below hb
        have HE := pw_cell_below hb HE.out
        have K2 := Lib.hid (parse_nested.calls (l.length + 1) A c l (nestL l) w1 hr.1 hr.2 (nested_eq _ l hl (by omega)))
        have HB := Lib.hid (HW.out.trans (hb.mono (by simp)))
        have HG := Lib.hid hG
        have HR := Lib.hid hr
        have HE := Lib.hid HE
        clear hb hr hG
        go_wp2_with fail
        refine K2.out.mono ?_
        rintro e w2 ⟨rfl, hb⟩
        have B2 := B2.keep hb
        have hr := HR.out.below hb
        have HE := pw_cell_below hb HE.out
        have HG := Lib.hid (HG.out.below hb)
        have HB := Lib.hid (HB.out.trans (hb.mono HB.out.size))
        have KR := readC A c l _ _ w2 hr HE
        rw [HRES.out] at KR
        have KR := Lib.hid KR
        have HE := Lib.hid HE
        clear hb hr
        go_wp2_with fail
        refine KR.out.mono ?_
        rintro e w3 ⟨hb, b, n, rfl, hf⟩
        have B2 := (B2.keep hb).alloc (.cells zeroV 26)
        have hA := below_alloc (Below.refl w3.heap.size w3) (.cells zeroV 26)
        have HB := Lib.hid (HB.out.trans ((hb.trans (hA.mono hb.size)).mono HB.out.size))
        have KN := Lib.hid (numberC b n _ ((HG.out.below hb).below hA) _ (pw_cell_below hA (pw_cell_below hb HE.out)) (Own.alloc hf (.cells zeroV 26)))
        clear hb hf hA
        go_wp2_with fail
        refine KN.out.mono ?_
        rintro e w4 ⟨rfl, hb⟩
        have B2 := B2.keep hb
        have HB := Lib.hid (HB.out.trans (hb.mono HB.out.size))
        have d0 := B2.cell 0
        have d1 := B2.cell 1
        have d2 := B2.cell 2
        have d3 := B2.cell 3
        have dz := fun i => B2.fz i
        clear hb
        go_wp2_with fail
        refine ret_toks rfl rfl rfl (Own.four B2) ?_
        rw [HNE.out]
        exact told_zero _ (four_set (w3size := 0) HB.out)
      · have HSZ := Lib.hid (show sizeT t ≤ 9223372036854775807 from Nat.le_trans (parse_size h1 hres) (by omega))
        have hne : toksR l = if 200 < depthT t ∨ 10000 < sizeT t then (zTm, 1) else (t, 0) := hne.trans (if_neg fun h => h rfl)
        have HNE := Lib.hid hne
        have HRES := Lib.hid hres
        have HE := Lib.hid hE
        clear hE hne hG hr h1 h2 hres
        go_enter Tryz.func19, Tryz.ntmps19
        go_wp2_with fail
        refine K1.out.mono ?_
        rintro e w1 ⟨rfl, hb⟩
        have B2 := B2.keep hb
        have hr := HR.out.below hb
        have hG := HG.out.below hb
        have HE := pw_cell_below hb HE.out
        have K2 := Lib.hid (parse_nested.calls (l.length + 1) A c l (nestL l) w1 hr.1 hr.2 (nested_eq _ l hl (by omega)))
        have HB := Lib.hid (HW.out.trans (hb.mono (by simp)))
        have HG := Lib.hid hG
        have HR := Lib.hid hr
        have HE := Lib.hid HE
        clear hb hr hG
        go_wp2_with fail
        refine K2.out.mono ?_
        rintro e w2 ⟨rfl, hb⟩
        have B2 := B2.keep hb
        have hr := HR.out.below hb
        have HE := pw_cell_below hb HE.out
        have HG := Lib.hid (HG.out.below hb)
        have HB := Lib.hid (HB.out.trans (hb.mono HB.out.size))
        have KR := readC A c l _ _ w2 hr HE
        rw [HRES.out] at KR
        have KR := Lib.hid KR
        have HE := Lib.hid HE
        clear hb hr
        go_wp2_with fail
        refine KR.out.mono ?_
        rintro e w3 ⟨hb, v, rfl, hv⟩
        obtain ⟨A3, c3, rfl, hlc, hC⟩ := hv
        have hv : TmV w2.heap.size w3 t (.agg #[.int .i64 t.f0, .string t.f1, .int .i64 t.f2, .slice A3 t.f3.length c3]) := ⟨A3, c3, rfl, hlc, hC⟩
        have hv := hv.same ((Same.refl _ _).alloc (.cells #[.int .i64 t.f0, .string t.f1, .int .i64 t.f2, .slice A3 t.f3.length c3] 26))
        have hlt2 : w.heap.size < w2.heap.size := B2.lt
        have B2 := (B2.keep hb).alloc (.cells #[.int .i64 t.f0, .string t.f1, .int .i64 t.f2, .slice A3 t.f3.length c3] 26)
        have B4 := Own.new w3 #[.int .i64 t.f0, .string t.f1, .int .i64 t.f2, .slice A3 t.f3.length c3] 26
        have hA := below_alloc (Below.refl w3.heap.size w3) (.cells #[.int .i64 t.f0, .string t.f1, .int .i64 t.f2, .slice A3 t.f3.length c3] 26)
        have H2 := Lib.hid hlt2
        have HB := Lib.hid (HB.out.trans ((hb.trans (hA.mono hb.size)).mono HB.out.size))
        have KD := Lib.hid (term_Depth.calls (2 * sizeT t) t.f0 t.f1 t.f2 A3 c3 t.f3 (depthT t) _ (hC _ ((Same.refl _ _).alloc (.cells #[.int .i64 t.f0, .string t.f1, .int .i64 t.f2, .slice A3 t.f3.length c3] 26))) hlc (depth_eq t HSZ.out _ (Nat.le_refl _)))
        have HC := Lib.hid hC
        have HV := Lib.hid hv
        have q0 := B4.cell 0
        have q1 := B4.cell 1
        have q2 := B4.cell 2
        have q3 := B4.cell 3
        have qz := fun i => B4.fz i
        clear hb hv hA hC
        by_cases hdp : 200 < depthT t
        · have hdd : decide (200 < (depthT t : Int)) = true := by rw [decide_eq_true_eq]; omega
          have HT := Lib.hid (show (if 200 < depthT t ∨ 10000 < sizeT t then (zTm, (1 : Int)) else (t, 0)) = (zTm, 1) from if_pos (.inl hdp))
          clear hdp
          go_wp2_with fail
          refine KD.out.mono ?_
          rintro e w4 ⟨rfl, hb⟩
          have B2 := B2.keep hb
          have B4 := B4.keep hb
          have hv := HV.out.same (Same.of_below hb)
          have HB := Lib.hid (HB.out.trans (hb.mono HB.out.size))
          have h4 : w3.heap.size < w4.heap.size := B4.lt
          have d0 := B2.cell 0
          have d1 := B2.cell 1
          have d2 := B2.cell 2
          have d3 := B2.cell 3
          have dz := fun i => B2.fz i
          clear hb hv
          go_wp2_with fail
          refine ret_toks rfl rfl rfl (Own.four B2) ?_
          rw [HNE.out, HT.out]
          exact told_zero _ (four_set (w3size := 0) HB.out)
        · have hdd : decide (200 < (depthT t : Int)) = false := by rw [decide_eq_false_iff_not]; omega
          by_cases hsz : 10000 < sizeT t
          · have hss : decide (10000 < (sizeT t : Int)) = true := by rw [decide_eq_true_eq]; omega
            have HT := Lib.hid (show (if 200 < depthT t ∨ 10000 < sizeT t then (zTm, (1 : Int)) else (t, 0)) = (zTm, 1) from if_pos (.inr hsz))
            clear hdp hsz
            go_wp2_with fail
            refine KD.out.mono ?_
            rintro e w4 ⟨rfl, hb⟩
            have B2 := B2.keep hb
            have B4 := B4.keep hb
            have hv := HV.out.same (Same.of_below hb)
            have HB := Lib.hid (HB.out.trans (hb.mono HB.out.size))
            have h4 : w3.heap.size < w4.heap.size := B4.lt
            have q0 := B4.cell 0
            have q1 := B4.cell 1
            have q2 := B4.cell 2
            have q3 := B4.cell 3
            have qz := fun i => B4.fz i
            obtain ⟨A4, c4, e4, hlc4, hC4⟩ := HV.out.same (Same.of_below hb)
            simp only [Value.agg.injEq, Array.mk.injEq, List.cons.injEq, Value.slice.injEq, true_and, and_true] at e4
            obtain ⟨rfl, rfl⟩ := e4
            have KS := Lib.hid (term_Size.calls (2 * sizeT t) t.f0 t.f1 t.f2 A3 c3 t.f3 (sizeT t) _ (hC4 _ (Same.refl _ _)) hlc4 (size_eq t HSZ.out _ (Nat.le_refl _)))
            clear hC4 hlc4
            clear hb hv
            go_wp2_with fail
            refine KS.out.mono ?_
            rintro e w5 ⟨rfl, hb⟩
            have B2 := B2.keep hb
            have B4 := B4.keep hb
            have HB := Lib.hid (HB.out.trans (hb.mono HB.out.size))
            have d0 := B2.cell 0
            have d1 := B2.cell 1
            have d2 := B2.cell 2
            have d3 := B2.cell 3
            have dz := fun i => B2.fz i
            clear hb
            go_wp2_with fail
            refine ret_toks rfl rfl rfl (Own.four B2) ?_
            rw [HNE.out, HT.out]
            exact told_zero _ (four_set (w3size := 0) HB.out)
          · have hss : decide (10000 < (sizeT t : Int)) = false := by rw [decide_eq_false_iff_not]; omega
            have HT := Lib.hid (show (if 200 < depthT t ∨ 10000 < sizeT t then (zTm, (1 : Int)) else (t, 0)) = (t, 0) from if_neg (by omega))
            clear hdp hsz
            go_wp2_with fail
            refine KD.out.mono ?_
            rintro e w4 ⟨rfl, hb⟩
            have B2 := B2.keep hb
            have B4 := B4.keep hb
            have hv := HV.out.same (Same.of_below hb)
            have HB := Lib.hid (HB.out.trans (hb.mono HB.out.size))
            have h4 : w3.heap.size < w4.heap.size := B4.lt
            have q0 := B4.cell 0
            have q1 := B4.cell 1
            have q2 := B4.cell 2
            have q3 := B4.cell 3
            have qz := fun i => B4.fz i
            obtain ⟨A4, c4, e4, hlc4, hC4⟩ := HV.out.same (Same.of_below hb)
            simp only [Value.agg.injEq, Array.mk.injEq, List.cons.injEq, Value.slice.injEq, true_and, and_true] at e4
            obtain ⟨rfl, rfl⟩ := e4
            have KS := Lib.hid (term_Size.calls (2 * sizeT t) t.f0 t.f1 t.f2 A3 c3 t.f3 (sizeT t) _ (hC4 _ (Same.refl _ _)) hlc4 (size_eq t HSZ.out _ (Nat.le_refl _)))
            clear hC4 hlc4
            clear hb
            go_wp2_with fail
            refine KS.out.mono ?_
            rintro e w5 ⟨rfl, hb⟩
            have B2 := B2.keep hb
            have B4 := B4.keep hb
            have hv := hv.same (Same.of_below hb)
            have HB := Lib.hid (HB.out.trans (hb.mono HB.out.size))
            have d0 := B2.cell 0
            have d1 := B2.cell 1
            have d2 := B2.cell 2
            have d3 := B2.cell 3
            have dz := fun i => B2.fz i
            have q0 := B4.cell 0
            have q1 := B4.cell 1
            have q2 := B4.cell 2
            have q3 := B4.cell 3
            have qz := fun i => B4.fz i
            clear hb
            go_wp2_with fail
            refine ret_toks rfl rfl rfl (Own.four B2) ?_
            rw [HNE.out, HT.out]
            exact ⟨_, rfl, (hv.same (four_same (Same.refl _ _) (by have := H2.out; omega))).mono (Nat.le_of_lt H2.out), four_set (w3size := 0) HB.out⟩
      · have hne : toksR l = (zTm, 2) := hne.trans (if_pos fun h => by cases h)
        have HNE := Lib.hid hne
        have HRES := Lib.hid hres
        have HE := Lib.hid hE
        clear hE hne hG hr h1 h2 hres
        go_enter Tryz.func19, Tryz.ntmps19
        go_wp2_with fail
        refine K1.out.mono ?_
        rintro e w1 ⟨rfl, hb⟩
        have B2 := B2.keep hb
        have hr := HR.out.below hb
        have hG := HG.out.below hb
        have HE := pw_cell_below hb HE.out
        have K2 := Lib.hid (parse_nested.calls (l.length + 1) A c l (nestL l) w1 hr.1 hr.2 (nested_eq _ l hl (by omega)))
        have HB := Lib.hid (HW.out.trans (hb.mono (by simp)))
        have HG := Lib.hid hG
        have HR := Lib.hid hr
        have HE := Lib.hid HE
        clear hb hr hG
        go_wp2_with fail
        refine K2.out.mono ?_
        rintro e w2 ⟨rfl, hb⟩
        have B2 := B2.keep hb
        have hr := HR.out.below hb
        have HE := pw_cell_below hb HE.out
        have HG := Lib.hid (HG.out.below hb)
        have HB := Lib.hid (HB.out.trans (hb.mono HB.out.size))
        have KR := readC A c l _ _ w2 hr HE
        rw [HRES.out] at KR
        have KR := Lib.hid KR
        have HE := Lib.hid HE
        clear hb hr
        go_wp2_with fail
        refine KR.out.mono ?_
        rintro e w3 ⟨hb, b, n, rfl, hf⟩
        have B2 := (B2.keep hb).alloc (.cells zeroV 26)
        have hA := below_alloc (Below.refl w3.heap.size w3) (.cells zeroV 26)
        have HB := Lib.hid (HB.out.trans ((hb.trans (hA.mono hb.size)).mono HB.out.size))
        have KN := Lib.hid (numberC b n _ ((HG.out.below hb).below hA) _ (pw_cell_below hA (pw_cell_below hb HE.out)) (Own.alloc hf (.cells zeroV 26)))
        clear hb hf hA
        go_wp2_with fail
        refine KN.out.mono ?_
        rintro e w4 ⟨rfl, hb⟩
        have B2 := B2.keep hb
        have HB := Lib.hid (HB.out.trans (hb.mono HB.out.size))
        have d0 := B2.cell 0
        have d1 := B2.cell 1
        have d2 := B2.cell 2
        have d3 := B2.cell 3
        have dz := fun i => B2.fz i
        clear hb
        go_wp2_with fail
        refine ret_toks rfl rfl rfl (Own.four B2) ?_
        rw [HNE.out]
        exact told_zero _ (four_set (w3size := 0) HB.out)
end Go.Proofs.YtchekgnacodolaaGreatDoor.X
/- chancel/parse.Parse. -/
namespace Go.Proofs.YtchekgnacodolaaGreatDoor.X
open Go.RowKit Go.Proofs.YtchekgnacodolaaGreatDoorW.PrintWords Go.Proofs.YtchekgnacodolaaGreatDoorW.PrintLast Go.Proofs.YtchekgnacodolaaGreatDoorW.PrintMore
set_option linter.unusedSimpArgs false
set_option linter.unusedVariables false

theorem lexR_short (s : List UInt8) : (lexR s).1.length ≤ 65536 ∧ ∀ t ∈ (lexR s).1, t.f1.size ≤ 65536 := by
  unfold lexR
  by_cases h : s.length > 65536
  · rw [if_pos h]; exact ⟨by simp, fun t ht => by cases ht⟩
  · rw [if_neg h]
    cases ht : tokL s with
    | none => exact ⟨by simp, fun t ht => by cases ht⟩
    | some ts =>
      obtain ⟨-, h2, h3⟩ := tokL_all s.length s ts (Nat.le_refl _) ht
      exact ⟨by show ts.length ≤ _; omega, fun t hm => by have := h2 t hm; omega⟩
set_option maxRecDepth 100000 in
set_option maxHeartbeats 4000000 in
theorem parseC (s : List UInt8) (hl : s.length ≤ 9223372036854775807) (w : World) (hG : GL w) :
    Calls Tryz.prog 22 #[.string (B s)] w fun e w' => Told w (parseR s) e w' := by
  have hW := below_alloc (Below.refl w.heap.size w) (.cells zeroV 26)
  have hG := hG.below hW
  have K1 := Lib.hid (lexC s hl _ hG)
  have B2 := Own.new w zeroV 26
  have HW := Lib.hid hW
  have HG := Lib.hid hG
  clear hW hG
  by_cases h1 : (lexR s).2 = 0
  · have hb1 : ((lexR s).2 != 0) = false := by rw [h1]; rfl
    have HT := Lib.hid (show parseR s = toksR (lexR s).1 by unfold parseR; rw [if_neg (by rw [h1]; decide)])
    clear h1
    go_enter Tryz.func22, Tryz.ntmps22
    go_wp2_with fail
    refine K1.out.mono ?_
    rintro e w1 ⟨A, c, rfl, hr, -, hb⟩
    have B2 := B2.keep hb
    have KT := Lib.hid (toksC (lexR s).1 A c (Nat.le_trans (lexR_short s).1 (by decide)) (fun t ht => Nat.le_trans ((lexR_short s).2 t ht) (by decide)) w1 (HG.out.below hb) hr)
    have HB := Lib.hid (HW.out.trans (hb.mono (by simp)))
    clear hb hr
    go_wp2_with fail
    refine KT.out.mono ?_
    rintro e w2 ⟨v, rfl, hv, hb⟩
    obtain ⟨A3, c3, rfl, hlc, hC⟩ := hv
    have hv : TmV w1.heap.size w2 (toksR (lexR s).1).1 (.agg #[.int .i64 (toksR (lexR s).1).1.f0, .string (toksR (lexR s).1).1.f1, .int .i64 (toksR (lexR s).1).1.f2, .slice A3 (toksR (lexR s).1).1.f3.length c3]) := ⟨A3, c3, rfl, hlc, hC⟩
    have H2 := Lib.hid (show w.heap.size < w1.heap.size from B2.lt)
    have B2 := B2.keep hb
    have HB := Lib.hid (HB.out.trans (hb.mono HB.out.size))
    have d0 := B2.cell 0
    have d1 := B2.cell 1
    have d2 := B2.cell 2
    have d3 := B2.cell 3
    have dz := fun i => B2.fz i
    clear hb hC hlc
    go_wp2_with fail
    refine ret_toks rfl rfl rfl (Own.four B2) ?_
    rw [HT.out]
    exact ⟨_, rfl, (hv.same (four_same (Same.refl _ _) H2.out)).mono (Nat.le_of_lt H2.out), four_set (w3size := 0) HB.out⟩
  · have hb1 : ((lexR s).2 != 0) = true := by simpa using h1
    have HT := Lib.hid (show parseR s = (zTm, (lexR s).2) by unfold parseR; rw [if_pos h1])
    clear h1
    go_enter Tryz.func22, Tryz.ntmps22
    go_wp2_with fail
    refine K1.out.mono ?_
    rintro e w1 ⟨A, c, rfl, hr, -, hb⟩
    have B2 := B2.keep hb
    have HB := Lib.hid (HW.out.trans (hb.mono (by simp)))
    have d0 := B2.cell 0
    have d1 := B2.cell 1
    have d2 := B2.cell 2
    have d3 := B2.cell 3
    have dz := fun i => B2.fz i
    clear hb hr
    go_wp2_with fail
    refine ret_toks rfl rfl rfl (Own.four B2) ?_
    rw [HT.out]
    exact told_zero _ (four_set (w3size := 0) HB.out)
end Go.Proofs.YtchekgnacodolaaGreatDoor.X
/- chancel/term.Same. -/
namespace Go.Proofs.YtchekgnacodolaaGreatDoor.X
open Go.RowKit Go.Proofs.YtchekgnacodolaaGreatDoorW.PrintWords Go.Proofs.YtchekgnacodolaaGreatDoorW.PrintLast Go.Proofs.YtchekgnacodolaaGreatDoorW.PrintMore
set_option linter.unusedSimpArgs false
set_option linter.unusedVariables false

/-- A value that is a term. -/
def TmR (w : World) (t : Tm) (v : Value) : Prop := ∃ A c, v = .agg #[.int .i64 t.f0, .string t.f1, .int .i64 t.f2, .slice A t.f3.length c] ∧ t.f3.length ≤ c ∧ Kd.C k26 w A t.f3.length t.f3
theorem TmV.R {base : Nat} {w : World} {t : Tm} {v : Value} (h : TmV base w t v) : TmR w t v := by
  obtain ⟨A, c, e, hl, hC⟩ := h
  exact ⟨A, c, e, hl, hC w (Same.refl _ _)⟩
theorem TmR.below {w w1 : World} {t : Tm} {v : Value} (h : TmR w t v) (hb : Below w.heap.size w w1) : TmR w1 t v := by
  obtain ⟨A, c, e, hl, hC⟩ := h
  exact ⟨A, c, e, hl, Kd.C_below hC hb⟩
theorem rdTmAt (l : List Tm) (i : Nat) (h : i < l.length) : rd_T26 l (i : Int) = l[i] := by
  unfold rd_T26; simp [List.getD_eq_getElem?_getD, List.getElem?_eq_getElem h]
theorem TmR.at {w : World} {A : Option Addr} {l : List Tm} (h : Kd.C k26 w A l.length l) (i : Nat) (hi : i < l.length) :
    ∃ ad A3 c3, A = some ad ∧ w.cell? (ad.add (i * 4)) = some (.int .i64 l[i].f0) ∧ w.cell? ⟨(ad.add (i * 4)).block, (ad.add (i * 4)).off + 1, none⟩ = some (.string l[i].f1) ∧ w.cell? ⟨(ad.add (i * 4)).block, (ad.add (i * 4)).off + 2, none⟩ = some (.int .i64 l[i].f2) ∧ w.cell? ⟨(ad.add (i * 4)).block, (ad.add (i * 4)).off + 3, none⟩ = some (.slice A3 l[i].f3.length c3) ∧ TmR w l[i] (.agg #[.int .i64 l[i].f0, .string l[i].f1, .int .i64 l[i].f2, .slice A3 l[i].f3.length c3]) := by
  obtain ⟨ad, A3, c3, e, h0, h1, h2, h3, hl, hC⟩ := at_T26 h (i : Int) (by omega) (by omega)
  rw [rdTmAt l i hi, Int.toNat_natCast] at *
  exact ⟨ad, A3, c3, e, h0, h1, h2, h3, A3, c3, rfl, hl, hC⟩
def SameH (t : Tm) : Prop := ∀ (u : Tm) (vt vu : Value) (w : World), TmR w t vt → TmR w u vu → Calls Tryz.prog 27 #[vt, vu] w fun e w' => e = .returned (.bool (sameTm t u)) ∧ Below w.heap.size w w'
theorem sames_len : ∀ (l m : List Tm), l.length ≠ m.length → samesTm l m = false
  | [], [], h => absurd rfl h
  | [], _ :: _, _ => by simp [samesTm]
  | _ :: _, [], _ => by simp [samesTm]
  | a :: l, b :: m, h => by
    rw [samesTm, sames_len l m (fun e => h (by simp [e]))]; simp
set_option maxRecDepth 100000 in
set_option maxHeartbeats 4000000 in
theorem eqTerms (l : List Tm) (ih : ∀ t ∈ l, SameH t) (m : List Tm) (A A' : Option Addr) (c c' : Nat) (w : World) (hA : Kd.C k26 w A l.length l) (hB : Kd.C k26 w A' m.length m) :
    Calls Tryz.prog 60 #[.slice A l.length c, .slice A' m.length c', .func (.func 27) #[] #[]] w fun e w' => e = .returned (.bool (samesTm l m)) ∧ Below w.heap.size w w' := by
  have HA := Lib.hid hA
  have HB := Lib.hid hB
  have hll := hA.2.1
  have hmm := hB.2.1
  clear hA hB
  have IH := Lib.hid ih
  clear ih
  by_cases hlen : l.length = m.length
  · have hd : ((l.length : Int) != (m.length : Int)) = false := by simp [hlen]
    have HL := Lib.hid hlen
    clear hlen
    go_enter Tryz.func60, Tryz.ntmps60
    go_wp2_with fail
    go_loopg [17] l.length (fun gk v17 wr => ∃ i : Nat, v17 = .int .i64 i ∧ i ≤ l.length ∧ gk = l.length - i ∧ Aside0 (samesTm (l.drop i) (m.drop i) = samesTm l m) ∧ Aside0 (Below w.heap.size w wr))
    case atStart => exact ⟨0, rfl, by omega, by omega, ⟨rfl⟩, ⟨Below.refl _ _⟩⟩
    case round =>
      obtain ⟨i, rfl, hi, hgk, HS, HW⟩ := hrel
      by_cases hlt : i < l.length
      · have hlm : i < m.length := by have := HL.out; omega
        have hdd : decide ((i : Int) < (l.length : Int)) = true := by rw [decide_eq_true_eq]; omega
        have hdm : decide ((i : Int) < (m.length : Int)) = true := by rw [decide_eq_true_eq]; omega
        have hd0 : decide (0 ≤ (i : Int)) = true := by rw [decide_eq_true_eq]; omega
        obtain ⟨ad, A3, c3, rfl, a0, a1, a2, a3, ha⟩ := TmR.at (Kd.C_below HA.out HW.out) i hlt
        obtain ⟨bd, B3, b3, rfl, e0, e1, e2, e3, hb⟩ := TmR.at (Kd.C_below HB.out HW.out) i hlm
        have hs : samesTm (l.drop i) (m.drop i) = (sameTm l[i] m[i] && samesTm (l.drop (i + 1)) (m.drop (i + 1))) := by
          rw [List.drop_eq_getElem_cons hlt, List.drop_eq_getElem_cons hlm, samesTm]
        rw [HS.out] at hs
        have IHi := IH.out l[i] (List.getElem_mem hlt) m[i]
        generalize l[i] = x at *
        generalize m[i] = y at *
        have e0' := fun o => pw_cell_below (below_alloc (Below.refl wr.heap.size wr) o) e0
        have e1' := fun o => pw_cell_below (below_alloc (Below.refl wr.heap.size wr) o) e1
        have e2' := fun o => pw_cell_below (below_alloc (Below.refl wr.heap.size wr) o) e2
        have e3' := fun o => pw_cell_below (below_alloc (Below.refl wr.heap.size wr) o) e3
        have hb2 : ∀ o1 o2, Below wr.heap.size wr ((wr.alloc o1).alloc o2) := fun o1 o2 => below_alloc (below_alloc (Below.refl _ _) _) _
        have K := Lib.hid (fun o1 o2 => IHi _ _ _ (ha.below (hb2 o1 o2)) (hb.below (hb2 o1 o2)))
        have X8 := fun o2 => (Own.new wr #[.int .i64 x.f0, .string x.f1, .int .i64 x.f2, .slice A3 x.f3.length c3] 26).alloc o2
        have X9 := Own.new (wr.alloc (.cells #[.int .i64 x.f0, .string x.f1, .int .i64 x.f2, .slice A3 x.f3.length c3] 26)) #[.int .i64 y.f0, .string y.f1, .int .i64 y.f2, .slice B3 y.f3.length b3] 26
        have x80 := fun o => (X8 o).cell 0
        have x81 := fun o => (X8 o).cell 1
        have x82 := fun o => (X8 o).cell 2
        have x83 := fun o => (X8 o).cell 3
        have x90 := X9.cell 0
        have x91 := X9.cell 1
        have x92 := X9.cell 2
        have x93 := X9.cell 3
        have HSS := Lib.hid hs
        have HW2 := Lib.hid (fun o1 o2 w2 (h : Below ((wr.alloc o1).alloc o2).heap.size ((wr.alloc o1).alloc o2) w2) => (HW.out.trans ((hb2 o1 o2).mono HW.out.size)).trans (h.mono (Nat.le_trans HW.out.size (hb2 o1 o2).size)))
        clear hs HS IHi ha hb hb2
        generalize sameTm x y = bb at *
        cases bb with
        | false =>
          go_wp2_with fail
          refine (K.out _ _).mono ?_
          rintro e w2 ⟨rfl, hb⟩
          have HW3 := Lib.hid (HW2.out _ _ _ hb)
          clear hb x80 x81 x82 x83 x90 x91 x92 x93 e0' e1' e2' e3'
          go_wp2_with fail
          go_ret
          exact ⟨by rw [HSS.out]; rfl, HW3.out⟩
        | true =>
          go_wp2_with fail
          refine (K.out _ _).mono ?_
          rintro e w2 ⟨rfl, hb⟩
          have HW3 := Aside0.mk (HW2.out _ _ _ hb)
          clear hb x80 x81 x82 x83 x90 x91 x92 x93 e0' e1' e2' e3'
          go_wp2_with fail
          go_roundg (l.length - (i + 1))
          case measure => omega
          case rel => exact ⟨i + 1, by go_num, by omega, rfl, ⟨HSS.out.symm⟩, HW3⟩
      · have hdd : decide ((i : Int) < (l.length : Int)) = false := by rw [decide_eq_false_iff_not]; omega
        go_wp2_with fail
        go_ret
        refine ⟨?_, HW.out⟩
        have := HS.out
        rw [List.drop_of_length_le (by omega), List.drop_of_length_le (by have := HL.out; omega)] at this
        rw [← this]; rfl
  · have hd : ((l.length : Int) != (m.length : Int)) = true := by simp; omega
    have HS := Lib.hid (sames_len l m hlen)
    go_enter Tryz.func60, Tryz.ntmps60
    go_wp2_with fail
    go_ret
    exact ⟨by rw [HS.out]; rfl, Below.refl _ _⟩

theorem bne_int (a b : Int) : (a != b) = !(a == b) := rfl
set_option maxRecDepth 100000 in
set_option maxHeartbeats 4000000 in
theorem sameC (t : Tm) : SameH t := by
  induction t using Tm.ind with
  | h a b c l ih =>
    rintro ⟨a', b', c', l'⟩ vt vu w ⟨A, cA, rfl, hl, hA⟩ ⟨A', cB, rfl, hl', hB⟩
    have K := Lib.hid (fun o1 o2 => eqTerms l ih l' A A' cA cB ((w.alloc o1).alloc o2) (Kd.C_below hA (below_alloc (below_alloc (Below.refl _ _) _) _)) (Kd.C_below hB (below_alloc (below_alloc (Below.refl _ _) _) _)))
    have HB := Lib.hid (fun o1 o2 w2 (h : Below ((w.alloc o1).alloc o2).heap.size ((w.alloc o1).alloc o2) w2) => (below_alloc (below_alloc (Below.refl w.heap.size w) o1) o2).trans (h.mono (by simp; omega)))
    clear ih hA hB hl hl'
    rw [sameTm]
    cases h1 : (a == a') with
    | false =>
      go_enter Tryz.func27, Tryz.ntmps27
      go_wp2_with fail
      go_ret
      exact ⟨rfl, below_alloc (below_alloc (Below.refl _ _) _) _⟩
    | true =>
    cases h2 : (b.toList == b'.toList) with
    | false =>
      go_enter Tryz.func27, Tryz.ntmps27
      go_wp2_with fail
      go_ret
      exact ⟨rfl, below_alloc (below_alloc (Below.refl _ _) _) _⟩
    | true =>
    cases h3 : (c == c') with
    | false =>
      go_enter Tryz.func27, Tryz.ntmps27
      go_wp2_with fail
      go_ret
      exact ⟨rfl, below_alloc (below_alloc (Below.refl _ _) _) _⟩
    | true =>
      go_enter Tryz.func27, Tryz.ntmps27
      go_wp2_with fail
      refine (K.out _ _).mono ?_
      rintro e w2 ⟨rfl, hb⟩
      have HB2 := Lib.hid (HB.out _ _ _ hb)
      clear hb
      go_wp2_with fail
      go_ret
      exact ⟨rfl, HB2.out⟩
end Go.Proofs.YtchekgnacodolaaGreatDoor.X
/- chancellaw05.examples: written by our own program (wip/tools/genexam5.py). -/
namespace Go.Proofs.YtchekgnacodolaaGreatDoor.X
open Go.RowKit Go.Proofs.YtchekgnacodolaaGreatDoorW.PrintWords Go.Proofs.YtchekgnacodolaaGreatDoorW.PrintLast Go.Proofs.YtchekgnacodolaaGreatDoorW.PrintMore
set_option linter.unusedSimpArgs false
set_option linter.unusedVariables false

def ex5_1 : Tm := ⟨4, ⟨#[]⟩, 0, [⟨4, ⟨#[]⟩, 0, [⟨2, ⟨#[97]⟩, 0, []⟩, ⟨2, ⟨#[98]⟩, 0, []⟩]⟩, ⟨2, ⟨#[99]⟩, 0, []⟩]⟩
theorem ex5e_1 : parseR [97, 32, 98, 32, 99] = (ex5_1, 0) := by kernel_rfl
def ex5_2 : Tm := ⟨5, ⟨#[120]⟩, 0, [⟨1, ⟨#[]⟩, 1, []⟩, ⟨13, ⟨#[]⟩, 0, [⟨12, ⟨#[43]⟩, 0, [⟨2, ⟨#[120]⟩, 0, []⟩, ⟨1, ⟨#[]⟩, 2, []⟩]⟩, ⟨11, ⟨#[]⟩, 0, [⟨10, ⟨#[]⟩, 0, [⟨2, ⟨#[99]⟩, 0, []⟩]⟩, ⟨2, ⟨#[120]⟩, 0, []⟩]⟩]⟩]⟩
theorem ex5e_2 : parseR [108, 101, 116, 32, 120, 32, 61, 32, 49, 32, 105, 110, 32, 120, 32, 43, 32, 50, 32, 59, 32, 33, 99, 32, 58, 61, 32, 120] = (ex5_2, 0) := by kernel_rfl
def ex5_3 : Tm := ⟨0, ⟨#[]⟩, 0, []⟩
theorem ex5e_3 : parseR [97, 32, 43, 32, 98, 32, 43, 32, 99] = (ex5_3, 2) := by kernel_rfl
def ex5_4 : Tm := ⟨0, ⟨#[]⟩, 0, []⟩
theorem ex5e_4 : parseR [] = (ex5_4, 2) := by kernel_rfl
def ex5_5 : Tm := ⟨6, ⟨#[]⟩, 0, [⟨2, ⟨#[97]⟩, 0, []⟩, ⟨2, ⟨#[98]⟩, 0, []⟩, ⟨13, ⟨#[]⟩, 0, [⟨2, ⟨#[99]⟩, 0, []⟩, ⟨2, ⟨#[100]⟩, 0, []⟩]⟩]⟩
theorem ex5e_5 : parseR [105, 102, 32, 97, 32, 116, 104, 101, 110, 32, 98, 32, 101, 108, 115, 101, 32, 99, 32, 59, 32, 100] = (ex5_5, 0) := by kernel_rfl
def ex5_6 : Tm := ⟨8, ⟨#[]⟩, 0, [⟨11, ⟨#[]⟩, 0, [⟨2, ⟨#[120]⟩, 0, []⟩, ⟨1, ⟨#[]⟩, 2, []⟩]⟩]⟩
theorem ex5e_6 : parseR [114, 97, 105, 115, 101, 32, 120, 32, 58, 61, 32, 50] = (ex5_6, 0) := by kernel_rfl
def ex5_22 : Tm := (ex5_2.f3).getD 1 ⟨0, ⟨#[]⟩, 0, []⟩
theorem exC (s : List UInt8) (t : Tm) (n : Int) (k : Int) (nm : ByteArray) (m : Nat) (h : parseR s = (t, n)) (h0 : t.f0 = k) (h1 : t.f1 = nm) (h2 : t.f2 = 0) (h3 : t.f3.length = m) (hl : s.length ≤ 100) (w : World) (hG : GL w) :
    Calls Tryz.prog 22 #[.string (B s)] w fun e w' => ∃ A c, e = .returned (.tuple #[.agg #[.int .i64 k, .string nm, .int .i64 0, .slice A m c], .int .i64 n]) ∧ Kd.C k26 w' A t.f3.length t.f3 ∧ Below w.heap.size w w' := by
  refine (parseC s (by omega) w hG).mono ?_
  rw [h]
  rintro e w' ⟨v, rfl, hv, hb⟩
  obtain ⟨A, c, rfl, hl, hC⟩ := hv
  refine ⟨A, c, ?_, hC w' (Same.refl _ _), hb⟩
  rw [← h0, ← h1, ← h2, ← h3]
theorem TmR.atq {w : World} {A : Option Addr} {l : List Tm} {n : Nat} (h : Kd.C k26 w A n l) (i p : Nat) (x : Tm) (k : Int) (nm : ByteArray) (m : Nat) (hn : n = l.length) (hi : l[i]? = some x) (h0 : x.f0 = k) (h1 : x.f1 = nm) (h3 : x.f3.length = m) (hp : i * 4 = p) :
    ∃ ad A3 c3, A = some ad ∧ w.cell? (ad.add p) = some (.int .i64 k) ∧ w.cell? ⟨(ad.add p).block, (ad.add p).off + 1, none⟩ = some (.string nm) ∧ w.cell? ⟨(ad.add p).block, (ad.add p).off + 3, none⟩ = some (.slice A3 m c3) ∧ Kd.C k26 w A3 x.f3.length x.f3 := by
  subst hn
  subst hp
  subst h0
  subst h1
  subst h3
  obtain ⟨hlt, rfl⟩ := List.getElem?_eq_some_iff.1 hi
  obtain ⟨ad, A3, c3, e, h0, h1, h2, h3, A4, c4, e4, hl, hC⟩ := TmR.at h i hlt
  simp only [Value.agg.injEq, Array.mk.injEq, List.cons.injEq, Value.slice.injEq, true_and, and_true] at e4
  obtain ⟨rfl, rfl⟩ := e4
  exact ⟨ad, A3, c3, e, h0, h1, h3, hC⟩
theorem TmR.at' {w : World} {A : Option Addr} {l : List Tm} {n : Nat} (h : Kd.C k26 w A n l) (i p : Nat) (x : Tm) (k : Int) (nm : ByteArray) (m : Nat) (hn : n = l.length) (hi : l[i]? = some x) (h0 : x.f0 = k) (h1 : x.f1 = nm) (h3 : x.f3.length = m) (hp : i * 4 = p) (h0p : p ≠ 0) :
    ∃ ad A3 c3, A = some ad ∧ w.cell? ⟨ad.block, ad.off + p, none⟩ = some (.int .i64 k) ∧ w.cell? ⟨ad.block, ad.off + p + 1, none⟩ = some (.string nm) ∧ w.cell? ⟨ad.block, ad.off + p + 3, none⟩ = some (.slice A3 m c3) ∧ Kd.C k26 w A3 x.f3.length x.f3 := by
  obtain ⟨ad, A3, c3, e, a0, a1, a3, hC⟩ := TmR.atq h i p x k nm m hn hi h0 h1 h3 hp
  have hadd : ad.add p = ⟨ad.block, ad.off + p, none⟩ := by unfold Addr.add; rw [if_neg h0p]
  rw [hadd] at a0 a1 a3
  exact ⟨ad, A3, c3, e, a0, a1, a3, hC⟩
theorem TmR.at0 {w : World} {A : Option Addr} {l : List Tm} {n : Nat} (h : Kd.C k26 w A n l) (x : Tm) (k : Int) (nm : ByteArray) (m : Nat) (hn : n = l.length) (hi : l[0]? = some x) (h0 : x.f0 = k) (h1 : x.f1 = nm) (h3 : x.f3.length = m) :
    ∃ ad A3 c3, A = some ad ∧ w.cell? ad = some (.int .i64 k) ∧ w.cell? ⟨ad.block, ad.off + 1, none⟩ = some (.string nm) ∧ w.cell? ⟨ad.block, ad.off + 3, none⟩ = some (.slice A3 m c3) ∧ Kd.C k26 w A3 x.f3.length x.f3 := TmR.atq h 0 0 x k nm m hn hi h0 h1 h3 rfl
set_option maxRecDepth 100000 in
set_option maxHeartbeats 8000000 in
theorem exam5C (w : World) (hG : GL w) : Calls Tryz.prog 18 #[] w fun e w' => e = .returned (.bool true) ∧ Below w.heap.size w w' := by
  have HG := Lib.hid hG
  have HB := Lib.hid (Below.refl w.heap.size w)
  have K1 := Lib.hid (exC _ ex5_1 _ 4 ⟨#[]⟩ 2 ex5e_1 rfl rfl rfl rfl (by decide) w hG)
  clear hG
  go_enter Tryz.func18, Tryz.ntmps18
  go_wp2_with fail
  refine K1.out.mono ?_
  rintro e w1 ⟨A1, c1, rfl, hC, hb⟩
  have hA := below_alloc (Below.refl w1.heap.size w1) (.cells #[.int .i64 4, .string ⟨#[]⟩, .int .i64 0, .slice A1 2 c1] 26)
  have hW := hb.trans (hA.mono hb.size)
  have HG := Lib.hid (HG.out.below hW)
  have HB := Lib.hid (HB.out.trans (hW.mono HB.out.size))
  have O1 := Lib.hid (Own.new w1 #[.int .i64 4, .string ⟨#[]⟩, .int .i64 0, .slice A1 2 c1] 26)
  have C1 := Lib.hid (Kd.C_below hC hA)
  have K2 := Lib.hid (exC _ ex5_2 _ 5 ⟨#[120]⟩ 2 ex5e_2 rfl rfl rfl rfl (by decide) _ HG.out)
  clear hA hW hb hC
  go_wp2_with fail
  refine K2.out.mono ?_
  rintro e w2 ⟨A2, c2, rfl, hC, hb⟩
  have hA := below_alloc (Below.refl w2.heap.size w2) (.cells #[.int .i64 5, .string ⟨#[120]⟩, .int .i64 0, .slice A2 2 c2] 26)
  have hW := hb.trans (hA.mono hb.size)
  have HG := Lib.hid (HG.out.below hW)
  have HB := Lib.hid (HB.out.trans (hW.mono HB.out.size))
  have O1 := Lib.hid (O1.out.keep hW)
  have C1 := Lib.hid (Kd.C_below C1.out hW)
  have O2 := Lib.hid (Own.new w2 #[.int .i64 5, .string ⟨#[120]⟩, .int .i64 0, .slice A2 2 c2] 26)
  have C2 := Lib.hid (Kd.C_below hC hA)
  have K3 := Lib.hid (exC _ ex5_3 _ 0 ⟨#[]⟩ 0 ex5e_3 rfl rfl rfl rfl (by decide) _ HG.out)
  clear hA hW hb hC
  go_wp2_with fail
  refine K3.out.mono ?_
  rintro e w3 ⟨A3, c3, rfl, hC, hb⟩
  have hA := below_alloc (Below.refl w3.heap.size w3) (.cells #[.int .i64 0, .string ⟨#[]⟩, .int .i64 0, .slice A3 0 c3] 26)
  have hW := hb.trans (hA.mono hb.size)
  have HG := Lib.hid (HG.out.below hW)
  have HB := Lib.hid (HB.out.trans (hW.mono HB.out.size))
  have O1 := Lib.hid (O1.out.keep hW)
  have C1 := Lib.hid (Kd.C_below C1.out hW)
  have O2 := Lib.hid (O2.out.keep hW)
  have C2 := Lib.hid (Kd.C_below C2.out hW)
  have K4 := Lib.hid (exC _ ex5_4 _ 0 ⟨#[]⟩ 0 ex5e_4 rfl rfl rfl rfl (by decide) _ HG.out)
  clear hA hW hb hC
  go_wp2_with fail
  refine K4.out.mono ?_
  rintro e w4 ⟨A4, c4, rfl, hC, hb⟩
  have hA := below_alloc (Below.refl w4.heap.size w4) (.cells #[.int .i64 0, .string ⟨#[]⟩, .int .i64 0, .slice A4 0 c4] 26)
  have hW := hb.trans (hA.mono hb.size)
  have HG := Lib.hid (HG.out.below hW)
  have HB := Lib.hid (HB.out.trans (hW.mono HB.out.size))
  have O1 := Lib.hid (O1.out.keep hW)
  have C1 := Lib.hid (Kd.C_below C1.out hW)
  have O2 := Lib.hid (O2.out.keep hW)
  have C2 := Lib.hid (Kd.C_below C2.out hW)
  have K5 := Lib.hid (exC _ ex5_5 _ 6 ⟨#[]⟩ 3 ex5e_5 rfl rfl rfl rfl (by decide) _ HG.out)
  clear hA hW hb hC
  go_wp2_with fail
  refine K5.out.mono ?_
  rintro e w5 ⟨A5, c5, rfl, hC, hb⟩
  have hA := below_alloc (Below.refl w5.heap.size w5) (.cells #[.int .i64 6, .string ⟨#[]⟩, .int .i64 0, .slice A5 3 c5] 26)
  have hW := hb.trans (hA.mono hb.size)
  have HG := Lib.hid (HG.out.below hW)
  have HB := Lib.hid (HB.out.trans (hW.mono HB.out.size))
  have O1 := Lib.hid (O1.out.keep hW)
  have C1 := Lib.hid (Kd.C_below C1.out hW)
  have O2 := Lib.hid (O2.out.keep hW)
  have C2 := Lib.hid (Kd.C_below C2.out hW)
  have O5 := Lib.hid (Own.new w5 #[.int .i64 6, .string ⟨#[]⟩, .int .i64 0, .slice A5 3 c5] 26)
  have C5 := Lib.hid (Kd.C_below hC hA)
  have K6 := Lib.hid (exC _ ex5_6 _ 8 ⟨#[]⟩ 1 ex5e_6 rfl rfl rfl rfl (by decide) _ HG.out)
  clear hA hW hb hC
  go_wp2_with fail
  refine K6.out.mono ?_
  rintro e w6 ⟨A6, c6, rfl, hC, hb⟩
  have hA := below_alloc (Below.refl w6.heap.size w6) (.cells #[.int .i64 8, .string ⟨#[]⟩, .int .i64 0, .slice A6 1 c6] 26)
  have hW := hb.trans (hA.mono hb.size)
  have HG := Lib.hid (HG.out.below hW)
  have HB := Lib.hid (HB.out.trans (hW.mono HB.out.size))
  have O1 := Lib.hid (O1.out.keep hW)
  have C1 := Lib.hid (Kd.C_below C1.out hW)
  have O2 := Lib.hid (O2.out.keep hW)
  have C2 := Lib.hid (Kd.C_below C2.out hW)
  have O5 := Lib.hid (O5.out.keep hW)
  have C5 := Lib.hid (Kd.C_below C5.out hW)
  have O6 := Lib.hid (Own.new w6 #[.int .i64 8, .string ⟨#[]⟩, .int .i64 0, .slice A6 1 c6] 26)
  have C6 := Lib.hid (Kd.C_below hC hA)
  clear hA hW hb hC
  have o10 := O1.out.cell 0
  have o13 := O1.out.cell 3
  have o20 := O2.out.cell 0
  have o23 := O2.out.cell 3
  have o50 := O5.out.cell 0
  have o53 := O5.out.cell 3
  have o60 := O6.out.cell 0
  have o63 := O6.out.cell 3
  obtain ⟨a1, A11, c11, rfl, f11, -, -, -⟩ := TmR.at0 C1.out _ 4 ⟨#[]⟩ 2 rfl rfl rfl rfl rfl
  obtain ⟨a1', A12, c12, e12, -, f12, -, -⟩ := TmR.at' C1.out 1 4 _ 2 ⟨#[99]⟩ 0 rfl rfl rfl rfl rfl rfl (by decide)
  cases e12
  obtain ⟨a2, A22, c22, rfl, f22, -, g22, C22⟩ := TmR.at' C2.out 1 4 ex5_22 13 ⟨#[]⟩ 2 rfl rfl rfl rfl rfl rfl (by decide)
  obtain ⟨a22, A23, c23, rfl, f23, -, -, -⟩ := TmR.at' C22 1 4 _ 11 ⟨#[]⟩ 2 rfl rfl rfl rfl rfl rfl (by decide)
  obtain ⟨a5, A52, c52, rfl, f52, -, -, -⟩ := TmR.at' C5.out 2 8 _ 13 ⟨#[]⟩ 2 rfl rfl rfl rfl rfl rfl (by decide)
  obtain ⟨a6, A62, c62, rfl, f62, -, -, -⟩ := TmR.at0 C6.out _ 11 ⟨#[]⟩ 2 rfl rfl rfl rfl rfl
  clear C22
  go_wp2_with fail
  go_ret
  exact ⟨rfl, HB.out⟩
end Go.Proofs.YtchekgnacodolaaGreatDoor.X
