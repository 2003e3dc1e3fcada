/- errors.As at this program's two targets: closed facts on the model's entries for internal/reflectlite. -/
import Derived.Test.Qxb6500572aGreatDoorMethB
import Derived.Test.Qxb6500572aGreatDoorSlU
namespace Go.Sl
open Go Go.Proofs Go.Extern
set_option linter.unusedVariables false
theorem rlm (z : Sem Value) (f : TypeId → Addr → Nat → Nat → Sem Value) (v : Value) :
    ReflectliteValue.method z f #[v] = (do match ← ReflectliteValue.parts v with | none => z | some (t, a, fl) => f t a fl (fl % 32)) := rfl
theorem rls : ∃ e1 e2 e3 e4 e5 : String, ∀ v x : Value, ReflectliteValue.set #[v, x] = (do
    let (some (dst, a, fl), some (src, b, _)) := (← ReflectliteValue.parts v, ← ReflectliteValue.parts x)
      | unsupported (.noEntry e1)
    if fl / ReflectliteValue.flagAddr % 2 == 0 then unsupported (.noEntry e2)
    let val ← loadVar src b
    if ← Rtype.directlyAssignable dst src then storeVar dst a val
    else if ← Rtype.implements dst src then
      if (← Rtype.kind src) == 20 then
        match val with
        | .nilIface => unsupported (.noEntry e3)
        | _ => storeVar dst a val
      else storeVar dst a (.iface src val)
    else panicString (e4 ++ (← Rtype.spelt src) ++ e5 ++ (← Rtype.spelt dst))
    pure (.tuple #[])) := ⟨_, _, _, _, _, fun _ _ => rfl⟩
theorem ext81 (args : Array Value) (w : World) : (callFunc 81 args).run Tryz.prog w = ((ReflectliteValue.unpack (args.getD 0 (.tuple #[]))).run Tryz.prog w).andThen fun v w' => .ok (.value v) w' := run_callFunc_extern (e := fun args => ReflectliteValue.unpack (args.getD 0 (.tuple #[]))) Tryz.func81 (by kernel_rfl) (by kernel_rfl) (by kernel_rfl) (by kernel_rfl) args w
theorem ext82 (args : Array Value) (w : World) : (callFunc 82 args).run Tryz.prog w = (((ReflectliteValue.methodAny (ReflectliteValue.valueError "reflectlite.Value.Type" 0) (fun t _ _ _ => ReflectliteType.toType t)) args).run Tryz.prog w).andThen fun v w' => .ok (.value v) w' := run_callFunc_extern Tryz.func82 (by kernel_rfl) (by kernel_rfl) (by kernel_rfl) (by kernel_rfl) args w
theorem ext83 (args : Array Value) (w : World) : (callFunc 83 args).run Tryz.prog w = (((ReflectliteValue.method (ReflectliteValue.valueError "reflectlite.Value.IsNil" 0) ReflectliteValue.isNil) args).run Tryz.prog w).andThen fun v w' => .ok (.value v) w' := run_callFunc_extern Tryz.func83 (by kernel_rfl) (by kernel_rfl) (by kernel_rfl) (by kernel_rfl) args w
theorem ext123 (args : Array Value) (w : World) : (callFunc 123 args).run Tryz.prog w = ((ReflectliteType.typeOf args).run Tryz.prog w).andThen fun v w' => .ok (.value v) w' := run_callFunc_extern Tryz.func123 (by kernel_rfl) (by kernel_rfl) (by kernel_rfl) (by kernel_rfl) args w
theorem ext124 (args : Array Value) (w : World) : (callFunc 124 args).run Tryz.prog w = (((ReflectliteValue.method (ReflectliteValue.valueError "reflectlite.Value.Elem" 0) ReflectliteValue.elem) args).run Tryz.prog w).andThen fun v w' => .ok (.value v) w' := run_callFunc_extern Tryz.func124 (by kernel_rfl) (by kernel_rfl) (by kernel_rfl) (by kernel_rfl) args w
theorem ext125 (args : Array Value) (w : World) : (callFunc 125 args).run Tryz.prog w = ((ReflectliteValue.set args).run Tryz.prog w).andThen fun v w' => .ok (.value v) w' := run_callFunc_extern Tryz.func125 (by kernel_rfl) (by kernel_rfl) (by kernel_rfl) (by kernel_rfl) args w
theorem ext183 (args : Array Value) (w : World) : (callFunc 183 args).run Tryz.prog w = (((ReflectliteType.abiMethod fun t => do pure (.int .u8 (← Rtype.kind t))) args).run Tryz.prog w).andThen fun v w' => .ok (.value v) w' := run_callFunc_extern Tryz.func183 (by kernel_rfl) (by kernel_rfl) (by kernel_rfl) (by kernel_rfl) args w
theorem ext196 (args : Array Value) (w : World) : (callFunc 196 args).run Tryz.prog w = (((ReflectliteType.relation "AssignableTo" ReflectliteType.assignableTo) args).run Tryz.prog w).andThen fun v w' => .ok (.value v) w' := run_callFunc_extern Tryz.func196 (by kernel_rfl) (by kernel_rfl) (by kernel_rfl) (by kernel_rfl) args w
theorem ext198 (args : Array Value) (w : World) : (callFunc 198 args).run Tryz.prog w = (((ReflectliteType.method ReflectliteType.elem) args).run Tryz.prog w).andThen fun v w' => .ok (.value v) w' := run_callFunc_extern Tryz.func198 (by kernel_rfl) (by kernel_rfl) (by kernel_rfl) (by kernel_rfl) args w
theorem ext199 (args : Array Value) (w : World) : (callFunc 199 args).run Tryz.prog w = (((ReflectliteType.relation "Implements" ReflectliteType.implements_) args).run Tryz.prog w).andThen fun v w' => .ok (.value v) w' := run_callFunc_extern Tryz.func199 (by kernel_rfl) (by kernel_rfl) (by kernel_rfl) (by kernel_rfl) args w
theorem mKind (h : Value) (w : World) : (Go.method (320 + Made.depth) 239 (.agg #[h]) "Kind").run Tryz.prog w = .ok (183, h) w := by kernel_rfl
theorem mElem (h : Value) (w : World) : (Go.method (320 + Made.depth) 239 (.agg #[h]) "Elem").run Tryz.prog w = .ok (198, .agg #[h]) w := by kernel_rfl
theorem mImpl (h : Value) (w : World) : (Go.method (320 + Made.depth) 239 (.agg #[h]) "Implements").run Tryz.prog w = .ok (199, .agg #[h]) w := by kernel_rfl
theorem mAssi (h : Value) (w : World) : (Go.method (320 + Made.depth) 239 (.agg #[h]) "AssignableTo").run Tryz.prog w = .ok (196, .agg #[h]) w := by kernel_rfl
theorem lift {r : Result Value} {v : Value} {w : World} (h : r = .ok v w) : (r.andThen fun v w' => Result.ok (Next.value v) w') = .ok (.value v) w := by rw [h]; rfl
def rt (t : Nat) : Value := .iface 239 (.agg #[.pointer (some ⟨1, t, none⟩)])
def rv (t : Nat) (a : Nat) (fl : Int) : Value := .agg #[.pointer (some ⟨1, t, none⟩), .pointer (some ⟨a, 0, none⟩), .int .u64 fl]

theorem valueOf205 (a : Nat) (w : World) : (callFunc 81 [.iface 205 (.pointer (some ⟨a, 0, none⟩))].toArray).run Tryz.prog w = .ok (.value (rv 205 w.heap.size 150)) (w.alloc (.cells [.pointer (some ⟨a, 0, none⟩)].toArray 205 (0, 0))) := by
  have : (ReflectliteValue.unpack (.iface 205 (.pointer (some ⟨a, 0, none⟩)))).run Tryz.prog w = .ok (rv 205 w.heap.size 150) (w.alloc (.cells #[.pointer (some ⟨a, 0, none⟩)] 205)) := by kernel_rfl
  exact (ext81 _ _).trans (lift this)
theorem type205 (a : Nat) (w : World) : (callFunc 82 [rv 205 a 150].toArray).run Tryz.prog w = .ok (.value (rt 205)) w := by
  have : (ReflectliteValue.methodAny (ReflectliteValue.valueError "reflectlite.Value.Type" 0) (fun t _ _ _ => ReflectliteType.toType t) #[rv 205 a 150]).run Tryz.prog w = .ok (rt 205) w := by kernel_rfl
  exact (ext82 _ _).trans (lift this)
theorem parts205 (a : Nat) (w : World) : (ReflectliteValue.parts (rv 205 a 150)).run Tryz.prog w = .ok (some (205, ⟨a, 0, none⟩, 150)) w := by kernel_rfl
theorem isNil205 (a p : Nat) (W : World) (ha : W.cell? ⟨a, 0, none⟩ = some (.pointer (some ⟨p, 0, none⟩))) : (callFunc 83 [rv 205 a 150].toArray).run Tryz.prog W = .ok (.value (.bool false)) W := by
  have : (ReflectliteValue.method (ReflectliteValue.valueError "reflectlite.Value.IsNil" 0) ReflectliteValue.isNil #[rv 205 a 150]).run Tryz.prog W = .ok (.bool false) W := by
    rw [rlm]
    simp only [Sem.run_bind, parts205, Result.andThen]
    simp [ReflectliteValue.isNil, loadVar, isAgg, underlying, Tryz.underlying205, ha, Result.andThen]
  exact (ext83 _ _).trans (lift this)
theorem kindM205 (w : World) : (callMethod (rt 205) "Kind" [].toArray).run Tryz.prog w = .ok (.value (.int .u8 22)) w := by
  have : ((ReflectliteType.abiMethod fun t => do pure (.int .u8 (← Rtype.kind t))) #[.pointer (some ⟨1, 205, none⟩)]).run Tryz.prog w = .ok (.int .u8 22) w := by kernel_rfl
  simp only [rt, callMethod, Sem.run_bind, run_program, Result.andThen_ok, ntypes, mKind]
  exact (ext183 _ _).trans (lift this)
theorem elemM205 (w : World) : (callMethod (rt 205) "Elem" [].toArray).run Tryz.prog w = .ok (.value (rt 51)) w := by
  have : (ReflectliteType.method ReflectliteType.elem #[.agg #[.pointer (some ⟨1, 205, none⟩)]]).run Tryz.prog w = .ok (rt 51) w := by kernel_rfl
  simp only [show rt 205 = .iface 239 (.agg #[.pointer (some ⟨1, 205, none⟩)]) from rfl, callMethod, Sem.run_bind, run_program, Result.andThen_ok, ntypes, mElem]
  exact (ext198 _ _).trans (lift this)
theorem elemOf205 (w : World) : (Rtype.elem? 205).run Tryz.prog w = .ok (some 51) w := by kernel_rfl
theorem mkV51 (p : Addr) (w : World) : (ReflectliteValue.mk 51 p ReflectliteValue.flagAddr).run Tryz.prog w = .ok (.agg #[.pointer (some ⟨1, 51, none⟩), .pointer (some p), .int .u64 386]) w := by kernel_rfl
theorem elemV205 (a p : Nat) (W : World) (ha : W.cell? ⟨a, 0, none⟩ = some (.pointer (some ⟨p, 0, none⟩))) : (callFunc 124 [rv 205 a 150].toArray).run Tryz.prog W = .ok (.value (rv 51 p 386)) W := by
  have : (ReflectliteValue.method (ReflectliteValue.valueError "reflectlite.Value.Elem" 0) ReflectliteValue.elem #[rv 205 a 150]).run Tryz.prog W = .ok (rv 51 p 386) W := by
    rw [rlm]
    simp only [Sem.run_bind, parts205, Result.andThen]
    simp [ReflectliteValue.elem, loadVar, isAgg, underlying, Tryz.underlying205, ha, Result.andThen, elemOf205, mkV51, rv]
  exact (ext124 _ _).trans (lift this)

theorem valueOf131 (a : Nat) (w : World) : (callFunc 81 [.iface 131 (.pointer (some ⟨a, 0, none⟩))].toArray).run Tryz.prog w = .ok (.value (rv 131 w.heap.size 150)) (w.alloc (.cells [.pointer (some ⟨a, 0, none⟩)].toArray 131 (0, 0))) := by
  have : (ReflectliteValue.unpack (.iface 131 (.pointer (some ⟨a, 0, none⟩)))).run Tryz.prog w = .ok (rv 131 w.heap.size 150) (w.alloc (.cells #[.pointer (some ⟨a, 0, none⟩)] 131)) := by kernel_rfl
  exact (ext81 _ _).trans (lift this)
theorem type131 (a : Nat) (w : World) : (callFunc 82 [rv 131 a 150].toArray).run Tryz.prog w = .ok (.value (rt 131)) w := by
  have : (ReflectliteValue.methodAny (ReflectliteValue.valueError "reflectlite.Value.Type" 0) (fun t _ _ _ => ReflectliteType.toType t) #[rv 131 a 150]).run Tryz.prog w = .ok (rt 131) w := by kernel_rfl
  exact (ext82 _ _).trans (lift this)
theorem parts131 (a : Nat) (w : World) : (ReflectliteValue.parts (rv 131 a 150)).run Tryz.prog w = .ok (some (131, ⟨a, 0, none⟩, 150)) w := by kernel_rfl
theorem isNil131 (a p : Nat) (W : World) (ha : W.cell? ⟨a, 0, none⟩ = some (.pointer (some ⟨p, 0, none⟩))) : (callFunc 83 [rv 131 a 150].toArray).run Tryz.prog W = .ok (.value (.bool false)) W := by
  have : (ReflectliteValue.method (ReflectliteValue.valueError "reflectlite.Value.IsNil" 0) ReflectliteValue.isNil #[rv 131 a 150]).run Tryz.prog W = .ok (.bool false) W := by
    rw [rlm]
    simp only [Sem.run_bind, parts131, Result.andThen]
    simp [ReflectliteValue.isNil, loadVar, isAgg, underlying, Tryz.underlying131, ha, Result.andThen]
  exact (ext83 _ _).trans (lift this)
theorem kindM131 (w : World) : (callMethod (rt 131) "Kind" [].toArray).run Tryz.prog w = .ok (.value (.int .u8 22)) w := by
  have : ((ReflectliteType.abiMethod fun t => do pure (.int .u8 (← Rtype.kind t))) #[.pointer (some ⟨1, 131, none⟩)]).run Tryz.prog w = .ok (.int .u8 22) w := by kernel_rfl
  simp only [rt, callMethod, Sem.run_bind, run_program, Result.andThen_ok, ntypes, mKind]
  exact (ext183 _ _).trans (lift this)
theorem elemM131 (w : World) : (callMethod (rt 131) "Elem" [].toArray).run Tryz.prog w = .ok (.value (rt 123)) w := by
  have : (ReflectliteType.method ReflectliteType.elem #[.agg #[.pointer (some ⟨1, 131, none⟩)]]).run Tryz.prog w = .ok (rt 123) w := by kernel_rfl
  simp only [show rt 131 = .iface 239 (.agg #[.pointer (some ⟨1, 131, none⟩)]) from rfl, callMethod, Sem.run_bind, run_program, Result.andThen_ok, ntypes, mElem]
  exact (ext198 _ _).trans (lift this)
theorem elemOf131 (w : World) : (Rtype.elem? 131).run Tryz.prog w = .ok (some 123) w := by kernel_rfl
theorem mkV123 (p : Addr) (w : World) : (ReflectliteValue.mk 123 p ReflectliteValue.flagAddr).run Tryz.prog w = .ok (.agg #[.pointer (some ⟨1, 123, none⟩), .pointer (some p), .int .u64 406]) w := by kernel_rfl
theorem elemV131 (a p : Nat) (W : World) (ha : W.cell? ⟨a, 0, none⟩ = some (.pointer (some ⟨p, 0, none⟩))) : (callFunc 124 [rv 131 a 150].toArray).run Tryz.prog W = .ok (.value (rv 123 p 406)) W := by
  have : (ReflectliteValue.method (ReflectliteValue.valueError "reflectlite.Value.Elem" 0) ReflectliteValue.elem #[rv 131 a 150]).run Tryz.prog W = .ok (rv 123 p 406) W := by
    rw [rlm]
    simp only [Sem.run_bind, parts131, Result.andThen]
    simp [ReflectliteValue.elem, loadVar, isAgg, underlying, Tryz.underlying131, ha, Result.andThen, elemOf131, mkV123, rv]
  exact (ext124 _ _).trans (lift this)

theorem kindM51 (w : World) : (callMethod (rt 51) "Kind" [].toArray).run Tryz.prog w = .ok (.value (.int .u8 2)) w := by
  have : ((ReflectliteType.abiMethod fun t => do pure (.int .u8 (← Rtype.kind t))) #[.pointer (some ⟨1, 51, none⟩)]).run Tryz.prog w = .ok (.int .u8 2) w := by kernel_rfl
  simp only [rt, callMethod, Sem.run_bind, run_program, Result.andThen_ok, ntypes, mKind]
  exact (ext183 _ _).trans (lift this)
theorem implM51 (w : World) : (callMethod (rt 51) "Implements" [rt 39].toArray).run Tryz.prog w = .ok (.value (.bool true)) w := by
  have : (ReflectliteType.relation "Implements" ReflectliteType.implements_ #[.agg #[.pointer (some ⟨1, 51, none⟩)], rt 39]).run Tryz.prog w = .ok (.bool true) w := by kernel_rfl
  simp only [show rt 51 = .iface 239 (.agg #[.pointer (some ⟨1, 51, none⟩)]) from rfl, callMethod, Sem.run_bind, run_program, Result.andThen_ok, ntypes, mImpl]
  exact (ext199 _ _).trans (lift this)
theorem typeOf51 (v : Value) (w : World) : (callFunc 123 [.iface 51 v].toArray).run Tryz.prog w = .ok (.value (rt 51)) w := by
  have : (ReflectliteType.typeOf #[.iface 51 v]).run Tryz.prog w = .ok (rt 51) w := by kernel_rfl
  exact (ext123 _ _).trans (lift this)
theorem valueOf51 (n : Int) (w : World) : (callFunc 81 [.iface 51 (I n)].toArray).run Tryz.prog w = .ok (.value (rv 51 w.heap.size 130)) (w.alloc (.cells [I n].toArray 51 (0, 0))) := by
  have : (ReflectliteValue.unpack (.iface 51 (I n))).run Tryz.prog w = .ok (rv 51 w.heap.size 130) (w.alloc (.cells #[I n] 51)) := by kernel_rfl
  exact (ext81 _ _).trans (lift this)
theorem partsA51 (a : Nat) (w : World) : (ReflectliteValue.parts (rv 51 a 386)).run Tryz.prog w = .ok (some (51, ⟨a, 0, none⟩, 386)) w := by kernel_rfl
theorem partsK51 (a : Nat) (w : World) : (ReflectliteValue.parts (rv 51 a 130)).run Tryz.prog w = .ok (some (51, ⟨a, 0, none⟩, 130)) w := by kernel_rfl
theorem direct51 (w : World) : (Rtype.directlyAssignable 51 51).run Tryz.prog w = .ok true w := by kernel_rfl
theorem set51 (ta b : Nat) (n : Int) (old : Value) (W : World) (hb : W.cell? ⟨b, 0, none⟩ = some (I n)) (ht : W.cell? ⟨ta, 0, none⟩ = some old) (hf : W.frozen? ⟨ta, 0, none⟩ = false) :
    (callFunc 125 [rv 51 ta 386, rv 51 b 130].toArray).run Tryz.prog W = .ok (.value (.tuple #[])) (W.setCell ⟨ta, 0, none⟩ (I n)) := by
  have : (ReflectliteValue.set #[rv 51 ta 386, rv 51 b 130]).run Tryz.prog W = .ok (.tuple #[]) (W.setCell ⟨ta, 0, none⟩ (I n)) := by
    obtain ⟨e1, e2, e3, e4, e5, hrls⟩ := rls
    rw [hrls]
    simp only [Sem.run_bind, partsA51, partsK51, Result.andThen]
    simp [ReflectliteValue.flagAddr, loadVar, isAgg, underlying, Tryz.underlying51, hb, Result.andThen, direct51, storeVar, Tryz.sizeOf51, Value.cells, storeCells, Addr.add]
    rw [run_store Tryz.prog W ⟨ta, 0, none⟩ _ _ (by rfl)]
    simp [ht, hf]
  exact (ext125 _ _).trans (lift this)

theorem kindM123 (w : World) : (callMethod (rt 123) "Kind" [].toArray).run Tryz.prog w = .ok (.value (.int .u8 22)) w := by
  have : ((ReflectliteType.abiMethod fun t => do pure (.int .u8 (← Rtype.kind t))) #[.pointer (some ⟨1, 123, none⟩)]).run Tryz.prog w = .ok (.int .u8 22) w := by kernel_rfl
  simp only [rt, callMethod, Sem.run_bind, run_program, Result.andThen_ok, ntypes, mKind]
  exact (ext183 _ _).trans (lift this)
theorem implM123 (w : World) : (callMethod (rt 123) "Implements" [rt 39].toArray).run Tryz.prog w = .ok (.value (.bool true)) w := by
  have : (ReflectliteType.relation "Implements" ReflectliteType.implements_ #[.agg #[.pointer (some ⟨1, 123, none⟩)], rt 39]).run Tryz.prog w = .ok (.bool true) w := by kernel_rfl
  simp only [show rt 123 = .iface 239 (.agg #[.pointer (some ⟨1, 123, none⟩)]) from rfl, callMethod, Sem.run_bind, run_program, Result.andThen_ok, ntypes, mImpl]
  exact (ext199 _ _).trans (lift this)
theorem typeOf123 (v : Value) (w : World) : (callFunc 123 [.iface 123 v].toArray).run Tryz.prog w = .ok (.value (rt 123)) w := by
  have : (ReflectliteType.typeOf #[.iface 123 v]).run Tryz.prog w = .ok (rt 123) w := by kernel_rfl
  exact (ext123 _ _).trans (lift this)
theorem valueOf123 (n : Nat) (w : World) : (callFunc 81 [.iface 123 (.pointer (some ⟨n, 0, none⟩))].toArray).run Tryz.prog w = .ok (.value (rv 123 w.heap.size 150)) (w.alloc (.cells [.pointer (some ⟨n, 0, none⟩)].toArray 123 (0, 0))) := by
  have : (ReflectliteValue.unpack (.iface 123 (.pointer (some ⟨n, 0, none⟩)))).run Tryz.prog w = .ok (rv 123 w.heap.size 150) (w.alloc (.cells #[.pointer (some ⟨n, 0, none⟩)] 123)) := by kernel_rfl
  exact (ext81 _ _).trans (lift this)
theorem partsA123 (a : Nat) (w : World) : (ReflectliteValue.parts (rv 123 a 406)).run Tryz.prog w = .ok (some (123, ⟨a, 0, none⟩, 406)) w := by kernel_rfl
theorem partsK123 (a : Nat) (w : World) : (ReflectliteValue.parts (rv 123 a 150)).run Tryz.prog w = .ok (some (123, ⟨a, 0, none⟩, 150)) w := by kernel_rfl
theorem direct123 (w : World) : (Rtype.directlyAssignable 123 123).run Tryz.prog w = .ok true w := by kernel_rfl
theorem set123 (ta b : Nat) (n : Nat) (old : Value) (W : World) (hb : W.cell? ⟨b, 0, none⟩ = some (.pointer (some ⟨n, 0, none⟩))) (ht : W.cell? ⟨ta, 0, none⟩ = some old) (hf : W.frozen? ⟨ta, 0, none⟩ = false) :
    (callFunc 125 [rv 123 ta 406, rv 123 b 150].toArray).run Tryz.prog W = .ok (.value (.tuple #[])) (W.setCell ⟨ta, 0, none⟩ (.pointer (some ⟨n, 0, none⟩))) := by
  have : (ReflectliteValue.set #[rv 123 ta 406, rv 123 b 150]).run Tryz.prog W = .ok (.tuple #[]) (W.setCell ⟨ta, 0, none⟩ (.pointer (some ⟨n, 0, none⟩))) := by
    obtain ⟨e1, e2, e3, e4, e5, hrls⟩ := rls
    rw [hrls]
    simp only [Sem.run_bind, partsA123, partsK123, Result.andThen]
    simp [ReflectliteValue.flagAddr, loadVar, isAgg, underlying, Tryz.underlying123, hb, Result.andThen, direct123, storeVar, Tryz.sizeOf123, Value.cells, storeCells, Addr.add]
    rw [run_store Tryz.prog W ⟨ta, 0, none⟩ _ _ (by rfl)]
    simp [ht, hf]
  exact (ext125 _ _).trans (lift this)

theorem assi51_51 (w : World) : (callMethod (rt 51) "AssignableTo" [rt 51].toArray).run Tryz.prog w = .ok (.value (.bool true)) w := by
  have : (ReflectliteType.relation "AssignableTo" ReflectliteType.assignableTo #[.agg #[.pointer (some ⟨1, 51, none⟩)], rt 51]).run Tryz.prog w = .ok (.bool true) w := by kernel_rfl
  simp only [show rt 51 = .iface 239 (.agg #[.pointer (some ⟨1, 51, none⟩)]) from rfl, callMethod, Sem.run_bind, run_program, Result.andThen_ok, ntypes, mAssi]
  exact (ext196 _ _).trans (lift this)

theorem assi123_51 (w : World) : (callMethod (rt 123) "AssignableTo" [rt 51].toArray).run Tryz.prog w = .ok (.value (.bool false)) w := by
  have : (ReflectliteType.relation "AssignableTo" ReflectliteType.assignableTo #[.agg #[.pointer (some ⟨1, 123, none⟩)], rt 51]).run Tryz.prog w = .ok (.bool false) w := by kernel_rfl
  simp only [show rt 123 = .iface 239 (.agg #[.pointer (some ⟨1, 123, none⟩)]) from rfl, callMethod, Sem.run_bind, run_program, Result.andThen_ok, ntypes, mAssi]
  exact (ext196 _ _).trans (lift this)

theorem assi123_123 (w : World) : (callMethod (rt 123) "AssignableTo" [rt 123].toArray).run Tryz.prog w = .ok (.value (.bool true)) w := by
  have : (ReflectliteType.relation "AssignableTo" ReflectliteType.assignableTo #[.agg #[.pointer (some ⟨1, 123, none⟩)], rt 123]).run Tryz.prog w = .ok (.bool true) w := by kernel_rfl
  simp only [show rt 123 = .iface 239 (.agg #[.pointer (some ⟨1, 123, none⟩)]) from rfl, callMethod, Sem.run_bind, run_program, Result.andThen_ok, ntypes, mAssi]
  exact (ext196 _ _).trans (lift this)

theorem asAs123 (v : Value) (w : World) : (Instr.typeAssert (.iface 123 v) 39 244 true).run Tryz.prog w = .ok (.tuple #[.nilIface, .bool false]) w := by
  obtain ⟨m, hm⟩ : ∃ m, Instr.missingMethod #[("As", 246)] Tryz.t123.methods = some m := miss1 (s := "As") (by kernel_rfl)
  have hi : Tryz.prog.info? 123 = some Tryz.t123 := by kernel_rfl
  simp [Instr.typeAssert, run_underlying Tryz.underlying244, typeInfo, hi, hm, Tryz.zeroValue244]
theorem asUn123 (v : Value) (w : World) : (Instr.typeAssert (.iface 123 v) 39 247 true).run Tryz.prog w = .ok (.tuple #[.iface 123 v, .bool true]) w := by kernel_rfl
theorem methUnwrap (a : Option Addr) (w : World) : (method (320 + Made.depth) 123 (.pointer a) "Unwrap").run Tryz.prog w = .ok (190, .pointer a) w := by
  have h : Tryz.prog.info? 123 = some Tryz.t123 := by kernel_rfl
  obtain ⟨m, h1, h2, h3⟩ : ∃ m, Array.find? (fun x => x.name == "Unwrap") Tryz.t123.methods = some m ∧ m.path = #[] ∧ m.func = some (190, true) := ⟨_, rfl, rfl, rfl⟩
  rw [show 320 + Made.depth = (319 + Made.depth) + 1 from by omega]
  simp [method, typeInfo, h, h1, h2, h3, follow, receiverAt, run_underlying Tryz.underlying123, Place.get]
theorem unwrapM (a : Option Addr) (av : Array Value) (w : World) : (callMethod (.iface 123 (.pointer a)) "Unwrap" av).run Tryz.prog w = .ok (.enter 190 (#[.pointer a] ++ av)) w := by
  simp only [callMethod, Sem.run_bind, run_program, Result.andThen_ok, ntypes, methUnwrap, Tryz.call190]
end Go.Sl
