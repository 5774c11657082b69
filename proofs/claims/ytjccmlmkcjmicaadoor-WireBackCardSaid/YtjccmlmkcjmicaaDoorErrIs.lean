/- errors.Is at a *api.Fault that holds the number asked for: turned from the worked example SentryIs. No statement of the program. -/
import Derived.Test.YtjccmlmkcjmicaaDoorProg
import Derived.WalkKit
import Derived.LaidEql
import Derived.Stop.Asserts
import Derived.RowKitTokens
namespace Go.Proofs.YtjccmlmkcjmicaaDoor.Errs
open Go Go.RowKit Go.Extern.Stop Go.Stop Go.Extern

theorem Is.typeOfN (v : Value) (w : World) : (Extern.ReflectliteType.typeOf #[.iface 23 v]).run Tryd.prog w = .ok (.iface 79 (.agg #[.pointer (some ⟨1, 23, none⟩)])) w := by kernel_rfl
theorem Is.comparableN (w : World) : ((Extern.ReflectliteType.method fun t => do Extern.Rtype.noPackHeld "Comparable" t; (fun a => Value.bool a.comparable) <$> typeInfo t) #[.agg #[.pointer (some ⟨1, 23, none⟩)]]).run Tryd.prog w = .ok (.bool true) w := by kernel_rfl
theorem Is.methodComparable (v : Value) (w : World) : (Go.method 221 79 v "Comparable").run Tryd.prog w = .ok (70, v) w := by kernel_rfl
theorem Is.noIsF (v : Value) (xT : TypeId) (w : World) : (Instr.typeAssert (.iface 48 v) xT 90 true).run Tryd.prog w = .ok (.tuple #[.nilIface, .bool false]) w := run_typeAssert_lacksB Tryd.underlying90 (by kernel_rfl) (by kernel_rfl) v xT w
theorem Is.hasUnwrapF (v : Value) (xT : TypeId) (w : World) : (Instr.typeAssert (.iface 48 v) xT 86 true).run Tryd.prog w = .ok (.tuple #[.iface 48 v, .bool true]) w := run_typeAssert_hasB Tryd.underlying86 (by kernel_rfl) v xT w
theorem Is.methodUnwrap (v : Value) (w : World) : (Go.method 221 48 v "Unwrap").run Tryd.prog w = .ok (64, v) w := by kernel_rfl
theorem Is.eqRest (w : World) : (binOp .eql 39 (.iface 23 (.int .i64 15)) (.iface 23 (.int .i64 15))).run Tryd.prog w = .ok (.bool true) w := by kernel_rfl

set_option maxRecDepth 100000 in
set_option maxHeartbeats 1000000 in
/-- errors.Is(e, api.ErrWireRest), e a fault that holds it: one Unwrap, then equal. -/
theorem is_rest (F : Nat) (w : World) (h1 : w.cell? ⟨F, 1, none⟩ = some (.int .i64 15)) :
    Calls Tryd.prog 28 #[.iface 48 (.pointer (some ⟨F, 0, none⟩)), .iface 23 (.int .i64 15)] w fun e w' => e = .returned (.bool true) ∧ w' = w := by
  have h8 := @run_callFunc_extern Tryd.prog 40 _ Extern.ReflectliteType.typeOf Tryd.func40 (by kernel_rfl) (by kernel_rfl) (by kernel_rfl) (by kernel_rfl)
  have h32 := @run_callFunc_extern Tryd.prog 70 _ (Extern.ReflectliteType.method fun t => do Extern.Rtype.noPackHeld "Comparable" t; pure (.bool (← typeInfo t).comparable)) Tryd.func70 (by kernel_rfl) (by kernel_rfl) (by kernel_rfl) (by kernel_rfl)
  have tT := Is.typeOfN
  have cT := Is.comparableN
  have mR := Is.methodComparable
  have nW := Is.noIsF
  have uW := Is.hasUnwrapF
  have mU := Is.methodUnwrap
  have heq := Is.eqRest
  have hty := run_eql_iface_types (P := Tryd.prog) 48 23 (.pointer (some ⟨F, 0, none⟩)) (.int .i64 15) Tryd.underlying39 (by decide) w
  go_enter Tryd.func28, Tryd.ntmps28
  go_wp2
  refine wp_loop_rounds 2 ?_
  rw [rounds_succ]
  go_wp2
  rw [rounds_succ]
  go_wp2
  go_ret
  exact ⟨rfl, rfl⟩
end Go.Proofs.YtjccmlmkcjmicaaDoor.Errs
