/- Walks. -/
import Derived.WalkKit
import Derived.LaidEql
import Derived.Stop.Asserts
import Derived.RowKitTokens
import Derived.Test.YthdekbmdkpcooaaGreatDoorProg
set_option linter.unusedVariables false
set_option linter.unusedSimpArgs false
set_option maxRecDepth 100000
set_option maxHeartbeats 1600000
namespace Go.Proofs.YthdekbmdkpcooaaGreatDoor
open Go.RowKit Go.Extern.Stop Go.Stop Go.Extern
theorem z4v (v:Value) (w:World):(Extern.ReflectliteType.typeOf #[.iface 46 v]).run Tryz.prog w= .ok (.iface 204 (.agg #[typeHandle Tryz.prog 46])) w:=by kernel_rfl
def y2Y :Array Value→Sem Value:=Extern.ReflectliteType.method fun t=>do Extern.Rtype.noPackHeld "Comparable" t;pure (.bool (←typeInfo t).comparable)
theorem q8y (w:World):(y2Y #[.agg #[typeHandle Tryz.prog 46]]).run Tryz.prog w= .ok (.bool true) w:=by kernel_rfl
theorem q5B (n:Nat) (v:Value) (w:World):(Go.method (n+1) 204 v "Comparable").run Tryz.prog w= .ok (339,v) w:=by kernel_rfl
theorem y2C (v:Value) (xT:TypeId) (w:World):(Instr.typeAssert (.iface 46 v) xT 206 true).run Tryz.prog w= .ok (.tuple #[.nilIface,.bool false]) w:=run_typeAssert_lacksB Tryz.underlying206 (by kernel_rfl) (by kernel_rfl) v xT w
theorem z5I (v:Value) (xT:TypeId) (w:World):(Instr.typeAssert (.iface 46 v) xT 209 true).run Tryz.prog w= .ok (.tuple #[.nilIface,.bool false]) w:=run_typeAssert_lacksB Tryz.underlying209 (by kernel_rfl) (by kernel_rfl) v xT w
theorem z4d (v:Value) (xT:TypeId) (w:World):(Instr.typeAssert (.iface 46 v) xT 211 true).run Tryz.prog w= .ok (.tuple #[.nilIface,.bool false]) w:=run_typeAssert_lacksB Tryz.underlying211 (by kernel_rfl) (by kernel_rfl) v xT w
theorem z7q (x y:Int) (w:World):(binOp .eql 156 (.iface 46 (.int .i64 x)) (.iface 46 (.int .i64 y))).run Tryz.prog w= .ok (.bool (x==y)) w:=by
 kernel_rfl
theorem z6z (x y:Int) (w:World):
  Calls Tryz.prog 43 #[.iface 46 (.int .i64 x),.iface 46 (.int .i64 y)] w fun e w'=>e= .returned (.bool (x==y))∧w=w':=by
 have h8:=@run_callFunc_extern Tryz.prog 85 _ Extern.ReflectliteType.typeOf Tryz.func85 (by kernel_rfl) (by kernel_rfl) (by kernel_rfl) (by kernel_rfl);have h32:=@run_callFunc_extern Tryz.prog 339 _ y2Y Tryz.func339 (by kernel_rfl) (by kernel_rfl) (by kernel_rfl) (by kernel_rfl);have tT:=z4v;have cT:=q8y;have mR:=q5B;have nE:=y2C;have uE:=z5I;have vE:=z4d;have heq:=z7q x y w;obtain ⟨z,hz⟩: ∃z,(x==y)=z:=⟨_,rfl⟩
 rw[hz] at heq⊢;clear hz;go_enter Tryz.func43,Tryz.ntmps43
 cases z with
 | true=>
  go_wp2
  refine wp_loop_rounds 1 ?_;rw[rounds_succ]
  go_wp2
  go_ret;exact ⟨rfl,rfl⟩
 | false=>
  go_wp2
  refine wp_loop_rounds 1 ?_;rw[rounds_succ]
  go_wp2
  go_ret;exact ⟨rfl,rfl⟩
end Go.Proofs.YthdekbmdkpcooaaGreatDoor
