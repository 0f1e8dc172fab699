/- Walks: errors.Is at error numbers. -/
import Derived.WalkKit
import Derived.LaidEql
import Derived.Stop.Asserts
import Derived.RowKitTokens
import Derived.Test.YtjjfiejoeelndaaGreatDoorProg
set_option linter.unusedVariables false
set_option linter.unusedSimpArgs false
namespace Go.Proofs.YtjjfiejoeelndaaGreatDoor
open Go.RowKit Go.Extern.Stop Go.Stop Go.Extern
set_option maxRecDepth 100000
set_option linter.unusedVariables false
set_option maxHeartbeats 1600000
theorem z5O (v:Value) (w:World):(Extern.ReflectliteType.typeOf #[.iface 38 v]).run Tryz.prog w= .ok (.iface 199 (.agg #[typeHandle Tryz.prog 38])) w:=by kernel_rfl
def y1w :Array Value→Sem Value:=Extern.ReflectliteType.method fun t=>do Extern.Rtype.noPackHeld "Comparable" t;pure (.bool (←typeInfo t).comparable)
theorem q8l (w:World):(y1w #[.agg #[typeHandle Tryz.prog 38]]).run Tryz.prog w= .ok (.bool true) w:=by kernel_rfl
theorem q4l (n:Nat) (v:Value) (w:World):(Go.method (n+1) 199 v "Comparable").run Tryz.prog w= .ok (310,v) w:=by kernel_rfl
theorem y1f (v:Value) (xT:TypeId) (w:World):(Instr.typeAssert (.iface 38 v) xT 201 true).run Tryz.prog w= .ok (.tuple #[.nilIface,.bool false]) w:=run_typeAssert_lacksB Tryz.underlying201 (by kernel_rfl) (by kernel_rfl) v xT w
theorem z6D (v:Value) (xT:TypeId) (w:World):(Instr.typeAssert (.iface 38 v) xT 204 true).run Tryz.prog w= .ok (.tuple #[.nilIface,.bool false]) w:=run_typeAssert_lacksB Tryz.underlying204 (by kernel_rfl) (by kernel_rfl) v xT w
theorem z3k (v:Value) (xT:TypeId) (w:World):(Instr.typeAssert (.iface 38 v) xT 206 true).run Tryz.prog w= .ok (.tuple #[.nilIface,.bool false]) w:=run_typeAssert_lacksB Tryz.underlying206 (by kernel_rfl) (by kernel_rfl) v xT w
theorem z7o (x y:Int) (w:World):(binOp .eql 132 (.iface 38 (.int .i64 x)) (.iface 38 (.int .i64 y))).run Tryz.prog w= .ok (.bool (x==y)) w:=by
  kernel_rfl
theorem z7O (x y:Int) (w:World):
    Calls Tryz.prog 34 #[.iface 38 (.int .i64 x),.iface 38 (.int .i64 y)] w fun e w'=>e= .returned (.bool (x==y))∧w=w':=by
  have h8:=@run_callFunc_extern Tryz.prog 67 _ Extern.ReflectliteType.typeOf Tryz.func67 (by kernel_rfl) (by kernel_rfl) (by kernel_rfl) (by kernel_rfl)
  have h32:=@run_callFunc_extern Tryz.prog 310 _ y1w Tryz.func310 (by kernel_rfl) (by kernel_rfl) (by kernel_rfl) (by kernel_rfl)
  have tT:=z5O
  have cT:=q8l
  have mR:=q4l
  have nE:=y1f
  have uE:=z6D
  have vE:=z3k
  have heq:=z7o x y w
  obtain ⟨z,hz⟩: ∃z,(x==y)=z:=⟨_,rfl⟩
  rw[hz] at heq⊢
  clear hz
  go_enter Tryz.func34,Tryz.ntmps34
  cases z with
  | true=>
    go_wp2
    refine wp_loop_rounds 1 ?_
    rw[rounds_succ]
    go_wp2
    go_ret
    exact ⟨rfl,rfl⟩
  | false=>
    go_wp2
    refine wp_loop_rounds 1 ?_
    rw[rounds_succ]
    go_wp2
    go_ret
    exact ⟨rfl,rfl⟩
end Go.Proofs.YtjjfiejoeelndaaGreatDoor
