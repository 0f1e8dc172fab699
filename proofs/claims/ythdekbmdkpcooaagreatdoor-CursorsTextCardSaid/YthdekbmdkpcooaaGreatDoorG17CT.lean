/- Walks. -/
import Derived.Test.YthdekbmdkpcooaaGreatDoorG5CT
import Derived.Laws.FloatArith
set_option linter.unusedVariables false
set_option linter.unusedSimpArgs false
set_option maxRecDepth 100000
set_option maxHeartbeats 6400000
namespace Go.Proofs.YthdekbmdkpcooaaGreatDoor
open Go.RowKit
def y1p (h:Int):Int:=bits .or .u64 (IntKind.u64.wrap (h*140737488355328)) (h/131072)
theorem y0y (w:World) (h:Int):Calls Tryz.prog 295 #[.int .u64 h,.int .i64 (-17)] w fun r w'=>r= .returned (.int .u64 (y1p h))∧w=w':=by
 have e0:IntKind.u64.wrap (-17)=18446744073709551599:=by kernel_rfl
 have e1:bits .and .u64 18446744073709551599 63=47:=by kernel_rfl
 have e2:IntKind.u64.wrap (64-47)=17:=by kernel_rfl
 go_enter Tryz.func295,Tryz.ntmps295;go_wp2_with fail;go_ret;exact ⟨rfl,rfl⟩
def z9g (h:Int):Int:=bits .or .u64 (y1p h) 1
theorem z8q (w:World) (h:Int):Calls Tryz.prog 275 #[.int .u64 h] w fun r w'=>r= .returned (.int .u64 (z9g h))∧w=w':=by
 have HR:=Lib.hid (fun W=>y0y W h);go_enter Tryz.func275,Tryz.ntmps275;go_wp2_with fail;refine (HR.out _).mono ?_;rintro e w1 ⟨rfl,rfl⟩;go_wp2_with fail;go_ret;exact ⟨rfl,rfl⟩
def q5t (h i b:Int):Int:=IntKind.u64.wrap (h+IntKind.u64.wrap (i*z9g h)) % b
theorem z0G (h i b:Int) (hb:1≤b):0≤q5t h i b∧q5t h i b<b:=⟨Int.emod_nonneg _ (by omega),Int.emod_lt_of_pos _ (by omega)⟩
theorem z8u (w:World) (h:Int) (i b:Nat) (hi:i≤1000000) (hb:1≤b) (hb9:b≤1000000):Calls Tryz.prog 247 #[.int .u64 h,.int .i64 (i:Int),.int .i64 (b:Int)] w fun r w'=>r= .returned (.int .i64 (q5t h i b))∧w=w':=by
 have HR:=Lib.hid (fun W=>z8q W h);have a1:¬((b:Int)<1):=by omega
 have a2:¬((i:Int)<0):=by omega
 have e1:IntKind.u64.wrap (i:Int)=(i:Int):=by rw[IntKind.wrap_u64];omega
 have e2:IntKind.u64.wrap (b:Int)=(b:Int):=by rw[IntKind.wrap_u64];omega
 obtain ⟨T,hT⟩: ∃T,IntKind.u64.wrap (h+IntKind.u64.wrap ((i:Int)*z9g h))=T:=⟨_,rfl⟩
 have hT0:0≤T∧T<18446744073709551616:=by rw[←hT,IntKind.wrap_u64];omega
 have e3:Int.tmod T (b:Int)=T % (b:Int):=Int.tmod_eq_emod_of_nonneg hT0.1;have hl:=z0G h i b (by omega);have HP:Hid (q5t h i b=T % (b:Int)):=Lib.hid (by unfold q5t;rw[hT]);rw[HP.out] at hl;obtain ⟨z,hz⟩: ∃z,T % (b:Int)=z:=⟨_,rfl⟩
 rw[hz] at hl HP;have e4:IntKind.u64.wrap z=z:=by rw[IntKind.wrap_u64];omega
 have e5:IntKind.i64.wrap z=z:=by rw[IntKind.wrap_i64];omega
 have e6:((b:Int)==0)=false:=by simp;omega
 have e7:¬((b:Int)=0):=by omega
 rw[hz] at e3;clear hz;rw[HP.out];go_enter Tryz.func247,Tryz.ntmps247;go_wp2_with fail;refine (HR.out _).mono ?_;rintro e w1 ⟨rfl,rfl⟩;go_wp2_with fail;go_ret;exact ⟨rfl,rfl⟩
end Go.Proofs.YthdekbmdkpcooaaGreatDoor
