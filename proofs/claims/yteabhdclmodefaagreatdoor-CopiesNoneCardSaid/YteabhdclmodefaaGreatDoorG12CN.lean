/- Walks. -/
import Derived.Test.YteabhdclmodefaaGreatDoorG3CN
import Derived.Laws.FloatArith
set_option linter.unusedVariables false
set_option linter.unusedSimpArgs false
set_option maxRecDepth 100000
set_option maxHeartbeats 6400000
namespace Go.Proofs.YteabhdclmodefaaGreatDoor
open Go.RowKit
def y0v(h:Int):Int:=bits .or .u64 (IntKind.u64.wrap (h*140737488355328)) (h/131072)
theorem y0C(w:World)(h:Int):Calls Tryz.prog 296 #[.int .u64 h,.int .i64 (-17)] w fun r w'=>r= .returned (.int .u64 (y0v h))/\w=w':=by
 have b:IntKind.u64.wrap (-17)=18446744073709551599:=by kernel_rfl
 have d:bits .and .u64 18446744073709551599 63=47:=by kernel_rfl
 have i:IntKind.u64.wrap (64-47)=17:=by kernel_rfl
 go_enter Tryz.func296,Tryz.ntmps296;go_wp2_with fail;go_ret;exact⟨rfl,rfl⟩
def z8r(h:Int):Int:=bits .or .u64 (y0v h) 1
theorem z8N(w:World)(h:Int):Calls Tryz.prog 287 #[.int .u64 h] w fun r w'=>r= .returned (.int .u64 (z8r h))/\w=w':=by
 have b:=η (fun W=>y0C W h);go_enter Tryz.func287,Tryz.ntmps287;go_wp2_with fail;refine(b.o _).mono ?_;rintro e w1 ⟨rfl,rfl⟩;go_wp2_with fail;go_ret;exact⟨rfl,rfl⟩
def q5o(h i b:Int):Int:=IntKind.u64.wrap (h+IntKind.u64.wrap (i*z8r h)) % b
theorem z0D(h i b:Int)(d:1<=b):0<=q5o h i b/\q5o h i b<b:=⟨Int.emod_nonneg _ (by omega),Int.emod_lt_of_pos _ (by omega)⟩
theorem z8i(w:World)(h:Int)(i b:Nat)(J:i<=1000000)(I:1<=b)(v:b<=1000000):Calls Tryz.prog 279 #[.int .u64 h,.int .i64 (i:Int),.int .i64 (b:Int)] w fun r w'=>r= .returned (.int .i64 (q5o h i b))/\w=w':=by
 have s:=η (fun W=>z8N W h);have x:¬((b:Int)<1):=by omega
 have y:¬((i:Int)<0):=by omega
 have B:IntKind.u64.wrap (i:Int)=(i:Int):=by rw[IntKind.wrap_u64];omega
 have C:IntKind.u64.wrap (b:Int)=(b:Int):=by rw[IntKind.wrap_u64];omega
 obtain⟨T,m⟩: ∃T,IntKind.u64.wrap (h+IntKind.u64.wrap ((i:Int)*z8r h))=T:=⟨_,rfl⟩
 have j:0<=T/\T<18446744073709551616:=by rw[<-m,IntKind.wrap_u64];omega
 have u:Int.tmod T (b:Int)=T % (b:Int):=Int.tmod_eq_emod_of_nonneg j.1;have q:=z0D h i b (by omega);have d:Hd (q5o h i b=T % (b:Int)):=η (by unfold q5o;rw[m]);rw[d.o] at q;obtain⟨z,l⟩: ∃z,T % (b:Int)=z:=⟨_,rfl⟩
 rw[l] at q d;have D:IntKind.u64.wrap z=z:=by rw[IntKind.wrap_u64];omega
 have E:IntKind.i64.wrap z=z:=by rw[ν];omega
 have F:((b:Int)==0)=false:=by simp;omega
 have G:¬((b:Int)=0):=by omega
 rw[l] at u;clear l;rw[d.o];go_enter Tryz.func279,Tryz.ntmps279;go_wp2_with fail;refine(s.o _).mono ?_;rintro e w1 ⟨rfl,rfl⟩;go_wp2_with fail;go_ret;exact⟨rfl,rfl⟩
end Go.Proofs.YteabhdclmodefaaGreatDoor
