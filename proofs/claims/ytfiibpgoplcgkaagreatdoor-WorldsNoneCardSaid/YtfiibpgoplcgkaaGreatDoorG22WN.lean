/- Walks. -/
import Derived.Test.YtfiibpgoplcgkaaGreatDoorG3WN
import Derived.Laws.FloatArith
set_option linter.unusedVariables false
set_option linter.unusedSimpArgs false
set_option maxRecDepth 100000
set_option maxHeartbeats 6400000
namespace Go.Proofs.YtfiibpgoplcgkaaGreatDoor
open Go.RowKit
def y2Y(h:Int):Int:=bits .or .u64 (IntKind.u64.wrap (h*140737488355328)) (h/131072)
theorem y1a(w:World)(h:Int):Calls Tryz.prog 349 #[.int .u64 h,.int .i64 (-17)] w fun r w'=>r= .returned (.int .u64 (y2Y h))/\w=w':=by
 have b:IntKind.u64.wrap (-17)=18446744073709551599:=by kernel_rfl
 have d:bits .and .u64 18446744073709551599 63=47:=by kernel_rfl
 have i:IntKind.u64.wrap (64-47)=17:=by kernel_rfl
 go_enter Tryz.func349,Tryz.ntmps349;go_wp2_with fail;go_ret;exact⟨rfl,rfl⟩
def y0N(h:Int):Int:=bits .or .u64 (y2Y h) 1
theorem z9b(w:World)(h:Int):Calls Tryz.prog 340 #[.int .u64 h] w fun r w'=>r= .returned (.int .u64 (y0N h))/\w=w':=by
 have b:=η (fun W=>y1a W h);go_enter Tryz.func340,Tryz.ntmps340;go_wp2_with fail;refine(b.o _).mono ?_;rintro e w1 ⟨rfl,rfl⟩;go_wp2_with fail;go_ret;exact⟨rfl,rfl⟩
def q6S(h i b:Int):Int:=IntKind.u64.wrap (h+IntKind.u64.wrap (i*y0N h)) % b
theorem z0k(h i b:Int)(d:1<=b):0<=q6S h i b/\q6S h i b<b:=⟨Int.emod_nonneg _ (by omega),Int.emod_lt_of_pos _ (by omega)⟩
theorem y0C(w:World)(h:Int)(i b:Nat)(I:i<=1000000)(G:1<=b)(v:b<=1000000):Calls Tryz.prog 323 #[.int .u64 h,.int .i64 (i:Int),.int .i64 (b:Int)] w fun r w'=>r= .returned (.int .i64 (q6S h i b))/\w=w':=by
 have s:=η (fun W=>z9b W h);have a1:¬((b:Int)<1):=by omega
 have x:¬((i:Int)<0):=by omega
 have y:IntKind.u64.wrap (i:Int)=(i:Int):=by rw[IntKind.wrap_u64];omega
 have B:IntKind.u64.wrap (b:Int)=(b:Int):=by rw[IntKind.wrap_u64];omega
 obtain⟨T,m⟩: ∃T,IntKind.u64.wrap (h+IntKind.u64.wrap ((i:Int)*y0N h))=T:=⟨_,rfl⟩
 have j:0<=T/\T<18446744073709551616:=by rw[<-m,IntKind.wrap_u64];omega
 have u:Int.tmod T (b:Int)=T % (b:Int):=Int.tmod_eq_emod_of_nonneg j.1;have q:=z0k h i b (by omega);have d:Hd (q6S h i b=T % (b:Int)):=η (by unfold q6S;rw[m]);rw[d.o] at q;obtain⟨z,l⟩: ∃z,T % (b:Int)=z:=⟨_,rfl⟩
 rw[l] at q d;have C:IntKind.u64.wrap z=z:=by rw[IntKind.wrap_u64];omega
 have D:IntKind.i64.wrap z=z:=by rw[ν];omega
 have E:((b:Int)==0)=false:=by simp;omega
 have F:¬((b:Int)=0):=by omega
 rw[l] at u;clear l;rw[d.o];go_enter Tryz.func323,Tryz.ntmps323;go_wp2_with fail;refine(s.o _).mono ?_;rintro e w1 ⟨rfl,rfl⟩;go_wp2_with fail;go_ret;exact⟨rfl,rfl⟩
end Go.Proofs.YtfiibpgoplcgkaaGreatDoor
