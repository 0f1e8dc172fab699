/- Walks. -/
import Derived.Test.YtjjfiejoeelndaaGreatDoorG3Bp
import Derived.Laws.FloatArith
set_option linter.unusedVariables false
set_option linter.unusedSimpArgs false
set_option maxRecDepth 100000
set_option maxHeartbeats 6400000
namespace Go.Proofs.YtjjfiejoeelndaaGreatDoor
open Go.RowKit
def z1k (k:Nat):Nat:=4607182418800017408-k*4503599627370496
theorem z9j :((List.range 16).all fun k=>floatBits .quo .f64 (z1k k) 4611686018427387904==some (z1k (k+1)))=true:=by kernel_rfl
theorem z7e (k:Nat) (hk:k<16):floatBits .quo .f64 (z1k k) 4611686018427387904=some (z1k (k+1)):=by
 have h:=List.all_eq_true.1 z9j k (List.mem_range.2 hk)
 simpa using h
theorem y1j (w:World) (x:Nat):Calls Tryz.prog 259 #[.float .f64 x] w fun r w'=> ∃b:Bool,r= .returned (.bool b)∧w=w':=by
 go_enter Tryz.func259,Tryz.ntmps259;go_wp2_with fail;go_ret;exact ⟨_,rfl,rfl⟩
theorem y0U (w:World) (x:Nat):Calls Tryz.prog 231 #[.float .f64 x] w fun r w'=> ∃p:Nat,r= .returned (.int .i64 (p:Int))∧1≤p∧p≤16∧w=w':=by
 have HI:=Lib.hid (fun W=>y1j W x);have HH:Hid (∀(W:World) (k:Nat),k<16→(binOp .quo 24 (.float .f64 (z1k k)) (.float .f64 4611686018427387904)).run Tryz.prog W= .ok (.float .f64 (z1k (k+1))) W):=Lib.hid (fun W k hk=>run_float_arith W .quo _ .f64 _ _ _ (z7e k hk));have h00:Value.float .f64 4607182418800017408=Value.float .f64 (z1k 0):=rfl;have H00:=Lib.hid h00;clear h00;go_enter Tryz.func231,Tryz.ntmps231;go_wp2_with fail
 go_step3
 go_wp2_with fail;refine (HI.out _).mono ?_;rintro e w1 ⟨b,rfl,rfl⟩
 cases b with
 | true=>
  go_wp2_with fail
  (try rw[Exit.noGoto_ret])
  go_ret;exact ⟨4,rfl,by omega,by omega,rfl⟩
 | false =>
  go_wp2_with fail
  go_step3
  go_wp2_with fail
  go_loopw [3,4] (fun a b W=> ∃k:Nat,k≤16∧a= .float .f64 (z1k k)∧b= .int .i64 (k:Int)∧W=w) (fun _ b _=>16-(intOf b).toNat)
  case atStart=>exact ⟨0,by omega,H00.out,rfl,rfl⟩
  case round=>
   obtain ⟨k,hk,rfl,rfl,rfl⟩:=hrel;by_cases hlt:k<16
   ·have hd:decide ((k:Int)<16)=true:=by simp;omega
    have hq:=HH.out wr k hlt;go_wp2_with fail
    ·rw[Exit.noGoto_ret]
     go_ret;exact ⟨k+1,by go_num,by omega,by omega,rfl⟩
    ·refine ⟨⟨k+1,by omega,rfl,by go_num,trivial⟩,?_⟩
     simp[intOf];omega
   ·have hd:decide ((k:Int)<16)=false:=by simp;omega
    go_wp2_with fail;rw[Exit.noGoto_ret];go_ret;exact ⟨k,rfl,by omega,by omega,rfl⟩
theorem y1b (w:World) (n p:Nat) (hn:n≤1000) (h1:1≤p) (h16:p≤16):Calls Tryz.prog 232 #[.int .i64 (n:Int),.int .i64 (p:Int)] w fun r w'=> ∃g:Nat,r= .returned (.int .i64 (g:Int))∧1≤g∧g≤n/20+1∧w=w':=by
 have a1:¬((n:Int)<0):=by omega
 have a2:¬((10000:Int)<(n:Int)):=by omega
 have a3:¬((p:Int)<1):=by omega
 have a4:¬((16:Int)<(p:Int)):=by omega
 obtain ⟨q,hq⟩: ∃q:Int,(n:Int)*(p:Int)=q:=⟨_,rfl⟩
 have q0:0≤q:=by rw[←hq];exact Int.mul_nonneg (by omega) (by omega)
 have q1:q≤16*(n:Int):=by
  have h:=Nat.mul_le_mul_left n h16;have e:(n:Int)*(p:Int)=((n*p:Nat):Int):=by push_cast;rfl
  rw[←hq,e];omega
 have e1:IntKind.i64.wrap q=q:=by rw[IntKind.wrap_i64];omega
 have e2:IntKind.i64.wrap (q*3)=q*3:=by rw[IntKind.wrap_i64];omega
 obtain ⟨z,hz⟩: ∃z:Int,(q*3).tdiv 2=z:=⟨_,rfl⟩
 have hz':=hz;rw[Int.tdiv_eq_ediv_of_nonneg (by omega)] at hz';have z0:0≤z∧z≤24*(n:Int):=by omega
 have e3:IntKind.i64.wrap z=z:=by rw[IntKind.wrap_i64];omega
 have e4:IntKind.i64.wrap (z+480)=z+480:=by rw[IntKind.wrap_i64];omega
 have e5:IntKind.i64.wrap (z+480-1)=z+480-1:=by rw[IntKind.wrap_i64];omega
 obtain ⟨y,hy⟩: ∃y:Int,(z+480-1).tdiv 480=y:=⟨_,rfl⟩
 have hy':=hy;rw[Int.tdiv_eq_ediv_of_nonneg (by omega)] at hy';have y0:0≤y∧y≤(n:Int)/20+1:=by omega
 have e6:IntKind.i64.wrap y=y:=by rw[IntKind.wrap_i64];omega
 clear hy' hz';go_enter Tryz.func232,Tryz.ntmps232;go_wp2_with fail
 all_goals
  go_ret
  first
   |exact ⟨1,rfl,by omega,by omega,rfl⟩
   |exact ⟨y.toNat,by show _=Ending.returned (.int .i64 (y.toNat:Int));rw[Int.toNat_of_nonneg y0.1];rfl,by omega,by omega,rfl⟩
def y4W (h:Int):Int:=bits .or .u64 (IntKind.u64.wrap (h*140737488355328)) (h/131072)
theorem y3u (w:World) (h:Int):Calls Tryz.prog 269 #[.int .u64 h,.int .i64 (-17)] w fun r w'=>r= .returned (.int .u64 (y4W h))∧w=w':=by
 have e0:IntKind.u64.wrap (-17)=18446744073709551599:=by kernel_rfl
 have e1:bits .and .u64 18446744073709551599 63=47:=by kernel_rfl
 have e2:IntKind.u64.wrap (64-47)=17:=by kernel_rfl
 go_enter Tryz.func269,Tryz.ntmps269;go_wp2_with fail;go_ret;exact ⟨rfl,rfl⟩
def y2I (h:Int):Int:=bits .or .u64 (y4W h) 1
theorem y1M (w:World) (h:Int):Calls Tryz.prog 257 #[.int .u64 h] w fun r w'=>r= .returned (.int .u64 (y2I h))∧w=w':=by
 have HR:=Lib.hid (fun W=>y3u W h);go_enter Tryz.func257,Tryz.ntmps257;go_wp2_with fail;refine (HR.out _).mono ?_;rintro e w1 ⟨rfl,rfl⟩;go_wp2_with fail;go_ret;exact ⟨rfl,rfl⟩
def q6I (h i b:Int):Int:=IntKind.u64.wrap (h+IntKind.u64.wrap (i*y2I h)) % b
theorem q9Q (h i b:Int) (hb:1≤b):0≤q6I h i b∧q6I h i b<b:=⟨Int.emod_nonneg _ (by omega),Int.emod_lt_of_pos _ (by omega)⟩
theorem z7Y (w:World) (h:Int) (i b:Nat) (hi:i≤1000000) (hb:1≤b) (hb9:b≤1000000):Calls Tryz.prog 227 #[.int .u64 h,.int .i64 (i:Int),.int .i64 (b:Int)] w fun r w'=>r= .returned (.int .i64 (q6I h i b))∧w=w':=by
 have HR:=Lib.hid (fun W=>y1M W h);have a1:¬((b:Int)<1):=by omega
 have a2:¬((i:Int)<0):=by omega
 have e1:IntKind.u64.wrap (i:Int)=(i:Int):=by rw[IntKind.wrap_u64];omega
 have e2:IntKind.u64.wrap (b:Int)=(b:Int):=by rw[IntKind.wrap_u64];omega
 obtain ⟨T,hT⟩: ∃T,IntKind.u64.wrap (h+IntKind.u64.wrap ((i:Int)*y2I h))=T:=⟨_,rfl⟩
 have hT0:0≤T∧T<18446744073709551616:=by rw[←hT,IntKind.wrap_u64];omega
 have e3:Int.tmod T (b:Int)=T % (b:Int):=Int.tmod_eq_emod_of_nonneg hT0.1;have hl:=q9Q h i b (by omega);have HP:Hid (q6I h i b=T % (b:Int)):=Lib.hid (by unfold q6I;rw[hT]);rw[HP.out] at hl;obtain ⟨z,hz⟩: ∃z,T % (b:Int)=z:=⟨_,rfl⟩
 rw[hz] at hl HP;have e4:IntKind.u64.wrap z=z:=by rw[IntKind.wrap_u64];omega
 have e5:IntKind.i64.wrap z=z:=by rw[IntKind.wrap_i64];omega
 have e6:((b:Int)==0)=false:=by simp;omega
 have e7:¬((b:Int)=0):=by omega
 rw[hz] at e3;clear hz;rw[HP.out];go_enter Tryz.func227,Tryz.ntmps227;go_wp2_with fail;refine (HR.out _).mono ?_;rintro e w1 ⟨rfl,rfl⟩;go_wp2_with fail;go_ret;exact ⟨rfl,rfl⟩
end Go.Proofs.YtjjfiejoeelndaaGreatDoor
